/- What the law First rests on, part 3 of 5. -/
import Derived.Test.YtkoclbjiaofkhaaFirstB
set_option linter.unusedVariables false
set_option linter.unusedSimpArgs false
set_option maxRecDepth 100000
namespace Go.Ab.Dj
open Go Go.Proofs Go.Ab Go.Ab.Fe Go.Ab.Vc
abbrev evA (a : Option Addr) : Value := .pointer a
abbrev evH (x : Option Addr × Int) : Value := .agg #[.pointer x.1, .int .i64 x.2]
/-- A vector behind a pointer. -/
def vecA (a : Option Addr) (l : List Int) : HProp := fun h => ∃ b ao cap, a = some ⟨b, 0, none⟩ ∧ Sat [cells b 0 [.slice ao l.length cap], own 1 encU ao cap l] h
/-- A vector or nil. -/
def optA (a : Option Addr) : Option (List Int) → HProp
  | none => fun _ => a = none
  | some l => vecA a l
def heldA (v : Option Addr × Int) (t : List Int × Int) : HProp := fun h => v.2 = t.2 ∧ vecA v.1 t.1 h
theorem sat_free {A : HProp} {Γ : List HProp} {h : Hp} (a : A (fun _ => none)) (s : Sat Γ h) : Sat (A :: Γ) h := ⟨fun _ => none, fun _ _ x => by simp at x, a, s.mono fun _ _ x => Hmin_some.2 ⟨rfl, x⟩⟩
section
variable {w0 : World} {ds : List Deferred} {n : Nat} {e : Env} {Γ Γ' : List HProp} {X : Act → World → Prop} {a : Option Addr} {l : List Int}
theorem s_vec (tk : Take Γ (vecA a l) Γ') (k : ∀ b ao cap, a = some ⟨b, 0, none⟩ → Le (St w0 ds n e (cells b 0 [.slice ao l.length cap] :: own 1 encU ao cap l :: Γ')) X) : Le (St w0 ds n e Γ) X := fun x w s => by
  obtain ⟨h1, l1, ⟨b, ao, cap, ha, a1⟩, s1⟩ := tk _ s.heap
  exact k b ao cap ha x w ⟨s.defers, s.size, s.env, Bun.unfold ⟨h1, l1, a1, s1⟩, s.amb⟩
theorem s_vecF (b : Nat) (ao : Option Addr) (cap : Nat) (l : List Int) (tk : Takes Γ [cells b 0 [.slice ao l.length cap], own 1 encU ao cap l] Γ') (k : Le (St w0 ds n e (vecA (some ⟨b, 0, none⟩) l :: Γ')) X) : Le (St w0 ds n e Γ) X := s_heap (fun h s => by
  obtain ⟨h1, l1, a1, s1⟩ := Bun.fold (tk h s)
  exact ⟨h1, l1, ⟨b, ao, cap, rfl, a1⟩, s1⟩) k
theorem s_opt {m : Option (List Int)} (tk : Take Γ (optA a m) Γ') (ha : a ≠ none) (k : ∀ b ao cap l, m = some l → a = some ⟨b, 0, none⟩ → Le (St w0 ds n e (cells b 0 [.slice ao l.length cap] :: own 1 encU ao cap l :: Γ')) X) : Le (St w0 ds n e Γ) X := fun x w s => by
  obtain ⟨h1, l1, a1, s1⟩ := tk _ s.heap
  cases m with
  | none => exact absurd a1 ha
  | some l =>
    obtain ⟨b, ao, cap, hb, a1⟩ := a1
    exact k b ao cap l rfl hb x w ⟨s.defers, s.size, s.env, Bun.unfold ⟨h1, l1, a1, s1⟩, s.amb⟩
theorem s_opt_nil {m : Option (List Int)} (tk : Take Γ (optA a m) Γ') (ha : a = none) (k : m = none → Le (St w0 ds n e (optA a m :: Γ')) X) : Le (St w0 ds n e Γ) X := fun x w s => by
  have s2 := tk _ s.heap
  obtain ⟨h1, l1, a1, s1⟩ := s2
  cases m with
  | none => exact k rfl x w ⟨s.defers, s.size, s.env, ⟨h1, l1, a1, s1⟩, s.amb⟩
  | some l => obtain ⟨b, ao, cap, hb, -⟩ := a1; rw [ha] at hb; cases hb
theorem s_optF {l : List Int} (tk : Take Γ (vecA a l) Γ') (k : Le (St w0 ds n e (optA a (some l) :: Γ')) X) : Le (St w0 ds n e Γ) X := s_heap tk k
variable {κ : Type} [DecidableEq κ] {F : κ → Option (Option Addr)} {T : κ → Option (List Int)} {S : List κ}
theorem s_rest_opt (k : κ) (tk : Take Γ (rest vecA F T S) Γ') (hk : k ∉ S) (k1 : (T k).isSome = (F k).isSome → Le (St w0 ds n e (optA ((F k).getD none) (T k) :: rest vecA F T (k :: S) :: Γ')) X) : Le (St w0 ds n e Γ) X := fun x w s => by
  cases hT : T k with
  | none =>
    obtain ⟨hv, h1, l1, a1, s1⟩ := rest_miss hk hT (tk _ s.heap)
    rw [hT] at k1
    exact k1 (by rw [hv]; rfl) x w ⟨s.defers, s.size, s.env, sat_free (show optA ((F k).getD none) none _ by rw [hv]; rfl) ⟨h1, l1, a1, s1⟩, s.amb⟩
  | some l =>
    obtain ⟨v, hv, s1⟩ := rest_take hk hT (tk _ s.heap)
    rw [hT] at k1
    exact k1 (by rw [hv]; rfl) x w ⟨s.defers, s.size, s.env, by rw [hv]; exact s1, s.amb⟩
theorem rest_back {k : κ} {h : Hp} (hk : k ∉ S) (hs : (T k).isSome = (F k).isSome) (s : Sat (optA ((F k).getD none) (T k) :: rest vecA F T (k :: S) :: Γ) h) : Sat (rest vecA F T S :: Γ) h := by
  cases hT : T k with
  | none =>
    have hF : F k = none := by rw [hT] at hs; simpa using hs.symm
    obtain ⟨h1, l1, -, s1⟩ := s
    exact rest_none hF (fun _ _ _ => rfl) hT (fun _ _ _ => rfl) (s1.mono (Hmin_le _ _))
  | some l =>
    rw [hT] at s hs
    cases hF : F k with
    | none => rw [hF] at hs; simp at hs
    | some v =>
      rw [hF] at s
      exact rest_put hk hF (fun _ _ _ => rfl) hT (fun _ _ _ => rfl) s
theorem s_opt_back (k : κ) (tk : Takes Γ [optA ((F k).getD none) (T k), rest vecA F T (k :: S)] Γ') (hk : k ∉ S) (hs : (T k).isSome = (F k).isSome) (k1 : Le (St w0 ds n e (rest vecA F T S :: Γ')) X) : Le (St w0 ds n e Γ) X := s_heap (fun h s => rest_back hk hs (tk h s)) k1
variable {G : κ → Option (Option Addr × Int)} {U : κ → Option (List Int × Int)}
theorem s_rest_optH (k : κ) (tk : Take Γ (rest heldA G U S) Γ') (hk : k ∉ S) (k1 : Le (St w0 ds n e (optA ((G k).getD (none, 0)).1 ((U k).map (·.1)) :: rest heldA G U (k :: S) :: Γ')) X) : Le (St w0 ds n e Γ) X := fun x w s => by
  cases hT : U k with
  | none =>
    obtain ⟨hv, s1⟩ := rest_miss hk hT (tk _ s.heap)
    rw [hT] at k1
    exact k1 x w ⟨s.defers, s.size, s.env, sat_free (show optA ((G k).getD (none, 0)).1 none _ by rw [hv]; rfl) s1, s.amb⟩
  | some p =>
    obtain ⟨v, hv, s1⟩ := rest_take hk hT (tk _ s.heap)
    rw [hT] at k1
    obtain ⟨h1, l1, ⟨a1, a2⟩, s2⟩ := s1
    exact k1 x w ⟨s.defers, s.size, s.env, ⟨h1, l1, by rw [hv]; exact a2, s2⟩, s.amb⟩
theorem s_held {v : Option Addr × Int} {t : List Int × Int} (tk : Take Γ (heldA v t) Γ') (k : v.2 = t.2 → Le (St w0 ds n e (vecA v.1 t.1 :: Γ')) X) : Le (St w0 ds n e Γ) X := fun x w s => by
  obtain ⟨h1, l1, ⟨a1, a2⟩, s1⟩ := tk _ s.heap
  exact k a1 x w ⟨s.defers, s.size, s.env, ⟨h1, l1, a2, s1⟩, s.amb⟩
theorem s_heldF (v : Option Addr × Int) (t : List Int × Int) (tk : Take Γ (vecA v.1 t.1) Γ') (hv : v.2 = t.2) (k : Le (St w0 ds n e (heldA v t :: Γ')) X) : Le (St w0 ds n e Γ) X := s_heap (fun h s => by
  obtain ⟨h1, l1, a2, s1⟩ := tk h s
  exact ⟨h1, l1, ⟨hv, a2⟩, s1⟩) k
end
/-- What the threads know: the checker, the threads' vectors, the locks', the volatiles', the rounds' and how many have not left them. -/
structure VS where
  ck : CS
  th : Int → Option (List Int)
  lk : Int → Option (List Int)
  vo : Int → Option (List Int)
  rd : Int × Int → Option (List Int × Int)
def mgF (m : Option (List Int)) (l : List Int) : List Int := match m with | some q => jn l q | none => l
def thF (x : VS) (t : Int) : List Int := (x.th t).getD []
def rdK (x : VS) (t o : Int) : Int × Int := (o, (stF x.ck t).2.2)
def rdF (x : VS) (r : Int × Int) : List Int × Int := (x.rd r).getD ([], 0)
def vnF (x : VS) (k t o : Int) : VS :=
  if k = 5 then ⟨nxF x.ck k t o, upd x.th t (some (mgF (x.lk o) (thF x t))), x.lk, x.vo, x.rd⟩
  else if k = 3 then ⟨nxF x.ck k t o, upd x.th t (some (mgF (x.vo o) (thF x t))), x.lk, x.vo, x.rd⟩
  else if k = 8 then ⟨nxF x.ck k t o, upd x.th t (some (mgF (x.th o) (thF x t))), x.lk, x.vo, x.rd⟩
  else if k = 10 then ⟨nxF x.ck k t o, upd x.th t (some (jn (thF x t) (rdF x (rdK x t o)).1)), x.lk, x.vo, upd x.rd (rdK x t o) (if (rdF x (rdK x t o)).2 - 1 ≤ 0 then none else some ((rdF x (rdK x t o)).1, (rdF x (rdK x t o)).2 - 1))⟩
  else if k = 6 then ⟨nxF x.ck k t o, upd x.th t (some (icL (thF x t) t.toNat)), upd x.lk o (some (thF x t)), x.vo, x.rd⟩
  else if k = 4 then ⟨nxF x.ck k t o, upd x.th t (some (icL (thF x t) t.toNat)), x.lk, upd x.vo o (some (mgF (x.vo o) (thF x t))), x.rd⟩
  else if k = 9 then ⟨nxF x.ck k t o, upd x.th t (some (icL (thF x t) t.toNat)), x.lk, x.vo, upd x.rd (o, (opF x.ck o).1) (some (mgF ((x.rd (o, (opF x.ck o).1)).map (·.1)) (thF x t), x.ck.pa.getD o.toNat 0))⟩
  else if k = 7 then ⟨nxF x.ck k t o, upd (upd x.th o (some (stL (thF x t) o.toNat 1))) t (some (icL (thF x t) t.toNat)), x.lk, x.vo, x.rd⟩
  else ⟨nxF x.ck k t o, x.th, x.lk, x.vo, x.rd⟩
def relK (k : Int) : Prop := k = 6 ∨ k = 4 ∨ k = 7 ∨ k = 9
instance (k : Int) : Decidable (relK k) := by unfold relK; infer_instance
/-- May an event be next, by the clocks too? -/
def vcanF (x : VS) (k t o : Int) : Prop := canF x.ck k t o ∧ (relK k → (thF x t).getD t.toNat 0 < maxC)
instance (x : VS) (k t o : Int) : Decidable (vcanF x k t o) := by unfold vcanF; infer_instance
/-- How many threads wait in a round of a barrier. -/
def wtN (c : CS) (b r : Int) : Nat := c.T.countP (fun s => decide (s = (2, b, r)))
structure VInv (x : VS) : Prop where
  ck : CInv x.ck
  th : ∀ t, (x.th t).isSome = true ↔ (stF x.ck t).1 ≠ 0
  thc : ∀ t l, x.th t = some l → CV l
  lkc : ∀ t l, x.lk t = some l → CV l
  voc : ∀ t l, x.vo t = some l → CV l
  rdc : ∀ r p, x.rd r = some p → CV p.1
  rds : ∀ r p, x.rd r = some p → 0 ≤ p.2 ∧ p.2 ≤ 65535
  wt : ∀ b r, ((wtN x.ck b r : Nat) : Int) ≤ (rdF x (b, r)).2
  wo : ∀ b : Int, 0 ≤ b → b < x.ck.B.length → ((wtN x.ck b (opF x.ck b).1 : Nat) : Int) ≤ (opF x.ck b).2
def vsR (pa : Option Addr) (pc : Nat) (po : Option Addr) (poc b : Nat) (x : VS) : HProp := fun h => ∃ cb m1 m2 m3 m4 F1 F2 F3 F4, Sat [cells b 0 [.pointer (some ⟨cb, 0, none⟩), .slice po x.ck.pa.length poc, .map (some m1), .map (some m2), .map (some m3), .map (some m4)], ck pa pc cb x.ck,
  mapO ekZ evA m1 F1, rest vecA F1 x.th [], mapO ekZ evA m2 F2, rest vecA F2 x.lk [], mapO ekZ evA m3 F3, rest vecA F3 x.vo [], mapO ek2 evH m4 F4, rest heldA F4 x.rd []] h
section
variable {w0 : World} {ds : List Deferred} {n : Nat} {e : Env} {Γ : List HProp} {X : Act → World → Prop}
theorem vs_open {pa : Option Addr} {pc : Nat} {po : Option Addr} {poc b : Nat} {x : VS} (k : ∀ cb m1 m2 m3 m4 F1 F2 F3 F4, Le (St w0 ds n e (cells b 0 [.pointer (some ⟨cb, 0, none⟩), .slice po x.ck.pa.length poc, .map (some m1), .map (some m2), .map (some m3), .map (some m4)] :: ck pa pc cb x.ck ::
    mapO ekZ evA m1 F1 :: rest vecA F1 x.th [] :: mapO ekZ evA m2 F2 :: rest vecA F2 x.lk [] :: mapO ekZ evA m3 F3 :: rest vecA F3 x.vo [] :: mapO ek2 evH m4 F4 :: rest heldA F4 x.rd [] :: Γ)) X) : Le (St w0 ds n e (vsR pa pc po poc b x :: Γ)) X := fun a w s => by
  obtain ⟨h1, l1, ⟨cb, m1, m2, m3, m4, F1, F2, F3, F4, a1⟩, s1⟩ := s.heap
  exact k cb m1 m2 m3 m4 F1 F2 F3 F4 a w ⟨s.defers, s.size, s.env, Bun.unfold ⟨h1, l1, a1, s1⟩, s.amb⟩
theorem vs_fold {Γ' : List HProp} {b : Nat} (x : VS) {pa : Option Addr} {pc : Nat} {po : Option Addr} {poc pn cb m1 m2 m3 m4 : Nat} {F1 F2 F3 : Int → Option (Option Addr)} {F4 : Int × Int → Option (Option Addr × Int)} {c : CS} {T1 T2 T3 : Int → Option (List Int)} {T4 : Int × Int → Option (List Int × Int)}
    (tk : Takes Γ [cells b 0 [.pointer (some ⟨cb, 0, none⟩), .slice po pn poc, .map (some m1), .map (some m2), .map (some m3), .map (some m4)], ck pa pc cb c,
      mapO ekZ evA m1 F1, rest vecA F1 T1 [], mapO ekZ evA m2 F2, rest vecA F2 T2 [], mapO ekZ evA m3 F3, rest vecA F3 T3 [], mapO ek2 evH m4 F4, rest heldA F4 T4 []] Γ') (hx : x = ⟨c, T1, T2, T3, T4⟩) (h1 : pn = c.pa.length)
    (k : Le (St w0 ds n e (vsR pa pc po poc b x :: Γ')) X) : Le (St w0 ds n e Γ) X := s_heap (fun h s => by
  subst h1 hx
  obtain ⟨h1, l1, a1, s1⟩ := Bun.fold (tk h s)
  exact ⟨h1, l1, ⟨cb, m1, m2, m3, m4, F1, F2, F3, F4, a1⟩, s1⟩) k
end
theorem get_z (b : Nat) (l : List Int) (ao : Option Addr) (n cap : Nat) (hn : l.length = n) (t : Int) (h0 : 0 ≤ t) : Spec Try.prog 66 [.pointer (some ⟨b, 0, none⟩), .int .i64 t] [cells b 0 [.slice ao n cap], own 1 encU ao cap l] (fun (_ : Unit) => .int .u64 (l.getD t.toNat 0)) (fun _ => True) (fun _ => [cells b 0 [.slice ao n cap], own 1 encU ao cap l]) := by
  obtain ⟨i, rfl⟩ := Int.eq_ofNat_of_zero_le h0
  exact Vc.get_spec b l ao n cap hn i
theorem set_z (b : Nat) (l : List Int) (ao : Option Addr) (n cap : Nat) (hn : l.length = n) (hl : CV l) (t : Int) (h0 : 0 ≤ t) (hi : t < 65535) (v : Int) (hv0 : 0 ≤ v) (hv1 : v ≤ maxC) : Spec Try.prog 47 [.pointer (some ⟨b, 0, none⟩), .int .i64 t, .int .u64 v] [cells b 0 [.slice ao n cap], own 1 encU ao cap l] (fun (r : Option Addr × Nat) => .int .i64 0) (fun r => True) (fun r => [cells b 0 [.slice r.1 (stL l t.toNat v).length r.2], own 1 encU r.1 r.2 (stL l t.toNat v)]) := by
  obtain ⟨i, rfl⟩ := Int.eq_ofNat_of_zero_le h0
  exact Vc.set_spec b l ao n cap hn hl i (by omega) v hv0 hv1
theorem inc_z (b : Nat) (l : List Int) (ao : Option Addr) (n cap : Nat) (hn : l.length = n) (hl : CV l) (t : Int) (h0 : 0 ≤ t) (hi : t < 65535) (hlt : l.getD t.toNat 0 < maxC) : Spec Try.prog 70 [.pointer (some ⟨b, 0, none⟩), .int .i64 t] [cells b 0 [.slice ao n cap], own 1 encU ao cap l] (fun (r : Option Addr × Nat) => .tuple #[.int .u64 (l.getD t.toNat 0 + 1), .int .i64 0]) (fun r => True) (fun r => [cells b 0 [.slice r.1 (icL l t.toNat).length r.2], own 1 encU r.1 r.2 (icL l t.toNat)]) := by
  obtain ⟨i, rfl⟩ := Int.eq_ofNat_of_zero_le h0
  exact Vc.inc_spec b l ao n cap hn hl i (by omega) hlt
theorem merged_spec (ka : Option Addr) (km : Option (List Int)) (hkc : ∀ q, km = some q → CV q) (b : Nat) (l : List Int) (ao : Option Addr) (cap : Nat) (hl : CV l) : Spec Try.prog 67 [.pointer ka, .pointer (some ⟨b, 0, none⟩)] [optA ka km, cells b 0 [.slice ao l.length cap], own 1 encU ao cap l] (fun (r : Nat × Option Addr × Nat) => .pointer (some ⟨r.1, 0, none⟩)) (fun r => True) (fun r => [optA ka km, cells b 0 [.slice ao l.length cap], own 1 encU ao cap l, cells r.1 0 [.slice r.2.1 (mgF km l).length r.2.2], own 1 encU r.2.1 r.2.2 (mgF km l)]) := by
 refine spec_mk (n := 15) Try.func67 rfl rfl rfl ?_
 intro Γ w0
 simp only [argE, List.cons_append, List.nil_append, Nat.zero_add, Nat.reduceAdd]
 have hll := hl.len
 refine c_seq ?_
 refine c_plain (.q 0 (.done)) (by kernel_rfl) ?_
 refine q_assign rfl rfl rfl rfl ?_
 refine r_done ?_
 refine k_then_n ?_
 refine c_seq ?_
 refine c_plain (.q 0 ((.l 1 [] (.q 2 (.done))))) (by kernel_rfl) ?_
 refine q_move rfl rfl rfl rfl ?_
 have sp_1 := Vc.copy_spec b l ao l.length cap (by first | rfl | assumption | omega | (simp; done) | (simp; omega)) (by omega)
 refine l_call rfl rfl rfl rfl rfl rfl Try.call69 (sp_1) Ts ?_
 rintro ⟨mb, ma, mc⟩ -
 try simp only [List.cons_append, List.nil_append]
 refine ag_nil ?_
 refine q_assign rfl rfl rfl rfl ?_
 refine r_done ?_
 refine s_keep [0, 5] (e' := [(0, _), (5, _)]) rfl ?_
 refine k_then_n ?_
 refine c_seq ?_
 refine c_seq ?_
 refine c_plain (.q 0 (.q 1 (.done))) (by kernel_rfl) ?_
 refine q_move rfl rfl rfl rfl ?_
 refine q_ne_nil rfl rfl rfl rfl Try.underlying82 ?_
 refine r_done ?_
 refine k_then_n ?_
 refine c_cond rfl (fun hk => ?_) (fun hk => ?_)
 ·
  have hk2 : ka ≠ none := by intro h; rw [h] at hk; cases hk
  refine s_opt (a := ka) (m := km) Tk hk2 fun kb kao kcap kl hkm hka => ?_
  subst hkm
  subst hka
  try simp only [List.cons_append, List.nil_append]
  refine c_plain (.q 0 (.q 1 ((.l 2 [] ((.l 3 [] (.done))))))) (by kernel_rfl) ?_
  refine q_move rfl rfl rfl rfl ?_
  refine q_move rfl rfl rfl rfl ?_
  refine l_buildSlice rfl rfl rfl rfl (run_build1 (us := [_]) Try.underlying150 Try.sizeOf82 rfl Try.zeroValue82 rfl rfl rfl) ?_
  intro b12
  refine ag_nil ?_
  refine s_big_nil (f := kf) ?_
  refine s_heap (fun _ h => Bun.fold ((by (repeat ((with_reducible apply Z2); focus (first | (with_reducible (repeat (first | exact Z0 | apply Z1)); done) | (repeat (first | exact Z0 | apply Z1))))); exact Z3 : Takes _ [cells kb 0 [.slice kao kl.length kcap], own 1 encU kao kcap kl] _) _ h)) ?_
  refine s_big_push (f := kf) (L := []) (x := (kb, kao, kcap, kl)) Ts ?_
  simp only [List.nil_append]
  have sp_2 := Vc.join_spec mb l ma l.length mc (by first | rfl | assumption | omega | (simp; done) | (simp; omega)) hl [(kb, kao, kcap, kl)] [(kb, kao, kcap, kl)] (fun x hx => hx) (by intro x hx; simp at hx; subst hx; exact (hkc _ rfl)) (some ⟨b12, 0, none⟩) 1 1 (cells b12 0 [.pointer (some ⟨kb, 0, none⟩)]) (rds_some rdn_cells) rfl (by decide)
  refine l_call rfl rfl rfl rfl rfl rfl Try.call78 (sp_2) Ts ?_
  rintro ⟨ja, jc⟩ -
  try simp only [List.cons_append, List.nil_append]
  refine s_big_take (f := kf) (L := [(kb, kao, kcap, kl)]) (i := 0) (x := (kb, kao, kcap, kl)) Tk rfl ?_
  refine s_bun ?_
  try simp only [List.cons_append, List.nil_append, List.eraseIdx_cons_zero]
  rw [show jnA l [(kb, kao, kcap, kl)] = jn l kl from rfl]
  try simp only [List.cons_append, List.nil_append]
  refine ag_nil ?_
  refine r_done ?_
  refine s_keep [5] (e' := [(5, _)]) rfl ?_
  refine k_then_n ?_
  refine c_seq ?_
  refine c_plain (.q 0 (.q 1 (.done))) (by kernel_rfl) ?_
  refine q_move rfl rfl rfl rfl ?_
  refine q_assign rfl rfl rfl rfl ?_
  refine r_done ?_
  refine k_then_n ?_
  refine c_ret ?_
  refine s_vecF kb kao kcap kl Ts ?_
  refine s_optF Td ?_
  rw [show mgF (some kl) l = jn l kl from rfl]
  refine ret1 rfl rfl ((mb, ja, jc)) (by first | rfl | (first | rfl | (congr 1; done) | (congr 1 <;> first | rfl | omega | (simp; done) | (simp; omega)))) (by trivial) ?_
  exact Tf
 ·
  have hk2 : ka = none := by
    cases ka with
    | none => rfl
    | some _ => simp at hk
  refine s_opt_nil (a := ka) (m := km) Tk hk2 fun hkm => ?_
  refine c_skip ?_
  refine k_then_n ?_
  refine c_seq ?_
  refine c_plain (.q 0 (.q 1 (.done))) (by kernel_rfl) ?_
  refine q_move rfl rfl rfl rfl ?_
  refine q_assign rfl rfl rfl rfl ?_
  refine r_done ?_
  refine s_keep [4] (e' := [(4, _)]) rfl ?_
  refine k_then_n ?_
  refine c_ret ?_
  rw [show mgF km l = l from by rw [hkm]; rfl]
  refine ret1 rfl rfl ((mb, ma, mc)) (by first | rfl | (first | rfl | (congr 1; done) | (congr 1 <;> first | rfl | omega | (simp; done) | (simp; omega)))) (by trivial) ?_
  exact Tf
end Go.Ab.Dj
set_option linter.unusedVariables false
set_option linter.unusedSimpArgs false
set_option maxRecDepth 100000
namespace Go.Ab.Dj
open Go Go.Proofs Go.Ab Go.Ab.Fe Go.Ab.Vc
theorem th_some {x : VS} (hx : VInv x) {t : Int} (h : (stF x.ck t).1 ≠ 0) : ∃ l, x.th t = some l := Option.isSome_iff_exists.1 ((hx.th t).2 h)
theorem thF_eq {x : VS} {t : Int} {l : List Int} (h : x.th t = some l) : thF x t = l := by rw [thF, h]; rfl
theorem th_rng {x : VS} (hx : VInv x) {t : Int} (h : (stF x.ck t).1 ≠ 0) : 0 ≤ t ∧ t < 65535 := by
  obtain ⟨h0, h1, -⟩ := stF_nz h
  have h2 := hx.ck.tl
  have h3 := hx.ck.sh.th
  exact ⟨h0, by omega⟩
/-- A round that somebody waits in is kept. -/
theorem rd_some {x : VS} (hx : VInv x) {t o : Int} (h : (stF x.ck t).1 = 2) (ho : o = (stF x.ck t).2.1) : ∃ p, x.rd (o, (stF x.ck t).2.2) = some p ∧ 1 ≤ p.2 := by
  obtain ⟨h0, h1, h2⟩ := stF_nz (x := x.ck) (t := t) (by omega)
  have h3 : 0 < wtN x.ck o (stF x.ck t).2.2 := by
    unfold wtN
    rw [List.countP_pos_iff]
    exact ⟨stF x.ck t, List.mem_of_getElem? h2, decide_eq_true (by rw [ho, ← h])⟩
  have h4 := hx.wt o (stF x.ck t).2.2
  cases hr : x.rd (o, (stF x.ck t).2.2) with
  | none => rw [rdF, hr] at h4; simp at h4; omega
  | some p => rw [rdF, hr] at h4; exact ⟨p, rfl, by simp at h4; omega⟩
def dpF (x : VS) (t o : Int) : VS := ⟨x.ck, upd x.th t (some (jn (thF x t) (rdF x (o, (stF x.ck t).2.2)).1)), x.lk, x.vo, upd x.rd (o, (stF x.ck t).2.2) (if (rdF x (o, (stF x.ck t).2.2)).2 - 1 ≤ 0 then none else some ((rdF x (o, (stF x.ck t).2.2)).1, (rdF x (o, (stF x.ck t).2.2)).2 - 1))⟩
theorem clock_spec (b m1 : Nat) (v0 v1 v3 v4 v5 : Value) (F1 : Int → Option (Option Addr)) (tb : Nat) (ta : Option Addr) (tc : Nat) (l : List Int) (t : Int) (h0 : 0 ≤ t) (hF : F1 t = some (some ⟨tb, 0, none⟩)) : Spec Try.prog 48 [.pointer (some ⟨b, 0, none⟩), .int .i64 t] [cells b 0 [v0, v1, .map (some m1), v3, v4, v5], mapO ekZ evA m1 F1, cells tb 0 [.slice ta l.length tc], own 1 encU ta tc l] (fun (_ : Unit) => .int .u64 (l.getD t.toNat 0)) (fun _ => True) (fun _ => [cells b 0 [v0, v1, .map (some m1), v3, v4, v5], mapO ekZ evA m1 F1, cells tb 0 [.slice ta l.length tc], own 1 encU ta tc l]) := by
 refine spec_mk (n := 13) Try.func48 rfl rfl rfl ?_
 intro Γ w0
 simp only [argE, List.cons_append, List.nil_append, Nat.zero_add, Nat.reduceAdd]
 refine c_seq ?_
 refine c_plain (.q 0 (.done)) (by kernel_rfl) ?_
 refine q_assign rfl rfl rfl rfl ?_
 refine r_done ?_
 refine k_then_n ?_
 refine c_seq ?_
 refine c_plain (.q 0 (.q 1 (.q 2 (.q 3 (.q 4 (.q 5 (.q 6 ((.l 7 [] (.q 8 (.done))))))))))) (by kernel_rfl) ?_
 refine q_move rfl rfl rfl rfl ?_
 refine q_nil_p rfl rfl rfl rfl ?_
 refine q_field (k := 2) rfl rfl rfl rfl Try.underlying87 rfl Try.sizeOf84 rfl ?_
 refine q_load_c (j := 2) rfl rfl rfl rfl Try.isAgg84 Tk (by first | rfl | exact (Nat.add_zero _).symm) (by rfl) ?_
 refine q_move rfl rfl rfl rfl ?_
 refine q_lookup1 (ek := ekZ) (ev1 := evA) (F := F1) (m := m1) (k := t) none rfl rfl rfl rfl rfl Try.underlying84 (keyOK_int Try.underlying3) Try.zeroValue82 Tk ?_
 refine s_eq 10 rfl (v' := .pointer (some ⟨tb, 0, none⟩)) (by rw [hF]; rfl) ?_
 refine q_move rfl rfl rfl rfl ?_
 have sp_1 := get_z tb l ta l.length tc (by first | rfl | assumption | omega | (simp; done) | (simp; omega)) t (by omega)
 refine l_call rfl rfl rfl rfl rfl rfl Try.call66 (sp_1) Ts ?_
 rintro ⟨⟩ -
 try simp only [List.cons_append, List.nil_append]
 refine ag_nil ?_
 refine q_assign rfl rfl rfl rfl ?_
 refine r_done ?_
 refine s_keep [4] (e' := [(4, _)]) rfl ?_
 refine k_then_n ?_
 refine c_ret ?_
 refine ret1 rfl rfl (()) (by first | rfl | (first | rfl | (congr 1; done) | (congr 1 <;> first | rfl | omega | (simp; done) | (simp; omega)))) (by trivial) ?_
 exact Tf
theorem can_spec (pa : Option Addr) (pc : Nat) (po : Option Addr) (poc b : Nat) (x : VS) (hx : VInv x) (k t o : Int) : Spec Try.prog 44 [.pointer (some ⟨b, 0, none⟩), .agg #[.int .i64 k, .int .i64 t, .int .i64 o]] [vsR pa pc po poc b x] (fun (_ : Unit) => .bool (decide (vcanF x k t o))) (fun _ => True) (fun _ => [vsR pa pc po poc b x]) := by
 refine spec_mk (n := 24) Try.func44 rfl rfl rfl ?_
 intro Γ w0
 simp only [argE, List.cons_append, List.nil_append, Nat.zero_add, Nat.reduceAdd]
 refine c_seq ?_
 refine c_plain ((.l 0 [] (.q 1 (.done)))) (by kernel_rfl) ?_
 refine l_box rfl rfl rfl rfl (us := [_, _, _]) rfl ?_
 intro b3
 refine ag_nil ?_
 refine q_assign rfl rfl rfl rfl ?_
 refine r_done ?_
 refine k_then_n ?_
 refine c_seq ?_
 refine c_seq ?_
 refine s_take (A := vsR pa pc po poc b x) Tk ?_
 refine vs_open fun cb m1 m2 m3 m4 F1 F2 F3 F4 => ?_
 refine c_draw rfl (.q 0 (.q 1 (.q 2 (.q 3 (.q 4 ((.l 5 [] (.q 6 (.done))))))))) (by kernel_rfl) ?_
 refine q_move rfl rfl rfl rfl ?_
 refine q_nil_p rfl rfl rfl rfl ?_
 refine q_field (k := 0) rfl rfl rfl rfl Try.underlying87 rfl Try.sizeOf83 rfl ?_
 refine q_load_c (j := 0) rfl rfl rfl rfl Try.isAgg83 Tk (by first | rfl | exact (Nat.add_zero _).symm) (by rfl) ?_
 refine q_loadN_c rfl rfl rfl rfl Try.isAgg40 Try.sizeOf40 Tk 0 (us := [_, _, _]) (by first | rfl | exact (Nat.add_zero _).symm) rfl rfl ?_
 have sp_1 := Fe.can_spec pa pc cb x.ck hx.ck k t o
 refine l_call rfl rfl rfl rfl rfl rfl Try.call60 (sp_1) Ts ?_
 rintro ⟨⟩ -
 try simp only [List.cons_append, List.nil_append]
 refine ag_nil ?_
 refine q_not rfl rfl rfl rfl ?_
 refine r_done ?_
 refine s_keep [0, 3, 11] (e' := [(0, _), (3, _), (11, _)]) rfl ?_
 refine k_then_n ?_
 refine c_cond_np rfl (fun hcn => ?_) (fun hcn => ?_)
 ·
  have hnv : ¬ vcanF x k t o := fun h => hcn h.1
  refine c_seq ?_
  refine c_plain (.q 0 (.done)) (by kernel_rfl) ?_
  refine q_assign rfl rfl rfl rfl ?_
  refine r_done ?_
  refine k_then_n ?_
  refine c_ret ?_
  refine k_then_ret ?_
  refine vs_fold (b := b) x (pa := pa) (pc := pc) (po := po) (poc := poc) (cb := cb) (m1 := m1) (m2 := m2) (m3 := m3) (m4 := m4) Ts (by rfl) (by rfl) ?_
  refine ret1 rfl rfl (()) (by rw [decide_eq_false hnv]) (by trivial) ?_
  exact Tf
 ·
  have hc : canF x.ck k t o := hcn
  obtain ⟨l, hth⟩ := th_some hx (can_th hc)
  obtain ⟨h0, h1⟩ := th_rng hx (can_th hc)
  refine c_skip ?_
  refine k_then_n ?_
  refine c_seq ?_
  refine c_seq ?_
  refine c_plain (.q 0 (.q 1 (.done))) (by kernel_rfl) ?_
  refine q_field (k := 0) rfl rfl rfl rfl Try.underlying40 rfl Try.sizeOf38 rfl ?_
  refine q_load_c (j := 0) rfl rfl rfl rfl Try.isAgg38 Tk (by first | rfl | exact (Nat.add_zero _).symm) (by rfl) ?_
  refine r_done ?_
  refine k_then_n ?_
  refine c_block ?_
  refine c_seq ?_
  refine c_seq ?_
  refine c_plain (.q 0 (.q 1 (.done))) (by kernel_rfl) ?_
  refine q_int rfl rfl rfl rfl rfl (b_eql _ _ _ _) ?_
  refine q_assign rfl rfl rfl rfl ?_
  refine r_done ?_
  refine k_then_n ?_
  refine c_cond_p rfl (fun k6 => ?_) (fun k6 => ?_)
  ·
   refine s_eq 14 rfl (v' := .bool true) (by rw [decide_eq_true k6]) ?_
   refine c_skip ?_
   refine k_then_n ?_
   refine c_cond_t rfl ?_
   refine c_seq ?_
   have hrel : relK k := by unfold relK; omega
   refine s_rest_take (F := F1) (T := x.th) (S := []) t Tk (by simp) hth fun tv htF => ?_
   refine s_vec Tk fun tb ta tc hta => ?_
   subst hta
   refine c_plain (.q 0 (.q 1 (.q 2 ((.l 3 [] (.q 4 (.q 5 (.done)))))))) (by kernel_rfl) ?_
   refine q_move rfl rfl rfl rfl ?_
   refine q_field (k := 1) rfl rfl rfl rfl Try.underlying40 rfl Try.sizeOf3 rfl ?_
   refine q_load_c (j := 1) rfl rfl rfl rfl Try.isAgg3 Tk (by first | rfl | exact (Nat.add_zero _).symm) (by rfl) ?_
   have sp_2 := clock_spec b m1 (.pointer (some ⟨cb, 0, none⟩)) (.slice po x.ck.pa.length poc) (.map (some m2)) (.map (some m3)) (.map (some m4)) F1 tb (ta) (tc) l t (by omega) htF
   refine l_call rfl rfl rfl rfl rfl rfl Try.call48 (sp_2) Ts ?_
   rintro ⟨⟩ -
   try simp only [List.cons_append, List.nil_append]
   refine ag_nil ?_
   refine q_int rfl rfl rfl rfl rfl (b_lss _ _ _ _) ?_
   refine q_assign rfl rfl rfl rfl ?_
   refine r_done ?_
   refine s_keep [4] (e' := [(4, _)]) rfl ?_
   refine k_then_n ?_
   refine c_ret ?_
   refine k_blk_ret ?_
   refine k_then_ret ?_
   refine s_vecF tb ta tc l Ts ?_
   refine s_rest_put (F := F1) (T := x.th) (S := []) t F1 x.th Ts (by simp) htF (fun _ _ _ => rfl) hth (fun _ _ _ => rfl) ?_
   refine vs_fold (b := b) x (pa := pa) (pc := pc) (po := po) (poc := poc) (cb := cb) (m1 := m1) (m2 := m2) (m3 := m3) (m4 := m4) Ts (by rfl) (by rfl) ?_
   refine ret1 rfl rfl (()) (by congr 1; exact decide_eq_decide.2 (by unfold vcanF; rw [thF_eq hth]; exact ⟨fun h => ⟨hc, fun _ => h⟩, fun h => h.2 hrel⟩)) (by trivial) ?_
   exact Tf
  ·
   refine s_eq 14 rfl (v' := .bool false) (by rw [decide_eq_false k6]) ?_
   refine c_seq ?_
   refine c_plain (.q 0 (.q 1 (.done))) (by kernel_rfl) ?_
   refine q_int rfl rfl rfl rfl rfl (b_eql _ _ _ _) ?_
   refine q_assign rfl rfl rfl rfl ?_
   refine r_done ?_
   refine s_keep [0, 3, 13, 14] (e' := [(0, _), (3, _), (13, _), (14, _)]) rfl ?_
   refine k_then_n ?_
   refine c_cond_p rfl (fun k4 => ?_) (fun k4 => ?_)
   ·
    refine s_eq 14 rfl (v' := .bool true) (by rw [decide_eq_true k4]) ?_
    refine c_skip ?_
    refine k_then_n ?_
    refine c_cond_t rfl ?_
    refine c_seq ?_
    have hrel : relK k := by unfold relK; omega
    refine s_rest_take (F := F1) (T := x.th) (S := []) t Tk (by simp) hth fun tv htF => ?_
    refine s_vec Tk fun tb ta tc hta => ?_
    subst hta
    refine c_plain (.q 0 (.q 1 (.q 2 ((.l 3 [] (.q 4 (.q 5 (.done)))))))) (by kernel_rfl) ?_
    refine q_move rfl rfl rfl rfl ?_
    refine q_field (k := 1) rfl rfl rfl rfl Try.underlying40 rfl Try.sizeOf3 rfl ?_
    refine q_load_c (j := 1) rfl rfl rfl rfl Try.isAgg3 Tk (by first | rfl | exact (Nat.add_zero _).symm) (by rfl) ?_
    have sp_3 := clock_spec b m1 (.pointer (some ⟨cb, 0, none⟩)) (.slice po x.ck.pa.length poc) (.map (some m2)) (.map (some m3)) (.map (some m4)) F1 tb (ta) (tc) l t (by omega) htF
    refine l_call rfl rfl rfl rfl rfl rfl Try.call48 (sp_3) Ts ?_
    rintro ⟨⟩ -
    try simp only [List.cons_append, List.nil_append]
    refine ag_nil ?_
    refine q_int rfl rfl rfl rfl rfl (b_lss _ _ _ _) ?_
    refine q_assign rfl rfl rfl rfl ?_
    refine r_done ?_
    refine s_keep [4] (e' := [(4, _)]) rfl ?_
    refine k_then_n ?_
    refine c_ret ?_
    refine k_blk_ret ?_
    refine k_then_ret ?_
    refine s_vecF tb ta tc l Ts ?_
    refine s_rest_put (F := F1) (T := x.th) (S := []) t F1 x.th Ts (by simp) htF (fun _ _ _ => rfl) hth (fun _ _ _ => rfl) ?_
    refine vs_fold (b := b) x (pa := pa) (pc := pc) (po := po) (poc := poc) (cb := cb) (m1 := m1) (m2 := m2) (m3 := m3) (m4 := m4) Ts (by rfl) (by rfl) ?_
    refine ret1 rfl rfl (()) (by congr 1; exact decide_eq_decide.2 (by unfold vcanF; rw [thF_eq hth]; exact ⟨fun h => ⟨hc, fun _ => h⟩, fun h => h.2 hrel⟩)) (by trivial) ?_
    exact Tf
   ·
    refine s_eq 14 rfl (v' := .bool false) (by rw [decide_eq_false k4]) ?_
    refine c_seq ?_
    refine c_plain (.q 0 (.q 1 (.done))) (by kernel_rfl) ?_
    refine q_int rfl rfl rfl rfl rfl (b_eql _ _ _ _) ?_
    refine q_assign rfl rfl rfl rfl ?_
    refine r_done ?_
    refine k_then_n ?_
    refine c_cond_p rfl (fun k7 => ?_) (fun k7 => ?_)
    ·
     refine s_eq 14 rfl (v' := .bool true) (by rw [decide_eq_true k7]) ?_
     refine c_skip ?_
     refine k_then_n ?_
     refine c_cond_t rfl ?_
     refine c_seq ?_
     have hrel : relK k := by unfold relK; omega
     refine s_rest_take (F := F1) (T := x.th) (S := []) t Tk (by simp) hth fun tv htF => ?_
     refine s_vec Tk fun tb ta tc hta => ?_
     subst hta
     refine c_plain (.q 0 (.q 1 (.q 2 ((.l 3 [] (.q 4 (.q 5 (.done)))))))) (by kernel_rfl) ?_
     refine q_move rfl rfl rfl rfl ?_
     refine q_field (k := 1) rfl rfl rfl rfl Try.underlying40 rfl Try.sizeOf3 rfl ?_
     refine q_load_c (j := 1) rfl rfl rfl rfl Try.isAgg3 Tk (by first | rfl | exact (Nat.add_zero _).symm) (by rfl) ?_
     have sp_4 := clock_spec b m1 (.pointer (some ⟨cb, 0, none⟩)) (.slice po x.ck.pa.length poc) (.map (some m2)) (.map (some m3)) (.map (some m4)) F1 tb (ta) (tc) l t (by omega) htF
     refine l_call rfl rfl rfl rfl rfl rfl Try.call48 (sp_4) Ts ?_
     rintro ⟨⟩ -
     try simp only [List.cons_append, List.nil_append]
     refine ag_nil ?_
     refine q_int rfl rfl rfl rfl rfl (b_lss _ _ _ _) ?_
     refine q_assign rfl rfl rfl rfl ?_
     refine r_done ?_
     refine s_keep [4] (e' := [(4, _)]) rfl ?_
     refine k_then_n ?_
     refine c_ret ?_
     refine k_blk_ret ?_
     refine k_then_ret ?_
     refine s_vecF tb ta tc l Ts ?_
     refine s_rest_put (F := F1) (T := x.th) (S := []) t F1 x.th Ts (by simp) htF (fun _ _ _ => rfl) hth (fun _ _ _ => rfl) ?_
     refine vs_fold (b := b) x (pa := pa) (pc := pc) (po := po) (poc := poc) (cb := cb) (m1 := m1) (m2 := m2) (m3 := m3) (m4 := m4) Ts (by rfl) (by rfl) ?_
     refine ret1 rfl rfl (()) (by congr 1; exact decide_eq_decide.2 (by unfold vcanF; rw [thF_eq hth]; exact ⟨fun h => ⟨hc, fun _ => h⟩, fun h => h.2 hrel⟩)) (by trivial) ?_
     exact Tf
    ·
     refine s_eq 14 rfl (v' := .bool false) (by rw [decide_eq_false k7]) ?_
     refine c_plain (.q 0 (.q 1 (.done))) (by kernel_rfl) ?_
     refine q_int rfl rfl rfl rfl rfl (b_eql _ _ _ _) ?_
     refine q_assign rfl rfl rfl rfl ?_
     refine r_done ?_
     refine k_then_n ?_
     refine c_cond_p rfl (fun k9 => ?_) (fun k9 => ?_)
     ·
      refine s_eq 14 rfl (v' := .bool true) (by rw [decide_eq_true k9]) ?_
      refine c_seq ?_
      have hrel : relK k := by unfold relK; omega
      refine s_rest_take (F := F1) (T := x.th) (S := []) t Tk (by simp) hth fun tv htF => ?_
      refine s_vec Tk fun tb ta tc hta => ?_
      subst hta
      refine c_plain (.q 0 (.q 1 (.q 2 ((.l 3 [] (.q 4 (.q 5 (.done)))))))) (by kernel_rfl) ?_
      refine q_move rfl rfl rfl rfl ?_
      refine q_field (k := 1) rfl rfl rfl rfl Try.underlying40 rfl Try.sizeOf3 rfl ?_
      refine q_load_c (j := 1) rfl rfl rfl rfl Try.isAgg3 Tk (by first | rfl | exact (Nat.add_zero _).symm) (by rfl) ?_
      have sp_5 := clock_spec b m1 (.pointer (some ⟨cb, 0, none⟩)) (.slice po x.ck.pa.length poc) (.map (some m2)) (.map (some m3)) (.map (some m4)) F1 tb (ta) (tc) l t (by omega) htF
      refine l_call rfl rfl rfl rfl rfl rfl Try.call48 (sp_5) Ts ?_
      rintro ⟨⟩ -
      try simp only [List.cons_append, List.nil_append]
      refine ag_nil ?_
      refine q_int rfl rfl rfl rfl rfl (b_lss _ _ _ _) ?_
      refine q_assign rfl rfl rfl rfl ?_
      refine r_done ?_
      refine s_keep [4] (e' := [(4, _)]) rfl ?_
      refine k_then_n ?_
      refine c_ret ?_
      refine k_blk_ret ?_
      refine k_then_ret ?_
      refine s_vecF tb ta tc l Ts ?_
      refine s_rest_put (F := F1) (T := x.th) (S := []) t F1 x.th Ts (by simp) htF (fun _ _ _ => rfl) hth (fun _ _ _ => rfl) ?_
      refine vs_fold (b := b) x (pa := pa) (pc := pc) (po := po) (poc := poc) (cb := cb) (m1 := m1) (m2 := m2) (m3 := m3) (m4 := m4) Ts (by rfl) (by rfl) ?_
      refine ret1 rfl rfl (()) (by congr 1; exact decide_eq_decide.2 (by unfold vcanF; rw [thF_eq hth]; exact ⟨fun h => ⟨hc, fun _ => h⟩, fun h => h.2 hrel⟩)) (by trivial) ?_
      exact Tf
     ·
      refine s_eq 14 rfl (v' := .bool false) (by rw [decide_eq_false k9]) ?_
      refine c_skip ?_
      refine k_blk_n ?_
      refine k_then_n ?_
      refine c_seq ?_
      refine c_plain (.q 0 (.done)) (by kernel_rfl) ?_
      refine q_assign rfl rfl rfl rfl ?_
      refine r_done ?_
      refine s_keep [4] (e' := [(4, _)]) rfl ?_
      refine k_then_n ?_
      refine c_ret ?_
      refine vs_fold (b := b) x (pa := pa) (pc := pc) (po := po) (poc := poc) (cb := cb) (m1 := m1) (m2 := m2) (m3 := m3) (m4 := m4) Ts (by rfl) (by rfl) ?_
      refine ret1 rfl rfl (()) (by have hv : vcanF x k t o := ⟨hc, fun h => by unfold relK at h; omega⟩; rw [decide_eq_true hv]) (by trivial) ?_
      exact Tf
theorem depart_spec (pa : Option Addr) (pc : Nat) (po : Option Addr) (poc b : Nat) (x : VS) (hx : VInv x) (k t o : Int) (h2 : (stF x.ck t).1 = 2) (ho : o = (stF x.ck t).2.1) : Spec Try.prog 68 [.pointer (some ⟨b, 0, none⟩), .agg #[.int .i64 k, .int .i64 t, .int .i64 o]] [vsR pa pc po poc b x] (fun (_ : Unit) => .tuple #[]) (fun _ => True) (fun _ => [vsR pa pc po poc b (dpF x t o)]) := by
 refine spec_mk (n := 58) Try.func68 rfl rfl rfl ?_
 intro Γ w0
 simp only [argE, List.cons_append, List.nil_append, Nat.zero_add, Nat.reduceAdd]
 refine c_seq ?_
 refine c_plain ((.l 0 [] (.done))) (by kernel_rfl) ?_
 refine l_box rfl rfl rfl rfl (us := [_, _, _]) rfl ?_
 intro b3
 refine ag_nil ?_
 refine r_done ?_
 refine k_then_n ?_
 refine c_seq ?_
 obtain ⟨l, hth⟩ := th_some hx (t := t) (by omega)
 obtain ⟨h0, h1⟩ := th_rng hx (t := t) (by omega)
 obtain ⟨p, hrd, hp1⟩ := rd_some hx h2 ho
 have hpc := hx.rdc _ _ hrd
 have hps := hx.rds _ _ hrd
 have hrf : rdF x (o, (stF x.ck t).2.2) = p := by rw [rdF, hrd]; rfl
 have htf := thF_eq hth
 have hlc := hx.thc _ _ hth
 refine s_take (A := vsR pa pc po poc b x) Tk ?_
 refine vs_open fun cb m1 m2 m3 m4 F1 F2 F3 F4 => ?_
 refine c_draw rfl (.q 0 (.q 1 (.q 2 (.q 3 (.q 4 (.q 5 ((.alt (.l 6 [] (.q 7 (.q 8 (.q 9 ((.l 10 [] ((.l 11 [] (.q 12 (.done)))))))))) (.l 10 [3, 5] ((.l 6 [] (.q 7 (.q 8 (.q 9 ((.l 11 [] (.q 12 (.done)))))))))))))))))) (by kernel_rfl) ?_
 refine q_move rfl rfl rfl rfl ?_
 refine q_nil_p rfl rfl rfl rfl ?_
 refine q_field (k := 0) rfl rfl rfl rfl Try.underlying87 rfl Try.sizeOf83 rfl ?_
 refine q_load_c (j := 0) rfl rfl rfl rfl Try.isAgg83 Tk (by first | rfl | exact (Nat.add_zero _).symm) (by rfl) ?_
 refine q_field (k := 1) rfl rfl rfl rfl Try.underlying40 rfl Try.sizeOf3 rfl ?_
 refine q_load_c (j := 1) rfl rfl rfl rfl Try.isAgg3 Tk (by first | rfl | exact (Nat.add_zero _).symm) (by rfl) ?_
 refine r_alt ?_ ?_
 ·
  have sp_1 := Fe.stand_spec pa pc cb x.ck t
  refine l_call rfl rfl rfl rfl rfl rfl Try.call79 (sp_1) Ts ?_
  rintro ⟨⟩ -
  try simp only [List.cons_append, List.nil_append]
  refine ag_nil ?_
  refine q_move rfl rfl rfl rfl ?_
  refine q_extract rfl rfl rfl rfl rfl ?_
  refine q_extract rfl rfl rfl rfl rfl ?_
  refine l_alloc rfl rfl rfl Try.zeroValue79 (zs := [.int .i64 0, .int .i64 0, .int .i64 0]) rfl ?_
  intro b4
  refine ag_nil ?_
  refine l_store (j := 0) rfl rfl rfl rfl Try.sizeOf79 (us := [_, _, _]) rfl rfl rfl Tk (by first | rfl | exact (Nat.add_zero _).symm) (by first | decide | (simp; done) | omega) ?_
  simp only [setL, List.set]
  refine ag_nil ?_
  refine q_assign rfl rfl rfl rfl ?_
  refine r_done ?_
  refine s_keep [0, 3, 4] (e' := [(0, _), (3, _), (4, _)]) rfl ?_
  refine k_then_n ?_
  refine c_seq ?_
  refine c_plain (.q 0 (.q 1 (.q 2 (.q 3 (.q 4 ((.l 5 [] ((.l 6 [] (.done)))))))))) (by kernel_rfl) ?_
  refine q_field (k := 2) rfl rfl rfl rfl Try.underlying40 rfl Try.sizeOf3 rfl ?_
  refine q_load_c (j := 2) rfl rfl rfl rfl Try.isAgg3 Tk (by first | rfl | exact (Nat.add_zero _).symm) (by rfl) ?_
  refine q_field (k := 2) rfl rfl rfl rfl Try.underlying79 rfl Try.sizeOf3 rfl ?_
  refine q_load_c (j := 2) rfl rfl rfl rfl Try.isAgg3 Tk (by first | rfl | exact (Nat.add_zero _).symm) (by rfl) ?_
  refine q_build rfl rfl rfl rfl (vs := [_, _]) (run_buildS Try.underlying138 Try.zeroValue138 (ps := [(0, 1), (1, 1)]) ⟨rfl, Try.sizeOf3, rfl, Try.sizeOf3, trivial⟩ rfl) ?_
  refine l_alloc rfl rfl rfl Try.zeroValue138 (zs := [.int .i64 0, .int .i64 0]) rfl ?_
  intro b6
  refine ag_nil ?_
  refine l_store (j := 0) rfl rfl rfl rfl Try.sizeOf138 (us := [_, _]) rfl rfl rfl Tk (by first | rfl | exact (Nat.add_zero _).symm) (by first | decide | (simp; done) | omega) ?_
  simp only [setL, List.set]
  refine ag_nil ?_
  refine r_done ?_
  refine s_keep [0, 3, 6] (e' := [(0, _), (3, _), (6, _)]) rfl ?_
  refine k_then_n ?_
  refine c_seq ?_
  refine s_rest_take (F := F4) (T := x.rd) (S := []) (o, (stF x.ck t).2.2) Tk (by simp) hrd fun rv hrF => ?_
  refine s_held Tk fun hrs => ?_
  obtain ⟨rva, rvs⟩ := rv
  simp only at hrs
  subst hrs
  refine s_vec Tk fun rb ra rc hra => ?_
  simp only at hra
  subst hra
  refine c_draw rfl (.q 0 (.q 1 (.q 2 (.q 3 (.q 4 (.q 5 ((.l 6 [3, 4, 5] ((.l 7 [] (.done))))))))))) (by kernel_rfl) ?_
  refine q_move rfl rfl rfl rfl ?_
  refine q_nil_p rfl rfl rfl rfl ?_
  refine q_field (k := 5) rfl rfl rfl rfl Try.underlying87 rfl Try.sizeOf85 rfl ?_
  refine q_load_c (j := 5) rfl rfl rfl rfl Try.isAgg85 Tk (by first | rfl | exact (Nat.add_zero _).symm) (by rfl) ?_
  refine q_loadN_c rfl rfl rfl rfl Try.isAgg138 Try.sizeOf138 Tk 0 (us := [_, _]) (by first | rfl | exact (Nat.add_zero _).symm) rfl rfl ?_
  refine q_lookup1 (ek := ek2) (ev1 := evH) (F := F4) (m := m4) (k := (o, (stF x.ck t).2.2)) (none, 0) rfl rfl rfl rfl rfl Try.underlying85 (keyOK_pair Try.underlying138 rfl rfl rfl rfl Try.underlying3 Try.underlying3 Try.isAgg3 Try.isAgg3 (by kernel_rfl)) Try.zeroValue140 Tk ?_
  refine s_eq 28 rfl (v' := .agg #[.pointer (some ⟨rb, 0, none⟩), .int .i64 p.2]) (by rw [hrF]; rfl) ?_
  refine l_alloc rfl rfl rfl Try.zeroValue140 (zs := [.pointer none, .int .i64 0]) rfl ?_
  intro b7
  refine ag_load_c (q := 5) rfl rfl rfl Try.isAgg85 Tk (by first | rfl | exact (Nat.add_zero _).symm) (by rfl) ?_
  refine ag_loadN_c rfl rfl (us := [_, _]) rfl Try.isAgg138 Try.sizeOf138 Tk 0 (by first | rfl | exact (Nat.add_zero _).symm) rfl rfl ?_
  refine ag_lookup1 (ek := ek2) (ev1 := evH) (F := F4) (m := m4) (k := (o, (stF x.ck t).2.2)) (none, 0) rfl rfl (by first | rfl | (rw [hrF]; rfl)) rfl rfl Try.underlying85 (keyOK_pair Try.underlying138 rfl rfl rfl rfl Try.underlying3 Try.underlying3 Try.isAgg3 Try.isAgg3 (by kernel_rfl)) Try.zeroValue140 Tk ?_
  refine ag_nil ?_
  refine l_store (j := 0) rfl rfl rfl rfl Try.sizeOf140 (us := [_, _]) rfl rfl rfl Tk (by first | rfl | exact (Nat.add_zero _).symm) (by first | decide | (simp; done) | omega) ?_
  simp only [setL, List.set]
  refine ag_nil ?_
  refine r_done ?_
  refine s_keep [0, 3, 6, 7] (e' := [(0, _), (3, _), (6, _), (7, _)]) rfl ?_
  refine k_then_n ?_
  refine c_seq ?_
  refine s_rest_take (F := F1) (T := x.th) (S := []) t Tk (by simp) hth fun tv htF => ?_
  refine s_vec Tk fun tb ta tc hta => ?_
  subst hta
  refine c_draw rfl (.q 0 (.q 1 (.q 2 (.q 3 (.q 4 (.q 5 (.q 6 (.q 7 (.q 8 ((.l 9 [3, 5, 6] ((.l 10 [] (.done)))))))))))))) (by kernel_rfl) ?_
  refine q_move rfl rfl rfl rfl ?_
  refine q_nil_p rfl rfl rfl rfl ?_
  refine q_field (k := 2) rfl rfl rfl rfl Try.underlying87 rfl Try.sizeOf84 rfl ?_
  refine q_load_c (j := 2) rfl rfl rfl rfl Try.isAgg84 Tk (by first | rfl | exact (Nat.add_zero _).symm) (by rfl) ?_
  refine q_field (k := 1) rfl rfl rfl rfl Try.underlying40 rfl Try.sizeOf3 rfl ?_
  refine q_load_c (j := 1) rfl rfl rfl rfl Try.isAgg3 Tk (by first | rfl | exact (Nat.add_zero _).symm) (by rfl) ?_
  refine q_lookup1 (ek := ekZ) (ev1 := evA) (F := F1) (m := m1) (k := t) none rfl rfl rfl rfl rfl Try.underlying84 (keyOK_int Try.underlying3) Try.zeroValue82 Tk ?_
  refine s_eq 35 rfl (v' := .pointer (some ⟨tb, 0, none⟩)) (by rw [htF]; rfl) ?_
  refine q_field (k := 0) rfl rfl rfl rfl Try.underlying140 rfl Try.sizeOf82 rfl ?_
  refine q_load_c (j := 0) rfl rfl rfl rfl Try.isAgg82 Tk (by first | rfl | exact (Nat.add_zero _).symm) (by rfl) ?_
  refine l_buildSlice rfl rfl rfl rfl (run_build1 (us := [_]) Try.underlying150 Try.sizeOf82 rfl Try.zeroValue82 rfl rfl rfl) ?_
  intro b38
  refine ag_load_c (q := 2) rfl rfl rfl Try.isAgg84 Tk (by first | rfl | exact (Nat.add_zero _).symm) (by rfl) ?_
  refine ag_load_c (q := 1) rfl rfl rfl Try.isAgg3 Tk (by first | rfl | exact (Nat.add_zero _).symm) (by rfl) ?_
  refine ag_lookup1 (ek := ekZ) (ev1 := evA) (F := F1) (m := m1) (k := t) none rfl rfl (by first | rfl | (rw [htF]; rfl)) rfl rfl Try.underlying84 (keyOK_int Try.underlying3) Try.zeroValue82 Tk ?_
  refine ag_nil ?_
  refine s_big_nil (f := kf) ?_
  refine s_heap (fun _ h => Bun.fold ((by (repeat ((with_reducible apply Z2); focus (first | (with_reducible (repeat (first | exact Z0 | apply Z1)); done) | (repeat (first | exact Z0 | apply Z1))))); exact Z3 : Takes _ [cells rb 0 [.slice ra p.1.length rc], own 1 encU ra rc p.1] _) _ h)) ?_
  refine s_big_push (f := kf) (L := []) (x := (rb, ra, rc, p.1)) Ts ?_
  simp only [List.nil_append]
  have sp_2 := Vc.join_spec tb l ta l.length tc (by first | rfl | assumption | omega | (simp; done) | (simp; omega)) hlc [(rb, ra, rc, p.1)] [(rb, ra, rc, p.1)] (fun x hx => hx) (by intro x hx; simp at hx; subst hx; exact hpc) (some ⟨b38, 0, none⟩) 1 1 (cells b38 0 [.pointer (some ⟨rb, 0, none⟩)]) (rds_some rdn_cells) rfl (by decide)
  refine l_call rfl rfl rfl rfl rfl rfl Try.call78 (sp_2) Ts ?_
  rintro ⟨ja, jc⟩ -
  try simp only [List.cons_append, List.nil_append]
  refine s_big_take (f := kf) (L := [(rb, ra, rc, p.1)]) (i := 0) (x := (rb, ra, rc, p.1)) Tk rfl ?_
  refine s_bun ?_
  try simp only [List.cons_append, List.nil_append, List.eraseIdx_cons_zero]
  rw [show jnA l [(rb, ra, rc, p.1)] = jn l p.1 from rfl]
  try simp only [List.cons_append, List.nil_append]
  refine ag_nil ?_
  refine r_done ?_
  refine s_keep [0, 6, 7] (e' := [(0, _), (6, _), (7, _)]) rfl ?_
  refine k_then_n ?_
  refine c_seq ?_
  refine c_seq ?_
  refine c_plain (.q 0 (.q 1 (.q 2 (.q 3 ((.l 4 [] (.done))))))) (by kernel_rfl) ?_
  refine q_field (k := 1) rfl rfl rfl rfl Try.underlying140 rfl Try.sizeOf3 rfl ?_
  refine q_load_c (j := 1) rfl rfl rfl rfl Try.isAgg3 Tk (by first | rfl | exact (Nat.add_zero _).symm) (by rfl) ?_
  refine q_int rfl rfl rfl rfl rfl (b_sub' _ (by exact fits_i64 (by omega) (by omega))) ?_
  refine q_field (k := 1) rfl rfl rfl rfl Try.underlying140 rfl Try.sizeOf3 rfl ?_
  refine l_store (j := 1) rfl rfl rfl rfl Try.sizeOf3 (us := [_]) rfl rfl rfl Tk (by first | rfl | exact (Nat.add_zero _).symm) (by first | decide | (simp; done) | omega) ?_
  simp only [setL, List.set]
  refine ag_nil ?_
  refine r_done ?_
  refine s_keep [0, 6, 7] (e' := [(0, _), (6, _), (7, _)]) rfl ?_
  refine k_then_n ?_
  refine c_seq ?_
  refine c_plain (.q 0 (.q 1 (.q 2 (.done)))) (by kernel_rfl) ?_
  refine q_field (k := 1) rfl rfl rfl rfl Try.underlying140 rfl Try.sizeOf3 rfl ?_
  refine q_load_c (j := 1) rfl rfl rfl rfl Try.isAgg3 Tk (by first | rfl | exact (Nat.add_zero _).symm) (by rfl) ?_
  refine q_int rfl rfl rfl rfl rfl (b_leq _ _ _ _) ?_
  refine r_done ?_
  refine k_then_n ?_
  refine c_cond_p rfl (fun hz => ?_) (fun hz => ?_)
  ·
   refine c_seq ?_
   refine c_draw rfl (.q 0 (.q 1 (.q 2 (.q 3 (.q 4 ((.l 5 [] (.done)))))))) (by kernel_rfl) ?_
   refine q_move rfl rfl rfl rfl ?_
   refine q_nil_p rfl rfl rfl rfl ?_
   refine q_field (k := 5) rfl rfl rfl rfl Try.underlying87 rfl Try.sizeOf85 rfl ?_
   refine q_load_c (j := 5) rfl rfl rfl rfl Try.isAgg85 Tk (by first | rfl | exact (Nat.add_zero _).symm) (by rfl) ?_
   refine q_loadN_c rfl rfl rfl rfl Try.isAgg138 Try.sizeOf138 Tk 0 (us := [_, _]) (by first | rfl | exact (Nat.add_zero _).symm) rfl rfl ?_
   refine l_delete (ek := ek2) (ev1 := evH) (F := F4) (m := m4) (k := (o, (stF x.ck t).2.2)) rfl rfl rfl rfl Try.underlying85 (keyOK_pair Try.underlying138 rfl rfl rfl rfl Try.underlying3 Try.underlying3 Try.isAgg3 Try.isAgg3 (by kernel_rfl)) Tk ?_
   refine ag_nil ?_
   refine r_done ?_
   refine s_rest_none (F := F4) (T := x.rd) (S := []) (o, (stF x.ck t).2.2) (upd F4 (o, (stF x.ck t).2.2) none) (upd x.rd (o, (stF x.ck t).2.2) none) Tk upd_same (fun q h _ => upd_ne h) upd_same (fun q h _ => upd_ne h) ?_
   refine s_vecF tb ja jc (jn l p.1) Ts ?_
   refine s_rest_put (F := F1) (T := x.th) (S := []) t F1 (upd x.th t (some (jn l p.1))) Ts (by simp) htF (fun _ _ _ => rfl) upd_same (fun q h _ => upd_ne h) ?_
   refine s_keep [] (e' := []) rfl ?_
   refine k_then_n ?_
   refine c_ret ?_
   refine k_then_ret ?_
   refine vs_fold (b := b) (dpF x t o) (pa := pa) (pc := pc) (po := po) (poc := poc) (cb := cb) (m1 := m1) (m2 := m2) (m3 := m3) (m4 := m4) Ts (by rw [dpF, hrf, htf, if_pos hz]) (by rfl) ?_
   refine ret0 rfl (()) (by first | rfl | (first | rfl | (congr 1; done) | (congr 1 <;> first | rfl | omega | (simp; done) | (simp; omega)))) (by trivial) ?_
   exact Tf
  ·
   refine c_skip ?_
   refine k_then_n ?_
   refine c_draw rfl (.q 0 (.q 1 (.q 2 (.q 3 (.q 4 (.q 5 ((.l 6 [] (.done))))))))) (by kernel_rfl) ?_
   refine q_move rfl rfl rfl rfl ?_
   refine q_nil_p rfl rfl rfl rfl ?_
   refine q_field (k := 5) rfl rfl rfl rfl Try.underlying87 rfl Try.sizeOf85 rfl ?_
   refine q_load_c (j := 5) rfl rfl rfl rfl Try.isAgg85 Tk (by first | rfl | exact (Nat.add_zero _).symm) (by rfl) ?_
   refine q_loadN_c rfl rfl rfl rfl Try.isAgg138 Try.sizeOf138 Tk 0 (us := [_, _]) (by first | rfl | exact (Nat.add_zero _).symm) rfl rfl ?_
   refine q_loadN_c rfl rfl rfl rfl Try.isAgg140 Try.sizeOf140 Tk 0 (us := [_, _]) (by first | rfl | exact (Nat.add_zero _).symm) rfl rfl ?_
   refine l_mapUpd (ek := ek2) (ev1 := evH) (F := F4) (m := m4) (k := (o, (stF x.ck t).2.2)) (v := ((some ⟨rb, 0, none⟩ : Option Addr), p.2 - 1)) (by first | exact .inl rfl | exact .inr rfl) rfl rfl rfl rfl Try.underlying85 (keyOK_pair Try.underlying138 rfl rfl rfl rfl Try.underlying3 Try.underlying3 Try.isAgg3 Try.isAgg3 (by kernel_rfl)) Tk ?_
   refine ag_nil ?_
   refine r_done ?_
   refine s_keep [] (e' := []) rfl ?_
   refine ret_end ?_
   refine s_vecF rb ra rc p.1 Ts ?_
   refine s_heldF (some ⟨rb, 0, none⟩, p.2 - 1) (p.1, p.2 - 1) Td rfl ?_
   refine s_rest_put (F := F4) (T := x.rd) (S := []) (o, (stF x.ck t).2.2) (upd F4 (o, (stF x.ck t).2.2) (some (some ⟨rb, 0, none⟩, p.2 - 1))) (upd x.rd (o, (stF x.ck t).2.2) (some (p.1, p.2 - 1))) Ts (by simp) upd_same (fun q h _ => upd_ne h) upd_same (fun q h _ => upd_ne h) ?_
   refine s_vecF tb ja jc (jn l p.1) Ts ?_
   refine s_rest_put (F := F1) (T := x.th) (S := []) t F1 (upd x.th t (some (jn l p.1))) Ts (by simp) htF (fun _ _ _ => rfl) upd_same (fun q h _ => upd_ne h) ?_
   refine vs_fold (b := b) (dpF x t o) (pa := pa) (pc := pc) (po := po) (poc := poc) (cb := cb) (m1 := m1) (m2 := m2) (m3 := m3) (m4 := m4) Ts (by rw [dpF, hrf, htf, if_neg hz]) (by rfl) ?_
   refine ret0 rfl (()) (by first | rfl | (first | rfl | (congr 1; done) | (congr 1 <;> first | rfl | omega | (simp; done) | (simp; omega)))) (by trivial) ?_
   exact Tf
 refine l_alloc rfl rfl rfl Try.zeroValue79 (zs := [.int .i64 0, .int .i64 0, .int .i64 0]) rfl ?_
 intro b4
 refine ag_load_c (q := 0) rfl rfl rfl Try.isAgg83 Tk (by first | rfl | exact (Nat.add_zero _).symm) (by rfl) ?_
 refine ag_load_c (q := 1) rfl rfl rfl Try.isAgg3 Tk (by first | rfl | exact (Nat.add_zero _).symm) (by rfl) ?_
 refine ag_nil ?_
 have sp_3 := Fe.stand_spec pa pc cb x.ck t
 refine l_call rfl rfl rfl rfl rfl rfl Try.call79 (sp_3) Ts ?_
 rintro ⟨⟩ -
 try simp only [List.cons_append, List.nil_append]
 refine ag_nil ?_
 refine q_move rfl rfl rfl rfl ?_
 refine q_extract rfl rfl rfl rfl rfl ?_
 refine q_extract rfl rfl rfl rfl rfl ?_
 refine l_store (j := 0) rfl rfl rfl rfl Try.sizeOf79 (us := [_, _, _]) rfl rfl rfl Tk (by first | rfl | exact (Nat.add_zero _).symm) (by first | decide | (simp; done) | omega) ?_
 simp only [setL, List.set]
 refine ag_nil ?_
 refine q_assign rfl rfl rfl rfl ?_
 refine r_done ?_
 refine s_keep [0, 3, 4] (e' := [(0, _), (3, _), (4, _)]) rfl ?_
 refine k_then_n ?_
 refine c_seq ?_
 refine c_plain (.q 0 (.q 1 (.q 2 (.q 3 (.q 4 ((.l 5 [] ((.l 6 [] (.done)))))))))) (by kernel_rfl) ?_
 refine q_field (k := 2) rfl rfl rfl rfl Try.underlying40 rfl Try.sizeOf3 rfl ?_
 refine q_load_c (j := 2) rfl rfl rfl rfl Try.isAgg3 Tk (by first | rfl | exact (Nat.add_zero _).symm) (by rfl) ?_
 refine q_field (k := 2) rfl rfl rfl rfl Try.underlying79 rfl Try.sizeOf3 rfl ?_
 refine q_load_c (j := 2) rfl rfl rfl rfl Try.isAgg3 Tk (by first | rfl | exact (Nat.add_zero _).symm) (by rfl) ?_
 refine q_build rfl rfl rfl rfl (vs := [_, _]) (run_buildS Try.underlying138 Try.zeroValue138 (ps := [(0, 1), (1, 1)]) ⟨rfl, Try.sizeOf3, rfl, Try.sizeOf3, trivial⟩ rfl) ?_
 refine l_alloc rfl rfl rfl Try.zeroValue138 (zs := [.int .i64 0, .int .i64 0]) rfl ?_
 intro b6
 refine ag_nil ?_
 refine l_store (j := 0) rfl rfl rfl rfl Try.sizeOf138 (us := [_, _]) rfl rfl rfl Tk (by first | rfl | exact (Nat.add_zero _).symm) (by first | decide | (simp; done) | omega) ?_
 simp only [setL, List.set]
 refine ag_nil ?_
 refine r_done ?_
 refine s_keep [0, 3, 6] (e' := [(0, _), (3, _), (6, _)]) rfl ?_
 refine k_then_n ?_
 refine c_seq ?_
 refine s_rest_take (F := F4) (T := x.rd) (S := []) (o, (stF x.ck t).2.2) Tk (by simp) hrd fun rv hrF => ?_
 refine s_held Tk fun hrs => ?_
 obtain ⟨rva, rvs⟩ := rv
 simp only at hrs
 subst hrs
 refine s_vec Tk fun rb ra rc hra => ?_
 simp only at hra
 subst hra
 refine c_draw rfl (.q 0 (.q 1 (.q 2 (.q 3 (.q 4 (.q 5 ((.l 6 [3, 4, 5] ((.l 7 [] (.done))))))))))) (by kernel_rfl) ?_
 refine q_move rfl rfl rfl rfl ?_
 refine q_nil_p rfl rfl rfl rfl ?_
 refine q_field (k := 5) rfl rfl rfl rfl Try.underlying87 rfl Try.sizeOf85 rfl ?_
 refine q_load_c (j := 5) rfl rfl rfl rfl Try.isAgg85 Tk (by first | rfl | exact (Nat.add_zero _).symm) (by rfl) ?_
 refine q_loadN_c rfl rfl rfl rfl Try.isAgg138 Try.sizeOf138 Tk 0 (us := [_, _]) (by first | rfl | exact (Nat.add_zero _).symm) rfl rfl ?_
 refine q_lookup1 (ek := ek2) (ev1 := evH) (F := F4) (m := m4) (k := (o, (stF x.ck t).2.2)) (none, 0) rfl rfl rfl rfl rfl Try.underlying85 (keyOK_pair Try.underlying138 rfl rfl rfl rfl Try.underlying3 Try.underlying3 Try.isAgg3 Try.isAgg3 (by kernel_rfl)) Try.zeroValue140 Tk ?_
 refine s_eq 28 rfl (v' := .agg #[.pointer (some ⟨rb, 0, none⟩), .int .i64 p.2]) (by rw [hrF]; rfl) ?_
 refine l_alloc rfl rfl rfl Try.zeroValue140 (zs := [.pointer none, .int .i64 0]) rfl ?_
 intro b7
 refine ag_load_c (q := 5) rfl rfl rfl Try.isAgg85 Tk (by first | rfl | exact (Nat.add_zero _).symm) (by rfl) ?_
 refine ag_loadN_c rfl rfl (us := [_, _]) rfl Try.isAgg138 Try.sizeOf138 Tk 0 (by first | rfl | exact (Nat.add_zero _).symm) rfl rfl ?_
 refine ag_lookup1 (ek := ek2) (ev1 := evH) (F := F4) (m := m4) (k := (o, (stF x.ck t).2.2)) (none, 0) rfl rfl (by first | rfl | (rw [hrF]; rfl)) rfl rfl Try.underlying85 (keyOK_pair Try.underlying138 rfl rfl rfl rfl Try.underlying3 Try.underlying3 Try.isAgg3 Try.isAgg3 (by kernel_rfl)) Try.zeroValue140 Tk ?_
 refine ag_nil ?_
 refine l_store (j := 0) rfl rfl rfl rfl Try.sizeOf140 (us := [_, _]) rfl rfl rfl Tk (by first | rfl | exact (Nat.add_zero _).symm) (by first | decide | (simp; done) | omega) ?_
 simp only [setL, List.set]
 refine ag_nil ?_
 refine r_done ?_
 refine s_keep [0, 3, 6, 7] (e' := [(0, _), (3, _), (6, _), (7, _)]) rfl ?_
 refine k_then_n ?_
 refine c_seq ?_
 refine s_rest_take (F := F1) (T := x.th) (S := []) t Tk (by simp) hth fun tv htF => ?_
 refine s_vec Tk fun tb ta tc hta => ?_
 subst hta
 refine c_draw rfl (.q 0 (.q 1 (.q 2 (.q 3 (.q 4 (.q 5 (.q 6 (.q 7 (.q 8 ((.l 9 [3, 5, 6] ((.l 10 [] (.done)))))))))))))) (by kernel_rfl) ?_
 refine q_move rfl rfl rfl rfl ?_
 refine q_nil_p rfl rfl rfl rfl ?_
 refine q_field (k := 2) rfl rfl rfl rfl Try.underlying87 rfl Try.sizeOf84 rfl ?_
 refine q_load_c (j := 2) rfl rfl rfl rfl Try.isAgg84 Tk (by first | rfl | exact (Nat.add_zero _).symm) (by rfl) ?_
 refine q_field (k := 1) rfl rfl rfl rfl Try.underlying40 rfl Try.sizeOf3 rfl ?_
 refine q_load_c (j := 1) rfl rfl rfl rfl Try.isAgg3 Tk (by first | rfl | exact (Nat.add_zero _).symm) (by rfl) ?_
 refine q_lookup1 (ek := ekZ) (ev1 := evA) (F := F1) (m := m1) (k := t) none rfl rfl rfl rfl rfl Try.underlying84 (keyOK_int Try.underlying3) Try.zeroValue82 Tk ?_
 refine s_eq 35 rfl (v' := .pointer (some ⟨tb, 0, none⟩)) (by rw [htF]; rfl) ?_
 refine q_field (k := 0) rfl rfl rfl rfl Try.underlying140 rfl Try.sizeOf82 rfl ?_
 refine q_load_c (j := 0) rfl rfl rfl rfl Try.isAgg82 Tk (by first | rfl | exact (Nat.add_zero _).symm) (by rfl) ?_
 refine l_buildSlice rfl rfl rfl rfl (run_build1 (us := [_]) Try.underlying150 Try.sizeOf82 rfl Try.zeroValue82 rfl rfl rfl) ?_
 intro b38
 refine ag_load_c (q := 2) rfl rfl rfl Try.isAgg84 Tk (by first | rfl | exact (Nat.add_zero _).symm) (by rfl) ?_
 refine ag_load_c (q := 1) rfl rfl rfl Try.isAgg3 Tk (by first | rfl | exact (Nat.add_zero _).symm) (by rfl) ?_
 refine ag_lookup1 (ek := ekZ) (ev1 := evA) (F := F1) (m := m1) (k := t) none rfl rfl (by first | rfl | (rw [htF]; rfl)) rfl rfl Try.underlying84 (keyOK_int Try.underlying3) Try.zeroValue82 Tk ?_
 refine ag_nil ?_
 refine s_big_nil (f := kf) ?_
 refine s_heap (fun _ h => Bun.fold ((by (repeat ((with_reducible apply Z2); focus (first | (with_reducible (repeat (first | exact Z0 | apply Z1)); done) | (repeat (first | exact Z0 | apply Z1))))); exact Z3 : Takes _ [cells rb 0 [.slice ra p.1.length rc], own 1 encU ra rc p.1] _) _ h)) ?_
 refine s_big_push (f := kf) (L := []) (x := (rb, ra, rc, p.1)) Ts ?_
 simp only [List.nil_append]
 have sp_4 := Vc.join_spec tb l ta l.length tc (by first | rfl | assumption | omega | (simp; done) | (simp; omega)) hlc [(rb, ra, rc, p.1)] [(rb, ra, rc, p.1)] (fun x hx => hx) (by intro x hx; simp at hx; subst hx; exact hpc) (some ⟨b38, 0, none⟩) 1 1 (cells b38 0 [.pointer (some ⟨rb, 0, none⟩)]) (rds_some rdn_cells) rfl (by decide)
 refine l_call rfl rfl rfl rfl rfl rfl Try.call78 (sp_4) Ts ?_
 rintro ⟨ja, jc⟩ -
 try simp only [List.cons_append, List.nil_append]
 refine s_big_take (f := kf) (L := [(rb, ra, rc, p.1)]) (i := 0) (x := (rb, ra, rc, p.1)) Tk rfl ?_
 refine s_bun ?_
 try simp only [List.cons_append, List.nil_append, List.eraseIdx_cons_zero]
 rw [show jnA l [(rb, ra, rc, p.1)] = jn l p.1 from rfl]
 try simp only [List.cons_append, List.nil_append]
 refine ag_nil ?_
 refine r_done ?_
 refine s_keep [0, 6, 7] (e' := [(0, _), (6, _), (7, _)]) rfl ?_
 refine k_then_n ?_
 refine c_seq ?_
 refine c_seq ?_
 refine c_plain (.q 0 (.q 1 (.q 2 (.q 3 ((.l 4 [] (.done))))))) (by kernel_rfl) ?_
 refine q_field (k := 1) rfl rfl rfl rfl Try.underlying140 rfl Try.sizeOf3 rfl ?_
 refine q_load_c (j := 1) rfl rfl rfl rfl Try.isAgg3 Tk (by first | rfl | exact (Nat.add_zero _).symm) (by rfl) ?_
 refine q_int rfl rfl rfl rfl rfl (b_sub' _ (by exact fits_i64 (by omega) (by omega))) ?_
 refine q_field (k := 1) rfl rfl rfl rfl Try.underlying140 rfl Try.sizeOf3 rfl ?_
 refine l_store (j := 1) rfl rfl rfl rfl Try.sizeOf3 (us := [_]) rfl rfl rfl Tk (by first | rfl | exact (Nat.add_zero _).symm) (by first | decide | (simp; done) | omega) ?_
 simp only [setL, List.set]
 refine ag_nil ?_
 refine r_done ?_
 refine s_keep [0, 6, 7] (e' := [(0, _), (6, _), (7, _)]) rfl ?_
 refine k_then_n ?_
 refine c_seq ?_
 refine c_plain (.q 0 (.q 1 (.q 2 (.done)))) (by kernel_rfl) ?_
 refine q_field (k := 1) rfl rfl rfl rfl Try.underlying140 rfl Try.sizeOf3 rfl ?_
 refine q_load_c (j := 1) rfl rfl rfl rfl Try.isAgg3 Tk (by first | rfl | exact (Nat.add_zero _).symm) (by rfl) ?_
 refine q_int rfl rfl rfl rfl rfl (b_leq _ _ _ _) ?_
 refine r_done ?_
 refine k_then_n ?_
 refine c_cond_p rfl (fun hz => ?_) (fun hz => ?_)
 ·
  refine c_seq ?_
  refine c_draw rfl (.q 0 (.q 1 (.q 2 (.q 3 (.q 4 ((.l 5 [] (.done)))))))) (by kernel_rfl) ?_
  refine q_move rfl rfl rfl rfl ?_
  refine q_nil_p rfl rfl rfl rfl ?_
  refine q_field (k := 5) rfl rfl rfl rfl Try.underlying87 rfl Try.sizeOf85 rfl ?_
  refine q_load_c (j := 5) rfl rfl rfl rfl Try.isAgg85 Tk (by first | rfl | exact (Nat.add_zero _).symm) (by rfl) ?_
  refine q_loadN_c rfl rfl rfl rfl Try.isAgg138 Try.sizeOf138 Tk 0 (us := [_, _]) (by first | rfl | exact (Nat.add_zero _).symm) rfl rfl ?_
  refine l_delete (ek := ek2) (ev1 := evH) (F := F4) (m := m4) (k := (o, (stF x.ck t).2.2)) rfl rfl rfl rfl Try.underlying85 (keyOK_pair Try.underlying138 rfl rfl rfl rfl Try.underlying3 Try.underlying3 Try.isAgg3 Try.isAgg3 (by kernel_rfl)) Tk ?_
  refine ag_nil ?_
  refine r_done ?_
  refine s_rest_none (F := F4) (T := x.rd) (S := []) (o, (stF x.ck t).2.2) (upd F4 (o, (stF x.ck t).2.2) none) (upd x.rd (o, (stF x.ck t).2.2) none) Tk upd_same (fun q h _ => upd_ne h) upd_same (fun q h _ => upd_ne h) ?_
  refine s_vecF tb ja jc (jn l p.1) Ts ?_
  refine s_rest_put (F := F1) (T := x.th) (S := []) t F1 (upd x.th t (some (jn l p.1))) Ts (by simp) htF (fun _ _ _ => rfl) upd_same (fun q h _ => upd_ne h) ?_
  refine s_keep [] (e' := []) rfl ?_
  refine k_then_n ?_
  refine c_ret ?_
  refine k_then_ret ?_
  refine vs_fold (b := b) (dpF x t o) (pa := pa) (pc := pc) (po := po) (poc := poc) (cb := cb) (m1 := m1) (m2 := m2) (m3 := m3) (m4 := m4) Ts (by rw [dpF, hrf, htf, if_pos hz]) (by rfl) ?_
  refine ret0 rfl (()) (by first | rfl | (first | rfl | (congr 1; done) | (congr 1 <;> first | rfl | omega | (simp; done) | (simp; omega)))) (by trivial) ?_
  exact Tf
 ·
  refine c_skip ?_
  refine k_then_n ?_
  refine c_draw rfl (.q 0 (.q 1 (.q 2 (.q 3 (.q 4 (.q 5 ((.l 6 [] (.done))))))))) (by kernel_rfl) ?_
  refine q_move rfl rfl rfl rfl ?_
  refine q_nil_p rfl rfl rfl rfl ?_
  refine q_field (k := 5) rfl rfl rfl rfl Try.underlying87 rfl Try.sizeOf85 rfl ?_
  refine q_load_c (j := 5) rfl rfl rfl rfl Try.isAgg85 Tk (by first | rfl | exact (Nat.add_zero _).symm) (by rfl) ?_
  refine q_loadN_c rfl rfl rfl rfl Try.isAgg138 Try.sizeOf138 Tk 0 (us := [_, _]) (by first | rfl | exact (Nat.add_zero _).symm) rfl rfl ?_
  refine q_loadN_c rfl rfl rfl rfl Try.isAgg140 Try.sizeOf140 Tk 0 (us := [_, _]) (by first | rfl | exact (Nat.add_zero _).symm) rfl rfl ?_
  refine l_mapUpd (ek := ek2) (ev1 := evH) (F := F4) (m := m4) (k := (o, (stF x.ck t).2.2)) (v := ((some ⟨rb, 0, none⟩ : Option Addr), p.2 - 1)) (by first | exact .inl rfl | exact .inr rfl) rfl rfl rfl rfl Try.underlying85 (keyOK_pair Try.underlying138 rfl rfl rfl rfl Try.underlying3 Try.underlying3 Try.isAgg3 Try.isAgg3 (by kernel_rfl)) Tk ?_
  refine ag_nil ?_
  refine r_done ?_
  refine s_keep [] (e' := []) rfl ?_
  refine ret_end ?_
  refine s_vecF rb ra rc p.1 Ts ?_
  refine s_heldF (some ⟨rb, 0, none⟩, p.2 - 1) (p.1, p.2 - 1) Td rfl ?_
  refine s_rest_put (F := F4) (T := x.rd) (S := []) (o, (stF x.ck t).2.2) (upd F4 (o, (stF x.ck t).2.2) (some (some ⟨rb, 0, none⟩, p.2 - 1))) (upd x.rd (o, (stF x.ck t).2.2) (some (p.1, p.2 - 1))) Ts (by simp) upd_same (fun q h _ => upd_ne h) upd_same (fun q h _ => upd_ne h) ?_
  refine s_vecF tb ja jc (jn l p.1) Ts ?_
  refine s_rest_put (F := F1) (T := x.th) (S := []) t F1 (upd x.th t (some (jn l p.1))) Ts (by simp) htF (fun _ _ _ => rfl) upd_same (fun q h _ => upd_ne h) ?_
  refine vs_fold (b := b) (dpF x t o) (pa := pa) (pc := pc) (po := po) (poc := poc) (cb := cb) (m1 := m1) (m2 := m2) (m3 := m3) (m4 := m4) Ts (by rw [dpF, hrf, htf, if_neg hz]) (by rfl) ?_
  refine ret0 rfl (()) (by first | rfl | (first | rfl | (congr 1; done) | (congr 1 <;> first | rfl | omega | (simp; done) | (simp; omega)))) (by trivial) ?_
  exact Tf
end Go.Ab.Dj
set_option linter.unusedVariables false
set_option linter.unusedSimpArgs false
set_option maxRecDepth 100000
namespace Go.Ab.Dj
open Go Go.Proofs Go.Ab Go.Ab.Fe Go.Ab.Vc
theorem vn5 {x : VS} {k t o : Int} {l : List Int} (h : x.th t = some l) (hk : k = 5) : vnF x k t o = ⟨nxF x.ck k t o, upd x.th t (some (mgF (x.lk o) l)), x.lk, x.vo, x.rd⟩ := by rw [vnF, if_pos hk, thF_eq h]
theorem vn3 {x : VS} {k t o : Int} {l : List Int} (h : x.th t = some l) (hk : k = 3) : vnF x k t o = ⟨nxF x.ck k t o, upd x.th t (some (mgF (x.vo o) l)), x.lk, x.vo, x.rd⟩ := by rw [vnF, if_neg (by omega), if_pos hk, thF_eq h]
theorem vn8 {x : VS} {k t o : Int} {l : List Int} (h : x.th t = some l) (hk : k = 8) : vnF x k t o = ⟨nxF x.ck k t o, upd x.th t (some (mgF (x.th o) l)), x.lk, x.vo, x.rd⟩ := by rw [vnF, if_neg (by omega), if_neg (by omega), if_pos hk, thF_eq h]
theorem vn10 {x : VS} {k t o : Int} {l : List Int} (h : x.th t = some l) (hk : k = 10) : vnF x k t o = ⟨nxF x.ck k t o, (dpF x t o).th, (dpF x t o).lk, (dpF x t o).vo, (dpF x t o).rd⟩ := by rw [vnF, if_neg (by omega), if_neg (by omega), if_neg (by omega), if_pos hk]; rfl
theorem vn6 {x : VS} {k t o : Int} {l : List Int} (h : x.th t = some l) (hk : k = 6) : vnF x k t o = ⟨nxF x.ck k t o, upd x.th t (some (icL l t.toNat)), upd x.lk o (some l), x.vo, x.rd⟩ := by rw [vnF, if_neg (by omega), if_neg (by omega), if_neg (by omega), if_neg (by omega), if_pos hk, thF_eq h]
theorem vn4 {x : VS} {k t o : Int} {l : List Int} (h : x.th t = some l) (hk : k = 4) : vnF x k t o = ⟨nxF x.ck k t o, upd x.th t (some (icL l t.toNat)), x.lk, upd x.vo o (some (mgF (x.vo o) l)), x.rd⟩ := by rw [vnF, if_neg (by omega), if_neg (by omega), if_neg (by omega), if_neg (by omega), if_neg (by omega), if_pos hk, thF_eq h]
theorem vn9 {x : VS} {k t o : Int} {l : List Int} (h : x.th t = some l) (hk : k = 9) : vnF x k t o = ⟨nxF x.ck k t o, upd x.th t (some (icL l t.toNat)), x.lk, x.vo, upd x.rd (o, (opF x.ck o).1) (some (mgF ((x.rd (o, (opF x.ck o).1)).map (·.1)) l, x.ck.pa.getD o.toNat 0))⟩ := by rw [vnF, if_neg (by omega), if_neg (by omega), if_neg (by omega), if_neg (by omega), if_neg (by omega), if_neg (by omega), if_pos hk, thF_eq h]
theorem vn7 {x : VS} {k t o : Int} {l : List Int} (h : x.th t = some l) (hk : k = 7) : vnF x k t o = ⟨nxF x.ck k t o, upd (upd x.th o (some (stL l o.toNat 1))) t (some (icL l t.toNat)), x.lk, x.vo, x.rd⟩ := by rw [vnF, if_neg (by omega), if_neg (by omega), if_neg (by omega), if_neg (by omega), if_neg (by omega), if_neg (by omega), if_neg (by omega), if_pos hk, thF_eq h]
theorem vn0 {x : VS} {k t o : Int} (k5 : k ≠ 5) (k3 : k ≠ 3) (k8 : k ≠ 8) (k10 : k ≠ 10) (k6 : k ≠ 6) (k4 : k ≠ 4) (k9 : k ≠ 9) (k7 : k ≠ 7) : vnF x k t o = ⟨nxF x.ck k t o, x.th, x.lk, x.vo, x.rd⟩ := by simp [vnF, *]
theorem nx_pa (x : CS) (k t o : Int) : (nxF x k t o).pa = x.pa := by
  unfold nxF
  split
  · unfold nextF
    repeat (split; · rfl)
    rfl
  · rfl
theorem map_fst_cv {x : VS} (hx : VInv x) {r : Int × Int} {q : List Int} (h : (x.rd r).map (·.1) = some q) : CV q := by
  cases hr : x.rd r with
  | none => rw [hr] at h; cases h
  | some p => rw [hr] at h; cases h; exact hx.rdc _ _ hr
theorem join_ne {x : CS} {t : Int} {k : Int} (hc : canF x k t t) (hk : k = 8) : False := by
  rcases hc with ⟨h1, h2, -⟩ | ⟨h1, -, h2⟩
  · omega
  · unfold okK at h2
    rcases h2 with h | h | h | h | h | h | h | h <;> omega
theorem next_spec (pa : Option Addr) (pc : Nat) (po : Option Addr) (poc b : Nat) (x : VS) (hx : VInv x) (hn : x.ck.n ≤ 1000000000000000) (pl : List Int) (hpl : x.ck.pa = pl) (k t o : Int) (hvc : vcanF x k t o) : Spec Try.prog 49 [.pointer (some ⟨b, 0, none⟩), .agg #[.int .i64 k, .int .i64 t, .int .i64 o]] [vsR pa pc po poc b x, own 1 encZ pa pc pl, own 1 encZ po poc pl] (fun (_ : Unit) => .tuple #[]) (fun _ => True) (fun _ => [vsR pa pc po poc b (vnF x k t o), own 1 encZ pa pc pl, own 1 encZ po poc pl]) := by
 refine spec_mk (n := 178) Try.func49 rfl rfl rfl ?_
 intro Γ w0
 simp only [argE, List.cons_append, List.nil_append, Nat.zero_add, Nat.reduceAdd]
 refine c_seq ?_
 refine c_plain ((.l 0 [] (.done))) (by kernel_rfl) ?_
 refine l_box rfl rfl rfl rfl (us := [_, _, _]) rfl ?_
 intro b3
 refine ag_nil ?_
 refine r_done ?_
 refine k_then_n ?_
 refine c_seq ?_
 obtain ⟨hc, hlt⟩ := hvc
 obtain ⟨l, hth⟩ := th_some hx (can_th hc)
 obtain ⟨h0, h1⟩ := th_rng hx (can_th hc)
 rw [thF_eq hth] at hlt
 have hlc := hx.thc _ _ hth
 have hlen := hlc.len
 obtain ⟨o5, o7, o9, o10, o11⟩ := can_obj hx.ck hc
 have hsh := hx.ck.sh
 refine s_take (A := vsR pa pc po poc b x) Tk ?_
 refine vs_open fun cb m1 m2 m3 m4 F1 F2 F3 F4 => ?_
 refine s_rest_take (F := F1) (T := x.th) (S := []) t Tk (by simp) hth fun tv htF => ?_
 refine s_vec Tk fun tb ta tc hta => ?_
 subst hta
 refine c_draw rfl (.q 0 (.q 1 (.q 2 (.q 3 (.q 4 (.q 5 (.q 6 (.q 7 (.done))))))))) (by kernel_rfl) ?_
 refine q_move rfl rfl rfl rfl ?_
 refine q_nil_p rfl rfl rfl rfl ?_
 refine q_field (k := 2) rfl rfl rfl rfl Try.underlying87 rfl Try.sizeOf84 rfl ?_
 refine q_load_c (j := 2) rfl rfl rfl rfl Try.isAgg84 Tk (by first | rfl | exact (Nat.add_zero _).symm) (by rfl) ?_
 refine q_field (k := 1) rfl rfl rfl rfl Try.underlying40 rfl Try.sizeOf3 rfl ?_
 refine q_load_c (j := 1) rfl rfl rfl rfl Try.isAgg3 Tk (by first | rfl | exact (Nat.add_zero _).symm) (by rfl) ?_
 refine q_lookup1 (ek := ekZ) (ev1 := evA) (F := F1) (m := m1) (k := t) none rfl rfl rfl rfl rfl Try.underlying84 (keyOK_int Try.underlying3) Try.zeroValue82 Tk ?_
 refine s_eq 15 rfl (v' := .pointer (some ⟨tb, 0, none⟩)) (by rw [htF]; rfl) ?_
 refine q_assign rfl rfl rfl rfl ?_
 refine r_done ?_
 refine s_keep [0, 3, 4] (e' := [(0, _), (3, _), (4, _)]) rfl ?_
 refine k_then_n ?_
 refine c_seq ?_
 refine c_seq ?_
 refine c_plain (.q 0 (.q 1 (.done))) (by kernel_rfl) ?_
 refine q_field (k := 0) rfl rfl rfl rfl Try.underlying40 rfl Try.sizeOf38 rfl ?_
 refine q_load_c (j := 0) rfl rfl rfl rfl Try.isAgg38 Tk (by first | rfl | exact (Nat.add_zero _).symm) (by rfl) ?_
 refine r_done ?_
 refine k_then_n ?_
 refine c_block ?_
 refine c_seq ?_
 refine c_plain (.q 0 (.q 1 (.done))) (by kernel_rfl) ?_
 refine q_int rfl rfl rfl rfl rfl (b_eql _ _ _ _) ?_
 refine q_assign rfl rfl rfl rfl ?_
 refine r_done ?_
 refine k_then_n ?_
 refine c_cond_p rfl (fun k5 => ?_) (fun k5 => ?_)
 ·
  refine s_rest_opt (F := F2) (T := x.lk) (S := []) o Tk (by simp) fun hso => ?_
  refine c_draw rfl (.q 0 (.q 1 (.q 2 (.q 3 (.q 4 (.q 5 (.q 6 (.q 7 (.q 8 (.q 9 (.q 10 (.q 11 (.q 12 (.q 13 ((.l 14 [3, 5] ((.l 15 [] (.done))))))))))))))))))) (by kernel_rfl) ?_
  refine q_move rfl rfl rfl rfl ?_
  refine q_nil_p rfl rfl rfl rfl ?_
  refine q_field (k := 2) rfl rfl rfl rfl Try.underlying87 rfl Try.sizeOf84 rfl ?_
  refine q_load_c (j := 2) rfl rfl rfl rfl Try.isAgg84 Tk (by first | rfl | exact (Nat.add_zero _).symm) (by rfl) ?_
  refine q_field (k := 1) rfl rfl rfl rfl Try.underlying40 rfl Try.sizeOf3 rfl ?_
  refine q_load_c (j := 1) rfl rfl rfl rfl Try.isAgg3 Tk (by first | rfl | exact (Nat.add_zero _).symm) (by rfl) ?_
  refine q_move rfl rfl rfl rfl ?_
  refine q_nil_p rfl rfl rfl rfl ?_
  refine q_field (k := 3) rfl rfl rfl rfl Try.underlying87 rfl Try.sizeOf84 rfl ?_
  refine q_load_c (j := 3) rfl rfl rfl rfl Try.isAgg84 Tk (by first | rfl | exact (Nat.add_zero _).symm) (by rfl) ?_
  refine q_field (k := 2) rfl rfl rfl rfl Try.underlying40 rfl Try.sizeOf3 rfl ?_
  refine q_load_c (j := 2) rfl rfl rfl rfl Try.isAgg3 Tk (by first | rfl | exact (Nat.add_zero _).symm) (by rfl) ?_
  refine q_lookup1 (ek := ekZ) (ev1 := evA) (F := F2) (m := m2) (k := o) none rfl rfl rfl rfl rfl Try.underlying84 (keyOK_int Try.underlying3) Try.zeroValue82 Tk ?_
  refine q_move rfl rfl rfl rfl ?_
  have sp_1 := merged_spec ((F2 o).getD none) (x.lk o) (hx.lkc _) tb l ta tc hlc
  refine l_call rfl rfl rfl rfl rfl rfl Try.call67 (sp_1) Ts ?_
  rintro ⟨mb, ma, mc⟩ -
  try simp only [List.cons_append, List.nil_append]
  refine ag_load_c (q := 2) rfl rfl rfl Try.isAgg84 Tk (by first | rfl | exact (Nat.add_zero _).symm) (by rfl) ?_
  refine ag_load_c (q := 1) rfl rfl rfl Try.isAgg3 Tk (by first | rfl | exact (Nat.add_zero _).symm) (by rfl) ?_
  refine ag_nil ?_
  refine l_mapUpd (ek := ekZ) (ev1 := evA) (F := F1) (m := m1) (k := t) (v := (some ⟨mb, 0, none⟩ : Option Addr)) (by first | exact .inl rfl | exact .inr rfl) rfl rfl rfl rfl Try.underlying84 (keyOK_int Try.underlying3) Tk ?_
  refine ag_nil ?_
  refine r_done ?_
  refine s_opt_back (F := F2) (T := x.lk) (S := []) o Ts (by simp) hso ?_
  refine s_vecF mb ma mc (mgF (x.lk o) l) Ts ?_
  refine s_rest_put (F := F1) (T := x.th) (S := []) t (upd F1 t (some (some ⟨mb, 0, none⟩ : Option Addr))) (upd x.th t (some (mgF (x.lk o) l))) Ts (by simp) upd_same (fun q h _ => upd_ne h) upd_same (fun q h _ => upd_ne h) ?_
  refine s_keep [0, 3] (e' := [(0, _), (3, _)]) rfl ?_
  refine k_blk_n ?_
  refine k_then_n ?_
  refine c_draw rfl (.q 0 (.q 1 (.q 2 (.q 3 (.q 4 ((.l 5 [] (.done)))))))) (by kernel_rfl) ?_
  refine q_move rfl rfl rfl rfl ?_
  refine q_nil_p rfl rfl rfl rfl ?_
  refine q_field (k := 0) rfl rfl rfl rfl Try.underlying87 rfl Try.sizeOf83 rfl ?_
  refine q_load_c (j := 0) rfl rfl rfl rfl Try.isAgg83 Tk (by first | rfl | exact (Nat.add_zero _).symm) (by rfl) ?_
  refine q_loadN_c rfl rfl rfl rfl Try.isAgg40 Try.sizeOf40 Tk 0 (us := [_, _, _]) (by first | rfl | exact (Nat.add_zero _).symm) rfl rfl ?_
  have sp_2 := Fe.next_spec pa pc cb x.ck hx.ck (by first | exact hn | omega) pl (hpl) k t o
  refine l_call rfl rfl rfl rfl rfl rfl Try.call72 (sp_2) Ts ?_
  rintro ⟨⟩ -
  try simp only [List.cons_append, List.nil_append]
  refine ag_nil ?_
  refine r_done ?_
  refine s_keep [] (e' := []) rfl ?_
  refine ret_end ?_
  refine vs_fold (b := b) (vnF x k t o) (pa := pa) (pc := pc) (po := po) (poc := poc) (cb := cb) (m1 := m1) (m2 := m2) (m3 := m3) (m4 := m4) Ts (by exact vn5 hth k5) (by rw [nx_pa]) ?_
  refine ret0 rfl (()) (by first | rfl | (first | rfl | (congr 1; done) | (congr 1 <;> first | rfl | omega | (simp; done) | (simp; omega)))) (by trivial) ?_
  exact Tf
 ·
  refine c_seq ?_
  refine c_plain (.q 0 (.q 1 (.done))) (by kernel_rfl) ?_
  refine q_int rfl rfl rfl rfl rfl (b_eql _ _ _ _) ?_
  refine q_assign rfl rfl rfl rfl ?_
  refine r_done ?_
  refine s_keep [0, 3, 4, 17, 35] (e' := [(0, _), (3, _), (4, _), (17, _), (35, _)]) rfl ?_
  refine k_then_n ?_
  refine c_cond_p rfl (fun k3 => ?_) (fun k3 => ?_)
  ·
   refine s_rest_opt (F := F3) (T := x.vo) (S := []) o Tk (by simp) fun hso => ?_
   refine c_draw rfl (.q 0 (.q 1 (.q 2 (.q 3 (.q 4 (.q 5 (.q 6 (.q 7 (.q 8 (.q 9 (.q 10 (.q 11 (.q 12 (.q 13 ((.l 14 [3, 5] ((.l 15 [] (.done))))))))))))))))))) (by kernel_rfl) ?_
   refine q_move rfl rfl rfl rfl ?_
   refine q_nil_p rfl rfl rfl rfl ?_
   refine q_field (k := 2) rfl rfl rfl rfl Try.underlying87 rfl Try.sizeOf84 rfl ?_
   refine q_load_c (j := 2) rfl rfl rfl rfl Try.isAgg84 Tk (by first | rfl | exact (Nat.add_zero _).symm) (by rfl) ?_
   refine q_field (k := 1) rfl rfl rfl rfl Try.underlying40 rfl Try.sizeOf3 rfl ?_
   refine q_load_c (j := 1) rfl rfl rfl rfl Try.isAgg3 Tk (by first | rfl | exact (Nat.add_zero _).symm) (by rfl) ?_
   refine q_move rfl rfl rfl rfl ?_
   refine q_nil_p rfl rfl rfl rfl ?_
   refine q_field (k := 4) rfl rfl rfl rfl Try.underlying87 rfl Try.sizeOf84 rfl ?_
   refine q_load_c (j := 4) rfl rfl rfl rfl Try.isAgg84 Tk (by first | rfl | exact (Nat.add_zero _).symm) (by rfl) ?_
   refine q_field (k := 2) rfl rfl rfl rfl Try.underlying40 rfl Try.sizeOf3 rfl ?_
   refine q_load_c (j := 2) rfl rfl rfl rfl Try.isAgg3 Tk (by first | rfl | exact (Nat.add_zero _).symm) (by rfl) ?_
   refine q_lookup1 (ek := ekZ) (ev1 := evA) (F := F3) (m := m3) (k := o) none rfl rfl rfl rfl rfl Try.underlying84 (keyOK_int Try.underlying3) Try.zeroValue82 Tk ?_
   refine q_move rfl rfl rfl rfl ?_
   have sp_3 := merged_spec ((F3 o).getD none) (x.vo o) (hx.voc _) tb l ta tc hlc
   refine l_call rfl rfl rfl rfl rfl rfl Try.call67 (sp_3) Ts ?_
   rintro ⟨mb, ma, mc⟩ -
   try simp only [List.cons_append, List.nil_append]
   refine ag_load_c (q := 2) rfl rfl rfl Try.isAgg84 Tk (by first | rfl | exact (Nat.add_zero _).symm) (by rfl) ?_
   refine ag_load_c (q := 1) rfl rfl rfl Try.isAgg3 Tk (by first | rfl | exact (Nat.add_zero _).symm) (by rfl) ?_
   refine ag_nil ?_
   refine l_mapUpd (ek := ekZ) (ev1 := evA) (F := F1) (m := m1) (k := t) (v := (some ⟨mb, 0, none⟩ : Option Addr)) (by first | exact .inl rfl | exact .inr rfl) rfl rfl rfl rfl Try.underlying84 (keyOK_int Try.underlying3) Tk ?_
   refine ag_nil ?_
   refine r_done ?_
   refine s_opt_back (F := F3) (T := x.vo) (S := []) o Ts (by simp) hso ?_
   refine s_vecF mb ma mc (mgF (x.vo o) l) Ts ?_
   refine s_rest_put (F := F1) (T := x.th) (S := []) t (upd F1 t (some (some ⟨mb, 0, none⟩ : Option Addr))) (upd x.th t (some (mgF (x.vo o) l))) Ts (by simp) upd_same (fun q h _ => upd_ne h) upd_same (fun q h _ => upd_ne h) ?_
   refine s_keep [0, 3] (e' := [(0, _), (3, _)]) rfl ?_
   refine k_blk_n ?_
   refine k_then_n ?_
   refine c_draw rfl (.q 0 (.q 1 (.q 2 (.q 3 (.q 4 ((.l 5 [] (.done)))))))) (by kernel_rfl) ?_
   refine q_move rfl rfl rfl rfl ?_
   refine q_nil_p rfl rfl rfl rfl ?_
   refine q_field (k := 0) rfl rfl rfl rfl Try.underlying87 rfl Try.sizeOf83 rfl ?_
   refine q_load_c (j := 0) rfl rfl rfl rfl Try.isAgg83 Tk (by first | rfl | exact (Nat.add_zero _).symm) (by rfl) ?_
   refine q_loadN_c rfl rfl rfl rfl Try.isAgg40 Try.sizeOf40 Tk 0 (us := [_, _, _]) (by first | rfl | exact (Nat.add_zero _).symm) rfl rfl ?_
   have sp_4 := Fe.next_spec pa pc cb x.ck hx.ck (by first | exact hn | omega) pl (hpl) k t o
   refine l_call rfl rfl rfl rfl rfl rfl Try.call72 (sp_4) Ts ?_
   rintro ⟨⟩ -
   try simp only [List.cons_append, List.nil_append]
   refine ag_nil ?_
   refine r_done ?_
   refine s_keep [] (e' := []) rfl ?_
   refine ret_end ?_
   refine vs_fold (b := b) (vnF x k t o) (pa := pa) (pc := pc) (po := po) (poc := poc) (cb := cb) (m1 := m1) (m2 := m2) (m3 := m3) (m4 := m4) Ts (by exact vn3 hth k3) (by rw [nx_pa]) ?_
   refine ret0 rfl (()) (by first | rfl | (first | rfl | (congr 1; done) | (congr 1 <;> first | rfl | omega | (simp; done) | (simp; omega)))) (by trivial) ?_
   exact Tf
  ·
   refine c_seq ?_
   refine c_plain (.q 0 (.q 1 (.done))) (by kernel_rfl) ?_
   refine q_int rfl rfl rfl rfl rfl (b_eql _ _ _ _) ?_
   refine q_assign rfl rfl rfl rfl ?_
   refine r_done ?_
   refine k_then_n ?_
   refine c_cond_p rfl (fun k8 => ?_) (fun k8 => ?_)
   ·
    have hne : o ≠ t := by
      intro e; rw [e] at hc
      exact join_ne hc k8
    refine s_rest_opt (F := F1) (T := x.th) (S := [t]) o Tk (by simpa using hne) fun hso => ?_
    refine c_draw rfl (.q 0 (.q 1 (.q 2 (.q 3 (.q 4 (.q 5 (.q 6 (.q 7 (.q 8 (.q 9 (.q 10 (.q 11 (.q 12 (.q 13 ((.l 14 [3, 5] ((.l 15 [] (.done))))))))))))))))))) (by kernel_rfl) ?_
    refine q_move rfl rfl rfl rfl ?_
    refine q_nil_p rfl rfl rfl rfl ?_
    refine q_field (k := 2) rfl rfl rfl rfl Try.underlying87 rfl Try.sizeOf84 rfl ?_
    refine q_load_c (j := 2) rfl rfl rfl rfl Try.isAgg84 Tk (by first | rfl | exact (Nat.add_zero _).symm) (by rfl) ?_
    refine q_field (k := 1) rfl rfl rfl rfl Try.underlying40 rfl Try.sizeOf3 rfl ?_
    refine q_load_c (j := 1) rfl rfl rfl rfl Try.isAgg3 Tk (by first | rfl | exact (Nat.add_zero _).symm) (by rfl) ?_
    refine q_move rfl rfl rfl rfl ?_
    refine q_nil_p rfl rfl rfl rfl ?_
    refine q_field (k := 2) rfl rfl rfl rfl Try.underlying87 rfl Try.sizeOf84 rfl ?_
    refine q_load_c (j := 2) rfl rfl rfl rfl Try.isAgg84 Tk (by first | rfl | exact (Nat.add_zero _).symm) (by rfl) ?_
    refine q_field (k := 2) rfl rfl rfl rfl Try.underlying40 rfl Try.sizeOf3 rfl ?_
    refine q_load_c (j := 2) rfl rfl rfl rfl Try.isAgg3 Tk (by first | rfl | exact (Nat.add_zero _).symm) (by rfl) ?_
    refine q_lookup1 (ek := ekZ) (ev1 := evA) (F := F1) (m := m1) (k := o) none rfl rfl rfl rfl rfl Try.underlying84 (keyOK_int Try.underlying3) Try.zeroValue82 Tk ?_
    refine q_move rfl rfl rfl rfl ?_
    have sp_5 := merged_spec ((F1 o).getD none) (x.th o) (hx.thc _) tb l ta tc hlc
    refine l_call rfl rfl rfl rfl rfl rfl Try.call67 (sp_5) Ts ?_
    rintro ⟨mb, ma, mc⟩ -
    try simp only [List.cons_append, List.nil_append]
    refine ag_load_c (q := 2) rfl rfl rfl Try.isAgg84 Tk (by first | rfl | exact (Nat.add_zero _).symm) (by rfl) ?_
    refine ag_load_c (q := 1) rfl rfl rfl Try.isAgg3 Tk (by first | rfl | exact (Nat.add_zero _).symm) (by rfl) ?_
    refine ag_nil ?_
    refine l_mapUpd (ek := ekZ) (ev1 := evA) (F := F1) (m := m1) (k := t) (v := (some ⟨mb, 0, none⟩ : Option Addr)) (by first | exact .inl rfl | exact .inr rfl) rfl rfl rfl rfl Try.underlying84 (keyOK_int Try.underlying3) Tk ?_
    refine ag_nil ?_
    refine r_done ?_
    refine s_opt_back (F := F1) (T := x.th) (S := [t]) o Ts (by simpa using hne) hso ?_
    refine s_vecF mb ma mc (mgF (x.th o) l) Ts ?_
    refine s_rest_put (F := F1) (T := x.th) (S := []) t (upd F1 t (some (some ⟨mb, 0, none⟩ : Option Addr))) (upd x.th t (some (mgF (x.th o) l))) Ts (by simp) upd_same (fun q h _ => upd_ne h) upd_same (fun q h _ => upd_ne h) ?_
    refine s_keep [0, 3] (e' := [(0, _), (3, _)]) rfl ?_
    refine k_blk_n ?_
    refine k_then_n ?_
    refine c_draw rfl (.q 0 (.q 1 (.q 2 (.q 3 (.q 4 ((.l 5 [] (.done)))))))) (by kernel_rfl) ?_
    refine q_move rfl rfl rfl rfl ?_
    refine q_nil_p rfl rfl rfl rfl ?_
    refine q_field (k := 0) rfl rfl rfl rfl Try.underlying87 rfl Try.sizeOf83 rfl ?_
    refine q_load_c (j := 0) rfl rfl rfl rfl Try.isAgg83 Tk (by first | rfl | exact (Nat.add_zero _).symm) (by rfl) ?_
    refine q_loadN_c rfl rfl rfl rfl Try.isAgg40 Try.sizeOf40 Tk 0 (us := [_, _, _]) (by first | rfl | exact (Nat.add_zero _).symm) rfl rfl ?_
    have sp_6 := Fe.next_spec pa pc cb x.ck hx.ck (by first | exact hn | omega) pl (hpl) k t o
    refine l_call rfl rfl rfl rfl rfl rfl Try.call72 (sp_6) Ts ?_
    rintro ⟨⟩ -
    try simp only [List.cons_append, List.nil_append]
    refine ag_nil ?_
    refine r_done ?_
    refine s_keep [] (e' := []) rfl ?_
    refine ret_end ?_
    refine vs_fold (b := b) (vnF x k t o) (pa := pa) (pc := pc) (po := po) (poc := poc) (cb := cb) (m1 := m1) (m2 := m2) (m3 := m3) (m4 := m4) Ts (by exact vn8 hth k8) (by rw [nx_pa]) ?_
    refine ret0 rfl (()) (by first | rfl | (first | rfl | (congr 1; done) | (congr 1 <;> first | rfl | omega | (simp; done) | (simp; omega)))) (by trivial) ?_
    exact Tf
   ·
    refine c_seq ?_
    refine c_plain (.q 0 (.q 1 (.done))) (by kernel_rfl) ?_
    refine q_int rfl rfl rfl rfl rfl (b_eql _ _ _ _) ?_
    refine q_assign rfl rfl rfl rfl ?_
    refine r_done ?_
    refine s_keep [0, 3, 4, 17, 69] (e' := [(0, _), (3, _), (4, _), (17, _), (69, _)]) rfl ?_
    refine k_then_n ?_
    refine c_cond_p rfl (fun k10 => ?_) (fun k10 => ?_)
    ·
     refine s_vecF tb ta tc l Ts ?_
     refine s_rest_put (F := F1) (T := x.th) (S := []) t F1 x.th Ts (by simp) htF (fun _ _ _ => rfl) hth (fun _ _ _ => rfl) ?_
     refine vs_fold (b := b) x (pa := pa) (pc := pc) (po := po) (poc := poc) (cb := cb) (m1 := m1) (m2 := m2) (m3 := m3) (m4 := m4) Ts (by rfl) (by rfl) ?_
     refine c_plain (.q 0 (.q 1 ((.l 2 [] (.done))))) (by kernel_rfl) ?_
     refine q_move rfl rfl rfl rfl ?_
     refine q_loadN_c rfl rfl rfl rfl Try.isAgg40 Try.sizeOf40 Tk 0 (us := [_, _, _]) (by first | rfl | exact (Nat.add_zero _).symm) rfl rfl ?_
     have sp_7 := depart_spec pa pc po poc b x hx k t o (o10 k10).1 (o10 k10).2.2
     refine l_call rfl rfl rfl rfl rfl rfl Try.call68 (sp_7) Ts ?_
     rintro ⟨⟩ -
     try simp only [List.cons_append, List.nil_append]
     refine ag_nil ?_
     refine r_done ?_
     refine s_take (A := vsR pa pc po poc b (dpF x t o)) Tk ?_
     refine vs_open fun cbz m1z m2z m3z m4z F1z F2z F3z F4z => ?_
     try simp only [show (dpF x t o).ck = x.ck from rfl]
     refine s_keep [0, 3] (e' := [(0, _), (3, _)]) rfl ?_
     refine k_blk_n ?_
     refine k_then_n ?_
     refine c_draw rfl (.q 0 (.q 1 (.q 2 (.q 3 (.q 4 ((.l 5 [] (.done)))))))) (by kernel_rfl) ?_
     refine q_move rfl rfl rfl rfl ?_
     refine q_nil_p rfl rfl rfl rfl ?_
     refine q_field (k := 0) rfl rfl rfl rfl Try.underlying87 rfl Try.sizeOf83 rfl ?_
     refine q_load_c (j := 0) rfl rfl rfl rfl Try.isAgg83 Tk (by first | rfl | exact (Nat.add_zero _).symm) (by rfl) ?_
     refine q_loadN_c rfl rfl rfl rfl Try.isAgg40 Try.sizeOf40 Tk 0 (us := [_, _, _]) (by first | rfl | exact (Nat.add_zero _).symm) rfl rfl ?_
     have sp_8 := Fe.next_spec pa pc cbz x.ck hx.ck (by first | exact hn | omega) pl (hpl) k t o
     refine l_call rfl rfl rfl rfl rfl rfl Try.call72 (sp_8) Ts ?_
     rintro ⟨⟩ -
     try simp only [List.cons_append, List.nil_append]
     refine ag_nil ?_
     refine r_done ?_
     refine s_keep [] (e' := []) rfl ?_
     refine ret_end ?_
     refine vs_fold (b := b) (vnF x k t o) (pa := pa) (pc := pc) (po := po) (poc := poc) (cb := cbz) (m1 := m1z) (m2 := m2z) (m3 := m3z) (m4 := m4z) Ts (by exact vn10 hth k10) (by rw [nx_pa]) ?_
     refine ret0 rfl (()) (by first | rfl | (first | rfl | (congr 1; done) | (congr 1 <;> first | rfl | omega | (simp; done) | (simp; omega)))) (by trivial) ?_
     exact Tf
    ·
     refine c_seq ?_
     refine c_plain (.q 0 (.q 1 (.done))) (by kernel_rfl) ?_
     refine q_int rfl rfl rfl rfl rfl (b_eql _ _ _ _) ?_
     refine q_assign rfl rfl rfl rfl ?_
     refine r_done ?_
     refine k_then_n ?_
     refine c_cond_p rfl (fun k6 => ?_) (fun k6 => ?_)
     ·
      refine c_seq ?_
      refine s_rest_opt (F := F2) (T := x.lk) (S := []) o Tk (by simp) fun hso => ?_
      refine c_draw rfl (.q 0 (.q 1 (.q 2 (.q 3 (.q 4 (.q 5 (.q 6 ((.l 7 [3, 5] ((.l 8 [] (.done)))))))))))) (by kernel_rfl) ?_
      refine q_move rfl rfl rfl rfl ?_
      refine q_nil_p rfl rfl rfl rfl ?_
      refine q_field (k := 3) rfl rfl rfl rfl Try.underlying87 rfl Try.sizeOf84 rfl ?_
      refine q_load_c (j := 3) rfl rfl rfl rfl Try.isAgg84 Tk (by first | rfl | exact (Nat.add_zero _).symm) (by rfl) ?_
      refine q_field (k := 2) rfl rfl rfl rfl Try.underlying40 rfl Try.sizeOf3 rfl ?_
      refine q_load_c (j := 2) rfl rfl rfl rfl Try.isAgg3 Tk (by first | rfl | exact (Nat.add_zero _).symm) (by rfl) ?_
      refine q_move rfl rfl rfl rfl ?_
      have sp_9 := Vc.copy_spec tb l ta l.length tc (by rfl) (by omega)
      refine l_call rfl rfl rfl rfl rfl rfl Try.call69 (sp_9) Ts ?_
      rintro ⟨ub, ua, uc⟩ -
      try simp only [List.cons_append, List.nil_append]
      refine ag_load_c (q := 3) rfl rfl rfl Try.isAgg84 Tk (by first | rfl | exact (Nat.add_zero _).symm) (by rfl) ?_
      refine ag_load_c (q := 2) rfl rfl rfl Try.isAgg3 Tk (by first | rfl | exact (Nat.add_zero _).symm) (by rfl) ?_
      refine ag_nil ?_
      refine l_mapUpd (ek := ekZ) (ev1 := evA) (F := F2) (m := m2) (k := o) (v := (some ⟨ub, 0, none⟩ : Option Addr)) (by first | exact .inl rfl | exact .inr rfl) rfl rfl rfl rfl Try.underlying84 (keyOK_int Try.underlying3) Tk ?_
      refine ag_nil ?_
      refine r_done ?_
      refine s_vecF ub ua uc l Ts ?_
      refine s_rest_put (F := F2) (T := x.lk) (S := []) o (upd F2 o (some (some ⟨ub, 0, none⟩ : Option Addr))) (upd x.lk o (some l)) Ts (by simp) upd_same (fun q h _ => upd_ne h) upd_same (fun q h _ => upd_ne h) ?_
      refine s_keep [0, 3, 4] (e' := [(0, _), (3, _), (4, _)]) rfl ?_
      refine k_then_n ?_
      refine c_plain (.q 0 (.q 1 (.q 2 ((.l 3 [] (.done)))))) (by kernel_rfl) ?_
      refine q_move rfl rfl rfl rfl ?_
      refine q_field (k := 1) rfl rfl rfl rfl Try.underlying40 rfl Try.sizeOf3 rfl ?_
      refine q_load_c (j := 1) rfl rfl rfl rfl Try.isAgg3 Tk (by first | rfl | exact (Nat.add_zero _).symm) (by rfl) ?_
      have sp_10 := inc_z tb l ta l.length tc (by first | rfl | assumption | omega | (simp; done) | (simp; omega)) hlc t (by omega) (by omega) (by exact hlt (by unfold relK; omega))
      refine l_call rfl rfl rfl rfl rfl rfl Try.call70 (sp_10) Ts ?_
      rintro ⟨ia, ic⟩ -
      try simp only [List.cons_append, List.nil_append]
      refine ag_nil ?_
      refine r_done ?_
      refine s_vecF tb ia ic (icL l t.toNat) Ts ?_
      refine s_rest_put (F := F1) (T := x.th) (S := []) t F1 (upd x.th t (some (icL l t.toNat))) Ts (by simp) htF (fun _ _ _ => rfl) upd_same (fun q h _ => upd_ne h) ?_
      refine s_keep [0, 3] (e' := [(0, _), (3, _)]) rfl ?_
      refine k_blk_n ?_
      refine k_then_n ?_
      refine c_draw rfl (.q 0 (.q 1 (.q 2 (.q 3 (.q 4 ((.l 5 [] (.done)))))))) (by kernel_rfl) ?_
      refine q_move rfl rfl rfl rfl ?_
      refine q_nil_p rfl rfl rfl rfl ?_
      refine q_field (k := 0) rfl rfl rfl rfl Try.underlying87 rfl Try.sizeOf83 rfl ?_
      refine q_load_c (j := 0) rfl rfl rfl rfl Try.isAgg83 Tk (by first | rfl | exact (Nat.add_zero _).symm) (by rfl) ?_
      refine q_loadN_c rfl rfl rfl rfl Try.isAgg40 Try.sizeOf40 Tk 0 (us := [_, _, _]) (by first | rfl | exact (Nat.add_zero _).symm) rfl rfl ?_
      have sp_11 := Fe.next_spec pa pc cb x.ck hx.ck (by first | exact hn | omega) pl (hpl) k t o
      refine l_call rfl rfl rfl rfl rfl rfl Try.call72 (sp_11) Ts ?_
      rintro ⟨⟩ -
      try simp only [List.cons_append, List.nil_append]
      refine ag_nil ?_
      refine r_done ?_
      refine s_keep [] (e' := []) rfl ?_
      refine ret_end ?_
      refine vs_fold (b := b) (vnF x k t o) (pa := pa) (pc := pc) (po := po) (poc := poc) (cb := cb) (m1 := m1) (m2 := m2) (m3 := m3) (m4 := m4) Ts (by exact vn6 hth k6) (by rw [nx_pa]) ?_
      refine ret0 rfl (()) (by first | rfl | (first | rfl | (congr 1; done) | (congr 1 <;> first | rfl | omega | (simp; done) | (simp; omega)))) (by trivial) ?_
      exact Tf
     ·
      refine c_seq ?_
      refine c_plain (.q 0 (.q 1 (.done))) (by kernel_rfl) ?_
      refine q_int rfl rfl rfl rfl rfl (b_eql _ _ _ _) ?_
      refine q_assign rfl rfl rfl rfl ?_
      refine r_done ?_
      refine s_keep [0, 3, 4, 17, 88] (e' := [(0, _), (3, _), (4, _), (17, _), (88, _)]) rfl ?_
      refine k_then_n ?_
      refine c_cond_p rfl (fun k4 => ?_) (fun k4 => ?_)
      ·
       refine c_seq ?_
       refine s_rest_opt (F := F3) (T := x.vo) (S := []) o Tk (by simp) fun hso => ?_
       refine c_draw rfl (.q 0 (.q 1 (.q 2 (.q 3 (.q 4 (.q 5 (.q 6 (.q 7 (.q 8 (.q 9 (.q 10 (.q 11 (.q 12 (.q 13 ((.l 14 [3, 5] ((.l 15 [] (.done))))))))))))))))))) (by kernel_rfl) ?_
       refine q_move rfl rfl rfl rfl ?_
       refine q_nil_p rfl rfl rfl rfl ?_
       refine q_field (k := 4) rfl rfl rfl rfl Try.underlying87 rfl Try.sizeOf84 rfl ?_
       refine q_load_c (j := 4) rfl rfl rfl rfl Try.isAgg84 Tk (by first | rfl | exact (Nat.add_zero _).symm) (by rfl) ?_
       refine q_field (k := 2) rfl rfl rfl rfl Try.underlying40 rfl Try.sizeOf3 rfl ?_
       refine q_load_c (j := 2) rfl rfl rfl rfl Try.isAgg3 Tk (by first | rfl | exact (Nat.add_zero _).symm) (by rfl) ?_
       refine q_move rfl rfl rfl rfl ?_
       refine q_nil_p rfl rfl rfl rfl ?_
       refine q_field (k := 4) rfl rfl rfl rfl Try.underlying87 rfl Try.sizeOf84 rfl ?_
       refine q_load_c (j := 4) rfl rfl rfl rfl Try.isAgg84 Tk (by first | rfl | exact (Nat.add_zero _).symm) (by rfl) ?_
       refine q_field (k := 2) rfl rfl rfl rfl Try.underlying40 rfl Try.sizeOf3 rfl ?_
       refine q_load_c (j := 2) rfl rfl rfl rfl Try.isAgg3 Tk (by first | rfl | exact (Nat.add_zero _).symm) (by rfl) ?_
       refine q_lookup1 (ek := ekZ) (ev1 := evA) (F := F3) (m := m3) (k := o) none rfl rfl rfl rfl rfl Try.underlying84 (keyOK_int Try.underlying3) Try.zeroValue82 Tk ?_
       refine q_move rfl rfl rfl rfl ?_
       have sp_12 := merged_spec ((F3 o).getD none) (x.vo o) (hx.voc _) tb l ta tc hlc
       refine l_call rfl rfl rfl rfl rfl rfl Try.call67 (sp_12) Ts ?_
       rintro ⟨mb, ma, mc⟩ -
       try simp only [List.cons_append, List.nil_append]
       refine ag_load_c (q := 4) rfl rfl rfl Try.isAgg84 Tk (by first | rfl | exact (Nat.add_zero _).symm) (by rfl) ?_
       refine ag_load_c (q := 2) rfl rfl rfl Try.isAgg3 Tk (by first | rfl | exact (Nat.add_zero _).symm) (by rfl) ?_
       refine ag_nil ?_
       refine l_mapUpd (ek := ekZ) (ev1 := evA) (F := F3) (m := m3) (k := o) (v := (some ⟨mb, 0, none⟩ : Option Addr)) (by first | exact .inl rfl | exact .inr rfl) rfl rfl rfl rfl Try.underlying84 (keyOK_int Try.underlying3) Tk ?_
       refine ag_nil ?_
       refine r_done ?_
       refine s_vecF mb ma mc (mgF (x.vo o) l) Ts ?_
       refine s_rest_put (F := F3) (T := x.vo) (S := []) o (upd F3 o (some (some ⟨mb, 0, none⟩ : Option Addr))) (upd x.vo o (some (mgF (x.vo o) l))) Ts (by simp) upd_same (fun q h _ => upd_ne h) upd_same (fun q h _ => upd_ne h) ?_
       refine s_keep [0, 3, 4] (e' := [(0, _), (3, _), (4, _)]) rfl ?_
       refine k_then_n ?_
       refine c_plain (.q 0 (.q 1 (.q 2 ((.l 3 [] (.done)))))) (by kernel_rfl) ?_
       refine q_move rfl rfl rfl rfl ?_
       refine q_field (k := 1) rfl rfl rfl rfl Try.underlying40 rfl Try.sizeOf3 rfl ?_
       refine q_load_c (j := 1) rfl rfl rfl rfl Try.isAgg3 Tk (by first | rfl | exact (Nat.add_zero _).symm) (by rfl) ?_
       have sp_13 := inc_z tb l ta l.length tc (by first | rfl | assumption | omega | (simp; done) | (simp; omega)) hlc t (by omega) (by omega) (by exact hlt (by unfold relK; omega))
       refine l_call rfl rfl rfl rfl rfl rfl Try.call70 (sp_13) Ts ?_
       rintro ⟨ia, ic⟩ -
       try simp only [List.cons_append, List.nil_append]
       refine ag_nil ?_
       refine r_done ?_
       refine s_vecF tb ia ic (icL l t.toNat) Ts ?_
       refine s_rest_put (F := F1) (T := x.th) (S := []) t F1 (upd x.th t (some (icL l t.toNat))) Ts (by simp) htF (fun _ _ _ => rfl) upd_same (fun q h _ => upd_ne h) ?_
       refine s_keep [0, 3] (e' := [(0, _), (3, _)]) rfl ?_
       refine k_blk_n ?_
       refine k_then_n ?_
       refine c_draw rfl (.q 0 (.q 1 (.q 2 (.q 3 (.q 4 ((.l 5 [] (.done)))))))) (by kernel_rfl) ?_
       refine q_move rfl rfl rfl rfl ?_
       refine q_nil_p rfl rfl rfl rfl ?_
       refine q_field (k := 0) rfl rfl rfl rfl Try.underlying87 rfl Try.sizeOf83 rfl ?_
       refine q_load_c (j := 0) rfl rfl rfl rfl Try.isAgg83 Tk (by first | rfl | exact (Nat.add_zero _).symm) (by rfl) ?_
       refine q_loadN_c rfl rfl rfl rfl Try.isAgg40 Try.sizeOf40 Tk 0 (us := [_, _, _]) (by first | rfl | exact (Nat.add_zero _).symm) rfl rfl ?_
       have sp_14 := Fe.next_spec pa pc cb x.ck hx.ck (by first | exact hn | omega) pl (hpl) k t o
       refine l_call rfl rfl rfl rfl rfl rfl Try.call72 (sp_14) Ts ?_
       rintro ⟨⟩ -
       try simp only [List.cons_append, List.nil_append]
       refine ag_nil ?_
       refine r_done ?_
       refine s_keep [] (e' := []) rfl ?_
       refine ret_end ?_
       refine vs_fold (b := b) (vnF x k t o) (pa := pa) (pc := pc) (po := po) (poc := poc) (cb := cb) (m1 := m1) (m2 := m2) (m3 := m3) (m4 := m4) Ts (by exact vn4 hth k4) (by rw [nx_pa]) ?_
       refine ret0 rfl (()) (by first | rfl | (first | rfl | (congr 1; done) | (congr 1 <;> first | rfl | omega | (simp; done) | (simp; omega)))) (by trivial) ?_
       exact Tf
      ·
       refine c_seq ?_
       refine c_plain (.q 0 (.q 1 (.done))) (by kernel_rfl) ?_
       refine q_int rfl rfl rfl rfl rfl (b_eql _ _ _ _) ?_
       refine q_assign rfl rfl rfl rfl ?_
       refine r_done ?_
       refine k_then_n ?_
       refine c_cond_p rfl (fun k9 => ?_) (fun k9 => ?_)
       ·
        refine c_seq ?_
        obtain ⟨p0, p1, p2, p3⟩ := o9 k9
        have hyes : 0 ≤ o ∧ o < (x.ck.B.length : Int) := ⟨p0, by omega⟩
        refine c_draw rfl (.q 0 (.q 1 (.q 2 (.q 3 (.q 4 (.q 5 ((.alt (.l 6 [] (.q 7 (.q 8 (.q 9 ((.l 10 [] ((.l 11 [] (.q 12 (.done)))))))))) (.l 10 [3, 5] ((.l 6 [] (.q 7 (.q 8 (.q 9 ((.l 11 [] (.q 12 (.done)))))))))))))))))) (by kernel_rfl) ?_
        refine q_move rfl rfl rfl rfl ?_
        refine q_nil_p rfl rfl rfl rfl ?_
        refine q_field (k := 0) rfl rfl rfl rfl Try.underlying87 rfl Try.sizeOf83 rfl ?_
        refine q_load_c (j := 0) rfl rfl rfl rfl Try.isAgg83 Tk (by first | rfl | exact (Nat.add_zero _).symm) (by rfl) ?_
        refine q_field (k := 2) rfl rfl rfl rfl Try.underlying40 rfl Try.sizeOf3 rfl ?_
        refine q_load_c (j := 2) rfl rfl rfl rfl Try.isAgg3 Tk (by first | rfl | exact (Nat.add_zero _).symm) (by rfl) ?_
        refine r_alt ?_ ?_
        ·
         have sp_15 := Fe.round_spec pa pc cb x.ck o
         refine l_call rfl rfl rfl rfl rfl rfl Try.call71 (sp_15) Ts ?_
         rintro ⟨⟩ -
         try simp only [List.cons_append, List.nil_append]
         refine ag_nil ?_
         refine s_eq 118 rfl (v' := .tuple #[.agg #[.int .i64 ((opF x.ck o).1), .int .i64 ((opF x.ck o).2)], .int .i64 0]) (by rw [if_pos hyes, if_pos hyes]) ?_
         refine q_move rfl rfl rfl rfl ?_
         refine q_extract rfl rfl rfl rfl rfl ?_
         refine q_extract rfl rfl rfl rfl rfl ?_
         refine l_alloc rfl rfl rfl Try.zeroValue74 (zs := [.int .i64 0, .int .i64 0]) rfl ?_
         intro b5
         refine ag_nil ?_
         refine l_store (j := 0) rfl rfl rfl rfl Try.sizeOf74 (us := [_, _]) rfl rfl rfl Tk (by first | rfl | exact (Nat.add_zero _).symm) (by first | decide | (simp; done) | omega) ?_
         simp only [setL, List.set]
         refine ag_nil ?_
         refine q_assign rfl rfl rfl rfl ?_
         refine r_done ?_
         refine s_keep [0, 3, 4, 5] (e' := [(0, _), (3, _), (4, _), (5, _)]) rfl ?_
         refine k_then_n ?_
         refine c_seq ?_
         refine c_plain (.q 0 (.q 1 (.q 2 (.q 3 (.q 4 ((.l 5 [] ((.l 6 [] (.done)))))))))) (by kernel_rfl) ?_
         refine q_field (k := 2) rfl rfl rfl rfl Try.underlying40 rfl Try.sizeOf3 rfl ?_
         refine q_load_c (j := 2) rfl rfl rfl rfl Try.isAgg3 Tk (by first | rfl | exact (Nat.add_zero _).symm) (by rfl) ?_
         refine q_field (k := 0) rfl rfl rfl rfl Try.underlying74 rfl Try.sizeOf3 rfl ?_
         refine q_load_c (j := 0) rfl rfl rfl rfl Try.isAgg3 Tk (by first | rfl | exact (Nat.add_zero _).symm) (by rfl) ?_
         refine q_build rfl rfl rfl rfl (vs := [_, _]) (run_buildS Try.underlying138 Try.zeroValue138 (ps := [(0, 1), (1, 1)]) ⟨rfl, Try.sizeOf3, rfl, Try.sizeOf3, trivial⟩ rfl) ?_
         refine l_alloc rfl rfl rfl Try.zeroValue138 (zs := [.int .i64 0, .int .i64 0]) rfl ?_
         intro b7
         refine ag_nil ?_
         refine l_store (j := 0) rfl rfl rfl rfl Try.sizeOf138 (us := [_, _]) rfl rfl rfl Tk (by first | rfl | exact (Nat.add_zero _).symm) (by first | decide | (simp; done) | omega) ?_
         simp only [setL, List.set]
         refine ag_nil ?_
         refine r_done ?_
         refine s_keep [0, 3, 4, 7] (e' := [(0, _), (3, _), (4, _), (7, _)]) rfl ?_
         refine k_then_n ?_
         refine c_seq ?_
         obtain ⟨pp, hpp⟩ := get_lt (l := pl) (i := o.toNat) (by rw [← hpl]; omega)
         refine s_rest_optH (G := F4) (U := x.rd) (S := []) (o, (opF x.ck o).1) Tk (by simp) ?_
         refine c_draw rfl (.q 0 (.q 1 (.q 2 (.q 3 (.q 4 (.q 5 (.q 6 (.q 7 (.q 8 (.q 9 (.q 10 (.q 11 (.q 12 (.q 14 (.q 15 (.q 16 (.q 17 (.q 18 (.q 19 (.q 20 (.q 21 ((.l 13 [3, 4, 17, 19, 21] (.q 22 ((.l 23 [] (.done))))))))))))))))))))))))))) (by kernel_rfl) ?_
         refine q_move rfl rfl rfl rfl ?_
         refine q_nil_p rfl rfl rfl rfl ?_
         refine q_field (k := 5) rfl rfl rfl rfl Try.underlying87 rfl Try.sizeOf85 rfl ?_
         refine q_load_c (j := 5) rfl rfl rfl rfl Try.isAgg85 Tk (by first | rfl | exact (Nat.add_zero _).symm) (by rfl) ?_
         refine q_loadN_c rfl rfl rfl rfl Try.isAgg138 Try.sizeOf138 Tk 0 (us := [_, _]) (by first | rfl | exact (Nat.add_zero _).symm) rfl rfl ?_
         refine q_move rfl rfl rfl rfl ?_
         refine q_nil_p rfl rfl rfl rfl ?_
         refine q_field (k := 5) rfl rfl rfl rfl Try.underlying87 rfl Try.sizeOf85 rfl ?_
         refine q_load_c (j := 5) rfl rfl rfl rfl Try.isAgg85 Tk (by first | rfl | exact (Nat.add_zero _).symm) (by rfl) ?_
         refine q_loadN_c rfl rfl rfl rfl Try.isAgg138 Try.sizeOf138 Tk 0 (us := [_, _]) (by first | rfl | exact (Nat.add_zero _).symm) rfl rfl ?_
         refine q_lookup1 (ek := ek2) (ev1 := evH) (F := F4) (m := m4) (k := (o, (opF x.ck o).1)) (none, 0) rfl rfl rfl rfl rfl Try.underlying85 (keyOK_pair Try.underlying138 rfl rfl rfl rfl Try.underlying3 Try.underlying3 Try.isAgg3 Try.isAgg3 (by kernel_rfl)) Try.zeroValue140 Tk ?_
         refine q_fld rfl rfl rfl rfl Try.underlying140 rfl Try.isAgg82 rfl ?_
         refine q_move rfl rfl rfl rfl ?_
         refine q_move rfl rfl rfl rfl ?_
         refine q_nil_p rfl rfl rfl rfl ?_
         refine q_field (k := 1) rfl rfl rfl rfl Try.underlying87 rfl Try.sizeOf22 rfl ?_
         refine q_load_c (j := 1) rfl rfl rfl rfl Try.isAgg22 Tk (by first | rfl | exact (Nat.add_zero _).symm) (by rfl) ?_
         refine q_field (k := 2) rfl rfl rfl rfl Try.underlying40 rfl Try.sizeOf3 rfl ?_
         refine q_load_c (j := 2) rfl rfl rfl rfl Try.isAgg3 Tk (by first | rfl | exact (Nat.add_zero _).symm) (by rfl) ?_
         refine q_idxO (sz := 0) (k := o.toNat) (enc := encZ) (xs := pl) rfl rfl rfl rfl rfl Try.underlying22 Try.sizeOf3 hpp (by omega) (by omega) Tk ?_
         intro ib146 io146 ha146 hl146 hc146
         refine q_load_O (v := (.int .i64 pp)) (j := 0) (k' := o.toNat) (enc := encZ) (off := io146) rfl rfl rfl rfl Try.isAgg3 ha146 encZ_len hpp Tk (by first | rfl | exact (Nat.add_zero _).symm | omega) (by rfl) ?_
         have sp_16 := merged_spec (((F4 (o, (opF x.ck o).1)).getD (none, 0)).1) ((x.rd (o, (opF x.ck o).1)).map (·.1)) (fun _ => map_fst_cv hx) tb l ta tc hlc
         refine l_call rfl rfl rfl rfl rfl rfl Try.call67 (sp_16) Ts ?_
         rintro ⟨mb, ma, mc⟩ -
         try simp only [List.cons_append, List.nil_append]
         refine ag_load_c (q := 5) rfl rfl rfl Try.isAgg85 Tk (by first | rfl | exact (Nat.add_zero _).symm) (by rfl) ?_
         refine ag_loadN_c rfl rfl (us := [_, _]) rfl Try.isAgg138 Try.sizeOf138 Tk 0 (by first | rfl | exact (Nat.add_zero _).symm) rfl rfl ?_
         refine ag_load_c (q := 1) rfl rfl rfl Try.isAgg22 Tk (by first | rfl | exact (Nat.add_zero _).symm) (by rfl) ?_
         refine ag_load_c (q := 2) rfl rfl rfl Try.isAgg3 Tk (by first | rfl | exact (Nat.add_zero _).symm) (by rfl) ?_
         refine ag_load_O (v := (.int .i64 pp)) (j := 0) (k' := o.toNat) (enc := encZ) (off := io146) rfl rfl rfl Try.isAgg3 ha146 encZ_len hpp Tk (by first | rfl | exact (Nat.add_zero _).symm | omega) (by rfl) ?_
         refine ag_nil ?_
         refine q_build rfl rfl rfl rfl (vs := [_, _]) (run_buildS Try.underlying140 Try.zeroValue140 (ps := [(0, 1), (1, 1)]) ⟨rfl, Try.sizeOf82, rfl, Try.sizeOf3, trivial⟩ rfl) ?_
         refine l_mapUpd (ek := ek2) (ev1 := evH) (F := F4) (m := m4) (k := (o, (opF x.ck o).1)) (v := ((some ⟨mb, 0, none⟩ : Option Addr), pp)) (by first | exact .inl rfl | exact .inr rfl) rfl rfl rfl rfl Try.underlying85 (keyOK_pair Try.underlying138 rfl rfl rfl rfl Try.underlying3 Try.underlying3 Try.isAgg3 Try.isAgg3 (by kernel_rfl)) Tk ?_
         refine ag_nil ?_
         refine r_done ?_
         refine s_vecF mb ma mc (mgF ((x.rd (o, (opF x.ck o).1)).map (·.1)) l) Ts ?_
         refine s_heldF (some ⟨mb, 0, none⟩, pp) (mgF ((x.rd (o, (opF x.ck o).1)).map (·.1)) l, pp) Td rfl ?_
         refine s_rest_put (F := F4) (T := x.rd) (S := []) (o, (opF x.ck o).1) (upd F4 (o, (opF x.ck o).1) (some (some ⟨mb, 0, none⟩, pp))) (upd x.rd (o, (opF x.ck o).1) (some (mgF ((x.rd (o, (opF x.ck o).1)).map (·.1)) l, pp))) Ts (by simp) upd_same (fun q h _ => upd_ne h) upd_same (fun q h _ => upd_ne h) ?_
         refine s_keep [0, 3, 4] (e' := [(0, _), (3, _), (4, _)]) rfl ?_
         refine k_then_n ?_
         refine c_plain (.q 0 (.q 1 (.q 2 ((.l 3 [] (.done)))))) (by kernel_rfl) ?_
         refine q_move rfl rfl rfl rfl ?_
         refine q_field (k := 1) rfl rfl rfl rfl Try.underlying40 rfl Try.sizeOf3 rfl ?_
         refine q_load_c (j := 1) rfl rfl rfl rfl Try.isAgg3 Tk (by first | rfl | exact (Nat.add_zero _).symm) (by rfl) ?_
         have sp_17 := inc_z tb l ta l.length tc (by first | rfl | assumption | omega | (simp; done) | (simp; omega)) hlc t (by omega) (by omega) (by exact hlt (by unfold relK; omega))
         refine l_call rfl rfl rfl rfl rfl rfl Try.call70 (sp_17) Ts ?_
         rintro ⟨ia, ic⟩ -
         try simp only [List.cons_append, List.nil_append]
         refine ag_nil ?_
         refine r_done ?_
         refine s_vecF tb ia ic (icL l t.toNat) Ts ?_
         refine s_rest_put (F := F1) (T := x.th) (S := []) t F1 (upd x.th t (some (icL l t.toNat))) Ts (by simp) htF (fun _ _ _ => rfl) upd_same (fun q h _ => upd_ne h) ?_
         refine s_keep [0, 3] (e' := [(0, _), (3, _)]) rfl ?_
         refine k_blk_n ?_
         refine k_then_n ?_
         refine c_draw rfl (.q 0 (.q 1 (.q 2 (.q 3 (.q 4 ((.l 5 [] (.done)))))))) (by kernel_rfl) ?_
         refine q_move rfl rfl rfl rfl ?_
         refine q_nil_p rfl rfl rfl rfl ?_
         refine q_field (k := 0) rfl rfl rfl rfl Try.underlying87 rfl Try.sizeOf83 rfl ?_
         refine q_load_c (j := 0) rfl rfl rfl rfl Try.isAgg83 Tk (by first | rfl | exact (Nat.add_zero _).symm) (by rfl) ?_
         refine q_loadN_c rfl rfl rfl rfl Try.isAgg40 Try.sizeOf40 Tk 0 (us := [_, _, _]) (by first | rfl | exact (Nat.add_zero _).symm) rfl rfl ?_
         have sp_18 := Fe.next_spec pa pc cb x.ck hx.ck (by first | exact hn | omega) pl (hpl) k t o
         refine l_call rfl rfl rfl rfl rfl rfl Try.call72 (sp_18) Ts ?_
         rintro ⟨⟩ -
         try simp only [List.cons_append, List.nil_append]
         refine ag_nil ?_
         refine r_done ?_
         refine s_keep [] (e' := []) rfl ?_
         refine ret_end ?_
         refine vs_fold (b := b) (vnF x k t o) (pa := pa) (pc := pc) (po := po) (poc := poc) (cb := cb) (m1 := m1) (m2 := m2) (m3 := m3) (m4 := m4) Ts (by rw [vn9 hth k9, show x.ck.pa.getD o.toNat 0 = pp from by rw [hpl]; exact getD_some hpp]) (by rw [nx_pa]) ?_
         refine ret0 rfl (()) (by first | rfl | (first | rfl | (congr 1; done) | (congr 1 <;> first | rfl | omega | (simp; done) | (simp; omega)))) (by trivial) ?_
         exact Tf
        refine l_alloc rfl rfl rfl Try.zeroValue74 (zs := [.int .i64 0, .int .i64 0]) rfl ?_
        intro b5
        refine ag_load_c (q := 0) rfl rfl rfl Try.isAgg83 Tk (by first | rfl | exact (Nat.add_zero _).symm) (by rfl) ?_
        refine ag_load_c (q := 2) rfl rfl rfl Try.isAgg3 Tk (by first | rfl | exact (Nat.add_zero _).symm) (by rfl) ?_
        refine ag_nil ?_
        have sp_19 := Fe.round_spec pa pc cb x.ck o
        refine l_call rfl rfl rfl rfl rfl rfl Try.call71 (sp_19) Ts ?_
        rintro ⟨⟩ -
        try simp only [List.cons_append, List.nil_append]
        refine ag_nil ?_
        refine s_eq 118 rfl (v' := .tuple #[.agg #[.int .i64 ((opF x.ck o).1), .int .i64 ((opF x.ck o).2)], .int .i64 0]) (by rw [if_pos hyes, if_pos hyes]) ?_
        refine q_move rfl rfl rfl rfl ?_
        refine q_extract rfl rfl rfl rfl rfl ?_
        refine q_extract rfl rfl rfl rfl rfl ?_
        refine l_store (j := 0) rfl rfl rfl rfl Try.sizeOf74 (us := [_, _]) rfl rfl rfl Tk (by first | rfl | exact (Nat.add_zero _).symm) (by first | decide | (simp; done) | omega) ?_
        simp only [setL, List.set]
        refine ag_nil ?_
        refine q_assign rfl rfl rfl rfl ?_
        refine r_done ?_
        refine s_keep [0, 3, 4, 5] (e' := [(0, _), (3, _), (4, _), (5, _)]) rfl ?_
        refine k_then_n ?_
        refine c_seq ?_
        refine c_plain (.q 0 (.q 1 (.q 2 (.q 3 (.q 4 ((.l 5 [] ((.l 6 [] (.done)))))))))) (by kernel_rfl) ?_
        refine q_field (k := 2) rfl rfl rfl rfl Try.underlying40 rfl Try.sizeOf3 rfl ?_
        refine q_load_c (j := 2) rfl rfl rfl rfl Try.isAgg3 Tk (by first | rfl | exact (Nat.add_zero _).symm) (by rfl) ?_
        refine q_field (k := 0) rfl rfl rfl rfl Try.underlying74 rfl Try.sizeOf3 rfl ?_
        refine q_load_c (j := 0) rfl rfl rfl rfl Try.isAgg3 Tk (by first | rfl | exact (Nat.add_zero _).symm) (by rfl) ?_
        refine q_build rfl rfl rfl rfl (vs := [_, _]) (run_buildS Try.underlying138 Try.zeroValue138 (ps := [(0, 1), (1, 1)]) ⟨rfl, Try.sizeOf3, rfl, Try.sizeOf3, trivial⟩ rfl) ?_
        refine l_alloc rfl rfl rfl Try.zeroValue138 (zs := [.int .i64 0, .int .i64 0]) rfl ?_
        intro b7
        refine ag_nil ?_
        refine l_store (j := 0) rfl rfl rfl rfl Try.sizeOf138 (us := [_, _]) rfl rfl rfl Tk (by first | rfl | exact (Nat.add_zero _).symm) (by first | decide | (simp; done) | omega) ?_
        simp only [setL, List.set]
        refine ag_nil ?_
        refine r_done ?_
        refine s_keep [0, 3, 4, 7] (e' := [(0, _), (3, _), (4, _), (7, _)]) rfl ?_
        refine k_then_n ?_
        refine c_seq ?_
        obtain ⟨pp, hpp⟩ := get_lt (l := pl) (i := o.toNat) (by rw [← hpl]; omega)
        refine s_rest_optH (G := F4) (U := x.rd) (S := []) (o, (opF x.ck o).1) Tk (by simp) ?_
        refine c_draw rfl (.q 0 (.q 1 (.q 2 (.q 3 (.q 4 (.q 5 (.q 6 (.q 7 (.q 8 (.q 9 (.q 10 (.q 11 (.q 12 (.q 14 (.q 15 (.q 16 (.q 17 (.q 18 (.q 19 (.q 20 (.q 21 ((.l 13 [3, 4, 17, 19, 21] (.q 22 ((.l 23 [] (.done))))))))))))))))))))))))))) (by kernel_rfl) ?_
        refine q_move rfl rfl rfl rfl ?_
        refine q_nil_p rfl rfl rfl rfl ?_
        refine q_field (k := 5) rfl rfl rfl rfl Try.underlying87 rfl Try.sizeOf85 rfl ?_
        refine q_load_c (j := 5) rfl rfl rfl rfl Try.isAgg85 Tk (by first | rfl | exact (Nat.add_zero _).symm) (by rfl) ?_
        refine q_loadN_c rfl rfl rfl rfl Try.isAgg138 Try.sizeOf138 Tk 0 (us := [_, _]) (by first | rfl | exact (Nat.add_zero _).symm) rfl rfl ?_
        refine q_move rfl rfl rfl rfl ?_
        refine q_nil_p rfl rfl rfl rfl ?_
        refine q_field (k := 5) rfl rfl rfl rfl Try.underlying87 rfl Try.sizeOf85 rfl ?_
        refine q_load_c (j := 5) rfl rfl rfl rfl Try.isAgg85 Tk (by first | rfl | exact (Nat.add_zero _).symm) (by rfl) ?_
        refine q_loadN_c rfl rfl rfl rfl Try.isAgg138 Try.sizeOf138 Tk 0 (us := [_, _]) (by first | rfl | exact (Nat.add_zero _).symm) rfl rfl ?_
        refine q_lookup1 (ek := ek2) (ev1 := evH) (F := F4) (m := m4) (k := (o, (opF x.ck o).1)) (none, 0) rfl rfl rfl rfl rfl Try.underlying85 (keyOK_pair Try.underlying138 rfl rfl rfl rfl Try.underlying3 Try.underlying3 Try.isAgg3 Try.isAgg3 (by kernel_rfl)) Try.zeroValue140 Tk ?_
        refine q_fld rfl rfl rfl rfl Try.underlying140 rfl Try.isAgg82 rfl ?_
        refine q_move rfl rfl rfl rfl ?_
        refine q_move rfl rfl rfl rfl ?_
        refine q_nil_p rfl rfl rfl rfl ?_
        refine q_field (k := 1) rfl rfl rfl rfl Try.underlying87 rfl Try.sizeOf22 rfl ?_
        refine q_load_c (j := 1) rfl rfl rfl rfl Try.isAgg22 Tk (by first | rfl | exact (Nat.add_zero _).symm) (by rfl) ?_
        refine q_field (k := 2) rfl rfl rfl rfl Try.underlying40 rfl Try.sizeOf3 rfl ?_
        refine q_load_c (j := 2) rfl rfl rfl rfl Try.isAgg3 Tk (by first | rfl | exact (Nat.add_zero _).symm) (by rfl) ?_
        refine q_idxO (sz := 0) (k := o.toNat) (enc := encZ) (xs := pl) rfl rfl rfl rfl rfl Try.underlying22 Try.sizeOf3 hpp (by omega) (by omega) Tk ?_
        intro ib146 io146 ha146 hl146 hc146
        refine q_load_O (v := (.int .i64 pp)) (j := 0) (k' := o.toNat) (enc := encZ) (off := io146) rfl rfl rfl rfl Try.isAgg3 ha146 encZ_len hpp Tk (by first | rfl | exact (Nat.add_zero _).symm | omega) (by rfl) ?_
        have sp_20 := merged_spec (((F4 (o, (opF x.ck o).1)).getD (none, 0)).1) ((x.rd (o, (opF x.ck o).1)).map (·.1)) (fun _ => map_fst_cv hx) tb l ta tc hlc
        refine l_call rfl rfl rfl rfl rfl rfl Try.call67 (sp_20) Ts ?_
        rintro ⟨mb, ma, mc⟩ -
        try simp only [List.cons_append, List.nil_append]
        refine ag_load_c (q := 5) rfl rfl rfl Try.isAgg85 Tk (by first | rfl | exact (Nat.add_zero _).symm) (by rfl) ?_
        refine ag_loadN_c rfl rfl (us := [_, _]) rfl Try.isAgg138 Try.sizeOf138 Tk 0 (by first | rfl | exact (Nat.add_zero _).symm) rfl rfl ?_
        refine ag_load_c (q := 1) rfl rfl rfl Try.isAgg22 Tk (by first | rfl | exact (Nat.add_zero _).symm) (by rfl) ?_
        refine ag_load_c (q := 2) rfl rfl rfl Try.isAgg3 Tk (by first | rfl | exact (Nat.add_zero _).symm) (by rfl) ?_
        refine ag_load_O (v := (.int .i64 pp)) (j := 0) (k' := o.toNat) (enc := encZ) (off := io146) rfl rfl rfl Try.isAgg3 ha146 encZ_len hpp Tk (by first | rfl | exact (Nat.add_zero _).symm | omega) (by rfl) ?_
        refine ag_nil ?_
        refine q_build rfl rfl rfl rfl (vs := [_, _]) (run_buildS Try.underlying140 Try.zeroValue140 (ps := [(0, 1), (1, 1)]) ⟨rfl, Try.sizeOf82, rfl, Try.sizeOf3, trivial⟩ rfl) ?_
        refine l_mapUpd (ek := ek2) (ev1 := evH) (F := F4) (m := m4) (k := (o, (opF x.ck o).1)) (v := ((some ⟨mb, 0, none⟩ : Option Addr), pp)) (by first | exact .inl rfl | exact .inr rfl) rfl rfl rfl rfl Try.underlying85 (keyOK_pair Try.underlying138 rfl rfl rfl rfl Try.underlying3 Try.underlying3 Try.isAgg3 Try.isAgg3 (by kernel_rfl)) Tk ?_
        refine ag_nil ?_
        refine r_done ?_
        refine s_vecF mb ma mc (mgF ((x.rd (o, (opF x.ck o).1)).map (·.1)) l) Ts ?_
        refine s_heldF (some ⟨mb, 0, none⟩, pp) (mgF ((x.rd (o, (opF x.ck o).1)).map (·.1)) l, pp) Td rfl ?_
        refine s_rest_put (F := F4) (T := x.rd) (S := []) (o, (opF x.ck o).1) (upd F4 (o, (opF x.ck o).1) (some (some ⟨mb, 0, none⟩, pp))) (upd x.rd (o, (opF x.ck o).1) (some (mgF ((x.rd (o, (opF x.ck o).1)).map (·.1)) l, pp))) Ts (by simp) upd_same (fun q h _ => upd_ne h) upd_same (fun q h _ => upd_ne h) ?_
        refine s_keep [0, 3, 4] (e' := [(0, _), (3, _), (4, _)]) rfl ?_
        refine k_then_n ?_
        refine c_plain (.q 0 (.q 1 (.q 2 ((.l 3 [] (.done)))))) (by kernel_rfl) ?_
        refine q_move rfl rfl rfl rfl ?_
        refine q_field (k := 1) rfl rfl rfl rfl Try.underlying40 rfl Try.sizeOf3 rfl ?_
        refine q_load_c (j := 1) rfl rfl rfl rfl Try.isAgg3 Tk (by first | rfl | exact (Nat.add_zero _).symm) (by rfl) ?_
        have sp_21 := inc_z tb l ta l.length tc (by first | rfl | assumption | omega | (simp; done) | (simp; omega)) hlc t (by omega) (by omega) (by exact hlt (by unfold relK; omega))
        refine l_call rfl rfl rfl rfl rfl rfl Try.call70 (sp_21) Ts ?_
        rintro ⟨ia, ic⟩ -
        try simp only [List.cons_append, List.nil_append]
        refine ag_nil ?_
        refine r_done ?_
        refine s_vecF tb ia ic (icL l t.toNat) Ts ?_
        refine s_rest_put (F := F1) (T := x.th) (S := []) t F1 (upd x.th t (some (icL l t.toNat))) Ts (by simp) htF (fun _ _ _ => rfl) upd_same (fun q h _ => upd_ne h) ?_
        refine s_keep [0, 3] (e' := [(0, _), (3, _)]) rfl ?_
        refine k_blk_n ?_
        refine k_then_n ?_
        refine c_draw rfl (.q 0 (.q 1 (.q 2 (.q 3 (.q 4 ((.l 5 [] (.done)))))))) (by kernel_rfl) ?_
        refine q_move rfl rfl rfl rfl ?_
        refine q_nil_p rfl rfl rfl rfl ?_
        refine q_field (k := 0) rfl rfl rfl rfl Try.underlying87 rfl Try.sizeOf83 rfl ?_
        refine q_load_c (j := 0) rfl rfl rfl rfl Try.isAgg83 Tk (by first | rfl | exact (Nat.add_zero _).symm) (by rfl) ?_
        refine q_loadN_c rfl rfl rfl rfl Try.isAgg40 Try.sizeOf40 Tk 0 (us := [_, _, _]) (by first | rfl | exact (Nat.add_zero _).symm) rfl rfl ?_
        have sp_22 := Fe.next_spec pa pc cb x.ck hx.ck (by first | exact hn | omega) pl (hpl) k t o
        refine l_call rfl rfl rfl rfl rfl rfl Try.call72 (sp_22) Ts ?_
        rintro ⟨⟩ -
        try simp only [List.cons_append, List.nil_append]
        refine ag_nil ?_
        refine r_done ?_
        refine s_keep [] (e' := []) rfl ?_
        refine ret_end ?_
        refine vs_fold (b := b) (vnF x k t o) (pa := pa) (pc := pc) (po := po) (poc := poc) (cb := cb) (m1 := m1) (m2 := m2) (m3 := m3) (m4 := m4) Ts (by rw [vn9 hth k9, show x.ck.pa.getD o.toNat 0 = pp from by rw [hpl]; exact getD_some hpp]) (by rw [nx_pa]) ?_
        refine ret0 rfl (()) (by first | rfl | (first | rfl | (congr 1; done) | (congr 1 <;> first | rfl | omega | (simp; done) | (simp; omega)))) (by trivial) ?_
        exact Tf
       ·
        refine c_seq ?_
        refine c_plain (.q 0 (.q 1 (.done))) (by kernel_rfl) ?_
        refine q_int rfl rfl rfl rfl rfl (b_eql _ _ _ _) ?_
        refine q_assign rfl rfl rfl rfl ?_
        refine r_done ?_
        refine s_keep [0, 3, 4, 153] (e' := [(0, _), (3, _), (4, _), (153, _)]) rfl ?_
        refine k_then_n ?_
        refine c_cond_p rfl (fun k7 => ?_) (fun k7 => ?_)
        ·
         refine c_seq ?_
         obtain ⟨q0, q1, q2⟩ := o7 k7
         have htl := hx.ck.tl
         have hsth := hsh.th
         refine c_plain (.q 0 ((.l 1 [] (.q 2 (.done))))) (by kernel_rfl) ?_
         refine q_move rfl rfl rfl rfl ?_
         have sp_23 := Vc.copy_spec tb l ta l.length tc (by rfl) (by omega)
         refine l_call rfl rfl rfl rfl rfl rfl Try.call69 (sp_23) Ts ?_
         rintro ⟨ub, ua, uc⟩ -
         try simp only [List.cons_append, List.nil_append]
         refine ag_nil ?_
         refine q_assign rfl rfl rfl rfl ?_
         refine r_done ?_
         refine k_then_n ?_
         refine c_seq ?_
         refine c_plain (.q 0 (.q 1 (.q 2 ((.l 3 [] (.done)))))) (by kernel_rfl) ?_
         refine q_move rfl rfl rfl rfl ?_
         refine q_field (k := 2) rfl rfl rfl rfl Try.underlying40 rfl Try.sizeOf3 rfl ?_
         refine q_load_c (j := 2) rfl rfl rfl rfl Try.isAgg3 Tk (by first | rfl | exact (Nat.add_zero _).symm) (by rfl) ?_
         have sp_24 := set_z ub l ua l.length uc (by first | rfl | assumption | omega | (simp; done) | (simp; omega)) hlc o (by omega) (by omega) 1 (by decide) (by decide)
         refine l_call rfl rfl rfl rfl rfl rfl Try.call47 (sp_24) Ts ?_
         rintro ⟨sa, sc⟩ -
         try simp only [List.cons_append, List.nil_append]
         refine ag_nil ?_
         refine r_done ?_
         refine s_keep [0, 3, 4, 8] (e' := [(0, _), (3, _), (4, _), (8, _)]) rfl ?_
         refine k_then_n ?_
         refine c_seq ?_
         have hne : o ≠ t := by intro e; rw [e] at q2; exact can_th hc q2
         refine s_rest_opt (F := F1) (T := x.th) (S := [t]) o Tk (by simpa using hne) fun hso => ?_
         refine c_draw rfl (.q 0 (.q 1 (.q 2 (.q 3 (.q 4 (.q 5 (.q 6 ((.l 7 [] (.done)))))))))) (by kernel_rfl) ?_
         refine q_move rfl rfl rfl rfl ?_
         refine q_nil_p rfl rfl rfl rfl ?_
         refine q_field (k := 2) rfl rfl rfl rfl Try.underlying87 rfl Try.sizeOf84 rfl ?_
         refine q_load_c (j := 2) rfl rfl rfl rfl Try.isAgg84 Tk (by first | rfl | exact (Nat.add_zero _).symm) (by rfl) ?_
         refine q_field (k := 2) rfl rfl rfl rfl Try.underlying40 rfl Try.sizeOf3 rfl ?_
         refine q_load_c (j := 2) rfl rfl rfl rfl Try.isAgg3 Tk (by first | rfl | exact (Nat.add_zero _).symm) (by rfl) ?_
         refine q_move rfl rfl rfl rfl ?_
         refine l_mapUpd (ek := ekZ) (ev1 := evA) (F := F1) (m := m1) (k := o) (v := (some ⟨ub, 0, none⟩ : Option Addr)) (by first | exact .inl rfl | exact .inr rfl) rfl rfl rfl rfl Try.underlying84 (keyOK_int Try.underlying3) Tk ?_
         refine ag_nil ?_
         refine r_done ?_
         refine s_vecF ub sa sc (stL l o.toNat 1) Ts ?_
         refine s_rest_put (F := F1) (T := x.th) (S := [t]) o (upd F1 o (some (some ⟨ub, 0, none⟩ : Option Addr))) (upd x.th o (some (stL l o.toNat 1))) Ts (by simpa using hne) upd_same (fun q h _ => upd_ne h) upd_same (fun q h _ => upd_ne h) ?_
         refine s_keep [0, 3, 4] (e' := [(0, _), (3, _), (4, _)]) rfl ?_
         refine k_then_n ?_
         refine c_plain (.q 0 (.q 1 (.q 2 ((.l 3 [] (.done)))))) (by kernel_rfl) ?_
         refine q_move rfl rfl rfl rfl ?_
         refine q_field (k := 1) rfl rfl rfl rfl Try.underlying40 rfl Try.sizeOf3 rfl ?_
         refine q_load_c (j := 1) rfl rfl rfl rfl Try.isAgg3 Tk (by first | rfl | exact (Nat.add_zero _).symm) (by rfl) ?_
         have sp_25 := inc_z tb l ta l.length tc (by first | rfl | assumption | omega | (simp; done) | (simp; omega)) hlc t (by omega) (by omega) (by exact hlt (by unfold relK; omega))
         refine l_call rfl rfl rfl rfl rfl rfl Try.call70 (sp_25) Ts ?_
         rintro ⟨ia, ic⟩ -
         try simp only [List.cons_append, List.nil_append]
         refine ag_nil ?_
         refine r_done ?_
         refine s_vecF tb ia ic (icL l t.toNat) Ts ?_
         refine s_rest_put (F := (upd F1 o (some (some ⟨ub, 0, none⟩ : Option Addr)))) (T := (upd x.th o (some (stL l o.toNat 1)))) (S := []) t (upd F1 o (some (some ⟨ub, 0, none⟩ : Option Addr))) (upd (upd x.th o (some (stL l o.toNat 1))) t (some (icL l t.toNat))) Ts (by simp) ((upd_ne (Ne.symm hne)).trans htF) (fun _ _ _ => rfl) upd_same (fun q h _ => upd_ne h) ?_
         refine s_keep [0, 3] (e' := [(0, _), (3, _)]) rfl ?_
         refine k_blk_n ?_
         refine k_then_n ?_
         refine c_draw rfl (.q 0 (.q 1 (.q 2 (.q 3 (.q 4 ((.l 5 [] (.done)))))))) (by kernel_rfl) ?_
         refine q_move rfl rfl rfl rfl ?_
         refine q_nil_p rfl rfl rfl rfl ?_
         refine q_field (k := 0) rfl rfl rfl rfl Try.underlying87 rfl Try.sizeOf83 rfl ?_
         refine q_load_c (j := 0) rfl rfl rfl rfl Try.isAgg83 Tk (by first | rfl | exact (Nat.add_zero _).symm) (by rfl) ?_
         refine q_loadN_c rfl rfl rfl rfl Try.isAgg40 Try.sizeOf40 Tk 0 (us := [_, _, _]) (by first | rfl | exact (Nat.add_zero _).symm) rfl rfl ?_
         have sp_26 := Fe.next_spec pa pc cb x.ck hx.ck (by first | exact hn | omega) pl (hpl) k t o
         refine l_call rfl rfl rfl rfl rfl rfl Try.call72 (sp_26) Ts ?_
         rintro ⟨⟩ -
         try simp only [List.cons_append, List.nil_append]
         refine ag_nil ?_
         refine r_done ?_
         refine s_keep [] (e' := []) rfl ?_
         refine ret_end ?_
         refine vs_fold (b := b) (vnF x k t o) (pa := pa) (pc := pc) (po := po) (poc := poc) (cb := cb) (m1 := m1) (m2 := m2) (m3 := m3) (m4 := m4) Ts (by exact vn7 hth k7) (by rw [nx_pa]) ?_
         refine ret0 rfl (()) (by first | rfl | (first | rfl | (congr 1; done) | (congr 1 <;> first | rfl | omega | (simp; done) | (simp; omega)))) (by trivial) ?_
         exact Tf
        ·
         refine c_skip ?_
         refine k_blk_n ?_
         refine k_then_n ?_
         refine s_vecF tb ta tc l Ts ?_
         refine s_rest_put (F := F1) (T := x.th) (S := []) t F1 x.th Ts (by simp) htF (fun _ _ _ => rfl) hth (fun _ _ _ => rfl) ?_
         refine c_draw rfl (.q 0 (.q 1 (.q 2 (.q 3 (.q 4 ((.l 5 [] (.done)))))))) (by kernel_rfl) ?_
         refine q_move rfl rfl rfl rfl ?_
         refine q_nil_p rfl rfl rfl rfl ?_
         refine q_field (k := 0) rfl rfl rfl rfl Try.underlying87 rfl Try.sizeOf83 rfl ?_
         refine q_load_c (j := 0) rfl rfl rfl rfl Try.isAgg83 Tk (by first | rfl | exact (Nat.add_zero _).symm) (by rfl) ?_
         refine q_loadN_c rfl rfl rfl rfl Try.isAgg40 Try.sizeOf40 Tk 0 (us := [_, _, _]) (by first | rfl | exact (Nat.add_zero _).symm) rfl rfl ?_
         have sp_27 := Fe.next_spec pa pc cb x.ck hx.ck (by first | exact hn | omega) pl (hpl) k t o
         refine l_call rfl rfl rfl rfl rfl rfl Try.call72 (sp_27) Ts ?_
         rintro ⟨⟩ -
         try simp only [List.cons_append, List.nil_append]
         refine ag_nil ?_
         refine r_done ?_
         refine s_keep [] (e' := []) rfl ?_
         refine ret_end ?_
         refine vs_fold (b := b) (vnF x k t o) (pa := pa) (pc := pc) (po := po) (poc := poc) (cb := cb) (m1 := m1) (m2 := m2) (m3 := m3) (m4 := m4) Ts (by exact vn0 k5 k3 k8 k10 k6 k4 k9 k7) (by rw [nx_pa]) ?_
         refine ret0 rfl (()) (by first | rfl | (first | rfl | (congr 1; done) | (congr 1 <;> first | rfl | omega | (simp; done) | (simp; omega)))) (by trivial) ?_
         exact Tf
end Go.Ab.Dj
set_option linter.unusedVariables false
set_option linter.unusedSimpArgs false
set_option maxRecDepth 100000
namespace Go.Ab.Dj
open Go Go.Proofs Go.Ab Go.Ab.Fe Go.Ab.Vc
theorem count_set {α : Type} {p : α → Bool} {b : α} : ∀ {l : List α} {i : Nat} {a : α}, l[i]? = some a → (l.set i b).countP p + (if p a then 1 else 0) = l.countP p + (if p b then 1 else 0)
  | [], i, a, h => by simp at h
  | c :: l, 0, a, h => by
    simp at h; subst h
    simp only [List.set_cons_zero, List.countP_cons]
    omega
  | c :: l, i + 1, a, h => by
    simp at h
    have := count_set (p := p) (b := b) h
    simp only [List.set_cons_succ, List.countP_cons]
    omega
theorem upd_some {κ ν : Type} [DecidableEq κ] {T : κ → Option ν} {k q : κ} {v : Option ν} {l : ν} (h : upd T k v q = some l) : (q = k ∧ v = some l) ∨ (q ≠ k ∧ T q = some l) := by
  unfold upd at h
  split at h
  · rename_i e; exact .inl ⟨e, h⟩
  · rename_i e; exact .inr ⟨e, h⟩
theorem mg_cv {m : Option (List Int)} {l : List Int} (hl : CV l) (h : ∀ q, m = some q → CV q) : CV (mgF m l) := by
  cases m with
  | none => exact hl
  | some q => exact jn_cv hl (h q rfl)
theorem wtN_set {c : CS} {th va vo lk : Int} {pa O : List Int} {B : List T2} {n : Int} {i : Nat} {s s' : T3} (hs : c.T[i]? = some s) (b r : Int) :
    wtN ⟨th, va, vo, lk, pa, c.T.set i s', O, B, n⟩ b r + (if s = (2, b, r) then 1 else 0) = wtN c b r + (if s' = (2, b, r) then 1 else 0) := by
  have := count_set (p := fun s => decide (s = (2, b, r))) (b := s') hs
  simpa [wtN] using this
theorem wtN_zero {c : CS} (hc : CInv c) {b r : Int} (h : (opF c b).1 < r) : wtN c b r = 0 := by
  unfold wtN
  rw [List.countP_eq_zero]
  intro s hs h2
  have h3 := of_decide_eq_true h2
  have h4 := (hc.st s hs).2.2.1 (by rw [h3])
  rw [h3] at h4
  simp at h4; omega
theorem opF_set {c : CS} {th va vo lk : Int} {pa O : List Int} {T : List T3} {n : Int} {o : Int} {v : T2} (h0 : 0 ≤ o) (h : o.toNat < c.B.length) {b : Int} (hb : 0 ≤ b) : opF ⟨th, va, vo, lk, pa, T, O, c.B.set o.toNat v, n⟩ b = if b = o then v else opF c b := by
  unfold opF
  show (c.B.set o.toNat v).getD b.toNat _ = _
  rw [getD_set h]
  by_cases e : b = o
  · subst e; rw [if_pos rfl, if_pos rfl]
  · rw [if_neg e, if_neg (by omega)]
theorem icD_cv {x : VS} (hx : VInv x) {k t o : Int} (hvc : vcanF x k t o) (hk : relK k) {l : List Int} (hth : x.th t = some l) : CV (icL l t.toNat) := by
  obtain ⟨h0, h1⟩ := th_rng hx (can_th hvc.1)
  have := hvc.2 hk
  rw [thF_eq hth] at this
  exact icL_cv (hx.thc _ _ hth) (by omega) this
theorem pres {x : CS} (hx : CInv x) {k t o : Int} (hc : canF x k t o) (u : Int) : (stF (nxF x k t o) u).1 ≠ 0 ↔ (stF x u).1 ≠ 0 ∨ (k = 7 ∧ u = o) := by
  obtain ⟨n5, n6, n7, n9, n10, n11, nn⟩ := nxF_k hc
  obtain ⟨o5, o7, o9, o10, o11⟩ := can_obj hx hc
  obtain ⟨t0, t1, t2⟩ := stF_nz (can_th hc)
  have hth := can_th hc
  by_cases k5 : k = 5
  · rw [n5 k5]; show (stF x u).1 ≠ 0 ↔ _; omega
  by_cases k6 : k = 6
  · rw [n6 k6]; show (stF x u).1 ≠ 0 ↔ _; omega
  by_cases k7 : k = 7
  · obtain ⟨p0, p1, p2⟩ := o7 k7
    rw [n7 k7, stF_set p0 p1 rfl]
    split
    · rename_i e; simp [k7, e]
    · rename_i e; simp [e]
  by_cases k9 : k = 9
  · rw [n9 k9, stF_set t0 t1 rfl]
    split
    · rename_i e; subst e; simp [hth]
    · rename_i e; simp [k7]
  by_cases k10 : k = 10
  · rw [n10 k10, stF_set t0 t1 rfl]
    split
    · rename_i e; subst e; simp [hth]
    · rename_i e; simp [k7]
  by_cases k11 : k = 11
  · rw [n11 k11, stF_set t0 t1 rfl]
    split
    · rename_i e; subst e; simp [hth]
    · rename_i e; simp [k7]
  rw [nn k5 k6 k7 k9 k10 k11]; show (stF x u).1 ≠ 0 ↔ _; omega
theorem isS_upd {T : Int → Option (List Int)} {t u : Int} {l : List Int} : (upd T t (some l) u).isSome = true ↔ u = t ∨ (T u).isSome = true := by
  unfold upd
  split
  · rename_i e; simp [e]
  · rename_i e; simp [e]
/-- The threads' counts behind an event. -/
theorem wt_next {x : CS} (hx : CInv x) {k t o : Int} (hc : canF x k t o) (b r : Int) :
    (k = 9 → wtN (nxF x k t o) b r = wtN x b r + (if b = o ∧ r = (opF x o).1 then 1 else 0)) ∧
    (k = 10 → wtN (nxF x k t o) b r + (if b = o ∧ r = (stF x t).2.2 then 1 else 0) = wtN x b r) ∧
    (k ≠ 9 → k ≠ 10 → wtN (nxF x k t o) b r = wtN x b r) := by
  obtain ⟨n5, n6, n7, n9, n10, n11, nn⟩ := nxF_k hc
  obtain ⟨o5, o7, o9, o10, o11⟩ := can_obj hx hc
  obtain ⟨t0, t1, t2⟩ := stF_nz (can_th hc)
  have hth := can_th hc
  refine ⟨fun k9 => ?_, fun k10 => ?_, fun k9 k10 => ?_⟩
  · rw [n9 k9]
    have h := wtN_set (th := x.th) (va := x.va) (vo := x.vo) (lk := x.lk) (pa := x.pa) (O := x.O) (B := x.B.set o.toNat (arrF (opF x o) (x.pa.getD o.toNat 0))) (n := x.n + 1) (s' := (2, o, (opF x o).1)) t2 b r
    rw [if_neg (fun e => by have := (o9 k9).2.2.2; rw [e] at this; simp at this)] at h
    rw [Nat.add_zero] at h
    rw [h]
    by_cases e : b = o ∧ r = (opF x o).1
    · rw [if_pos e, if_pos (by rw [e.1, e.2])]
    · rw [if_neg e, if_neg (fun h => e (by simp at h; exact ⟨h.1.symm, h.2.symm⟩))]
  · rw [n10 k10]
    have h := wtN_set (th := x.th) (va := x.va) (vo := x.vo) (lk := x.lk) (pa := x.pa) (O := x.O) (B := x.B) (n := x.n + 1) (s' := (1, 0, 0)) t2 b r
    rw [if_neg (c := ((1 : Int), (0 : Int), (0 : Int)) = (2, b, r)) (by simp), Nat.add_zero] at h
    rw [← h]
    obtain ⟨q1, q2, q3⟩ := o10 k10
    by_cases e : b = o ∧ r = (stF x t).2.2
    · rw [if_pos e, if_pos (by rw [e.1, e.2, q3, ← q1])]
    · rw [if_neg e, if_neg (fun h => e (by rw [q3, h]; exact ⟨rfl, rfl⟩))]
  · by_cases k5 : k = 5
    · rw [n5 k5]; rfl
    by_cases k6 : k = 6
    · rw [n6 k6]; rfl
    by_cases k7 : k = 7
    · obtain ⟨p0, p1, p2⟩ := o7 k7
      rw [n7 k7]
      have h := wtN_set (th := x.th) (va := x.va) (vo := x.vo) (lk := x.lk) (pa := x.pa) (O := x.O) (B := x.B) (n := x.n + 1) (s' := (1, 0, 0)) (stF_at (x := x) p0 (by omega)) b r
      rw [if_neg (c := ((1 : Int), (0 : Int), (0 : Int)) = (2, b, r)) (by simp), if_neg (fun e => by rw [e] at p2; simp at p2)] at h
      omega
    by_cases k11 : k = 11
    · rw [n11 k11]
      have h := wtN_set (th := x.th) (va := x.va) (vo := x.vo) (lk := x.lk) (pa := x.pa) (O := x.O) (B := x.B) (n := x.n + 1) (s' := (3, 0, 0)) t2 b r
      rw [if_neg (c := ((3 : Int), (0 : Int), (0 : Int)) = (2, b, r)) (by simp), if_neg (fun e => by have := o11 k11; rw [e] at this; simp at this)] at h
      omega
    rw [nn k5 k6 k7 k9 k10 k11]; rfl
theorem opF_next {x : CS} (hx : CInv x) {k t o : Int} (hc : canF x k t o) {b : Int} (hb : 0 ≤ b) : opF (nxF x k t o) b = if k = 9 ∧ b = o then arrF (opF x o) (x.pa.getD o.toNat 0) else opF x b := by
  obtain ⟨n5, n6, n7, n9, n10, n11, nn⟩ := nxF_k hc
  obtain ⟨o5, o7, o9, o10, o11⟩ := can_obj hx hc
  by_cases k9 : k = 9
  · obtain ⟨p0, p1, p2, p3⟩ := o9 k9
    rw [n9 k9, opF_set p0 p1 hb]
    by_cases e : b = o
    · rw [if_pos e, if_pos ⟨k9, e⟩]
    · rw [if_neg e, if_neg (fun h => e h.2)]
  rw [if_neg (fun h => k9 h.1)]
  by_cases k5 : k = 5
  · rw [n5 k5]; rfl
  by_cases k6 : k = 6
  · rw [n6 k6]; rfl
  by_cases k7 : k = 7
  · rw [n7 k7]; rfl
  by_cases k10 : k = 10
  · rw [n10 k10]; rfl
  by_cases k11 : k = 11
  · rw [n11 k11]; rfl
  rw [nn k5 k6 k7 k9 k10 k11]; rfl
theorem nx_B {x : CS} (hx : CInv x) {k t o : Int} (hc : canF x k t o) : (nxF x k t o).B.length = x.B.length := by
  rw [(next_inv hx k t o).bl, hx.bl, nx_pa]
theorem vn_ck {x : VS} {k t o : Int} : (vnF x k t o).ck = nxF x.ck k t o := by
  unfold vnF
  repeat (split; · rfl)
  rfl
/-- The rounds behind an event. -/
theorem vn_rd {x : VS} {k t o : Int} : (vnF x k t o).rd = if k = 10 then upd x.rd (rdK x t o) (if (rdF x (rdK x t o)).2 - 1 ≤ 0 then none else some ((rdF x (rdK x t o)).1, (rdF x (rdK x t o)).2 - 1))
    else if k = 9 then upd x.rd (o, (opF x.ck o).1) (some (mgF ((x.rd (o, (opF x.ck o).1)).map (·.1)) (thF x t), x.ck.pa.getD o.toNat 0)) else x.rd := by
  unfold vnF
  by_cases k5 : k = 5
  · simp [k5]
  by_cases k3 : k = 3
  · simp [k3]
  by_cases k8 : k = 8
  · simp [k8]
  by_cases k10 : k = 10
  · simp [k10]
  by_cases k6 : k = 6
  · simp [k6]
  by_cases k4 : k = 4
  · simp [k4]
  by_cases k9 : k = 9
  · simp [k9]
  by_cases k7 : k = 7
  · simp [k7]
  simp [*]
theorem next_vinv {x : VS} (hx : VInv x) {k t o : Int} (hvc : vcanF x k t o) : VInv (vnF x k t o) := by
  have hc := hvc.1
  obtain ⟨l, hth⟩ := th_some hx (can_th hc)
  have hlc := hx.thc _ _ hth
  obtain ⟨o5, o7, o9, o10, o11⟩ := can_obj hx.ck hc
  have hts : (x.th t).isSome = true := by rw [hth]; rfl
  have hic : relK k → CV (icL l t.toNat) := fun h => icD_cv hx hvc h hth
  have hpp : k = 9 → 1 ≤ x.ck.pa.getD o.toNat 0 ∧ x.ck.pa.getD o.toNat 0 ≤ 65535 := fun k9 => by
    obtain ⟨pp, hp⟩ := get_lt (o9 k9).2.2.1
    rw [getD_some hp]; exact hx.ck.sh.pa pp (List.mem_of_getElem? hp)
  refine ⟨by rw [vn_ck]; exact next_inv hx.ck k t o, fun u => ?_, ?_, ?_, ?_, fun r p h => ?_, fun r p h => ?_, fun b r => ?_, fun b hb0 hb1 => ?_⟩
  · rw [vn_ck, pres hx.ck hc u, ← hx.th u]
    by_cases k5 : k = 5
    · rw [vn5 hth k5, isS_upd]; constructor
      · rintro (rfl | h) <;> simp_all
      · rintro (h | h)
        · exact .inr h
        · omega
    by_cases k3 : k = 3
    · rw [vn3 hth k3, isS_upd]; constructor
      · rintro (rfl | h) <;> simp_all
      · rintro (h | h)
        · exact .inr h
        · omega
    by_cases k8 : k = 8
    · rw [vn8 hth k8, isS_upd]; constructor
      · rintro (rfl | h) <;> simp_all
      · rintro (h | h)
        · exact .inr h
        · omega
    by_cases k10 : k = 10
    · rw [vn10 hth k10, dpF, isS_upd]; constructor
      · rintro (rfl | h) <;> simp_all
      · rintro (h | h)
        · exact .inr h
        · omega
    by_cases k6 : k = 6
    · rw [vn6 hth k6, isS_upd]; constructor
      · rintro (rfl | h) <;> simp_all
      · rintro (h | h)
        · exact .inr h
        · omega
    by_cases k4 : k = 4
    · rw [vn4 hth k4, isS_upd]; constructor
      · rintro (rfl | h) <;> simp_all
      · rintro (h | h)
        · exact .inr h
        · omega
    by_cases k9 : k = 9
    · rw [vn9 hth k9, isS_upd]; constructor
      · rintro (rfl | h) <;> simp_all
      · rintro (h | h)
        · exact .inr h
        · omega
    by_cases k7 : k = 7
    · rw [vn7 hth k7, isS_upd, isS_upd]; constructor
      · rintro (rfl | rfl | h) <;> simp_all
      · rintro (h | h)
        · exact .inr (.inr h)
        · exact .inr (.inl h.2)
    rw [vn0 k5 k3 k8 k10 k6 k4 k9 k7]; simp [k7]
  · intro u q h
    have key : ∀ {v : List Int}, CV v → upd x.th t (some v) u = some q → CV q := fun hv h => by
      rcases upd_some h with ⟨-, h⟩ | ⟨-, h⟩
      · cases h; exact hv
      · exact hx.thc _ _ h
    by_cases k5 : k = 5
    · rw [vn5 hth k5] at h; exact key (mg_cv hlc (hx.lkc _)) h
    by_cases k3 : k = 3
    · rw [vn3 hth k3] at h; exact key (mg_cv hlc (hx.voc _)) h
    by_cases k8 : k = 8
    · rw [vn8 hth k8] at h; exact key (mg_cv hlc (hx.thc _)) h
    by_cases k10 : k = 10
    · rw [vn10 hth k10, dpF, thF_eq hth] at h
      obtain ⟨p, hp, -⟩ := rd_some hx (o10 k10).1 (o10 k10).2.2
      refine key (jn_cv hlc ?_) h
      rw [rdF, hp]; exact hx.rdc _ _ hp
    by_cases k6 : k = 6
    · rw [vn6 hth k6] at h; exact key (hic (by unfold relK; omega)) h
    by_cases k4 : k = 4
    · rw [vn4 hth k4] at h; exact key (hic (by unfold relK; omega)) h
    by_cases k9 : k = 9
    · rw [vn9 hth k9] at h; exact key (hic (by unfold relK; omega)) h
    by_cases k7 : k = 7
    · rw [vn7 hth k7] at h
      obtain ⟨p0, p1, p2⟩ := o7 k7
      have h3 := hx.ck.tl
      have h4 := hx.ck.sh.th
      rcases upd_some h with ⟨-, h⟩ | ⟨-, h⟩
      · cases h; exact hic (by unfold relK; omega)
      · rcases upd_some h with ⟨-, h⟩ | ⟨-, h⟩
        · cases h; exact stL_cv hlc (by omega) (by decide) (by decide)
        · exact hx.thc _ _ h
    rw [vn0 k5 k3 k8 k10 k6 k4 k9 k7] at h; exact hx.thc _ _ h
  · intro u q h
    by_cases k6 : k = 6
    · rw [vn6 hth k6] at h
      rcases upd_some h with ⟨-, h⟩ | ⟨-, h⟩
      · cases h; exact hlc
      · exact hx.lkc _ _ h
    have e : (vnF x k t o).lk = x.lk := by
      unfold vnF
      rw [if_neg k6]
      repeat (split; · rfl)
      rfl
    rw [e] at h; exact hx.lkc _ _ h
  · intro u q h
    by_cases k4 : k = 4
    · rw [vn4 hth k4] at h
      rcases upd_some h with ⟨-, h⟩ | ⟨-, h⟩
      · cases h; exact mg_cv hlc (hx.voc _)
      · exact hx.voc _ _ h
    have e : (vnF x k t o).vo = x.vo := by
      unfold vnF
      rw [if_neg k4]
      repeat (split; · rfl)
      rfl
    rw [e] at h; exact hx.voc _ _ h
  · rw [vn_rd] at h
    split at h
    · rename_i k10
      rcases upd_some h with ⟨-, h⟩ | ⟨-, h⟩
      · obtain ⟨p2, hp, -⟩ := rd_some hx (o10 k10).1 (o10 k10).2.2
        split at h
        · cases h
        · cases h
          show CV (rdF x (rdK x t o)).1
          rw [rdK, rdF, hp]; exact hx.rdc _ _ hp
      · exact hx.rdc _ _ h
    · split at h
      · rcases upd_some h with ⟨-, h⟩ | ⟨-, h⟩
        · cases h
          show CV (mgF _ _)
          rw [thF_eq hth]
          exact mg_cv hlc fun q hq => map_fst_cv hx hq
        · exact hx.rdc _ _ h
      · exact hx.rdc _ _ h
  · rw [vn_rd] at h
    split at h
    · rename_i k10
      rcases upd_some h with ⟨-, h⟩ | ⟨-, h⟩
      · obtain ⟨p2, hp, -⟩ := rd_some hx (o10 k10).1 (o10 k10).2.2
        have h5 := hx.rds _ _ hp
        split at h
        · cases h
        · rename_i h6
          cases h
          have h7 : rdF x (rdK x t o) = p2 := by rw [rdK, rdF, hp]; rfl
          rw [h7] at h6 ⊢
          exact ⟨by show 0 ≤ p2.2 - 1; omega, by show p2.2 - 1 ≤ 65535; omega⟩
      · exact hx.rds _ _ h
    · split at h
      · rename_i k9
        rcases upd_some h with ⟨-, h⟩ | ⟨-, h⟩
        · cases h
          have := hpp k9
          exact ⟨by show 0 ≤ x.ck.pa.getD _ _; omega, this.2⟩
        · exact hx.rds _ _ h
      · exact hx.rds _ _ h
  · rw [vn_ck]
    obtain ⟨w9, w10, w0⟩ := wt_next hx.ck hc b r
    have h1 := hx.wt b r
    rw [rdF, vn_rd]
    by_cases k10 : k = 10
    · rw [if_pos k10]
      have hw := w10 k10
      by_cases e : b = o ∧ r = (stF x.ck t).2.2
      · rw [if_pos e] at hw
        have e2 : ((b, r) : Int × Int) = rdK x t o := by rw [rdK, e.1, e.2]
        rw [e2] at h1 ⊢
        rw [upd_same]
        split
        · simp; omega
        · simp; omega
      · rw [if_neg e] at hw
        have e2 : ((b, r) : Int × Int) ≠ rdK x t o := fun h => e (by rw [rdK] at h; simp at h; exact h)
        rw [upd_ne e2]
        show _ ≤ (rdF x (b, r)).2
        omega
    · rw [if_neg k10]
      by_cases k9 : k = 9
      · rw [if_pos k9]
        have hw := w9 k9
        by_cases e : b = o ∧ r = (opF x.ck o).1
        · rw [if_pos e] at hw
          have e2 : ((b, r) : Int × Int) = (o, (opF x.ck o).1) := by rw [e.1, e.2]
          rw [e2, upd_same]
          obtain ⟨p0, p1, p2, p3⟩ := o9 k9
          obtain ⟨pp, hp⟩ := get_lt p2
          have h2 := hx.wo o p0 (by omega)
          have h3 := hx.ck.op _ _ _ (opF_at (x := x.ck) p0 (by omega)) hp
          rw [getD_some hp]
          rw [e.1, e.2] at hw
          rw [e.1, e.2]
          show _ ≤ pp
          omega
        · rw [if_neg e] at hw
          have e2 : ((b, r) : Int × Int) ≠ (o, (opF x.ck o).1) := fun h => e (by simp at h; exact h)
          rw [upd_ne e2]
          show _ ≤ (rdF x (b, r)).2
          omega
      · rw [if_neg k9, w0 k9 k10]; exact h1
  · rw [vn_ck] at hb1 ⊢
    rw [nx_B hx.ck hc] at hb1
    have h1 := hx.wo b hb0 hb1
    rw [opF_next hx.ck hc hb0]
    by_cases e : k = 9 ∧ b = o
    · rw [if_pos e]
      obtain ⟨k9, rfl⟩ := e
      obtain ⟨p0, p1, p2, p3⟩ := o9 k9
      obtain ⟨pp, hp⟩ := get_lt p2
      rw [getD_some hp]
      unfold arrF
      split
      · have hz := wtN_zero hx.ck (b := b) (r := (opF x.ck b).1 + 1) (by omega)
        have hw := (wt_next hx.ck hc b ((opF x.ck b).1 + 1)).1 k9
        rw [if_neg (by omega)] at hw
        simp; omega
      · have hw := (wt_next hx.ck hc b (opF x.ck b).1).1 k9
        rw [if_pos ⟨rfl, rfl⟩] at hw
        simp; omega
    · rw [if_neg e]
      obtain ⟨w9, w10, w0⟩ := wt_next hx.ck hc b (opF x.ck b).1
      by_cases k9 : k = 9
      · have hw := w9 k9
        rw [if_neg (fun h => e ⟨k9, h.1⟩)] at hw
        omega
      · by_cases k10 : k = 10
        · have hw := w10 k10
          omega
        · rw [w0 k9 k10]; exact h1
end Go.Ab.Dj
set_option linter.unusedVariables false
set_option linter.unusedSimpArgs false
set_option maxRecDepth 100000
namespace Go.Ab.Dj
open Go Go.Proofs Go.Ab Go.Ab.Fe Go.Ab.Vc
def vNew (th va vo lk : Int) (pl : List Int) : VS := ⟨newF th va vo lk pl, upd noF 0 (some [1]), noF, noF, noF⟩
theorem one_cv : CV [1] := ⟨by simp [Tr], by decide, by decide⟩
theorem new_vinv {th va vo lk : Int} {pl : List Int} (hok : OkS th va vo lk pl) (hc : CInv (newF th va vo lk pl)) : VInv (vNew th va vo lk pl) := by
  have h1 := hok.th
  have hst : ∀ t, stF (newF th va vo lk pl) t = if t = 0 then (1, 0, 0) else (0, 0, 0) := fun t => by
    have h := (rel_new hok).st t
    rw [← h]
    unfold upd noF
    split <;> rfl
  have hT : ∀ b r : Int, wtN (newF th va vo lk pl) b r = 0 := fun b r => by
    unfold wtN
    rw [List.countP_eq_zero]
    intro s hs h2
    have h3 := of_decide_eq_true h2
    obtain ⟨i, hi⟩ := List.getElem?_of_mem hs
    have h4 := hst (i : Int)
    rw [stF, if_neg (by omega), Int.toNat_natCast, getD_some hi, h3] at h4
    split at h4 <;> simp at h4
  have hB : ∀ b : Int, 0 ≤ (opF (newF th va vo lk pl) b).2 := fun b => by
    unfold opF newF
    rcases getD_mem' (List.replicate pl.length ((0 : Int), (0 : Int))) b.toNat (0, 0) with h | h
    · rw [h]; decide
    · rw [(List.mem_replicate.1 h).2]; decide
  refine ⟨hc, fun t => ?_, fun t l h => ?_, fun t l h => (by cases h), fun t l h => (by cases h), fun r p h => (by cases h), fun r p h => (by cases h), fun b r => ?_, fun b _ _ => ?_⟩
  · show (upd noF 0 (some [1]) t).isSome = true ↔ (stF (newF th va vo lk pl) t).1 ≠ 0
    rw [isS_upd, hst]
    split <;> simp_all [noF]
  · rcases upd_some (show upd noF 0 (some [1]) t = some l from h) with ⟨-, h⟩ | ⟨-, h⟩
    · cases h; exact one_cv
    · cases h
  · show ((wtN (newF th va vo lk pl) b r : Nat) : Int) ≤ _
    rw [hT]; exact Int.le_refl _
  · show ((wtN (newF th va vo lk pl) b _ : Nat) : Int) ≤ (opF (newF th va vo lk pl) b).2
    rw [hT]; exact hB b
/-- What is kept of a variable: its reads, its writes, its flag. -/
abbrev P4 := Option Addr × Option Addr × Int × Bool
abbrev V4 := List Int × List Int × Int × Bool
def encV (x : P4) : List Value := [.pointer x.1, .pointer x.2.1, .int .i64 x.2.2.1, .bool x.2.2.2]
theorem encV_len : ∀ x, (encV x).length = 4 := fun _ => rfl
theorem encV_one : ∀ x, (encV x).all Value.oneCell' = true := fun _ => rfl
def varA (v : P4) (t : V4) : HProp := fun h => v.2.2 = t.2.2 ∧ Sat [vecA v.1 t.1, vecA v.2.1 t.2.1] h
structure DS where
  v : VS
  vs : List V4
  cost : Int
structure V4Inv (T : Int) (w : V4) : Prop where
  r : CV w.1
  w : CV w.2.1
structure DInv (x : DS) : Prop where
  v : VInv x.v
  len : (x.vs.length : Int) = x.v.ck.va
  vs : ∀ w ∈ x.vs, CV w.1 ∧ CV w.2.1
  c0 : 0 ≤ x.cost ∧ x.cost ≤ 2 * x.v.ck.n
def dR (pa : Option Addr) (pc : Nat) (po : Option Addr) (poc b : Nat) (x : DS) : HProp := fun h => ∃ vb va vc V, V.length = x.vs.length ∧ Sat [cells b 0 [.pointer (some ⟨vb, 0, none⟩), .slice va x.vs.length vc, .int .i64 x.cost], vsR pa pc po poc vb x.v, own 4 encV va vc V, restL varA V x.vs []] h
section
variable {w0 : World} {ds : List Deferred} {n : Nat} {e : Env} {Γ Γ' : List HProp} {X : Act → World → Prop}
theorem d_open {pa : Option Addr} {pc : Nat} {po : Option Addr} {poc b : Nat} {x : DS} (k : ∀ vb va vc V, V.length = x.vs.length → Le (St w0 ds n e (cells b 0 [.pointer (some ⟨vb, 0, none⟩), .slice va x.vs.length vc, .int .i64 x.cost] :: vsR pa pc po poc vb x.v :: own 4 encV va vc V :: restL varA V x.vs [] :: Γ)) X) : Le (St w0 ds n e (dR pa pc po poc b x :: Γ)) X := fun a w s => by
  obtain ⟨h1, l1, ⟨vb, va, vc, V, hV, a1⟩, s1⟩ := s.heap
  exact k vb va vc V hV a w ⟨s.defers, s.size, s.env, Bun.unfold ⟨h1, l1, a1, s1⟩, s.amb⟩
theorem d_fold {b : Nat} (x : DS) {pa : Option Addr} {pc : Nat} {po : Option Addr} {poc vb m vc : Nat} {va : Option Addr} {V : List P4} {y : VS} {Y : List V4} {c : Int}
    (tk : Takes Γ [cells b 0 [.pointer (some ⟨vb, 0, none⟩), .slice va m vc, .int .i64 c], vsR pa pc po poc vb y, own 4 encV va vc V, restL varA V Y []] Γ') (hx : x = ⟨y, Y, c⟩) (h1 : m = Y.length) (h2 : V.length = Y.length)
    (k : Le (St w0 ds n e (dR pa pc po poc b x :: Γ')) X) : Le (St w0 ds n e Γ) X := s_heap (fun h s => by
  subst h1 hx
  obtain ⟨h1, l1, a1, s1⟩ := Bun.fold (tk h s)
  exact ⟨h1, l1, ⟨vb, va, vc, V, h2, a1⟩, s1⟩) k
theorem s_var {v : P4} {t : V4} (tk : Take Γ (varA v t) Γ') (k : v.2.2 = t.2.2 → Le (St w0 ds n e (vecA v.1 t.1 :: vecA v.2.1 t.2.1 :: Γ')) X) : Le (St w0 ds n e Γ) X := fun x w s => by
  obtain ⟨h1, l1, ⟨a1, a2⟩, s1⟩ := tk _ s.heap
  exact k a1 x w ⟨s.defers, s.size, s.env, Bun.unfold ⟨h1, l1, a2, s1⟩, s.amb⟩
theorem s_varF (v : P4) (t : V4) (tk : Takes Γ [vecA v.1 t.1, vecA v.2.1 t.2.1] Γ') (hv : v.2.2 = t.2.2) (k : Le (St w0 ds n e (varA v t :: Γ')) X) : Le (St w0 ds n e Γ) X := s_heap (fun h s => by
  obtain ⟨h1, l1, a1, s1⟩ := Bun.fold (tk h s)
  exact ⟨h1, l1, ⟨hv, a1⟩, s1⟩) k
end
def v0 : V4 := ([], [], 0, false)
def dNew (th va vo lk : Int) (pl : List Int) : DS := ⟨vNew th va vo lk pl, List.replicate va.toNat v0, 0⟩
theorem new_dinv {th va vo lk : Int} {pl : List Int} (hok : OkS th va vo lk pl) (hc : CInv (newF th va vo lk pl)) : DInv (dNew th va vo lk pl) :=
  ⟨new_vinv hok hc, by have := hok.va; simp [dNew, vNew, newF]; omega, fun w hw => by rw [(List.mem_replicate.1 hw).2]; exact ⟨Vc.nil_cv, Vc.nil_cv⟩, by simp [dNew, vNew, newF]⟩
theorem begin_spec (th va vo lk : Int) (pl : List Int) (ao : Option Addr) (n c : Nat) (A : HProp) (hr : RdS A ao (pl.flatMap encZ)) (hn : pl.length = n) (hb : n ≤ 4000000) (hok : OkS th va vo lk pl) : Spec Try.prog 41 [.agg #[.int .i64 th, .int .i64 va, .int .i64 vo, .int .i64 lk, .slice ao n c]] [A] (fun (r : (Nat × Nat × Option Addr × Nat) × Option Addr × Nat) => .tuple #[.pointer (some ⟨r.1.1, 0, none⟩), .int .i64 0]) (fun r => True) (fun r => [A, own 1 encZ r.1.2.2.1 r.1.2.2.2 pl, own 1 encZ r.2.1 r.2.2 pl, vsR r.1.2.2.1 r.1.2.2.2 r.2.1 r.2.2 r.1.1 (vNew th va vo lk pl)]) := by
 refine spec_mk (n := 33) Try.func41 rfl rfl rfl ?_
 intro Γ w0
 simp only [argE, List.cons_append, List.nil_append, Nat.zero_add, Nat.reduceAdd]
 refine c_seq ?_
 refine c_plain ((.l 0 [] (.q 1 (.q 2 (.done))))) (by kernel_rfl) ?_
 refine l_box rfl rfl rfl rfl (us := [_, _, _, _, _]) rfl ?_
 intro b1
 refine ag_nil ?_
 refine q_assign rfl rfl rfl rfl ?_
 refine q_assign rfl rfl rfl rfl ?_
 refine r_done ?_
 refine k_then_n ?_
 refine c_seq ?_
 refine c_plain (.q 0 ((.l 1 [] (.q 2 (.q 3 (.q 4 (.q 5 (.q 6 (.done))))))))) (by kernel_rfl) ?_
 refine q_loadN_c rfl rfl rfl rfl Try.isAgg24 Try.sizeOf24 Tk 0 (us := [_, _, _, _, _]) (by first | rfl | exact (Nat.add_zero _).symm) rfl rfl ?_
 have sp_1 := Fe.new_spec th va vo lk pl ao n c A (hr) (by first | rfl | assumption | omega | (simp; done) | (simp; omega)) (by omega) hok
 refine l_call rfl rfl rfl rfl rfl rfl Try.call57 (sp_1) Ts ?_
 rintro ⟨nb, nbp, nbc⟩ -
 try simp only [List.cons_append, List.nil_append]
 refine ag_nil ?_
 refine q_move rfl rfl rfl rfl ?_
 refine q_extract rfl rfl rfl rfl rfl ?_
 refine q_extract rfl rfl rfl rfl rfl ?_
 refine q_assign rfl rfl rfl rfl ?_
 refine q_assign rfl rfl rfl rfl ?_
 refine r_done ?_
 refine s_keep [1, 4, 5] (e' := [(1, _), (4, _), (5, _)]) rfl ?_
 refine k_then_n ?_
 refine c_seq ?_
 refine c_seq ?_
 refine c_plain (.q 0 (.q 1 (.done))) (by kernel_rfl) ?_
 refine q_move rfl rfl rfl rfl ?_
 refine q_int rfl rfl rfl rfl rfl (b_neq _ _ _ _) ?_
 refine s_eq 14 rfl (v' := .bool false) (by first | rfl | simp) ?_
 refine r_done ?_
 refine k_then_n ?_
 refine c_cond_f rfl ?_
 refine c_skip ?_
 refine k_then_n ?_
 refine c_seq ?_
 refine c_plain ((.l 0 [] ((.l 1 [] (.q 2 (.q 3 (.q 4 (.q 5 (.q 6 (.done)))))))))) (by kernel_rfl) ?_
 refine l_buildSlice rfl rfl rfl rfl (run_build1 (us := [_]) Try.underlying31 Try.sizeOf35 rfl Try.zeroValue35 rfl rfl rfl) ?_
 intro b17
 refine ag_nil ?_
 have sp_2 := Vc.of_spec ([1]) (some ⟨b17, 0, none⟩) 1 1 (cells b17 0 [.int .u64 1]) (by first | rfl | assumption | omega | (simp; done) | (simp; omega)) (rds_some rdn_cells) (by omega) (by decide)
 refine l_call rfl rfl rfl rfl rfl rfl Try.call58 (sp_2) Ts ?_
 rintro ⟨qb, qa, qc⟩ -
 try simp only [List.cons_append, List.nil_append]
 refine ag_nil ?_
 refine q_move rfl rfl rfl rfl ?_
 refine q_extract rfl rfl rfl rfl rfl ?_
 refine q_extract rfl rfl rfl rfl rfl ?_
 refine q_assign rfl rfl rfl rfl ?_
 refine q_assign rfl rfl rfl rfl ?_
 refine r_done ?_
 rw [show tr [1] = [1] from by decide]
 refine s_keep [1, 4, 6] (e' := [(1, _), (4, _), (6, _)]) rfl ?_
 refine k_then_n ?_
 refine c_seq ?_
 refine c_plain (.q 0 (.q 1 (.q 2 ((.l 3 [] ((.l 4 [] (.q 5 ((.l 6 [] (.q 7 ((.l 8 [] ((.l 9 [] ((.l 10 [] (.q 11 ((.l 12 [] (.q 13 (.q 14 (.done))))))))))))))))))))))) (by kernel_rfl) ?_
 refine q_move rfl rfl rfl rfl ?_
 refine q_field (k := 4) rfl rfl rfl rfl Try.underlying24 rfl Try.sizeOf22 rfl ?_
 refine q_load_c (j := 4) rfl rfl rfl rfl Try.isAgg22 Tk (by first | rfl | exact (Nat.add_zero _).symm) (by rfl) ?_
 refine s_heap (fun _ h => own_nil (sz := 1) (enc := encZ) h) ?_
 refine l_append (sz := 1) (enc := encZ) (xs := []) rfl rfl rfl rfl rfl Try.underlying22 Try.typeInfo3 rfl rfl rfl (by decide) Tk Tk (by first | rfl | omega | (simp; done) | (simp; omega)) (ys := pl) (hr) (by rfl) (by first | rfl | omega) (encZ_len) (encZ_one) (by omega) (by show _ * 8 ≤ _; omega) ?_
 intro ao24 cp24
 try simp only [List.nil_append]
 refine ag_nil ?_
 refine l_makeMap Int (Option Addr) ekZ evA rfl rfl rfl ?_
 intro m1
 refine ag_nil ?_
 refine q_move rfl rfl rfl rfl ?_
 refine l_mapUpd (ek := ekZ) (ev1 := evA) (F := (noF : Int → Option (Option Addr))) (m := m1) (k := 0) (v := (some ⟨qb, 0, none⟩ : Option Addr)) (by first | exact .inl rfl | exact .inr rfl) rfl rfl rfl rfl Try.underlying84 (keyOK_int Try.underlying3) Tk ?_
 refine ag_nil ?_
 refine q_move rfl rfl rfl rfl ?_
 refine l_makeMap Int (Option Addr) ekZ evA rfl rfl rfl ?_
 intro m2
 refine ag_nil ?_
 refine l_makeMap Int (Option Addr) ekZ evA rfl rfl rfl ?_
 intro m3
 refine ag_nil ?_
 refine l_makeMap (Int × Int) (Option Addr × Int) ek2 evH rfl rfl rfl ?_
 intro m4
 refine ag_nil ?_
 refine q_build rfl rfl rfl rfl (vs := [_, _, _, _, _, _]) (run_buildS Try.underlying87 Try.zeroValue87 (ps := [(0, 1), (1, 1), (2, 1), (3, 1), (4, 1), (5, 1)]) ⟨rfl, Try.sizeOf83, rfl, Try.sizeOf22, rfl, Try.sizeOf84, rfl, Try.sizeOf84, rfl, Try.sizeOf84, rfl, Try.sizeOf85, trivial⟩ rfl) ?_
 refine l_box rfl rfl rfl rfl (us := [_, _, _, _, _, _]) rfl ?_
 intro b32
 refine ag_nil ?_
 refine q_assign rfl rfl rfl rfl ?_
 refine q_assign rfl rfl rfl rfl ?_
 refine r_done ?_
 refine s_keep [2, 3] (e' := [(2, _), (3, _)]) rfl ?_
 refine k_then_n ?_
 refine c_ret ?_
 refine s_vecF qb qa qc [1] Ts ?_
 refine s_rest_new (res := vecA) (noF : Int → Option (Option Addr)) (noF : Int → Option (List Int)) (fun _ => rfl) (fun _ => rfl) ?_
 refine s_rest_opt (F := (noF : Int → Option (Option Addr))) (T := (noF : Int → Option (List Int))) (S := []) (0 : Int) Tk (by simp) fun _ => ?_
 refine s_rest_put (F := (noF : Int → Option (Option Addr))) (T := (noF : Int → Option (List Int))) (S := []) (0 : Int) (upd noF 0 (some (some ⟨qb, 0, none⟩))) (upd noF 0 (some [1])) Ts (by simp) upd_same (fun q h _ => upd_ne h) upd_same (fun q h _ => upd_ne h) ?_
 refine s_rest_new (res := vecA) (noF : Int → Option (Option Addr)) (noF : Int → Option (List Int)) (fun _ => rfl) (fun _ => rfl) ?_
 refine s_rest_new (res := vecA) (noF : Int → Option (Option Addr)) (noF : Int → Option (List Int)) (fun _ => rfl) (fun _ => rfl) ?_
 refine s_rest_new (res := heldA) (noF : Int × Int → Option (Option Addr × Int)) (noF : Int × Int → Option (List Int × Int)) (fun _ => rfl) (fun _ => rfl) ?_
 refine vs_fold (b := b32) (vNew th va vo lk pl) (pa := nbp) (pc := nbc) (po := ao24) (poc := cp24) (cb := nb) (m1 := m1) (m2 := m2) (m3 := m3) (m4 := m4) Ts (by rfl) (by show 0 + n = pl.length; omega) ?_
 refine ret2 rfl rfl rfl (((b32, nb, nbp, nbc), ao24, cp24)) (by first | rfl | (first | rfl | (congr 1; done) | (congr 1 <;> first | rfl | omega | (simp; done) | (simp; omega)))) (by trivial) ?_
 exact Tf
end Go.Ab.Dj
set_option linter.unusedVariables false
set_option linter.unusedSimpArgs false
set_option maxRecDepth 100000
namespace Go.Ab.Dj
open Go Go.Proofs Go.Ab Go.Ab.Fe Go.Ab.Vc
theorem cnew_spec : Spec Try.prog 42 [] [] (fun (r : Nat) => .pointer (some ⟨r, 0, none⟩)) (fun r => True) (fun r => [cells r 0 [.slice none 0 0]]) := by
 refine spec_mk (n := 3) Try.func42 rfl rfl rfl ?_
 intro Γ w0
 simp only [argE, List.cons_append, List.nil_append, Nat.zero_add, Nat.reduceAdd]
 refine c_seq ?_
 refine c_plain (.q 0 (.done)) (by kernel_rfl) ?_
 refine q_assign rfl rfl rfl rfl ?_
 refine r_done ?_
 refine k_then_n ?_
 refine c_seq ?_
 refine c_plain (.q 0 ((.l 1 [] (.q 2 (.done))))) (by kernel_rfl) ?_
 refine q_build rfl rfl rfl rfl (vs := [_]) (run_buildS Try.underlying118 Try.zeroValue118 (ps := [(0, 1)]) ⟨rfl, Try.sizeOf31, trivial⟩ rfl) ?_
 refine l_box rfl rfl rfl rfl (us := [_]) rfl ?_
 intro b2
 refine ag_nil ?_
 refine q_assign rfl rfl rfl rfl ?_
 refine r_done ?_
 refine k_then_n ?_
 refine c_ret ?_
 refine ret1 rfl rfl (b2) (by first | rfl | (first | rfl | (congr 1; done) | (congr 1 <;> first | rfl | omega | (simp; done) | (simp; omega)))) (by trivial) ?_
 exact Tf
theorem there_spec (b vb : Nat) (v1 v2 : Value) : Spec Try.prog 38 [.pointer (some ⟨b, 0, none⟩)] [cells b 0 [.pointer (some ⟨vb, 0, none⟩), v1, v2]] (fun (_ : Unit) => .bool true) (fun _ => True) (fun _ => [cells b 0 [.pointer (some ⟨vb, 0, none⟩), v1, v2]]) := by
 refine spec_mk (n := 12) Try.func38 rfl rfl rfl ?_
 intro Γ w0
 simp only [argE, List.cons_append, List.nil_append, Nat.zero_add, Nat.reduceAdd]
 refine c_seq ?_
 refine c_plain (.q 0 (.done)) (by kernel_rfl) ?_
 refine q_assign rfl rfl rfl rfl ?_
 refine r_done ?_
 refine k_then_n ?_
 refine c_seq ?_
 refine c_plain (.q 0 (.q 1 (.q 2 (.q 3 (.q 4 (.q 5 (.q 6 (.q 7 (.q 8 (.q 9 (.done))))))))))) (by kernel_rfl) ?_
 refine q_move rfl rfl rfl rfl ?_
 refine q_ne_nil rfl rfl rfl rfl Try.underlying30 ?_
 refine s_eq 4 rfl (v' := .bool true) rfl ?_
 refine q_move rfl rfl rfl rfl ?_
 refine q_move rfl rfl rfl rfl ?_
 refine q_nil_p rfl rfl rfl rfl ?_
 refine q_field (k := 0) rfl rfl rfl rfl Try.underlying91 rfl Try.sizeOf88 rfl ?_
 refine q_load_c (j := 0) rfl rfl rfl rfl Try.isAgg88 Tk (by first | rfl | exact (Nat.add_zero _).symm) (by rfl) ?_
 refine q_ne_nil rfl rfl rfl rfl Try.underlying88 ?_
 refine s_eq 10 rfl (v' := .bool true) rfl ?_
 refine q_pick_t rfl rfl rfl rfl rfl ?_
 refine q_assign rfl rfl rfl rfl ?_
 refine r_done ?_
 refine s_keep [2] (e' := [(2, _)]) rfl ?_
 refine k_then_n ?_
 refine c_ret ?_
 refine ret1 rfl rfl (()) (by first | rfl | (first | rfl | (congr 1; done) | (congr 1 <;> first | rfl | omega | (simp; done) | (simp; omega)))) (by trivial) ?_
 exact Tf
theorem new_spec (th va vo lk : Int) (pl : List Int) (ao : Option Addr) (n c : Nat) (A : HProp) (hr : RdS A ao (pl.flatMap encZ)) (hn : pl.length = n) (hb : n ≤ 4000000) (hok : OkS th va vo lk pl) : Spec Try.prog 15 [.agg #[.int .i64 th, .int .i64 va, .int .i64 vo, .int .i64 lk, .slice ao n c]] [A] (fun (r : Nat × (Option Addr × Nat) × Option Addr × Nat) => .tuple #[.pointer (some ⟨r.1, 0, none⟩), .int .i64 0]) (fun r => True) (fun r => [A, own 1 encZ r.2.1.1 r.2.1.2 pl, own 1 encZ r.2.2.1 r.2.2.2 pl, dR r.2.1.1 r.2.1.2 r.2.2.1 r.2.2.2 r.1 (dNew th va vo lk pl)]) := by
 refine spec_mk (n := 36) Try.func15 rfl rfl rfl ?_
 intro Γ w0
 simp only [argE, List.cons_append, List.nil_append, Nat.zero_add, Nat.reduceAdd]
 refine c_seq ?_
 refine c_plain ((.l 0 [] (.q 1 (.q 2 (.done))))) (by kernel_rfl) ?_
 refine l_box rfl rfl rfl rfl (us := [_, _, _, _, _]) rfl ?_
 intro b1
 refine ag_nil ?_
 refine q_assign rfl rfl rfl rfl ?_
 refine q_assign rfl rfl rfl rfl ?_
 refine r_done ?_
 refine k_then_n ?_
 refine c_seq ?_
 refine c_plain (.q 0 ((.l 1 [] (.q 2 (.q 3 (.q 4 (.q 5 (.q 6 (.done))))))))) (by kernel_rfl) ?_
 refine q_loadN_c rfl rfl rfl rfl Try.isAgg24 Try.sizeOf24 Tk 0 (us := [_, _, _, _, _]) (by first | rfl | exact (Nat.add_zero _).symm) rfl rfl ?_
 have sp_1 := begin_spec th va vo lk pl ao n c A hr hn hb hok
 refine l_call rfl rfl rfl rfl rfl rfl Try.call41 (sp_1) Ts ?_
 rintro ⟨⟨vb, cbx, pa, pc⟩, po, poc⟩ -
 try simp only [List.cons_append, List.nil_append]
 refine ag_nil ?_
 refine q_move rfl rfl rfl rfl ?_
 refine q_extract rfl rfl rfl rfl rfl ?_
 refine q_extract rfl rfl rfl rfl rfl ?_
 refine q_assign rfl rfl rfl rfl ?_
 refine q_assign rfl rfl rfl rfl ?_
 refine r_done ?_
 refine s_keep [1, 4, 5] (e' := [(1, _), (4, _), (5, _)]) rfl ?_
 refine k_then_n ?_
 refine c_seq ?_
 refine c_seq ?_
 refine c_plain (.q 0 (.q 1 (.done))) (by kernel_rfl) ?_
 refine q_move rfl rfl rfl rfl ?_
 refine q_int rfl rfl rfl rfl rfl (b_neq _ _ _ _) ?_
 refine s_eq 13 rfl (v' := .bool false) (by first | rfl | simp) ?_
 refine r_done ?_
 refine k_then_n ?_
 refine c_cond_f rfl ?_
 refine c_skip ?_
 refine k_then_n ?_
 refine c_seq ?_
 refine c_plain (.q 0 (.q 1 ((.l 2 [] (.q 3 (.done)))))) (by kernel_rfl) ?_
 refine q_move rfl rfl rfl rfl ?_
 refine q_build rfl rfl rfl rfl (vs := [_, _, _]) (run_buildS Try.underlying91 Try.zeroValue91 (ps := [(0, 1), (1, 1), (2, 1)]) ⟨rfl, Try.sizeOf88, rfl, Try.sizeOf89, rfl, Try.sizeOf3, trivial⟩ rfl) ?_
 refine l_box rfl rfl rfl rfl (us := [_, _, _]) rfl ?_
 intro b17
 refine ag_nil ?_
 refine q_assign rfl rfl rfl rfl ?_
 refine r_done ?_
 refine s_keep [1, 6] (e' := [(1, _), (6, _)]) rfl ?_
 refine k_then_n ?_
 refine c_seq ?_
 refine c_seq ?_
 obtain ⟨nv, hnv⟩ : ∃ q : Nat, va = (q : Int) := ⟨va.toNat, by have := hok.va; omega⟩
 have hvb := hok.va
 refine s_restL_nil (res := varA) ?_
 refine s_heap (fun _ h => own_nil (sz := 4) (enc := encV) h) ?_
 refine c_plain (.q 0 (.q 1 (.q 2 (.done)))) (by kernel_rfl) ?_
 refine q_field (k := 1) rfl rfl rfl rfl Try.underlying24 rfl Try.sizeOf3 rfl ?_
 refine q_load_c (j := 1) rfl rfl rfl rfl Try.isAgg3 Tk (by first | rfl | exact (Nat.add_zero _).symm) (by rfl) ?_
 refine s_eq 19 rfl (v' := .int .i64 ((nv : Nat) : Int)) (by rw [hnv]) ?_
 refine q_move rfl rfl rfl rfl ?_
 refine r_done ?_
 refine k_then_n ?_
 refine c_block ?_
 refine c_loop2 (α := Nat × List P4 × Option Addr × Nat) (fun (x_ : Nat × List P4 × Option Addr × Nat) => match x_ with | (k, GV, ga, gc) => k ≤ nv ∧ (GV.length = k)) (fun (x_ : Nat × List P4 × Option Addr × Nat) => match x_ with | (k, GV, ga, gc) => [(20, .int .i64 ((k : Nat) : Int))]) (fun (x_ : Nat × List P4 × Option Addr × Nat) => match x_ with | (k, GV, ga, gc) => [restL varA GV (List.replicate k v0) [], cells b17 0 [.pointer (some ⟨vb, 0, none⟩), .slice ga GV.length gc, .int .i64 0], own 4 encV ga gc GV]) (fun (x_ : Nat × List P4 × Option Addr × Nat) => match x_ with | (k, GV, ga, gc) => nv - k) [6, 19] (er := [(6, _), (19, _)]) rfl (0, ([] : List P4), none, 0) ?_ (by exact ⟨rfl, trivial⟩) (by (try dsimp only); (try simp only [Nat.add_zero, Nat.zero_add]); (repeat ((with_reducible apply Z2); focus (first | (with_reducible (repeat (first | exact Z0 | apply Z1)); done) | (repeat (first | exact Z0 | apply Z1))))); exact Z3) ?_
 · exact ⟨Nat.zero_le _, rfl⟩
 rintro ⟨k, GV, ga, gc⟩ ⟨hle_k, hGV⟩
 try simp only [List.cons_append, List.nil_append]
 refine c_seq ?_
 refine c_plain (.q 0 (.done)) (by kernel_rfl) ?_
 refine q_int rfl rfl rfl rfl rfl (b_lss _ _ _ _) ?_
 refine r_done ?_
 refine k_then_n ?_
 refine c_seq ?_
 refine c_cond_p rfl (fun hlt => ?_) (fun hlt => ?_)
 ·
  refine c_skip ?_
  refine k_then_n ?_
  refine c_seq ?_
  refine c_block ?_
  refine c_draw rfl (.q 0 (.q 1 (.q 2 (.q 3 (.q 4 ((.l 5 [4] ((.l 6 [4] (.q 7 ((.l 8 [4] ((.l 9 [] (.q 10 (.q 11 ((.l 12 [] (.done))))))))))))))))))) (by kernel_rfl) ?_
  refine q_move rfl rfl rfl rfl ?_
  refine q_move rfl rfl rfl rfl ?_
  refine q_nil_p rfl rfl rfl rfl ?_
  refine q_field (k := 1) rfl rfl rfl rfl Try.underlying91 rfl Try.sizeOf89 rfl ?_
  refine q_load_c (j := 1) rfl rfl rfl rfl Try.isAgg89 Tk (by first | rfl | exact (Nat.add_zero _).symm) (by rfl) ?_
  have sp_2 := cnew_spec
  refine l_call rfl rfl rfl rfl rfl rfl Try.call42 (sp_2) Ts ?_
  rintro rb -
  try simp only [List.cons_append, List.nil_append]
  refine ag_load_c (q := 1) rfl rfl rfl Try.isAgg89 Tk (by first | rfl | exact (Nat.add_zero _).symm) (by rfl) ?_
  refine ag_nil ?_
  have sp_3 := cnew_spec
  refine l_call rfl rfl rfl rfl rfl rfl Try.call42 (sp_3) Ts ?_
  rintro wb -
  try simp only [List.cons_append, List.nil_append]
  refine ag_load_c (q := 1) rfl rfl rfl Try.isAgg89 Tk (by first | rfl | exact (Nat.add_zero _).symm) (by rfl) ?_
  refine ag_nil ?_
  refine q_build rfl rfl rfl rfl (vs := [_, _, _, _]) (run_buildS Try.underlying99 Try.zeroValue99 (ps := [(0, 1), (1, 1), (2, 1), (3, 1)]) ⟨rfl, Try.sizeOf82, rfl, Try.sizeOf82, rfl, Try.sizeOf3, rfl, Try.sizeOf4, trivial⟩ rfl) ?_
  refine l_buildSlice rfl rfl rfl rfl (run_build1 (us := [_, _, _, _]) Try.underlying89 Try.sizeOf99 rfl Try.zeroValue99 rfl rfl rfl) ?_
  intro b30
  refine ag_load_c (q := 1) rfl rfl rfl Try.isAgg89 Tk (by first | rfl | exact (Nat.add_zero _).symm) (by rfl) ?_
  refine ag_nil ?_
  refine l_append (sz := 4) (enc := encV) (xs := GV) rfl rfl rfl rfl rfl Try.underlying89 Try.typeInfo99 rfl rfl rfl (by decide) Tk Tk (by first | rfl | omega | (simp; done) | (simp; omega)) (ys := [((some ⟨rb, 0, none⟩ : Option Addr), (some ⟨wb, 0, none⟩ : Option Addr), 0, false)]) (rds_some rdn_cells) (by rfl) (by first | rfl | omega) (encV_len) (encV_one) (by omega) (by show _ * 32 ≤ _; omega) ?_
  intro ao31 cp31
  refine ag_nil ?_
  refine q_nil_p rfl rfl rfl rfl ?_
  refine q_field (k := 1) rfl rfl rfl rfl Try.underlying91 rfl Try.sizeOf89 rfl ?_
  refine l_store (j := 1) rfl rfl rfl rfl Try.sizeOf89 (us := [_]) rfl rfl rfl Tk (by first | rfl | exact (Nat.add_zero _).symm) (by first | decide | (simp; done) | omega) ?_
  simp only [setL, List.set]
  refine ag_nil ?_
  refine r_done ?_
  refine s_heap (fun _ h => own_nil (sz := 1) (enc := encU) h) ?_
  refine s_vecF rb none 0 [] Ts ?_
  refine s_heap (fun _ h => own_nil (sz := 1) (enc := encU) h) ?_
  refine s_vecF wb none 0 [] Ts ?_
  refine s_varF (some ⟨rb, 0, none⟩, some ⟨wb, 0, none⟩, 0, false) v0 Ts rfl ?_
  refine s_restL_push ((some ⟨rb, 0, none⟩, some ⟨wb, 0, none⟩, 0, false) : P4) v0 Ts (by simp [hGV]) ?_
  rw [← List.replicate_succ']
  refine s_keep [6, 19, 20] (e' := [(6, _), (19, _), (20, _)]) rfl ?_
  refine k_blk_n ?_
  refine k_then_n ?_
  refine c_plain (.q 0 (.q 1 (.done))) (by kernel_rfl) ?_
  refine q_int rfl rfl rfl rfl rfl (b_add' _ (by exact fits_i64 (by omega) (by omega))) ?_
  refine q_move rfl rfl rfl rfl ?_
  refine r_done ?_
  refine k_then_n ?_
  have hgl2 : (GV ++ [(some ⟨rb, 0, none⟩, some ⟨wb, 0, none⟩, 0, false)] : List P4).length = GV.length + 1 := by simp
  refine s_take (A := cells b17 0 [.pointer (some ⟨vb, 0, none⟩), .slice ao31 (GV.length + 1) cp31, .int .i64 0]) Td ?_
  refine s_heap (Γ' := cells b17 0 [.pointer (some ⟨vb, 0, none⟩), .slice ao31 (GV ++ [(some ⟨rb, 0, none⟩, some ⟨wb, 0, none⟩, 0, false)] : List P4).length cp31, .int .i64 0] :: _) (fun _ h => (by rw [hgl2]; exact h)) ?_
  refine loop_next (x := (k, GV, ga, gc)) ((k + 1, GV ++ [(some ⟨rb, 0, none⟩, some ⟨wb, 0, none⟩, 0, false)], ao31, cp31)) ?_ ?_ ?_ ?_
  · try dsimp only
    exact ⟨by omega, by simp [hGV]⟩
  · show nv - (k + 1) < nv - k; omega
  · exact ⟨rfl, rfl, rfl, trivial⟩
  · (try simp only [List.cons_append, List.nil_append]); exact Tf
 ·
  refine c_exit ?_
  refine k_then_exit ?_
  refine k_then_exit ?_
  refine k_blk_here ?_
  refine k_then_n ?_
  refine c_seq ?_
  refine c_plain (.q 0 (.q 1 (.q 2 (.done)))) (by kernel_rfl) ?_
  refine q_move rfl rfl rfl rfl ?_
  refine q_assign rfl rfl rfl rfl ?_
  refine q_assign rfl rfl rfl rfl ?_
  refine r_done ?_
  refine s_keep [2, 3] (e' := [(2, _), (3, _)]) rfl ?_
  refine k_then_n ?_
  refine c_ret ?_
  obtain rfl : k = nv := by omega
  refine d_fold (b := b17) (dNew th va vo lk pl) (pa := pa) (pc := pc) (po := po) (poc := poc) (vb := vb) (va := ga) (vc := gc) (V := GV) Ts (by rw [dNew, hnv, Int.toNat_natCast]) (by rw [hGV, List.length_replicate]) (by rw [hGV, List.length_replicate]) ?_
  refine ret2 rfl rfl rfl ((b17, (pa, pc), po, poc)) (by first | rfl | (first | rfl | (congr 1; done) | (congr 1 <;> first | rfl | omega | (simp; done) | (simp; omega)))) (by trivial) ?_
  exact Tf
theorem len_spec (pa : Option Addr) (pc : Nat) (po : Option Addr) (poc b : Nat) (x : DS) (hx : DInv x) : Spec Try.prog 21 [.pointer (some ⟨b, 0, none⟩)] [dR pa pc po poc b x] (fun (_ : Unit) => .int .i64 x.v.ck.n) (fun _ => True) (fun _ => [dR pa pc po poc b x]) := by
 refine spec_mk (n := 14) Try.func21 rfl rfl rfl ?_
 intro Γ w0
 simp only [argE, List.cons_append, List.nil_append, Nat.zero_add, Nat.reduceAdd]
 refine c_seq ?_
 refine c_plain (.q 0 (.done)) (by kernel_rfl) ?_
 refine q_assign rfl rfl rfl rfl ?_
 refine r_done ?_
 refine k_then_n ?_
 refine c_seq ?_
 refine c_seq ?_
 refine s_take (A := dR pa pc po poc b x) Tk ?_
 refine d_open fun vb va vc V hV => ?_
 refine c_plain (.q 0 ((.l 1 [] (.q 2 (.done))))) (by kernel_rfl) ?_
 refine q_move rfl rfl rfl rfl ?_
 have sp_1 := there_spec b vb (.slice va x.vs.length vc) (.int .i64 x.cost)
 refine l_call rfl rfl rfl rfl rfl rfl Try.call38 (sp_1) Ts ?_
 rintro ⟨⟩ -
 try simp only [List.cons_append, List.nil_append]
 refine ag_nil ?_
 refine q_not rfl rfl rfl rfl ?_
 refine s_eq 5 rfl (v' := .bool false) rfl ?_
 refine r_done ?_
 refine k_then_n ?_
 refine c_cond_f rfl ?_
 refine c_skip ?_
 refine k_then_n ?_
 refine c_seq ?_
 refine s_take (A := vsR pa pc po poc vb x.v) Tk ?_
 refine vs_open fun cb m1 m2 m3 m4 F1 F2 F3 F4 => ?_
 refine c_plain (.q 0 (.q 1 (.q 2 (.q 3 (.q 4 (.q 5 (.q 6 ((.l 7 [] (.q 8 (.done))))))))))) (by kernel_rfl) ?_
 refine q_move rfl rfl rfl rfl ?_
 refine q_nil_p rfl rfl rfl rfl ?_
 refine q_field (k := 0) rfl rfl rfl rfl Try.underlying91 rfl Try.sizeOf88 rfl ?_
 refine q_load_c (j := 0) rfl rfl rfl rfl Try.isAgg88 Tk (by first | rfl | exact (Nat.add_zero _).symm) (by rfl) ?_
 refine q_nil_p rfl rfl rfl rfl ?_
 refine q_field (k := 0) rfl rfl rfl rfl Try.underlying87 rfl Try.sizeOf83 rfl ?_
 refine q_load_c (j := 0) rfl rfl rfl rfl Try.isAgg83 Tk (by first | rfl | exact (Nat.add_zero _).symm) (by rfl) ?_
 have sp_2 := Fe.len_spec pa pc cb x.v.ck
 refine l_call rfl rfl rfl rfl rfl rfl Try.call46 (sp_2) Ts ?_
 rintro ⟨⟩ -
 try simp only [List.cons_append, List.nil_append]
 refine ag_nil ?_
 refine q_assign rfl rfl rfl rfl ?_
 refine r_done ?_
 refine s_keep [2] (e' := [(2, _)]) rfl ?_
 refine k_then_n ?_
 refine c_ret ?_
 refine vs_fold (b := vb) x.v (pa := pa) (pc := pc) (po := po) (poc := poc) (cb := cb) (m1 := m1) (m2 := m2) (m3 := m3) (m4 := m4) Ts (by rfl) (by rfl) ?_
 refine d_fold (b := b) x (pa := pa) (pc := pc) (po := po) (poc := poc) (vb := vb) (va := va) (vc := vc) (V := V) Ts (by rfl) (by rfl) (by first | exact hV | simp) ?_
 refine ret1 rfl rfl (()) (by first | rfl | (first | rfl | (congr 1; done) | (congr 1 <;> first | rfl | omega | (simp; done) | (simp; omega)))) (by trivial) ?_
 exact Tf
theorem vector_some (pa : Option Addr) (pc : Nat) (po : Option Addr) (poc b : Nat) (x : DS) (hx : DInv x) (t : Int) (l : List Int) (hth : x.v.th t = some l) : Spec Try.prog 11 [.pointer (some ⟨b, 0, none⟩), .int .i64 t] [dR pa pc po poc b x] (fun (r : Option Addr × Nat) => .slice r.1 l.length r.2) (fun r => True) (fun r => [dR pa pc po poc b x, own 1 encU r.1 r.2 l]) := by
 refine spec_mk (n := 18) Try.func11 rfl rfl rfl ?_
 intro Γ w0
 simp only [argE, List.cons_append, List.nil_append, Nat.zero_add, Nat.reduceAdd]
 have hlc := (hx.v.thc _ _ hth).len
 refine c_seq ?_
 refine c_plain (.q 0 (.done)) (by kernel_rfl) ?_
 refine q_assign rfl rfl rfl rfl ?_
 refine r_done ?_
 refine k_then_n ?_
 refine c_seq ?_
 refine c_seq ?_
 refine s_take (A := dR pa pc po poc b x) Tk ?_
 refine d_open fun vb va vc V hV => ?_
 refine c_plain (.q 0 ((.l 1 [] (.q 2 (.done))))) (by kernel_rfl) ?_
 refine q_move rfl rfl rfl rfl ?_
 have sp_1 := there_spec b vb (.slice va x.vs.length vc) (.int .i64 x.cost)
 refine l_call rfl rfl rfl rfl rfl rfl Try.call38 (sp_1) Ts ?_
 rintro ⟨⟩ -
 try simp only [List.cons_append, List.nil_append]
 refine ag_nil ?_
 refine q_not rfl rfl rfl rfl ?_
 refine s_eq 7 rfl (v' := .bool false) rfl ?_
 refine r_done ?_
 refine k_then_n ?_
 refine c_cond_f rfl ?_
 refine c_skip ?_
 refine k_then_n ?_
 refine c_seq ?_
 refine s_take (A := vsR pa pc po poc vb x.v) Tk ?_
 refine vs_open fun cb m1 m2 m3 m4 F1 F2 F3 F4 => ?_
 refine s_rest_take (F := F1) (T := x.v.th) (S := []) t Tk (by simp) hth fun tv htF => ?_
 refine s_vec Tk fun tb ta tc hta => ?_
 subst hta
 refine c_plain (.q 0 (.q 1 (.q 2 (.q 3 (.q 4 (.q 5 (.q 6 (.q 7 (.q 8 ((.l 9 [] (.q 10 (.done))))))))))))) (by kernel_rfl) ?_
 refine q_move rfl rfl rfl rfl ?_
 refine q_nil_p rfl rfl rfl rfl ?_
 refine q_field (k := 0) rfl rfl rfl rfl Try.underlying91 rfl Try.sizeOf88 rfl ?_
 refine q_load_c (j := 0) rfl rfl rfl rfl Try.isAgg88 Tk (by first | rfl | exact (Nat.add_zero _).symm) (by rfl) ?_
 refine q_nil_p rfl rfl rfl rfl ?_
 refine q_field (k := 2) rfl rfl rfl rfl Try.underlying87 rfl Try.sizeOf84 rfl ?_
 refine q_load_c (j := 2) rfl rfl rfl rfl Try.isAgg84 Tk (by first | rfl | exact (Nat.add_zero _).symm) (by rfl) ?_
 refine q_move rfl rfl rfl rfl ?_
 refine q_lookup1 (ek := ekZ) (ev1 := evA) (F := F1) (m := m1) (k := t) none rfl rfl rfl rfl rfl Try.underlying84 (keyOK_int Try.underlying3) Try.zeroValue82 Tk ?_
 refine s_eq 16 rfl (v' := .pointer (some ⟨tb, 0, none⟩)) (by rw [htF]; rfl) ?_
 have sp_2 := Vc.list_spec tb l ta l.length tc (by rfl) (by omega)
 refine l_call rfl rfl rfl rfl rfl rfl Try.call39 (sp_2) Ts ?_
 rintro ⟨qa, qc⟩ -
 try simp only [List.cons_append, List.nil_append]
 refine ag_nil ?_
 refine q_assign rfl rfl rfl rfl ?_
 refine r_done ?_
 refine s_keep [4] (e' := [(4, _)]) rfl ?_
 refine k_then_n ?_
 refine c_ret ?_
 refine s_vecF tb ta tc l Ts ?_
 refine s_rest_put (F := F1) (T := x.v.th) (S := []) t F1 x.v.th Ts (by simp) htF (fun _ _ _ => rfl) hth (fun _ _ _ => rfl) ?_
 refine vs_fold (b := vb) x.v (pa := pa) (pc := pc) (po := po) (poc := poc) (cb := cb) (m1 := m1) (m2 := m2) (m3 := m3) (m4 := m4) Ts (by rfl) (by rfl) ?_
 refine d_fold (b := b) x (pa := pa) (pc := pc) (po := po) (poc := poc) (vb := vb) (va := va) (vc := vc) (V := V) Ts (by rfl) (by rfl) (by first | exact hV | simp) ?_
 refine ret1 rfl rfl ((qa, qc)) (by first | rfl | (first | rfl | (congr 1; done) | (congr 1 <;> first | rfl | omega | (simp; done) | (simp; omega)))) (by trivial) ?_
 exact Tf
theorem list_nil : Spec Try.prog 39 [.pointer none] [] (fun (_ : Unit) => .slice none 0 0) (fun _ => True) (fun _ => []) := by
 refine spec_mk (n := 10) Try.func39 rfl rfl rfl ?_
 intro Γ w0
 simp only [argE, List.cons_append, List.nil_append, Nat.zero_add, Nat.reduceAdd]
 refine c_seq ?_
 refine c_plain (.q 0 (.done)) (by kernel_rfl) ?_
 refine q_assign rfl rfl rfl rfl ?_
 refine r_done ?_
 refine k_then_n ?_
 refine c_seq ?_
 refine c_seq ?_
 refine c_plain (.q 0 (.q 1 (.done))) (by kernel_rfl) ?_
 refine q_move rfl rfl rfl rfl ?_
 refine q_eq_nil rfl rfl rfl rfl Try.underlying82 ?_
 refine s_eq 4 rfl (v' := .bool true) rfl ?_
 refine r_done ?_
 refine k_then_n ?_
 refine c_cond_t rfl ?_
 refine c_seq ?_
 refine c_plain (.q 0 (.done)) (by kernel_rfl) ?_
 refine q_assign rfl rfl rfl rfl ?_
 refine r_done ?_
 refine k_then_n ?_
 refine c_ret ?_
 refine k_then_ret ?_
 refine ret1 rfl rfl (()) (by first | rfl | (first | rfl | (congr 1; done) | (congr 1 <;> first | rfl | omega | (simp; done) | (simp; omega)))) (by trivial) ?_
 exact Tf
theorem vector_none (pa : Option Addr) (pc : Nat) (po : Option Addr) (poc b : Nat) (x : DS) (hx : DInv x) (t : Int) (hth : x.v.th t = none) : Spec Try.prog 11 [.pointer (some ⟨b, 0, none⟩), .int .i64 t] [dR pa pc po poc b x] (fun (_ : Unit) => .slice none 0 0) (fun _ => True) (fun _ => [dR pa pc po poc b x]) := by
 refine spec_mk (n := 18) Try.func11 rfl rfl rfl ?_
 intro Γ w0
 simp only [argE, List.cons_append, List.nil_append, Nat.zero_add, Nat.reduceAdd]
 refine c_seq ?_
 refine c_plain (.q 0 (.done)) (by kernel_rfl) ?_
 refine q_assign rfl rfl rfl rfl ?_
 refine r_done ?_
 refine k_then_n ?_
 refine c_seq ?_
 refine c_seq ?_
 refine s_take (A := dR pa pc po poc b x) Tk ?_
 refine d_open fun vb va vc V hV => ?_
 refine c_plain (.q 0 ((.l 1 [] (.q 2 (.done))))) (by kernel_rfl) ?_
 refine q_move rfl rfl rfl rfl ?_
 have sp_1 := there_spec b vb (.slice va x.vs.length vc) (.int .i64 x.cost)
 refine l_call rfl rfl rfl rfl rfl rfl Try.call38 (sp_1) Ts ?_
 rintro ⟨⟩ -
 try simp only [List.cons_append, List.nil_append]
 refine ag_nil ?_
 refine q_not rfl rfl rfl rfl ?_
 refine s_eq 7 rfl (v' := .bool false) rfl ?_
 refine r_done ?_
 refine k_then_n ?_
 refine c_cond_f rfl ?_
 refine c_skip ?_
 refine k_then_n ?_
 refine c_seq ?_
 refine s_take (A := vsR pa pc po poc vb x.v) Tk ?_
 refine vs_open fun cb m1 m2 m3 m4 F1 F2 F3 F4 => ?_
 refine s_rest_miss (F := F1) (T := x.v.th) (S := []) t Tk (by simp) hth fun htF => ?_
 refine c_plain (.q 0 (.q 1 (.q 2 (.q 3 (.q 4 (.q 5 (.q 6 (.q 7 (.q 8 ((.l 9 [] (.q 10 (.done))))))))))))) (by kernel_rfl) ?_
 refine q_move rfl rfl rfl rfl ?_
 refine q_nil_p rfl rfl rfl rfl ?_
 refine q_field (k := 0) rfl rfl rfl rfl Try.underlying91 rfl Try.sizeOf88 rfl ?_
 refine q_load_c (j := 0) rfl rfl rfl rfl Try.isAgg88 Tk (by first | rfl | exact (Nat.add_zero _).symm) (by rfl) ?_
 refine q_nil_p rfl rfl rfl rfl ?_
 refine q_field (k := 2) rfl rfl rfl rfl Try.underlying87 rfl Try.sizeOf84 rfl ?_
 refine q_load_c (j := 2) rfl rfl rfl rfl Try.isAgg84 Tk (by first | rfl | exact (Nat.add_zero _).symm) (by rfl) ?_
 refine q_move rfl rfl rfl rfl ?_
 refine q_lookup1 (ek := ekZ) (ev1 := evA) (F := F1) (m := m1) (k := t) none rfl rfl rfl rfl rfl Try.underlying84 (keyOK_int Try.underlying3) Try.zeroValue82 Tk ?_
 refine s_eq 16 rfl (v' := .pointer none) (by rw [htF]; rfl) ?_
 refine l_call rfl rfl rfl rfl rfl rfl Try.call39 (list_nil) Ts ?_
 rintro ⟨⟩ -
 try simp only [List.cons_append, List.nil_append]
 refine ag_nil ?_
 refine q_assign rfl rfl rfl rfl ?_
 refine r_done ?_
 refine s_keep [4] (e' := [(4, _)]) rfl ?_
 refine k_then_n ?_
 refine c_ret ?_
 refine s_rest_none (F := F1) (T := x.v.th) (S := []) t F1 x.v.th Tk htF (fun _ _ _ => rfl) hth (fun _ _ _ => rfl) ?_
 refine vs_fold (b := vb) x.v (pa := pa) (pc := pc) (po := po) (poc := poc) (cb := cb) (m1 := m1) (m2 := m2) (m3 := m3) (m4 := m4) Ts (by rfl) (by rfl) ?_
 refine d_fold (b := b) x (pa := pa) (pc := pc) (po := po) (poc := poc) (vb := vb) (va := va) (vc := vc) (V := V) Ts (by rfl) (by rfl) (by first | exact hV | simp) ?_
 refine ret1 rfl rfl (()) (by first | rfl | (first | rfl | (congr 1; done) | (congr 1 <;> first | rfl | omega | (simp; done) | (simp; omega)))) (by trivial) ?_
 exact Tf
theorem vector_spec (pa : Option Addr) (pc : Nat) (po : Option Addr) (poc b : Nat) (x : DS) (hx : DInv x) (t : Int) : Spec Try.prog 11 [.pointer (some ⟨b, 0, none⟩), .int .i64 t] [dR pa pc po poc b x] (fun (r : Option Addr × Nat) => .slice r.1 (thF x.v t).length r.2) (fun r => True) (fun r => [dR pa pc po poc b x, own 1 encU r.1 r.2 (thF x.v t)]) := by
  cases hth : x.v.th t with
  | some l => rw [thF_eq hth]; exact vector_some pa pc po poc b x hx t l hth
  | none =>
    rw [show thF x.v t = [] from by rw [thF, hth]; rfl]
    exact (vector_none pa pc po poc b x hx t hth).conseq (fun _ _ s => s) (fun _ _ => ⟨(none, 0), rfl, trivial, fun Γ hp s => (by
      have h := own_nil (sz := 1) (enc := encU) s
      exact h.swap)⟩)
end Go.Ab.Dj
set_option linter.unusedVariables false
set_option linter.unusedSimpArgs false
set_option maxRecDepth 100000
namespace Go.Ab.Dj
open Go Go.Proofs Go.Ab Go.Ab.Fe Go.Ab.Vc
/-- What is kept of a variable, if there is one. -/
def wF (x : DS) (z : Int) : Option V4 := if 0 ≤ z then x.vs[z.toNat]? else none
/-- The flags, by rising variables. -/
def flF (vs : List V4) : List (Int × Int) := (vs.zipIdx.filter (fun p => p.1.2.2.2)).map fun p => ((p.2 : Int), p.1.2.2.1)
def fgF (w : Option V4) : Int := (w.map (·.2.2.1)).getD 0
def fdF (w : Option V4) : Bool := (w.map (·.2.2.2)).getD false
def rdsF (w : Option V4) : List Int := (w.map (·.1)).getD []
def wrsF (w : Option V4) : List Int := (w.map (·.2.1)).getD []
theorem flF_next {vs : List V4} {i : Nat} {w : V4} (h : vs[i]? = some w) : flF (vs.take (i + 1)) = flF (vs.take i) ++ (if w.2.2.2 then [((i : Int), w.2.2.1)] else []) := by
  have hi := (List.getElem?_eq_some_iff.1 h).1
  unfold flF
  rw [List.take_add_one, h, List.zipIdx_append, List.filter_append, List.map_append, List.length_take, Nat.min_eq_left (by omega)]
  congr 1
  cases hw : w.2.2.2 <;> simp [hw]
theorem flF_len (vs : List V4) : (flF vs).length ≤ vs.length := by
  unfold flF
  rw [List.length_map]
  exact Nat.le_trans (List.length_filter_le _ _) (by simp)
theorem flags_spec (pa : Option Addr) (pc : Nat) (po : Option Addr) (poc b : Nat) (x : DS) (hx : DInv x) : Spec Try.prog 18 [.pointer (some ⟨b, 0, none⟩)] [dR pa pc po poc b x] (fun (r : Option Addr × Nat) => .slice r.1 (flF x.vs).length r.2) (fun r => True) (fun r => [dR pa pc po poc b x, own 2 enc2 r.1 r.2 (flF x.vs)]) := by
 refine spec_mk (n := 29) Try.func18 rfl rfl rfl ?_
 intro Γ w0
 simp only [argE, List.cons_append, List.nil_append, Nat.zero_add, Nat.reduceAdd]
 have hva := hx.v.ck.sh.va
 have hvl := hx.len
 refine c_seq ?_
 refine c_plain (.q 0 (.done)) (by kernel_rfl) ?_
 refine q_assign rfl rfl rfl rfl ?_
 refine r_done ?_
 refine k_then_n ?_
 refine c_seq ?_
 refine c_plain (.q 0 (.done)) (by kernel_rfl) ?_
 refine q_assign rfl rfl rfl rfl ?_
 refine r_done ?_
 refine k_then_n ?_
 refine c_seq ?_
 refine c_seq ?_
 refine s_take (A := dR pa pc po poc b x) Tk ?_
 refine d_open fun vb va vc V hV => ?_
 refine c_plain (.q 0 ((.l 1 [] (.done)))) (by kernel_rfl) ?_
 refine q_move rfl rfl rfl rfl ?_
 have sp_1 := there_spec b vb (.slice va x.vs.length vc) (.int .i64 x.cost)
 refine l_call rfl rfl rfl rfl rfl rfl Try.call38 (sp_1) Ts ?_
 rintro ⟨⟩ -
 try simp only [List.cons_append, List.nil_append]
 refine ag_nil ?_
 refine r_done ?_
 refine k_then_n ?_
 refine c_cond_t rfl ?_
 refine c_seq ?_
 refine c_plain (.q 0 (.q 1 (.q 2 (.q 3 (.q 4 (.q 5 (.done))))))) (by kernel_rfl) ?_
 refine q_move rfl rfl rfl rfl ?_
 refine q_nil_p rfl rfl rfl rfl ?_
 refine q_field (k := 1) rfl rfl rfl rfl Try.underlying91 rfl Try.sizeOf89 rfl ?_
 refine q_load_c (j := 1) rfl rfl rfl rfl Try.isAgg89 Tk (by first | rfl | exact (Nat.add_zero _).symm) (by rfl) ?_
 refine q_len rfl rfl rfl rfl Try.underlying89 ?_
 refine q_move rfl rfl rfl rfl ?_
 refine r_done ?_
 refine s_keep [3, 11, 12, 13] (e' := [(3, _), (11, _), (12, _), (13, _)]) rfl ?_
 refine k_then_n ?_
 refine c_block ?_
 refine s_heap (fun _ h => own_nil (sz := 2) (enc := enc2) h) ?_
 refine c_loop2 (α := Nat × Option Addr × Nat) (fun (x_ : Nat × Option Addr × Nat) => match x_ with | (k, ga, gc) => k ≤ x.vs.length) (fun (x_ : Nat × Option Addr × Nat) => match x_ with | (k, ga, gc) => [(3, .slice ga ((flF (x.vs.take k)).length) gc), (13, .int .i64 ((k : Nat) : Int))]) (fun (x_ : Nat × Option Addr × Nat) => match x_ with | (k, ga, gc) => [restL varA V x.vs [], own 2 enc2 ga gc (flF (x.vs.take k))]) (fun (x_ : Nat × Option Addr × Nat) => match x_ with | (k, ga, gc) => x.vs.length - k) [11, 12] (er := [(11, _), (12, _)]) rfl (0, none, 0) ?_ (by exact ⟨rfl, rfl, trivial⟩) (by (try dsimp only); (try simp only [Nat.add_zero, Nat.zero_add]); rw [List.take_zero, show flF ([] : List V4) = [] from rfl]; (repeat ((with_reducible apply Z2); focus (first | (with_reducible (repeat (first | exact Z0 | apply Z1)); done) | (repeat (first | exact Z0 | apply Z1))))); exact Z3) ?_
 · exact Nat.zero_le _
 rintro ⟨k, ga, gc⟩ hle_k
 try simp only [List.cons_append, List.nil_append]
 have hfl := flF_len (x.vs.take k)
 rw [List.length_take] at hfl
 refine c_seq ?_
 refine c_plain (.q 0 (.done)) (by kernel_rfl) ?_
 refine q_int rfl rfl rfl rfl rfl (b_lss _ _ _ _) ?_
 refine r_done ?_
 refine k_then_n ?_
 refine c_seq ?_
 refine c_cond_p rfl (fun hlt => ?_) (fun hlt => ?_)
 ·
  obtain ⟨w, hw⟩ := get_lt (l := x.vs) (i := k) (by omega)
  refine s_restL_take (res := varA) (V := V) (Y := x.vs) (S := []) k Tk (by simp) hw fun v_ hv => ?_
  obtain ⟨va_, vb_, fl, fg⟩ := v_
  refine s_var Tk fun hf => ?_
  refine s_vec Tk fun rb ra rc hra_ => ?_
  simp only at hra_
  subst hra_
  refine s_vec Td fun wb wa wc hwa_ => ?_
  simp only at hwa_
  subst hwa_
  simp only at hf
  refine c_skip ?_
  refine k_then_n ?_
  refine c_seq ?_
  refine c_block ?_
  refine c_seq ?_
  refine c_plain (.q 0 (.q 1 (.q 2 ((.l 3 [] (.q 4 ((.l 5 [] (.done))))))))) (by kernel_rfl) ?_
  refine q_move rfl rfl rfl rfl ?_
  refine q_idxO (sz := 3) (k := k) (enc := encV) (xs := V) rfl rfl rfl rfl rfl Try.underlying89 Try.sizeOf99 hv (by first | rfl | omega) (by omega) Tk ?_
  intro ib16 io16 ha16 hl16 hc16
  refine q_loadN_O (j := 0) (k' := k) (us := [_, _, _, _]) (enc := encV) (off := io16) rfl rfl rfl rfl Try.isAgg99 Try.sizeOf99 ha16 encV_len hv Tk (by first | rfl | exact (Nat.add_zero _).symm | omega) (by rfl) rfl ?_
  refine l_alloc rfl rfl rfl Try.zeroValue99 (zs := [.pointer none, .pointer none, .int .i64 0, .bool false]) rfl ?_
  intro b5
  refine ag_nil ?_
  refine q_assign rfl rfl rfl rfl ?_
  refine l_store (j := 0) rfl rfl rfl rfl Try.sizeOf99 (us := [_, _, _, _]) rfl rfl rfl Tk (by first | rfl | exact (Nat.add_zero _).symm) (by first | decide | (simp; done) | omega) ?_
  simp only [setL, List.set]
  refine ag_nil ?_
  refine r_done ?_
  refine s_keep [3, 4, 5, 11, 12, 13] (e' := [(3, _), (4, _), (5, _), (11, _), (12, _), (13, _)]) rfl ?_
  refine k_then_n ?_
  refine c_seq ?_
  refine c_plain (.q 0 (.q 1 (.done))) (by kernel_rfl) ?_
  refine q_field (k := 3) rfl rfl rfl rfl Try.underlying99 rfl Try.sizeOf4 rfl ?_
  refine q_load_c (j := 3) rfl rfl rfl rfl Try.isAgg4 Tk (by first | rfl | exact (Nat.add_zero _).symm) (by rfl) ?_
  refine r_done ?_
  refine k_then_n ?_
  refine c_cond rfl (fun hfg => ?_) (fun hfg => ?_)
  ·
   try simp only [Bool.and_eq_true, Bool.or_eq_true, Bool.not_eq_true', Bool.not_eq_false', Bool.and_eq_false_iff, Bool.or_eq_false_iff, decide_eq_true_eq, decide_eq_false_iff_not] at hfg
   refine c_plain (.q 0 (.q 1 (.q 2 (.q 3 (.q 4 ((.l 5 [] ((.l 6 [] (.q 7 (.done))))))))))) (by kernel_rfl) ?_
   refine q_move rfl rfl rfl rfl ?_
   refine q_move rfl rfl rfl rfl ?_
   refine q_field (k := 2) rfl rfl rfl rfl Try.underlying99 rfl Try.sizeOf3 rfl ?_
   refine q_load_c (j := 2) rfl rfl rfl rfl Try.isAgg3 Tk (by first | rfl | exact (Nat.add_zero _).symm) (by rfl) ?_
   refine q_build rfl rfl rfl rfl (vs := [_, _]) (run_buildS Try.underlying67 Try.zeroValue67 (ps := [(0, 1), (1, 1)]) ⟨rfl, Try.sizeOf3, rfl, Try.sizeOf3, trivial⟩ rfl) ?_
   refine l_buildSlice rfl rfl rfl rfl (run_build1 (us := [_, _]) Try.underlying48 Try.sizeOf67 rfl Try.zeroValue67 rfl rfl rfl) ?_
   intro b25
   refine ag_nil ?_
   refine l_append (sz := 2) (enc := enc2) (xs := (flF (x.vs.take k))) rfl rfl rfl rfl rfl Try.underlying48 Try.typeInfo67 rfl rfl rfl (by decide) Tk Tk (by first | rfl | omega | (simp; done) | (simp; omega)) (ys := [(((k : Nat) : Int), fl)]) (rds_some rdn_cells) (by rfl) (by first | rfl | omega) (enc2_len) (enc2_one) (by omega) (by show _ * 16 ≤ _; omega) ?_
   intro ao26 cp26
   refine ag_nil ?_
   refine q_assign rfl rfl rfl rfl ?_
   refine r_done ?_
   refine s_keep [3, 11, 12, 13] (e' := [(3, _), (11, _), (12, _), (13, _)]) rfl ?_
   refine k_blk_n ?_
   refine k_then_n ?_
   refine c_plain (.q 0 (.q 1 (.done))) (by kernel_rfl) ?_
   refine q_int rfl rfl rfl rfl rfl (b_add' _ (by exact fits_i64 (by omega) (by omega))) ?_
   refine q_move rfl rfl rfl rfl ?_
   refine r_done ?_
   refine k_then_n ?_
   have hnx := flF_next hw
   rw [if_pos (by rw [← hf]; exact hfg)] at hnx
   rw [show ((k : Int), w.2.2.1) = ((k : Int), fl) from by rw [← hf]] at hnx
   rw [← hnx]
   refine s_vecF rb ra rc w.1 Ts ?_
   refine s_vecF wb wa wc w.2.1 Ts ?_
   refine s_varF (some ⟨rb, 0, none⟩, some ⟨wb, 0, none⟩, fl, fg) w Ts hf ?_
   refine s_restL_back (res := varA) (V := V) (Y := x.vs) (S := []) k Ts (by simp) hv hw ?_
   refine s_eq 3 rfl (v' := .slice ao26 (flF (x.vs.take (k + 1))).length cp26) (by rw [hnx, List.length_append]; rfl) ?_
   refine s_eq 3 rfl (v' := .slice ao26 ((flF (x.vs.take (k + 1))).length) cp26) (by first | rfl | (congr 1; done) | (congr 1 <;> first | rfl | omega | (simp; done) | (simp; omega))) ?_
   refine loop_next (x := (k, ga, gc)) ((k + 1, ao26, cp26)) ?_ ?_ ?_ ?_
   · try dsimp only
     omega
   · show x.vs.length - (k + 1) < x.vs.length - k; omega
   · exact ⟨rfl, rfl, rfl, rfl, trivial⟩
   · (try simp only [List.cons_append, List.nil_append]); exact Tf
  ·
   try simp only [Bool.and_eq_true, Bool.or_eq_true, Bool.not_eq_true', Bool.not_eq_false', Bool.and_eq_false_iff, Bool.or_eq_false_iff, decide_eq_true_eq, decide_eq_false_iff_not] at hfg
   refine c_skip ?_
   refine k_blk_n ?_
   refine k_then_n ?_
   refine c_plain (.q 0 (.q 1 (.done))) (by kernel_rfl) ?_
   refine q_int rfl rfl rfl rfl rfl (b_add' _ (by exact fits_i64 (by omega) (by omega))) ?_
   refine q_move rfl rfl rfl rfl ?_
   refine r_done ?_
   refine s_keep [3, 11, 12, 13] (e' := [(3, _), (11, _), (12, _), (13, _)]) rfl ?_
   refine k_then_n ?_
   have hnx := flF_next hw
   rw [if_neg (by rw [← hf]; simpa using hfg), List.append_nil] at hnx
   rw [← hnx]
   refine s_vecF rb ra rc w.1 Ts ?_
   refine s_vecF wb wa wc w.2.1 Ts ?_
   refine s_varF (some ⟨rb, 0, none⟩, some ⟨wb, 0, none⟩, fl, fg) w Ts hf ?_
   refine s_restL_back (res := varA) (V := V) (Y := x.vs) (S := []) k Ts (by simp) hv hw ?_
   refine s_eq 3 rfl (v' := .slice ga ((flF (x.vs.take (k + 1))).length) gc) (by first | rfl | (congr 1; done) | (congr 1 <;> first | rfl | omega | (simp; done) | (simp; omega))) ?_
   refine loop_next (x := (k, ga, gc)) ((k + 1, ga, gc)) ?_ ?_ ?_ ?_
   · try dsimp only
     omega
   · show x.vs.length - (k + 1) < x.vs.length - k; omega
   · exact ⟨rfl, rfl, rfl, rfl, trivial⟩
   · (try simp only [List.cons_append, List.nil_append]); exact Tf
 ·
  refine c_exit ?_
  refine k_then_exit ?_
  refine k_then_exit ?_
  refine k_blk_here ?_
  refine k_then_n ?_
  refine c_seq ?_
  refine c_plain (.q 0 (.q 1 (.done))) (by kernel_rfl) ?_
  refine q_move rfl rfl rfl rfl ?_
  refine q_assign rfl rfl rfl rfl ?_
  refine r_done ?_
  refine s_keep [2] (e' := [(2, _)]) rfl ?_
  refine k_then_n ?_
  refine c_ret ?_
  obtain rfl : k = x.vs.length := by omega
  rw [List.take_length]
  refine d_fold (b := b) x (pa := pa) (pc := pc) (po := po) (poc := poc) (vb := vb) (va := va) (vc := vc) (V := V) Ts (by rfl) (by rfl) (by first | exact hV | simp) ?_
  refine ret1 rfl rfl ((ga, gc)) (by first | rfl | (first | rfl | (congr 1; done) | (congr 1 <;> first | rfl | omega | (simp; done) | (simp; omega)))) (by trivial) ?_
  exact Tf
end Go.Ab.Dj
set_option linter.unusedVariables false
set_option linter.unusedSimpArgs false
set_option maxRecDepth 100000
namespace Go.Ab.Dj
open Go Go.Proofs Go.Ab Go.Ab.Fe Go.Ab.Vc
/-- What is kept of a variable behind an access (n events stand ahead of it). -/
def raceF (k : Int) (l : List Int) (w : V4) : Prop := (k = 2 ∧ ¬ LeqL w.1 l) ∨ ¬ LeqL w.2.1 l
instance (k : Int) (l : List Int) (w : V4) : Decidable (raceF k l w) := by unfold raceF; infer_instance
def acW (n k t : Int) (l : List Int) (w : V4) : V4 :=
  (if k = 2 then w.1 else stL w.1 t.toNat (l.getD t.toNat 0), if k = 2 then stL w.2.1 t.toNat (l.getD t.toNat 0) else w.2.1, if raceF k l w ∧ w.2.2.2 = false then n else w.2.2.1, w.2.2.2 || decide (raceF k l w))
def acF (x : DS) (k t o : Int) : List V4 := if k = 1 ∨ k = 2 then x.vs.set o.toNat (acW x.v.ck.n k t (thF x.v t) (x.vs.getD o.toNat v0)) else x.vs
def deF (x : DS) (k t o : Int) : DS := if vcanF x.v k t o then ⟨vnF x.v k t o, acF x k t o, if k = 1 ∨ k = 2 then x.cost + k else x.cost⟩ else x
def deE (x : DS) (k t o : Int) : Int := if vcanF x.v k t o then 0 else 6
theorem de_acc {x : DS} {k t o : Int} {l : List Int} {w : V4} (hv : vcanF x.v k t o) (hk : k = 1 ∨ k = 2) (hw : x.vs[o.toNat]? = some w) (hl : x.v.th t = some l) : deF x k t o = ⟨vnF x.v k t o, x.vs.set o.toNat (acW x.v.ck.n k t l w), x.cost + k⟩ := by
  rw [deF, if_pos hv, acF, if_pos hk, if_pos hk, thF_eq hl, getD_some hw]
theorem de_no {x : DS} {k t o : Int} (hv : vcanF x.v k t o) (k1 : ¬ k = 1) (k2 : ¬ k = 2) : deF x k t o = ⟨vnF x.v k t o, x.vs, x.cost⟩ := by
  rw [deF, if_pos hv, acF, if_neg (by omega), if_neg (by omega)]
theorem acc_obj {x : CS} {k t o : Int} (hc : canF x k t o) (hk : k = 1 ∨ k = 2) : 0 ≤ o ∧ o < x.va := by
  rcases hc with ⟨h1, h2, -⟩ | ⟨h1, h0, h2⟩
  · omega
  · unfold okK at h2
    rcases h2 with h | h | h | h | h | h | h | h <;> omega
theorem ac_cv {n k t : Int} {l : List Int} {w : V4} (hl : CV l) (hw : CV w.1 ∧ CV w.2.1) (ht : 0 ≤ t ∧ t < 65535) : CV (acW n k t l w).1 ∧ CV (acW n k t l w).2.1 := by
  have h := g_rng hl.rng (by decide) t.toNat
  unfold acW
  constructor
  · show CV (if k = 2 then w.1 else _)
    split
    · exact hw.1
    · exact stL_cv hw.1 (by omega) h.1 h.2
  · show CV (if k = 2 then _ else w.2.1)
    split
    · exact stL_cv hw.2 (by omega) h.1 h.2
    · exact hw.2
theorem nxF_can {x : CS} {k t o : Int} (h : canF x k t o) : (nxF x k t o).n = x.n + 1 ∧ (nxF x k t o).va = x.va ∧ (nxF x k t o).th = x.th := by
  obtain ⟨n5, n6, n7, n9, n10, n11, nn⟩ := nxF_k h
  by_cases k5 : k = 5
  · rw [n5 k5]; exact ⟨rfl, rfl, rfl⟩
  by_cases k6 : k = 6
  · rw [n6 k6]; exact ⟨rfl, rfl, rfl⟩
  by_cases k7 : k = 7
  · rw [n7 k7]; exact ⟨rfl, rfl, rfl⟩
  by_cases k9 : k = 9
  · rw [n9 k9]; exact ⟨rfl, rfl, rfl⟩
  by_cases k10 : k = 10
  · rw [n10 k10]; exact ⟨rfl, rfl, rfl⟩
  by_cases k11 : k = 11
  · rw [n11 k11]; exact ⟨rfl, rfl, rfl⟩
  rw [nn k5 k6 k7 k9 k10 k11]; exact ⟨rfl, rfl, rfl⟩
theorem de_inv {x : DS} (hx : DInv x) (k t o : Int) : DInv (deF x k t o) := by
  by_cases hv : vcanF x.v k t o
  · obtain ⟨l, hth⟩ := th_some hx.v (can_th hv.1)
    have ht := th_rng hx.v (can_th hv.1)
    obtain ⟨h1, h2, h3⟩ := nxF_can hv.1
    have hc := hx.c0
    by_cases hk : k = 1 ∨ k = 2
    · obtain ⟨p0, p1⟩ := acc_obj hv.1 hk
      have hl := hx.len
      obtain ⟨w, hw⟩ := get_lt (l := x.vs) (i := o.toNat) (by omega)
      rw [de_acc hv hk hw hth]
      refine ⟨next_vinv hx.v hv, by rw [List.length_set, vn_ck, h2]; exact hl, fun w2 h => ?_, by show 0 ≤ x.cost + k ∧ x.cost + k ≤ 2 * (vnF x.v k t o).ck.n; rw [vn_ck, h1]; omega⟩
      rcases List.mem_or_eq_of_mem_set h with h | rfl
      · exact hx.vs _ h
      · exact ac_cv (hx.v.thc _ _ hth) (hx.vs _ (List.mem_of_getElem? hw)) ht
    · rw [de_no hv (by omega) (by omega)]
      exact ⟨next_vinv hx.v hv, by rw [vn_ck, h2]; exact hx.len, hx.vs, by show 0 ≤ x.cost ∧ x.cost ≤ 2 * (vnF x.v k t o).ck.n; rw [vn_ck, h1]; omega⟩
  · rw [deF, if_neg hv]; exact hx
theorem de_n {x : DS} (k t o : Int) : (deF x k t o).v.ck.n ≤ x.v.ck.n + 1 ∧ (deF x k t o).v.ck.pa = x.v.ck.pa ∧ (deF x k t o).v.ck.th = x.v.ck.th ∧ (deF x k t o).v.ck.va = x.v.ck.va := by
  by_cases hv : vcanF x.v k t o
  · obtain ⟨h1, h2, h3⟩ := nxF_can hv.1
    rw [deF, if_pos hv]
    show (vnF x.v k t o).ck.n ≤ _ ∧ (vnF x.v k t o).ck.pa = _ ∧ (vnF x.v k t o).ck.th = _ ∧ (vnF x.v k t o).ck.va = _
    rw [vn_ck, h1, h2, h3, nx_pa]
    exact ⟨Int.le_refl _, rfl, rfl, rfl⟩
  · rw [deF, if_neg hv]; exact ⟨by omega, rfl, rfl, rfl⟩
theorem event_spec (pa : Option Addr) (pc : Nat) (po : Option Addr) (poc b : Nat) (x : DS) (hx : DInv x) (hn : x.v.ck.n ≤ 1000000000000000) (pl : List Int) (hpl : x.v.ck.pa = pl) (k t o : Int) : Spec Try.prog 20 [.pointer (some ⟨b, 0, none⟩), .agg #[.int .i64 k, .int .i64 t, .int .i64 o]] [dR pa pc po poc b x, own 1 encZ pa pc pl, own 1 encZ po poc pl] (fun (_ : Unit) => .int .i64 (deE x k t o)) (fun _ => True) (fun _ => [dR pa pc po poc b (deF x k t o), own 1 encZ pa pc pl, own 1 encZ po poc pl]) := by
 refine spec_mk (n := 128) Try.func20 rfl rfl rfl ?_
 intro Γ w0
 simp only [argE, List.cons_append, List.nil_append, Nat.zero_add, Nat.reduceAdd]
 refine c_seq ?_
 refine c_plain ((.l 0 [] (.q 1 (.done)))) (by kernel_rfl) ?_
 refine l_box rfl rfl rfl rfl (us := [_, _, _]) rfl ?_
 intro b3
 refine ag_nil ?_
 refine q_assign rfl rfl rfl rfl ?_
 refine r_done ?_
 refine k_then_n ?_
 refine c_seq ?_
 refine c_seq ?_
 have hcc := hx.c0
 have hlen := hx.len
 refine s_take (A := dR pa pc po poc b x) Tk ?_
 refine d_open fun vb va vc V hV => ?_
 refine c_plain (.q 0 ((.l 1 [] (.q 2 (.done))))) (by kernel_rfl) ?_
 refine q_move rfl rfl rfl rfl ?_
 have sp_1 := there_spec b vb (.slice va x.vs.length vc) (.int .i64 x.cost)
 refine l_call rfl rfl rfl rfl rfl rfl Try.call38 (sp_1) Ts ?_
 rintro ⟨⟩ -
 try simp only [List.cons_append, List.nil_append]
 refine ag_nil ?_
 refine q_not rfl rfl rfl rfl ?_
 refine s_eq 11 rfl (v' := .bool false) rfl ?_
 refine r_done ?_
 refine s_keep [0, 3, 11] (e' := [(0, _), (3, _), (11, _)]) rfl ?_
 refine k_then_n ?_
 refine c_cond_f rfl ?_
 refine c_skip ?_
 refine k_then_n ?_
 refine c_seq ?_
 refine c_seq ?_
 refine c_draw rfl (.q 0 (.q 1 (.q 2 (.q 3 (.q 4 ((.l 5 [] (.q 6 (.done))))))))) (by kernel_rfl) ?_
 refine q_move rfl rfl rfl rfl ?_
 refine q_nil_p rfl rfl rfl rfl ?_
 refine q_field (k := 0) rfl rfl rfl rfl Try.underlying91 rfl Try.sizeOf88 rfl ?_
 refine q_load_c (j := 0) rfl rfl rfl rfl Try.isAgg88 Tk (by first | rfl | exact (Nat.add_zero _).symm) (by rfl) ?_
 refine q_loadN_c rfl rfl rfl rfl Try.isAgg40 Try.sizeOf40 Tk 0 (us := [_, _, _]) (by first | rfl | exact (Nat.add_zero _).symm) rfl rfl ?_
 have sp_2 := can_spec pa pc po poc vb x.v hx.v k t o
 refine l_call rfl rfl rfl rfl rfl rfl Try.call44 (sp_2) Ts ?_
 rintro ⟨⟩ -
 try simp only [List.cons_append, List.nil_append]
 refine ag_nil ?_
 refine q_not rfl rfl rfl rfl ?_
 refine r_done ?_
 refine s_keep [0, 3, 18] (e' := [(0, _), (3, _), (18, _)]) rfl ?_
 refine k_then_n ?_
 refine c_cond_np rfl (fun hvn => ?_) (fun hvn => ?_)
 ·
  refine c_seq ?_
  refine c_plain (.q 0 (.done)) (by kernel_rfl) ?_
  refine q_assign rfl rfl rfl rfl ?_
  refine r_done ?_
  refine k_then_n ?_
  refine c_ret ?_
  refine k_then_ret ?_
  refine d_fold (b := b) x (pa := pa) (pc := pc) (po := po) (poc := poc) (vb := vb) (va := va) (vc := vc) (V := V) Ts (by rfl) (by rfl) (by first | exact hV | simp) ?_
  rw [show deF x k t o = x from if_neg hvn]
  refine ret1 rfl rfl (()) (by rw [show deE x k t o = 6 from if_neg hvn]) (by trivial) ?_
  exact Tf
 ·
  have hvc := hvn
  obtain ⟨l, hth⟩ := th_some hx.v (can_th hvc.1)
  obtain ⟨h0, h1⟩ := th_rng hx.v (can_th hvc.1)
  have hlc := hx.v.thc _ _ hth
  refine c_skip ?_
  refine k_then_n ?_
  refine c_seq ?_
  refine c_plain (.q 0 (.done)) (by kernel_rfl) ?_
  refine q_assign rfl rfl rfl rfl ?_
  refine r_done ?_
  refine k_then_n ?_
  refine c_seq ?_
  refine s_take (A := vsR pa pc po poc vb x.v) Tk ?_
  refine vs_open fun cb m1 m2 m3 m4 F1 F2 F3 F4 => ?_
  refine s_rest_take (F := F1) (T := x.v.th) (S := []) t Tk (by simp) hth fun tv htF => ?_
  refine s_vec Tk fun tb ta tc hta => ?_
  subst hta
  refine c_draw rfl (.q 0 (.q 1 (.q 2 (.q 3 (.q 4 (.q 5 (.q 6 (.q 7 (.q 8 (.q 9 (.q 10 (.done)))))))))))) (by kernel_rfl) ?_
  refine q_move rfl rfl rfl rfl ?_
  refine q_nil_p rfl rfl rfl rfl ?_
  refine q_field (k := 0) rfl rfl rfl rfl Try.underlying91 rfl Try.sizeOf88 rfl ?_
  refine q_load_c (j := 0) rfl rfl rfl rfl Try.isAgg88 Tk (by first | rfl | exact (Nat.add_zero _).symm) (by rfl) ?_
  refine q_nil_p rfl rfl rfl rfl ?_
  refine q_field (k := 2) rfl rfl rfl rfl Try.underlying87 rfl Try.sizeOf84 rfl ?_
  refine q_load_c (j := 2) rfl rfl rfl rfl Try.isAgg84 Tk (by first | rfl | exact (Nat.add_zero _).symm) (by rfl) ?_
  refine q_field (k := 1) rfl rfl rfl rfl Try.underlying40 rfl Try.sizeOf3 rfl ?_
  refine q_load_c (j := 1) rfl rfl rfl rfl Try.isAgg3 Tk (by first | rfl | exact (Nat.add_zero _).symm) (by rfl) ?_
  refine q_lookup1 (ek := ekZ) (ev1 := evA) (F := F1) (m := m1) (k := t) none rfl rfl rfl rfl rfl Try.underlying84 (keyOK_int Try.underlying3) Try.zeroValue82 Tk ?_
  refine s_eq 28 rfl (v' := .pointer (some ⟨tb, 0, none⟩)) (by rw [htF]; rfl) ?_
  refine q_assign rfl rfl rfl rfl ?_
  refine r_done ?_
  refine s_keep [0, 3, 5, 6] (e' := [(0, _), (3, _), (5, _), (6, _)]) rfl ?_
  refine k_then_n ?_
  refine c_seq ?_
  refine c_seq ?_
  refine c_plain (.q 0 (.q 1 (.done))) (by kernel_rfl) ?_
  refine q_field (k := 0) rfl rfl rfl rfl Try.underlying40 rfl Try.sizeOf38 rfl ?_
  refine q_load_c (j := 0) rfl rfl rfl rfl Try.isAgg38 Tk (by first | rfl | exact (Nat.add_zero _).symm) (by rfl) ?_
  refine r_done ?_
  refine k_then_n ?_
  refine c_block ?_
  refine c_seq ?_
  refine c_block ?_
  refine c_seq ?_
  refine c_block ?_
  refine c_seq ?_
  refine c_seq ?_
  refine c_seq ?_
  refine c_plain (.q 0 (.q 1 (.done))) (by kernel_rfl) ?_
  refine q_int rfl rfl rfl rfl rfl (b_eql _ _ _ _) ?_
  refine q_assign rfl rfl rfl rfl ?_
  refine r_done ?_
  refine k_then_n ?_
  refine c_cond_p rfl (fun k2 => ?_) (fun k2 => ?_)
  ·
   refine c_exit ?_
   refine k_then_exit ?_
   refine k_then_exit ?_
   refine k_blk_here ?_
   refine k_then_n ?_
   refine c_seq ?_
   refine c_plain (.q 0 (.q 1 (.q 2 (.q 3 (.q 4 (.q 5 (.q 6 ((.l 7 [] (.done)))))))))) (by kernel_rfl) ?_
   refine q_move rfl rfl rfl rfl ?_
   refine q_nil_p rfl rfl rfl rfl ?_
   refine q_field (k := 2) rfl rfl rfl rfl Try.underlying91 rfl Try.sizeOf3 rfl ?_
   refine q_load_c (j := 2) rfl rfl rfl rfl Try.isAgg3 Tk (by first | rfl | exact (Nat.add_zero _).symm) (by rfl) ?_
   refine q_int rfl rfl rfl rfl rfl (b_add' _ (by exact fits_i64 (by omega) (by omega))) ?_
   refine q_nil_p rfl rfl rfl rfl ?_
   refine q_field (k := 2) rfl rfl rfl rfl Try.underlying91 rfl Try.sizeOf3 rfl ?_
   refine l_store (j := 2) rfl rfl rfl rfl Try.sizeOf3 (us := [_]) rfl rfl rfl Tk (by first | rfl | exact (Nat.add_zero _).symm) (by first | decide | (simp; done) | omega) ?_
   simp only [setL, List.set]
   refine ag_nil ?_
   refine r_done ?_
   refine s_keep [0, 3, 6] (e' := [(0, _), (3, _), (6, _)]) rfl ?_
   refine k_then_n ?_
   obtain ⟨p0, p1⟩ := acc_obj hvc.1 (by omega)
   obtain ⟨w, hw⟩ := get_lt (l := x.vs) (i := o.toNat) (by omega)
   obtain ⟨hwr, hww⟩ := hx.vs w (List.mem_of_getElem? hw)
   refine s_restL_take (res := varA) (V := V) (Y := x.vs) (S := []) o.toNat Tk (by simp) hw fun v_ hv => ?_
   obtain ⟨va_, vb_, fl, fg⟩ := v_
   refine s_var Tk fun hf => ?_
   refine s_vec Tk fun rb ra rc hra_ => ?_
   simp only at hra_
   subst hra_
   refine s_vec Td fun wb wa wc hwa_ => ?_
   simp only at hwa_
   subst hwa_
   simp only at hf
   have e1 : w.2.2.1 = fl := by rw [← hf]
   have e2 : w.2.2.2 = fg := by rw [← hf]
   have hgr := g_rng hlc.rng (by decide) t.toNat
   refine c_draw rfl (.q 0 (.q 1 (.q 2 (.q 3 (.q 4 (.q 5 (.q 6 (.q 7 (.q 8 (.q 9 ((.l 10 [] (.q 11 (.q 12 (.done))))))))))))))) (by kernel_rfl) ?_
   refine q_move rfl rfl rfl rfl ?_
   refine q_nil_p rfl rfl rfl rfl ?_
   refine q_field (k := 1) rfl rfl rfl rfl Try.underlying91 rfl Try.sizeOf89 rfl ?_
   refine q_load_c (j := 1) rfl rfl rfl rfl Try.isAgg89 Tk (by first | rfl | exact (Nat.add_zero _).symm) (by rfl) ?_
   refine q_field (k := 2) rfl rfl rfl rfl Try.underlying40 rfl Try.sizeOf3 rfl ?_
   refine q_load_c (j := 2) rfl rfl rfl rfl Try.isAgg3 Tk (by first | rfl | exact (Nat.add_zero _).symm) (by rfl) ?_
   refine q_idxO (sz := 3) (k := o.toNat) (enc := encV) (xs := V) rfl rfl rfl rfl rfl Try.underlying89 Try.sizeOf99 hv (by first | rfl | omega) (by omega) Tk ?_
   intro ib48 io48 ha48 hl48 hc48
   refine q_field (k := 0) rfl rfl rfl rfl Try.underlying99 rfl Try.sizeOf82 rfl ?_
   refine q_load_O (v := (.pointer (some ⟨rb, 0, none⟩))) (j := 0) (k' := o.toNat) (enc := encV) (off := io48) rfl rfl rfl rfl Try.isAgg82 ha48 encV_len hv Tk (by first | rfl | exact (Nat.add_zero _).symm | omega) (by rfl) ?_
   refine q_move rfl rfl rfl rfl ?_
   have sp_3 := Vc.leq_spec rb tb w.1 l ra ta w.1.length rc l.length tc (by rfl) (by rfl) hwr hlc
   refine l_call rfl rfl rfl rfl rfl rfl Try.call45 (sp_3) Ts ?_
   rintro ⟨⟩ -
   try simp only [List.cons_append, List.nil_append]
   refine ag_nil ?_
   refine q_not rfl rfl rfl rfl ?_
   refine q_assign rfl rfl rfl rfl ?_
   refine r_done ?_
   refine s_keep [0, 3, 5, 6] (e' := [(0, _), (3, _), (5, _), (6, _)]) rfl ?_
   refine k_blk_n ?_
   refine k_then_n ?_
   refine c_seq ?_
   refine c_seq ?_
   refine c_plain (.q 0 (.q 1 (.q 2 (.q 3 (.q 4 (.q 5 (.q 6 ((.l 7 [] (.done)))))))))) (by kernel_rfl) ?_
   refine q_move rfl rfl rfl rfl ?_
   refine q_nil_p rfl rfl rfl rfl ?_
   refine q_field (k := 2) rfl rfl rfl rfl Try.underlying91 rfl Try.sizeOf3 rfl ?_
   refine q_load_c (j := 2) rfl rfl rfl rfl Try.isAgg3 Tk (by first | rfl | exact (Nat.add_zero _).symm) (by rfl) ?_
   refine q_int rfl rfl rfl rfl rfl (b_add' _ (by exact fits_i64 (by omega) (by omega))) ?_
   refine q_nil_p rfl rfl rfl rfl ?_
   refine q_field (k := 2) rfl rfl rfl rfl Try.underlying91 rfl Try.sizeOf3 rfl ?_
   refine l_store (j := 2) rfl rfl rfl rfl Try.sizeOf3 (us := [_]) rfl rfl rfl Tk (by first | rfl | exact (Nat.add_zero _).symm) (by first | decide | (simp; done) | omega) ?_
   simp only [setL, List.set]
   refine ag_nil ?_
   refine r_done ?_
   refine s_keep [0, 3, 5, 6] (e' := [(0, _), (3, _), (5, _), (6, _)]) rfl ?_
   refine k_then_n ?_
   refine c_seq ?_
   refine c_draw rfl (.q 0 (.q 1 (.q 2 (.q 3 (.q 4 (.q 5 (.q 6 (.q 7 (.done))))))))) (by kernel_rfl) ?_
   refine q_move rfl rfl rfl rfl ?_
   refine q_nil_p rfl rfl rfl rfl ?_
   refine q_field (k := 1) rfl rfl rfl rfl Try.underlying91 rfl Try.sizeOf89 rfl ?_
   refine q_load_c (j := 1) rfl rfl rfl rfl Try.isAgg89 Tk (by first | rfl | exact (Nat.add_zero _).symm) (by rfl) ?_
   refine q_field (k := 2) rfl rfl rfl rfl Try.underlying40 rfl Try.sizeOf3 rfl ?_
   refine q_load_c (j := 2) rfl rfl rfl rfl Try.isAgg3 Tk (by first | rfl | exact (Nat.add_zero _).symm) (by rfl) ?_
   refine q_idxO (sz := 3) (k := o.toNat) (enc := encV) (xs := V) rfl rfl rfl rfl rfl Try.underlying89 Try.sizeOf99 hv (by first | rfl | omega) (by omega) Tk ?_
   intro ib67 io67 ha67 hl67 hc67
   refine q_assign rfl rfl rfl rfl ?_
   refine r_done ?_
   refine s_keep [0, 3, 5, 6, 7] (e' := [(0, _), (3, _), (5, _), (6, _), (7, _)]) rfl ?_
   refine k_then_n ?_
   refine c_seq ?_
   refine c_plain (.q 0 (.q 1 (.q 2 (.q 3 (.q 4 (.q 5 (.q 6 ((.l 7 [] (.q 8 (.q 9 (.q 10 (.done))))))))))))) (by kernel_rfl) ?_
   refine q_move rfl rfl rfl rfl ?_
   refine q_move rfl rfl rfl rfl ?_
   refine s_bool_np 69 rfl (fun hr1 => ?_) (fun hr1 => ?_)
   ·
    refine q_skip rfl rfl rfl rfl ?_
    refine q_skip rfl rfl rfl rfl ?_
    refine q_skip rfl rfl rfl rfl ?_
    refine q_skip rfl rfl rfl rfl ?_
    refine q_skip rfl rfl rfl rfl ?_
    refine l_skip rfl rfl rfl rfl ?_
    refine q_skip rfl rfl rfl rfl ?_
    refine q_pick_t rfl rfl rfl rfl rfl ?_
    refine q_assign rfl rfl rfl rfl ?_
    refine r_done ?_
    refine s_keep [0, 3, 5, 7] (e' := [(0, _), (3, _), (5, _), (7, _)]) rfl ?_
    refine k_then_n ?_
    refine c_seq ?_
    refine c_seq ?_
    refine c_plain (.q 0 (.q 1 (.q 2 (.q 3 (.q 4 (.q 5 (.q 6 (.q 7 (.done))))))))) (by kernel_rfl) ?_
    refine q_move rfl rfl rfl rfl ?_
    refine q_move rfl rfl rfl rfl ?_
    refine q_move rfl rfl rfl rfl ?_
    refine q_nil_p rfl rfl rfl rfl ?_
    refine q_field (k := 3) rfl rfl rfl rfl Try.underlying99 rfl Try.sizeOf4 rfl ?_
    refine q_load_O (v := (.bool fg)) (j := 3) (k' := o.toNat) (enc := encV) (off := io67) rfl rfl rfl rfl Try.isAgg4 ha67 encV_len hv Tk (by first | rfl | exact (Nat.add_zero _).symm | omega) (by rfl) ?_
    refine q_not rfl rfl rfl rfl ?_
    refine q_pick_t rfl rfl rfl rfl rfl ?_
    refine r_done ?_
    refine s_keep [0, 3, 7, 85] (e' := [(0, _), (3, _), (7, _), (85, _)]) rfl ?_
    refine k_then_n ?_
    refine c_cond rfl (fun hfg => ?_) (fun hfg => ?_)
    ·
     try simp only [Bool.and_eq_true, Bool.or_eq_true, Bool.not_eq_true', Bool.not_eq_false', Bool.and_eq_false_iff, Bool.or_eq_false_iff, decide_eq_true_eq, decide_eq_false_iff_not] at hfg
     refine c_plain (.q 0 (.q 1 (.q 2 (.q 3 (.q 4 (.q 5 (.q 6 (.q 7 (.q 8 ((.l 9 [] (.q 10 (.q 11 ((.l 12 [] (.q 13 (.q 14 ((.l 15 [] (.done)))))))))))))))))))) (by kernel_rfl) ?_
     refine q_move rfl rfl rfl rfl ?_
     refine q_move rfl rfl rfl rfl ?_
     refine q_move rfl rfl rfl rfl ?_
     refine q_nil_p rfl rfl rfl rfl ?_
     refine q_field (k := 0) rfl rfl rfl rfl Try.underlying91 rfl Try.sizeOf88 rfl ?_
     refine q_load_c (j := 0) rfl rfl rfl rfl Try.isAgg88 Tk (by first | rfl | exact (Nat.add_zero _).symm) (by rfl) ?_
     refine q_nil_p rfl rfl rfl rfl ?_
     refine q_field (k := 0) rfl rfl rfl rfl Try.underlying87 rfl Try.sizeOf83 rfl ?_
     refine q_load_c (j := 0) rfl rfl rfl rfl Try.isAgg83 Tk (by first | rfl | exact (Nat.add_zero _).symm) (by rfl) ?_
     have sp_4 := Fe.len_spec pa pc cb x.v.ck
     refine l_call rfl rfl rfl rfl rfl rfl Try.call46 (sp_4) Ts ?_
     rintro ⟨⟩ -
     try simp only [List.cons_append, List.nil_append]
     refine ag_nil ?_
     refine q_nil_p rfl rfl rfl rfl ?_
     refine q_field (k := 2) rfl rfl rfl rfl Try.underlying99 rfl Try.sizeOf3 rfl ?_
     refine l_store_O (j := 2) (k := o.toNat) (q := (some ⟨rb, 0, none⟩, some ⟨wb, 0, none⟩, x.v.ck.n, fg)) (enc := encV) (off := io67) rfl rfl rfl rfl Try.sizeOf3 (us := [_]) rfl rfl rfl ha67 encV_len hv Tk (by first | rfl | exact (Nat.add_zero _).symm | omega) (by first | decide | exact Nat.le_of_ble_eq_true rfl) (by rfl) ?_
     refine ag_nil ?_
     have hq1 : (V.set o.toNat (some ⟨rb, 0, none⟩, some ⟨wb, 0, none⟩, x.v.ck.n, fg))[o.toNat]? = some (some ⟨rb, 0, none⟩, some ⟨wb, 0, none⟩, x.v.ck.n, fg) := List.getElem?_set_self (by omega)
     refine q_nil_p rfl rfl rfl rfl ?_
     refine q_field (k := 3) rfl rfl rfl rfl Try.underlying99 rfl Try.sizeOf4 rfl ?_
     refine l_store_O (j := 3) (k := o.toNat) (q := (some ⟨rb, 0, none⟩, some ⟨wb, 0, none⟩, x.v.ck.n, true)) (enc := encV) (off := io67) rfl rfl rfl rfl Try.sizeOf4 (us := [_]) rfl rfl rfl ha67 encV_len hq1 Tk (by first | rfl | exact (Nat.add_zero _).symm | omega) (by first | decide | exact Nat.le_of_ble_eq_true rfl) (by rfl) ?_
     refine ag_nil ?_
     have hq2 : ((V.set o.toNat (some ⟨rb, 0, none⟩, some ⟨wb, 0, none⟩, x.v.ck.n, fg)).set o.toNat (some ⟨rb, 0, none⟩, some ⟨wb, 0, none⟩, x.v.ck.n, true))[o.toNat]? = some (some ⟨rb, 0, none⟩, some ⟨wb, 0, none⟩, x.v.ck.n, true) := List.getElem?_set_self (by simp; omega)
     refine r_done ?_
     refine s_keep [0, 3, 7] (e' := [(0, _), (3, _), (7, _)]) rfl ?_
     refine k_then_n ?_
     refine c_seq ?_
     refine c_plain (.q 0 (.q 1 (.q 2 (.q 3 (.q 4 (.done)))))) (by kernel_rfl) ?_
     refine q_move rfl rfl rfl rfl ?_
     refine q_nil_p rfl rfl rfl rfl ?_
     refine q_field (k := 0) rfl rfl rfl rfl Try.underlying99 rfl Try.sizeOf82 rfl ?_
     refine q_load_O (v := (.pointer (some ⟨rb, 0, none⟩))) (j := 0) (k' := o.toNat) (enc := encV) (off := io67) rfl rfl rfl rfl Try.isAgg82 ha67 encV_len hq2 Tk (by first | rfl | exact (Nat.add_zero _).symm | omega) (by rfl) ?_
     refine q_assign rfl rfl rfl rfl ?_
     refine r_done ?_
     refine s_keep [0, 3, 7, 8] (e' := [(0, _), (3, _), (7, _), (8, _)]) rfl ?_
     refine k_then_n ?_
     refine c_seq ?_
     refine c_seq ?_
     refine c_plain (.q 0 (.q 1 (.q 2 (.done)))) (by kernel_rfl) ?_
     refine q_field (k := 0) rfl rfl rfl rfl Try.underlying40 rfl Try.sizeOf38 rfl ?_
     refine q_load_c (j := 0) rfl rfl rfl rfl Try.isAgg38 Tk (by first | rfl | exact (Nat.add_zero _).symm) (by rfl) ?_
     refine q_int rfl rfl rfl rfl rfl (b_eql _ _ _ _) ?_
     refine r_done ?_
     refine k_then_n ?_
     refine c_cond_p rfl (fun h9 => ?_) (fun h9 => by exfalso; omega)
     refine c_plain (.q 0 (.q 1 (.q 2 (.q 3 (.q 4 (.done)))))) (by kernel_rfl) ?_
     refine q_move rfl rfl rfl rfl ?_
     refine q_nil_p rfl rfl rfl rfl ?_
     refine q_field (k := 1) rfl rfl rfl rfl Try.underlying99 rfl Try.sizeOf82 rfl ?_
     refine q_load_O (v := (.pointer (some ⟨wb, 0, none⟩))) (j := 1) (k' := o.toNat) (enc := encV) (off := io67) rfl rfl rfl rfl Try.isAgg82 ha67 encV_len hq2 Tk (by first | rfl | exact (Nat.add_zero _).symm | omega) (by rfl) ?_
     refine q_assign rfl rfl rfl rfl ?_
     refine r_done ?_
     refine s_keep [0, 3, 8] (e' := [(0, _), (3, _), (8, _)]) rfl ?_
     refine k_then_n ?_
     refine c_draw rfl (.q 0 (.q 1 (.q 2 (.q 3 (.q 4 (.q 5 (.q 6 (.q 7 (.q 8 ((.l 9 [2] ((.l 10 [] (.done)))))))))))))) (by kernel_rfl) ?_
     refine q_move rfl rfl rfl rfl ?_
     refine q_field (k := 1) rfl rfl rfl rfl Try.underlying40 rfl Try.sizeOf3 rfl ?_
     refine q_load_c (j := 1) rfl rfl rfl rfl Try.isAgg3 Tk (by first | rfl | exact (Nat.add_zero _).symm) (by rfl) ?_
     refine q_move rfl rfl rfl rfl ?_
     refine q_nil_p rfl rfl rfl rfl ?_
     refine q_field (k := 0) rfl rfl rfl rfl Try.underlying91 rfl Try.sizeOf88 rfl ?_
     refine q_load_c (j := 0) rfl rfl rfl rfl Try.isAgg88 Tk (by first | rfl | exact (Nat.add_zero _).symm) (by rfl) ?_
     refine q_field (k := 1) rfl rfl rfl rfl Try.underlying40 rfl Try.sizeOf3 rfl ?_
     refine q_load_c (j := 1) rfl rfl rfl rfl Try.isAgg3 Tk (by first | rfl | exact (Nat.add_zero _).symm) (by rfl) ?_
     have sp_5 := clock_spec vb m1 (.pointer (some ⟨cb, 0, none⟩)) (.slice po x.v.ck.pa.length poc) (.map (some m2)) (.map (some m3)) (.map (some m4)) F1 tb (ta) (tc) l t (by omega) htF
     refine l_call rfl rfl rfl rfl rfl rfl Try.call48 (sp_5) Ts ?_
     rintro ⟨⟩ -
     try simp only [List.cons_append, List.nil_append]
     refine ag_load_c (q := 1) rfl rfl rfl Try.isAgg3 Tk (by first | rfl | exact (Nat.add_zero _).symm) (by rfl) ?_
     refine ag_nil ?_
     have sp_6 := set_z wb w.2.1 wa w.2.1.length wc (by first | rfl | assumption | omega | (simp; done) | (simp; omega)) hww t (by omega) (by omega) (l.getD t.toNat 0) (by exact hgr.1) (by exact hgr.2)
     refine l_call rfl rfl rfl rfl rfl rfl Try.call47 (sp_6) Ts ?_
     rintro ⟨za, zc⟩ -
     try simp only [List.cons_append, List.nil_append]
     refine ag_nil ?_
     refine r_done ?_
     refine s_vecF rb ra rc w.1 Ts ?_
     refine s_vecF wb za zc (stL w.2.1 t.toNat (l.getD t.toNat 0)) Ts ?_
     refine s_varF (some ⟨rb, 0, none⟩, some ⟨wb, 0, none⟩, x.v.ck.n, true) (w.1, (stL w.2.1 t.toNat (l.getD t.toNat 0)), x.v.ck.n, true) Ts rfl ?_
     refine s_restL_put (res := varA) (V := V) (Y := x.vs) (S := []) o.toNat (some ⟨rb, 0, none⟩, some ⟨wb, 0, none⟩, x.v.ck.n, true) (w.1, (stL w.2.1 t.toNat (l.getD t.toNat 0)), x.v.ck.n, true) Ts (by simp) (List.getElem?_eq_some_iff.1 hv).1 (by omega) ?_
     rw [set_set]
     refine s_keep [0, 3] (e' := [(0, _), (3, _)]) rfl ?_
     refine k_then_n ?_
     refine c_exit ?_
     refine k_blk_here ?_
     refine k_then_n ?_
     refine c_seq ?_
     refine s_vecF tb ta tc l Ts ?_
     refine s_rest_put (F := F1) (T := x.v.th) (S := []) t F1 x.v.th Ts (by simp) htF (fun _ _ _ => rfl) hth (fun _ _ _ => rfl) ?_
     refine vs_fold (b := vb) x.v (pa := pa) (pc := pc) (po := po) (poc := poc) (cb := cb) (m1 := m1) (m2 := m2) (m3 := m3) (m4 := m4) Ts (by rfl) (by rfl) ?_
     refine c_draw rfl (.q 0 (.q 1 (.q 2 (.q 3 (.q 4 ((.l 5 [] (.done)))))))) (by kernel_rfl) ?_
     refine q_move rfl rfl rfl rfl ?_
     refine q_nil_p rfl rfl rfl rfl ?_
     refine q_field (k := 0) rfl rfl rfl rfl Try.underlying91 rfl Try.sizeOf88 rfl ?_
     refine q_load_c (j := 0) rfl rfl rfl rfl Try.isAgg88 Tk (by first | rfl | exact (Nat.add_zero _).symm) (by rfl) ?_
     refine q_loadN_c rfl rfl rfl rfl Try.isAgg40 Try.sizeOf40 Tk 0 (us := [_, _, _]) (by first | rfl | exact (Nat.add_zero _).symm) rfl rfl ?_
     have sp_7 := next_spec pa pc po poc vb x.v hx.v hn pl hpl k t o hvc
     refine l_call rfl rfl rfl rfl rfl rfl Try.call49 (sp_7) Ts ?_
     rintro ⟨⟩ -
     try simp only [List.cons_append, List.nil_append]
     refine ag_nil ?_
     refine r_done ?_
     refine s_keep [] (e' := []) rfl ?_
     refine k_then_n ?_
     refine c_seq ?_
     refine c_plain (.q 0 (.done)) (by kernel_rfl) ?_
     refine q_assign rfl rfl rfl rfl ?_
     refine r_done ?_
     refine k_then_n ?_
     refine c_ret ?_
     have hrc : raceF k l w := .inl ⟨k2, hr1⟩
     have hacw : acW x.v.ck.n k t l w = (w.1, (stL w.2.1 t.toNat (l.getD t.toNat 0)), x.v.ck.n, true) := by
       unfold acW
       rw [if_pos k2, if_pos k2]
       have hfg2 : fg = false := by simpa using hfg
       rw [if_pos ⟨hrc, e2.trans hfg2⟩, decide_eq_true hrc, Bool.or_true]
     refine d_fold (b := b) (deF x k t o) (pa := pa) (pc := pc) (po := po) (poc := poc) (vb := vb) (va := va) (vc := vc) (V := (V.set o.toNat (some ⟨rb, 0, none⟩, some ⟨wb, 0, none⟩, x.v.ck.n, true))) Ts (by rw [de_acc hvc (by omega) hw hth, hacw]; congr 1; omega) (by simp) (by first | exact (by simp [hV]) | simp) ?_
     refine ret1 rfl rfl (()) (by rw [show deE x k t o = 0 from if_pos hvc]) (by trivial) ?_
     exact Tf
    ·
     try simp only [Bool.and_eq_true, Bool.or_eq_true, Bool.not_eq_true', Bool.not_eq_false', Bool.and_eq_false_iff, Bool.or_eq_false_iff, decide_eq_true_eq, decide_eq_false_iff_not] at hfg
     refine c_skip ?_
     refine k_then_n ?_
     refine c_seq ?_
     refine c_plain (.q 0 (.q 1 (.q 2 (.q 3 (.q 4 (.done)))))) (by kernel_rfl) ?_
     refine q_move rfl rfl rfl rfl ?_
     refine q_nil_p rfl rfl rfl rfl ?_
     refine q_field (k := 0) rfl rfl rfl rfl Try.underlying99 rfl Try.sizeOf82 rfl ?_
     refine q_load_O (v := (.pointer (some ⟨rb, 0, none⟩))) (j := 0) (k' := o.toNat) (enc := encV) (off := io67) rfl rfl rfl rfl Try.isAgg82 ha67 encV_len hv Tk (by first | rfl | exact (Nat.add_zero _).symm | omega) (by rfl) ?_
     refine q_assign rfl rfl rfl rfl ?_
     refine r_done ?_
     refine s_keep [0, 3, 7, 8] (e' := [(0, _), (3, _), (7, _), (8, _)]) rfl ?_
     refine k_then_n ?_
     refine c_seq ?_
     refine c_seq ?_
     refine c_plain (.q 0 (.q 1 (.q 2 (.done)))) (by kernel_rfl) ?_
     refine q_field (k := 0) rfl rfl rfl rfl Try.underlying40 rfl Try.sizeOf38 rfl ?_
     refine q_load_c (j := 0) rfl rfl rfl rfl Try.isAgg38 Tk (by first | rfl | exact (Nat.add_zero _).symm) (by rfl) ?_
     refine q_int rfl rfl rfl rfl rfl (b_eql _ _ _ _) ?_
     refine r_done ?_
     refine k_then_n ?_
     refine c_cond_p rfl (fun h9 => ?_) (fun h9 => by exfalso; omega)
     refine c_plain (.q 0 (.q 1 (.q 2 (.q 3 (.q 4 (.done)))))) (by kernel_rfl) ?_
     refine q_move rfl rfl rfl rfl ?_
     refine q_nil_p rfl rfl rfl rfl ?_
     refine q_field (k := 1) rfl rfl rfl rfl Try.underlying99 rfl Try.sizeOf82 rfl ?_
     refine q_load_O (v := (.pointer (some ⟨wb, 0, none⟩))) (j := 1) (k' := o.toNat) (enc := encV) (off := io67) rfl rfl rfl rfl Try.isAgg82 ha67 encV_len hv Tk (by first | rfl | exact (Nat.add_zero _).symm | omega) (by rfl) ?_
     refine q_assign rfl rfl rfl rfl ?_
     refine r_done ?_
     refine s_keep [0, 3, 8] (e' := [(0, _), (3, _), (8, _)]) rfl ?_
     refine k_then_n ?_
     refine c_draw rfl (.q 0 (.q 1 (.q 2 (.q 3 (.q 4 (.q 5 (.q 6 (.q 7 (.q 8 ((.l 9 [2] ((.l 10 [] (.done)))))))))))))) (by kernel_rfl) ?_
     refine q_move rfl rfl rfl rfl ?_
     refine q_field (k := 1) rfl rfl rfl rfl Try.underlying40 rfl Try.sizeOf3 rfl ?_
     refine q_load_c (j := 1) rfl rfl rfl rfl Try.isAgg3 Tk (by first | rfl | exact (Nat.add_zero _).symm) (by rfl) ?_
     refine q_move rfl rfl rfl rfl ?_
     refine q_nil_p rfl rfl rfl rfl ?_
     refine q_field (k := 0) rfl rfl rfl rfl Try.underlying91 rfl Try.sizeOf88 rfl ?_
     refine q_load_c (j := 0) rfl rfl rfl rfl Try.isAgg88 Tk (by first | rfl | exact (Nat.add_zero _).symm) (by rfl) ?_
     refine q_field (k := 1) rfl rfl rfl rfl Try.underlying40 rfl Try.sizeOf3 rfl ?_
     refine q_load_c (j := 1) rfl rfl rfl rfl Try.isAgg3 Tk (by first | rfl | exact (Nat.add_zero _).symm) (by rfl) ?_
     have sp_8 := clock_spec vb m1 (.pointer (some ⟨cb, 0, none⟩)) (.slice po x.v.ck.pa.length poc) (.map (some m2)) (.map (some m3)) (.map (some m4)) F1 tb (ta) (tc) l t (by omega) htF
     refine l_call rfl rfl rfl rfl rfl rfl Try.call48 (sp_8) Ts ?_
     rintro ⟨⟩ -
     try simp only [List.cons_append, List.nil_append]
     refine ag_load_c (q := 1) rfl rfl rfl Try.isAgg3 Tk (by first | rfl | exact (Nat.add_zero _).symm) (by rfl) ?_
     refine ag_nil ?_
     have sp_9 := set_z wb w.2.1 wa w.2.1.length wc (by first | rfl | assumption | omega | (simp; done) | (simp; omega)) hww t (by omega) (by omega) (l.getD t.toNat 0) (by exact hgr.1) (by exact hgr.2)
     refine l_call rfl rfl rfl rfl rfl rfl Try.call47 (sp_9) Ts ?_
     rintro ⟨za, zc⟩ -
     try simp only [List.cons_append, List.nil_append]
     refine ag_nil ?_
     refine r_done ?_
     refine s_vecF rb ra rc w.1 Ts ?_
     refine s_vecF wb za zc (stL w.2.1 t.toNat (l.getD t.toNat 0)) Ts ?_
     refine s_varF (some ⟨rb, 0, none⟩, some ⟨wb, 0, none⟩, fl, fg) (w.1, (stL w.2.1 t.toNat (l.getD t.toNat 0)), fl, fg) Ts rfl ?_
     refine s_restL_put (res := varA) (V := V) (Y := x.vs) (S := []) o.toNat (some ⟨rb, 0, none⟩, some ⟨wb, 0, none⟩, fl, fg) (w.1, (stL w.2.1 t.toNat (l.getD t.toNat 0)), fl, fg) Ts (by simp) (List.getElem?_eq_some_iff.1 hv).1 (by omega) ?_
     rw [set_same hv]
     refine s_keep [0, 3] (e' := [(0, _), (3, _)]) rfl ?_
     refine k_then_n ?_
     refine c_exit ?_
     refine k_blk_here ?_
     refine k_then_n ?_
     refine c_seq ?_
     refine s_vecF tb ta tc l Ts ?_
     refine s_rest_put (F := F1) (T := x.v.th) (S := []) t F1 x.v.th Ts (by simp) htF (fun _ _ _ => rfl) hth (fun _ _ _ => rfl) ?_
     refine vs_fold (b := vb) x.v (pa := pa) (pc := pc) (po := po) (poc := poc) (cb := cb) (m1 := m1) (m2 := m2) (m3 := m3) (m4 := m4) Ts (by rfl) (by rfl) ?_
     refine c_draw rfl (.q 0 (.q 1 (.q 2 (.q 3 (.q 4 ((.l 5 [] (.done)))))))) (by kernel_rfl) ?_
     refine q_move rfl rfl rfl rfl ?_
     refine q_nil_p rfl rfl rfl rfl ?_
     refine q_field (k := 0) rfl rfl rfl rfl Try.underlying91 rfl Try.sizeOf88 rfl ?_
     refine q_load_c (j := 0) rfl rfl rfl rfl Try.isAgg88 Tk (by first | rfl | exact (Nat.add_zero _).symm) (by rfl) ?_
     refine q_loadN_c rfl rfl rfl rfl Try.isAgg40 Try.sizeOf40 Tk 0 (us := [_, _, _]) (by first | rfl | exact (Nat.add_zero _).symm) rfl rfl ?_
     have sp_10 := next_spec pa pc po poc vb x.v hx.v hn pl hpl k t o hvc
     refine l_call rfl rfl rfl rfl rfl rfl Try.call49 (sp_10) Ts ?_
     rintro ⟨⟩ -
     try simp only [List.cons_append, List.nil_append]
     refine ag_nil ?_
     refine r_done ?_
     refine s_keep [] (e' := []) rfl ?_
     refine k_then_n ?_
     refine c_seq ?_
     refine c_plain (.q 0 (.done)) (by kernel_rfl) ?_
     refine q_assign rfl rfl rfl rfl ?_
     refine r_done ?_
     refine k_then_n ?_
     refine c_ret ?_
     have hrc : raceF k l w := .inl ⟨k2, hr1⟩
     have hacw : acW x.v.ck.n k t l w = (w.1, (stL w.2.1 t.toNat (l.getD t.toNat 0)), fl, fg) := by
       unfold acW
       rw [if_pos k2, if_pos k2]
       have hfg2 : fg = true := by simpa using hfg
       rw [if_neg (fun h => by rw [e2, hfg2] at h; exact absurd h.2 (by decide)), e1, e2, hfg2, Bool.true_or]
     refine d_fold (b := b) (deF x k t o) (pa := pa) (pc := pc) (po := po) (poc := poc) (vb := vb) (va := va) (vc := vc) (V := V) Ts (by rw [de_acc hvc (by omega) hw hth, hacw]; congr 1; omega) (by simp) (by first | exact (by simp [hV]) | simp) ?_
     refine ret1 rfl rfl (()) (by rw [show deE x k t o = 0 from if_pos hvc]) (by trivial) ?_
     exact Tf
   ·
    refine q_move rfl rfl rfl rfl ?_
    refine q_nil_p rfl rfl rfl rfl ?_
    refine q_field (k := 1) rfl rfl rfl rfl Try.underlying99 rfl Try.sizeOf82 rfl ?_
    refine q_load_O (v := (.pointer (some ⟨wb, 0, none⟩))) (j := 1) (k' := o.toNat) (enc := encV) (off := io67) rfl rfl rfl rfl Try.isAgg82 ha67 encV_len hv Tk (by first | rfl | exact (Nat.add_zero _).symm | omega) (by rfl) ?_
    refine q_move rfl rfl rfl rfl ?_
    have sp_11 := Vc.leq_spec wb tb w.2.1 l wa ta w.2.1.length wc l.length tc (by rfl) (by rfl) hww hlc
    refine l_call rfl rfl rfl rfl rfl rfl Try.call45 (sp_11) Ts ?_
    rintro ⟨⟩ -
    try simp only [List.cons_append, List.nil_append]
    refine ag_nil ?_
    refine q_not rfl rfl rfl rfl ?_
    refine q_pick_f rfl rfl rfl rfl rfl ?_
    refine q_assign rfl rfl rfl rfl ?_
    refine r_done ?_
    refine s_keep [0, 3, 5, 7] (e' := [(0, _), (3, _), (5, _), (7, _)]) rfl ?_
    refine k_then_n ?_
    refine c_seq ?_
    refine c_seq ?_
    refine c_plain (.q 0 (.q 1 (.q 2 (.q 3 (.q 4 (.q 5 (.q 6 (.q 7 (.done))))))))) (by kernel_rfl) ?_
    refine q_move rfl rfl rfl rfl ?_
    refine q_move rfl rfl rfl rfl ?_
    refine s_bool_np 79 rfl (fun hr2 => ?_) (fun hr2 => ?_)
    ·
     refine q_move rfl rfl rfl rfl ?_
     refine q_nil_p rfl rfl rfl rfl ?_
     refine q_field (k := 3) rfl rfl rfl rfl Try.underlying99 rfl Try.sizeOf4 rfl ?_
     refine q_load_O (v := (.bool fg)) (j := 3) (k' := o.toNat) (enc := encV) (off := io67) rfl rfl rfl rfl Try.isAgg4 ha67 encV_len hv Tk (by first | rfl | exact (Nat.add_zero _).symm | omega) (by rfl) ?_
     refine q_not rfl rfl rfl rfl ?_
     refine q_pick_t rfl rfl rfl rfl rfl ?_
     refine r_done ?_
     refine s_keep [0, 3, 7, 85] (e' := [(0, _), (3, _), (7, _), (85, _)]) rfl ?_
     refine k_then_n ?_
     refine c_cond rfl (fun hfg => ?_) (fun hfg => ?_)
     ·
      try simp only [Bool.and_eq_true, Bool.or_eq_true, Bool.not_eq_true', Bool.not_eq_false', Bool.and_eq_false_iff, Bool.or_eq_false_iff, decide_eq_true_eq, decide_eq_false_iff_not] at hfg
      refine c_plain (.q 0 (.q 1 (.q 2 (.q 3 (.q 4 (.q 5 (.q 6 (.q 7 (.q 8 ((.l 9 [] (.q 10 (.q 11 ((.l 12 [] (.q 13 (.q 14 ((.l 15 [] (.done)))))))))))))))))))) (by kernel_rfl) ?_
      refine q_move rfl rfl rfl rfl ?_
      refine q_move rfl rfl rfl rfl ?_
      refine q_move rfl rfl rfl rfl ?_
      refine q_nil_p rfl rfl rfl rfl ?_
      refine q_field (k := 0) rfl rfl rfl rfl Try.underlying91 rfl Try.sizeOf88 rfl ?_
      refine q_load_c (j := 0) rfl rfl rfl rfl Try.isAgg88 Tk (by first | rfl | exact (Nat.add_zero _).symm) (by rfl) ?_
      refine q_nil_p rfl rfl rfl rfl ?_
      refine q_field (k := 0) rfl rfl rfl rfl Try.underlying87 rfl Try.sizeOf83 rfl ?_
      refine q_load_c (j := 0) rfl rfl rfl rfl Try.isAgg83 Tk (by first | rfl | exact (Nat.add_zero _).symm) (by rfl) ?_
      have sp_12 := Fe.len_spec pa pc cb x.v.ck
      refine l_call rfl rfl rfl rfl rfl rfl Try.call46 (sp_12) Ts ?_
      rintro ⟨⟩ -
      try simp only [List.cons_append, List.nil_append]
      refine ag_nil ?_
      refine q_nil_p rfl rfl rfl rfl ?_
      refine q_field (k := 2) rfl rfl rfl rfl Try.underlying99 rfl Try.sizeOf3 rfl ?_
      refine l_store_O (j := 2) (k := o.toNat) (q := (some ⟨rb, 0, none⟩, some ⟨wb, 0, none⟩, x.v.ck.n, fg)) (enc := encV) (off := io67) rfl rfl rfl rfl Try.sizeOf3 (us := [_]) rfl rfl rfl ha67 encV_len hv Tk (by first | rfl | exact (Nat.add_zero _).symm | omega) (by first | decide | exact Nat.le_of_ble_eq_true rfl) (by rfl) ?_
      refine ag_nil ?_
      have hq1 : (V.set o.toNat (some ⟨rb, 0, none⟩, some ⟨wb, 0, none⟩, x.v.ck.n, fg))[o.toNat]? = some (some ⟨rb, 0, none⟩, some ⟨wb, 0, none⟩, x.v.ck.n, fg) := List.getElem?_set_self (by omega)
      refine q_nil_p rfl rfl rfl rfl ?_
      refine q_field (k := 3) rfl rfl rfl rfl Try.underlying99 rfl Try.sizeOf4 rfl ?_
      refine l_store_O (j := 3) (k := o.toNat) (q := (some ⟨rb, 0, none⟩, some ⟨wb, 0, none⟩, x.v.ck.n, true)) (enc := encV) (off := io67) rfl rfl rfl rfl Try.sizeOf4 (us := [_]) rfl rfl rfl ha67 encV_len hq1 Tk (by first | rfl | exact (Nat.add_zero _).symm | omega) (by first | decide | exact Nat.le_of_ble_eq_true rfl) (by rfl) ?_
      refine ag_nil ?_
      have hq2 : ((V.set o.toNat (some ⟨rb, 0, none⟩, some ⟨wb, 0, none⟩, x.v.ck.n, fg)).set o.toNat (some ⟨rb, 0, none⟩, some ⟨wb, 0, none⟩, x.v.ck.n, true))[o.toNat]? = some (some ⟨rb, 0, none⟩, some ⟨wb, 0, none⟩, x.v.ck.n, true) := List.getElem?_set_self (by simp; omega)
      refine r_done ?_
      refine s_keep [0, 3, 7] (e' := [(0, _), (3, _), (7, _)]) rfl ?_
      refine k_then_n ?_
      refine c_seq ?_
      refine c_plain (.q 0 (.q 1 (.q 2 (.q 3 (.q 4 (.done)))))) (by kernel_rfl) ?_
      refine q_move rfl rfl rfl rfl ?_
      refine q_nil_p rfl rfl rfl rfl ?_
      refine q_field (k := 0) rfl rfl rfl rfl Try.underlying99 rfl Try.sizeOf82 rfl ?_
      refine q_load_O (v := (.pointer (some ⟨rb, 0, none⟩))) (j := 0) (k' := o.toNat) (enc := encV) (off := io67) rfl rfl rfl rfl Try.isAgg82 ha67 encV_len hq2 Tk (by first | rfl | exact (Nat.add_zero _).symm | omega) (by rfl) ?_
      refine q_assign rfl rfl rfl rfl ?_
      refine r_done ?_
      refine s_keep [0, 3, 7, 8] (e' := [(0, _), (3, _), (7, _), (8, _)]) rfl ?_
      refine k_then_n ?_
      refine c_seq ?_
      refine c_seq ?_
      refine c_plain (.q 0 (.q 1 (.q 2 (.done)))) (by kernel_rfl) ?_
      refine q_field (k := 0) rfl rfl rfl rfl Try.underlying40 rfl Try.sizeOf38 rfl ?_
      refine q_load_c (j := 0) rfl rfl rfl rfl Try.isAgg38 Tk (by first | rfl | exact (Nat.add_zero _).symm) (by rfl) ?_
      refine q_int rfl rfl rfl rfl rfl (b_eql _ _ _ _) ?_
      refine r_done ?_
      refine k_then_n ?_
      refine c_cond_p rfl (fun h9 => ?_) (fun h9 => by exfalso; omega)
      refine c_plain (.q 0 (.q 1 (.q 2 (.q 3 (.q 4 (.done)))))) (by kernel_rfl) ?_
      refine q_move rfl rfl rfl rfl ?_
      refine q_nil_p rfl rfl rfl rfl ?_
      refine q_field (k := 1) rfl rfl rfl rfl Try.underlying99 rfl Try.sizeOf82 rfl ?_
      refine q_load_O (v := (.pointer (some ⟨wb, 0, none⟩))) (j := 1) (k' := o.toNat) (enc := encV) (off := io67) rfl rfl rfl rfl Try.isAgg82 ha67 encV_len hq2 Tk (by first | rfl | exact (Nat.add_zero _).symm | omega) (by rfl) ?_
      refine q_assign rfl rfl rfl rfl ?_
      refine r_done ?_
      refine s_keep [0, 3, 8] (e' := [(0, _), (3, _), (8, _)]) rfl ?_
      refine k_then_n ?_
      refine c_draw rfl (.q 0 (.q 1 (.q 2 (.q 3 (.q 4 (.q 5 (.q 6 (.q 7 (.q 8 ((.l 9 [2] ((.l 10 [] (.done)))))))))))))) (by kernel_rfl) ?_
      refine q_move rfl rfl rfl rfl ?_
      refine q_field (k := 1) rfl rfl rfl rfl Try.underlying40 rfl Try.sizeOf3 rfl ?_
      refine q_load_c (j := 1) rfl rfl rfl rfl Try.isAgg3 Tk (by first | rfl | exact (Nat.add_zero _).symm) (by rfl) ?_
      refine q_move rfl rfl rfl rfl ?_
      refine q_nil_p rfl rfl rfl rfl ?_
      refine q_field (k := 0) rfl rfl rfl rfl Try.underlying91 rfl Try.sizeOf88 rfl ?_
      refine q_load_c (j := 0) rfl rfl rfl rfl Try.isAgg88 Tk (by first | rfl | exact (Nat.add_zero _).symm) (by rfl) ?_
      refine q_field (k := 1) rfl rfl rfl rfl Try.underlying40 rfl Try.sizeOf3 rfl ?_
      refine q_load_c (j := 1) rfl rfl rfl rfl Try.isAgg3 Tk (by first | rfl | exact (Nat.add_zero _).symm) (by rfl) ?_
      have sp_13 := clock_spec vb m1 (.pointer (some ⟨cb, 0, none⟩)) (.slice po x.v.ck.pa.length poc) (.map (some m2)) (.map (some m3)) (.map (some m4)) F1 tb (ta) (tc) l t (by omega) htF
      refine l_call rfl rfl rfl rfl rfl rfl Try.call48 (sp_13) Ts ?_
      rintro ⟨⟩ -
      try simp only [List.cons_append, List.nil_append]
      refine ag_load_c (q := 1) rfl rfl rfl Try.isAgg3 Tk (by first | rfl | exact (Nat.add_zero _).symm) (by rfl) ?_
      refine ag_nil ?_
      have sp_14 := set_z wb w.2.1 wa w.2.1.length wc (by first | rfl | assumption | omega | (simp; done) | (simp; omega)) hww t (by omega) (by omega) (l.getD t.toNat 0) (by exact hgr.1) (by exact hgr.2)
      refine l_call rfl rfl rfl rfl rfl rfl Try.call47 (sp_14) Ts ?_
      rintro ⟨za, zc⟩ -
      try simp only [List.cons_append, List.nil_append]
      refine ag_nil ?_
      refine r_done ?_
      refine s_vecF rb ra rc w.1 Ts ?_
      refine s_vecF wb za zc (stL w.2.1 t.toNat (l.getD t.toNat 0)) Ts ?_
      refine s_varF (some ⟨rb, 0, none⟩, some ⟨wb, 0, none⟩, x.v.ck.n, true) (w.1, (stL w.2.1 t.toNat (l.getD t.toNat 0)), x.v.ck.n, true) Ts rfl ?_
      refine s_restL_put (res := varA) (V := V) (Y := x.vs) (S := []) o.toNat (some ⟨rb, 0, none⟩, some ⟨wb, 0, none⟩, x.v.ck.n, true) (w.1, (stL w.2.1 t.toNat (l.getD t.toNat 0)), x.v.ck.n, true) Ts (by simp) (List.getElem?_eq_some_iff.1 hv).1 (by omega) ?_
      rw [set_set]
      refine s_keep [0, 3] (e' := [(0, _), (3, _)]) rfl ?_
      refine k_then_n ?_
      refine c_exit ?_
      refine k_blk_here ?_
      refine k_then_n ?_
      refine c_seq ?_
      refine s_vecF tb ta tc l Ts ?_
      refine s_rest_put (F := F1) (T := x.v.th) (S := []) t F1 x.v.th Ts (by simp) htF (fun _ _ _ => rfl) hth (fun _ _ _ => rfl) ?_
      refine vs_fold (b := vb) x.v (pa := pa) (pc := pc) (po := po) (poc := poc) (cb := cb) (m1 := m1) (m2 := m2) (m3 := m3) (m4 := m4) Ts (by rfl) (by rfl) ?_
      refine c_draw rfl (.q 0 (.q 1 (.q 2 (.q 3 (.q 4 ((.l 5 [] (.done)))))))) (by kernel_rfl) ?_
      refine q_move rfl rfl rfl rfl ?_
      refine q_nil_p rfl rfl rfl rfl ?_
      refine q_field (k := 0) rfl rfl rfl rfl Try.underlying91 rfl Try.sizeOf88 rfl ?_
      refine q_load_c (j := 0) rfl rfl rfl rfl Try.isAgg88 Tk (by first | rfl | exact (Nat.add_zero _).symm) (by rfl) ?_
      refine q_loadN_c rfl rfl rfl rfl Try.isAgg40 Try.sizeOf40 Tk 0 (us := [_, _, _]) (by first | rfl | exact (Nat.add_zero _).symm) rfl rfl ?_
      have sp_15 := next_spec pa pc po poc vb x.v hx.v hn pl hpl k t o hvc
      refine l_call rfl rfl rfl rfl rfl rfl Try.call49 (sp_15) Ts ?_
      rintro ⟨⟩ -
      try simp only [List.cons_append, List.nil_append]
      refine ag_nil ?_
      refine r_done ?_
      refine s_keep [] (e' := []) rfl ?_
      refine k_then_n ?_
      refine c_seq ?_
      refine c_plain (.q 0 (.done)) (by kernel_rfl) ?_
      refine q_assign rfl rfl rfl rfl ?_
      refine r_done ?_
      refine k_then_n ?_
      refine c_ret ?_
      have hrc : raceF k l w := .inr hr2
      have hacw : acW x.v.ck.n k t l w = (w.1, (stL w.2.1 t.toNat (l.getD t.toNat 0)), x.v.ck.n, true) := by
        unfold acW
        rw [if_pos k2, if_pos k2]
        have hfg2 : fg = false := by simpa using hfg
        rw [if_pos ⟨hrc, e2.trans hfg2⟩, decide_eq_true hrc, Bool.or_true]
      refine d_fold (b := b) (deF x k t o) (pa := pa) (pc := pc) (po := po) (poc := poc) (vb := vb) (va := va) (vc := vc) (V := (V.set o.toNat (some ⟨rb, 0, none⟩, some ⟨wb, 0, none⟩, x.v.ck.n, true))) Ts (by rw [de_acc hvc (by omega) hw hth, hacw]; congr 1; omega) (by simp) (by first | exact (by simp [hV]) | simp) ?_
      refine ret1 rfl rfl (()) (by rw [show deE x k t o = 0 from if_pos hvc]) (by trivial) ?_
      exact Tf
     ·
      try simp only [Bool.and_eq_true, Bool.or_eq_true, Bool.not_eq_true', Bool.not_eq_false', Bool.and_eq_false_iff, Bool.or_eq_false_iff, decide_eq_true_eq, decide_eq_false_iff_not] at hfg
      refine c_skip ?_
      refine k_then_n ?_
      refine c_seq ?_
      refine c_plain (.q 0 (.q 1 (.q 2 (.q 3 (.q 4 (.done)))))) (by kernel_rfl) ?_
      refine q_move rfl rfl rfl rfl ?_
      refine q_nil_p rfl rfl rfl rfl ?_
      refine q_field (k := 0) rfl rfl rfl rfl Try.underlying99 rfl Try.sizeOf82 rfl ?_
      refine q_load_O (v := (.pointer (some ⟨rb, 0, none⟩))) (j := 0) (k' := o.toNat) (enc := encV) (off := io67) rfl rfl rfl rfl Try.isAgg82 ha67 encV_len hv Tk (by first | rfl | exact (Nat.add_zero _).symm | omega) (by rfl) ?_
      refine q_assign rfl rfl rfl rfl ?_
      refine r_done ?_
      refine s_keep [0, 3, 7, 8] (e' := [(0, _), (3, _), (7, _), (8, _)]) rfl ?_
      refine k_then_n ?_
      refine c_seq ?_
      refine c_seq ?_
      refine c_plain (.q 0 (.q 1 (.q 2 (.done)))) (by kernel_rfl) ?_
      refine q_field (k := 0) rfl rfl rfl rfl Try.underlying40 rfl Try.sizeOf38 rfl ?_
      refine q_load_c (j := 0) rfl rfl rfl rfl Try.isAgg38 Tk (by first | rfl | exact (Nat.add_zero _).symm) (by rfl) ?_
      refine q_int rfl rfl rfl rfl rfl (b_eql _ _ _ _) ?_
      refine r_done ?_
      refine k_then_n ?_
      refine c_cond_p rfl (fun h9 => ?_) (fun h9 => by exfalso; omega)
      refine c_plain (.q 0 (.q 1 (.q 2 (.q 3 (.q 4 (.done)))))) (by kernel_rfl) ?_
      refine q_move rfl rfl rfl rfl ?_
      refine q_nil_p rfl rfl rfl rfl ?_
      refine q_field (k := 1) rfl rfl rfl rfl Try.underlying99 rfl Try.sizeOf82 rfl ?_
      refine q_load_O (v := (.pointer (some ⟨wb, 0, none⟩))) (j := 1) (k' := o.toNat) (enc := encV) (off := io67) rfl rfl rfl rfl Try.isAgg82 ha67 encV_len hv Tk (by first | rfl | exact (Nat.add_zero _).symm | omega) (by rfl) ?_
      refine q_assign rfl rfl rfl rfl ?_
      refine r_done ?_
      refine s_keep [0, 3, 8] (e' := [(0, _), (3, _), (8, _)]) rfl ?_
      refine k_then_n ?_
      refine c_draw rfl (.q 0 (.q 1 (.q 2 (.q 3 (.q 4 (.q 5 (.q 6 (.q 7 (.q 8 ((.l 9 [2] ((.l 10 [] (.done)))))))))))))) (by kernel_rfl) ?_
      refine q_move rfl rfl rfl rfl ?_
      refine q_field (k := 1) rfl rfl rfl rfl Try.underlying40 rfl Try.sizeOf3 rfl ?_
      refine q_load_c (j := 1) rfl rfl rfl rfl Try.isAgg3 Tk (by first | rfl | exact (Nat.add_zero _).symm) (by rfl) ?_
      refine q_move rfl rfl rfl rfl ?_
      refine q_nil_p rfl rfl rfl rfl ?_
      refine q_field (k := 0) rfl rfl rfl rfl Try.underlying91 rfl Try.sizeOf88 rfl ?_
      refine q_load_c (j := 0) rfl rfl rfl rfl Try.isAgg88 Tk (by first | rfl | exact (Nat.add_zero _).symm) (by rfl) ?_
      refine q_field (k := 1) rfl rfl rfl rfl Try.underlying40 rfl Try.sizeOf3 rfl ?_
      refine q_load_c (j := 1) rfl rfl rfl rfl Try.isAgg3 Tk (by first | rfl | exact (Nat.add_zero _).symm) (by rfl) ?_
      have sp_16 := clock_spec vb m1 (.pointer (some ⟨cb, 0, none⟩)) (.slice po x.v.ck.pa.length poc) (.map (some m2)) (.map (some m3)) (.map (some m4)) F1 tb (ta) (tc) l t (by omega) htF
      refine l_call rfl rfl rfl rfl rfl rfl Try.call48 (sp_16) Ts ?_
      rintro ⟨⟩ -
      try simp only [List.cons_append, List.nil_append]
      refine ag_load_c (q := 1) rfl rfl rfl Try.isAgg3 Tk (by first | rfl | exact (Nat.add_zero _).symm) (by rfl) ?_
      refine ag_nil ?_
      have sp_17 := set_z wb w.2.1 wa w.2.1.length wc (by first | rfl | assumption | omega | (simp; done) | (simp; omega)) hww t (by omega) (by omega) (l.getD t.toNat 0) (by exact hgr.1) (by exact hgr.2)
      refine l_call rfl rfl rfl rfl rfl rfl Try.call47 (sp_17) Ts ?_
      rintro ⟨za, zc⟩ -
      try simp only [List.cons_append, List.nil_append]
      refine ag_nil ?_
      refine r_done ?_
      refine s_vecF rb ra rc w.1 Ts ?_
      refine s_vecF wb za zc (stL w.2.1 t.toNat (l.getD t.toNat 0)) Ts ?_
      refine s_varF (some ⟨rb, 0, none⟩, some ⟨wb, 0, none⟩, fl, fg) (w.1, (stL w.2.1 t.toNat (l.getD t.toNat 0)), fl, fg) Ts rfl ?_
      refine s_restL_put (res := varA) (V := V) (Y := x.vs) (S := []) o.toNat (some ⟨rb, 0, none⟩, some ⟨wb, 0, none⟩, fl, fg) (w.1, (stL w.2.1 t.toNat (l.getD t.toNat 0)), fl, fg) Ts (by simp) (List.getElem?_eq_some_iff.1 hv).1 (by omega) ?_
      rw [set_same hv]
      refine s_keep [0, 3] (e' := [(0, _), (3, _)]) rfl ?_
      refine k_then_n ?_
      refine c_exit ?_
      refine k_blk_here ?_
      refine k_then_n ?_
      refine c_seq ?_
      refine s_vecF tb ta tc l Ts ?_
      refine s_rest_put (F := F1) (T := x.v.th) (S := []) t F1 x.v.th Ts (by simp) htF (fun _ _ _ => rfl) hth (fun _ _ _ => rfl) ?_
      refine vs_fold (b := vb) x.v (pa := pa) (pc := pc) (po := po) (poc := poc) (cb := cb) (m1 := m1) (m2 := m2) (m3 := m3) (m4 := m4) Ts (by rfl) (by rfl) ?_
      refine c_draw rfl (.q 0 (.q 1 (.q 2 (.q 3 (.q 4 ((.l 5 [] (.done)))))))) (by kernel_rfl) ?_
      refine q_move rfl rfl rfl rfl ?_
      refine q_nil_p rfl rfl rfl rfl ?_
      refine q_field (k := 0) rfl rfl rfl rfl Try.underlying91 rfl Try.sizeOf88 rfl ?_
      refine q_load_c (j := 0) rfl rfl rfl rfl Try.isAgg88 Tk (by first | rfl | exact (Nat.add_zero _).symm) (by rfl) ?_
      refine q_loadN_c rfl rfl rfl rfl Try.isAgg40 Try.sizeOf40 Tk 0 (us := [_, _, _]) (by first | rfl | exact (Nat.add_zero _).symm) rfl rfl ?_
      have sp_18 := next_spec pa pc po poc vb x.v hx.v hn pl hpl k t o hvc
      refine l_call rfl rfl rfl rfl rfl rfl Try.call49 (sp_18) Ts ?_
      rintro ⟨⟩ -
      try simp only [List.cons_append, List.nil_append]
      refine ag_nil ?_
      refine r_done ?_
      refine s_keep [] (e' := []) rfl ?_
      refine k_then_n ?_
      refine c_seq ?_
      refine c_plain (.q 0 (.done)) (by kernel_rfl) ?_
      refine q_assign rfl rfl rfl rfl ?_
      refine r_done ?_
      refine k_then_n ?_
      refine c_ret ?_
      have hrc : raceF k l w := .inr hr2
      have hacw : acW x.v.ck.n k t l w = (w.1, (stL w.2.1 t.toNat (l.getD t.toNat 0)), fl, fg) := by
        unfold acW
        rw [if_pos k2, if_pos k2]
        have hfg2 : fg = true := by simpa using hfg
        rw [if_neg (fun h => by rw [e2, hfg2] at h; exact absurd h.2 (by decide)), e1, e2, hfg2, Bool.true_or]
      refine d_fold (b := b) (deF x k t o) (pa := pa) (pc := pc) (po := po) (poc := poc) (vb := vb) (va := va) (vc := vc) (V := V) Ts (by rw [de_acc hvc (by omega) hw hth, hacw]; congr 1; omega) (by simp) (by first | exact (by simp [hV]) | simp) ?_
      refine ret1 rfl rfl (()) (by rw [show deE x k t o = 0 from if_pos hvc]) (by trivial) ?_
      exact Tf
    ·
     refine q_skip rfl rfl rfl rfl ?_
     refine q_skip rfl rfl rfl rfl ?_
     refine q_skip rfl rfl rfl rfl ?_
     refine q_skip rfl rfl rfl rfl ?_
     refine q_skip rfl rfl rfl rfl ?_
     refine q_pick_f rfl rfl rfl rfl rfl ?_
     refine r_done ?_
     refine s_keep [0, 3, 7, 85] (e' := [(0, _), (3, _), (7, _), (85, _)]) rfl ?_
     refine k_then_n ?_
     refine c_cond_f rfl ?_
     refine c_skip ?_
     refine k_then_n ?_
     refine c_seq ?_
     refine c_plain (.q 0 (.q 1 (.q 2 (.q 3 (.q 4 (.done)))))) (by kernel_rfl) ?_
     refine q_move rfl rfl rfl rfl ?_
     refine q_nil_p rfl rfl rfl rfl ?_
     refine q_field (k := 0) rfl rfl rfl rfl Try.underlying99 rfl Try.sizeOf82 rfl ?_
     refine q_load_O (v := (.pointer (some ⟨rb, 0, none⟩))) (j := 0) (k' := o.toNat) (enc := encV) (off := io67) rfl rfl rfl rfl Try.isAgg82 ha67 encV_len hv Tk (by first | rfl | exact (Nat.add_zero _).symm | omega) (by rfl) ?_
     refine q_assign rfl rfl rfl rfl ?_
     refine r_done ?_
     refine s_keep [0, 3, 7, 8] (e' := [(0, _), (3, _), (7, _), (8, _)]) rfl ?_
     refine k_then_n ?_
     refine c_seq ?_
     refine c_seq ?_
     refine c_plain (.q 0 (.q 1 (.q 2 (.done)))) (by kernel_rfl) ?_
     refine q_field (k := 0) rfl rfl rfl rfl Try.underlying40 rfl Try.sizeOf38 rfl ?_
     refine q_load_c (j := 0) rfl rfl rfl rfl Try.isAgg38 Tk (by first | rfl | exact (Nat.add_zero _).symm) (by rfl) ?_
     refine q_int rfl rfl rfl rfl rfl (b_eql _ _ _ _) ?_
     refine r_done ?_
     refine k_then_n ?_
     refine c_cond_p rfl (fun h9 => ?_) (fun h9 => by exfalso; omega)
     refine c_plain (.q 0 (.q 1 (.q 2 (.q 3 (.q 4 (.done)))))) (by kernel_rfl) ?_
     refine q_move rfl rfl rfl rfl ?_
     refine q_nil_p rfl rfl rfl rfl ?_
     refine q_field (k := 1) rfl rfl rfl rfl Try.underlying99 rfl Try.sizeOf82 rfl ?_
     refine q_load_O (v := (.pointer (some ⟨wb, 0, none⟩))) (j := 1) (k' := o.toNat) (enc := encV) (off := io67) rfl rfl rfl rfl Try.isAgg82 ha67 encV_len hv Tk (by first | rfl | exact (Nat.add_zero _).symm | omega) (by rfl) ?_
     refine q_assign rfl rfl rfl rfl ?_
     refine r_done ?_
     refine s_keep [0, 3, 8] (e' := [(0, _), (3, _), (8, _)]) rfl ?_
     refine k_then_n ?_
     refine c_draw rfl (.q 0 (.q 1 (.q 2 (.q 3 (.q 4 (.q 5 (.q 6 (.q 7 (.q 8 ((.l 9 [2] ((.l 10 [] (.done)))))))))))))) (by kernel_rfl) ?_
     refine q_move rfl rfl rfl rfl ?_
     refine q_field (k := 1) rfl rfl rfl rfl Try.underlying40 rfl Try.sizeOf3 rfl ?_
     refine q_load_c (j := 1) rfl rfl rfl rfl Try.isAgg3 Tk (by first | rfl | exact (Nat.add_zero _).symm) (by rfl) ?_
     refine q_move rfl rfl rfl rfl ?_
     refine q_nil_p rfl rfl rfl rfl ?_
     refine q_field (k := 0) rfl rfl rfl rfl Try.underlying91 rfl Try.sizeOf88 rfl ?_
     refine q_load_c (j := 0) rfl rfl rfl rfl Try.isAgg88 Tk (by first | rfl | exact (Nat.add_zero _).symm) (by rfl) ?_
     refine q_field (k := 1) rfl rfl rfl rfl Try.underlying40 rfl Try.sizeOf3 rfl ?_
     refine q_load_c (j := 1) rfl rfl rfl rfl Try.isAgg3 Tk (by first | rfl | exact (Nat.add_zero _).symm) (by rfl) ?_
     have sp_19 := clock_spec vb m1 (.pointer (some ⟨cb, 0, none⟩)) (.slice po x.v.ck.pa.length poc) (.map (some m2)) (.map (some m3)) (.map (some m4)) F1 tb (ta) (tc) l t (by omega) htF
     refine l_call rfl rfl rfl rfl rfl rfl Try.call48 (sp_19) Ts ?_
     rintro ⟨⟩ -
     try simp only [List.cons_append, List.nil_append]
     refine ag_load_c (q := 1) rfl rfl rfl Try.isAgg3 Tk (by first | rfl | exact (Nat.add_zero _).symm) (by rfl) ?_
     refine ag_nil ?_
     have sp_20 := set_z wb w.2.1 wa w.2.1.length wc (by first | rfl | assumption | omega | (simp; done) | (simp; omega)) hww t (by omega) (by omega) (l.getD t.toNat 0) (by exact hgr.1) (by exact hgr.2)
     refine l_call rfl rfl rfl rfl rfl rfl Try.call47 (sp_20) Ts ?_
     rintro ⟨za, zc⟩ -
     try simp only [List.cons_append, List.nil_append]
     refine ag_nil ?_
     refine r_done ?_
     refine s_vecF rb ra rc w.1 Ts ?_
     refine s_vecF wb za zc (stL w.2.1 t.toNat (l.getD t.toNat 0)) Ts ?_
     refine s_varF (some ⟨rb, 0, none⟩, some ⟨wb, 0, none⟩, fl, fg) (w.1, (stL w.2.1 t.toNat (l.getD t.toNat 0)), fl, fg) Ts rfl ?_
     refine s_restL_put (res := varA) (V := V) (Y := x.vs) (S := []) o.toNat (some ⟨rb, 0, none⟩, some ⟨wb, 0, none⟩, fl, fg) (w.1, (stL w.2.1 t.toNat (l.getD t.toNat 0)), fl, fg) Ts (by simp) (List.getElem?_eq_some_iff.1 hv).1 (by omega) ?_
     rw [set_same hv]
     refine s_keep [0, 3] (e' := [(0, _), (3, _)]) rfl ?_
     refine k_then_n ?_
     refine c_exit ?_
     refine k_blk_here ?_
     refine k_then_n ?_
     refine c_seq ?_
     refine s_vecF tb ta tc l Ts ?_
     refine s_rest_put (F := F1) (T := x.v.th) (S := []) t F1 x.v.th Ts (by simp) htF (fun _ _ _ => rfl) hth (fun _ _ _ => rfl) ?_
     refine vs_fold (b := vb) x.v (pa := pa) (pc := pc) (po := po) (poc := poc) (cb := cb) (m1 := m1) (m2 := m2) (m3 := m3) (m4 := m4) Ts (by rfl) (by rfl) ?_
     refine c_draw rfl (.q 0 (.q 1 (.q 2 (.q 3 (.q 4 ((.l 5 [] (.done)))))))) (by kernel_rfl) ?_
     refine q_move rfl rfl rfl rfl ?_
     refine q_nil_p rfl rfl rfl rfl ?_
     refine q_field (k := 0) rfl rfl rfl rfl Try.underlying91 rfl Try.sizeOf88 rfl ?_
     refine q_load_c (j := 0) rfl rfl rfl rfl Try.isAgg88 Tk (by first | rfl | exact (Nat.add_zero _).symm) (by rfl) ?_
     refine q_loadN_c rfl rfl rfl rfl Try.isAgg40 Try.sizeOf40 Tk 0 (us := [_, _, _]) (by first | rfl | exact (Nat.add_zero _).symm) rfl rfl ?_
     have sp_21 := next_spec pa pc po poc vb x.v hx.v hn pl hpl k t o hvc
     refine l_call rfl rfl rfl rfl rfl rfl Try.call49 (sp_21) Ts ?_
     rintro ⟨⟩ -
     try simp only [List.cons_append, List.nil_append]
     refine ag_nil ?_
     refine r_done ?_
     refine s_keep [] (e' := []) rfl ?_
     refine k_then_n ?_
     refine c_seq ?_
     refine c_plain (.q 0 (.done)) (by kernel_rfl) ?_
     refine q_assign rfl rfl rfl rfl ?_
     refine r_done ?_
     refine k_then_n ?_
     refine c_ret ?_
     have hrc : ¬ raceF k l w := by
       rintro (⟨h8, h9⟩ | h9)
       · first | exact h9 (Classical.byContradiction hr1) | exact absurd (k1.symm.trans h8) (by decide) | exact hr1 h9 | exact h9 hr1
       · first | exact h9 (Classical.byContradiction hr2) | exact hr2 h9 | exact h9 hr2
     have hacw : acW x.v.ck.n k t l w = (w.1, (stL w.2.1 t.toNat (l.getD t.toNat 0)), fl, fg) := by
       unfold acW
       rw [if_pos k2, if_pos k2]
       rw [if_neg (fun h => hrc h.1), e1, e2, decide_eq_false hrc, Bool.or_false]
     refine d_fold (b := b) (deF x k t o) (pa := pa) (pc := pc) (po := po) (poc := poc) (vb := vb) (va := va) (vc := vc) (V := V) Ts (by rw [de_acc hvc (by omega) hw hth, hacw]; congr 1; omega) (by simp) (by first | exact (by simp [hV]) | simp) ?_
     refine ret1 rfl rfl (()) (by rw [show deE x k t o = 0 from if_pos hvc]) (by trivial) ?_
     exact Tf
  ·
   refine c_skip ?_
   refine k_then_n ?_
   refine c_seq ?_
   refine c_plain (.q 0 (.q 1 (.done))) (by kernel_rfl) ?_
   refine q_int rfl rfl rfl rfl rfl (b_eql _ _ _ _) ?_
   refine q_assign rfl rfl rfl rfl ?_
   refine r_done ?_
   refine s_keep [0, 3, 5, 6, 33] (e' := [(0, _), (3, _), (5, _), (6, _), (33, _)]) rfl ?_
   refine k_then_n ?_
   refine c_cond_p rfl (fun k1 => ?_) (fun k1 => ?_)
   ·
    refine c_exit ?_
    refine k_then_exit ?_
    refine k_blk_out rfl ?_
    refine k_then_exit ?_
    refine k_blk_here ?_
    refine k_then_n ?_
    refine c_seq ?_
    refine c_seq ?_
    refine c_plain (.q 0 (.q 1 (.q 2 (.q 3 (.q 4 (.q 5 (.q 6 ((.l 7 [] (.done)))))))))) (by kernel_rfl) ?_
    refine q_move rfl rfl rfl rfl ?_
    refine q_nil_p rfl rfl rfl rfl ?_
    refine q_field (k := 2) rfl rfl rfl rfl Try.underlying91 rfl Try.sizeOf3 rfl ?_
    refine q_load_c (j := 2) rfl rfl rfl rfl Try.isAgg3 Tk (by first | rfl | exact (Nat.add_zero _).symm) (by rfl) ?_
    refine q_int rfl rfl rfl rfl rfl (b_add' _ (by exact fits_i64 (by omega) (by omega))) ?_
    refine q_nil_p rfl rfl rfl rfl ?_
    refine q_field (k := 2) rfl rfl rfl rfl Try.underlying91 rfl Try.sizeOf3 rfl ?_
    refine l_store (j := 2) rfl rfl rfl rfl Try.sizeOf3 (us := [_]) rfl rfl rfl Tk (by first | rfl | exact (Nat.add_zero _).symm) (by first | decide | (simp; done) | omega) ?_
    simp only [setL, List.set]
    refine ag_nil ?_
    refine r_done ?_
    refine s_keep [0, 3, 5, 6] (e' := [(0, _), (3, _), (5, _), (6, _)]) rfl ?_
    refine k_then_n ?_
    refine c_seq ?_
    obtain ⟨p0, p1⟩ := acc_obj hvc.1 (by omega)
    obtain ⟨w, hw⟩ := get_lt (l := x.vs) (i := o.toNat) (by omega)
    obtain ⟨hwr, hww⟩ := hx.vs w (List.mem_of_getElem? hw)
    refine s_restL_take (res := varA) (V := V) (Y := x.vs) (S := []) o.toNat Tk (by simp) hw fun v_ hv => ?_
    obtain ⟨va_, vb_, fl, fg⟩ := v_
    refine s_var Tk fun hf => ?_
    refine s_vec Tk fun rb ra rc hra_ => ?_
    simp only at hra_
    subst hra_
    refine s_vec Td fun wb wa wc hwa_ => ?_
    simp only at hwa_
    subst hwa_
    simp only at hf
    have e1 : w.2.2.1 = fl := by rw [← hf]
    have e2 : w.2.2.2 = fg := by rw [← hf]
    have hgr := g_rng hlc.rng (by decide) t.toNat
    refine c_draw rfl (.q 0 (.q 1 (.q 2 (.q 3 (.q 4 (.q 5 (.q 6 (.q 7 (.done))))))))) (by kernel_rfl) ?_
    refine q_move rfl rfl rfl rfl ?_
    refine q_nil_p rfl rfl rfl rfl ?_
    refine q_field (k := 1) rfl rfl rfl rfl Try.underlying91 rfl Try.sizeOf89 rfl ?_
    refine q_load_c (j := 1) rfl rfl rfl rfl Try.isAgg89 Tk (by first | rfl | exact (Nat.add_zero _).symm) (by rfl) ?_
    refine q_field (k := 2) rfl rfl rfl rfl Try.underlying40 rfl Try.sizeOf3 rfl ?_
    refine q_load_c (j := 2) rfl rfl rfl rfl Try.isAgg3 Tk (by first | rfl | exact (Nat.add_zero _).symm) (by rfl) ?_
    refine q_idxO (sz := 3) (k := o.toNat) (enc := encV) (xs := V) rfl rfl rfl rfl rfl Try.underlying89 Try.sizeOf99 hv (by first | rfl | omega) (by omega) Tk ?_
    intro ib67 io67 ha67 hl67 hc67
    refine q_assign rfl rfl rfl rfl ?_
    refine r_done ?_
    refine s_keep [0, 3, 5, 6, 7] (e' := [(0, _), (3, _), (5, _), (6, _), (7, _)]) rfl ?_
    refine k_then_n ?_
    refine c_seq ?_
    refine c_plain (.q 0 (.q 1 (.q 2 (.q 3 (.q 4 (.q 5 (.q 6 ((.l 7 [] (.q 8 (.q 9 (.q 10 (.done))))))))))))) (by kernel_rfl) ?_
    refine q_move rfl rfl rfl rfl ?_
    refine q_move rfl rfl rfl rfl ?_
    refine q_move rfl rfl rfl rfl ?_
    refine q_nil_p rfl rfl rfl rfl ?_
    refine q_field (k := 1) rfl rfl rfl rfl Try.underlying99 rfl Try.sizeOf82 rfl ?_
    refine q_load_O (v := (.pointer (some ⟨wb, 0, none⟩))) (j := 1) (k' := o.toNat) (enc := encV) (off := io67) rfl rfl rfl rfl Try.isAgg82 ha67 encV_len hv Tk (by first | rfl | exact (Nat.add_zero _).symm | omega) (by rfl) ?_
    refine q_move rfl rfl rfl rfl ?_
    have sp_22 := Vc.leq_spec wb tb w.2.1 l wa ta w.2.1.length wc l.length tc (by rfl) (by rfl) hww hlc
    refine l_call rfl rfl rfl rfl rfl rfl Try.call45 (sp_22) Ts ?_
    rintro ⟨⟩ -
    try simp only [List.cons_append, List.nil_append]
    refine ag_nil ?_
    refine q_not rfl rfl rfl rfl ?_
    refine q_pick_f rfl rfl rfl rfl rfl ?_
    refine q_assign rfl rfl rfl rfl ?_
    refine r_done ?_
    refine s_keep [0, 3, 5, 7] (e' := [(0, _), (3, _), (5, _), (7, _)]) rfl ?_
    refine k_then_n ?_
    refine c_seq ?_
    refine c_seq ?_
    refine c_plain (.q 0 (.q 1 (.q 2 (.q 3 (.q 4 (.q 5 (.q 6 (.q 7 (.done))))))))) (by kernel_rfl) ?_
    refine q_move rfl rfl rfl rfl ?_
    refine q_move rfl rfl rfl rfl ?_
    refine s_bool_np 79 rfl (fun hr2 => ?_) (fun hr2 => ?_)
    ·
     refine q_move rfl rfl rfl rfl ?_
     refine q_nil_p rfl rfl rfl rfl ?_
     refine q_field (k := 3) rfl rfl rfl rfl Try.underlying99 rfl Try.sizeOf4 rfl ?_
     refine q_load_O (v := (.bool fg)) (j := 3) (k' := o.toNat) (enc := encV) (off := io67) rfl rfl rfl rfl Try.isAgg4 ha67 encV_len hv Tk (by first | rfl | exact (Nat.add_zero _).symm | omega) (by rfl) ?_
     refine q_not rfl rfl rfl rfl ?_
     refine q_pick_t rfl rfl rfl rfl rfl ?_
     refine r_done ?_
     refine s_keep [0, 3, 7, 85] (e' := [(0, _), (3, _), (7, _), (85, _)]) rfl ?_
     refine k_then_n ?_
     refine c_cond rfl (fun hfg => ?_) (fun hfg => ?_)
     ·
      try simp only [Bool.and_eq_true, Bool.or_eq_true, Bool.not_eq_true', Bool.not_eq_false', Bool.and_eq_false_iff, Bool.or_eq_false_iff, decide_eq_true_eq, decide_eq_false_iff_not] at hfg
      refine c_plain (.q 0 (.q 1 (.q 2 (.q 3 (.q 4 (.q 5 (.q 6 (.q 7 (.q 8 ((.l 9 [] (.q 10 (.q 11 ((.l 12 [] (.q 13 (.q 14 ((.l 15 [] (.done)))))))))))))))))))) (by kernel_rfl) ?_
      refine q_move rfl rfl rfl rfl ?_
      refine q_move rfl rfl rfl rfl ?_
      refine q_move rfl rfl rfl rfl ?_
      refine q_nil_p rfl rfl rfl rfl ?_
      refine q_field (k := 0) rfl rfl rfl rfl Try.underlying91 rfl Try.sizeOf88 rfl ?_
      refine q_load_c (j := 0) rfl rfl rfl rfl Try.isAgg88 Tk (by first | rfl | exact (Nat.add_zero _).symm) (by rfl) ?_
      refine q_nil_p rfl rfl rfl rfl ?_
      refine q_field (k := 0) rfl rfl rfl rfl Try.underlying87 rfl Try.sizeOf83 rfl ?_
      refine q_load_c (j := 0) rfl rfl rfl rfl Try.isAgg83 Tk (by first | rfl | exact (Nat.add_zero _).symm) (by rfl) ?_
      have sp_23 := Fe.len_spec pa pc cb x.v.ck
      refine l_call rfl rfl rfl rfl rfl rfl Try.call46 (sp_23) Ts ?_
      rintro ⟨⟩ -
      try simp only [List.cons_append, List.nil_append]
      refine ag_nil ?_
      refine q_nil_p rfl rfl rfl rfl ?_
      refine q_field (k := 2) rfl rfl rfl rfl Try.underlying99 rfl Try.sizeOf3 rfl ?_
      refine l_store_O (j := 2) (k := o.toNat) (q := (some ⟨rb, 0, none⟩, some ⟨wb, 0, none⟩, x.v.ck.n, fg)) (enc := encV) (off := io67) rfl rfl rfl rfl Try.sizeOf3 (us := [_]) rfl rfl rfl ha67 encV_len hv Tk (by first | rfl | exact (Nat.add_zero _).symm | omega) (by first | decide | exact Nat.le_of_ble_eq_true rfl) (by rfl) ?_
      refine ag_nil ?_
      have hq1 : (V.set o.toNat (some ⟨rb, 0, none⟩, some ⟨wb, 0, none⟩, x.v.ck.n, fg))[o.toNat]? = some (some ⟨rb, 0, none⟩, some ⟨wb, 0, none⟩, x.v.ck.n, fg) := List.getElem?_set_self (by omega)
      refine q_nil_p rfl rfl rfl rfl ?_
      refine q_field (k := 3) rfl rfl rfl rfl Try.underlying99 rfl Try.sizeOf4 rfl ?_
      refine l_store_O (j := 3) (k := o.toNat) (q := (some ⟨rb, 0, none⟩, some ⟨wb, 0, none⟩, x.v.ck.n, true)) (enc := encV) (off := io67) rfl rfl rfl rfl Try.sizeOf4 (us := [_]) rfl rfl rfl ha67 encV_len hq1 Tk (by first | rfl | exact (Nat.add_zero _).symm | omega) (by first | decide | exact Nat.le_of_ble_eq_true rfl) (by rfl) ?_
      refine ag_nil ?_
      have hq2 : ((V.set o.toNat (some ⟨rb, 0, none⟩, some ⟨wb, 0, none⟩, x.v.ck.n, fg)).set o.toNat (some ⟨rb, 0, none⟩, some ⟨wb, 0, none⟩, x.v.ck.n, true))[o.toNat]? = some (some ⟨rb, 0, none⟩, some ⟨wb, 0, none⟩, x.v.ck.n, true) := List.getElem?_set_self (by simp; omega)
      refine r_done ?_
      refine s_keep [0, 3, 7] (e' := [(0, _), (3, _), (7, _)]) rfl ?_
      refine k_then_n ?_
      refine c_seq ?_
      refine c_plain (.q 0 (.q 1 (.q 2 (.q 3 (.q 4 (.done)))))) (by kernel_rfl) ?_
      refine q_move rfl rfl rfl rfl ?_
      refine q_nil_p rfl rfl rfl rfl ?_
      refine q_field (k := 0) rfl rfl rfl rfl Try.underlying99 rfl Try.sizeOf82 rfl ?_
      refine q_load_O (v := (.pointer (some ⟨rb, 0, none⟩))) (j := 0) (k' := o.toNat) (enc := encV) (off := io67) rfl rfl rfl rfl Try.isAgg82 ha67 encV_len hq2 Tk (by first | rfl | exact (Nat.add_zero _).symm | omega) (by rfl) ?_
      refine q_assign rfl rfl rfl rfl ?_
      refine r_done ?_
      refine s_keep [0, 3, 7, 8] (e' := [(0, _), (3, _), (7, _), (8, _)]) rfl ?_
      refine k_then_n ?_
      refine c_seq ?_
      refine c_seq ?_
      refine c_plain (.q 0 (.q 1 (.q 2 (.done)))) (by kernel_rfl) ?_
      refine q_field (k := 0) rfl rfl rfl rfl Try.underlying40 rfl Try.sizeOf38 rfl ?_
      refine q_load_c (j := 0) rfl rfl rfl rfl Try.isAgg38 Tk (by first | rfl | exact (Nat.add_zero _).symm) (by rfl) ?_
      refine q_int rfl rfl rfl rfl rfl (b_eql _ _ _ _) ?_
      refine r_done ?_
      refine k_then_n ?_
      refine c_cond_p rfl (fun h9 => by exfalso; omega) (fun h9 => ?_)
      refine c_skip ?_
      refine k_then_n ?_
      refine c_draw rfl (.q 0 (.q 1 (.q 2 (.q 3 (.q 4 (.q 5 (.q 6 (.q 7 (.q 8 ((.l 9 [2] ((.l 10 [] (.done)))))))))))))) (by kernel_rfl) ?_
      refine q_move rfl rfl rfl rfl ?_
      refine q_field (k := 1) rfl rfl rfl rfl Try.underlying40 rfl Try.sizeOf3 rfl ?_
      refine q_load_c (j := 1) rfl rfl rfl rfl Try.isAgg3 Tk (by first | rfl | exact (Nat.add_zero _).symm) (by rfl) ?_
      refine q_move rfl rfl rfl rfl ?_
      refine q_nil_p rfl rfl rfl rfl ?_
      refine q_field (k := 0) rfl rfl rfl rfl Try.underlying91 rfl Try.sizeOf88 rfl ?_
      refine q_load_c (j := 0) rfl rfl rfl rfl Try.isAgg88 Tk (by first | rfl | exact (Nat.add_zero _).symm) (by rfl) ?_
      refine q_field (k := 1) rfl rfl rfl rfl Try.underlying40 rfl Try.sizeOf3 rfl ?_
      refine q_load_c (j := 1) rfl rfl rfl rfl Try.isAgg3 Tk (by first | rfl | exact (Nat.add_zero _).symm) (by rfl) ?_
      have sp_24 := clock_spec vb m1 (.pointer (some ⟨cb, 0, none⟩)) (.slice po x.v.ck.pa.length poc) (.map (some m2)) (.map (some m3)) (.map (some m4)) F1 tb (ta) (tc) l t (by omega) htF
      refine l_call rfl rfl rfl rfl rfl rfl Try.call48 (sp_24) Ts ?_
      rintro ⟨⟩ -
      try simp only [List.cons_append, List.nil_append]
      refine ag_load_c (q := 1) rfl rfl rfl Try.isAgg3 Tk (by first | rfl | exact (Nat.add_zero _).symm) (by rfl) ?_
      refine ag_nil ?_
      have sp_25 := set_z rb w.1 ra w.1.length rc (by first | rfl | assumption | omega | (simp; done) | (simp; omega)) hwr t (by omega) (by omega) (l.getD t.toNat 0) (by exact hgr.1) (by exact hgr.2)
      refine l_call rfl rfl rfl rfl rfl rfl Try.call47 (sp_25) Ts ?_
      rintro ⟨za, zc⟩ -
      try simp only [List.cons_append, List.nil_append]
      refine ag_nil ?_
      refine r_done ?_
      refine s_vecF rb za zc (stL w.1 t.toNat (l.getD t.toNat 0)) Ts ?_
      refine s_vecF wb wa wc w.2.1 Ts ?_
      refine s_varF (some ⟨rb, 0, none⟩, some ⟨wb, 0, none⟩, x.v.ck.n, true) ((stL w.1 t.toNat (l.getD t.toNat 0)), w.2.1, x.v.ck.n, true) Ts rfl ?_
      refine s_restL_put (res := varA) (V := V) (Y := x.vs) (S := []) o.toNat (some ⟨rb, 0, none⟩, some ⟨wb, 0, none⟩, x.v.ck.n, true) ((stL w.1 t.toNat (l.getD t.toNat 0)), w.2.1, x.v.ck.n, true) Ts (by simp) (List.getElem?_eq_some_iff.1 hv).1 (by omega) ?_
      rw [set_set]
      refine s_keep [0, 3] (e' := [(0, _), (3, _)]) rfl ?_
      refine k_then_n ?_
      refine c_exit ?_
      refine k_blk_here ?_
      refine k_then_n ?_
      refine c_seq ?_
      refine s_vecF tb ta tc l Ts ?_
      refine s_rest_put (F := F1) (T := x.v.th) (S := []) t F1 x.v.th Ts (by simp) htF (fun _ _ _ => rfl) hth (fun _ _ _ => rfl) ?_
      refine vs_fold (b := vb) x.v (pa := pa) (pc := pc) (po := po) (poc := poc) (cb := cb) (m1 := m1) (m2 := m2) (m3 := m3) (m4 := m4) Ts (by rfl) (by rfl) ?_
      refine c_draw rfl (.q 0 (.q 1 (.q 2 (.q 3 (.q 4 ((.l 5 [] (.done)))))))) (by kernel_rfl) ?_
      refine q_move rfl rfl rfl rfl ?_
      refine q_nil_p rfl rfl rfl rfl ?_
      refine q_field (k := 0) rfl rfl rfl rfl Try.underlying91 rfl Try.sizeOf88 rfl ?_
      refine q_load_c (j := 0) rfl rfl rfl rfl Try.isAgg88 Tk (by first | rfl | exact (Nat.add_zero _).symm) (by rfl) ?_
      refine q_loadN_c rfl rfl rfl rfl Try.isAgg40 Try.sizeOf40 Tk 0 (us := [_, _, _]) (by first | rfl | exact (Nat.add_zero _).symm) rfl rfl ?_
      have sp_26 := next_spec pa pc po poc vb x.v hx.v hn pl hpl k t o hvc
      refine l_call rfl rfl rfl rfl rfl rfl Try.call49 (sp_26) Ts ?_
      rintro ⟨⟩ -
      try simp only [List.cons_append, List.nil_append]
      refine ag_nil ?_
      refine r_done ?_
      refine s_keep [] (e' := []) rfl ?_
      refine k_then_n ?_
      refine c_seq ?_
      refine c_plain (.q 0 (.done)) (by kernel_rfl) ?_
      refine q_assign rfl rfl rfl rfl ?_
      refine r_done ?_
      refine k_then_n ?_
      refine c_ret ?_
      have hrc : raceF k l w := .inr hr2
      have hacw : acW x.v.ck.n k t l w = ((stL w.1 t.toNat (l.getD t.toNat 0)), w.2.1, x.v.ck.n, true) := by
        unfold acW
        rw [if_neg (by omega), if_neg (by omega)]
        have hfg2 : fg = false := by simpa using hfg
        rw [if_pos ⟨hrc, e2.trans hfg2⟩, decide_eq_true hrc, Bool.or_true]
      refine d_fold (b := b) (deF x k t o) (pa := pa) (pc := pc) (po := po) (poc := poc) (vb := vb) (va := va) (vc := vc) (V := (V.set o.toNat (some ⟨rb, 0, none⟩, some ⟨wb, 0, none⟩, x.v.ck.n, true))) Ts (by rw [de_acc hvc (by omega) hw hth, hacw]; congr 1; omega) (by simp) (by first | exact (by simp [hV]) | simp) ?_
      refine ret1 rfl rfl (()) (by rw [show deE x k t o = 0 from if_pos hvc]) (by trivial) ?_
      exact Tf
     ·
      try simp only [Bool.and_eq_true, Bool.or_eq_true, Bool.not_eq_true', Bool.not_eq_false', Bool.and_eq_false_iff, Bool.or_eq_false_iff, decide_eq_true_eq, decide_eq_false_iff_not] at hfg
      refine c_skip ?_
      refine k_then_n ?_
      refine c_seq ?_
      refine c_plain (.q 0 (.q 1 (.q 2 (.q 3 (.q 4 (.done)))))) (by kernel_rfl) ?_
      refine q_move rfl rfl rfl rfl ?_
      refine q_nil_p rfl rfl rfl rfl ?_
      refine q_field (k := 0) rfl rfl rfl rfl Try.underlying99 rfl Try.sizeOf82 rfl ?_
      refine q_load_O (v := (.pointer (some ⟨rb, 0, none⟩))) (j := 0) (k' := o.toNat) (enc := encV) (off := io67) rfl rfl rfl rfl Try.isAgg82 ha67 encV_len hv Tk (by first | rfl | exact (Nat.add_zero _).symm | omega) (by rfl) ?_
      refine q_assign rfl rfl rfl rfl ?_
      refine r_done ?_
      refine s_keep [0, 3, 7, 8] (e' := [(0, _), (3, _), (7, _), (8, _)]) rfl ?_
      refine k_then_n ?_
      refine c_seq ?_
      refine c_seq ?_
      refine c_plain (.q 0 (.q 1 (.q 2 (.done)))) (by kernel_rfl) ?_
      refine q_field (k := 0) rfl rfl rfl rfl Try.underlying40 rfl Try.sizeOf38 rfl ?_
      refine q_load_c (j := 0) rfl rfl rfl rfl Try.isAgg38 Tk (by first | rfl | exact (Nat.add_zero _).symm) (by rfl) ?_
      refine q_int rfl rfl rfl rfl rfl (b_eql _ _ _ _) ?_
      refine r_done ?_
      refine k_then_n ?_
      refine c_cond_p rfl (fun h9 => by exfalso; omega) (fun h9 => ?_)
      refine c_skip ?_
      refine k_then_n ?_
      refine c_draw rfl (.q 0 (.q 1 (.q 2 (.q 3 (.q 4 (.q 5 (.q 6 (.q 7 (.q 8 ((.l 9 [2] ((.l 10 [] (.done)))))))))))))) (by kernel_rfl) ?_
      refine q_move rfl rfl rfl rfl ?_
      refine q_field (k := 1) rfl rfl rfl rfl Try.underlying40 rfl Try.sizeOf3 rfl ?_
      refine q_load_c (j := 1) rfl rfl rfl rfl Try.isAgg3 Tk (by first | rfl | exact (Nat.add_zero _).symm) (by rfl) ?_
      refine q_move rfl rfl rfl rfl ?_
      refine q_nil_p rfl rfl rfl rfl ?_
      refine q_field (k := 0) rfl rfl rfl rfl Try.underlying91 rfl Try.sizeOf88 rfl ?_
      refine q_load_c (j := 0) rfl rfl rfl rfl Try.isAgg88 Tk (by first | rfl | exact (Nat.add_zero _).symm) (by rfl) ?_
      refine q_field (k := 1) rfl rfl rfl rfl Try.underlying40 rfl Try.sizeOf3 rfl ?_
      refine q_load_c (j := 1) rfl rfl rfl rfl Try.isAgg3 Tk (by first | rfl | exact (Nat.add_zero _).symm) (by rfl) ?_
      have sp_27 := clock_spec vb m1 (.pointer (some ⟨cb, 0, none⟩)) (.slice po x.v.ck.pa.length poc) (.map (some m2)) (.map (some m3)) (.map (some m4)) F1 tb (ta) (tc) l t (by omega) htF
      refine l_call rfl rfl rfl rfl rfl rfl Try.call48 (sp_27) Ts ?_
      rintro ⟨⟩ -
      try simp only [List.cons_append, List.nil_append]
      refine ag_load_c (q := 1) rfl rfl rfl Try.isAgg3 Tk (by first | rfl | exact (Nat.add_zero _).symm) (by rfl) ?_
      refine ag_nil ?_
      have sp_28 := set_z rb w.1 ra w.1.length rc (by first | rfl | assumption | omega | (simp; done) | (simp; omega)) hwr t (by omega) (by omega) (l.getD t.toNat 0) (by exact hgr.1) (by exact hgr.2)
      refine l_call rfl rfl rfl rfl rfl rfl Try.call47 (sp_28) Ts ?_
      rintro ⟨za, zc⟩ -
      try simp only [List.cons_append, List.nil_append]
      refine ag_nil ?_
      refine r_done ?_
      refine s_vecF rb za zc (stL w.1 t.toNat (l.getD t.toNat 0)) Ts ?_
      refine s_vecF wb wa wc w.2.1 Ts ?_
      refine s_varF (some ⟨rb, 0, none⟩, some ⟨wb, 0, none⟩, fl, fg) ((stL w.1 t.toNat (l.getD t.toNat 0)), w.2.1, fl, fg) Ts rfl ?_
      refine s_restL_put (res := varA) (V := V) (Y := x.vs) (S := []) o.toNat (some ⟨rb, 0, none⟩, some ⟨wb, 0, none⟩, fl, fg) ((stL w.1 t.toNat (l.getD t.toNat 0)), w.2.1, fl, fg) Ts (by simp) (List.getElem?_eq_some_iff.1 hv).1 (by omega) ?_
      rw [set_same hv]
      refine s_keep [0, 3] (e' := [(0, _), (3, _)]) rfl ?_
      refine k_then_n ?_
      refine c_exit ?_
      refine k_blk_here ?_
      refine k_then_n ?_
      refine c_seq ?_
      refine s_vecF tb ta tc l Ts ?_
      refine s_rest_put (F := F1) (T := x.v.th) (S := []) t F1 x.v.th Ts (by simp) htF (fun _ _ _ => rfl) hth (fun _ _ _ => rfl) ?_
      refine vs_fold (b := vb) x.v (pa := pa) (pc := pc) (po := po) (poc := poc) (cb := cb) (m1 := m1) (m2 := m2) (m3 := m3) (m4 := m4) Ts (by rfl) (by rfl) ?_
      refine c_draw rfl (.q 0 (.q 1 (.q 2 (.q 3 (.q 4 ((.l 5 [] (.done)))))))) (by kernel_rfl) ?_
      refine q_move rfl rfl rfl rfl ?_
      refine q_nil_p rfl rfl rfl rfl ?_
      refine q_field (k := 0) rfl rfl rfl rfl Try.underlying91 rfl Try.sizeOf88 rfl ?_
      refine q_load_c (j := 0) rfl rfl rfl rfl Try.isAgg88 Tk (by first | rfl | exact (Nat.add_zero _).symm) (by rfl) ?_
      refine q_loadN_c rfl rfl rfl rfl Try.isAgg40 Try.sizeOf40 Tk 0 (us := [_, _, _]) (by first | rfl | exact (Nat.add_zero _).symm) rfl rfl ?_
      have sp_29 := next_spec pa pc po poc vb x.v hx.v hn pl hpl k t o hvc
      refine l_call rfl rfl rfl rfl rfl rfl Try.call49 (sp_29) Ts ?_
      rintro ⟨⟩ -
      try simp only [List.cons_append, List.nil_append]
      refine ag_nil ?_
      refine r_done ?_
      refine s_keep [] (e' := []) rfl ?_
      refine k_then_n ?_
      refine c_seq ?_
      refine c_plain (.q 0 (.done)) (by kernel_rfl) ?_
      refine q_assign rfl rfl rfl rfl ?_
      refine r_done ?_
      refine k_then_n ?_
      refine c_ret ?_
      have hrc : raceF k l w := .inr hr2
      have hacw : acW x.v.ck.n k t l w = ((stL w.1 t.toNat (l.getD t.toNat 0)), w.2.1, fl, fg) := by
        unfold acW
        rw [if_neg (by omega), if_neg (by omega)]
        have hfg2 : fg = true := by simpa using hfg
        rw [if_neg (fun h => by rw [e2, hfg2] at h; exact absurd h.2 (by decide)), e1, e2, hfg2, Bool.true_or]
      refine d_fold (b := b) (deF x k t o) (pa := pa) (pc := pc) (po := po) (poc := poc) (vb := vb) (va := va) (vc := vc) (V := V) Ts (by rw [de_acc hvc (by omega) hw hth, hacw]; congr 1; omega) (by simp) (by first | exact (by simp [hV]) | simp) ?_
      refine ret1 rfl rfl (()) (by rw [show deE x k t o = 0 from if_pos hvc]) (by trivial) ?_
      exact Tf
    ·
     refine q_skip rfl rfl rfl rfl ?_
     refine q_skip rfl rfl rfl rfl ?_
     refine q_skip rfl rfl rfl rfl ?_
     refine q_skip rfl rfl rfl rfl ?_
     refine q_skip rfl rfl rfl rfl ?_
     refine q_pick_f rfl rfl rfl rfl rfl ?_
     refine r_done ?_
     refine s_keep [0, 3, 7, 85] (e' := [(0, _), (3, _), (7, _), (85, _)]) rfl ?_
     refine k_then_n ?_
     refine c_cond_f rfl ?_
     refine c_skip ?_
     refine k_then_n ?_
     refine c_seq ?_
     refine c_plain (.q 0 (.q 1 (.q 2 (.q 3 (.q 4 (.done)))))) (by kernel_rfl) ?_
     refine q_move rfl rfl rfl rfl ?_
     refine q_nil_p rfl rfl rfl rfl ?_
     refine q_field (k := 0) rfl rfl rfl rfl Try.underlying99 rfl Try.sizeOf82 rfl ?_
     refine q_load_O (v := (.pointer (some ⟨rb, 0, none⟩))) (j := 0) (k' := o.toNat) (enc := encV) (off := io67) rfl rfl rfl rfl Try.isAgg82 ha67 encV_len hv Tk (by first | rfl | exact (Nat.add_zero _).symm | omega) (by rfl) ?_
     refine q_assign rfl rfl rfl rfl ?_
     refine r_done ?_
     refine s_keep [0, 3, 7, 8] (e' := [(0, _), (3, _), (7, _), (8, _)]) rfl ?_
     refine k_then_n ?_
     refine c_seq ?_
     refine c_seq ?_
     refine c_plain (.q 0 (.q 1 (.q 2 (.done)))) (by kernel_rfl) ?_
     refine q_field (k := 0) rfl rfl rfl rfl Try.underlying40 rfl Try.sizeOf38 rfl ?_
     refine q_load_c (j := 0) rfl rfl rfl rfl Try.isAgg38 Tk (by first | rfl | exact (Nat.add_zero _).symm) (by rfl) ?_
     refine q_int rfl rfl rfl rfl rfl (b_eql _ _ _ _) ?_
     refine r_done ?_
     refine k_then_n ?_
     refine c_cond_p rfl (fun h9 => by exfalso; omega) (fun h9 => ?_)
     refine c_skip ?_
     refine k_then_n ?_
     refine c_draw rfl (.q 0 (.q 1 (.q 2 (.q 3 (.q 4 (.q 5 (.q 6 (.q 7 (.q 8 ((.l 9 [2] ((.l 10 [] (.done)))))))))))))) (by kernel_rfl) ?_
     refine q_move rfl rfl rfl rfl ?_
     refine q_field (k := 1) rfl rfl rfl rfl Try.underlying40 rfl Try.sizeOf3 rfl ?_
     refine q_load_c (j := 1) rfl rfl rfl rfl Try.isAgg3 Tk (by first | rfl | exact (Nat.add_zero _).symm) (by rfl) ?_
     refine q_move rfl rfl rfl rfl ?_
     refine q_nil_p rfl rfl rfl rfl ?_
     refine q_field (k := 0) rfl rfl rfl rfl Try.underlying91 rfl Try.sizeOf88 rfl ?_
     refine q_load_c (j := 0) rfl rfl rfl rfl Try.isAgg88 Tk (by first | rfl | exact (Nat.add_zero _).symm) (by rfl) ?_
     refine q_field (k := 1) rfl rfl rfl rfl Try.underlying40 rfl Try.sizeOf3 rfl ?_
     refine q_load_c (j := 1) rfl rfl rfl rfl Try.isAgg3 Tk (by first | rfl | exact (Nat.add_zero _).symm) (by rfl) ?_
     have sp_30 := clock_spec vb m1 (.pointer (some ⟨cb, 0, none⟩)) (.slice po x.v.ck.pa.length poc) (.map (some m2)) (.map (some m3)) (.map (some m4)) F1 tb (ta) (tc) l t (by omega) htF
     refine l_call rfl rfl rfl rfl rfl rfl Try.call48 (sp_30) Ts ?_
     rintro ⟨⟩ -
     try simp only [List.cons_append, List.nil_append]
     refine ag_load_c (q := 1) rfl rfl rfl Try.isAgg3 Tk (by first | rfl | exact (Nat.add_zero _).symm) (by rfl) ?_
     refine ag_nil ?_
     have sp_31 := set_z rb w.1 ra w.1.length rc (by first | rfl | assumption | omega | (simp; done) | (simp; omega)) hwr t (by omega) (by omega) (l.getD t.toNat 0) (by exact hgr.1) (by exact hgr.2)
     refine l_call rfl rfl rfl rfl rfl rfl Try.call47 (sp_31) Ts ?_
     rintro ⟨za, zc⟩ -
     try simp only [List.cons_append, List.nil_append]
     refine ag_nil ?_
     refine r_done ?_
     refine s_vecF rb za zc (stL w.1 t.toNat (l.getD t.toNat 0)) Ts ?_
     refine s_vecF wb wa wc w.2.1 Ts ?_
     refine s_varF (some ⟨rb, 0, none⟩, some ⟨wb, 0, none⟩, fl, fg) ((stL w.1 t.toNat (l.getD t.toNat 0)), w.2.1, fl, fg) Ts rfl ?_
     refine s_restL_put (res := varA) (V := V) (Y := x.vs) (S := []) o.toNat (some ⟨rb, 0, none⟩, some ⟨wb, 0, none⟩, fl, fg) ((stL w.1 t.toNat (l.getD t.toNat 0)), w.2.1, fl, fg) Ts (by simp) (List.getElem?_eq_some_iff.1 hv).1 (by omega) ?_
     rw [set_same hv]
     refine s_keep [0, 3] (e' := [(0, _), (3, _)]) rfl ?_
     refine k_then_n ?_
     refine c_exit ?_
     refine k_blk_here ?_
     refine k_then_n ?_
     refine c_seq ?_
     refine s_vecF tb ta tc l Ts ?_
     refine s_rest_put (F := F1) (T := x.v.th) (S := []) t F1 x.v.th Ts (by simp) htF (fun _ _ _ => rfl) hth (fun _ _ _ => rfl) ?_
     refine vs_fold (b := vb) x.v (pa := pa) (pc := pc) (po := po) (poc := poc) (cb := cb) (m1 := m1) (m2 := m2) (m3 := m3) (m4 := m4) Ts (by rfl) (by rfl) ?_
     refine c_draw rfl (.q 0 (.q 1 (.q 2 (.q 3 (.q 4 ((.l 5 [] (.done)))))))) (by kernel_rfl) ?_
     refine q_move rfl rfl rfl rfl ?_
     refine q_nil_p rfl rfl rfl rfl ?_
     refine q_field (k := 0) rfl rfl rfl rfl Try.underlying91 rfl Try.sizeOf88 rfl ?_
     refine q_load_c (j := 0) rfl rfl rfl rfl Try.isAgg88 Tk (by first | rfl | exact (Nat.add_zero _).symm) (by rfl) ?_
     refine q_loadN_c rfl rfl rfl rfl Try.isAgg40 Try.sizeOf40 Tk 0 (us := [_, _, _]) (by first | rfl | exact (Nat.add_zero _).symm) rfl rfl ?_
     have sp_32 := next_spec pa pc po poc vb x.v hx.v hn pl hpl k t o hvc
     refine l_call rfl rfl rfl rfl rfl rfl Try.call49 (sp_32) Ts ?_
     rintro ⟨⟩ -
     try simp only [List.cons_append, List.nil_append]
     refine ag_nil ?_
     refine r_done ?_
     refine s_keep [] (e' := []) rfl ?_
     refine k_then_n ?_
     refine c_seq ?_
     refine c_plain (.q 0 (.done)) (by kernel_rfl) ?_
     refine q_assign rfl rfl rfl rfl ?_
     refine r_done ?_
     refine k_then_n ?_
     refine c_ret ?_
     have hrc : ¬ raceF k l w := by
       rintro (⟨h8, h9⟩ | h9)
       · first | exact h9 (Classical.byContradiction hr1) | exact absurd (k1.symm.trans h8) (by decide) | exact hr1 h9 | exact h9 hr1
       · first | exact h9 (Classical.byContradiction hr2) | exact hr2 h9 | exact h9 hr2
     have hacw : acW x.v.ck.n k t l w = ((stL w.1 t.toNat (l.getD t.toNat 0)), w.2.1, fl, fg) := by
       unfold acW
       rw [if_neg (by omega), if_neg (by omega)]
       rw [if_neg (fun h => hrc h.1), e1, e2, decide_eq_false hrc, Bool.or_false]
     refine d_fold (b := b) (deF x k t o) (pa := pa) (pc := pc) (po := po) (poc := poc) (vb := vb) (va := va) (vc := vc) (V := V) Ts (by rw [de_acc hvc (by omega) hw hth, hacw]; congr 1; omega) (by simp) (by first | exact (by simp [hV]) | simp) ?_
     refine ret1 rfl rfl (()) (by rw [show deE x k t o = 0 from if_pos hvc]) (by trivial) ?_
     exact Tf
   ·
    refine c_skip ?_
    refine k_then_n ?_
    refine c_exit ?_
    refine k_blk_out rfl ?_
    refine k_then_exit ?_
    refine k_blk_out rfl ?_
    refine k_then_exit ?_
    refine k_blk_here ?_
    refine k_then_n ?_
    refine c_seq ?_
    refine s_vecF tb ta tc l Ts ?_
    refine s_rest_put (F := F1) (T := x.v.th) (S := []) t F1 x.v.th Ts (by simp) htF (fun _ _ _ => rfl) hth (fun _ _ _ => rfl) ?_
    refine vs_fold (b := vb) x.v (pa := pa) (pc := pc) (po := po) (poc := poc) (cb := cb) (m1 := m1) (m2 := m2) (m3 := m3) (m4 := m4) Ts (by rfl) (by rfl) ?_
    refine c_draw rfl (.q 0 (.q 1 (.q 2 (.q 3 (.q 4 ((.l 5 [] (.done)))))))) (by kernel_rfl) ?_
    refine q_move rfl rfl rfl rfl ?_
    refine q_nil_p rfl rfl rfl rfl ?_
    refine q_field (k := 0) rfl rfl rfl rfl Try.underlying91 rfl Try.sizeOf88 rfl ?_
    refine q_load_c (j := 0) rfl rfl rfl rfl Try.isAgg88 Tk (by first | rfl | exact (Nat.add_zero _).symm) (by rfl) ?_
    refine q_loadN_c rfl rfl rfl rfl Try.isAgg40 Try.sizeOf40 Tk 0 (us := [_, _, _]) (by first | rfl | exact (Nat.add_zero _).symm) rfl rfl ?_
    have sp_33 := next_spec pa pc po poc vb x.v hx.v hn pl hpl k t o hvc
    refine l_call rfl rfl rfl rfl rfl rfl Try.call49 (sp_33) Ts ?_
    rintro ⟨⟩ -
    try simp only [List.cons_append, List.nil_append]
    refine ag_nil ?_
    refine r_done ?_
    refine s_keep [] (e' := []) rfl ?_
    refine k_then_n ?_
    refine c_seq ?_
    refine c_plain (.q 0 (.done)) (by kernel_rfl) ?_
    refine q_assign rfl rfl rfl rfl ?_
    refine r_done ?_
    refine k_then_n ?_
    refine c_ret ?_
    refine d_fold (b := b) (deF x k t o) (pa := pa) (pc := pc) (po := po) (poc := poc) (vb := vb) (va := va) (vc := vc) (V := V) Ts (by rw [de_no hvc k1 k2]) (by rfl) (by first | exact hV | simp) ?_
    refine ret1 rfl rfl (()) (by rw [show deE x k t o = 0 from if_pos hvc]) (by trivial) ?_
    exact Tf
end Go.Ab.Dj
set_option linter.unusedVariables false
set_option linter.unusedSimpArgs false
set_option maxRecDepth 100000
namespace Go.Ab.Dj
open Go Go.Proofs Go.Ab Go.Ab.Fe Go.Ab.Vc
def dEv (x : DS) (e : T3) : DS := deF x e.1 e.2.1 e.2.2
def dAll (x : DS) (es : List T3) : DS := es.foldl dEv x
def canE (x : DS) (e : T3) : Prop := vcanF x.v e.1 e.2.1 e.2.2
instance (x : DS) (e : T3) : Decidable (canE x e) := by unfold canE; infer_instance
/-- All events of a list can be, one behind the other. -/
def okAll (x : DS) (es : List T3) : Prop := ∀ (i : Nat) e, es[i]? = some e → canE (dAll x (es.take i)) e
theorem dAll_next {x : DS} {es : List T3} {i : Nat} {e : T3} (h : es[i]? = some e) : dAll x (es.take (i + 1)) = dEv (dAll x (es.take i)) e := by
  rw [List.take_add_one, h, dAll, dAll, List.foldl_append]; rfl
theorem dAll_inv {x : DS} (hx : DInv x) : ∀ es, DInv (dAll x es)
  | [] => hx
  | e :: es => dAll_inv (de_inv hx _ _ _) es
theorem dAll_n : ∀ (es : List T3) (x : DS), (dAll x es).v.ck.n ≤ x.v.ck.n + es.length ∧ (dAll x es).v.ck.pa = x.v.ck.pa ∧ (dAll x es).v.ck.th = x.v.ck.th ∧ (dAll x es).v.ck.va = x.v.ck.va
  | [], x => ⟨by simp [dAll], rfl, rfl, rfl⟩
  | e :: es, x => by
    have h := dAll_n es (dEv x e)
    have h2 := de_n (x := x) e.1 e.2.1 e.2.2
    refine ⟨?_, h.2.1.trans h2.2.1, h.2.2.1.trans h2.2.2.1, h.2.2.2.trans h2.2.2.2⟩
    have h3 := h.1
    have h4 := h2.1
    simp only [List.length_cons]
    show (dAll (dEv x e) es).v.ck.n ≤ _
    have : (dEv x e).v.ck.n ≤ x.v.ck.n + 1 := h4
    omega
theorem okAll_next {x : DS} {es : List T3} {i : Nat} {e : T3} (h : es[i]? = some e) (ho : okAll x (es.take i)) (hc : canE (dAll x (es.take i)) e) : okAll x (es.take (i + 1)) := by
  intro j q hj
  have hi := (List.getElem?_eq_some_iff.1 h).1
  have hj2 := (List.getElem?_eq_some_iff.1 hj).1
  rw [List.length_take] at hj2
  rw [List.getElem?_take_of_lt (by omega)] at hj
  rw [List.take_take, Nat.min_eq_left (by omega)]
  rcases Nat.lt_or_ge j i with h1 | h1
  · have := ho j q (by rw [List.getElem?_take_of_lt h1]; exact hj)
    rwa [List.take_take, Nat.min_eq_left (by omega)] at this
  · obtain rfl : j = i := by omega
    rw [h] at hj; cases hj; exact hc
theorem de_v {x : DS} {k t o : Int} (hv : vcanF x.v k t o) : (deF x k t o).v = vnF x.v k t o := by rw [deF, if_pos hv]
theorem events_spec (pa : Option Addr) (pc : Nat) (po : Option Addr) (poc b : Nat) (x : DS) (hx : DInv x) (hn : x.v.ck.n ≤ 100000000000000) (pl : List Int) (hpl : x.v.ck.pa = pl) (xs : List T3) (ao : Option Addr) (n c : Nat) (A : HProp) (hr : RdS A ao (xs.flatMap enc3)) (hxn : xs.length = n) (hb : n ≤ 4000000) : Spec Try.prog 22 [.pointer (some ⟨b, 0, none⟩), .slice ao n c] [A, dR pa pc po poc b x, own 1 encZ pa pc pl, own 1 encZ po poc pl] (fun (i : Nat) => .tuple #[.int .i64 ((i : Nat) : Int), .int .i64 (if i = n then 0 else 6)]) (fun i => i ≤ n ∧ okAll x (xs.take i) ∧ (i < n → ∀ e, xs[i]? = some e → ¬ canE (dAll x (xs.take i)) e)) (fun i => [A, dR pa pc po poc b (dAll x (xs.take i)), own 1 encZ pa pc pl, own 1 encZ po poc pl]) := by
 refine spec_mk (n := 29) Try.func22 rfl rfl rfl ?_
 intro Γ w0
 simp only [argE, List.cons_append, List.nil_append, Nat.zero_add, Nat.reduceAdd]
 refine c_seq ?_
 refine c_plain (.q 0 (.q 1 (.done))) (by kernel_rfl) ?_
 refine q_assign rfl rfl rfl rfl ?_
 refine q_assign rfl rfl rfl rfl ?_
 refine r_done ?_
 refine k_then_n ?_
 refine c_seq ?_
 refine c_seq ?_
 refine c_plain (.q 0 ((.l 1 [] (.q 2 (.done))))) (by kernel_rfl) ?_
 refine q_move rfl rfl rfl rfl ?_
 refine s_take (A := dR pa pc po poc b x) Tk ?_
 refine d_open fun vb va vc V hV => ?_
 have sp_1 := there_spec b vb (.slice va x.vs.length vc) (.int .i64 x.cost)
 refine l_call rfl rfl rfl rfl rfl rfl Try.call38 (sp_1) Ts ?_
 rintro ⟨⟩ -
 try simp only [List.cons_append, List.nil_append]
 refine ag_nil ?_
 refine d_fold (b := b) x (pa := pa) (pc := pc) (po := po) (poc := poc) (vb := vb) (va := va) (vc := vc) (V := V) Ts (by rfl) (by rfl) (by first | exact hV | simp) ?_
 refine q_not rfl rfl rfl rfl ?_
 refine s_eq 11 rfl (v' := .bool false) rfl ?_
 refine r_done ?_
 refine s_keep [0, 1, 11] (e' := [(0, _), (1, _), (11, _)]) rfl ?_
 refine k_then_n ?_
 refine c_cond_f rfl ?_
 refine c_skip ?_
 refine k_then_n ?_
 refine c_seq ?_
 refine c_seq ?_
 refine c_plain (.q 0 (.q 1 (.q 2 (.done)))) (by kernel_rfl) ?_
 refine q_move rfl rfl rfl rfl ?_
 refine q_len rfl rfl rfl rfl Try.underlying25 ?_
 refine q_move rfl rfl rfl rfl ?_
 refine r_done ?_
 refine k_then_n ?_
 refine c_block ?_
 refine c_loop2 (α := Nat) (fun (i : Nat) => i ≤ n ∧ (okAll x (xs.take i))) (fun (i : Nat) => [(14, .int .i64 ((i : Nat) : Int))]) (fun (i : Nat) => [dR pa pc po poc b (dAll x (xs.take i)), own 1 encZ pa pc pl, own 1 encZ po poc pl]) (fun (i : Nat) => n - i) [0, 1, 12, 13] (er := [(0, _), (1, _), (12, _), (13, _)]) rfl (0) ?_ (by exact ⟨rfl, trivial⟩) (by (try dsimp only); (try simp only [Nat.add_zero, Nat.zero_add]); (repeat ((with_reducible apply Z2); focus (first | (with_reducible (repeat (first | exact Z0 | apply Z1)); done) | (repeat (first | exact Z0 | apply Z1))))); exact Z3) ?_
 · exact ⟨Nat.zero_le _, fun j e h => by simp at h⟩
 rintro i ⟨hle_i, ho⟩
 try simp only [List.cons_append, List.nil_append]
 obtain ⟨hdn, hdp, hdt, hdv⟩ := dAll_n (xs.take i) x
 rw [List.length_take] at hdn
 refine c_seq ?_
 refine c_plain (.q 0 (.done)) (by kernel_rfl) ?_
 refine q_int rfl rfl rfl rfl rfl (b_lss _ _ _ _) ?_
 refine r_done ?_
 refine k_then_n ?_
 refine c_seq ?_
 refine c_cond_p rfl (fun hlt => ?_) (fun hlt => ?_)
 ·
  refine c_skip ?_
  refine k_then_n ?_
  refine c_seq ?_
  refine c_block ?_
  refine c_seq ?_
  refine c_plain (.q 0 (.q 1 (.q 2 ((.l 3 [] (.q 4 ((.l 5 [] (.done))))))))) (by kernel_rfl) ?_
  refine q_move rfl rfl rfl rfl ?_
  obtain ⟨e, he⟩ := get_lt (l := xs) (i := i) (by first | omega | (simp; done) | (simp; omega))
  refine q_idxR (sz := 2) (k := i) rfl rfl rfl rfl rfl Try.underlying25 Try.sizeOf40 (hr) he enc3_len (by first | rfl | omega) (by omega) ?_
  intro ib17 io17 _ hd17
  refine q_loadN (vs := [_, _, _]) rfl rfl rfl rfl Try.isAgg40 Try.sizeOf40 Tk (hd17) rfl ?_
  refine l_alloc rfl rfl rfl Try.zeroValue40 (zs := [.int .i64 0, .int .i64 0, .int .i64 0]) rfl ?_
  intro b7
  refine ag_nil ?_
  refine q_assign rfl rfl rfl rfl ?_
  refine l_store (j := 0) rfl rfl rfl rfl Try.sizeOf40 (us := [_, _, _]) rfl rfl rfl Tk (by first | rfl | exact (Nat.add_zero _).symm) (by first | decide | (simp; done) | omega) ?_
  simp only [setL, List.set]
  refine ag_nil ?_
  refine r_done ?_
  refine s_keep [0, 1, 6, 7, 12, 13, 14] (e' := [(0, _), (1, _), (6, _), (7, _), (12, _), (13, _), (14, _)]) rfl ?_
  refine k_then_n ?_
  refine c_seq ?_
  refine c_plain (.q 0 (.q 1 ((.l 2 [] (.q 3 (.done)))))) (by kernel_rfl) ?_
  refine q_move rfl rfl rfl rfl ?_
  refine q_loadN_c rfl rfl rfl rfl Try.isAgg40 Try.sizeOf40 Tk 0 (us := [_, _, _]) (by first | rfl | exact (Nat.add_zero _).symm) rfl rfl ?_
  have sp_2 := event_spec pa pc po poc b (dAll x (xs.take i)) (dAll_inv hx _) (by omega) pl (hdp.trans hpl) e.1 e.2.1 e.2.2
  refine l_call rfl rfl rfl rfl rfl rfl Try.call20 (sp_2) Ts ?_
  rintro ⟨⟩ -
  try simp only [List.cons_append, List.nil_append]
  refine ag_nil ?_
  refine q_assign rfl rfl rfl rfl ?_
  refine r_done ?_
  refine s_keep [0, 1, 6, 8, 12, 13, 14] (e' := [(0, _), (1, _), (6, _), (8, _), (12, _), (13, _), (14, _)]) rfl ?_
  refine k_then_n ?_
  refine c_seq ?_
  refine c_plain (.q 0 (.q 1 (.done))) (by kernel_rfl) ?_
  refine q_move rfl rfl rfl rfl ?_
  refine q_int rfl rfl rfl rfl rfl (b_neq _ _ _ _) ?_
  refine r_done ?_
  refine k_then_n ?_
  refine c_cond_p rfl (fun hne => ?_) (fun hne => ?_)
  ·
   have hncan : ¬ canE (dAll x (xs.take i)) e := fun h => hne (if_pos h)
   rw [show deF (dAll x (xs.take i)) e.1 e.2.1 e.2.2 = dAll x (xs.take i) from if_neg hncan]
   refine c_seq ?_
   refine c_plain (.q 0 (.q 1 (.q 2 (.q 3 (.done))))) (by kernel_rfl) ?_
   refine q_move rfl rfl rfl rfl ?_
   refine q_move rfl rfl rfl rfl ?_
   refine q_assign rfl rfl rfl rfl ?_
   refine q_assign rfl rfl rfl rfl ?_
   refine r_done ?_
   refine s_keep [4, 5] (e' := [(4, _), (5, _)]) rfl ?_
   refine k_then_n ?_
   refine c_ret ?_
   refine k_blk_ret ?_
   refine k_then_ret ?_
   refine k_then_ret ?_
   refine k_blk_ret ?_
   refine k_then_ret ?_
   refine ret2 rfl rfl rfl (i) (by rw [if_neg (by omega), show deE (dAll x (xs.take i)) e.1 e.2.1 e.2.2 = 6 from if_neg hncan]) (by exact ⟨by omega, ho, fun _ e2 h2 => by rw [he] at h2; cases h2; exact hncan⟩) ?_
   exact Tf
  ·
   have hcan : canE (dAll x (xs.take i)) e := Classical.byContradiction fun h => hne (by rw [show deE (dAll x (xs.take i)) e.1 e.2.1 e.2.2 = 6 from if_neg h]; decide)
   refine c_skip ?_
   refine k_blk_n ?_
   refine k_then_n ?_
   refine c_plain (.q 0 (.q 1 (.done))) (by kernel_rfl) ?_
   refine q_int rfl rfl rfl rfl rfl (b_add' _ (by exact fits_i64 (by omega) (by omega))) ?_
   refine q_move rfl rfl rfl rfl ?_
   refine r_done ?_
   refine s_keep [0, 1, 12, 13, 14] (e' := [(0, _), (1, _), (12, _), (13, _), (14, _)]) rfl ?_
   refine k_then_n ?_
   rw [show deF (dAll x (xs.take i)) e.1 e.2.1 e.2.2 = dAll x (xs.take (i + 1)) from (dAll_next he).symm]
   refine loop_next (x := i) (i + 1) ?_ ?_ ?_ ?_
   · exact ⟨by omega, okAll_next he ho hcan⟩
   · show n - (i + 1) < n - i; omega
   · exact ⟨rfl, rfl, rfl, rfl, rfl, trivial⟩
   · (try simp only [List.cons_append, List.nil_append]); exact Tf
 ·
  refine c_exit ?_
  refine k_then_exit ?_
  refine k_then_exit ?_
  refine k_blk_here ?_
  refine k_then_n ?_
  refine c_seq ?_
  refine c_plain (.q 0 (.q 1 (.q 2 (.q 3 (.done))))) (by kernel_rfl) ?_
  refine q_move rfl rfl rfl rfl ?_
  refine q_len rfl rfl rfl rfl Try.underlying25 ?_
  refine q_assign rfl rfl rfl rfl ?_
  refine q_assign rfl rfl rfl rfl ?_
  refine r_done ?_
  refine s_keep [4, 5] (e' := [(4, _), (5, _)]) rfl ?_
  refine k_then_n ?_
  refine c_ret ?_
  obtain rfl : i = n := by omega
  refine ret2 rfl rfl rfl (i) (by rw [if_pos rfl]) (by exact ⟨Nat.le_refl _, ho, fun h => absurd h (Nat.lt_irrefl _)⟩) ?_
  exact Tf
end Go.Ab.Dj
