/- Package sched and its document's answer: choosers asked. -/
import Derived.Test.YtmaonhoplaebhaaSc4
set_option linter.unusedVariables false
set_option linter.unusedSimpArgs false
set_option maxRecDepth 100000
namespace Go.Ab.Sc
open Go Go.Proofs Go.Ab
theorem bs_t {rk l : List Int} {i : Nat} {u v ru rv : Int} (hu : l[i]? = some u) (hv : l[bsN rk l i]? = some v) (hru : rk[u.toNat]? = some ru) (hrv : rk[v.toNat]? = some rv) (h : rv < ru) : bsN rk l (i + 1) = i := by
  conv => lhs; unfold bsN
  rw [if_pos]
  simp [rkO, hu, hv, hru, hrv]; exact h
theorem bs_f {rk l : List Int} {i : Nat} {u v ru rv : Int} (hu : l[i]? = some u) (hv : l[bsN rk l i]? = some v) (hru : rk[u.toNat]? = some ru) (hrv : rk[v.toNat]? = some rv) (h : ¬ rv < ru) : bsN rk l (i + 1) = bsN rk l i := by
  conv => lhs; unfold bsN
  rw [if_neg]
  simp [rkO, hu, hv, hru, hrv]; omega
theorem bs_one (rk l : List Int) : bsN rk l 1 = 0 := by
  unfold bsN
  simp [bsN]
/-- More of a chooser: no two threads have one rank. -/
structure CInv (x : Chs) : Prop where
  ok : COk x
  lo : ∀ r ∈ x.rk, 0 ≤ r ∧ r < x.d + (x.rk.length : Int)
  nd : x.rk.Nodup
  low : ∀ r ∈ x.rk, r < x.d → ∃ (k : Nat) (s : Int), x.chs[k]? = some s ∧ s ≤ x.m ∧ r = x.d - (k : Int) - 1
theorem chg_get {d : Int} {chs : List Int} {m t : Int} {rk : List Int} : ∀ (k : Nat) (j : Nat) (r : Int), (chg d chs m t rk k)[j]? = some r → (rk[j]? = some r) ∨ (j = t.toNat ∧ ∃ q, q < k ∧ chs[q]? = some m ∧ r = d - (q : Int) - 1) := by
  intro k
  induction k with
  | zero => intro j r h; exact .inl h
  | succ k ih =>
    intro j r h
    unfold chg at h
    split at h
    · rename_i hm
      by_cases hj : j = t.toNat
      · subst hj
        rw [List.getElem?_set] at h
        rw [if_pos rfl] at h
        split at h
        · cases h; exact .inr ⟨rfl, k, Nat.lt_succ_self k, hm, rfl⟩
        · cases h
      · rw [List.getElem?_set_ne (Ne.symm hj)] at h
        rcases ih j r h with h1 | ⟨h1, q, h2, h3⟩
        · exact .inl h1
        · exact .inr ⟨h1, q, by omega, h3⟩
    · rcases ih j r h with h1 | ⟨h1, q, h2, h3⟩
      · exact .inl h1
      · exact .inr ⟨h1, q, by omega, h3⟩
theorem nodup_of {l : List Int} (h : ∀ (i j : Nat) (x : Int), i < j → l[i]? = some x → l[j]? = some x → False) : l.Nodup := by
  rw [List.Nodup, List.pairwise_iff_getElem]
  intro i j hi hj hij e
  exact h i j l[i] hij (List.getElem?_eq_getElem hi) (by rw [List.getElem?_eq_getElem hj, e])
theorem nodup_at {l : List Int} (h : l.Nodup) {i j : Nat} {x : Int} (hi : l[i]? = some x) (hj : l[j]? = some x) : i = j := by
  rw [List.Nodup, List.pairwise_iff_getElem] at h
  obtain ⟨h1, e1⟩ := List.getElem?_eq_some_iff.1 hi
  obtain ⟨h2, e2⟩ := List.getElem?_eq_some_iff.1 hj
  rcases Nat.lt_trichotomy i j with h3 | h3 | h3
  · exact absurd (e1.trans e2.symm) (h i j h1 h2 h3)
  · exact h3
  · exact absurd (e2.trans e1.symm) (h j i h2 h1 h3)
theorem chg_inv {x : Chs} (h : CInv x) (t : Int) : CInv ⟨x.d, chg x.d x.chs (x.m + 1) t x.rk x.chs.length, x.chs, x.m + 1⟩ := by
  have hl := chg_len x.d x.chs (x.m + 1) t x.rk x.chs.length
  have hok := h.ok
  have hc := hok.c
  have hmem : ∀ r ∈ chg x.d x.chs (x.m + 1) t x.rk x.chs.length, r ∈ x.rk ∨ ∃ q, q < x.chs.length ∧ x.chs[q]? = some (x.m + 1) ∧ r = x.d - (q : Int) - 1 := by
    intro r hr
    obtain ⟨j, hj⟩ := List.getElem?_of_mem hr
    rcases chg_get _ j r hj with h1 | ⟨-, h1⟩
    · exact .inl (List.mem_of_getElem? h1)
    · exact .inr h1
  refine ⟨⟨by show 0 < (chg _ _ _ _ _ _).length; rw [hl]; exact hok.pos, by show (chg _ _ _ _ _ _).length ≤ _; rw [hl]; exact hok.len, hok.d0, hok.d1, hok.c, by have := hok.m0; show 0 ≤ x.m + 1; omega⟩, ?_, ?_, ?_⟩
  · intro r hr
    show 0 ≤ r ∧ r < x.d + ((chg _ _ _ _ _ _).length : Int)
    rw [hl]
    rcases hmem r hr with h1 | ⟨q, h1, h2, h3⟩
    · exact h.lo r h1
    · have := hok.pos; omega
  · refine nodup_of fun i j r hij hi hj => ?_
    rcases chg_get _ i r hi with h1 | ⟨h1, q, h2, h3, h4⟩
    · rcases chg_get _ j r hj with k1 | ⟨k1, q, k2, k3, k4⟩
      · have := nodup_at h.nd h1 k1; omega
      · obtain ⟨k, s, e1, e2, e3⟩ := h.low r (List.mem_of_getElem? h1) (by omega)
        have : k = q := by omega
        subst this; rw [k3] at e1; cases e1; omega
    · rcases chg_get _ j r hj with k1 | ⟨k1, -⟩
      · obtain ⟨k, s, e1, e2, e3⟩ := h.low r (List.mem_of_getElem? k1) (by omega)
        have : k = q := by omega
        subst this; rw [h3] at e1; cases e1; omega
      · omega
  · intro r hr hlt
    rcases hmem r hr with h1 | ⟨q, h1, h2, h3⟩
    · obtain ⟨k, s, e1, e2, e3⟩ := h.low r h1 hlt
      exact ⟨k, s, e1, by show s ≤ x.m + 1; omega, e3⟩
    · exact ⟨q, _, h2, Int.le_refl _, h3⟩
theorem chz_inv {x : Chs} (h : CInv x) (l : List Int) : CInv (chzX x l) := by
  unfold chzX
  split
  · exact chg_inv h _
  · exact h
theorem rks_get {d : Int} {l : List Int} (hn : l.Nodup) (hr : ∀ t ∈ l, 0 ≤ t ∧ t < (l.length : Int)) : ∀ (i : Nat), i ≤ l.length → ∀ (j : Nat) (t : Int), j < i → l[j]? = some t → (rks d l i)[t.toNat]? = some (d + (j : Int)) := by
  intro i
  induction i with
  | zero => intro _ j t h; omega
  | succ i ih =>
    intro hi j t hj ht
    have hlt := hr t (List.mem_of_getElem? ht)
    obtain ⟨u, hu⟩ := get_lt (l := l) (i := i) (by omega)
    have hult := hr u (List.mem_of_getElem? hu)
    rw [← rks_next hu]
    by_cases hji : j = i
    · subst hji; rw [hu] at ht; cases ht
      rw [List.getElem?_set_self (by rw [rks_len]; omega)]
    · rw [List.getElem?_set_ne]
      · exact ih (by omega) j t (by omega) ht
      · intro e
        have : u = t := by omega
        subst this
        exact hji (nodup_at hn ht hu)
theorem new_inv {s : Int} {n : Nat} {d st : Int} (h : OkN (n : Int) d st) : CInv (newX s n d st) := by
  have hp := shN_perm s n
  have hl := shN_len s n
  have hn : (shN s n).2.Nodup := hp.nodup_iff.2 (rng_nodup n)
  have hr : ∀ t ∈ (shN s n).2, 0 ≤ t ∧ t < ((shN s n).2.length : Int) := fun t ht => by rw [hl]; exact rng_mem.1 (hp.mem_iff.1 ht)
  have hrl : (newX s n d st).rk.length = n := by rw [newX, rks_len, hl]
  have key : ∀ (q : Nat) (r : Int), (newX s n d st).rk[q]? = some r → ∃ j : Nat, j < n ∧ (shN s n).2[j]? = some (q : Int) ∧ r = d + (j : Int) := by
    intro q r hq
    have hqn : q < n := by rw [← hrl]; exact (List.getElem?_eq_some_iff.1 hq).1
    obtain ⟨j, hj⟩ := List.getElem?_of_mem (hp.mem_iff.2 (rng_mem.2 ⟨by omega, by omega⟩ : (q : Int) ∈ rng n))
    have hjn : j < n := by rw [← hl]; exact (List.getElem?_eq_some_iff.1 hj).1
    have h2 := rks_get (d := d) hn hr n (by omega) j _ hjn hj
    simp only [Int.toNat_natCast] at h2
    have h3 : (rks d (shN s n).2 n)[q]? = some r := hq
    rw [h2] at h3; cases h3
    exact ⟨j, hjn, hj, rfl⟩
  refine ⟨new_ok h, ?_, ?_, ?_⟩
  · intro r hm
    obtain ⟨q, hq⟩ := List.getElem?_of_mem hm
    obtain ⟨j, h1, h2, h3⟩ := key q r hq
    rw [hrl]
    show 0 ≤ r ∧ r < d + (n : Int)
    omega
  · refine nodup_of fun i j r hij hi hj => ?_
    obtain ⟨a, h1, h2, h3⟩ := key i r hi
    obtain ⟨b, k1, k2, k3⟩ := key j r hj
    have : a = b := by omega
    subst this; rw [h2] at k2; cases k2; omega
  · intro r hm hlt
    obtain ⟨q, hq⟩ := List.getElem?_of_mem hm
    obtain ⟨j, h1, h2, h3⟩ := key q r hq
    have : r < d := hlt
    omega
/-- The threads in order. -/
def IsOrd (rk o : List Int) : Prop := o.Perm (rng rk.length) ∧ o.Pairwise (fun a b => ahd rk a b = true)
theorem ord_eq {rk a b : List Int} (h1 : IsOrd rk a) (h2 : IsOrd rk b) : a = b := by
  have key : ∀ (l1 l2 : List Int), l1.Perm l2 → l1.Pairwise (fun a b => ahd rk a b = true) → l2.Pairwise (fun a b => ahd rk a b = true) → l1 = l2 := by
    intro l1
    induction l1 with
    | nil => intro l2 p _ _; rw [List.Perm.nil_eq p]
    | cons a t ih =>
      intro l2 p h1 h2
      cases l2 with
      | nil => have := p.length_eq; simp at this
      | cons b s =>
        have ha : a ∈ b :: s := p.mem_iff.1 (by simp)
        have hb : b ∈ a :: t := p.mem_iff.2 (by simp)
        have e : a = b := by
          rcases List.mem_cons.1 ha with h | h
          · exact h
          · rcases List.mem_cons.1 hb with h' | h'
            · exact h'.symm
            · have k1 := (List.pairwise_cons.1 h2).1 a h
              have k2 := (List.pairwise_cons.1 h1).1 b h'
              rw [(ahd_ord rk).asym _ _ k1] at k2; cases k2
        subst e
        rw [ih s (List.Perm.cons_inv p) (List.pairwise_cons.1 h1).2 (List.pairwise_cons.1 h2).2]
  exact key a b (h1.1.trans h2.1.symm) h1.2 h2.2
theorem ord_len {rk o : List Int} (h : IsOrd rk o) : o.length = rk.length := by rw [h.1.length_eq, rng_len]
theorem ord_of_srt {rk : List Int} {out : List (Int × Nat)} (h : HpI.Srt (ahd rk) (rng rk.length).zipIdx out) : IsOrd rk (out.map (·.1)) := by
  obtain ⟨h1, h2⟩ := h
  have hp : (out.map (·.1)).Perm (rng rk.length) := by
    have := h1.map (·.1)
    rwa [List.zipIdx_map_fst] at this
  refine ⟨hp, ?_⟩
  have hn : (out.map (·.1)).Nodup := hp.nodup_iff.2 (rng_nodup _)
  rw [List.pairwise_map]
  rw [List.Nodup, List.pairwise_map] at hn
  refine List.Pairwise.imp ?_ (h2.and hn)
  rintro a b ⟨h3, h4⟩
  simp only [ltI, Bool.or_eq_true, Bool.and_eq_true, Bool.not_eq_true', decide_eq_true_eq] at h3
  rcases h3 with h3 | ⟨h3, -⟩
  · exact h3
  · simp only [ahd, Bool.or_eq_false_iff, Bool.and_eq_false_iff, decide_eq_false_iff_not] at h3
    simp only [ahd, Bool.or_eq_true, Bool.and_eq_true, decide_eq_true_eq]
    omega
/-- Of each rank below i its thread, and 1. -/
def OfI (rk o : List Int) (i : Nat) : Prop := ∀ (r : Nat) (v : Int), o[r]? = some v → (v = 0 ∧ ∀ t, t < i → rk[t]? ≠ some (r : Int)) ∨ (∃ t : Nat, t < i ∧ v = (t : Int) + 1 ∧ rk[t]? = some (r : Int))
theorem of_next {rk o : List Int} {i : Nat} {r : Int} (h : OfI rk o i) (hn : rk.Nodup) (hr : rk[i]? = some r) (h0 : 0 ≤ r) : OfI rk (o.set r.toNat ((i : Int) + 1)) (i + 1) := by
  intro q v hv
  rw [List.getElem?_set] at hv
  split at hv
  · rename_i e
    split at hv
    · cases hv
      exact .inr ⟨i, by omega, rfl, by rw [hr]; congr 1; omega⟩
    · cases hv
  · rename_i e
    rcases h q v hv with ⟨h1, h2⟩ | ⟨t, h1, h2, h3⟩
    · refine .inl ⟨h1, fun t ht hh => ?_⟩
      by_cases hti : t = i
      · subst hti; rw [hr] at hh; cases hh; exact e (by omega)
      · exact h2 t (by omega) hh
    · exact .inr ⟨t, by omega, h2, h3⟩
/-- The threads of ranks not below p, the highest first. -/
def OutI (rk out : List Int) (p : Nat) : Prop := (∀ t : Int, t ∈ out ↔ ∃ q : Nat, t = (q : Int) ∧ ∃ r, rk[q]? = some r ∧ (p : Int) ≤ r) ∧ out.Pairwise (fun a b => rkO rk b < rkO rk a)
theorem out_in {rk o out : List Int} {p : Nat} {v : Int} (h : OutI rk out (p + 1)) (ho : OfI rk o rk.length) (hv : o[p]? = some v) (h0 : 0 < v) (hn : rk.Nodup) : OutI rk (out ++ [v - 1]) p := by
  rcases ho p v hv with ⟨h1, -⟩ | ⟨t, h1, h2, h3⟩
  · omega
  · have e : v - 1 = (t : Int) := by omega
    rw [e]
    refine ⟨fun u => ?_, ?_⟩
    · rw [List.mem_append, List.mem_singleton, h.1 u]
      constructor
      · rintro (⟨q, rfl, r, h4, h5⟩ | rfl)
        · exact ⟨q, rfl, r, h4, by omega⟩
        · exact ⟨t, rfl, _, h3, Int.le_refl _⟩
      · rintro ⟨q, rfl, r, h4, h5⟩
        by_cases hrp : r = (p : Int)
        · subst hrp; right
          rw [nodup_at hn h4 h3]
        · exact .inl ⟨q, rfl, r, h4, by omega⟩
    · rw [List.pairwise_append]
      refine ⟨h.2, List.pairwise_singleton _ _, fun a ha b hb => ?_⟩
      simp at hb; subst hb
      obtain ⟨q, rfl, r, h4, h5⟩ := (h.1 a).1 ha
      rw [rkO_get h3, rkO_get h4]; omega
theorem out_no {rk o out : List Int} {p : Nat} {v : Int} (h : OutI rk out (p + 1)) (ho : OfI rk o rk.length) (hv : o[p]? = some v) (h0 : ¬ 0 < v) : OutI rk out p := by
  refine ⟨fun u => ?_, h.2⟩
  rw [h.1 u]
  constructor
  · rintro ⟨q, rfl, r, h4, h5⟩; exact ⟨q, rfl, r, h4, by omega⟩
  · rintro ⟨q, rfl, r, h4, h5⟩
    refine ⟨q, rfl, r, h4, ?_⟩
    by_cases hrp : r = (p : Int)
    · subst hrp
      rcases ho p v hv with ⟨-, h2⟩ | ⟨t, h1, h2, h3⟩
      · exact absurd h4 (h2 q (List.getElem?_eq_some_iff.1 h4).1)
      · omega
    · omega
theorem out_start {rk : List Int} {p : Nat} (h : ∀ r ∈ rk, r < (p : Int)) : OutI rk [] p := by
  refine ⟨fun u => ⟨fun h => (by cases h), ?_⟩, List.Pairwise.nil⟩
  rintro ⟨q, rfl, r, h4, h5⟩
  have := h r (List.mem_of_getElem? h4); omega
theorem out_end {rk out : List Int} (h : OutI rk out 0) (hr : ∀ r ∈ rk, 0 ≤ r) : IsOrd rk out := by
  have hn : out.Nodup := by
    rw [List.Nodup]
    exact List.Pairwise.imp (fun {a b} h e => by subst e; omega) h.2
  refine ⟨(List.perm_ext_iff_of_nodup hn (rng_nodup _)).2 fun t => ?_, List.Pairwise.imp (fun h => by simp [ahd]; omega) h.2⟩
  rw [h.1 t, rng_mem]
  constructor
  · rintro ⟨q, rfl, r, h4, h5⟩
    have := (List.getElem?_eq_some_iff.1 h4).1; omega
  · rintro ⟨h0, h1⟩
    obtain ⟨r, hr2⟩ := get_lt (l := rk) (i := t.toNat) (by omega)
    exact ⟨t.toNat, by omega, r, hr2, hr r (List.mem_of_getElem? hr2)⟩
theorem of_le {rk o : List Int} {r : Nat} {v : Int} (h : OfI rk o rk.length) (hv : o[r]? = some v) : v ≤ (rk.length : Int) := by
  rcases h r v hv with ⟨h1, -⟩ | ⟨t, h1, h2, -⟩ <;> omega
theorem nodup_le : ∀ (l m : List Int), l.Nodup → l ⊆ m → l.length ≤ m.length
  | [], m, _, _ => Nat.zero_le _
  | a :: l, m, hn, hs => by
    have ha : a ∈ m := hs (by simp)
    have h1 := nodup_le l (m.erase a) (List.nodup_cons.1 hn).2 fun b hb => by
      have hba : b ≠ a := fun e => (List.nodup_cons.1 hn).1 (e ▸ hb)
      exact (List.mem_erase_of_ne hba).2 (hs (List.mem_cons_of_mem _ hb))
    rw [List.length_erase_of_mem ha] at h1
    have := List.length_pos_of_mem ha
    simp only [List.length_cons]; omega
theorem out_len {rk out : List Int} {p : Nat} (h : OutI rk out p) : out.length ≤ rk.length := by
  have hn : out.Nodup := by
    rw [List.Nodup]
    exact List.Pairwise.imp (fun {a b} h e => by subst e; omega) h.2
  have h2 : out ⊆ rng rk.length := fun t ht => by
    obtain ⟨q, rfl, r, h4, h5⟩ := (h.1 t).1 ht
    have := (List.getElem?_eq_some_iff.1 h4).1
    exact rng_mem.2 ⟨by omega, by omega⟩
  have := nodup_le out (rng rk.length) hn h2
  rwa [rng_len] at this
theorem rchoose_spec (b : Nat) (x : Chs) (hx : COk x) (hm : x.m ≤ 4000000000000) (l : List Int) (ao : Option Addr) (n c : Nat) (A : HProp) (hn : l.length = n) (hr : RdS A ao (l.flatMap encZ)) (hb : n ≤ 4000000000) : Spec Try.prog 55 [.pointer (some ⟨b, 0, none⟩), .slice ao n c] [ch b x, A] (fun (_ : Unit) => .tuple #[.int .u32 (chzK x l), .int .i64 (chzE x l)]) (fun _ => True) (fun _ => [ch b (chzX x l), A]) := by
  refine spec_mk (n := 128) Try.func55 rfl rfl rfl ?_
  intro Γ w0
  simp only [argE, List.cons_append, List.nil_append, Nat.zero_add, Nat.reduceAdd]
  have hc1 := hx.c
  have hc2 := hx.d1
  have hc3 := hx.len
  have hc4 := hx.m0
  have hc5 := hx.pos
  have hc6 := hx.d0
  refine c_seq ?_
  refine c_plain (.q 0 (.q 1 (.done))) (by kernel_rfl) ?_
  refine q_assign rfl rfl rfl rfl ?_
  refine q_assign rfl rfl rfl rfl ?_
  refine r_done ?_
  refine k_then_n ?_
  refine c_seq ?_
  refine c_seq ?_
  refine c_plain (.q 0 (.q 1 (.done))) (by kernel_rfl) ?_
  refine q_move rfl rfl rfl rfl ?_
  refine q_eq_nil rfl rfl rfl rfl Try.underlying63 ?_
  refine s_eq 11 rfl (v' := .bool false) rfl ?_
  refine r_done ?_
  refine k_then_n ?_
  refine c_cond_f rfl ?_
  refine c_skip ?_
  refine k_then_n ?_
  refine c_seq ?_
  refine c_seq ?_
  refine c_plain (.q 0 (.q 1 (.q 2 (.done)))) (by kernel_rfl) ?_
  refine q_move rfl rfl rfl rfl ?_
  refine q_len rfl rfl rfl rfl Try.underlying53 ?_
  refine q_int rfl rfl rfl rfl rfl (b_eql _ _ _ _) ?_
  refine r_done ?_
  refine s_keep [0, 1, 14] (e' := [(0, _), (1, _), (14, _)]) rfl ?_
  refine k_then_n ?_
  refine c_cond_p rfl (fun hl0 => ?_) (fun hl0 => ?_)
  · skip
    obtain rfl : l = [] := List.eq_nil_of_length_eq_zero (by omega)
    have hng : ¬ goodL x [] = true := by simp [goodL]
    refine c_seq ?_
    refine c_plain (.q 0 (.q 1 (.done))) (by kernel_rfl) ?_
    refine q_assign rfl rfl rfl rfl ?_
    refine q_assign rfl rfl rfl rfl ?_
    refine r_done ?_
    refine k_then_n ?_
    refine c_ret ?_
    refine k_then_ret ?_
    rw [show ch b x = ch b (chzX x []) from by rw [chzX, if_neg hng]]
    refine ret2 rfl rfl rfl (()) (by rw [chzE, chzK, if_neg hng, if_neg hng]) (by trivial) ?_
    (repeat ((with_reducible apply Takes.cons); focus (first | (with_reducible (repeat (first | exact Take.here | apply Take.there)); done) | (repeat (first | exact Take.here | apply Take.there))))); (repeat (first | exact Takes.nil | exact Takes.self | refine takes_drop2 ?_))
  · skip
    refine c_skip ?_
    refine k_then_n ?_
    refine c_seq ?_
    refine c_seq ?_
    refine c_plain (.q 0 (.done)) (by kernel_rfl) ?_
    refine q_assign rfl rfl rfl rfl ?_
    refine r_done ?_
    refine k_then_n ?_
    refine c_block ?_
    refine s_take (A := ch b x) (by with_reducible (repeat (first | exact Take.here | apply Take.there))) ?_
    refine ch_open fun ar cr ac cc => ?_
    refine c_loop2 (α := Nat) (fun (i : Nat) => i ≤ n ∧ (∀ j, j < i → okAt l x.rk.length j = true)) (fun (i : Nat) => [(6, .int .i64 ((i : Nat) : Int))]) (fun (i : Nat) => []) (fun (i : Nat) => n - i) [0, 1] (er := [(0, _), (1, _)]) rfl (0) ?_ (by exact ⟨rfl, trivial⟩) (by (try dsimp only); (try simp only [Nat.add_zero, Nat.zero_add]); (repeat ((with_reducible apply Takes.cons); focus (first | (with_reducible (repeat (first | exact Take.here | apply Take.there)); done) | (repeat (first | exact Take.here | apply Take.there))))); exact Takes.nil) ?_
    · exact ⟨Nat.zero_le _, fun j h => by omega⟩
    rintro i ⟨hle_i, hok⟩
    try simp only [List.cons_append, List.nil_append]
    refine c_seq ?_
    refine c_seq ?_
    refine c_plain (.q 0 (.q 1 (.q 2 (.q 3 (.done))))) (by kernel_rfl) ?_
    refine q_move rfl rfl rfl rfl ?_
    refine q_move rfl rfl rfl rfl ?_
    refine q_len rfl rfl rfl rfl Try.underlying53 ?_
    refine q_int rfl rfl rfl rfl rfl (b_lss _ _ _ _) ?_
    refine r_done ?_
    refine k_then_n ?_
    refine c_cond_p rfl (fun hlt => ?_) (fun hlt => ?_)
    · skip
      refine c_skip ?_
      refine k_then_n ?_
      refine c_seq ?_
      refine c_block ?_
      refine c_seq ?_
      refine c_draw rfl (.q 0 (.q 1 (.q 2 (.q 3 (.q 4 (.q 5 (.q 6 (.q 7 (.q 8 (.q 9 (.q 10 (.q 11 (.q 12 (.q 13 (.q 14 (.q 15 (.q 16 (.q 17 (.q 18 (.q 19 (.q 20 (.q 21 (.q 22 (.q 23 (.q 24 (.q 25 (.q 26 (.q 27 (.q 28 (.q 29 (.q 30 (.q 31 (.q 32 (.done)))))))))))))))))))))))))))))))))) (by kernel_rfl) ?_
      refine q_move rfl rfl rfl rfl ?_
      refine q_move rfl rfl rfl rfl ?_
      obtain ⟨u, hu⟩ := get_lt (l := l) (i := i) (by first | omega | (simp; done) | (simp; omega))
      refine q_idxR (sz := 0) (k := i) rfl rfl rfl rfl rfl Try.underlying53 Try.sizeOf3 (hr) hu encZ_len (by first | rfl | omega) (by omega) ?_
      intro ib23 io23 _ hd23
      refine q_load rfl rfl rfl rfl Try.isAgg3 (by with_reducible (repeat (first | exact Take.here | apply Take.there))) (hd23 0 _ rfl) ?_
      refine q_int rfl rfl rfl rfl rfl (b_lss _ _ _ _) ?_
      refine q_move rfl rfl rfl rfl ?_
      refine s_bool_p 26 rfl (fun hg => ?_) (fun hg => ?_)
      · skip
        refine q_skip rfl rfl rfl rfl ?_
        refine q_skip rfl rfl rfl rfl ?_
        refine q_skip rfl rfl rfl rfl ?_
        refine q_skip rfl rfl rfl rfl ?_
        refine q_skip rfl rfl rfl rfl ?_
        refine q_skip rfl rfl rfl rfl ?_
        refine q_skip rfl rfl rfl rfl ?_
        refine q_skip rfl rfl rfl rfl ?_
        refine q_skip rfl rfl rfl rfl ?_
        refine q_skip rfl rfl rfl rfl ?_
        refine q_pick_t rfl rfl rfl rfl rfl ?_
        refine q_move rfl rfl rfl rfl ?_
        refine q_skip rfl rfl rfl rfl ?_
        refine q_skip rfl rfl rfl rfl ?_
        refine q_skip rfl rfl rfl rfl ?_
        refine q_skip rfl rfl rfl rfl ?_
        refine q_skip rfl rfl rfl rfl ?_
        refine q_skip rfl rfl rfl rfl ?_
        refine q_skip rfl rfl rfl rfl ?_
        refine q_skip rfl rfl rfl rfl ?_
        refine q_skip rfl rfl rfl rfl ?_
        refine q_skip rfl rfl rfl rfl ?_
        refine q_skip rfl rfl rfl rfl ?_
        refine q_skip rfl rfl rfl rfl ?_
        refine q_skip rfl rfl rfl rfl ?_
        refine q_skip rfl rfl rfl rfl ?_
        refine q_pick_t rfl rfl rfl rfl rfl ?_
        refine r_done ?_
        refine s_keep [0, 1, 6, 27, 28, 29, 30, 31, 32, 33, 34, 35, 36, 39, 40, 41, 42, 43, 44, 45, 46, 47, 48, 49, 50, 51, 52, 53] (e' := [(0, _), (1, _), (6, _), (27, _), (28, _), (29, _), (30, _), (31, _), (32, _), (33, _), (34, _), (35, _), (36, _), (39, _), (40, _), (41, _), (42, _), (43, _), (44, _), (45, _), (46, _), (47, _), (48, _), (49, _), (50, _), (51, _), (52, _), (53, _)]) rfl ?_
        refine k_then_n ?_
        refine c_cond_t rfl ?_
        refine c_seq ?_
        refine c_plain (.q 0 (.q 1 (.done))) (by kernel_rfl) ?_
        refine q_assign rfl rfl rfl rfl ?_
        refine q_assign rfl rfl rfl rfl ?_
        refine r_done ?_
        refine s_keep [4, 5] (e' := [(4, _), (5, _)]) rfl ?_
        refine k_then_n ?_
        refine c_ret ?_
        refine k_blk_ret ?_
        refine k_then_ret ?_
        refine k_then_ret ?_
        refine k_blk_ret ?_
        refine k_then_ret ?_
        have hng : ¬ goodL x l = true := by
          have hb_ : okL l x.rk.length = false := okL_not hu (by simp only [okAt, hu]; first | (simp_all; done) | (simp_all; omega) | (rw [hv]; simp_all; done) | (rw [hv]; simp_all; omega))
          simp [goodL, hb_]
        refine ch_fold (b := b) (d := x.d) (rk := x.rk) (chs := x.chs) (m := x.m) (by (repeat ((with_reducible apply Takes.cons); focus (first | (with_reducible (repeat (first | exact Take.here | apply Take.there)); done) | (repeat (first | exact Take.here | apply Take.there))))); exact Takes.nil) (by rfl) (by rfl) ?_
        rw [show ch b (Chs.mk x.d x.rk x.chs x.m) = ch b (chzX x l) from by rw [chzX, if_neg hng]]
        refine ret2 rfl rfl rfl (()) (by rw [chzE, chzK, if_neg hng, if_neg hng]) (by trivial) ?_
        (repeat ((with_reducible apply Takes.cons); focus (first | (with_reducible (repeat (first | exact Take.here | apply Take.there)); done) | (repeat (first | exact Take.here | apply Take.there))))); (repeat (first | exact Takes.nil | exact Takes.self | refine takes_drop2 ?_))
      · skip
        refine q_move rfl rfl rfl rfl ?_
        refine q_move rfl rfl rfl rfl ?_
        refine q_idxR (sz := 0) (k := i) rfl rfl rfl rfl rfl Try.underlying53 Try.sizeOf3 (hr) hu encZ_len (by first | rfl | omega) (by omega) ?_
        intro ib29 io29 _ hd29
        refine q_load rfl rfl rfl rfl Try.isAgg3 (by with_reducible (repeat (first | exact Take.here | apply Take.there))) (hd29 0 _ rfl) ?_
        refine q_move rfl rfl rfl rfl ?_
        refine q_nil_p rfl rfl rfl rfl ?_
        refine q_field (k := 1) rfl rfl rfl rfl Try.underlying71 rfl Try.sizeOf53 rfl ?_
        refine q_load_c (j := 1) rfl rfl rfl rfl Try.isAgg53 (by with_reducible (repeat (first | exact Take.here | apply Take.there))) (by first | rfl | exact (Nat.add_zero _).symm) (by rfl) ?_
        refine q_len rfl rfl rfl rfl Try.underlying53 ?_
        refine q_int rfl rfl rfl rfl rfl (b_geq _ _ _ _) ?_
        refine q_pick_f rfl rfl rfl rfl rfl ?_
        refine q_move rfl rfl rfl rfl ?_
        refine s_bool_p 38 rfl (fun hg2 => ?_) (fun hg2 => ?_)
        · skip
          refine q_skip rfl rfl rfl rfl ?_
          refine q_skip rfl rfl rfl rfl ?_
          refine q_skip rfl rfl rfl rfl ?_
          refine q_skip rfl rfl rfl rfl ?_
          refine q_skip rfl rfl rfl rfl ?_
          refine q_skip rfl rfl rfl rfl ?_
          refine q_skip rfl rfl rfl rfl ?_
          refine q_skip rfl rfl rfl rfl ?_
          refine q_skip rfl rfl rfl rfl ?_
          refine q_skip rfl rfl rfl rfl ?_
          refine q_skip rfl rfl rfl rfl ?_
          refine q_skip rfl rfl rfl rfl ?_
          refine q_skip rfl rfl rfl rfl ?_
          refine q_skip rfl rfl rfl rfl ?_
          refine q_pick_t rfl rfl rfl rfl rfl ?_
          refine r_done ?_
          refine s_keep [0, 1, 6, 27, 28, 29, 30, 31, 32, 33, 34, 35, 36, 39, 40, 41, 42, 43, 44, 45, 46, 47, 48, 49, 50, 51, 52, 53] (e' := [(0, _), (1, _), (6, _), (27, _), (28, _), (29, _), (30, _), (31, _), (32, _), (33, _), (34, _), (35, _), (36, _), (39, _), (40, _), (41, _), (42, _), (43, _), (44, _), (45, _), (46, _), (47, _), (48, _), (49, _), (50, _), (51, _), (52, _), (53, _)]) rfl ?_
          refine k_then_n ?_
          refine c_cond_t rfl ?_
          refine c_seq ?_
          refine c_plain (.q 0 (.q 1 (.done))) (by kernel_rfl) ?_
          refine q_assign rfl rfl rfl rfl ?_
          refine q_assign rfl rfl rfl rfl ?_
          refine r_done ?_
          refine s_keep [4, 5] (e' := [(4, _), (5, _)]) rfl ?_
          refine k_then_n ?_
          refine c_ret ?_
          refine k_blk_ret ?_
          refine k_then_ret ?_
          refine k_then_ret ?_
          refine k_blk_ret ?_
          refine k_then_ret ?_
          have hng : ¬ goodL x l = true := by
            have hb_ : okL l x.rk.length = false := okL_not hu (by simp only [okAt, hu]; first | (simp_all; done) | (simp_all; omega) | (rw [hv]; simp_all; done) | (rw [hv]; simp_all; omega))
            simp [goodL, hb_]
          refine ch_fold (b := b) (d := x.d) (rk := x.rk) (chs := x.chs) (m := x.m) (by (repeat ((with_reducible apply Takes.cons); focus (first | (with_reducible (repeat (first | exact Take.here | apply Take.there)); done) | (repeat (first | exact Take.here | apply Take.there))))); exact Takes.nil) (by rfl) (by rfl) ?_
          rw [show ch b (Chs.mk x.d x.rk x.chs x.m) = ch b (chzX x l) from by rw [chzX, if_neg hng]]
          refine ret2 rfl rfl rfl (()) (by rw [chzE, chzK, if_neg hng, if_neg hng]) (by trivial) ?_
          (repeat ((with_reducible apply Takes.cons); focus (first | (with_reducible (repeat (first | exact Take.here | apply Take.there)); done) | (repeat (first | exact Take.here | apply Take.there))))); (repeat (first | exact Takes.nil | exact Takes.self | refine takes_drop2 ?_))
        · skip
          refine q_move rfl rfl rfl rfl ?_
          refine q_int rfl rfl rfl rfl rfl (b_gtr _ _ _ _) ?_
          refine q_move rfl rfl rfl rfl ?_
          refine s_bool_p 41 rfl (fun hg3 => ?_) (fun hg3 => ?_)
          · skip
            refine q_move rfl rfl rfl rfl ?_
            refine q_move rfl rfl rfl rfl ?_
            refine q_idxR (sz := 0) (k := i) rfl rfl rfl rfl rfl Try.underlying53 Try.sizeOf3 (hr) hu encZ_len (by first | rfl | omega) (by omega) ?_
            intro ib44 io44 _ hd44
            refine q_load rfl rfl rfl rfl Try.isAgg3 (by with_reducible (repeat (first | exact Take.here | apply Take.there))) (hd44 0 _ rfl) ?_
            refine q_move rfl rfl rfl rfl ?_
            refine q_move rfl rfl rfl rfl ?_
            refine q_int rfl rfl rfl rfl rfl (b_sub' _ (by (first | exact fits_i64 (by omega) (by omega) | exact fits_u64 (by omega) (by omega) | exact fits_u32 (by omega) (by omega) | exact fits_u8 (by omega) (by omega)))) ?_
            obtain ⟨v, hv⟩ := get_lt (l := l) (i := i - 1) (by first | omega | (simp; done) | (simp; omega))
            refine q_idxR (sz := 0) (k := i - 1) rfl rfl rfl rfl rfl Try.underlying53 Try.sizeOf3 (hr) hv encZ_len (by first | rfl | omega) (by omega) ?_
            intro ib49 io49 _ hd49
            refine q_load rfl rfl rfl rfl Try.isAgg3 (by with_reducible (repeat (first | exact Take.here | apply Take.there))) (hd49 0 _ rfl) ?_
            refine q_int rfl rfl rfl rfl rfl (b_leq _ _ _ _) ?_
            refine q_pick_t rfl rfl rfl rfl rfl ?_
            refine q_pick_f rfl rfl rfl rfl rfl ?_
            refine r_done ?_
            refine s_keep [0, 1, 6, 27, 28, 29, 30, 31, 32, 33, 34, 35, 36, 39, 40, 41, 42, 43, 44, 45, 46, 47, 48, 49, 50, 51, 52, 53] (e' := [(0, _), (1, _), (6, _), (27, _), (28, _), (29, _), (30, _), (31, _), (32, _), (33, _), (34, _), (35, _), (36, _), (39, _), (40, _), (41, _), (42, _), (43, _), (44, _), (45, _), (46, _), (47, _), (48, _), (49, _), (50, _), (51, _), (52, _), (53, _)]) rfl ?_
            refine k_then_n ?_
            refine c_cond_p rfl (fun hg4 => ?_) (fun hg4 => ?_)
            · skip
              refine c_seq ?_
              refine c_plain (.q 0 (.q 1 (.done))) (by kernel_rfl) ?_
              refine q_assign rfl rfl rfl rfl ?_
              refine q_assign rfl rfl rfl rfl ?_
              refine r_done ?_
              refine s_keep [4, 5] (e' := [(4, _), (5, _)]) rfl ?_
              refine k_then_n ?_
              refine c_ret ?_
              refine k_blk_ret ?_
              refine k_then_ret ?_
              refine k_then_ret ?_
              refine k_blk_ret ?_
              refine k_then_ret ?_
              have hng : ¬ goodL x l = true := by
                have hb_ : okL l x.rk.length = false := okL_not hu (by simp only [okAt, hu]; first | (simp_all; done) | (simp_all; omega) | (rw [hv]; simp_all; done) | (rw [hv]; simp_all; omega))
                simp [goodL, hb_]
              refine ch_fold (b := b) (d := x.d) (rk := x.rk) (chs := x.chs) (m := x.m) (by (repeat ((with_reducible apply Takes.cons); focus (first | (with_reducible (repeat (first | exact Take.here | apply Take.there)); done) | (repeat (first | exact Take.here | apply Take.there))))); exact Takes.nil) (by rfl) (by rfl) ?_
              rw [show ch b (Chs.mk x.d x.rk x.chs x.m) = ch b (chzX x l) from by rw [chzX, if_neg hng]]
              refine ret2 rfl rfl rfl (()) (by rw [chzE, chzK, if_neg hng, if_neg hng]) (by trivial) ?_
              (repeat ((with_reducible apply Takes.cons); focus (first | (with_reducible (repeat (first | exact Take.here | apply Take.there)); done) | (repeat (first | exact Take.here | apply Take.there))))); (repeat (first | exact Takes.nil | exact Takes.self | refine takes_drop2 ?_))
            · skip
              have hoki : okAt l x.rk.length i = true := by
                simp only [okAt, hu]; first | (simp_all; done) | (simp_all; omega) | (rw [hv]; simp_all; done) | (rw [hv]; simp_all; omega)
              refine c_skip ?_
              refine k_blk_n ?_
              refine k_then_n ?_
              refine c_plain (.q 0 (.q 1 (.q 2 (.done)))) (by kernel_rfl) ?_
              refine q_move rfl rfl rfl rfl ?_
              refine q_int rfl rfl rfl rfl rfl (b_add' _ (by (first | exact fits_i64 (by omega) (by omega) | exact fits_u64 (by omega) (by omega) | exact fits_u32 (by omega) (by omega) | exact fits_u8 (by omega) (by omega)))) ?_
              refine q_assign rfl rfl rfl rfl ?_
              refine r_done ?_
              refine k_then_n ?_
              refine loop_next (x := i) (i + 1) ?_ ?_ ?_ ?_
              · exact ⟨by omega, fun j hj => by
                    by_cases hji : j = i
                    · subst hji; exact hoki
                    · exact hok j (by omega)⟩
              · show n - (i + 1) < n - i; omega
              · exact ⟨rfl, rfl, rfl, trivial⟩
              · (try simp only [List.cons_append, List.nil_append]); (repeat ((with_reducible apply Takes.cons); focus (first | (with_reducible (repeat (first | exact Take.here | apply Take.there)); done) | (repeat (first | exact Take.here | apply Take.there))))); (repeat (first | exact Takes.nil | exact Takes.self | refine takes_drop2 ?_))
          · skip
            refine q_skip rfl rfl rfl rfl ?_
            refine q_skip rfl rfl rfl rfl ?_
            refine q_skip rfl rfl rfl rfl ?_
            refine q_skip rfl rfl rfl rfl ?_
            refine q_skip rfl rfl rfl rfl ?_
            refine q_skip rfl rfl rfl rfl ?_
            refine q_skip rfl rfl rfl rfl ?_
            refine q_skip rfl rfl rfl rfl ?_
            refine q_skip rfl rfl rfl rfl ?_
            refine q_skip rfl rfl rfl rfl ?_
            refine q_pick_f rfl rfl rfl rfl rfl ?_
            refine q_pick_f rfl rfl rfl rfl rfl ?_
            refine r_done ?_
            refine s_keep [0, 1, 6, 27, 28, 29, 30, 31, 32, 33, 34, 35, 36, 39, 40, 41, 42, 43, 44, 45, 46, 47, 48, 49, 50, 51, 52, 53] (e' := [(0, _), (1, _), (6, _), (27, _), (28, _), (29, _), (30, _), (31, _), (32, _), (33, _), (34, _), (35, _), (36, _), (39, _), (40, _), (41, _), (42, _), (43, _), (44, _), (45, _), (46, _), (47, _), (48, _), (49, _), (50, _), (51, _), (52, _), (53, _)]) rfl ?_
            refine k_then_n ?_
            refine c_cond_f rfl ?_
            have hoki : okAt l x.rk.length i = true := by
              simp only [okAt, hu]; first | (simp_all; done) | (simp_all; omega) | (rw [hv]; simp_all; done) | (rw [hv]; simp_all; omega)
            refine c_skip ?_
            refine k_blk_n ?_
            refine k_then_n ?_
            refine c_plain (.q 0 (.q 1 (.q 2 (.done)))) (by kernel_rfl) ?_
            refine q_move rfl rfl rfl rfl ?_
            refine q_int rfl rfl rfl rfl rfl (b_add' _ (by (first | exact fits_i64 (by omega) (by omega) | exact fits_u64 (by omega) (by omega) | exact fits_u32 (by omega) (by omega) | exact fits_u8 (by omega) (by omega)))) ?_
            refine q_assign rfl rfl rfl rfl ?_
            refine r_done ?_
            refine k_then_n ?_
            refine loop_next (x := i) (i + 1) ?_ ?_ ?_ ?_
            · exact ⟨by omega, fun j hj => by
                  by_cases hji : j = i
                  · subst hji; exact hoki
                  · exact hok j (by omega)⟩
            · show n - (i + 1) < n - i; omega
            · exact ⟨rfl, rfl, rfl, trivial⟩
            · (try simp only [List.cons_append, List.nil_append]); (repeat ((with_reducible apply Takes.cons); focus (first | (with_reducible (repeat (first | exact Take.here | apply Take.there)); done) | (repeat (first | exact Take.here | apply Take.there))))); (repeat (first | exact Takes.nil | exact Takes.self | refine takes_drop2 ?_))
    · skip
      refine c_exit ?_
      refine k_then_exit ?_
      refine k_then_exit ?_
      refine k_blk_here ?_
      refine k_then_n ?_
      refine c_seq ?_
      refine c_plain (.q 0 (.done)) (by kernel_rfl) ?_
      refine q_assign rfl rfl rfl rfl ?_
      refine r_done ?_
      refine s_keep [0, 1, 7] (e' := [(0, _), (1, _), (7, _)]) rfl ?_
      refine k_then_n ?_
      refine c_seq ?_
      refine c_seq ?_
      refine c_plain (.q 0 (.done)) (by kernel_rfl) ?_
      refine q_assign rfl rfl rfl rfl ?_
      refine r_done ?_
      refine k_then_n ?_
      refine c_block ?_
      obtain rfl : n = i := by omega
      have hgl : okL l x.rk.length = true := okL_of fun j hj => hok j (by omega)
      refine c_loop2 (α := Nat × Nat) (fun (x_ : Nat × Nat) => match x_ with | (i, p) => i ≤ n ∧ (1 ≤ i) ∧ (p = bsN x.rk l i)) (fun (x_ : Nat × Nat) => match x_ with | (i, p) => [(7, .int .i64 ((p : Nat) : Int)), (8, .int .i64 ((i : Nat) : Int))]) (fun (x_ : Nat × Nat) => match x_ with | (i, p) => []) (fun (x_ : Nat × Nat) => match x_ with | (i, p) => n - i) [0, 1] (er := [(0, _), (1, _)]) rfl (1, 0) ?_ (by exact ⟨rfl, rfl, trivial⟩) (by (try dsimp only); (try simp only [Nat.add_zero, Nat.zero_add]); (repeat ((with_reducible apply Takes.cons); focus (first | (with_reducible (repeat (first | exact Take.here | apply Take.there)); done) | (repeat (first | exact Take.here | apply Take.there))))); exact Takes.nil) ?_
      · exact ⟨by omega, Nat.le_refl _, (bs_one _ _).symm⟩
      rintro ⟨i, p⟩ ⟨hle_i, hi1, hpb⟩
      try simp only [List.cons_append, List.nil_append]
      have hpi := bsN_lt x.rk l i (by omega)
      rw [← hpb] at hpi
      refine c_seq ?_
      refine c_seq ?_
      refine c_plain (.q 0 (.q 1 (.q 2 (.q 3 (.done))))) (by kernel_rfl) ?_
      refine q_move rfl rfl rfl rfl ?_
      refine q_move rfl rfl rfl rfl ?_
      refine q_len rfl rfl rfl rfl Try.underlying53 ?_
      refine q_int rfl rfl rfl rfl rfl (b_lss _ _ _ _) ?_
      refine r_done ?_
      refine k_then_n ?_
      refine c_cond_p rfl (fun hlt => ?_) (fun hlt => ?_)
      · skip
        refine c_skip ?_
        refine k_then_n ?_
        refine c_seq ?_
        refine c_block ?_
        refine c_seq ?_
        refine c_draw rfl (.q 0 (.q 1 (.q 2 (.q 3 (.q 4 (.q 5 (.q 6 (.q 7 (.q 8 (.q 9 (.q 10 (.q 11 (.q 12 (.q 13 (.q 14 (.q 15 (.q 16 (.q 17 (.q 18 (.q 19 (.q 20 (.done)))))))))))))))))))))) (by kernel_rfl) ?_
        refine q_move rfl rfl rfl rfl ?_
        refine q_nil_p rfl rfl rfl rfl ?_
        refine q_field (k := 1) rfl rfl rfl rfl Try.underlying71 rfl Try.sizeOf53 rfl ?_
        refine q_load_c (j := 1) rfl rfl rfl rfl Try.isAgg53 (by with_reducible (repeat (first | exact Take.here | apply Take.there))) (by first | rfl | exact (Nat.add_zero _).symm) (by rfl) ?_
        refine q_move rfl rfl rfl rfl ?_
        refine q_move rfl rfl rfl rfl ?_
        obtain ⟨u, hu⟩ := get_lt (l := l) (i := i) (by first | omega | (simp; done) | (simp; omega))
        refine q_idxR (sz := 0) (k := i) rfl rfl rfl rfl rfl Try.underlying53 Try.sizeOf3 (hr) hu encZ_len (by first | rfl | omega) (by omega) ?_
        intro ib66 io66 _ hd66
        refine q_load rfl rfl rfl rfl Try.isAgg3 (by with_reducible (repeat (first | exact Take.here | apply Take.there))) (hd66 0 _ rfl) ?_
        obtain ⟨ru, hru⟩ := get_lt (l := x.rk) (i := u.toNat) (by have := okL_at hgl hu; omega)
        refine q_idxO (sz := 0) (k := u.toNat) (enc := encZ) (xs := x.rk) rfl rfl rfl rfl rfl Try.underlying53 Try.sizeOf3 hru (by have := okL_at hgl hu; omega) (by have := okL_at hgl hu; omega) (by with_reducible (repeat (first | exact Take.here | apply Take.there))) ?_
        intro ib68 io68 ha68 hl68 hc68
        refine q_load_O (j := 0) (k' := u.toNat) (enc := encZ) (off := io68) rfl rfl rfl rfl Try.isAgg3 ha68 encZ_len hru (by with_reducible (repeat (first | exact Take.here | apply Take.there))) (by first | rfl | exact (Nat.add_zero _).symm | omega) (by rfl) ?_
        refine q_move rfl rfl rfl rfl ?_
        refine q_nil_p rfl rfl rfl rfl ?_
        refine q_field (k := 1) rfl rfl rfl rfl Try.underlying71 rfl Try.sizeOf53 rfl ?_
        refine q_load_c (j := 1) rfl rfl rfl rfl Try.isAgg53 (by with_reducible (repeat (first | exact Take.here | apply Take.there))) (by first | rfl | exact (Nat.add_zero _).symm) (by rfl) ?_
        refine q_move rfl rfl rfl rfl ?_
        refine q_move rfl rfl rfl rfl ?_
        obtain ⟨v, hv⟩ := get_lt (l := l) (i := p) (by first | omega | (simp; done) | (simp; omega))
        refine q_idxR (sz := 0) (k := p) rfl rfl rfl rfl rfl Try.underlying53 Try.sizeOf3 (hr) hv encZ_len (by first | rfl | omega) (by omega) ?_
        intro ib76 io76 _ hd76
        refine q_load rfl rfl rfl rfl Try.isAgg3 (by with_reducible (repeat (first | exact Take.here | apply Take.there))) (hd76 0 _ rfl) ?_
        obtain ⟨rv, hrv⟩ := get_lt (l := x.rk) (i := v.toNat) (by have := okL_at hgl hv; omega)
        refine q_idxO (sz := 0) (k := v.toNat) (enc := encZ) (xs := x.rk) rfl rfl rfl rfl rfl Try.underlying53 Try.sizeOf3 hrv (by have := okL_at hgl hv; omega) (by have := okL_at hgl hv; omega) (by with_reducible (repeat (first | exact Take.here | apply Take.there))) ?_
        intro ib78 io78 ha78 hl78 hc78
        refine q_load_O (j := 0) (k' := v.toNat) (enc := encZ) (off := io78) rfl rfl rfl rfl Try.isAgg3 ha78 encZ_len hrv (by with_reducible (repeat (first | exact Take.here | apply Take.there))) (by first | rfl | exact (Nat.add_zero _).symm | omega) (by rfl) ?_
        refine q_int rfl rfl rfl rfl rfl (b_gtr _ _ _ _) ?_
        refine r_done ?_
        refine s_keep [0, 1, 7, 8, 80] (e' := [(0, _), (1, _), (7, _), (8, _), (80, _)]) rfl ?_
        refine k_then_n ?_
        refine c_cond_p rfl (fun hgt => ?_) (fun hgt => ?_)
        · skip
          refine c_plain (.q 0 (.q 1 (.done))) (by kernel_rfl) ?_
          refine q_move rfl rfl rfl rfl ?_
          refine q_assign rfl rfl rfl rfl ?_
          refine r_done ?_
          refine k_blk_n ?_
          refine k_then_n ?_
          refine c_plain (.q 0 (.q 1 (.q 2 (.done)))) (by kernel_rfl) ?_
          refine q_move rfl rfl rfl rfl ?_
          refine q_int rfl rfl rfl rfl rfl (b_add' _ (by (first | exact fits_i64 (by omega) (by omega) | exact fits_u64 (by omega) (by omega) | exact fits_u32 (by omega) (by omega) | exact fits_u8 (by omega) (by omega)))) ?_
          refine q_assign rfl rfl rfl rfl ?_
          refine r_done ?_
          refine s_keep [0, 1, 7, 8] (e' := [(0, _), (1, _), (7, _), (8, _)]) rfl ?_
          refine k_then_n ?_
          refine loop_next (x := (i, p)) ((i + 1, i)) ?_ ?_ ?_ ?_
          · try dsimp only
            exact ⟨by omega, by omega, by subst hpb; exact (bs_t hu hv hru hrv hgt).symm⟩
          · show n - (i + 1) < n - i; omega
          · exact ⟨rfl, rfl, rfl, rfl, trivial⟩
          · (try simp only [List.cons_append, List.nil_append]); (repeat ((with_reducible apply Takes.cons); focus (first | (with_reducible (repeat (first | exact Take.here | apply Take.there)); done) | (repeat (first | exact Take.here | apply Take.there))))); (repeat (first | exact Takes.nil | exact Takes.self | refine takes_drop2 ?_))
        · skip
          refine c_skip ?_
          refine k_blk_n ?_
          refine k_then_n ?_
          refine c_plain (.q 0 (.q 1 (.q 2 (.done)))) (by kernel_rfl) ?_
          refine q_move rfl rfl rfl rfl ?_
          refine q_int rfl rfl rfl rfl rfl (b_add' _ (by (first | exact fits_i64 (by omega) (by omega) | exact fits_u64 (by omega) (by omega) | exact fits_u32 (by omega) (by omega) | exact fits_u8 (by omega) (by omega)))) ?_
          refine q_assign rfl rfl rfl rfl ?_
          refine r_done ?_
          refine k_then_n ?_
          refine loop_next (x := (i, p)) ((i + 1, p)) ?_ ?_ ?_ ?_
          · try dsimp only
            exact ⟨by omega, by omega, by subst hpb; exact (bs_f hu hv hru hrv hgt).symm⟩
          · show n - (i + 1) < n - i; omega
          · exact ⟨rfl, rfl, rfl, rfl, trivial⟩
          · (try simp only [List.cons_append, List.nil_append]); (repeat ((with_reducible apply Takes.cons); focus (first | (with_reducible (repeat (first | exact Take.here | apply Take.there)); done) | (repeat (first | exact Take.here | apply Take.there))))); (repeat (first | exact Takes.nil | exact Takes.self | refine takes_drop2 ?_))
      · skip
        refine c_exit ?_
        refine k_then_exit ?_
        refine k_then_exit ?_
        refine k_blk_here ?_
        refine k_then_n ?_
        refine c_seq ?_
        obtain rfl : n = i := by omega
        obtain ⟨ty, hty⟩ := get_lt (l := l) (i := p) (by have := bsN_lt x.rk l n (by omega); omega)
        have hyb := okL_at hgl hty
        have hpb2 : p = bst x.rk l := by rw [hpb, ← hn]
        have hbt : l.getD (bst x.rk l) 0 = ty := by rw [← hpb2]; simp [hty]
        have hgd : goodL x l = true := by
          cases l with
          | nil => simp at hn; omega
          | cons a q => simpa [goodL] using hgl
        refine c_plain (.q 0 (.q 1 (.q 2 (.q 3 (.q 4 (.q 5 (.q 6 ((.l 7 [] (.done)))))))))) (by kernel_rfl) ?_
        refine q_move rfl rfl rfl rfl ?_
        refine q_nil_p rfl rfl rfl rfl ?_
        refine q_field (k := 3) rfl rfl rfl rfl Try.underlying71 rfl Try.sizeOf3 rfl ?_
        refine q_load_c (j := 3) rfl rfl rfl rfl Try.isAgg3 (by with_reducible (repeat (first | exact Take.here | apply Take.there))) (by first | rfl | exact (Nat.add_zero _).symm) (by rfl) ?_
        refine q_int rfl rfl rfl rfl rfl (b_add' _ (by (first | exact fits_i64 (by omega) (by omega) | exact fits_u64 (by omega) (by omega) | exact fits_u32 (by omega) (by omega) | exact fits_u8 (by omega) (by omega)))) ?_
        refine q_nil_p rfl rfl rfl rfl ?_
        refine q_field (k := 3) rfl rfl rfl rfl Try.underlying71 rfl Try.sizeOf3 rfl ?_
        refine l_store (j := 3) rfl rfl rfl rfl Try.sizeOf3 (us := [_]) rfl rfl rfl (by with_reducible (repeat (first | exact Take.here | apply Take.there))) (by first | rfl | exact (Nat.add_zero _).symm) (by first | decide | (simp; done) | omega) ?_
        simp only [setL, List.set]
        refine ag_nil ?_
        refine r_done ?_
        refine s_keep [0, 1, 7] (e' := [(0, _), (1, _), (7, _)]) rfl ?_
        refine k_then_n ?_
        refine c_seq ?_
        refine c_seq ?_
        refine c_plain (.q 0 (.done)) (by kernel_rfl) ?_
        refine q_assign rfl rfl rfl rfl ?_
        refine r_done ?_
        refine k_then_n ?_
        refine c_block ?_
        refine c_loop2 (α := Nat × List Int) (fun (x_ : Nat × List Int) => match x_ with | (k, rk) => k ≤ x.chs.length ∧ (rk = chg x.d x.chs (x.m + 1) ty x.rk k)) (fun (x_ : Nat × List Int) => match x_ with | (k, rk) => [(9, .int .i64 (((k : Nat) : Int) + 1))]) (fun (x_ : Nat × List Int) => match x_ with | (k, rk) => [cells b 0 [.int .i64 x.d, .slice ar x.rk.length cr, .slice ac x.chs.length cc, .int .i64 (x.m + 1)], own 1 encZ ar cr rk, own 1 encZ ac cc x.chs]) (fun (x_ : Nat × List Int) => match x_ with | (k, rk) => x.chs.length - k) [0, 1, 7] (er := [(0, _), (1, _), (7, _)]) rfl (0, x.rk) ?_ (by exact ⟨rfl, trivial⟩) (by (try dsimp only); (try simp only [Nat.add_zero, Nat.zero_add]); (repeat ((with_reducible apply Takes.cons); focus (first | (with_reducible (repeat (first | exact Take.here | apply Take.there)); done) | (repeat (first | exact Take.here | apply Take.there))))); exact Takes.nil) ?_
        · exact ⟨Nat.zero_le _, rfl⟩
        rintro ⟨k, rk⟩ ⟨hle_k, hrk⟩
        try simp only [List.cons_append, List.nil_append]
        have hrl := chg_len x.d x.chs (x.m + 1) ty x.rk k
        rw [← hrk] at hrl
        refine c_seq ?_
        refine c_seq ?_
        refine c_plain (.q 0 (.q 1 (.q 2 (.q 3 (.q 4 (.q 5 (.q 6 (.done)))))))) (by kernel_rfl) ?_
        refine q_move rfl rfl rfl rfl ?_
        refine q_move rfl rfl rfl rfl ?_
        refine q_nil_p rfl rfl rfl rfl ?_
        refine q_field (k := 2) rfl rfl rfl rfl Try.underlying71 rfl Try.sizeOf53 rfl ?_
        refine q_load_c (j := 2) rfl rfl rfl rfl Try.isAgg53 (by with_reducible (repeat (first | exact Take.here | apply Take.there))) (by first | rfl | exact (Nat.add_zero _).symm) (by rfl) ?_
        refine q_len rfl rfl rfl rfl Try.underlying53 ?_
        refine q_int rfl rfl rfl rfl rfl (b_leq _ _ _ _) ?_
        refine r_done ?_
        refine s_keep [0, 1, 7, 9, 95] (e' := [(0, _), (1, _), (7, _), (9, _), (95, _)]) rfl ?_
        refine k_then_n ?_
        refine c_cond_p rfl (fun hlk => ?_) (fun hlk => ?_)
        · skip
          refine c_skip ?_
          refine k_then_n ?_
          refine c_seq ?_
          refine c_block ?_
          refine c_seq ?_
          refine c_draw rfl (.q 0 (.q 1 (.q 2 (.q 3 (.q 4 (.q 5 (.q 6 (.q 7 (.q 8 (.q 9 (.q 10 (.q 11 (.q 12 (.done)))))))))))))) (by kernel_rfl) ?_
          refine q_move rfl rfl rfl rfl ?_
          refine q_nil_p rfl rfl rfl rfl ?_
          refine q_field (k := 2) rfl rfl rfl rfl Try.underlying71 rfl Try.sizeOf53 rfl ?_
          refine q_load_c (j := 2) rfl rfl rfl rfl Try.isAgg53 (by with_reducible (repeat (first | exact Take.here | apply Take.there))) (by first | rfl | exact (Nat.add_zero _).symm) (by rfl) ?_
          refine q_move rfl rfl rfl rfl ?_
          refine q_int rfl rfl rfl rfl rfl (b_sub' _ (by (first | exact fits_i64 (by omega) (by omega) | exact fits_u64 (by omega) (by omega) | exact fits_u32 (by omega) (by omega) | exact fits_u8 (by omega) (by omega)))) ?_
          refine s_eq 103 rfl (v' := .int .i64 ((k : Nat) : Int)) (by congr 1; omega) ?_
          obtain ⟨sv, hsv⟩ := get_lt (l := x.chs) (i := k) (by first | omega | (simp; done) | (simp; omega))
          refine q_idxO (sz := 0) (k := k) (enc := encZ) (xs := x.chs) rfl rfl rfl rfl rfl Try.underlying53 Try.sizeOf3 hsv (by first | rfl | omega) (by omega) (by with_reducible (repeat (first | exact Take.here | apply Take.there))) ?_
          intro ib104 io104 ha104 hl104 hc104
          refine q_load_O (j := 0) (k' := k) (enc := encZ) (off := io104) rfl rfl rfl rfl Try.isAgg3 ha104 encZ_len hsv (by with_reducible (repeat (first | exact Take.here | apply Take.there))) (by first | rfl | exact (Nat.add_zero _).symm | omega) (by rfl) ?_
          refine q_move rfl rfl rfl rfl ?_
          refine q_nil_p rfl rfl rfl rfl ?_
          refine q_field (k := 3) rfl rfl rfl rfl Try.underlying71 rfl Try.sizeOf3 rfl ?_
          refine q_load_c (j := 3) rfl rfl rfl rfl Try.isAgg3 (by with_reducible (repeat (first | exact Take.here | apply Take.there))) (by first | rfl | exact (Nat.add_zero _).symm) (by rfl) ?_
          refine q_int rfl rfl rfl rfl rfl (b_eql _ _ _ _) ?_
          refine r_done ?_
          refine s_keep [0, 1, 7, 9, 110] (e' := [(0, _), (1, _), (7, _), (9, _), (110, _)]) rfl ?_
          refine k_then_n ?_
          refine c_cond_p rfl (fun hs => ?_) (fun hs => ?_)
          · skip
            obtain ⟨w_, hw_⟩ := get_lt (l := rk) (i := ty.toNat) (by omega)
            refine c_draw rfl (.q 0 (.q 1 (.q 2 (.q 3 (.q 4 (.q 5 (.q 6 (.q 7 (.q 8 (.q 9 (.q 10 (.q 11 (.q 12 (.q 13 (.q 14 ((.l 15 [] (.done)))))))))))))))))) (by kernel_rfl) ?_
            refine q_move rfl rfl rfl rfl ?_
            refine q_nil_p rfl rfl rfl rfl ?_
            refine q_field (k := 1) rfl rfl rfl rfl Try.underlying71 rfl Try.sizeOf53 rfl ?_
            refine q_load_c (j := 1) rfl rfl rfl rfl Try.isAgg53 (by with_reducible (repeat (first | exact Take.here | apply Take.there))) (by first | rfl | exact (Nat.add_zero _).symm) (by rfl) ?_
            refine q_move rfl rfl rfl rfl ?_
            refine q_move rfl rfl rfl rfl ?_
            refine q_idxR (sz := 0) (k := p) rfl rfl rfl rfl rfl Try.underlying53 Try.sizeOf3 (hr) hty encZ_len (by first | rfl | omega) (by omega) ?_
            intro ib117 io117 _ hd117
            refine q_load rfl rfl rfl rfl Try.isAgg3 (by with_reducible (repeat (first | exact Take.here | apply Take.there))) (hd117 0 _ rfl) ?_
            refine q_move rfl rfl rfl rfl ?_
            refine q_nil_p rfl rfl rfl rfl ?_
            refine q_field (k := 0) rfl rfl rfl rfl Try.underlying71 rfl Try.sizeOf3 rfl ?_
            refine q_load_c (j := 0) rfl rfl rfl rfl Try.isAgg3 (by with_reducible (repeat (first | exact Take.here | apply Take.there))) (by first | rfl | exact (Nat.add_zero _).symm) (by rfl) ?_
            refine q_move rfl rfl rfl rfl ?_
            refine q_int rfl rfl rfl rfl rfl (b_sub' _ (by (first | exact fits_i64 (by omega) (by omega) | exact fits_u64 (by omega) (by omega) | exact fits_u32 (by omega) (by omega) | exact fits_u8 (by omega) (by omega)))) ?_
            refine s_eq 124 rfl (v' := .int .i64 (x.d - (k : Int) - 1)) (by congr 1; omega) ?_
            refine q_idxO (sz := 0) (k := ty.toNat) (enc := encZ) (xs := rk) rfl rfl rfl rfl rfl Try.underlying53 Try.sizeOf3 hw_ (by first | rfl | omega) (by omega) (by with_reducible (repeat (first | exact Take.here | apply Take.there))) ?_
            intro ib125 io125 ha125 hl125 hc125
            refine l_store_O (j := 0) (k := ty.toNat) (q := (x.d - (k : Int) - 1)) (enc := encZ) (off := io125) rfl rfl rfl rfl Try.sizeOf3 (us := [_]) rfl rfl rfl ha125 encZ_len hw_ (by with_reducible (repeat (first | exact Take.here | apply Take.there))) (by first | rfl | exact (Nat.add_zero _).symm | omega) (by first | decide | exact Nat.le_of_ble_eq_true rfl) (by rfl) ?_
            refine ag_nil ?_
            refine r_done ?_
            refine s_keep [0, 1, 7, 9] (e' := [(0, _), (1, _), (7, _), (9, _)]) rfl ?_
            refine k_blk_n ?_
            refine k_then_n ?_
            refine c_plain (.q 0 (.q 1 (.q 2 (.done)))) (by kernel_rfl) ?_
            refine q_move rfl rfl rfl rfl ?_
            refine q_int rfl rfl rfl rfl rfl (b_add' _ (by (first | exact fits_i64 (by omega) (by omega) | exact fits_u64 (by omega) (by omega) | exact fits_u32 (by omega) (by omega) | exact fits_u8 (by omega) (by omega)))) ?_
            refine q_assign rfl rfl rfl rfl ?_
            refine r_done ?_
            refine k_then_n ?_
            rw [show rk.set ty.toNat (x.d - (k : Int) - 1) = chg x.d x.chs (x.m + 1) ty x.rk (k + 1) from by rw [hrk, chg_t hsv hs]]
            refine loop_next (x := (k, rk)) ((k + 1, chg x.d x.chs (x.m + 1) ty x.rk (k + 1))) ?_ ?_ ?_ ?_
            · try dsimp only
              exact ⟨by omega, rfl⟩
            · show x.chs.length - (k + 1) < x.chs.length - k; omega
            · exact ⟨rfl, rfl, rfl, rfl, trivial⟩
            · (try simp only [List.cons_append, List.nil_append]); (repeat ((with_reducible apply Takes.cons); focus (first | (with_reducible (repeat (first | exact Take.here | apply Take.there)); done) | (repeat (first | exact Take.here | apply Take.there))))); (repeat (first | exact Takes.nil | exact Takes.self | refine takes_drop2 ?_))
          · skip
            refine c_skip ?_
            refine k_blk_n ?_
            refine k_then_n ?_
            refine c_plain (.q 0 (.q 1 (.q 2 (.done)))) (by kernel_rfl) ?_
            refine q_move rfl rfl rfl rfl ?_
            refine q_int rfl rfl rfl rfl rfl (b_add' _ (by (first | exact fits_i64 (by omega) (by omega) | exact fits_u64 (by omega) (by omega) | exact fits_u32 (by omega) (by omega) | exact fits_u8 (by omega) (by omega)))) ?_
            refine q_assign rfl rfl rfl rfl ?_
            refine r_done ?_
            refine k_then_n ?_
            rw [show own 1 encZ ar cr rk = own 1 encZ ar cr (chg x.d x.chs (x.m + 1) ty x.rk (k + 1)) from by rw [hrk, chg_f hsv hs]]
            refine loop_next (x := (k, rk)) ((k + 1, chg x.d x.chs (x.m + 1) ty x.rk (k + 1))) ?_ ?_ ?_ ?_
            · try dsimp only
              exact ⟨by omega, rfl⟩
            · show x.chs.length - (k + 1) < x.chs.length - k; omega
            · exact ⟨rfl, rfl, rfl, rfl, trivial⟩
            · (try simp only [List.cons_append, List.nil_append]); (repeat ((with_reducible apply Takes.cons); focus (first | (with_reducible (repeat (first | exact Take.here | apply Take.there)); done) | (repeat (first | exact Take.here | apply Take.there))))); (repeat (first | exact Takes.nil | exact Takes.self | refine takes_drop2 ?_))
        · skip
          refine c_exit ?_
          refine k_then_exit ?_
          refine k_then_exit ?_
          refine k_blk_here ?_
          refine k_then_n ?_
          refine c_seq ?_
          refine c_plain (.q 0 (.q 1 (.q 2 (.q 3 (.done))))) (by kernel_rfl) ?_
          refine q_move rfl rfl rfl rfl ?_
          refine q_conv' rfl rfl rfl rfl Try.underlying25 Try.underlying3 (by (first | exact fits_i64 (by omega) (by omega) | exact fits_u64 (by omega) (by omega) | exact fits_u32 (by omega) (by omega) | exact fits_u8 (by omega) (by omega))) ?_
          refine q_assign rfl rfl rfl rfl ?_
          refine q_assign rfl rfl rfl rfl ?_
          refine r_done ?_
          refine s_keep [4, 5] (e' := [(4, _), (5, _)]) rfl ?_
          refine k_then_n ?_
          refine c_ret ?_
          obtain rfl : k = x.chs.length := by omega
          refine ch_fold (b := b) (d := x.d) (rk := rk) (chs := x.chs) (m := (x.m + 1)) (by (repeat ((with_reducible apply Takes.cons); focus (first | (with_reducible (repeat (first | exact Take.here | apply Take.there)); done) | (repeat (first | exact Take.here | apply Take.there))))); exact Takes.nil) (by omega) (by rfl) ?_
          rw [show ch b (Chs.mk x.d rk x.chs (x.m + 1)) = ch b (chzX x l) from by rw [chzX, if_pos hgd, hbt, hrk]]
          refine ret2 rfl rfl rfl (()) (by rw [chzE, chzK, if_pos hgd, if_pos hgd, ← hpb2]) (by trivial) ?_
          (repeat ((with_reducible apply Takes.cons); focus (first | (with_reducible (repeat (first | exact Take.here | apply Take.there)); done) | (repeat (first | exact Take.here | apply Take.there))))); (repeat (first | exact Takes.nil | exact Takes.self | refine takes_drop2 ?_))

theorem order_spec (b : Nat) (x : Chs) (hx : COk x) : Spec Try.prog 25 [.pointer (some ⟨b, 0, none⟩)] [ch b x] (fun (r : Option Addr × Nat × List Int) => .slice r.1 x.rk.length r.2.1) (fun r => IsOrd x.rk r.2.2) (fun r => [ch b x, own 1 encZ r.1 r.2.1 r.2.2]) := by
  refine spec_mk (n := 27) Try.func25 rfl rfl rfl ?_
  intro Γ w0
  simp only [argE, List.cons_append, List.nil_append, Nat.zero_add, Nat.reduceAdd]
  have hc1 := hx.c
  have hc2 := hx.d1
  have hc3 := hx.len
  have hc4 := hx.m0
  have hc5 := hx.pos
  have hc6 := hx.d0
  refine c_seq ?_
  refine c_plain (.q 0 (.done)) (by kernel_rfl) ?_
  refine q_assign rfl rfl rfl rfl ?_
  refine r_done ?_
  refine k_then_n ?_
  refine c_seq ?_
  refine c_seq ?_
  refine c_plain (.q 0 ((.l 1 [] (.done)))) (by kernel_rfl) ?_
  refine q_move rfl rfl rfl rfl ?_
  have sp_1 := none_spec b x hx
  refine l_call rfl rfl rfl rfl rfl rfl Try.call47 (sp_1) (by (repeat ((with_reducible apply Takes.cons); focus (first | (with_reducible (repeat (first | exact Take.here | apply Take.there)); done) | (repeat (first | exact Take.here | apply Take.there))))); exact Takes.nil) ?_
  rintro ⟨⟩ -
  try simp only [List.cons_append, List.nil_append]
  refine ag_nil ?_
  refine r_done ?_
  refine k_then_n ?_
  refine c_cond_f rfl ?_
  refine c_skip ?_
  refine k_then_n ?_
  refine c_seq ?_
  refine s_take (A := ch b x) (by with_reducible (repeat (first | exact Take.here | apply Take.there))) ?_
  refine ch_open fun ar cr ac cc => ?_
  refine c_plain (.q 0 (.q 1 (.q 2 (.q 3 (.q 4 ((.l 5 [] (.q 6 (.done))))))))) (by kernel_rfl) ?_
  refine q_move rfl rfl rfl rfl ?_
  refine q_nil_p rfl rfl rfl rfl ?_
  refine q_field (k := 1) rfl rfl rfl rfl Try.underlying77 rfl Try.sizeOf53 rfl ?_
  refine q_load_c (j := 1) rfl rfl rfl rfl Try.isAgg53 (by with_reducible (repeat (first | exact Take.here | apply Take.there))) (by first | rfl | exact (Nat.add_zero _).symm) (by rfl) ?_
  refine q_len rfl rfl rfl rfl Try.underlying53 ?_
  refine l_make (sz := 1) (enc := encZ) (len := x.rk.length) (cap := x.rk.length) (0) rfl rfl rfl rfl rfl (by first | rfl | omega) (by first | rfl | omega) Try.underlying53 Try.typeInfo3 rfl rfl rfl (by decide) (by omega) (by omega) (by show 8 * _ ≤ _; omega) (by rfl) (encZ_len) ?_
  intro b12
  refine ag_nil ?_
  refine q_assign rfl rfl rfl rfl ?_
  refine r_done ?_
  refine s_keep [0, 3] (e' := [(0, _), (3, _)]) rfl ?_
  refine k_then_n ?_
  refine c_seq ?_
  refine c_seq ?_
  refine c_plain (.q 0 (.q 1 (.q 2 (.done)))) (by kernel_rfl) ?_
  refine q_move rfl rfl rfl rfl ?_
  refine q_len rfl rfl rfl rfl Try.underlying53 ?_
  refine q_move rfl rfl rfl rfl ?_
  refine r_done ?_
  refine k_then_n ?_
  refine c_block ?_
  refine c_loop2 (α := Nat × List Int) (fun (x_ : Nat × List Int) => match x_ with | (i, l) => i ≤ x.rk.length ∧ (l.length = x.rk.length) ∧ (∀ j, j < i → l[j]? = some (j : Int))) (fun (x_ : Nat × List Int) => match x_ with | (i, l) => [(15, .int .i64 ((i : Nat) : Int))]) (fun (x_ : Nat × List Int) => match x_ with | (i, l) => [own 1 encZ (some ⟨b12, 0, none⟩) x.rk.length l]) (fun (x_ : Nat × List Int) => match x_ with | (i, l) => x.rk.length - i) [0, 3, 14] (er := [(0, _), (3, _), (14, _)]) rfl (0, List.replicate x.rk.length 0) ?_ (by exact ⟨rfl, trivial⟩) (by (try dsimp only); (try simp only [Nat.add_zero, Nat.zero_add]); (repeat ((with_reducible apply Takes.cons); focus (first | (with_reducible (repeat (first | exact Take.here | apply Take.there)); done) | (repeat (first | exact Take.here | apply Take.there))))); exact Takes.nil) ?_
  · exact ⟨Nat.zero_le _, by simp, fun j h => by omega⟩
  rintro ⟨i, l⟩ ⟨hle_i, hll, hlj⟩
  try simp only [List.cons_append, List.nil_append]
  refine c_seq ?_
  refine c_plain (.q 0 (.done)) (by kernel_rfl) ?_
  refine q_int rfl rfl rfl rfl rfl (b_lss _ _ _ _) ?_
  refine r_done ?_
  refine k_then_n ?_
  refine c_seq ?_
  refine c_cond_p rfl (fun hlt => ?_) (fun hlt => ?_)
  · skip
    refine c_skip ?_
    refine k_then_n ?_
    refine c_seq ?_
    refine c_block ?_
    refine c_seq ?_
    refine c_plain (.q 0 (.q 1 (.done))) (by kernel_rfl) ?_
    refine q_move rfl rfl rfl rfl ?_
    refine q_assign rfl rfl rfl rfl ?_
    refine r_done ?_
    refine k_then_n ?_
    refine c_plain (.q 0 (.q 1 (.q 2 (.q 3 ((.l 4 [] (.done))))))) (by kernel_rfl) ?_
    refine q_move rfl rfl rfl rfl ?_
    refine q_move rfl rfl rfl rfl ?_
    refine q_move rfl rfl rfl rfl ?_
    obtain ⟨e_2, he_2⟩ := get_lt (l := l) (i := i) (by first | omega | (simp; done) | (simp; omega))
    refine q_idxO (sz := 0) (k := i) (enc := encZ) (xs := l) rfl rfl rfl rfl rfl Try.underlying53 Try.sizeOf3 he_2 (by first | rfl | omega) (by omega) (by with_reducible (repeat (first | exact Take.here | apply Take.there))) ?_
    intro ib21 io21 ha21 hl21 hc21
    refine l_store_O (j := 0) (k := i) (q := ((i : Nat) : Int)) (enc := encZ) (off := io21) rfl rfl rfl rfl Try.sizeOf3 (us := [_]) rfl rfl rfl ha21 encZ_len he_2 (by with_reducible (repeat (first | exact Take.here | apply Take.there))) (by first | rfl | exact (Nat.add_zero _).symm | omega) (by first | decide | exact Nat.le_of_ble_eq_true rfl) (by rfl) ?_
    refine ag_nil ?_
    refine r_done ?_
    refine s_keep [0, 3, 14, 15] (e' := [(0, _), (3, _), (14, _), (15, _)]) rfl ?_
    refine k_blk_n ?_
    refine k_then_n ?_
    refine c_plain (.q 0 (.q 1 (.done))) (by kernel_rfl) ?_
    refine q_int rfl rfl rfl rfl rfl (b_add' _ (by (first | exact fits_i64 (by omega) (by omega) | exact fits_u64 (by omega) (by omega) | exact fits_u32 (by omega) (by omega) | exact fits_u8 (by omega) (by omega)))) ?_
    refine q_move rfl rfl rfl rfl ?_
    refine r_done ?_
    refine k_then_n ?_
    refine loop_next (x := (i, l)) ((i + 1, l.set i (i : Int))) ?_ ?_ ?_ ?_
    · try dsimp only
      exact ⟨by omega, by rw [List.length_set]; exact hll, fun j hj => by
          by_cases hji : j = i
          · subst hji; rw [List.getElem?_set_self (by omega)]
          · rw [List.getElem?_set_ne (Ne.symm hji)]; exact hlj j (by omega)⟩
    · show x.rk.length - (i + 1) < x.rk.length - i; omega
    · exact ⟨rfl, rfl, rfl, rfl, trivial⟩
    · (try simp only [List.cons_append, List.nil_append]); (repeat ((with_reducible apply Takes.cons); focus (first | (with_reducible (repeat (first | exact Take.here | apply Take.there)); done) | (repeat (first | exact Take.here | apply Take.there))))); (repeat (first | exact Takes.nil | exact Takes.self | refine takes_drop2 ?_))
  · skip
    refine c_exit ?_
    refine k_then_exit ?_
    refine k_then_exit ?_
    refine k_blk_here ?_
    refine k_then_n ?_
    refine c_seq ?_
    obtain rfl := rng_of (n := x.rk.length) hll fun j hj => hlj j (by omega)
    have hrl := rng_len x.rk.length
    refine ch_fold (b := b) (d := x.d) (rk := x.rk) (chs := x.chs) (m := x.m) (by (repeat ((with_reducible apply Takes.cons); focus (first | (with_reducible (repeat (first | exact Take.here | apply Take.there)); done) | (repeat (first | exact Take.here | apply Take.there))))); exact Takes.nil) (by rfl) (by rfl) ?_
    refine c_plain (.q 0 (.q 1 (.q 2 ((.l 3 [] (.q 4 (.done))))))) (by kernel_rfl) ?_
    refine q_move rfl rfl rfl rfl ?_
    refine q_move rfl rfl rfl rfl ?_
    refine q_func rfl rfl rfl rfl rfl ?_
    refine l_call rfl rfl rfl rfl rfl rfl Try.call49 (HpI.sort_spec (less_ok b x) (rng x.rk.length) (some ⟨b12, 0, none⟩) x.rk.length x.rk.length (own 1 encZ (some ⟨b12, 0, none⟩) x.rk.length (rng x.rk.length)) hrl (rds_own (enc := HpI.encT) HpI.encT_len (fun h => by cases h) (fun _ => ⟨_, _, rfl⟩)) (by omega) (fun v hv => rng_mem.1 hv)) (by (repeat ((with_reducible apply Takes.cons); focus (first | (with_reducible (repeat (first | exact Take.here | apply Take.there)); done) | (repeat (first | exact Take.here | apply Take.there))))); exact Takes.nil) ?_
    rintro r hr2
    try simp only [List.cons_append, List.nil_append]
    refine ag_nil ?_
    refine q_assign rfl rfl rfl rfl ?_
    refine r_done ?_
    refine s_keep [2] (e' := [(2, _)]) rfl ?_
    refine k_then_n ?_
    refine c_ret ?_
    have hol := ord_len (ord_of_srt hr2)
    rw [List.length_map] at hol
    refine ret1 rfl rfl ((r.1, r.2.1, r.2.2.map (·.1))) (by congr 1) (by exact ord_of_srt hr2) ?_
    (repeat ((with_reducible apply Takes.cons); focus (first | (with_reducible (repeat (first | exact Take.here | apply Take.there)); done) | (repeat (first | exact Take.here | apply Take.there))))); (repeat (first | exact Takes.nil | exact Takes.self | refine takes_drop2 ?_))

theorem rorder_spec (b : Nat) (x : Chs) (h : CInv x) : Spec Try.prog 56 [.pointer (some ⟨b, 0, none⟩)] [ch b x] (fun (r : Option Addr × Nat × List Int) => .slice r.1 x.rk.length r.2.1) (fun r => IsOrd x.rk r.2.2) (fun r => [ch b x, own 1 encZ r.1 r.2.1 r.2.2]) := by
  refine spec_mk (n := 61) Try.func56 rfl rfl rfl ?_
  intro Γ w0
  simp only [argE, List.cons_append, List.nil_append, Nat.zero_add, Nat.reduceAdd]
  have hx := h.ok
  have hc1 := hx.c
  have hc2 := hx.d1
  have hc3 := hx.len
  have hc4 := hx.m0
  have hc5 := hx.pos
  have hc6 := hx.d0
  obtain ⟨D, hD⟩ := Int.eq_ofNat_of_zero_le (show 0 ≤ x.d + (x.rk.length : Int) by omega)
  refine c_seq ?_
  refine c_plain (.q 0 (.done)) (by kernel_rfl) ?_
  refine q_assign rfl rfl rfl rfl ?_
  refine r_done ?_
  refine k_then_n ?_
  refine c_seq ?_
  refine c_seq ?_
  refine c_plain (.q 0 (.q 1 (.done))) (by kernel_rfl) ?_
  refine q_move rfl rfl rfl rfl ?_
  refine q_eq_nil rfl rfl rfl rfl Try.underlying63 ?_
  refine s_eq 8 rfl (v' := .bool false) rfl ?_
  refine r_done ?_
  refine k_then_n ?_
  refine c_cond_f rfl ?_
  refine c_skip ?_
  refine k_then_n ?_
  refine c_seq ?_
  refine s_take (A := ch b x) (by with_reducible (repeat (first | exact Take.here | apply Take.there))) ?_
  refine ch_open fun ar cr ac cc => ?_
  refine c_draw rfl (.q 0 (.q 1 (.q 2 (.q 3 (.q 4 (.q 5 (.q 6 (.q 7 (.q 8 (.q 9 ((.l 10 [] (.q 11 (.done)))))))))))))) (by kernel_rfl) ?_
  refine q_move rfl rfl rfl rfl ?_
  refine q_nil_p rfl rfl rfl rfl ?_
  refine q_field (k := 0) rfl rfl rfl rfl Try.underlying71 rfl Try.sizeOf3 rfl ?_
  refine q_load_c (j := 0) rfl rfl rfl rfl Try.isAgg3 (by with_reducible (repeat (first | exact Take.here | apply Take.there))) (by first | rfl | exact (Nat.add_zero _).symm) (by rfl) ?_
  refine q_move rfl rfl rfl rfl ?_
  refine q_nil_p rfl rfl rfl rfl ?_
  refine q_field (k := 1) rfl rfl rfl rfl Try.underlying71 rfl Try.sizeOf53 rfl ?_
  refine q_load_c (j := 1) rfl rfl rfl rfl Try.isAgg53 (by with_reducible (repeat (first | exact Take.here | apply Take.there))) (by first | rfl | exact (Nat.add_zero _).symm) (by rfl) ?_
  refine q_len rfl rfl rfl rfl Try.underlying53 ?_
  refine q_int rfl rfl rfl rfl rfl (b_add' _ (by (first | exact fits_i64 (by omega) (by omega) | exact fits_u64 (by omega) (by omega) | exact fits_u32 (by omega) (by omega) | exact fits_u8 (by omega) (by omega)))) ?_
  refine l_make (sz := 1) (enc := encZ) (len := D) (cap := D) (0) rfl rfl rfl rfl rfl (by first | rfl | omega) (by first | rfl | omega) Try.underlying53 Try.typeInfo3 rfl rfl rfl (by decide) (by omega) (by omega) (by show 8 * _ ≤ _; omega) (by rfl) (encZ_len) ?_
  intro b19
  refine ag_nil ?_
  refine q_assign rfl rfl rfl rfl ?_
  refine r_done ?_
  refine s_keep [0, 3] (e' := [(0, _), (3, _)]) rfl ?_
  refine k_then_n ?_
  refine c_seq ?_
  refine c_seq ?_
  refine c_plain (.q 0 (.done)) (by kernel_rfl) ?_
  refine q_assign rfl rfl rfl rfl ?_
  refine r_done ?_
  refine k_then_n ?_
  refine c_block ?_
  refine c_loop2 (α := Nat × List Int) (fun (x_ : Nat × List Int) => match x_ with | (i, o) => i ≤ x.rk.length ∧ (o.length = D) ∧ (OfI x.rk o i)) (fun (x_ : Nat × List Int) => match x_ with | (i, o) => [(4, .int .i64 ((i : Nat) : Int))]) (fun (x_ : Nat × List Int) => match x_ with | (i, o) => [own 1 encZ (some ⟨b19, 0, none⟩) D o]) (fun (x_ : Nat × List Int) => match x_ with | (i, o) => x.rk.length - i) [0, 3] (er := [(0, _), (3, _)]) rfl (0, List.replicate D 0) ?_ (by exact ⟨rfl, trivial⟩) (by (try dsimp only); (try simp only [Nat.add_zero, Nat.zero_add]); (repeat ((with_reducible apply Takes.cons); focus (first | (with_reducible (repeat (first | exact Take.here | apply Take.there)); done) | (repeat (first | exact Take.here | apply Take.there))))); exact Takes.nil) ?_
  · exact ⟨Nat.zero_le _, by simp, fun q v hv => by rw [List.getElem?_replicate] at hv; split at hv <;> cases hv; exact .inl ⟨rfl, fun t ht => by omega⟩⟩
  rintro ⟨i, o⟩ ⟨hle_i, hol, hof⟩
  try simp only [List.cons_append, List.nil_append]
  refine c_seq ?_
  refine c_seq ?_
  refine c_plain (.q 0 (.q 1 (.q 2 (.q 3 (.q 4 (.q 5 (.q 6 (.done)))))))) (by kernel_rfl) ?_
  refine q_move rfl rfl rfl rfl ?_
  refine q_move rfl rfl rfl rfl ?_
  refine q_nil_p rfl rfl rfl rfl ?_
  refine q_field (k := 1) rfl rfl rfl rfl Try.underlying71 rfl Try.sizeOf53 rfl ?_
  refine q_load_c (j := 1) rfl rfl rfl rfl Try.isAgg53 (by with_reducible (repeat (first | exact Take.here | apply Take.there))) (by first | rfl | exact (Nat.add_zero _).symm) (by rfl) ?_
  refine q_len rfl rfl rfl rfl Try.underlying53 ?_
  refine q_int rfl rfl rfl rfl rfl (b_lss _ _ _ _) ?_
  refine r_done ?_
  refine s_keep [0, 3, 4, 26] (e' := [(0, _), (3, _), (4, _), (26, _)]) rfl ?_
  refine k_then_n ?_
  refine c_cond_p rfl (fun hlt => ?_) (fun hlt => ?_)
  · skip
    refine c_skip ?_
    refine k_then_n ?_
    refine c_seq ?_
    refine c_block ?_
    refine c_plain (.q 0 (.q 1 (.q 2 (.q 3 (.q 4 (.q 5 (.q 6 (.q 7 (.q 8 (.q 9 (.q 10 ((.l 11 [] (.done)))))))))))))) (by kernel_rfl) ?_
    refine q_move rfl rfl rfl rfl ?_
    refine q_move rfl rfl rfl rfl ?_
    refine q_nil_p rfl rfl rfl rfl ?_
    refine q_field (k := 1) rfl rfl rfl rfl Try.underlying71 rfl Try.sizeOf53 rfl ?_
    refine q_load_c (j := 1) rfl rfl rfl rfl Try.isAgg53 (by with_reducible (repeat (first | exact Take.here | apply Take.there))) (by first | rfl | exact (Nat.add_zero _).symm) (by rfl) ?_
    refine q_move rfl rfl rfl rfl ?_
    obtain ⟨r, hr⟩ := get_lt (l := x.rk) (i := i) (by first | omega | (simp; done) | (simp; omega))
    have hrr := h.lo r (List.mem_of_getElem? hr)
    refine q_idxO (sz := 0) (k := i) (enc := encZ) (xs := x.rk) rfl rfl rfl rfl rfl Try.underlying53 Try.sizeOf3 hr (by first | rfl | omega) (by omega) (by with_reducible (repeat (first | exact Take.here | apply Take.there))) ?_
    intro ib35 io35 ha35 hl35 hc35
    refine q_load_O (j := 0) (k' := i) (enc := encZ) (off := io35) rfl rfl rfl rfl Try.isAgg3 ha35 encZ_len hr (by with_reducible (repeat (first | exact Take.here | apply Take.there))) (by first | rfl | exact (Nat.add_zero _).symm | omega) (by rfl) ?_
    refine q_move rfl rfl rfl rfl ?_
    refine q_int rfl rfl rfl rfl rfl (b_add' _ (by (first | exact fits_i64 (by omega) (by omega) | exact fits_u64 (by omega) (by omega) | exact fits_u32 (by omega) (by omega) | exact fits_u8 (by omega) (by omega)))) ?_
    obtain ⟨v, hv⟩ := get_lt (l := o) (i := r.toNat) (by first | omega | (simp; done) | (simp; omega))
    refine q_idxO (sz := 0) (k := r.toNat) (enc := encZ) (xs := o) rfl rfl rfl rfl rfl Try.underlying53 Try.sizeOf3 hv (by first | rfl | omega) (by omega) (by with_reducible (repeat (first | exact Take.here | apply Take.there))) ?_
    intro ib39 io39 ha39 hl39 hc39
    refine l_store_O (j := 0) (k := r.toNat) (q := (((i : Nat) : Int) + 1)) (enc := encZ) (off := io39) rfl rfl rfl rfl Try.sizeOf3 (us := [_]) rfl rfl rfl ha39 encZ_len hv (by with_reducible (repeat (first | exact Take.here | apply Take.there))) (by first | rfl | exact (Nat.add_zero _).symm | omega) (by first | decide | exact Nat.le_of_ble_eq_true rfl) (by rfl) ?_
    refine ag_nil ?_
    refine r_done ?_
    refine s_keep [0, 3, 4] (e' := [(0, _), (3, _), (4, _)]) rfl ?_
    refine k_blk_n ?_
    refine k_then_n ?_
    refine c_plain (.q 0 (.q 1 (.q 2 (.done)))) (by kernel_rfl) ?_
    refine q_move rfl rfl rfl rfl ?_
    refine q_int rfl rfl rfl rfl rfl (b_add' _ (by (first | exact fits_i64 (by omega) (by omega) | exact fits_u64 (by omega) (by omega) | exact fits_u32 (by omega) (by omega) | exact fits_u8 (by omega) (by omega)))) ?_
    refine q_assign rfl rfl rfl rfl ?_
    refine r_done ?_
    refine k_then_n ?_
    refine loop_next (x := (i, o)) ((i + 1, o.set r.toNat ((i : Int) + 1))) ?_ ?_ ?_ ?_
    · try dsimp only
      exact ⟨by omega, by rw [List.length_set]; exact hol, of_next hof h.nd hr hrr.1⟩
    · show x.rk.length - (i + 1) < x.rk.length - i; omega
    · exact ⟨rfl, rfl, rfl, trivial⟩
    · (try simp only [List.cons_append, List.nil_append]); (repeat ((with_reducible apply Takes.cons); focus (first | (with_reducible (repeat (first | exact Take.here | apply Take.there)); done) | (repeat (first | exact Take.here | apply Take.there))))); (repeat (first | exact Takes.nil | exact Takes.self | refine takes_drop2 ?_))
  · skip
    refine c_exit ?_
    refine k_then_exit ?_
    refine k_then_exit ?_
    refine k_blk_here ?_
    refine k_then_n ?_
    refine c_seq ?_
    refine c_plain (.q 0 (.done)) (by kernel_rfl) ?_
    refine q_assign rfl rfl rfl rfl ?_
    refine r_done ?_
    refine k_then_n ?_
    refine c_seq ?_
    refine c_seq ?_
    refine c_plain (.q 0 (.q 1 (.q 2 (.q 3 (.done))))) (by kernel_rfl) ?_
    refine q_move rfl rfl rfl rfl ?_
    refine q_len rfl rfl rfl rfl Try.underlying53 ?_
    refine q_int rfl rfl rfl rfl rfl (b_sub' _ (by (first | exact fits_i64 (by omega) (by omega) | exact fits_u64 (by omega) (by omega) | exact fits_u32 (by omega) (by omega) | exact fits_u8 (by omega) (by omega)))) ?_
    refine q_assign rfl rfl rfl rfl ?_
    refine r_done ?_
    refine s_keep [3, 5, 6] (e' := [(3, _), (5, _), (6, _)]) rfl ?_
    refine k_then_n ?_
    refine c_block ?_
    refine s_heap (fun _ h => own_nil (sz := 1) (enc := encZ) h) ?_
    obtain rfl : x.rk.length = i := by omega
    refine c_loop2 (α := Nat × List Int × Option Addr × Nat) (fun (x_ : Nat × List Int × Option Addr × Nat) => match x_ with | (p, out, ao, cp) => OutI x.rk out p ∧ p ≤ D) (fun (x_ : Nat × List Int × Option Addr × Nat) => match x_ with | (p, out, ao, cp) => [(5, .slice ao out.length cp), (6, .int .i64 (((p : Nat) : Int) - 1))]) (fun (x_ : Nat × List Int × Option Addr × Nat) => match x_ with | (p, out, ao, cp) => [own 1 encZ ao cp out]) (fun (x_ : Nat × List Int × Option Addr × Nat) => match x_ with | (p, out, ao, cp) => p) [3] (er := [(3, _)]) rfl (D, [], none, 0) ?_ (by exact ⟨rfl, rfl, trivial⟩) (by (try dsimp only); (try simp only [Nat.add_zero, Nat.zero_add]); (repeat ((with_reducible apply Takes.cons); focus (first | (with_reducible (repeat (first | exact Take.here | apply Take.there)); done) | (repeat (first | exact Take.here | apply Take.there))))); exact Takes.nil) ?_
    · exact ⟨out_start fun r hr => by have := (h.lo r hr).2; omega, Nat.le_refl _⟩
    rintro ⟨p, out, ao, cp⟩ ⟨hout, hp⟩
    try simp only [List.cons_append, List.nil_append]
    have hoo := out_len hout
    refine c_seq ?_
    refine c_seq ?_
    refine c_plain (.q 0 (.q 1 (.done))) (by kernel_rfl) ?_
    refine q_move rfl rfl rfl rfl ?_
    refine q_int rfl rfl rfl rfl rfl (b_geq _ _ _ _) ?_
    refine r_done ?_
    refine k_then_n ?_
    refine c_cond_p rfl (fun hp0 => ?_) (fun hp0 => ?_)
    · skip
      obtain ⟨p, rfl⟩ : ∃ q, p = q + 1 := ⟨p - 1, by omega⟩
      refine s_eq 6 rfl (v' := .int .i64 ((p : Nat) : Int)) (by congr 1; omega) ?_
      refine c_skip ?_
      refine k_then_n ?_
      refine c_seq ?_
      refine c_block ?_
      refine c_seq ?_
      refine c_plain (.q 0 (.q 1 (.q 2 (.q 3 (.q 4 (.done)))))) (by kernel_rfl) ?_
      refine q_move rfl rfl rfl rfl ?_
      refine q_move rfl rfl rfl rfl ?_
      obtain ⟨v, hv⟩ := get_lt (l := o) (i := p) (by first | omega | (simp; done) | (simp; omega))
      refine q_idxO (sz := 0) (k := p) (enc := encZ) (xs := o) rfl rfl rfl rfl rfl Try.underlying53 Try.sizeOf3 hv (by first | rfl | omega) (by omega) (by with_reducible (repeat (first | exact Take.here | apply Take.there))) ?_
      intro ib49 io49 ha49 hl49 hc49
      refine q_load_O (j := 0) (k' := p) (enc := encZ) (off := io49) rfl rfl rfl rfl Try.isAgg3 ha49 encZ_len hv (by with_reducible (repeat (first | exact Take.here | apply Take.there))) (by first | rfl | exact (Nat.add_zero _).symm | omega) (by rfl) ?_
      refine q_int rfl rfl rfl rfl rfl (b_gtr _ _ _ _) ?_
      refine r_done ?_
      refine s_keep [3, 5, 6, 51] (e' := [(3, _), (5, _), (6, _), (51, _)]) rfl ?_
      refine k_then_n ?_
      refine c_cond_p rfl (fun hv0 => ?_) (fun hv0 => ?_)
      · skip
        have hvb := of_le hof hv
        refine c_plain (.q 0 (.q 1 (.q 2 (.q 3 (.q 4 (.q 5 ((.l 6 [] ((.l 7 [] (.q 8 (.done)))))))))))) (by kernel_rfl) ?_
        refine q_move rfl rfl rfl rfl ?_
        refine q_move rfl rfl rfl rfl ?_
        refine q_move rfl rfl rfl rfl ?_
        refine q_idxO (sz := 0) (k := p) (enc := encZ) (xs := o) rfl rfl rfl rfl rfl Try.underlying53 Try.sizeOf3 hv (by first | rfl | omega) (by omega) (by with_reducible (repeat (first | exact Take.here | apply Take.there))) ?_
        intro ib55 io55 ha55 hl55 hc55
        refine q_load_O (j := 0) (k' := p) (enc := encZ) (off := io55) rfl rfl rfl rfl Try.isAgg3 ha55 encZ_len hv (by with_reducible (repeat (first | exact Take.here | apply Take.there))) (by first | rfl | exact (Nat.add_zero _).symm | omega) (by rfl) ?_
        refine q_int rfl rfl rfl rfl rfl (b_sub' _ (by (first | exact fits_i64 (by omega) (by omega) | exact fits_u64 (by omega) (by omega) | exact fits_u32 (by omega) (by omega) | exact fits_u8 (by omega) (by omega)))) ?_
        refine l_buildSlice rfl rfl rfl rfl (run_build1 (us := [_]) Try.underlying53 Try.sizeOf3 rfl Try.zeroValue3 rfl rfl rfl) ?_
        intro b58
        refine ag_nil ?_
        refine l_append (sz := 1) (enc := encZ) (xs := out) rfl rfl rfl rfl rfl Try.underlying53 Try.typeInfo3 rfl rfl rfl (by decide) (by with_reducible (repeat (first | exact Take.here | apply Take.there))) (by with_reducible (repeat (first | exact Take.here | apply Take.there))) (by first | rfl | omega | (simp; done) | (simp; omega)) (ys := [(v - 1)]) (rds_some rdn_cells) (by rfl) (by first | rfl | omega) (encZ_len) (encZ_one) (by omega) (by show _ * 8 ≤ _; omega) ?_
        intro ao59 cp59
        refine ag_nil ?_
        refine q_assign rfl rfl rfl rfl ?_
        refine r_done ?_
        refine s_keep [3, 5, 6] (e' := [(3, _), (5, _), (6, _)]) rfl ?_
        refine k_blk_n ?_
        refine k_then_n ?_
        refine c_plain (.q 0 (.q 1 (.q 2 (.done)))) (by kernel_rfl) ?_
        refine q_move rfl rfl rfl rfl ?_
        refine q_int rfl rfl rfl rfl rfl (b_sub' _ (by (first | exact fits_i64 (by omega) (by omega) | exact fits_u64 (by omega) (by omega) | exact fits_u32 (by omega) (by omega) | exact fits_u8 (by omega) (by omega)))) ?_
        refine q_assign rfl rfl rfl rfl ?_
        refine r_done ?_
        refine k_then_n ?_
        refine s_eq 5 rfl (v' := .slice ao59 (out ++ [v - 1]).length cp59) (by first | rfl | (congr 1; done) | (congr 1 <;> first | rfl | omega | (simp; done) | (simp; omega))) ?_
        refine loop_next (x := (p + 1, out, ao, cp)) ((p, out ++ [v - 1], ao59, cp59)) ?_ ?_ ?_ ?_
        · try dsimp only
          exact ⟨out_in hout hof hv hv0 h.nd, by omega⟩
        · show p < p + 1; omega
        · exact ⟨rfl, rfl, rfl, trivial⟩
        · (try simp only [List.cons_append, List.nil_append]); (repeat ((with_reducible apply Takes.cons); focus (first | (with_reducible (repeat (first | exact Take.here | apply Take.there)); done) | (repeat (first | exact Take.here | apply Take.there))))); (repeat (first | exact Takes.nil | exact Takes.self | refine takes_drop2 ?_))
      · skip
        refine c_skip ?_
        refine k_blk_n ?_
        refine k_then_n ?_
        refine c_plain (.q 0 (.q 1 (.q 2 (.done)))) (by kernel_rfl) ?_
        refine q_move rfl rfl rfl rfl ?_
        refine q_int rfl rfl rfl rfl rfl (b_sub' _ (by (first | exact fits_i64 (by omega) (by omega) | exact fits_u64 (by omega) (by omega) | exact fits_u32 (by omega) (by omega) | exact fits_u8 (by omega) (by omega)))) ?_
        refine q_assign rfl rfl rfl rfl ?_
        refine r_done ?_
        refine k_then_n ?_
        refine loop_next (x := (p + 1, out, ao, cp)) ((p, out, ao, cp)) ?_ ?_ ?_ ?_
        · try dsimp only
          exact ⟨out_no hout hof hv hv0, by omega⟩
        · show p < p + 1; omega
        · exact ⟨rfl, rfl, rfl, trivial⟩
        · (try simp only [List.cons_append, List.nil_append]); (repeat ((with_reducible apply Takes.cons); focus (first | (with_reducible (repeat (first | exact Take.here | apply Take.there)); done) | (repeat (first | exact Take.here | apply Take.there))))); (repeat (first | exact Takes.nil | exact Takes.self | refine takes_drop2 ?_))
    · skip
      refine c_exit ?_
      refine k_then_exit ?_
      refine k_then_exit ?_
      refine k_blk_here ?_
      refine k_then_n ?_
      refine c_seq ?_
      refine c_plain (.q 0 (.q 1 (.done))) (by kernel_rfl) ?_
      refine q_move rfl rfl rfl rfl ?_
      refine q_assign rfl rfl rfl rfl ?_
      refine r_done ?_
      refine s_keep [2] (e' := [(2, _)]) rfl ?_
      refine k_then_n ?_
      refine c_ret ?_
      obtain rfl : p = 0 := by omega
      have hend := out_end hout fun r hr => (h.lo r hr).1
      have hol2 := ord_len hend
      refine ch_fold (b := b) (d := x.d) (rk := x.rk) (chs := x.chs) (m := x.m) (by (repeat ((with_reducible apply Takes.cons); focus (first | (with_reducible (repeat (first | exact Take.here | apply Take.there)); done) | (repeat (first | exact Take.here | apply Take.there))))); exact Takes.nil) (by rfl) (by rfl) ?_
      refine ret1 rfl rfl ((ao, cp, out)) (by congr 1) (by exact hend) ?_
      (repeat ((with_reducible apply Takes.cons); focus (first | (with_reducible (repeat (first | exact Take.here | apply Take.there)); done) | (repeat (first | exact Take.here | apply Take.there))))); (repeat (first | exact Takes.nil | exact Takes.self | refine takes_drop2 ?_))

theorem rchanges_spec (b : Nat) (x : Chs) (hx : COk x) : Spec Try.prog 57 [.pointer (some ⟨b, 0, none⟩)] [ch b x] (fun (r : Option Addr × Nat) => .slice r.1 x.chs.length r.2) (fun r => True) (fun r => [ch b x, own 1 encZ r.1 r.2 x.chs]) := by
  refine spec_mk (n := 29) Try.func57 rfl rfl rfl ?_
  intro Γ w0
  simp only [argE, List.cons_append, List.nil_append, Nat.zero_add, Nat.reduceAdd]
  have hc1 := hx.c
  have hc2 := hx.d1
  have hc3 := hx.len
  have hc4 := hx.m0
  have hc5 := hx.pos
  have hc6 := hx.d0
  refine c_seq ?_
  refine c_plain (.q 0 (.done)) (by kernel_rfl) ?_
  refine q_assign rfl rfl rfl rfl ?_
  refine r_done ?_
  refine k_then_n ?_
  refine c_seq ?_
  refine c_plain (.q 0 (.done)) (by kernel_rfl) ?_
  refine q_assign rfl rfl rfl rfl ?_
  refine r_done ?_
  refine k_then_n ?_
  refine c_seq ?_
  refine c_seq ?_
  refine c_plain (.q 0 (.done)) (by kernel_rfl) ?_
  refine q_assign rfl rfl rfl rfl ?_
  refine r_done ?_
  refine k_then_n ?_
  refine c_block ?_
  refine s_heap (fun _ h => own_nil (sz := 1) (enc := encZ) h) ?_
  refine s_take (A := ch b x) (by with_reducible (repeat (first | exact Take.here | apply Take.there))) ?_
  refine ch_open fun ar cr ac cc => ?_
  refine c_loop2 (α := Nat × Option Addr × Nat) (fun (x_ : Nat × Option Addr × Nat) => match x_ with | (i, ao, cp) => i ≤ x.chs.length ∧ True) (fun (x_ : Nat × Option Addr × Nat) => match x_ with | (i, ao, cp) => [(3, .slice ao i cp), (4, .int .i64 ((i : Nat) : Int))]) (fun (x_ : Nat × Option Addr × Nat) => match x_ with | (i, ao, cp) => [own 1 encZ ao cp (x.chs.take i)]) (fun (x_ : Nat × Option Addr × Nat) => match x_ with | (i, ao, cp) => x.chs.length - i) [0] (er := [(0, _)]) rfl (0, none, 0) ?_ (by exact ⟨rfl, rfl, trivial⟩) (by (try dsimp only); (try simp only [Nat.add_zero, Nat.zero_add]); (repeat ((with_reducible apply Takes.cons); focus (first | (with_reducible (repeat (first | exact Take.here | apply Take.there)); done) | (repeat (first | exact Take.here | apply Take.there))))); exact Takes.nil) ?_
  · exact ⟨Nat.zero_le _, trivial⟩
  rintro ⟨i, ao, cp⟩ ⟨hle_i, hc_⟩
  try simp only [List.cons_append, List.nil_append]
  have htl : (x.chs.take i).length = i := by rw [List.length_take]; omega
  refine c_seq ?_
  refine c_seq ?_
  refine c_plain (.q 0 (.q 1 (.q 2 (.q 3 (.q 4 (.q 5 (.q 6 (.q 7 (.q 8 (.q 9 (.q 10 (.done)))))))))))) (by kernel_rfl) ?_
  refine q_move rfl rfl rfl rfl ?_
  refine q_ne_nil rfl rfl rfl rfl Try.underlying63 ?_
  refine s_eq 6 rfl (v' := .bool true) rfl ?_
  refine q_move rfl rfl rfl rfl ?_
  refine q_move rfl rfl rfl rfl ?_
  refine q_move rfl rfl rfl rfl ?_
  refine q_nil_p rfl rfl rfl rfl ?_
  refine q_field (k := 2) rfl rfl rfl rfl Try.underlying71 rfl Try.sizeOf53 rfl ?_
  refine q_load_c (j := 2) rfl rfl rfl rfl Try.isAgg53 (by with_reducible (repeat (first | exact Take.here | apply Take.there))) (by first | rfl | exact (Nat.add_zero _).symm) (by rfl) ?_
  refine q_len rfl rfl rfl rfl Try.underlying53 ?_
  refine q_int rfl rfl rfl rfl rfl (b_lss _ _ _ _) ?_
  refine q_pick_t rfl rfl rfl rfl rfl ?_
  refine r_done ?_
  refine k_then_n ?_
  refine c_cond_p rfl (fun hlt => ?_) (fun hlt => ?_)
  · skip
    refine c_skip ?_
    refine k_then_n ?_
    refine c_seq ?_
    refine c_block ?_
    refine c_plain (.q 0 (.q 1 (.q 2 (.q 3 (.q 4 (.q 5 (.q 6 (.q 7 ((.l 8 [] ((.l 9 [] (.q 10 (.done)))))))))))))) (by kernel_rfl) ?_
    refine q_move rfl rfl rfl rfl ?_
    refine q_move rfl rfl rfl rfl ?_
    refine q_nil_p rfl rfl rfl rfl ?_
    refine q_field (k := 2) rfl rfl rfl rfl Try.underlying71 rfl Try.sizeOf53 rfl ?_
    refine q_load_c (j := 2) rfl rfl rfl rfl Try.isAgg53 (by with_reducible (repeat (first | exact Take.here | apply Take.there))) (by first | rfl | exact (Nat.add_zero _).symm) (by rfl) ?_
    refine q_move rfl rfl rfl rfl ?_
    obtain ⟨s, hs⟩ := get_lt (l := x.chs) (i := i) (by first | omega | (simp; done) | (simp; omega))
    refine q_idxO (sz := 0) (k := i) (enc := encZ) (xs := x.chs) rfl rfl rfl rfl rfl Try.underlying53 Try.sizeOf3 hs (by first | rfl | omega) (by omega) (by with_reducible (repeat (first | exact Take.here | apply Take.there))) ?_
    intro ib24 io24 ha24 hl24 hc24
    refine q_load_O (j := 0) (k' := i) (enc := encZ) (off := io24) rfl rfl rfl rfl Try.isAgg3 ha24 encZ_len hs (by with_reducible (repeat (first | exact Take.here | apply Take.there))) (by first | rfl | exact (Nat.add_zero _).symm | omega) (by rfl) ?_
    refine l_buildSlice rfl rfl rfl rfl (run_build1 (us := [_]) Try.underlying53 Try.sizeOf3 rfl Try.zeroValue3 rfl rfl rfl) ?_
    intro b26
    refine ag_nil ?_
    refine l_append (sz := 1) (enc := encZ) (xs := (x.chs.take i)) rfl rfl rfl rfl rfl Try.underlying53 Try.typeInfo3 rfl rfl rfl (by decide) (by with_reducible (repeat (first | exact Take.here | apply Take.there))) (by with_reducible (repeat (first | exact Take.here | apply Take.there))) (by first | rfl | omega | (simp; done) | (simp; omega)) (ys := [s]) (rds_some rdn_cells) (by rfl) (by first | rfl | omega) (encZ_len) (encZ_one) (by omega) (by show _ * 8 ≤ _; omega) ?_
    intro ao27 cp27
    refine ag_nil ?_
    refine q_assign rfl rfl rfl rfl ?_
    refine r_done ?_
    refine s_keep [0, 3, 4, 8, 9, 10, 11, 12, 13, 14] (e' := [(0, _), (3, _), (4, _), (8, _), (9, _), (10, _), (11, _), (12, _), (13, _), (14, _)]) rfl ?_
    refine k_blk_n ?_
    refine k_then_n ?_
    refine c_plain (.q 0 (.q 1 (.q 2 (.done)))) (by kernel_rfl) ?_
    refine q_move rfl rfl rfl rfl ?_
    refine q_int rfl rfl rfl rfl rfl (b_add' _ (by (first | exact fits_i64 (by omega) (by omega) | exact fits_u64 (by omega) (by omega) | exact fits_u32 (by omega) (by omega) | exact fits_u8 (by omega) (by omega)))) ?_
    refine q_assign rfl rfl rfl rfl ?_
    refine r_done ?_
    refine k_then_n ?_
    rw [show x.chs.take i ++ [s] = x.chs.take (i + 1) from by rw [List.take_add_one, hs]; rfl]
    refine loop_next (x := (i, ao, cp)) ((i + 1, ao27, cp27)) ?_ ?_ ?_ ?_
    · try dsimp only
      exact ⟨by omega, trivial⟩
    · show x.chs.length - (i + 1) < x.chs.length - i; omega
    · exact ⟨rfl, rfl, rfl, trivial⟩
    · (try simp only [List.cons_append, List.nil_append]); (repeat ((with_reducible apply Takes.cons); focus (first | (with_reducible (repeat (first | exact Take.here | apply Take.there)); done) | (repeat (first | exact Take.here | apply Take.there))))); (repeat (first | exact Takes.nil | exact Takes.self | refine takes_drop2 ?_))
  · skip
    refine c_exit ?_
    refine k_then_exit ?_
    refine k_then_exit ?_
    refine k_blk_here ?_
    refine k_then_n ?_
    refine c_seq ?_
    refine c_plain (.q 0 (.q 1 (.done))) (by kernel_rfl) ?_
    refine q_move rfl rfl rfl rfl ?_
    refine q_assign rfl rfl rfl rfl ?_
    refine r_done ?_
    refine s_keep [2] (e' := [(2, _)]) rfl ?_
    refine k_then_n ?_
    refine c_ret ?_
    obtain rfl : x.chs.length = i := by omega
    rw [List.take_length]
    refine ch_fold (b := b) (d := x.d) (rk := x.rk) (chs := x.chs) (m := x.m) (by (repeat ((with_reducible apply Takes.cons); focus (first | (with_reducible (repeat (first | exact Take.here | apply Take.there)); done) | (repeat (first | exact Take.here | apply Take.there))))); exact Takes.nil) (by rfl) (by rfl) ?_
    refine ret1 rfl rfl ((ao, cp)) (by first | rfl | (first | rfl | (congr 1; done) | (congr 1 <;> first | rfl | omega | (simp; done) | (simp; omega)))) (by trivial) ?_
    (repeat ((with_reducible apply Takes.cons); focus (first | (with_reducible (repeat (first | exact Take.here | apply Take.there)); done) | (repeat (first | exact Take.here | apply Take.there))))); (repeat (first | exact Takes.nil | exact Takes.self | refine takes_drop2 ?_))

theorem rcopy_spec (b : Nat) (x : Chs) (hx : COk x) : Spec Try.prog 35 [.pointer (some ⟨b, 0, none⟩)] [ch b x] (fun (q : Nat) => .pointer (some ⟨q, 0, none⟩)) (fun q => True) (fun q => [ch b x, ch q x]) := by
  refine spec_mk (n := 45) Try.func35 rfl rfl rfl ?_
  intro Γ w0
  simp only [argE, List.cons_append, List.nil_append, Nat.zero_add, Nat.reduceAdd]
  have hc1 := hx.c
  have hc2 := hx.d1
  have hc3 := hx.len
  have hc4 := hx.m0
  have hc5 := hx.pos
  have hc6 := hx.d0
  refine c_seq ?_
  refine c_plain (.q 0 (.done)) (by kernel_rfl) ?_
  refine q_assign rfl rfl rfl rfl ?_
  refine r_done ?_
  refine k_then_n ?_
  refine c_seq ?_
  refine c_seq ?_
  refine c_plain (.q 0 (.q 1 (.done))) (by kernel_rfl) ?_
  refine q_move rfl rfl rfl rfl ?_
  refine q_eq_nil rfl rfl rfl rfl Try.underlying63 ?_
  refine s_eq 6 rfl (v' := .bool false) rfl ?_
  refine r_done ?_
  refine k_then_n ?_
  refine c_cond_f rfl ?_
  refine c_skip ?_
  refine k_then_n ?_
  refine c_seq ?_
  refine s_take (A := ch b x) (by with_reducible (repeat (first | exact Take.here | apply Take.there))) ?_
  refine ch_open fun ar cr ac cc => ?_
  refine c_draw rfl (.q 0 (.q 1 (.q 2 (.q 3 (.q 4 (.q 5 (.q 6 (.q 7 (.q 8 ((.l 9 [3, 7] (.q 10 ((.l 11 [] (.q 12 (.done)))))))))))))))) (by kernel_rfl) ?_
  refine q_move rfl rfl rfl rfl ?_
  refine q_nil_p rfl rfl rfl rfl ?_
  refine q_field (k := 0) rfl rfl rfl rfl Try.underlying71 rfl Try.sizeOf3 rfl ?_
  refine q_load_c (j := 0) rfl rfl rfl rfl Try.isAgg3 (by with_reducible (repeat (first | exact Take.here | apply Take.there))) (by first | rfl | exact (Nat.add_zero _).symm) (by rfl) ?_
  refine q_move rfl rfl rfl rfl ?_
  refine q_nil_p rfl rfl rfl rfl ?_
  refine q_field (k := 3) rfl rfl rfl rfl Try.underlying71 rfl Try.sizeOf3 rfl ?_
  refine q_load_c (j := 3) rfl rfl rfl rfl Try.isAgg3 (by with_reducible (repeat (first | exact Take.here | apply Take.there))) (by first | rfl | exact (Nat.add_zero _).symm) (by rfl) ?_
  refine q_move rfl rfl rfl rfl ?_
  refine ch_fold (b := b) (d := x.d) (rk := x.rk) (chs := x.chs) (m := x.m) (by (repeat ((with_reducible apply Takes.cons); focus (first | (with_reducible (repeat (first | exact Take.here | apply Take.there)); done) | (repeat (first | exact Take.here | apply Take.there))))); exact Takes.nil) (by rfl) (by rfl) ?_
  have sp_1 := rchanges_spec b x hx
  refine l_call rfl rfl rfl rfl rfl rfl Try.call57 (sp_1) (by (repeat ((with_reducible apply Takes.cons); focus (first | (with_reducible (repeat (first | exact Take.here | apply Take.there)); done) | (repeat (first | exact Take.here | apply Take.there))))); exact Takes.nil) ?_
  rintro ⟨qa, qc⟩ -
  try simp only [List.cons_append, List.nil_append]
  refine s_take (A := ch b x) (by with_reducible (repeat (first | exact Take.here | apply Take.there))) ?_
  refine ch_open fun ar cr ac cc => ?_
  try simp only [List.cons_append, List.nil_append]
  refine ag_load_c (q := 0) rfl rfl rfl Try.isAgg3 (by with_reducible (repeat (first | exact Take.here | apply Take.there))) (by first | rfl | exact (Nat.add_zero _).symm) (by rfl) ?_
  refine ag_load_c (q := 3) rfl rfl rfl Try.isAgg3 (by with_reducible (repeat (first | exact Take.here | apply Take.there))) (by first | rfl | exact (Nat.add_zero _).symm) (by rfl) ?_
  refine ag_nil ?_
  refine q_build rfl rfl rfl rfl (vs := [_, _, _, _]) (run_buildS Try.underlying71 Try.zeroValue71 (ps := [(0, 1), (1, 1), (2, 1), (3, 1)]) ⟨rfl, Try.sizeOf3, rfl, Try.sizeOf53, rfl, Try.sizeOf53, rfl, Try.sizeOf3, trivial⟩ rfl) ?_
  refine l_box rfl rfl rfl rfl (us := [_, _, _, _]) rfl ?_
  intro b18
  refine ag_nil ?_
  refine q_assign rfl rfl rfl rfl ?_
  refine r_done ?_
  refine s_keep [0, 3] (e' := [(0, _), (3, _)]) rfl ?_
  refine k_then_n ?_
  refine c_seq ?_
  refine c_seq ?_
  refine c_plain (.q 0 (.done)) (by kernel_rfl) ?_
  refine q_assign rfl rfl rfl rfl ?_
  refine r_done ?_
  refine k_then_n ?_
  refine c_block ?_
  refine s_heap (fun _ h => own_nil (sz := 1) (enc := encZ) h) ?_
  refine c_loop2 (α := Nat × Option Addr × Nat) (fun (x_ : Nat × Option Addr × Nat) => match x_ with | (i, ao, cp) => i ≤ x.rk.length ∧ True) (fun (x_ : Nat × Option Addr × Nat) => match x_ with | (i, ao, cp) => [(4, .int .i64 ((i : Nat) : Int))]) (fun (x_ : Nat × Option Addr × Nat) => match x_ with | (i, ao, cp) => [cells b18 0 [.int .i64 x.d, .slice ao i cp, .slice qa x.chs.length qc, .int .i64 x.m], own 1 encZ ao cp (x.rk.take i)]) (fun (x_ : Nat × Option Addr × Nat) => match x_ with | (i, ao, cp) => x.rk.length - i) [0, 3] (er := [(0, _), (3, _)]) rfl (0, none, 0) ?_ (by exact ⟨rfl, trivial⟩) (by (try dsimp only); (try simp only [Nat.add_zero, Nat.zero_add]); (repeat ((with_reducible apply Takes.cons); focus (first | (with_reducible (repeat (first | exact Take.here | apply Take.there)); done) | (repeat (first | exact Take.here | apply Take.there))))); exact Takes.nil) ?_
  · exact ⟨Nat.zero_le _, trivial⟩
  rintro ⟨i, ao, cp⟩ ⟨hle_i, hc_⟩
  try simp only [List.cons_append, List.nil_append]
  have htl : (x.rk.take i).length = i := by rw [List.length_take]; omega
  refine c_seq ?_
  refine c_seq ?_
  refine c_plain (.q 0 (.q 1 (.q 2 (.q 3 (.q 4 (.q 5 (.q 6 (.done)))))))) (by kernel_rfl) ?_
  refine q_move rfl rfl rfl rfl ?_
  refine q_move rfl rfl rfl rfl ?_
  refine q_nil_p rfl rfl rfl rfl ?_
  refine q_field (k := 1) rfl rfl rfl rfl Try.underlying71 rfl Try.sizeOf53 rfl ?_
  refine q_load_c (j := 1) rfl rfl rfl rfl Try.isAgg53 (by with_reducible (repeat (first | exact Take.here | apply Take.there))) (by first | rfl | exact (Nat.add_zero _).symm) (by rfl) ?_
  refine q_len rfl rfl rfl rfl Try.underlying53 ?_
  refine q_int rfl rfl rfl rfl rfl (b_lss _ _ _ _) ?_
  refine r_done ?_
  refine s_keep [0, 3, 4, 25] (e' := [(0, _), (3, _), (4, _), (25, _)]) rfl ?_
  refine k_then_n ?_
  refine c_cond_p rfl (fun hlt => ?_) (fun hlt => ?_)
  · skip
    refine c_skip ?_
    refine k_then_n ?_
    refine c_seq ?_
    refine c_block ?_
    refine c_draw rfl (.q 0 (.q 1 (.q 2 (.q 3 (.q 4 (.q 5 (.q 6 (.q 7 (.q 8 (.q 9 (.q 10 (.q 11 ((.l 12 [4] ((.l 13 [] (.q 14 (.q 15 ((.l 16 [] (.done))))))))))))))))))))) (by kernel_rfl) ?_
    refine q_move rfl rfl rfl rfl ?_
    refine q_move rfl rfl rfl rfl ?_
    refine q_nil_p rfl rfl rfl rfl ?_
    refine q_field (k := 1) rfl rfl rfl rfl Try.underlying71 rfl Try.sizeOf53 rfl ?_
    refine q_load_c (j := 1) rfl rfl rfl rfl Try.isAgg53 (by with_reducible (repeat (first | exact Take.here | apply Take.there))) (by first | rfl | exact (Nat.add_zero _).symm) (by rfl) ?_
    refine q_move rfl rfl rfl rfl ?_
    refine q_nil_p rfl rfl rfl rfl ?_
    refine q_field (k := 1) rfl rfl rfl rfl Try.underlying71 rfl Try.sizeOf53 rfl ?_
    refine q_load_c (j := 1) rfl rfl rfl rfl Try.isAgg53 (by with_reducible (repeat (first | exact Take.here | apply Take.there))) (by first | rfl | exact (Nat.add_zero _).symm) (by rfl) ?_
    refine q_move rfl rfl rfl rfl ?_
    obtain ⟨r, hr⟩ := get_lt (l := x.rk) (i := i) (by first | omega | (simp; done) | (simp; omega))
    refine q_idxO (sz := 0) (k := i) (enc := encZ) (xs := x.rk) rfl rfl rfl rfl rfl Try.underlying53 Try.sizeOf3 hr (by first | rfl | omega) (by omega) (by with_reducible (repeat (first | exact Take.here | apply Take.there))) ?_
    intro ib38 io38 ha38 hl38 hc38
    refine q_load_O (j := 0) (k' := i) (enc := encZ) (off := io38) rfl rfl rfl rfl Try.isAgg3 ha38 encZ_len hr (by with_reducible (repeat (first | exact Take.here | apply Take.there))) (by first | rfl | exact (Nat.add_zero _).symm | omega) (by rfl) ?_
    refine l_buildSlice rfl rfl rfl rfl (run_build1 (us := [_]) Try.underlying53 Try.sizeOf3 rfl Try.zeroValue3 rfl rfl rfl) ?_
    intro b40
    refine ag_load_c (q := 1) rfl rfl rfl Try.isAgg53 (by with_reducible (repeat (first | exact Take.here | apply Take.there))) (by first | rfl | exact (Nat.add_zero _).symm) (by rfl) ?_
    refine ag_nil ?_
    refine l_append (sz := 1) (enc := encZ) (xs := (x.rk.take i)) rfl rfl rfl rfl rfl Try.underlying53 Try.typeInfo3 rfl rfl rfl (by decide) (by with_reducible (repeat (first | exact Take.here | apply Take.there))) (by with_reducible (repeat (first | exact Take.here | apply Take.there))) (by first | rfl | omega | (simp; done) | (simp; omega)) (ys := [r]) (rds_some rdn_cells) (by rfl) (by first | rfl | omega) (encZ_len) (encZ_one) (by omega) (by show _ * 8 ≤ _; omega) ?_
    intro ao41 cp41
    refine ag_nil ?_
    refine q_nil_p rfl rfl rfl rfl ?_
    refine q_field (k := 1) rfl rfl rfl rfl Try.underlying71 rfl Try.sizeOf53 rfl ?_
    refine l_store (j := 1) rfl rfl rfl rfl Try.sizeOf53 (us := [_]) rfl rfl rfl (by with_reducible (repeat (first | exact Take.here | apply Take.there))) (by first | rfl | exact (Nat.add_zero _).symm) (by first | decide | (simp; done) | omega) ?_
    simp only [setL, List.set]
    refine ag_nil ?_
    refine r_done ?_
    refine s_keep [0, 3, 4] (e' := [(0, _), (3, _), (4, _)]) rfl ?_
    refine k_blk_n ?_
    refine k_then_n ?_
    refine c_plain (.q 0 (.q 1 (.q 2 (.done)))) (by kernel_rfl) ?_
    refine q_move rfl rfl rfl rfl ?_
    refine q_int rfl rfl rfl rfl rfl (b_add' _ (by (first | exact fits_i64 (by omega) (by omega) | exact fits_u64 (by omega) (by omega) | exact fits_u32 (by omega) (by omega) | exact fits_u8 (by omega) (by omega)))) ?_
    refine q_assign rfl rfl rfl rfl ?_
    refine r_done ?_
    refine k_then_n ?_
    rw [show x.rk.take i ++ [r] = x.rk.take (i + 1) from by rw [List.take_add_one, hr]; rfl]
    refine loop_next (x := (i, ao, cp)) ((i + 1, ao41, cp41)) ?_ ?_ ?_ ?_
    · try dsimp only
      exact ⟨by omega, trivial⟩
    · show x.rk.length - (i + 1) < x.rk.length - i; omega
    · exact ⟨rfl, rfl, rfl, trivial⟩
    · (try simp only [List.cons_append, List.nil_append]); (repeat ((with_reducible apply Takes.cons); focus (first | (with_reducible (repeat (first | exact Take.here | apply Take.there)); done) | (repeat (first | exact Take.here | apply Take.there))))); (repeat (first | exact Takes.nil | exact Takes.self | refine takes_drop2 ?_))
  · skip
    refine c_exit ?_
    refine k_then_exit ?_
    refine k_then_exit ?_
    refine k_blk_here ?_
    refine k_then_n ?_
    refine c_seq ?_
    refine c_plain (.q 0 (.q 1 (.done))) (by kernel_rfl) ?_
    refine q_move rfl rfl rfl rfl ?_
    refine q_assign rfl rfl rfl rfl ?_
    refine r_done ?_
    refine s_keep [2] (e' := [(2, _)]) rfl ?_
    refine k_then_n ?_
    refine c_ret ?_
    obtain rfl : x.rk.length = i := by omega
    rw [List.take_length]
    refine ch_fold (b := b) (d := x.d) (rk := x.rk) (chs := x.chs) (m := x.m) (by (repeat ((with_reducible apply Takes.cons); focus (first | (with_reducible (repeat (first | exact Take.here | apply Take.there)); done) | (repeat (first | exact Take.here | apply Take.there))))); exact Takes.nil) (by rfl) (by rfl) ?_
    refine ch_fold (b := b18) (d := x.d) (rk := x.rk) (chs := x.chs) (m := x.m) (by (repeat ((with_reducible apply Takes.cons); focus (first | (with_reducible (repeat (first | exact Take.here | apply Take.there)); done) | (repeat (first | exact Take.here | apply Take.there))))); exact Takes.nil) (by rfl) (by rfl) ?_
    refine ret1 rfl rfl (b18) (by first | rfl | (first | rfl | (congr 1; done) | (congr 1 <;> first | rfl | omega | (simp; done) | (simp; omega)))) (by trivial) ?_
    (repeat ((with_reducible apply Takes.cons); focus (first | (with_reducible (repeat (first | exact Take.here | apply Take.there)); done) | (repeat (first | exact Take.here | apply Take.there))))); (repeat (first | exact Takes.nil | exact Takes.self | refine takes_drop2 ?_))
end Go.Ab.Sc
