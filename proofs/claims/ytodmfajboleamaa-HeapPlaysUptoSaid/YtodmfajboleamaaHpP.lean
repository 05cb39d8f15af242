/- HeapPlays: heaps and the document's lists. -/
import Derived.Test.YtodmfajboleamaaHpR2
import Derived.Test.YtodmfajboleamaaEngM
set_option linter.unusedVariables false
set_option linter.unusedSimpArgs false
set_option maxRecDepth 100000
namespace Go.Ab.HpT
open Go Go.Proofs Go.Ab
/-- The place of the first of the least. -/
def mI (l : List Th) : Nat := l.findIdx fun x => l.all fun y => decide (x.1 ≤ y.1)
theorem isfst_mI {l : List Th} {k : Int} (h : IsFst l k) : (l = [] ∧ k = -1) ∨ (k = ((mI l : Nat) : Int) ∧ mI l < l.length) := by
  rcases h with h | ⟨i, x, rfl, hx, h1, h2⟩
  · exact .inl h
  · have hi : i < l.length := (List.getElem?_eq_some_iff.1 hx).1
    have : mI l = i := by
      unfold mI
      rw [List.findIdx_eq hi]
      have e : l[i] = x := (List.getElem?_eq_some_iff.1 hx).2
      refine ⟨?_, fun j hj => ?_⟩
      · rw [e, List.all_eq_true]
        intro y hy
        obtain ⟨q, hq⟩ := List.getElem?_of_mem hy
        have := h1 q y hq
        simp; omega
      · have hjl : j < l.length := by omega
        have := h2 j l[j] hj (List.getElem?_eq_getElem hjl)
        cases ha : l.all fun y => decide (l[j].1 ≤ y.1) with
        | false => rfl
        | true =>
          have := List.all_eq_true.1 ha x (List.mem_of_getElem? hx)
          simp at this; omega
    exact .inr ⟨by rw [this], by rw [this]; exact hi⟩
def pkL (l : List Th) : Th × Bool := match l[mI l]? with
  | some x => (x, true)
  | none => ((0, 0), false)
/-- The numbers rise. -/
def Rz (Lz : List (Th × Nat)) : Prop := Lz.Pairwise fun a b => a.2 < b.2
abbrev fs (Lz : List (Th × Nat)) : List Th := Lz.map (·.1)
theorem rz_erase {Lz : List (Th × Nat)} (h : Rz Lz) (i : Nat) : Rz (Lz.eraseIdx i) := List.Pairwise.sublist (List.eraseIdx_sublist Lz i) h
theorem fs_erase (Lz : List (Th × Nat)) (i : Nat) : fs (Lz.eraseIdx i) = (fs Lz).eraseIdx i := (map_erase _ _ _).symm
theorem rz_push {Lz : List (Th × Nat)} {m : Nat} (h : Rz Lz) (hb : ∀ p ∈ Lz, p.2 < m) (vs : List Th) : Rz (Lz ++ vs.zipIdx m) ∧ ∀ p ∈ Lz ++ vs.zipIdx m, p.2 < m + vs.length := by
  refine ⟨List.pairwise_append.2 ⟨h, ?_, fun a ha b hb2 => ?_⟩, fun p hp => ?_⟩
  · rw [List.pairwise_iff_getElem]
    intro i j hi hj hij
    simp [List.getElem_zipIdx]; omega
  · have h1 := hb a ha
    have h2 := (List.mem_zipIdx hb2).1
    omega
  · rcases List.mem_append.1 hp with hp | hp
    · have := hb p hp; omega
    · have := (List.mem_zipIdx hp).2.1; omega
theorem fs_push (Lz : List (Th × Nat)) (vs : List Th) (m : Nat) : fs (Lz ++ vs.zipIdx m) = fs Lz ++ vs := by simp [fs]
/-- The heap's first is the list's first of the least. -/
theorem top_mI {its Lz : List (Th × Nat)} {made : Nat} {x : Th × Nat} (h : HInv kl its made) (p : its.Perm Lz) (hz : Rz Lz) (hx : its[0]? = some x) : Lz[mI (fs Lz)]? = some x ∧ mI (fs Lz) < Lz.length := by
  have hle := hinv_least kl_ok.ord h (head0 hx)
  obtain ⟨i, hi⟩ := List.getElem?_of_mem (p.mem_iff.1 (List.mem_of_getElem? hx))
  have hil : i < Lz.length := (List.getElem?_eq_some_iff.1 hi).1
  have he : Lz[i] = x := (List.getElem?_eq_some_iff.1 hi).2
  have key : ∀ y ∈ Lz, ¬ y.1.1 < x.1.1 ∧ (y.2 < x.2 → x.1.1 < y.1.1) := fun y hy => by
    have := hle y (p.mem_iff.2 hy)
    simp only [ltI, kl, Bool.or_eq_false_iff, Bool.and_eq_false_iff, Bool.not_eq_false', decide_eq_false_iff_not, decide_eq_true_eq] at this
    omega
  have hm : mI (fs Lz) = i := by
    unfold mI
    rw [List.findIdx_eq (by simpa [fs] using hil)]
    refine ⟨?_, fun j hj => ?_⟩
    · rw [List.all_eq_true]
      intro y hy
      obtain ⟨z, hz1, rfl⟩ := List.mem_map.1 hy
      have := (key z hz1).1
      simp [fs, he]; omega
    · have hjl : j < Lz.length := by omega
      have h1 : Lz[j].2 < x.2 := by
        have := List.pairwise_iff_getElem.1 hz j i hjl hil hj
        rw [he] at this; exact this
      have h2 := (key _ (List.getElem_mem hjl)).2 h1
      have hjf : j < (fs Lz).length := by simpa [fs] using hjl
      cases ha : ((fs Lz).all fun y => decide (((fs Lz)[j]'hjf).1 ≤ y.1)) with
      | false => rfl
      | true =>
        have := List.all_eq_true.1 ha x.1 (List.mem_map.2 ⟨x, List.mem_of_getElem? hi, rfl⟩)
        simp [fs] at this; omega
  rw [hm]; exact ⟨hi, hil⟩
theorem pk_pkL {its Lz : List (Th × Nat)} {made : Nat} (h : HInv kl its made) (p : its.Perm Lz) (hz : Rz Lz) : pk its = pkL (fs Lz) := by
  cases its with
  | nil => obtain rfl := List.Perm.nil_eq p; rfl
  | cons x l =>
    obtain ⟨h1, -⟩ := top_mI h p hz (x := x) rfl
    rw [pk_some (x := x) rfl, pkL]
    have : (fs Lz)[mI (fs Lz)]? = some x.1 := by rw [fs, List.getElem?_map]; rw [fs] at h1; rw [h1]; rfl
    rw [this]
theorem zpop_perm {its Lz l : List (Th × Nat)} {made : Nat} (h : HInv kl its made) (p : its.Perm Lz) (hz : Rz Lz) (h1 : ∀ x, its.head? = some x → (x :: l).Perm its) (h2 : its = [] → l = []) : l.Perm (Lz.eraseIdx (mI (fs Lz))) := by
  cases its with
  | nil => rw [h2 rfl, ← List.Perm.nil_eq p]; exact List.Perm.refl _
  | cons x r =>
    obtain ⟨h3, -⟩ := top_mI h p hz (x := x) rfl
    have h4 := (h1 x rfl).trans p
    exact (h4.trans (perm_erase Lz _ x h3).symm).cons_inv
/-- A heap that holds what the list has. -/
def hpz (b : Nat) (Lz : List (Th × Nat)) (made M : Nat) : HProp := fun h => ∃ its, (HInv kl its M ∧ its.Perm Lz) ∧ hp b 0 (lf 10 [] []) its made h
theorem hpz_of {Γ : List HProp} {b : Nat} {its Lz : List (Th × Nat)} {made M : Nat} {h : Hp} (hI : HInv kl its M) (p : its.Perm Lz) (s : Sat (hp b 0 (lf 10 [] []) its made :: Γ) h) : Sat (hpz b Lz made M :: Γ) h := s.head_mono fun _ a => ⟨its, ⟨hI, p⟩, a⟩
theorem popM_spec {lt : Th → Th → Bool} {lk : FuncId} {fi ca : List Value} (h : LessOk lt lk fi ca) (b o : Nat) (its : List (Th × Nat)) (made M : Nat) (hI : HInv lt its M) (hb : its.length ≤ 4000000000000) : Spec Try.prog 12 [.pointer (some ⟨b, o, none⟩)] [hp b o (lf lk fi ca) its made] (fun (_ : List (Th × Nat)) => .tuple #[vT (pk its).1, .bool (pk its).2]) (fun l => HInv lt l M ∧ (∀ x, its.head? = some x → (x :: l).Perm its) ∧ (its = [] → l = [])) (fun l => [hp b o (lf lk fi ca) l made]) := by
  refine spec_mk (n := 50) Try.func12 rfl rfl rfl ?_
  intro Γ w0
  simp only [argE, List.cons_append, List.nil_append, Nat.zero_add, Nat.reduceAdd]
  refine c_seq ?_
  refine c_plain ((.l 0 [] (.q 1 (.done)))) (by kernel_rfl) ?_
  refine l_alloc rfl rfl rfl Try.zeroValue28 (zs := [.int .i64 0, .int .i64 0]) rfl ?_
  intro vb2
  refine ag_nil ?_
  refine q_assign rfl rfl rfl rfl ?_
  refine r_done ?_
  refine k_then_n ?_
  refine c_seq ?_
  refine c_plain (.q 0 ((.l 1 [] (.q 2 (.q 3 (.q 4 ((.l 5 [] ((.l 6 [] (.q 7 (.done)))))))))))) (by kernel_rfl) ?_
  refine q_move rfl rfl rfl rfl ?_
  refine l_call rfl rfl rfl rfl rfl rfl Try.call35 (peek_spec _ _ _ _) (by (repeat (with_reducible apply Takes.cons; focus (with_reducible (repeat (first | exact Take.here | apply Take.there))))); exact Takes.nil) ?_
  rintro ⟨⟩ -
  try simp only [List.cons_append, List.nil_append]
  refine ag_nil ?_
  refine q_move rfl rfl rfl rfl ?_
  refine q_extract rfl rfl rfl rfl rfl ?_
  refine q_extract rfl rfl rfl rfl rfl ?_
  refine l_alloc rfl rfl rfl Try.zeroValue28 (zs := [.int .i64 0, .int .i64 0]) rfl ?_
  intro vb4
  refine ag_nil ?_
  refine l_store rfl rfl rfl rfl Try.sizeOf28 (us := [_, _]) rfl rfl rfl (by with_reducible (repeat (first | exact Take.here | apply Take.there))) (by first | rfl | exact (Nat.add_zero _).symm) (by first | decide | (simp; done) | omega) ?_
  simp only [setL, List.set]
  refine ag_nil ?_
  refine q_assign rfl rfl rfl rfl ?_
  refine r_done ?_
  refine s_keep [0, 2, 4, 5] (e' := [(0, _), (2, _), (4, _), (5, _)]) rfl ?_
  refine k_then_n ?_
  refine c_seq ?_
  refine c_seq ?_
  refine c_plain (.q 0 (.done)) (by kernel_rfl) ?_
  refine q_move rfl rfl rfl rfl ?_
  refine r_done ?_
  refine s_know (p := its.length ≤ 4000000000000) (fun _ _ => hb) fun _ => ?_
  refine k_then_n ?_
  refine c_cond rfl (fun hk => ?_) (fun hk => ?_)
  · skip
    obtain ⟨n, hn⟩ : ∃ n, its.length = n + 1 := by
      cases its with
      | nil => cases hk
      | cons a l => exact ⟨l.length, rfl⟩
    obtain ⟨x, hx⟩ := get_lt (l := its) (i := 0) (by omega)
    obtain ⟨z, hz⟩ := get_lt (l := its) (i := n) (by omega)
    refine s_take (A := hp b o (lf lk fi ca) its made) (by with_reducible (repeat (first | exact Take.here | apply Take.there))) ?_
    refine hp_open fun ao cap => ?_
    refine own_some (by with_reducible (repeat (first | exact Take.here | apply Take.there))) hx fun ib io hao hil hcap => ?_
    subst hao
    refine c_seq ?_
    refine c_plain (.q 0 (.q 1 (.q 2 (.q 3 (.q 4 (.q 5 (.q 6 (.done)))))))) (by kernel_rfl) ?_
    refine q_move rfl rfl rfl rfl ?_
    refine q_nil_p rfl rfl rfl rfl ?_
    refine q_field (k := 1) rfl rfl rfl rfl Try.underlying71 rfl Try.sizeOf68 rfl ?_
    refine q_load_c rfl rfl rfl rfl Try.isAgg68 (by with_reducible (repeat (first | exact Take.here | apply Take.there))) (by first | rfl | exact (Nat.add_zero _).symm) (by rfl) ?_
    refine q_len rfl rfl rfl rfl Try.underlying68 ?_
    refine q_int rfl rfl rfl rfl rfl (b_sub' _ (by (first | exact fits_i64 (by omega) (by omega) | exact fits_u64 (by omega) (by omega) | exact fits_u32 (by omega) (by omega) | exact fits_u8 (by omega) (by omega)))) ?_
    refine s_eq 18 rfl (v' := .int .i64 (n : Int)) (by congr 1; omega) ?_
    refine q_assign rfl rfl rfl rfl ?_
    refine r_done ?_
    refine s_keep [0, 2, 4, 5, 6] (e' := [(0, _), (2, _), (4, _), (5, _), (6, _)]) rfl ?_
    refine k_then_n ?_
    refine c_seq ?_
    refine c_draw rfl (.q 0 (.q 1 (.q 2 (.q 3 (.q 4 (.q 5 (.q 6 (.q 7 (.q 8 (.q 9 (.q 10 (.q 11 ((.l 12 [] (.done))))))))))))))) (by kernel_rfl) ?_
    refine q_move rfl rfl rfl rfl ?_
    refine q_nil_p rfl rfl rfl rfl ?_
    refine q_field (k := 1) rfl rfl rfl rfl Try.underlying71 rfl Try.sizeOf68 rfl ?_
    refine q_load_c rfl rfl rfl rfl Try.isAgg68 (by with_reducible (repeat (first | exact Take.here | apply Take.there))) (by first | rfl | exact (Nat.add_zero _).symm) (by rfl) ?_
    refine q_move rfl rfl rfl rfl ?_
    refine q_nil_p rfl rfl rfl rfl ?_
    refine q_field (k := 1) rfl rfl rfl rfl Try.underlying71 rfl Try.sizeOf68 rfl ?_
    refine q_load_c rfl rfl rfl rfl Try.isAgg68 (by with_reducible (repeat (first | exact Take.here | apply Take.there))) (by first | rfl | exact (Nat.add_zero _).symm) (by rfl) ?_
    refine q_move rfl rfl rfl rfl ?_
    refine q_idx rfl rfl rfl rfl rfl Try.underlying68 Try.sizeOf74 (k := n) (by first | rfl | omega) (by omega) (by exact ⟨_, _, rfl⟩) ?_
    intro ib3 io4 hx; cases hx
    refine q_loadN_o rfl rfl rfl rfl Try.isAgg74 Try.sizeOf74 (by with_reducible (repeat (first | exact Take.here | apply Take.there))) (encI_len) (by first | rfl | exact (Nat.add_zero _).symm) (by exact hz) (vs := [_, _, _]) (by rfl) ?_
    refine q_idx rfl rfl rfl rfl rfl Try.underlying68 Try.sizeOf74 (k := 0) (by first | rfl | omega) (by omega) (by exact ⟨_, _, rfl⟩) ?_
    intro ib5 io6 hx; cases hx
    refine l_storeO rfl rfl rfl rfl Try.sizeOf74 (us := [_, _, _]) rfl rfl rfl (encI_len) (by with_reducible (repeat (first | exact Take.here | apply Take.there))) (j := 0) (by first | rfl | exact (Nat.add_zero _).symm) (by exact hx) (by first | decide | exact Nat.le_of_ble_eq_true rfl) (q := z) (by rfl) (k := 0) ?_
    refine ag_nil ?_
    refine r_done ?_
    refine s_keep [0, 2, 4, 5, 6] (e' := [(0, _), (2, _), (4, _), (5, _), (6, _)]) rfl ?_
    refine k_then_n ?_
    refine c_seq ?_
    refine c_plain (.q 0 (.q 1 (.q 2 (.q 3 (.q 4 (.q 5 ((.l 6 [] (.done))))))))) (by kernel_rfl) ?_
    refine q_move rfl rfl rfl rfl ?_
    refine q_nil_p rfl rfl rfl rfl ?_
    refine q_field (k := 1) rfl rfl rfl rfl Try.underlying71 rfl Try.sizeOf68 rfl ?_
    refine q_load_c rfl rfl rfl rfl Try.isAgg68 (by with_reducible (repeat (first | exact Take.here | apply Take.there))) (by first | rfl | exact (Nat.add_zero _).symm) (by rfl) ?_
    refine q_move rfl rfl rfl rfl ?_
    refine q_cut_lo rfl rfl rfl rfl rfl Try.underlying68 Try.sizeOf74 (h := n) (by rfl) (by omega) (by omega) ?_
    refine l_clear ((((0, 0), 0) : Th × Nat)) rfl rfl rfl (by rfl) (by rfl) Try.underlying68 Try.zeroValue74 (by rfl) (encI_len) (by rfl) (by with_reducible (repeat (first | exact Take.here | apply Take.there))) (by rw [List.length_set]) (by omega) ?_
    refine ag_nil ?_
    refine r_done ?_
    refine s_keep [0, 2, 4, 5, 6] (e' := [(0, _), (2, _), (4, _), (5, _), (6, _)]) rfl ?_
    refine k_then_n ?_
    refine c_seq ?_
    refine c_plain (.q 0 (.q 1 (.q 2 (.q 3 (.q 4 (.q 5 (.q 6 (.q 7 (.q 8 ((.l 9 [] (.done)))))))))))) (by kernel_rfl) ?_
    refine q_move rfl rfl rfl rfl ?_
    refine q_move rfl rfl rfl rfl ?_
    refine q_nil_p rfl rfl rfl rfl ?_
    refine q_field (k := 1) rfl rfl rfl rfl Try.underlying71 rfl Try.sizeOf68 rfl ?_
    refine q_load_c rfl rfl rfl rfl Try.isAgg68 (by with_reducible (repeat (first | exact Take.here | apply Take.there))) (by first | rfl | exact (Nat.add_zero _).symm) (by rfl) ?_
    refine q_move rfl rfl rfl rfl ?_
    refine q_cut_hi rfl rfl rfl rfl rfl Try.underlying68 Try.sizeOf74 (h' := n) (by rfl) (by omega) ?_
    refine q_nil_p rfl rfl rfl rfl ?_
    refine q_field (k := 1) rfl rfl rfl rfl Try.underlying71 rfl Try.sizeOf68 rfl ?_
    refine l_store rfl rfl rfl rfl Try.sizeOf68 (us := [_]) rfl rfl rfl (by with_reducible (repeat (first | exact Take.here | apply Take.there))) (by first | rfl | exact (Nat.add_zero _).symm) (by first | decide | (simp; done) | omega) ?_
    simp only [setL, List.set]
    refine ag_nil ?_
    refine r_done ?_
    refine s_take (A := own 3 encI (some ⟨ib, io, none⟩) cap _) (by with_reducible (repeat (first | exact Take.here | apply Take.there))) ?_
    refine s_heap (fun _ h => own_take encI_len n h) ?_
    rw [List.take_append_of_le_length (by rw [List.length_take, List.length_set]; omega), List.take_take, Nat.min_self]
    refine hp_fold (b := b) (o := o) (lf := lf lk fi ca) (its := ((its.set 0 z).take n)) (made := made) (by (repeat (with_reducible apply Takes.cons; focus (with_reducible (repeat (first | exact Take.here | apply Take.there))))); exact Takes.nil) (by rw [List.length_take, List.length_set]; omega) ?_
    refine s_keep [0, 2, 4, 5] (e' := [(0, _), (2, _), (4, _), (5, _)]) rfl ?_
    refine k_then_n ?_
    refine c_plain (.q 0 ((.l 1 [] (.done)))) (by kernel_rfl) ?_
    refine q_move rfl rfl rfl rfl ?_
    refine l_call rfl rfl rfl rfl rfl rfl Try.call36 (sink_spec h _ _ ((its.set 0 z).take n) _ (ho_dn_start hI.ho hn) (by rw [List.length_take, List.length_set]; omega)) (by (repeat (with_reducible apply Takes.cons; focus (with_reducible (repeat (first | exact Take.here | apply Take.there))))); exact Takes.nil) ?_
    rintro l ⟨hl1, hl2⟩
    try simp only [List.cons_append, List.nil_append]
    refine ag_nil ?_
    refine r_done ?_
    refine k_then_n ?_
    refine c_seq ?_
    refine c_plain (.q 0 (.q 1 ((.l 2 [] (.q 3 (.done)))))) (by kernel_rfl) ?_
    refine q_loadN_c rfl rfl rfl rfl Try.isAgg28 Try.sizeOf28 (by with_reducible (repeat (first | exact Take.here | apply Take.there))) 0 (us := [_, _]) (by first | rfl | exact (Nat.add_zero _).symm) rfl rfl ?_
    refine q_move rfl rfl rfl rfl ?_
    refine l_store rfl rfl rfl rfl Try.sizeOf28 (us := [_, _]) rfl rfl rfl (by with_reducible (repeat (first | exact Take.here | apply Take.there))) (by first | rfl | exact (Nat.add_zero _).symm) (by first | decide | (simp; done) | omega) ?_
    simp only [setL, List.set]
    refine ag_nil ?_
    refine q_assign rfl rfl rfl rfl ?_
    refine r_done ?_
    refine s_keep [2, 3] (e' := [(2, _), (3, _)]) rfl ?_
    refine k_then_n ?_
    refine c_ret ?_
    refine retL (us := [_, _]) rfl ⟨rv_cellN rfl Try.isAgg28 Try.sizeOf28 (by with_reducible (repeat (first | exact Take.here | apply Take.there))) 0 rfl (us := [_, _]) rfl rfl, rv_tmp rfl, trivial⟩ (l) (by rfl) (by have hp := (List.Perm.cons x hl2).trans (pop_perm hx hn hz); exact ⟨hinv_pop hI hl1 hp, fun y hy => (by rw [List.head?_eq_getElem?, hx] at hy; cases hy; exact hp), fun e => (by rw [e] at hn; cases hn)⟩) ?_
    (repeat (with_reducible apply Takes.cons; focus (with_reducible (repeat (first | exact Take.here | apply Take.there))))); (repeat (first | exact Takes.nil | exact Takes.self | refine takes_drop2 ?_))
  · skip
    obtain rfl : its = [] := by
      cases its with
      | nil => rfl
      | cons a l => cases hk
    refine c_skip ?_
    refine k_then_n ?_
    refine c_seq ?_
    refine c_plain (.q 0 (.q 1 ((.l 2 [] (.q 3 (.done)))))) (by kernel_rfl) ?_
    refine q_loadN_c rfl rfl rfl rfl Try.isAgg28 Try.sizeOf28 (by with_reducible (repeat (first | exact Take.here | apply Take.there))) 0 (us := [_, _]) (by first | rfl | exact (Nat.add_zero _).symm) rfl rfl ?_
    refine q_move rfl rfl rfl rfl ?_
    refine l_store rfl rfl rfl rfl Try.sizeOf28 (us := [_, _]) rfl rfl rfl (by with_reducible (repeat (first | exact Take.here | apply Take.there))) (by first | rfl | exact (Nat.add_zero _).symm) (by first | decide | (simp; done) | omega) ?_
    simp only [setL, List.set]
    refine ag_nil ?_
    refine q_assign rfl rfl rfl rfl ?_
    refine r_done ?_
    refine s_keep [2, 3] (e' := [(2, _), (3, _)]) rfl ?_
    refine k_then_n ?_
    refine c_ret ?_
    refine retL (us := [_, _]) rfl ⟨rv_cellN rfl Try.isAgg28 Try.sizeOf28 (by with_reducible (repeat (first | exact Take.here | apply Take.there))) 0 rfl (us := [_, _]) rfl rfl, rv_tmp rfl, trivial⟩ ([]) (by rfl) (by exact ⟨hI, fun y hy => (by cases hy), fun _ => rfl⟩) ?_
    (repeat (with_reducible apply Takes.cons; focus (with_reducible (repeat (first | exact Take.here | apply Take.there))))); (repeat (first | exact Takes.nil | exact Takes.self | refine takes_drop2 ?_))
theorem zpop_spec (b : Nat) (Lz : List (Th × Nat)) (made M : Nat) (hz : Rz Lz) (hb : Lz.length ≤ 4000000000000) : Spec Try.prog 12 [.pointer (some ⟨b, 0, none⟩)] [hpz b Lz made M] (fun (_ : Unit) => .tuple #[vT (pkL (fs Lz)).1, .bool (pkL (fs Lz)).2]) (fun _ => True) (fun _ => [hpz b (Lz.eraseIdx (mI (fs Lz))) made M]) := by
  intro Γ w s
  obtain ⟨its, s⟩ := s.ex
  obtain ⟨⟨hI, hp⟩, s⟩ := s.pure_and
  refine (popM_spec kl_ok b 0 its made M hI (by rw [hp.length_eq]; exact hb) Γ w s).mono ?_
  rintro e w' ⟨l, rfl, ⟨h1, h2, h3⟩, s', am⟩
  exact ⟨(), by rw [pk_pkL hI hp hz], trivial, hpz_of h1 (zpop_perm hI hp hz h2 h3) s', am⟩
theorem zpeek_spec (b : Nat) (Lz : List (Th × Nat)) (made M : Nat) (hz : Rz Lz) : Spec Try.prog 35 [.pointer (some ⟨b, 0, none⟩)] [hpz b Lz made M] (fun (_ : Unit) => .tuple #[vT (pkL (fs Lz)).1, .bool (pkL (fs Lz)).2]) (fun _ => True) (fun _ => [hpz b Lz made M]) := by
  intro Γ w s
  obtain ⟨its, s⟩ := s.ex
  obtain ⟨⟨hI, hp⟩, s⟩ := s.pure_and
  refine (peek_spec b 0 its made Γ w s).mono ?_
  rintro e w' ⟨l, rfl, -, s', am⟩
  exact ⟨(), by rw [pk_pkL hI hp hz], trivial, hpz_of hI hp s', am⟩
theorem zlen_spec (b : Nat) (Lz : List (Th × Nat)) (made M : Nat) : Spec Try.prog 13 [.pointer (some ⟨b, 0, none⟩)] [hpz b Lz made M] (fun (_ : Unit) => .int .i64 ((Lz.length : Nat) : Int)) (fun _ => True) (fun _ => [hpz b Lz made M]) := by
  intro Γ w s
  obtain ⟨its, s⟩ := s.ex
  obtain ⟨⟨hI, hp⟩, s⟩ := s.pure_and
  refine (len_spec b 0 its made Γ w s).mono ?_
  rintro e w' ⟨l, rfl, -, s', am⟩
  exact ⟨(), by rw [hp.length_eq], trivial, hpz_of hI hp s', am⟩
theorem zpush_spec (b : Nat) (Lz : List (Th × Nat)) (made : Nat) (vs : List Th) (bo : Option Addr) (m c : Nat) (A : HProp) (hr : RdS A bo (vs.flatMap encT)) (hm : vs.length = m) (hb : Lz.length + m ≤ 4000000000000) (hb2 : made + m ≤ 4000000000000) :
    Spec Try.prog 11 [.pointer (some ⟨b, 0, none⟩), .slice bo m c] [hpz b Lz made made, A] (fun (_ : Unit) => .int .i64 0) (fun _ => True) (fun _ => [hpz b (Lz ++ vs.zipIdx made) (made + m) (made + m), A]) := by
  intro Γ w s
  obtain ⟨its, s⟩ := s.ex
  obtain ⟨⟨hI, hp⟩, s⟩ := s.pure_and
  refine (push_spec kl_ok b 0 its made vs bo m c A hr hm hI (by rw [hp.length_eq]; exact hb) hb2 Γ w s).mono ?_
  rintro e w' ⟨l, rfl, ⟨h1, h2⟩, s', am⟩
  exact ⟨(), rfl, trivial, hpz_of h1 (h2.trans (List.Perm.append_right _ hp)) s', am⟩
theorem znew_spec : Spec Try.prog 9 [lf 10 [] []] [] (fun b => .tuple #[.pointer (some ⟨b, 0, none⟩), .int .i64 0]) (fun _ => True) (fun b => [hpz b [] 0 0]) := by
  intro Γ w s
  refine (new_spec (lk := 10) (fi := []) (ca := []) Γ w s).mono ?_
  rintro e w' ⟨l, rfl, -, s', am⟩
  exact ⟨l, rfl, trivial, hpz_of hinv0 (List.Perm.refl _) s', am⟩
/-- The document's heap. -/
def rh (q : Nat) (L : List Th) : HProp := fun h => ∃ ao cap, Sat [cells q 0 [.slice ao L.length cap], own 2 encT ao cap L] h
section
variable {w0 : World} {ds : List Deferred} {n : Nat} {e : Env} {Γ : List HProp} {X : Act → World → Prop}
theorem rh_open {q : Nat} {L : List Th} (k : ∀ ao cap, Le (St w0 ds n e (cells q 0 [.slice ao L.length cap] :: own 2 encT ao cap L :: Γ)) X) : Le (St w0 ds n e (rh q L :: Γ)) X := fun a w s => by
  obtain ⟨h1, l1, ⟨ao, cap, a1⟩, s1⟩ := s.heap
  exact k ao cap a w ⟨s.defers, s.size, s.env, Bun.unfold ⟨h1, l1, a1, s1⟩, s.amb⟩
theorem rh_fold {Γ' : List HProp} {q m : Nat} (L : List Th) {ao : Option Addr} {cap : Nat} (tk : Takes Γ [cells q 0 [.slice ao m cap], own 2 encT ao cap L] Γ') (hm : m = L.length) (k : Le (St w0 ds n e (rh q L :: Γ')) X) : Le (St w0 ds n e Γ) X := s_heap (fun h s => by
  subst hm
  obtain ⟨h1, l1, a1, s1⟩ := Bun.fold (tk h s)
  exact ⟨h1, l1, ⟨ao, cap, a1⟩, s1⟩) k
end
theorem wo_m (l : List Th) : wo l (-1) = l := by rw [wo, if_neg (by decide)]
theorem wo_at (l : List Th) (i : Nat) : wo l (i : Int) = l.eraseIdx i := by rw [wo, if_pos (by omega), Int.toNat_natCast]
theorem pkL_at {l : List Th} {x : Th} (h : l[mI l]? = some x) : pkL l = (x, true) := by rw [pkL, h]
theorem pkL_nil : pkL [] = ((0, 0), false) := rfl
theorem rpush_spec (q : Nat) (L : List Th) (v1 v2 : Int) (hb : L.length ≤ 1000000000000) : Spec Try.prog 49 [.pointer (some ⟨q, 0, none⟩), .agg #[.int .i64 v1, .int .i64 v2]] [rh q L] (fun (_ : Unit) => .tuple #[]) (fun _ => True) (fun _ => [rh q (L ++ [(v1, v2)])]) := by
  refine spec_mk (n := 15) Try.func49 rfl rfl rfl ?_
  intro Γ w0
  simp only [argE, List.cons_append, List.nil_append, Nat.zero_add, Nat.reduceAdd]
  refine c_seq ?_
  refine c_plain ((.l 0 [] (.done))) (by kernel_rfl) ?_
  refine l_box rfl rfl rfl rfl (us := [_, _]) rfl ?_
  intro b3
  refine ag_nil ?_
  refine r_done ?_
  refine k_then_n ?_
  refine s_take (A := rh q L) (by with_reducible (repeat (first | exact Take.here | apply Take.there))) ?_
  refine rh_open fun ra rc => ?_
  refine s_take (A := own 2 encT ra rc L) (by with_reducible (repeat (first | exact Take.here | apply Take.there))) ?_
  refine own_fc fun ro1 ro2 ro3 => ?_
  refine c_draw rfl (.q 0 (.q 1 (.q 2 (.q 3 (.q 4 (.q 6 ((.alt (.l 5 [6] ((.l 7 [] ((.l 8 [] (.q 9 (.q 10 ((.l 11 [] (.done)))))))))) (.l 7 [4] ((.l 5 [] ((.l 8 [] (.q 9 (.q 10 ((.l 11 [] (.done)))))))))))))))))) (by kernel_rfl) ?_
  refine q_move rfl rfl rfl rfl ?_
  refine q_move rfl rfl rfl rfl ?_
  refine q_nil_p rfl rfl rfl rfl ?_
  refine q_field (k := 0) rfl rfl rfl rfl Try.underlying51 rfl Try.sizeOf49 rfl ?_
  refine q_load_c (j := 0) rfl rfl rfl rfl Try.isAgg49 (by with_reducible (repeat (first | exact Take.here | apply Take.there))) (by first | rfl | exact (Nat.add_zero _).symm) (by rfl) ?_
  refine q_loadN_c rfl rfl rfl rfl Try.isAgg28 Try.sizeOf28 (by with_reducible (repeat (first | exact Take.here | apply Take.there))) 0 (us := [_, _]) (by first | rfl | exact (Nat.add_zero _).symm) rfl rfl ?_
  refine r_alt ?_ ?_
  · skip
    have sp_1 := without_spec L (-1) ra L.length rc (own 2 encT ra rc L) rfl (rds_own encT_len (fun h => (ro2 h).1) ro3) (by omega)
    refine l_call rfl rfl rfl rfl rfl rfl Try.call46 (sp_1) (by (repeat ((with_reducible apply Takes.cons); focus (first | (with_reducible (repeat (first | exact Take.here | apply Take.there)); done) | (repeat (first | exact Take.here | apply Take.there))))); exact Takes.nil) ?_
    rintro ⟨wa, wc⟩ -
    try simp only [List.cons_append, List.nil_append]
    refine ag_loadN_c rfl rfl (us := [_, _]) rfl Try.isAgg28 Try.sizeOf28 (by with_reducible (repeat (first | exact Take.here | apply Take.there))) 0 (by first | rfl | exact (Nat.add_zero _).symm) rfl rfl ?_
    refine ag_nil ?_
    rw [wo_m L]
    refine s_eq 9 rfl (v' := .slice wa L.length wc) (by rfl) ?_
    refine l_buildSlice rfl rfl rfl rfl (run_build1 (us := [_, _]) Try.underlying49 Try.sizeOf28 rfl Try.zeroValue28 rfl rfl rfl) ?_
    intro b11
    refine ag_nil ?_
    refine l_append (sz := 2) (enc := encT) (xs := L) rfl rfl rfl rfl rfl Try.underlying49 Try.typeInfo28 rfl rfl rfl (by decide) (by with_reducible (repeat (first | exact Take.here | apply Take.there))) (by with_reducible (repeat (first | exact Take.here | apply Take.there))) (by first | rfl | omega | (simp; done) | (simp; omega)) (ys := [(v1, v2)]) (rds_some rdn_cells) (by rfl) (by first | rfl | omega) (encT_len) (encT_one) (by omega) (by show _ * 16 ≤ _; omega) ?_
    intro ao12 cp12
    refine ag_nil ?_
    refine q_nil_p rfl rfl rfl rfl ?_
    refine q_field (k := 0) rfl rfl rfl rfl Try.underlying51 rfl Try.sizeOf49 rfl ?_
    refine l_store (j := 0) rfl rfl rfl rfl Try.sizeOf49 (us := [_]) rfl rfl rfl (by with_reducible (repeat (first | exact Take.here | apply Take.there))) (by first | rfl | exact (Nat.add_zero _).symm) (by first | decide | (simp; done) | omega) ?_
    simp only [setL, List.set]
    refine ag_nil ?_
    refine r_done ?_
    refine s_keep [] (e' := []) rfl ?_
    refine ret_end ?_
    refine rh_fold (q := q) (L ++ [(v1, v2)]) (ao := ao12) (cap := cp12) (by (repeat ((with_reducible apply Takes.cons); focus (first | (with_reducible (repeat (first | exact Take.here | apply Take.there)); done) | (repeat (first | exact Take.here | apply Take.there))))); exact Takes.nil) (by simp) ?_
    refine ret0 rfl (()) (by first | rfl | (first | rfl | (congr 1; done) | (congr 1 <;> first | rfl | omega | (simp; done) | (simp; omega)))) (by trivial) ?_
    (repeat ((with_reducible apply Takes.cons); focus (first | (with_reducible (repeat (first | exact Take.here | apply Take.there)); done) | (repeat (first | exact Take.here | apply Take.there))))); (repeat (first | exact Takes.nil | exact Takes.self | refine takes_drop2 ?_))
  refine l_buildSlice rfl rfl rfl rfl (run_build1 (us := [_, _]) Try.underlying49 Try.sizeOf28 rfl Try.zeroValue28 rfl rfl rfl) ?_
  intro b11
  refine ag_load_c (q := 0) rfl rfl rfl Try.isAgg49 (by with_reducible (repeat (first | exact Take.here | apply Take.there))) (by first | rfl | exact (Nat.add_zero _).symm) (by rfl) ?_
  refine ag_nil ?_
  have sp_2 := without_spec L (-1) ra L.length rc (own 2 encT ra rc L) rfl (rds_own encT_len (fun h => (ro2 h).1) ro3) (by omega)
  refine l_call rfl rfl rfl rfl rfl rfl Try.call46 (sp_2) (by (repeat ((with_reducible apply Takes.cons); focus (first | (with_reducible (repeat (first | exact Take.here | apply Take.there)); done) | (repeat (first | exact Take.here | apply Take.there))))); exact Takes.nil) ?_
  rintro ⟨wa, wc⟩ -
  try simp only [List.cons_append, List.nil_append]
  refine ag_nil ?_
  rw [wo_m L]
  refine s_eq 9 rfl (v' := .slice wa L.length wc) (by rfl) ?_
  refine l_append (sz := 2) (enc := encT) (xs := L) rfl rfl rfl rfl rfl Try.underlying49 Try.typeInfo28 rfl rfl rfl (by decide) (by with_reducible (repeat (first | exact Take.here | apply Take.there))) (by with_reducible (repeat (first | exact Take.here | apply Take.there))) (by first | rfl | omega | (simp; done) | (simp; omega)) (ys := [(v1, v2)]) (rds_some rdn_cells) (by rfl) (by first | rfl | omega) (encT_len) (encT_one) (by omega) (by show _ * 16 ≤ _; omega) ?_
  intro ao12 cp12
  refine ag_nil ?_
  refine q_nil_p rfl rfl rfl rfl ?_
  refine q_field (k := 0) rfl rfl rfl rfl Try.underlying51 rfl Try.sizeOf49 rfl ?_
  refine l_store (j := 0) rfl rfl rfl rfl Try.sizeOf49 (us := [_]) rfl rfl rfl (by with_reducible (repeat (first | exact Take.here | apply Take.there))) (by first | rfl | exact (Nat.add_zero _).symm) (by first | decide | (simp; done) | omega) ?_
  simp only [setL, List.set]
  refine ag_nil ?_
  refine r_done ?_
  refine s_keep [] (e' := []) rfl ?_
  refine ret_end ?_
  refine rh_fold (q := q) (L ++ [(v1, v2)]) (ao := ao12) (cap := cp12) (by (repeat ((with_reducible apply Takes.cons); focus (first | (with_reducible (repeat (first | exact Take.here | apply Take.there)); done) | (repeat (first | exact Take.here | apply Take.there))))); exact Takes.nil) (by simp) ?_
  refine ret0 rfl (()) (by first | rfl | (first | rfl | (congr 1; done) | (congr 1 <;> first | rfl | omega | (simp; done) | (simp; omega)))) (by trivial) ?_
  (repeat ((with_reducible apply Takes.cons); focus (first | (with_reducible (repeat (first | exact Take.here | apply Take.there)); done) | (repeat (first | exact Take.here | apply Take.there))))); (repeat (first | exact Takes.nil | exact Takes.self | refine takes_drop2 ?_))

theorem rpeek_spec (q : Nat) (L : List Th) (hb : L.length ≤ 1000000000000) : Spec Try.prog 42 [.pointer (some ⟨q, 0, none⟩)] [rh q L] (fun (_ : Unit) => .tuple #[vT (pkL L).1, .bool (pkL L).2]) (fun _ => True) (fun _ => [rh q L]) := by
  refine spec_mk (n := 20) Try.func42 rfl rfl rfl ?_
  intro Γ w0
  simp only [argE, List.cons_append, List.nil_append, Nat.zero_add, Nat.reduceAdd]
  refine c_seq ?_
  refine c_plain ((.l 0 [] (.q 1 (.done)))) (by kernel_rfl) ?_
  refine l_alloc rfl rfl rfl Try.zeroValue28 (zs := [.int .i64 0, .int .i64 0]) rfl ?_
  intro b2
  refine ag_nil ?_
  refine q_assign rfl rfl rfl rfl ?_
  refine r_done ?_
  refine k_then_n ?_
  refine c_seq ?_
  refine s_take (A := rh q L) (by with_reducible (repeat (first | exact Take.here | apply Take.there))) ?_
  refine rh_open fun ra rc => ?_
  refine s_take (A := own 2 encT ra rc L) (by with_reducible (repeat (first | exact Take.here | apply Take.there))) ?_
  refine own_fc fun ro1 ro2 ro3 => ?_
  refine c_plain (.q 0 (.q 1 (.q 2 (.q 3 ((.l 4 [] (.q 5 (.done)))))))) (by kernel_rfl) ?_
  refine q_move rfl rfl rfl rfl ?_
  refine q_nil_p rfl rfl rfl rfl ?_
  refine q_field (k := 0) rfl rfl rfl rfl Try.underlying51 rfl Try.sizeOf49 rfl ?_
  refine q_load_c (j := 0) rfl rfl rfl rfl Try.isAgg49 (by with_reducible (repeat (first | exact Take.here | apply Take.there))) (by first | rfl | exact (Nat.add_zero _).symm) (by rfl) ?_
  have sp_1 := first_spec L ra L.length rc (own 2 encT ra rc L) rfl (rds_own encT_len (fun h => (ro2 h).1) ro3) (by omega)
  refine l_call rfl rfl rfl rfl rfl rfl Try.call47 (sp_1) (by (repeat ((with_reducible apply Takes.cons); focus (first | (with_reducible (repeat (first | exact Take.here | apply Take.there)); done) | (repeat (first | exact Take.here | apply Take.there))))); exact Takes.nil) ?_
  rintro kf hkf
  try simp only [List.cons_append, List.nil_append]
  have hkm := isfst_mI hkf
  try simp only [List.cons_append, List.nil_append]
  refine ag_nil ?_
  refine q_assign rfl rfl rfl rfl ?_
  refine r_done ?_
  refine s_keep [0, 2, 4] (e' := [(0, _), (2, _), (4, _)]) rfl ?_
  refine k_then_n ?_
  refine c_seq ?_
  refine c_seq ?_
  refine c_plain (.q 0 (.q 1 (.done))) (by kernel_rfl) ?_
  refine q_move rfl rfl rfl rfl ?_
  refine q_int rfl rfl rfl rfl rfl (b_lss _ _ _ _) ?_
  refine r_done ?_
  refine k_then_n ?_
  refine c_cond_p rfl (fun hk0 => ?_) (fun hk0 => ?_)
  · skip
    obtain ⟨rfl, hk1⟩ : L = [] ∧ kf = -1 := by rcases hkm with h | h <;> first | exact h | omega
    refine c_seq ?_
    refine c_plain (.q 0 ((.l 1 [] (.q 2 (.done))))) (by kernel_rfl) ?_
    refine q_build rfl rfl rfl rfl (vs := [_, _]) (run_buildS Try.underlying28 Try.zeroValue28 (ps := [(0, 1), (1, 1)]) ⟨rfl, Try.sizeOf3, rfl, Try.sizeOf3, trivial⟩ rfl) ?_
    refine l_store (j := 0) rfl rfl rfl rfl Try.sizeOf28 (us := [_, _]) rfl rfl rfl (by with_reducible (repeat (first | exact Take.here | apply Take.there))) (by first | rfl | exact (Nat.add_zero _).symm) (by first | decide | (simp; done) | omega) ?_
    simp only [setL, List.set]
    refine ag_nil ?_
    refine q_assign rfl rfl rfl rfl ?_
    refine r_done ?_
    refine s_keep [2, 3] (e' := [(2, _), (3, _)]) rfl ?_
    refine k_then_n ?_
    refine c_ret ?_
    refine k_then_ret ?_
    refine rh_fold (q := q) ([]) (ao := ra) (cap := rc) (by (repeat ((with_reducible apply Takes.cons); focus (first | (with_reducible (repeat (first | exact Take.here | apply Take.there)); done) | (repeat (first | exact Take.here | apply Take.there))))); exact Takes.nil) (by rfl) ?_
    refine retL (us := [_, _]) rfl ⟨rv_cellN rfl Try.isAgg28 Try.sizeOf28 (by with_reducible (repeat (first | exact Take.here | apply Take.there))) 0 rfl (us := [_, _]) rfl rfl, rv_tmp rfl, trivial⟩ (()) (by rw [pkL_nil]; rfl) (by trivial) ?_
    (repeat ((with_reducible apply Takes.cons); focus (first | (with_reducible (repeat (first | exact Take.here | apply Take.there)); done) | (repeat (first | exact Take.here | apply Take.there))))); (repeat (first | exact Takes.nil | exact Takes.self | refine takes_drop2 ?_))
  · skip
    obtain ⟨hk1, hk2⟩ : kf = ((mI L : Nat) : Int) ∧ mI L < L.length := by rcases hkm with h | h <;> first | exact h | omega
    obtain ⟨x, hx⟩ := get_lt hk2
    refine c_skip ?_
    refine k_then_n ?_
    refine c_seq ?_
    refine c_plain (.q 0 (.q 1 (.q 2 (.q 3 (.q 4 (.q 5 (.q 6 ((.l 7 [] (.q 8 (.done))))))))))) (by kernel_rfl) ?_
    refine q_move rfl rfl rfl rfl ?_
    refine q_nil_p rfl rfl rfl rfl ?_
    refine q_field (k := 0) rfl rfl rfl rfl Try.underlying51 rfl Try.sizeOf49 rfl ?_
    refine q_load_c (j := 0) rfl rfl rfl rfl Try.isAgg49 (by with_reducible (repeat (first | exact Take.here | apply Take.there))) (by first | rfl | exact (Nat.add_zero _).symm) (by rfl) ?_
    refine q_move rfl rfl rfl rfl ?_
    refine q_idxO (sz := 1) (k := mI L) (enc := encT) (xs := L) rfl rfl rfl rfl rfl Try.underlying49 Try.sizeOf28 hx (by first | rfl | omega) (by omega) (by with_reducible (repeat (first | exact Take.here | apply Take.there))) ?_
    intro ib18 io18 ha18 hl18 hc18
    refine q_loadN_O (j := 0) (k' := mI L) (us := [_, _]) (enc := encT) (off := io18) rfl rfl rfl rfl Try.isAgg28 Try.sizeOf28 ha18 encT_len hx (by with_reducible (repeat (first | exact Take.here | apply Take.there))) (by first | rfl | exact (Nat.add_zero _).symm | omega) (by rfl) rfl ?_
    refine l_store (j := 0) rfl rfl rfl rfl Try.sizeOf28 (us := [_, _]) rfl rfl rfl (by with_reducible (repeat (first | exact Take.here | apply Take.there))) (by first | rfl | exact (Nat.add_zero _).symm) (by first | decide | (simp; done) | omega) ?_
    simp only [setL, List.set]
    refine ag_nil ?_
    refine q_assign rfl rfl rfl rfl ?_
    refine r_done ?_
    refine s_keep [2, 3] (e' := [(2, _), (3, _)]) rfl ?_
    refine k_then_n ?_
    refine c_ret ?_
    refine rh_fold (q := q) L (ao := ra) (cap := rc) (by (repeat ((with_reducible apply Takes.cons); focus (first | (with_reducible (repeat (first | exact Take.here | apply Take.there)); done) | (repeat (first | exact Take.here | apply Take.there))))); exact Takes.nil) (by rfl) ?_
    refine retL (us := [_, _]) rfl ⟨rv_cellN rfl Try.isAgg28 Try.sizeOf28 (by with_reducible (repeat (first | exact Take.here | apply Take.there))) 0 rfl (us := [_, _]) rfl rfl, rv_tmp rfl, trivial⟩ (()) (by rw [pkL_at hx]; rfl) (by trivial) ?_
    (repeat ((with_reducible apply Takes.cons); focus (first | (with_reducible (repeat (first | exact Take.here | apply Take.there)); done) | (repeat (first | exact Take.here | apply Take.there))))); (repeat (first | exact Takes.nil | exact Takes.self | refine takes_drop2 ?_))

theorem rpop_spec (q : Nat) (L : List Th) (hb : L.length ≤ 1000000000000) : Spec Try.prog 41 [.pointer (some ⟨q, 0, none⟩)] [rh q L] (fun (_ : Unit) => .tuple #[vT (pkL L).1, .bool (pkL L).2]) (fun _ => True) (fun _ => [rh q (L.eraseIdx (mI L))]) := by
  refine spec_mk (n := 27) Try.func41 rfl rfl rfl ?_
  intro Γ w0
  simp only [argE, List.cons_append, List.nil_append, Nat.zero_add, Nat.reduceAdd]
  refine c_seq ?_
  refine c_plain ((.l 0 [] (.q 1 (.done)))) (by kernel_rfl) ?_
  refine l_alloc rfl rfl rfl Try.zeroValue28 (zs := [.int .i64 0, .int .i64 0]) rfl ?_
  intro b2
  refine ag_nil ?_
  refine q_assign rfl rfl rfl rfl ?_
  refine r_done ?_
  refine k_then_n ?_
  refine c_seq ?_
  refine c_plain (.q 0 ((.l 1 [] (.q 2 (.q 3 (.q 4 ((.l 5 [] ((.l 6 [] (.q 7 (.done)))))))))))) (by kernel_rfl) ?_
  refine q_move rfl rfl rfl rfl ?_
  have sp_1 := rpeek_spec q L (by omega)
  refine l_call rfl rfl rfl rfl rfl rfl Try.call42 (sp_1) (by (repeat ((with_reducible apply Takes.cons); focus (first | (with_reducible (repeat (first | exact Take.here | apply Take.there)); done) | (repeat (first | exact Take.here | apply Take.there))))); exact Takes.nil) ?_
  rintro ⟨⟩ -
  try simp only [List.cons_append, List.nil_append]
  refine ag_nil ?_
  refine q_move rfl rfl rfl rfl ?_
  refine q_extract rfl rfl rfl rfl rfl ?_
  refine q_extract rfl rfl rfl rfl rfl ?_
  refine l_alloc rfl rfl rfl Try.zeroValue28 (zs := [.int .i64 0, .int .i64 0]) rfl ?_
  intro b4
  refine ag_nil ?_
  refine l_store (j := 0) rfl rfl rfl rfl Try.sizeOf28 (us := [_, _]) rfl rfl rfl (by with_reducible (repeat (first | exact Take.here | apply Take.there))) (by first | rfl | exact (Nat.add_zero _).symm) (by first | decide | (simp; done) | omega) ?_
  simp only [setL, List.set]
  refine ag_nil ?_
  refine q_assign rfl rfl rfl rfl ?_
  refine r_done ?_
  refine s_keep [0, 2, 4, 5] (e' := [(0, _), (2, _), (4, _), (5, _)]) rfl ?_
  refine k_then_n ?_
  refine c_seq ?_
  refine c_seq ?_
  refine c_plain (.q 0 (.done)) (by kernel_rfl) ?_
  refine q_move rfl rfl rfl rfl ?_
  refine r_done ?_
  refine k_then_n ?_
  refine c_cond rfl (fun hok => ?_) (fun hok => ?_)
  · skip
    try simp only [Bool.and_eq_true, Bool.or_eq_true, Bool.not_eq_true', Bool.not_eq_false', Bool.and_eq_false_iff, Bool.or_eq_false_iff, decide_eq_true_eq, decide_eq_false_iff_not] at hok
    have hLn : mI L < L.length := by
      rcases Nat.lt_or_ge (mI L) L.length with h | h
      · exact h
      · rw [pkL, List.getElem?_eq_none h] at hok; cases hok
    refine s_take (A := rh q L) (by with_reducible (repeat (first | exact Take.here | apply Take.there))) ?_
    refine rh_open fun ra rc => ?_
    refine s_take (A := own 2 encT ra rc L) (by with_reducible (repeat (first | exact Take.here | apply Take.there))) ?_
    refine own_fc fun ro1 ro2 ro3 => ?_
    refine c_draw rfl (.q 0 (.q 1 (.q 2 (.q 3 (.q 4 (.q 5 (.q 6 (.q 7 (.q 8 ((.l 9 [4] ((.l 10 [] (.q 11 (.q 12 ((.l 13 [] (.done)))))))))))))))))) (by kernel_rfl) ?_
    refine q_move rfl rfl rfl rfl ?_
    refine q_move rfl rfl rfl rfl ?_
    refine q_nil_p rfl rfl rfl rfl ?_
    refine q_field (k := 0) rfl rfl rfl rfl Try.underlying51 rfl Try.sizeOf49 rfl ?_
    refine q_load_c (j := 0) rfl rfl rfl rfl Try.isAgg49 (by with_reducible (repeat (first | exact Take.here | apply Take.there))) (by first | rfl | exact (Nat.add_zero _).symm) (by rfl) ?_
    refine q_move rfl rfl rfl rfl ?_
    refine q_nil_p rfl rfl rfl rfl ?_
    refine q_field (k := 0) rfl rfl rfl rfl Try.underlying51 rfl Try.sizeOf49 rfl ?_
    refine q_load_c (j := 0) rfl rfl rfl rfl Try.isAgg49 (by with_reducible (repeat (first | exact Take.here | apply Take.there))) (by first | rfl | exact (Nat.add_zero _).symm) (by rfl) ?_
    have sp_2 := first_spec L ra L.length rc (own 2 encT ra rc L) rfl (rds_own encT_len (fun h => (ro2 h).1) ro3) (by omega)
    refine l_call rfl rfl rfl rfl rfl rfl Try.call47 (sp_2) (by (repeat ((with_reducible apply Takes.cons); focus (first | (with_reducible (repeat (first | exact Take.here | apply Take.there)); done) | (repeat (first | exact Take.here | apply Take.there))))); exact Takes.nil) ?_
    rintro kf hkf
    try simp only [List.cons_append, List.nil_append]
    have hkm := isfst_mI hkf
    obtain rfl : kf = ((mI L : Nat) : Int) := by
      rcases hkm with ⟨h, -⟩ | h
      · rw [h] at hLn; simp at hLn
      · exact h.1
    try simp only [List.cons_append, List.nil_append]
    refine ag_load_c (q := 0) rfl rfl rfl Try.isAgg49 (by with_reducible (repeat (first | exact Take.here | apply Take.there))) (by first | rfl | exact (Nat.add_zero _).symm) (by rfl) ?_
    refine ag_nil ?_
    have sp_3 := without_spec L ((mI L : Nat) : Int) ra L.length rc (own 2 encT ra rc L) rfl (rds_own encT_len (fun h => (ro2 h).1) ro3) (by omega)
    refine l_call rfl rfl rfl rfl rfl rfl Try.call46 (sp_3) (by (repeat ((with_reducible apply Takes.cons); focus (first | (with_reducible (repeat (first | exact Take.here | apply Take.there)); done) | (repeat (first | exact Take.here | apply Take.there))))); exact Takes.nil) ?_
    rintro ⟨wa, wc⟩ -
    try simp only [List.cons_append, List.nil_append]
    refine ag_nil ?_
    refine q_nil_p rfl rfl rfl rfl ?_
    refine q_field (k := 0) rfl rfl rfl rfl Try.underlying51 rfl Try.sizeOf49 rfl ?_
    refine l_store (j := 0) rfl rfl rfl rfl Try.sizeOf49 (us := [_]) rfl rfl rfl (by with_reducible (repeat (first | exact Take.here | apply Take.there))) (by first | rfl | exact (Nat.add_zero _).symm) (by first | decide | (simp; done) | omega) ?_
    simp only [setL, List.set]
    refine ag_nil ?_
    refine r_done ?_
    refine s_keep [2, 4, 5] (e' := [(2, _), (4, _), (5, _)]) rfl ?_
    refine k_then_n ?_
    refine c_seq ?_
    refine c_plain (.q 0 (.q 1 ((.l 2 [] (.q 3 (.done)))))) (by kernel_rfl) ?_
    refine q_loadN_c rfl rfl rfl rfl Try.isAgg28 Try.sizeOf28 (by with_reducible (repeat (first | exact Take.here | apply Take.there))) 0 (us := [_, _]) (by first | rfl | exact (Nat.add_zero _).symm) rfl rfl ?_
    refine q_move rfl rfl rfl rfl ?_
    refine l_store (j := 0) rfl rfl rfl rfl Try.sizeOf28 (us := [_, _]) rfl rfl rfl (by with_reducible (repeat (first | exact Take.here | apply Take.there))) (by first | rfl | exact (Nat.add_zero _).symm) (by first | decide | (simp; done) | omega) ?_
    simp only [setL, List.set]
    refine ag_nil ?_
    refine q_assign rfl rfl rfl rfl ?_
    refine r_done ?_
    refine s_keep [2, 3] (e' := [(2, _), (3, _)]) rfl ?_
    refine k_then_n ?_
    refine c_ret ?_
    rw [wo_at L (mI L)]
    refine rh_fold (q := q) (L.eraseIdx (mI L)) (ao := wa) (cap := wc) (by (repeat ((with_reducible apply Takes.cons); focus (first | (with_reducible (repeat (first | exact Take.here | apply Take.there)); done) | (repeat (first | exact Take.here | apply Take.there))))); exact Takes.nil) (by rfl) ?_
    refine retL (us := [_, _]) rfl ⟨rv_cellN rfl Try.isAgg28 Try.sizeOf28 (by with_reducible (repeat (first | exact Take.here | apply Take.there))) 0 rfl (us := [_, _]) rfl rfl, rv_tmp rfl, trivial⟩ (()) (by first | rfl | (first | rfl | (congr 1; done) | (congr 1 <;> first | rfl | omega | (simp; done) | (simp; omega)))) (by trivial) ?_
    (repeat ((with_reducible apply Takes.cons); focus (first | (with_reducible (repeat (first | exact Take.here | apply Take.there)); done) | (repeat (first | exact Take.here | apply Take.there))))); (repeat (first | exact Takes.nil | exact Takes.self | refine takes_drop2 ?_))
  · skip
    try simp only [Bool.and_eq_true, Bool.or_eq_true, Bool.not_eq_true', Bool.not_eq_false', Bool.and_eq_false_iff, Bool.or_eq_false_iff, decide_eq_true_eq, decide_eq_false_iff_not] at hok
    have hLn : L.eraseIdx (mI L) = L := List.eraseIdx_of_length_le (by
      rcases Nat.lt_or_ge (mI L) L.length with h | h
      · obtain ⟨x, hx⟩ := get_lt h
        rw [pkL_at hx] at hok; cases hok
      · exact h)
    refine c_skip ?_
    refine k_then_n ?_
    refine c_seq ?_
    refine c_plain (.q 0 (.q 1 ((.l 2 [] (.q 3 (.done)))))) (by kernel_rfl) ?_
    refine q_loadN_c rfl rfl rfl rfl Try.isAgg28 Try.sizeOf28 (by with_reducible (repeat (first | exact Take.here | apply Take.there))) 0 (us := [_, _]) (by first | rfl | exact (Nat.add_zero _).symm) rfl rfl ?_
    refine q_move rfl rfl rfl rfl ?_
    refine l_store (j := 0) rfl rfl rfl rfl Try.sizeOf28 (us := [_, _]) rfl rfl rfl (by with_reducible (repeat (first | exact Take.here | apply Take.there))) (by first | rfl | exact (Nat.add_zero _).symm) (by first | decide | (simp; done) | omega) ?_
    simp only [setL, List.set]
    refine ag_nil ?_
    refine q_assign rfl rfl rfl rfl ?_
    refine r_done ?_
    refine s_keep [2, 3] (e' := [(2, _), (3, _)]) rfl ?_
    refine k_then_n ?_
    refine c_ret ?_
    rw [hLn]
    refine retL (us := [_, _]) rfl ⟨rv_cellN rfl Try.isAgg28 Try.sizeOf28 (by with_reducible (repeat (first | exact Take.here | apply Take.there))) 0 rfl (us := [_, _]) rfl rfl, rv_tmp rfl, trivial⟩ (()) (by first | rfl | (first | rfl | (congr 1; done) | (congr 1 <;> first | rfl | omega | (simp; done) | (simp; omega)))) (by trivial) ?_
    (repeat ((with_reducible apply Takes.cons); focus (first | (with_reducible (repeat (first | exact Take.here | apply Take.there)); done) | (repeat (first | exact Take.here | apply Take.there))))); (repeat (first | exact Takes.nil | exact Takes.self | refine takes_drop2 ?_))
end Go.Ab.HpT
