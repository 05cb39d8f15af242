/- Package sched and its document's answer: a chooser is made. -/
import Derived.Test.YtmaonhoplaebhaaSc3
set_option linter.unusedVariables false
set_option linter.unusedSimpArgs false
set_option maxRecDepth 100000
namespace Go.Ab.Sc
open Go Go.Proofs Go.Ab
def rng (n : Nat) : List Int := (List.range n).map fun (i : Nat) => (i : Int)
theorem rng_len (n : Nat) : (rng n).length = n := by simp [rng]
theorem rng_succ (n : Nat) : rng n ++ [(n : Int)] = rng (n + 1) := by simp [rng, List.range_succ]
theorem rng_get {n i : Nat} (h : i < n) : (rng n)[i]? = some (i : Int) := by simp [rng, h]
theorem rng_mem {n : Nat} {t : Int} : t ∈ rng n ↔ 0 ≤ t ∧ t < (n : Int) := by
  simp only [rng, List.mem_map, List.mem_range]
  constructor
  · rintro ⟨i, hi, rfl⟩; omega
  · rintro ⟨h0, h1⟩; exact ⟨t.toNat, by omega, by omega⟩
theorem rng_nodup (n : Nat) : (rng n).Nodup := by
  rw [rng, List.Nodup, List.pairwise_map]
  exact List.Pairwise.imp (fun h => by omega) List.nodup_range
theorem rng_of {n : Nat} {l : List Int} (hl : l.length = n) (h : ∀ j, j < n → l[j]? = some (j : Int)) : l = rng n := by
  apply List.ext_getElem?
  intro q
  by_cases hq : q < n
  · rw [h q hq, rng_get hq]
  · rw [List.getElem?_eq_none (by omega), List.getElem?_eq_none (by rw [rng_len]; omega)]
/-- The shuffle from place i down. -/
def shf : Nat → Int × List Int → Int × List Int
  | 0, p => p
  | i + 1, p => shf i (nx p.1, swp p.2 (i + 1) (blw ((i : Int) + 2) (nx p.1 / 4294967296)).toNat)
/-- The ranks behind the first i places of the order. -/
def rks (d : Int) (l : List Int) : Nat → List Int
  | 0 => List.replicate l.length 0
  | i + 1 => (rks d l i).set (l.getD i 0).toNat (d + (i : Int))
theorem rks_len (d : Int) (l : List Int) : ∀ i, (rks d l i).length = l.length := by
  intro i
  induction i with
  | zero => simp [rks]
  | succ i ih => simp [rks, ih]
theorem rks_next {d : Int} {l : List Int} {i : Nat} {t : Int} (h : l[i]? = some t) : (rks d l i).set t.toNat (d + (i : Int)) = rks d l (i + 1) := by
  simp [rks, h]
abbrev OkN (th d st : Int) : Prop := 1 ≤ th ∧ th ≤ 65535 ∧ 1 ≤ d ∧ d ≤ 64 ∧ 1 ≤ st ∧ st ≤ 1048576
abbrev shN (s : Int) (n : Nat) : Int × List Int := shf (n - 1) (s, rng n)
def newX (s : Int) (n : Nat) (d st : Int) : Chs := ⟨d, rks d (shN s n).2 n, dr (fun x => blw st x + 1) (shN s n).1 (d - 1).toNat, 0⟩
theorem shf_perm : ∀ (i : Nat) (p : Int × List Int), (shf i p).2.Perm p.2 := by
  intro i
  induction i with
  | zero => intro p; exact List.Perm.refl _
  | succ i ih => intro p; exact (ih _).trans (swp_perm _ _ _)
theorem shN_perm (s : Int) (n : Nat) : (shN s n).2.Perm (rng n) := shf_perm _ _
theorem shN_len (s : Int) (n : Nat) : (shN s n).2.length = n := by rw [(shN_perm s n).length_eq, rng_len]
theorem new_ok {s : Int} {n : Nat} {d st : Int} (h : OkN (n : Int) d st) : COk (newX s n d st) := by
  have h1 : (newX s n d st).rk.length = n := by rw [newX, rks_len, shN_len]
  have h2 : ((newX s n d st).chs.length : Int) = d - 1 := by simp only [newX]; rw [dr_len]; omega
  exact ⟨by omega, by omega, h.2.2.1, h.2.2.2.1, by rw [h2]; show d - 1 + 1 = d; omega, Int.le_refl _⟩
theorem swp_of {l : List Int} {i k : Nat} {x y : Int} (hx : l[i]? = some x) (hy : l[k]? = some y) : (l.set i y).set k x = swp l i k := (swp_eq hx hy).symm
theorem blw_rng {s : Int} {n : Int} (h0 : 1 ≤ n) (h1 : n ≤ 4294967296) : 0 ≤ blw n (nx s / 4294967296) ∧ blw n (nx s / 4294967296) < n := by
  have hr := nx_rng s
  have h2 : 0 ≤ nx s / 4294967296 ∧ nx s / 4294967296 ≤ 4294967295 := by omega
  have h3 := Int.mul_nonneg h2.1 (by omega : 0 ≤ n)
  have h4 : nx s / 4294967296 * n ≤ 4294967295 * n := Int.mul_le_mul_of_nonneg_right h2.2 (by omega)
  show 0 ≤ nx s / 4294967296 * n / 4294967296 ∧ nx s / 4294967296 * n / 4294967296 < n
  omega
theorem new_spec (s : Int) (n : Nat) (d st : Int) (hok : OkN (n : Int) d st) : Spec Try.prog 22 [.int .u64 s, .int .i64 ((n : Nat) : Int), .int .i64 d, .int .i64 st] [] (fun (b : Nat) => .tuple #[.pointer (some ⟨b, 0, none⟩), .int .i64 0]) (fun b => True) (fun b => [ch b (newX s n d st)]) := by
  refine spec_mk (n := 111) Try.func22 rfl rfl rfl ?_
  intro Γ w0
  simp only [argE, List.cons_append, List.nil_append, Nat.zero_add, Nat.reduceAdd]
  obtain ⟨ho1, ho2, ho3, ho4, ho5, ho6⟩ := hok
  refine c_seq ?_
  refine c_plain (.q 0 (.q 1 (.done))) (by kernel_rfl) ?_
  refine q_assign rfl rfl rfl rfl ?_
  refine q_assign rfl rfl rfl rfl ?_
  refine r_done ?_
  refine k_then_n ?_
  refine c_seq ?_
  refine c_seq ?_
  refine c_plain (.q 0 (.q 1 (.q 2 (.q 3 (.q 4 (.q 5 (.q 6 (.q 7 (.q 8 (.q 9 (.q 10 (.q 11 (.q 12 (.q 13 (.q 14 (.q 15 (.q 16 (.done)))))))))))))))))) (by kernel_rfl) ?_
  refine q_move rfl rfl rfl rfl ?_
  refine q_move rfl rfl rfl rfl ?_
  refine q_move rfl rfl rfl rfl ?_
  refine q_min3 rfl rfl rfl rfl rfl rfl ?_
  refine q_int rfl rfl rfl rfl rfl (b_lss _ _ _ _) ?_
  refine q_move rfl rfl rfl rfl ?_
  refine s_bool_p 23 rfl (fun g_1 => by exfalso; first | omega | contradiction | (simp_all; done) | (simp_all; omega)) (fun g_1 => ?_)
  refine q_move rfl rfl rfl rfl ?_
  refine q_int rfl rfl rfl rfl rfl (b_gtr _ _ _ _) ?_
  refine q_pick_f rfl rfl rfl rfl rfl ?_
  refine q_move rfl rfl rfl rfl ?_
  refine s_bool_p 27 rfl (fun g_2 => by exfalso; first | omega | contradiction | (simp_all; done) | (simp_all; omega)) (fun g_2 => ?_)
  refine q_move rfl rfl rfl rfl ?_
  refine q_int rfl rfl rfl rfl rfl (b_gtr _ _ _ _) ?_
  refine q_pick_f rfl rfl rfl rfl rfl ?_
  refine q_move rfl rfl rfl rfl ?_
  refine s_bool_p 31 rfl (fun g_3 => by exfalso; first | omega | contradiction | (simp_all; done) | (simp_all; omega)) (fun g_3 => ?_)
  refine q_move rfl rfl rfl rfl ?_
  refine q_int rfl rfl rfl rfl rfl (b_gtr _ _ _ _) ?_
  refine q_pick_f rfl rfl rfl rfl rfl ?_
  refine r_done ?_
  refine s_keep [0, 1, 2, 3, 34] (e' := [(0, _), (1, _), (2, _), (3, _), (34, _)]) rfl ?_
  refine k_then_n ?_
  refine c_cond_p rfl (fun h_4 => by exfalso; first | omega | contradiction | (simp_all; done) | (simp_all; omega)) (fun h_4 => ?_)
  refine c_skip ?_
  refine k_then_n ?_
  refine c_seq ?_
  refine c_plain (.q 0 ((.l 1 [] ((.l 2 [] (.done)))))) (by kernel_rfl) ?_
  refine q_move rfl rfl rfl rfl ?_
  refine l_alloc rfl rfl rfl Try.zeroValue90 (zs := [.int .u64 0]) rfl ?_
  intro b10
  refine ag_nil ?_
  refine l_store (j := 0) rfl rfl rfl rfl Try.sizeOf90 (us := [_]) rfl rfl rfl (by with_reducible (repeat (first | exact Take.here | apply Take.there))) (by first | rfl | exact (Nat.add_zero _).symm) (by first | decide | (simp; done) | omega) ?_
  simp only [setL, List.set]
  refine ag_nil ?_
  refine r_done ?_
  refine k_then_n ?_
  refine c_seq ?_
  refine c_plain (.q 0 ((.l 1 [] (.q 2 (.done))))) (by kernel_rfl) ?_
  refine q_move rfl rfl rfl rfl ?_
  refine l_make (sz := 1) (enc := encZ) (len := n) (cap := n) (0) rfl rfl rfl rfl rfl (by first | rfl | omega) (by first | rfl | omega) Try.underlying53 Try.typeInfo3 rfl rfl rfl (by decide) (by omega) (by omega) (by show 8 * _ ≤ _; omega) (by rfl) (encZ_len) ?_
  intro b37
  refine ag_nil ?_
  refine q_assign rfl rfl rfl rfl ?_
  refine r_done ?_
  refine s_keep [1, 2, 3, 10, 11] (e' := [(1, _), (2, _), (3, _), (10, _), (11, _)]) rfl ?_
  refine k_then_n ?_
  refine c_seq ?_
  refine c_seq ?_
  refine c_plain (.q 0 (.q 1 (.q 2 (.done)))) (by kernel_rfl) ?_
  refine q_move rfl rfl rfl rfl ?_
  refine q_len rfl rfl rfl rfl Try.underlying53 ?_
  refine q_move rfl rfl rfl rfl ?_
  refine r_done ?_
  refine k_then_n ?_
  refine c_block ?_
  refine c_loop2 (α := Nat × List Int) (fun (x_ : Nat × List Int) => match x_ with | (i, l) => i ≤ n ∧ (l.length = n) ∧ (∀ j, j < i → l[j]? = some (j : Int))) (fun (x_ : Nat × List Int) => match x_ with | (i, l) => [(40, .int .i64 ((i : Nat) : Int))]) (fun (x_ : Nat × List Int) => match x_ with | (i, l) => [own 1 encZ (some ⟨b37, 0, none⟩) n l]) (fun (x_ : Nat × List Int) => match x_ with | (i, l) => n - i) [1, 2, 3, 10, 11, 39] (er := [(1, _), (2, _), (3, _), (10, _), (11, _), (39, _)]) rfl (0, List.replicate n 0) ?_ (by exact ⟨rfl, trivial⟩) (by (try dsimp only); (try simp only [Nat.add_zero, Nat.zero_add]); (repeat ((with_reducible apply Takes.cons); focus (first | (with_reducible (repeat (first | exact Take.here | apply Take.there)); done) | (repeat (first | exact Take.here | apply Take.there))))); exact Takes.nil) ?_
  · exact ⟨Nat.zero_le _, by simp, fun j h => by omega⟩
  rintro ⟨i, l⟩ ⟨hle_i, hll, hlj⟩
  try simp only [List.cons_append, List.nil_append]
  refine c_seq ?_
  refine c_plain (.q 0 (.done)) (by kernel_rfl) ?_
  refine q_int rfl rfl rfl rfl rfl (b_lss _ _ _ _) ?_
  refine r_done ?_
  refine k_then_n ?_
  refine c_seq ?_
  refine c_cond_p rfl (fun hlt => ?_) (fun hlt => ?_)
  · skip
    refine c_skip ?_
    refine k_then_n ?_
    refine c_seq ?_
    refine c_block ?_
    refine c_seq ?_
    refine c_plain (.q 0 (.q 1 (.done))) (by kernel_rfl) ?_
    refine q_move rfl rfl rfl rfl ?_
    refine q_assign rfl rfl rfl rfl ?_
    refine r_done ?_
    refine k_then_n ?_
    refine c_plain (.q 0 (.q 1 (.q 2 (.q 3 ((.l 4 [] (.done))))))) (by kernel_rfl) ?_
    refine q_move rfl rfl rfl rfl ?_
    refine q_move rfl rfl rfl rfl ?_
    refine q_move rfl rfl rfl rfl ?_
    obtain ⟨x, hx⟩ := get_lt (l := l) (i := i) (by first | omega | (simp; done) | (simp; omega))
    refine q_idxO (sz := 0) (k := i) (enc := encZ) (xs := l) rfl rfl rfl rfl rfl Try.underlying53 Try.sizeOf3 hx (by first | rfl | omega) (by omega) (by with_reducible (repeat (first | exact Take.here | apply Take.there))) ?_
    intro ib46 io46 ha46 hl46 hc46
    refine l_store_O (j := 0) (k := i) (q := ((i : Nat) : Int)) (enc := encZ) (off := io46) rfl rfl rfl rfl Try.sizeOf3 (us := [_]) rfl rfl rfl ha46 encZ_len hx (by with_reducible (repeat (first | exact Take.here | apply Take.there))) (by first | rfl | exact (Nat.add_zero _).symm | omega) (by first | decide | exact Nat.le_of_ble_eq_true rfl) (by rfl) ?_
    refine ag_nil ?_
    refine r_done ?_
    refine s_keep [1, 2, 3, 10, 11, 39, 40] (e' := [(1, _), (2, _), (3, _), (10, _), (11, _), (39, _), (40, _)]) rfl ?_
    refine k_blk_n ?_
    refine k_then_n ?_
    refine c_plain (.q 0 (.q 1 (.done))) (by kernel_rfl) ?_
    refine q_int rfl rfl rfl rfl rfl (b_add' _ (by (first | exact fits_i64 (by omega) (by omega) | exact fits_u64 (by omega) (by omega) | exact fits_u32 (by omega) (by omega) | exact fits_u8 (by omega) (by omega)))) ?_
    refine q_move rfl rfl rfl rfl ?_
    refine r_done ?_
    refine k_then_n ?_
    refine loop_next (x := (i, l)) ((i + 1, l.set i (i : Int))) ?_ ?_ ?_ ?_
    · try dsimp only
      exact ⟨by omega, by rw [List.length_set]; exact hll, fun j hj => by
          by_cases hji : j = i
          · subst hji; rw [List.getElem?_set_self (by omega)]
          · rw [List.getElem?_set_ne (Ne.symm hji)]; exact hlj j (by omega)⟩
    · show n - (i + 1) < n - i; omega
    · exact ⟨rfl, rfl, rfl, rfl, rfl, rfl, rfl, trivial⟩
    · (try simp only [List.cons_append, List.nil_append]); (repeat ((with_reducible apply Takes.cons); focus (first | (with_reducible (repeat (first | exact Take.here | apply Take.there)); done) | (repeat (first | exact Take.here | apply Take.there))))); (repeat (first | exact Takes.nil | exact Takes.self | refine takes_drop2 ?_))
  · skip
    refine c_exit ?_
    refine k_then_exit ?_
    refine k_then_exit ?_
    refine k_blk_here ?_
    refine k_then_n ?_
    refine c_seq ?_
    refine c_seq ?_
    refine c_plain (.q 0 (.q 1 (.q 2 (.done)))) (by kernel_rfl) ?_
    refine q_move rfl rfl rfl rfl ?_
    refine q_int rfl rfl rfl rfl rfl (b_sub' _ (by (first | exact fits_i64 (by omega) (by omega) | exact fits_u64 (by omega) (by omega) | exact fits_u32 (by omega) (by omega) | exact fits_u8 (by omega) (by omega)))) ?_
    refine q_assign rfl rfl rfl rfl ?_
    refine r_done ?_
    refine s_keep [1, 2, 3, 10, 11, 13] (e' := [(1, _), (2, _), (3, _), (10, _), (11, _), (13, _)]) rfl ?_
    refine k_then_n ?_
    refine c_block ?_
    obtain rfl : n = i := by omega
    obtain rfl := rng_of hll hlj
    refine s_eq 13 rfl (v' := .int .i64 ((n - 1 : Nat) : Int)) (by congr 1; omega) ?_
    refine c_loop2 (α := Nat × Int × List Int) (fun (x_ : Nat × Int × List Int) => match x_ with | (i, z, l) => shf i (z, l) = shN s n ∧ i + 1 ≤ n ∧ l.Perm (rng n)) (fun (x_ : Nat × Int × List Int) => match x_ with | (i, z, l) => [(13, .int .i64 ((i : Nat) : Int))]) (fun (x_ : Nat × Int × List Int) => match x_ with | (i, z, l) => [cells b10 0 [.int .u64 z], own 1 encZ (some ⟨b37, 0, none⟩) n l]) (fun (x_ : Nat × Int × List Int) => match x_ with | (i, z, l) => i) [1, 2, 3, 10, 11] (er := [(1, _), (2, _), (3, _), (10, _), (11, _)]) rfl (n - 1, s, rng n) ?_ (by exact ⟨rfl, trivial⟩) (by (try dsimp only); (try simp only [Nat.add_zero, Nat.zero_add]); (repeat ((with_reducible apply Takes.cons); focus (first | (with_reducible (repeat (first | exact Take.here | apply Take.there)); done) | (repeat (first | exact Take.here | apply Take.there))))); exact Takes.nil) ?_
    · exact ⟨rfl, by omega, List.Perm.refl _⟩
    rintro ⟨i, z, l⟩ ⟨hsh, hin, hpm⟩
    try simp only [List.cons_append, List.nil_append]
    have hll : l.length = n := by rw [hpm.length_eq, rng_len]
    refine c_seq ?_
    refine c_seq ?_
    refine c_plain (.q 0 (.q 1 (.done))) (by kernel_rfl) ?_
    refine q_move rfl rfl rfl rfl ?_
    refine q_int rfl rfl rfl rfl rfl (b_gtr _ _ _ _) ?_
    refine r_done ?_
    refine k_then_n ?_
    refine c_cond_p rfl (fun hlt => ?_) (fun hlt => ?_)
    · skip
      refine c_skip ?_
      refine k_then_n ?_
      refine c_seq ?_
      refine c_block ?_
      refine c_seq ?_
      have hkr := blw_rng (s := z) (n := (i : Int) + 1) (by omega) (by omega)
      refine c_plain (.q 0 (.q 1 ((.l 2 [] (.q 3 (.done)))))) (by kernel_rfl) ?_
      refine q_move rfl rfl rfl rfl ?_
      refine q_int rfl rfl rfl rfl rfl (b_add' _ (by (first | exact fits_i64 (by omega) (by omega) | exact fits_u64 (by omega) (by omega) | exact fits_u32 (by omega) (by omega) | exact fits_u8 (by omega) (by omega)))) ?_
      have sp_5 := below_spec b10 0 z ((i : Int) + 1) (by omega) (by omega)
      refine l_call rfl rfl rfl rfl rfl rfl Try.call46 (sp_5) (by (repeat ((with_reducible apply Takes.cons); focus (first | (with_reducible (repeat (first | exact Take.here | apply Take.there)); done) | (repeat (first | exact Take.here | apply Take.there))))); exact Takes.nil) ?_
      rintro ⟨⟩ -
      try simp only [List.cons_append, List.nil_append]
      refine ag_nil ?_
      refine q_assign rfl rfl rfl rfl ?_
      refine r_done ?_
      refine s_keep [1, 2, 3, 10, 11, 13, 14] (e' := [(1, _), (2, _), (3, _), (10, _), (11, _), (13, _), (14, _)]) rfl ?_
      refine k_then_n ?_
      refine c_draw rfl (.q 0 (.q 1 (.q 2 (.q 3 (.q 4 (.q 5 (.q 6 (.q 7 (.q 8 (.q 9 (.q 10 (.q 11 (.q 12 ((.l 13 [] (.q 14 ((.l 15 [] (.done))))))))))))))))))) (by kernel_rfl) ?_
      refine q_move rfl rfl rfl rfl ?_
      refine q_move rfl rfl rfl rfl ?_
      refine q_move rfl rfl rfl rfl ?_
      refine q_move rfl rfl rfl rfl ?_
      refine q_move rfl rfl rfl rfl ?_
      refine q_move rfl rfl rfl rfl ?_
      obtain ⟨y, hy⟩ := get_lt (l := l) (i := (blw ((i : Int) + 1) (nx z / 4294967296)).toNat) (by first | omega | (simp; done) | (simp; omega))
      refine q_idxO (sz := 0) (k := (blw ((i : Int) + 1) (nx z / 4294967296)).toNat) (enc := encZ) (xs := l) rfl rfl rfl rfl rfl Try.underlying53 Try.sizeOf3 hy (by first | rfl | omega) (by omega) (by with_reducible (repeat (first | exact Take.here | apply Take.there))) ?_
      intro ib63 io63 ha63 hl63 hc63
      refine q_load_O (j := 0) (k' := (blw ((i : Int) + 1) (nx z / 4294967296)).toNat) (enc := encZ) (off := io63) rfl rfl rfl rfl Try.isAgg3 ha63 encZ_len hy (by with_reducible (repeat (first | exact Take.here | apply Take.there))) (by first | rfl | exact (Nat.add_zero _).symm | omega) (by rfl) ?_
      refine q_move rfl rfl rfl rfl ?_
      refine q_move rfl rfl rfl rfl ?_
      obtain ⟨x, hx⟩ := get_lt (l := l) (i := i) (by first | omega | (simp; done) | (simp; omega))
      refine q_idxO (sz := 0) (k := i) (enc := encZ) (xs := l) rfl rfl rfl rfl rfl Try.underlying53 Try.sizeOf3 hx (by first | rfl | omega) (by omega) (by with_reducible (repeat (first | exact Take.here | apply Take.there))) ?_
      intro ib67 io67 ha67 hl67 hc67
      refine q_load_O (j := 0) (k' := i) (enc := encZ) (off := io67) rfl rfl rfl rfl Try.isAgg3 ha67 encZ_len hx (by with_reducible (repeat (first | exact Take.here | apply Take.there))) (by first | rfl | exact (Nat.add_zero _).symm | omega) (by rfl) ?_
      refine q_idxO (sz := 0) (k := i) (enc := encZ) (xs := l) rfl rfl rfl rfl rfl Try.underlying53 Try.sizeOf3 hx (by first | rfl | omega) (by omega) (by with_reducible (repeat (first | exact Take.here | apply Take.there))) ?_
      intro ib69 io69 ha69 hl69 hc69
      refine l_store_O (j := 0) (k := i) (q := y) (enc := encZ) (off := io69) rfl rfl rfl rfl Try.sizeOf3 (us := [_]) rfl rfl rfl ha69 encZ_len hx (by with_reducible (repeat (first | exact Take.here | apply Take.there))) (by first | rfl | exact (Nat.add_zero _).symm | omega) (by first | decide | exact Nat.le_of_ble_eq_true rfl) (by rfl) ?_
      refine ag_nil ?_
      obtain ⟨e_6, he_6⟩ := get_lt (l := (l.set i y)) (i := (blw ((i : Int) + 1) (nx z / 4294967296)).toNat) (by first | omega | (simp; done) | (simp; omega))
      refine q_idxO (sz := 0) (k := (blw ((i : Int) + 1) (nx z / 4294967296)).toNat) (enc := encZ) (xs := (l.set i y)) rfl rfl rfl rfl rfl Try.underlying53 Try.sizeOf3 he_6 (by first | rfl | omega) (by omega) (by with_reducible (repeat (first | exact Take.here | apply Take.there))) ?_
      intro ib70 io70 ha70 hl70 hc70
      refine l_store_O (j := 0) (k := (blw ((i : Int) + 1) (nx z / 4294967296)).toNat) (q := x) (enc := encZ) (off := io70) rfl rfl rfl rfl Try.sizeOf3 (us := [_]) rfl rfl rfl ha70 encZ_len he_6 (by with_reducible (repeat (first | exact Take.here | apply Take.there))) (by first | rfl | exact (Nat.add_zero _).symm | omega) (by first | decide | exact Nat.le_of_ble_eq_true rfl) (by rfl) ?_
      refine ag_nil ?_
      refine r_done ?_
      rw [swp_of hx hy]
      refine s_keep [1, 2, 3, 10, 11, 13] (e' := [(1, _), (2, _), (3, _), (10, _), (11, _), (13, _)]) rfl ?_
      refine k_blk_n ?_
      refine k_then_n ?_
      refine c_plain (.q 0 (.q 1 (.q 2 (.done)))) (by kernel_rfl) ?_
      refine q_move rfl rfl rfl rfl ?_
      refine q_int rfl rfl rfl rfl rfl (b_sub' _ (by (first | exact fits_i64 (by omega) (by omega) | exact fits_u64 (by omega) (by omega) | exact fits_u32 (by omega) (by omega) | exact fits_u8 (by omega) (by omega)))) ?_
      refine q_assign rfl rfl rfl rfl ?_
      refine r_done ?_
      refine k_then_n ?_
      refine s_eq 13 rfl (v' := .int .i64 ((i - 1 : Nat) : Int)) (by congr 1; omega) ?_
      refine loop_next (x := (i, z, l)) ((i - 1, nx z, swp l i (blw ((i : Int) + 1) (nx z / 4294967296)).toNat)) ?_ ?_ ?_ ?_
      · try dsimp only
        exact ⟨by rw [← hsh]; obtain ⟨q, rfl⟩ : ∃ q, i = q + 1 := ⟨i - 1, by omega⟩; show _ = shf q (nx z, swp l (q + 1) (blw ((q : Int) + 2) (nx z / 4294967296)).toNat); rw [show ((q + 1 : Nat) : Int) + 1 = (q : Int) + 2 from by omega]; rfl, by omega, (swp_perm _ _ _).trans hpm⟩
      · show i - 1 < i; omega
      · exact ⟨rfl, rfl, rfl, rfl, rfl, rfl, trivial⟩
      · (try simp only [List.cons_append, List.nil_append]); (repeat ((with_reducible apply Takes.cons); focus (first | (with_reducible (repeat (first | exact Take.here | apply Take.there)); done) | (repeat (first | exact Take.here | apply Take.there))))); (repeat (first | exact Takes.nil | exact Takes.self | refine takes_drop2 ?_))
    · skip
      refine c_exit ?_
      refine k_then_exit ?_
      refine k_then_exit ?_
      refine k_blk_here ?_
      refine k_then_n ?_
      refine c_seq ?_
      obtain rfl : i = 0 := by omega
      have hzl : z = (shN s n).1 ∧ l = (shN s n).2 := by rw [← hsh]; exact ⟨rfl, rfl⟩
      obtain ⟨rfl, rfl⟩ := hzl
      have hsl := shN_len s n
      refine c_plain (.q 0 (.q 1 ((.l 2 [] (.q 3 ((.l 4 [] (.q 5 (.done))))))))) (by kernel_rfl) ?_
      refine q_move rfl rfl rfl rfl ?_
      refine q_move rfl rfl rfl rfl ?_
      refine l_make (sz := 1) (enc := encZ) (len := n) (cap := n) (0) rfl rfl rfl rfl rfl (by first | rfl | omega) (by first | rfl | omega) Try.underlying53 Try.typeInfo3 rfl rfl rfl (by decide) (by omega) (by omega) (by show 8 * _ ≤ _; omega) (by rfl) (encZ_len) ?_
      intro b73
      refine ag_nil ?_
      refine q_build rfl rfl rfl rfl (vs := [_, _, _, _]) (run_buildS Try.underlying77 Try.zeroValue77 (ps := [(0, 1), (1, 1), (2, 1), (3, 1)]) ⟨rfl, Try.sizeOf3, rfl, Try.sizeOf53, rfl, Try.sizeOf53, rfl, Try.sizeOf3, trivial⟩ rfl) ?_
      refine l_box rfl rfl rfl rfl (us := [_, _, _, _]) rfl ?_
      intro b75
      refine ag_nil ?_
      refine q_assign rfl rfl rfl rfl ?_
      refine r_done ?_
      refine s_keep [2, 3, 10, 11, 15] (e' := [(2, _), (3, _), (10, _), (11, _), (15, _)]) rfl ?_
      refine k_then_n ?_
      refine c_seq ?_
      refine c_seq ?_
      refine c_plain (.q 0 (.q 1 (.q 2 (.done)))) (by kernel_rfl) ?_
      refine q_move rfl rfl rfl rfl ?_
      refine q_len rfl rfl rfl rfl Try.underlying53 ?_
      refine q_move rfl rfl rfl rfl ?_
      refine r_done ?_
      refine k_then_n ?_
      refine c_block ?_
      refine c_loop2 (α := Nat × List Int) (fun (x_ : Nat × List Int) => match x_ with | (i, rk) => i ≤ n ∧ (rk = rks d (shN s n).2 i)) (fun (x_ : Nat × List Int) => match x_ with | (i, rk) => [(78, .int .i64 ((i : Nat) : Int))]) (fun (x_ : Nat × List Int) => match x_ with | (i, rk) => [cells b75 0 [.int .i64 d, .slice (some ⟨b73, 0, none⟩) n n, .slice none 0 0, .int .i64 0], own 1 encZ (some ⟨b73, 0, none⟩) n rk]) (fun (x_ : Nat × List Int) => match x_ with | (i, rk) => n - i) [2, 3, 10, 15, 76, 77] (er := [(2, _), (3, _), (10, _), (15, _), (76, _), (77, _)]) rfl (0, List.replicate n 0) ?_ (by exact ⟨rfl, trivial⟩) (by (try dsimp only); (try simp only [Nat.add_zero, Nat.zero_add]); (repeat ((with_reducible apply Takes.cons); focus (first | (with_reducible (repeat (first | exact Take.here | apply Take.there)); done) | (repeat (first | exact Take.here | apply Take.there))))); exact Takes.nil) ?_
      · exact ⟨Nat.zero_le _, by simp [rks, shN_len]⟩
      rintro ⟨i, rk⟩ ⟨hle_i, hrk⟩
      try simp only [List.cons_append, List.nil_append]
      have hsl := shN_len s n
      have hrl : rk.length = n := by rw [hrk, rks_len, hsl]
      refine c_seq ?_
      refine c_plain (.q 0 (.done)) (by kernel_rfl) ?_
      refine q_int rfl rfl rfl rfl rfl (b_lss _ _ _ _) ?_
      refine r_done ?_
      refine k_then_n ?_
      refine c_seq ?_
      refine c_cond_p rfl (fun hlt => ?_) (fun hlt => ?_)
      · skip
        refine c_skip ?_
        refine k_then_n ?_
        refine c_seq ?_
        refine c_block ?_
        refine c_seq ?_
        refine c_plain (.q 0 (.q 1 (.q 2 (.q 3 (.q 4 (.done)))))) (by kernel_rfl) ?_
        refine q_move rfl rfl rfl rfl ?_
        obtain ⟨t, ht⟩ := get_lt (l := (shN s n).2) (i := i) (by first | omega | (simp; done) | (simp; omega))
        have htm : 0 ≤ t ∧ t < (n : Int) := rng_mem.1 ((shN_perm s n).mem_iff.1 (List.mem_of_getElem? ht))
        refine q_idxO (sz := 0) (k := i) (enc := encZ) (xs := (shN s n).2) rfl rfl rfl rfl rfl Try.underlying53 Try.sizeOf3 ht (by first | rfl | omega) (by omega) (by with_reducible (repeat (first | exact Take.here | apply Take.there))) ?_
        intro ib81 io81 ha81 hl81 hc81
        refine q_load_O (j := 0) (k' := i) (enc := encZ) (off := io81) rfl rfl rfl rfl Try.isAgg3 ha81 encZ_len ht (by with_reducible (repeat (first | exact Take.here | apply Take.there))) (by first | rfl | exact (Nat.add_zero _).symm | omega) (by rfl) ?_
        refine q_assign rfl rfl rfl rfl ?_
        refine q_assign rfl rfl rfl rfl ?_
        refine r_done ?_
        refine s_keep [2, 3, 10, 15, 16, 17, 76, 77, 78] (e' := [(2, _), (3, _), (10, _), (15, _), (16, _), (17, _), (76, _), (77, _), (78, _)]) rfl ?_
        refine k_then_n ?_
        refine c_plain (.q 0 (.q 1 (.q 2 (.q 3 (.q 4 (.q 5 (.q 6 (.q 7 (.q 8 ((.l 9 [] (.done)))))))))))) (by kernel_rfl) ?_
        refine q_move rfl rfl rfl rfl ?_
        refine q_nil_p rfl rfl rfl rfl ?_
        refine q_field (k := 1) rfl rfl rfl rfl Try.underlying77 rfl Try.sizeOf53 rfl ?_
        refine q_load_c (j := 1) rfl rfl rfl rfl Try.isAgg53 (by with_reducible (repeat (first | exact Take.here | apply Take.there))) (by first | rfl | exact (Nat.add_zero _).symm) (by rfl) ?_
        refine q_move rfl rfl rfl rfl ?_
        refine q_move rfl rfl rfl rfl ?_
        refine q_move rfl rfl rfl rfl ?_
        refine q_int rfl rfl rfl rfl rfl (b_add' _ (by (first | exact fits_i64 (by omega) (by omega) | exact fits_u64 (by omega) (by omega) | exact fits_u32 (by omega) (by omega) | exact fits_u8 (by omega) (by omega)))) ?_
        obtain ⟨e_7, he_7⟩ := get_lt (l := rk) (i := t.toNat) (by first | omega | (simp; done) | (simp; omega))
        refine q_idxO (sz := 0) (k := t.toNat) (enc := encZ) (xs := rk) rfl rfl rfl rfl rfl Try.underlying53 Try.sizeOf3 he_7 (by first | rfl | omega) (by omega) (by with_reducible (repeat (first | exact Take.here | apply Take.there))) ?_
        intro ib91 io91 ha91 hl91 hc91
        refine l_store_O (j := 0) (k := t.toNat) (q := (d + ((i : Nat) : Int))) (enc := encZ) (off := io91) rfl rfl rfl rfl Try.sizeOf3 (us := [_]) rfl rfl rfl ha91 encZ_len he_7 (by with_reducible (repeat (first | exact Take.here | apply Take.there))) (by first | rfl | exact (Nat.add_zero _).symm | omega) (by first | decide | exact Nat.le_of_ble_eq_true rfl) (by rfl) ?_
        refine ag_nil ?_
        refine r_done ?_
        refine s_keep [2, 3, 10, 15, 76, 77, 78] (e' := [(2, _), (3, _), (10, _), (15, _), (76, _), (77, _), (78, _)]) rfl ?_
        refine k_blk_n ?_
        refine k_then_n ?_
        refine c_plain (.q 0 (.q 1 (.done))) (by kernel_rfl) ?_
        refine q_int rfl rfl rfl rfl rfl (b_add' _ (by (first | exact fits_i64 (by omega) (by omega) | exact fits_u64 (by omega) (by omega) | exact fits_u32 (by omega) (by omega) | exact fits_u8 (by omega) (by omega)))) ?_
        refine q_move rfl rfl rfl rfl ?_
        refine r_done ?_
        refine k_then_n ?_
        rw [show rk.set t.toNat (d + (i : Int)) = rks d (shN s n).2 (i + 1) from by rw [hrk, rks_next ht]]
        refine loop_next (x := (i, rk)) ((i + 1, rks d (shN s n).2 (i + 1))) ?_ ?_ ?_ ?_
        · try dsimp only
          exact ⟨by omega, rfl⟩
        · show n - (i + 1) < n - i; omega
        · exact ⟨rfl, rfl, rfl, rfl, rfl, rfl, rfl, trivial⟩
        · (try simp only [List.cons_append, List.nil_append]); (repeat ((with_reducible apply Takes.cons); focus (first | (with_reducible (repeat (first | exact Take.here | apply Take.there)); done) | (repeat (first | exact Take.here | apply Take.there))))); (repeat (first | exact Takes.nil | exact Takes.self | refine takes_drop2 ?_))
      · skip
        refine c_exit ?_
        refine k_then_exit ?_
        refine k_then_exit ?_
        refine k_blk_here ?_
        refine k_then_n ?_
        refine c_seq ?_
        refine c_seq ?_
        refine c_plain (.q 0 (.q 1 (.q 2 (.done)))) (by kernel_rfl) ?_
        refine q_move rfl rfl rfl rfl ?_
        refine q_int rfl rfl rfl rfl rfl (b_sub' _ (by (first | exact fits_i64 (by omega) (by omega) | exact fits_u64 (by omega) (by omega) | exact fits_u32 (by omega) (by omega) | exact fits_u8 (by omega) (by omega)))) ?_
        refine q_move rfl rfl rfl rfl ?_
        refine r_done ?_
        refine s_keep [3, 10, 15, 94, 95] (e' := [(3, _), (10, _), (15, _), (94, _), (95, _)]) rfl ?_
        refine k_then_n ?_
        refine c_block ?_
        obtain rfl : n = i := by omega
        subst hrk
        refine s_heap (fun _ h => own_nil (sz := 1) (enc := encZ) h) ?_
        refine c_loop2 (α := Nat × Option Addr × Nat) (fun (x_ : Nat × Option Addr × Nat) => match x_ with | (j, ac, cc) => j ≤ (d - 1).toNat ∧ True) (fun (x_ : Nat × Option Addr × Nat) => match x_ with | (j, ac, cc) => [(95, .int .i64 ((j : Nat) : Int))]) (fun (x_ : Nat × Option Addr × Nat) => match x_ with | (j, ac, cc) => [cells b75 0 [.int .i64 d, .slice (some ⟨b73, 0, none⟩) n n, .slice ac j cc, .int .i64 0], own 1 encZ (some ⟨b73, 0, none⟩) n (rks d (shN s n).2 n), own 1 encZ ac cc (dr (fun x => blw st x + 1) (shN s n).1 j), cells b10 0 [.int .u64 (sk (shN s n).1 j)]]) (fun (x_ : Nat × Option Addr × Nat) => match x_ with | (j, ac, cc) => (d - 1).toNat - j) [3, 10, 15, 94] (er := [(3, _), (10, _), (15, _), (94, _)]) rfl (0, none, 0) ?_ (by exact ⟨rfl, trivial⟩) (by (try dsimp only); (try simp only [Nat.add_zero, Nat.zero_add]); (repeat ((with_reducible apply Takes.cons); focus (first | (with_reducible (repeat (first | exact Take.here | apply Take.there)); done) | (repeat (first | exact Take.here | apply Take.there))))); exact Takes.nil) ?_
        · exact ⟨Nat.zero_le _, trivial⟩
        rintro ⟨j, ac, cc⟩ ⟨hle_j, hcc⟩
        try simp only [List.cons_append, List.nil_append]
        have hdl := dr_len (fun x => blw st x + 1) (shN s n).1 j
        have hbr := blw_rng (s := sk (shN s n).1 j) (n := st) (by omega) (by omega)
        refine c_seq ?_
        refine c_plain (.q 0 (.done)) (by kernel_rfl) ?_
        refine q_int rfl rfl rfl rfl rfl (b_lss _ _ _ _) ?_
        refine r_done ?_
        refine k_then_n ?_
        refine c_seq ?_
        refine c_cond_p rfl (fun hlt => ?_) (fun hlt => ?_)
        · skip
          refine c_skip ?_
          refine k_then_n ?_
          refine c_seq ?_
          refine c_block ?_
          refine c_draw rfl (.q 0 (.q 1 (.q 2 (.q 3 (.q 4 (.q 5 ((.l 6 [4] (.q 7 ((.l 8 [4] ((.l 9 [] (.q 10 (.q 11 ((.l 12 [] (.done)))))))))))))))))) (by kernel_rfl) ?_
          refine q_move rfl rfl rfl rfl ?_
          refine q_move rfl rfl rfl rfl ?_
          refine q_nil_p rfl rfl rfl rfl ?_
          refine q_field (k := 2) rfl rfl rfl rfl Try.underlying77 rfl Try.sizeOf53 rfl ?_
          refine q_load_c (j := 2) rfl rfl rfl rfl Try.isAgg53 (by with_reducible (repeat (first | exact Take.here | apply Take.there))) (by first | rfl | exact (Nat.add_zero _).symm) (by rfl) ?_
          refine q_move rfl rfl rfl rfl ?_
          have sp_8 := below_spec b10 0 (sk (shN s n).1 j) st (by omega) (by omega)
          refine l_call rfl rfl rfl rfl rfl rfl Try.call46 (sp_8) (by (repeat ((with_reducible apply Takes.cons); focus (first | (with_reducible (repeat (first | exact Take.here | apply Take.there)); done) | (repeat (first | exact Take.here | apply Take.there))))); exact Takes.nil) ?_
          rintro ⟨⟩ -
          try simp only [List.cons_append, List.nil_append]
          refine ag_load_c (q := 2) rfl rfl rfl Try.isAgg53 (by with_reducible (repeat (first | exact Take.here | apply Take.there))) (by first | rfl | exact (Nat.add_zero _).symm) (by rfl) ?_
          refine ag_nil ?_
          refine q_int rfl rfl rfl rfl rfl (b_add' _ (by (first | exact fits_i64 (by omega) (by omega) | exact fits_u64 (by omega) (by omega) | exact fits_u32 (by omega) (by omega) | exact fits_u8 (by omega) (by omega)))) ?_
          refine l_buildSlice rfl rfl rfl rfl (run_build1 (us := [_]) Try.underlying53 Try.sizeOf3 rfl Try.zeroValue3 rfl rfl rfl) ?_
          intro b105
          refine ag_load_c (q := 2) rfl rfl rfl Try.isAgg53 (by with_reducible (repeat (first | exact Take.here | apply Take.there))) (by first | rfl | exact (Nat.add_zero _).symm) (by rfl) ?_
          refine ag_nil ?_
          refine l_append (sz := 1) (enc := encZ) (xs := (dr (fun x => blw st x + 1) (shN s n).1 j)) rfl rfl rfl rfl rfl Try.underlying53 Try.typeInfo3 rfl rfl rfl (by decide) (by with_reducible (repeat (first | exact Take.here | apply Take.there))) (by with_reducible (repeat (first | exact Take.here | apply Take.there))) (by first | rfl | omega | (simp; done) | (simp; omega)) (ys := [((blw st (nx (sk (shN s n).1 j) / 4294967296)) + 1)]) (rds_some rdn_cells) (by rfl) (by first | rfl | omega) (encZ_len) (encZ_one) (by omega) (by show _ * 8 ≤ _; omega) ?_
          intro ao106 cp106
          refine ag_nil ?_
          refine q_nil_p rfl rfl rfl rfl ?_
          refine q_field (k := 2) rfl rfl rfl rfl Try.underlying77 rfl Try.sizeOf53 rfl ?_
          refine l_store (j := 2) rfl rfl rfl rfl Try.sizeOf53 (us := [_]) rfl rfl rfl (by with_reducible (repeat (first | exact Take.here | apply Take.there))) (by first | rfl | exact (Nat.add_zero _).symm) (by first | decide | (simp; done) | omega) ?_
          simp only [setL, List.set]
          refine ag_nil ?_
          refine r_done ?_
          refine s_keep [3, 10, 15, 94, 95] (e' := [(3, _), (10, _), (15, _), (94, _), (95, _)]) rfl ?_
          refine k_blk_n ?_
          refine k_then_n ?_
          refine c_plain (.q 0 (.q 1 (.done))) (by kernel_rfl) ?_
          refine q_int rfl rfl rfl rfl rfl (b_add' _ (by (first | exact fits_i64 (by omega) (by omega) | exact fits_u64 (by omega) (by omega) | exact fits_u32 (by omega) (by omega) | exact fits_u8 (by omega) (by omega)))) ?_
          refine q_move rfl rfl rfl rfl ?_
          refine r_done ?_
          refine k_then_n ?_
          rw [show dr (fun x => blw st x + 1) (shN s n).1 j ++ [blw st (nx (sk (shN s n).1 j) / 4294967296) + 1] = dr (fun x => blw st x + 1) (shN s n).1 (j + 1) from dr_succ _ _ _]
          refine loop_next (x := (j, ac, cc)) ((j + 1, ao106, cp106)) ?_ ?_ ?_ ?_
          · try dsimp only
            exact ⟨by omega, trivial⟩
          · show (d - 1).toNat - (j + 1) < (d - 1).toNat - j; omega
          · exact ⟨rfl, rfl, rfl, rfl, rfl, trivial⟩
          · (try simp only [List.cons_append, List.nil_append]); (repeat ((with_reducible apply Takes.cons); focus (first | (with_reducible (repeat (first | exact Take.here | apply Take.there)); done) | (repeat (first | exact Take.here | apply Take.there))))); (repeat (first | exact Takes.nil | exact Takes.self | refine takes_drop2 ?_))
        · skip
          refine c_exit ?_
          refine k_then_exit ?_
          refine k_then_exit ?_
          refine k_blk_here ?_
          refine k_then_n ?_
          refine c_seq ?_
          refine c_plain (.q 0 (.q 1 (.q 2 (.done)))) (by kernel_rfl) ?_
          refine q_move rfl rfl rfl rfl ?_
          refine q_assign rfl rfl rfl rfl ?_
          refine q_assign rfl rfl rfl rfl ?_
          refine r_done ?_
          refine s_keep [8, 9] (e' := [(8, _), (9, _)]) rfl ?_
          refine k_then_n ?_
          refine c_ret ?_
          obtain rfl : j = (d - 1).toNat := by omega
          refine ch_fold (b := b75) (d := d) (rk := (rks d (shN s n).2 n)) (chs := (dr (fun x => blw st x + 1) (shN s n).1 (d - 1).toNat)) (m := 0) (by (repeat ((with_reducible apply Takes.cons); focus (first | (with_reducible (repeat (first | exact Take.here | apply Take.there)); done) | (repeat (first | exact Take.here | apply Take.there))))); exact Takes.nil) (by rw [rks_len, shN_len]) (by rw [dr_len]) ?_
          refine ret2 rfl rfl rfl (b75) (by first | rfl | (first | rfl | (congr 1; done) | (congr 1 <;> first | rfl | omega | (simp; done) | (simp; omega)))) (by trivial) ?_
          (repeat ((with_reducible apply Takes.cons); focus (first | (with_reducible (repeat (first | exact Take.here | apply Take.there)); done) | (repeat (first | exact Take.here | apply Take.there))))); (repeat (first | exact Takes.nil | exact Takes.self | refine takes_drop2 ?_))

theorem new_bad_spec (s th d st : Int) (hok : ¬ OkN th d st) : Spec Try.prog 22 [.int .u64 s, .int .i64 th, .int .i64 d, .int .i64 st] [] (fun (_ : Unit) => .tuple #[.pointer none, .int .i64 2]) (fun _ => True) (fun _ => []) := by
  refine spec_mk (n := 111) Try.func22 rfl rfl rfl ?_
  intro Γ w0
  simp only [argE, List.cons_append, List.nil_append, Nat.zero_add, Nat.reduceAdd]
  refine c_seq ?_
  refine c_plain (.q 0 (.q 1 (.done))) (by kernel_rfl) ?_
  refine q_assign rfl rfl rfl rfl ?_
  refine q_assign rfl rfl rfl rfl ?_
  refine r_done ?_
  refine k_then_n ?_
  refine c_seq ?_
  refine c_seq ?_
  refine c_plain (.q 0 (.q 1 (.q 2 (.q 3 (.q 4 (.q 5 (.q 6 (.q 7 (.q 8 (.q 9 (.q 10 (.q 11 (.q 12 (.q 13 (.q 14 (.q 15 (.q 16 (.done)))))))))))))))))) (by kernel_rfl) ?_
  refine q_move rfl rfl rfl rfl ?_
  refine q_move rfl rfl rfl rfl ?_
  refine q_move rfl rfl rfl rfl ?_
  refine q_min3 rfl rfl rfl rfl rfl rfl ?_
  refine q_int rfl rfl rfl rfl rfl (b_lss _ _ _ _) ?_
  refine q_move rfl rfl rfl rfl ?_
  refine s_bool_p 23 rfl (fun g_1 => ?_) (fun g_1 => ?_)
  · skip
    refine q_skip rfl rfl rfl rfl ?_
    refine q_skip rfl rfl rfl rfl ?_
    refine q_pick_t rfl rfl rfl rfl rfl ?_
    refine q_move rfl rfl rfl rfl ?_
    refine q_skip rfl rfl rfl rfl ?_
    refine q_skip rfl rfl rfl rfl ?_
    refine q_pick_t rfl rfl rfl rfl rfl ?_
    refine q_move rfl rfl rfl rfl ?_
    refine q_skip rfl rfl rfl rfl ?_
    refine q_skip rfl rfl rfl rfl ?_
    refine q_pick_t rfl rfl rfl rfl rfl ?_
    refine r_done ?_
    refine s_keep [0, 1, 2, 3, 34] (e' := [(0, _), (1, _), (2, _), (3, _), (34, _)]) rfl ?_
    refine k_then_n ?_
    refine c_cond_t rfl ?_
    refine c_seq ?_
    refine c_plain (.q 0 (.q 1 (.done))) (by kernel_rfl) ?_
    refine q_assign rfl rfl rfl rfl ?_
    refine q_assign rfl rfl rfl rfl ?_
    refine r_done ?_
    refine s_keep [8, 9] (e' := [(8, _), (9, _)]) rfl ?_
    refine k_then_n ?_
    refine c_ret ?_
    refine k_then_ret ?_
    refine ret2 rfl rfl rfl (()) (by first | rfl | (first | rfl | (congr 1; done) | (congr 1 <;> first | rfl | omega | (simp; done) | (simp; omega)))) (by trivial) ?_
    (repeat ((with_reducible apply Takes.cons); focus (first | (with_reducible (repeat (first | exact Take.here | apply Take.there)); done) | (repeat (first | exact Take.here | apply Take.there))))); (repeat (first | exact Takes.nil | exact Takes.self | refine takes_drop2 ?_))
  · skip
    refine q_move rfl rfl rfl rfl ?_
    refine q_int rfl rfl rfl rfl rfl (b_gtr _ _ _ _) ?_
    refine q_pick_f rfl rfl rfl rfl rfl ?_
    refine q_move rfl rfl rfl rfl ?_
    refine s_bool_p 27 rfl (fun g_2 => ?_) (fun g_2 => ?_)
    · skip
      refine q_skip rfl rfl rfl rfl ?_
      refine q_skip rfl rfl rfl rfl ?_
      refine q_pick_t rfl rfl rfl rfl rfl ?_
      refine q_move rfl rfl rfl rfl ?_
      refine q_skip rfl rfl rfl rfl ?_
      refine q_skip rfl rfl rfl rfl ?_
      refine q_pick_t rfl rfl rfl rfl rfl ?_
      refine r_done ?_
      refine s_keep [0, 1, 2, 3, 34] (e' := [(0, _), (1, _), (2, _), (3, _), (34, _)]) rfl ?_
      refine k_then_n ?_
      refine c_cond_t rfl ?_
      refine c_seq ?_
      refine c_plain (.q 0 (.q 1 (.done))) (by kernel_rfl) ?_
      refine q_assign rfl rfl rfl rfl ?_
      refine q_assign rfl rfl rfl rfl ?_
      refine r_done ?_
      refine s_keep [8, 9] (e' := [(8, _), (9, _)]) rfl ?_
      refine k_then_n ?_
      refine c_ret ?_
      refine k_then_ret ?_
      refine ret2 rfl rfl rfl (()) (by first | rfl | (first | rfl | (congr 1; done) | (congr 1 <;> first | rfl | omega | (simp; done) | (simp; omega)))) (by trivial) ?_
      (repeat ((with_reducible apply Takes.cons); focus (first | (with_reducible (repeat (first | exact Take.here | apply Take.there)); done) | (repeat (first | exact Take.here | apply Take.there))))); (repeat (first | exact Takes.nil | exact Takes.self | refine takes_drop2 ?_))
    · skip
      refine q_move rfl rfl rfl rfl ?_
      refine q_int rfl rfl rfl rfl rfl (b_gtr _ _ _ _) ?_
      refine q_pick_f rfl rfl rfl rfl rfl ?_
      refine q_move rfl rfl rfl rfl ?_
      refine s_bool_p 31 rfl (fun g_3 => ?_) (fun g_3 => ?_)
      · skip
        refine q_skip rfl rfl rfl rfl ?_
        refine q_skip rfl rfl rfl rfl ?_
        refine q_pick_t rfl rfl rfl rfl rfl ?_
        refine r_done ?_
        refine s_keep [0, 1, 2, 3, 34] (e' := [(0, _), (1, _), (2, _), (3, _), (34, _)]) rfl ?_
        refine k_then_n ?_
        refine c_cond_t rfl ?_
        refine c_seq ?_
        refine c_plain (.q 0 (.q 1 (.done))) (by kernel_rfl) ?_
        refine q_assign rfl rfl rfl rfl ?_
        refine q_assign rfl rfl rfl rfl ?_
        refine r_done ?_
        refine s_keep [8, 9] (e' := [(8, _), (9, _)]) rfl ?_
        refine k_then_n ?_
        refine c_ret ?_
        refine k_then_ret ?_
        refine ret2 rfl rfl rfl (()) (by first | rfl | (first | rfl | (congr 1; done) | (congr 1 <;> first | rfl | omega | (simp; done) | (simp; omega)))) (by trivial) ?_
        (repeat ((with_reducible apply Takes.cons); focus (first | (with_reducible (repeat (first | exact Take.here | apply Take.there)); done) | (repeat (first | exact Take.here | apply Take.there))))); (repeat (first | exact Takes.nil | exact Takes.self | refine takes_drop2 ?_))
      · skip
        refine q_move rfl rfl rfl rfl ?_
        refine q_int rfl rfl rfl rfl rfl (b_gtr _ _ _ _) ?_
        refine q_pick_f rfl rfl rfl rfl rfl ?_
        refine r_done ?_
        refine s_keep [0, 1, 2, 3, 34] (e' := [(0, _), (1, _), (2, _), (3, _), (34, _)]) rfl ?_
        refine k_then_n ?_
        refine c_cond_p rfl (fun h_4 => ?_) (fun h_4 => by exfalso; first | omega | contradiction | (simp_all; done) | (simp_all; omega))
        refine c_seq ?_
        refine c_plain (.q 0 (.q 1 (.done))) (by kernel_rfl) ?_
        refine q_assign rfl rfl rfl rfl ?_
        refine q_assign rfl rfl rfl rfl ?_
        refine r_done ?_
        refine s_keep [8, 9] (e' := [(8, _), (9, _)]) rfl ?_
        refine k_then_n ?_
        refine c_ret ?_
        refine k_then_ret ?_
        refine ret2 rfl rfl rfl (()) (by first | rfl | (first | rfl | (congr 1; done) | (congr 1 <;> first | rfl | omega | (simp; done) | (simp; omega)))) (by trivial) ?_
        (repeat ((with_reducible apply Takes.cons); focus (first | (with_reducible (repeat (first | exact Take.here | apply Take.there)); done) | (repeat (first | exact Take.here | apply Take.there))))); (repeat (first | exact Takes.nil | exact Takes.self | refine takes_drop2 ?_))

theorem rnew_spec (s : Int) (n : Nat) (d st : Int) (hok : OkN (n : Int) d st) : Spec Try.prog 31 [.int .u64 s, .int .i64 ((n : Nat) : Int), .int .i64 d, .int .i64 st] [] (fun (b : Nat) => .tuple #[.pointer (some ⟨b, 0, none⟩), .int .i64 0]) (fun b => True) (fun b => [ch b (newX s n d st)]) := by
  refine spec_mk (n := 123) Try.func31 rfl rfl rfl ?_
  intro Γ w0
  simp only [argE, List.cons_append, List.nil_append, Nat.zero_add, Nat.reduceAdd]
  obtain ⟨ho1, ho2, ho3, ho4, ho5, ho6⟩ := hok
  refine c_seq ?_
  refine c_plain (.q 0 (.q 1 (.done))) (by kernel_rfl) ?_
  refine q_assign rfl rfl rfl rfl ?_
  refine q_assign rfl rfl rfl rfl ?_
  refine r_done ?_
  refine k_then_n ?_
  refine c_seq ?_
  refine c_seq ?_
  refine c_plain (.q 0 (.q 1 (.q 2 (.q 3 (.q 4 (.q 5 (.q 6 (.q 7 (.q 8 (.q 9 (.q 10 (.q 11 (.q 12 (.q 13 (.q 14 (.q 15 (.q 16 (.q 17 (.q 18 (.q 19 (.q 20 (.q 21 (.done))))))))))))))))))))))) (by kernel_rfl) ?_
  refine q_move rfl rfl rfl rfl ?_
  refine q_int rfl rfl rfl rfl rfl (b_lss _ _ _ _) ?_
  refine q_move rfl rfl rfl rfl ?_
  refine s_bool_p 21 rfl (fun g_1 => by exfalso; first | omega | contradiction | (simp_all; done) | (simp_all; omega)) (fun g_1 => ?_)
  refine q_move rfl rfl rfl rfl ?_
  refine q_int rfl rfl rfl rfl rfl (b_gtr _ _ _ _) ?_
  refine q_pick_f rfl rfl rfl rfl rfl ?_
  refine q_move rfl rfl rfl rfl ?_
  refine s_bool_p 25 rfl (fun g_2 => by exfalso; first | omega | contradiction | (simp_all; done) | (simp_all; omega)) (fun g_2 => ?_)
  refine q_move rfl rfl rfl rfl ?_
  refine q_int rfl rfl rfl rfl rfl (b_lss _ _ _ _) ?_
  refine q_pick_f rfl rfl rfl rfl rfl ?_
  refine q_move rfl rfl rfl rfl ?_
  refine s_bool_p 29 rfl (fun g_3 => by exfalso; first | omega | contradiction | (simp_all; done) | (simp_all; omega)) (fun g_3 => ?_)
  refine q_move rfl rfl rfl rfl ?_
  refine q_int rfl rfl rfl rfl rfl (b_gtr _ _ _ _) ?_
  refine q_pick_f rfl rfl rfl rfl rfl ?_
  refine q_move rfl rfl rfl rfl ?_
  refine s_bool_p 33 rfl (fun g_4 => by exfalso; first | omega | contradiction | (simp_all; done) | (simp_all; omega)) (fun g_4 => ?_)
  refine q_move rfl rfl rfl rfl ?_
  refine q_int rfl rfl rfl rfl rfl (b_lss _ _ _ _) ?_
  refine q_pick_f rfl rfl rfl rfl rfl ?_
  refine q_move rfl rfl rfl rfl ?_
  refine s_bool_p 37 rfl (fun g_5 => by exfalso; first | omega | contradiction | (simp_all; done) | (simp_all; omega)) (fun g_5 => ?_)
  refine q_move rfl rfl rfl rfl ?_
  refine q_int rfl rfl rfl rfl rfl (b_gtr _ _ _ _) ?_
  refine q_pick_f rfl rfl rfl rfl rfl ?_
  refine r_done ?_
  refine s_keep [0, 1, 2, 3, 40] (e' := [(0, _), (1, _), (2, _), (3, _), (40, _)]) rfl ?_
  refine k_then_n ?_
  refine c_cond_p rfl (fun h_6 => by exfalso; first | omega | contradiction | (simp_all; done) | (simp_all; omega)) (fun h_6 => ?_)
  refine c_skip ?_
  refine k_then_n ?_
  refine c_seq ?_
  refine c_plain (.q 0 (.q 1 ((.l 2 [] (.q 3 (.done)))))) (by kernel_rfl) ?_
  refine q_move rfl rfl rfl rfl ?_
  refine q_build rfl rfl rfl rfl (vs := [_]) (run_buildS Try.underlying85 Try.zeroValue85 (ps := [(0, 1)]) ⟨rfl, Try.sizeOf34, trivial⟩ rfl) ?_
  refine l_box rfl rfl rfl rfl (us := [_]) rfl ?_
  intro b43
  refine ag_nil ?_
  refine q_assign rfl rfl rfl rfl ?_
  refine r_done ?_
  refine s_keep [1, 2, 3, 10] (e' := [(1, _), (2, _), (3, _), (10, _)]) rfl ?_
  refine k_then_n ?_
  refine c_seq ?_
  refine c_plain (.q 0 (.done)) (by kernel_rfl) ?_
  refine q_assign rfl rfl rfl rfl ?_
  refine r_done ?_
  refine k_then_n ?_
  refine c_seq ?_
  refine c_seq ?_
  refine c_plain (.q 0 (.done)) (by kernel_rfl) ?_
  refine q_assign rfl rfl rfl rfl ?_
  refine r_done ?_
  refine k_then_n ?_
  refine c_block ?_
  refine s_heap (fun _ h => own_nil (sz := 1) (enc := encZ) h) ?_
  refine c_loop2 (α := Nat × Option Addr × Nat) (fun (x_ : Nat × Option Addr × Nat) => match x_ with | (i, al, cl) => i ≤ n ∧ True) (fun (x_ : Nat × Option Addr × Nat) => match x_ with | (i, al, cl) => [(11, .slice al i cl), (12, .int .i64 ((i : Nat) : Int))]) (fun (x_ : Nat × Option Addr × Nat) => match x_ with | (i, al, cl) => [own 1 encZ al cl (rng i)]) (fun (x_ : Nat × Option Addr × Nat) => match x_ with | (i, al, cl) => n - i) [1, 2, 3, 10] (er := [(1, _), (2, _), (3, _), (10, _)]) rfl (0, none, 0) ?_ (by exact ⟨rfl, rfl, trivial⟩) (by (try dsimp only); (try simp only [Nat.add_zero, Nat.zero_add]); (repeat ((with_reducible apply Takes.cons); focus (first | (with_reducible (repeat (first | exact Take.here | apply Take.there)); done) | (repeat (first | exact Take.here | apply Take.there))))); exact Takes.nil) ?_
  · exact ⟨Nat.zero_le _, trivial⟩
  rintro ⟨i, al, cl⟩ ⟨hle_i, hc_⟩
  try simp only [List.cons_append, List.nil_append]
  have hrg := rng_len i
  refine c_seq ?_
  refine c_seq ?_
  refine c_plain (.q 0 (.q 1 (.q 2 (.done)))) (by kernel_rfl) ?_
  refine q_move rfl rfl rfl rfl ?_
  refine q_move rfl rfl rfl rfl ?_
  refine q_int rfl rfl rfl rfl rfl (b_lss _ _ _ _) ?_
  refine r_done ?_
  refine k_then_n ?_
  refine c_cond_p rfl (fun hlt => ?_) (fun hlt => ?_)
  · skip
    refine c_skip ?_
    refine k_then_n ?_
    refine c_seq ?_
    refine c_block ?_
    refine c_plain (.q 0 (.q 1 ((.l 2 [] ((.l 3 [] (.q 4 (.done)))))))) (by kernel_rfl) ?_
    refine q_move rfl rfl rfl rfl ?_
    refine q_move rfl rfl rfl rfl ?_
    refine l_buildSlice rfl rfl rfl rfl (run_build1 (us := [_]) Try.underlying53 Try.sizeOf3 rfl Try.zeroValue3 rfl rfl rfl) ?_
    intro b51
    refine ag_nil ?_
    refine l_append (sz := 1) (enc := encZ) (xs := (rng i)) rfl rfl rfl rfl rfl Try.underlying53 Try.typeInfo3 rfl rfl rfl (by decide) (by with_reducible (repeat (first | exact Take.here | apply Take.there))) (by with_reducible (repeat (first | exact Take.here | apply Take.there))) (by first | rfl | omega | (simp; done) | (simp; omega)) (ys := [((i : Nat) : Int)]) (rds_some rdn_cells) (by rfl) (by first | rfl | omega) (encZ_len) (encZ_one) (by omega) (by show _ * 8 ≤ _; omega) ?_
    intro ao52 cp52
    refine ag_nil ?_
    refine q_assign rfl rfl rfl rfl ?_
    refine r_done ?_
    refine s_keep [1, 2, 3, 10, 11, 12] (e' := [(1, _), (2, _), (3, _), (10, _), (11, _), (12, _)]) rfl ?_
    refine k_blk_n ?_
    refine k_then_n ?_
    refine c_plain (.q 0 (.q 1 (.q 2 (.done)))) (by kernel_rfl) ?_
    refine q_move rfl rfl rfl rfl ?_
    refine q_int rfl rfl rfl rfl rfl (b_add' _ (by (first | exact fits_i64 (by omega) (by omega) | exact fits_u64 (by omega) (by omega) | exact fits_u32 (by omega) (by omega) | exact fits_u8 (by omega) (by omega)))) ?_
    refine q_assign rfl rfl rfl rfl ?_
    refine r_done ?_
    refine k_then_n ?_
    rw [rng_succ]
    refine loop_next (x := (i, al, cl)) ((i + 1, ao52, cp52)) ?_ ?_ ?_ ?_
    · try dsimp only
      exact ⟨by omega, trivial⟩
    · show n - (i + 1) < n - i; omega
    · exact ⟨rfl, rfl, rfl, rfl, rfl, rfl, trivial⟩
    · (try simp only [List.cons_append, List.nil_append]); (repeat ((with_reducible apply Takes.cons); focus (first | (with_reducible (repeat (first | exact Take.here | apply Take.there)); done) | (repeat (first | exact Take.here | apply Take.there))))); (repeat (first | exact Takes.nil | exact Takes.self | refine takes_drop2 ?_))
  · skip
    refine c_exit ?_
    refine k_then_exit ?_
    refine k_then_exit ?_
    refine k_blk_here ?_
    refine k_then_n ?_
    refine c_seq ?_
    refine c_seq ?_
    refine c_plain (.q 0 (.q 1 (.q 2 (.done)))) (by kernel_rfl) ?_
    refine q_move rfl rfl rfl rfl ?_
    refine q_int rfl rfl rfl rfl rfl (b_sub' _ (by (first | exact fits_i64 (by omega) (by omega) | exact fits_u64 (by omega) (by omega) | exact fits_u32 (by omega) (by omega) | exact fits_u8 (by omega) (by omega)))) ?_
    refine q_assign rfl rfl rfl rfl ?_
    refine r_done ?_
    refine s_keep [1, 2, 3, 10, 11, 13] (e' := [(1, _), (2, _), (3, _), (10, _), (11, _), (13, _)]) rfl ?_
    refine k_then_n ?_
    refine c_block ?_
    obtain rfl : n = i := by omega
    refine s_eq 13 rfl (v' := .int .i64 ((n - 1 : Nat) : Int)) (by congr 1; omega) ?_
    refine c_loop2 (α := Nat × Int × List Int) (fun (x_ : Nat × Int × List Int) => match x_ with | (i, z, l) => shf i (z, l) = shN s n ∧ i + 1 ≤ n ∧ l.Perm (rng n)) (fun (x_ : Nat × Int × List Int) => match x_ with | (i, z, l) => [(13, .int .i64 ((i : Nat) : Int))]) (fun (x_ : Nat × Int × List Int) => match x_ with | (i, z, l) => [cells b43 0 [.int .u64 z], own 1 encZ al cl l]) (fun (x_ : Nat × Int × List Int) => match x_ with | (i, z, l) => i) [1, 2, 3, 10, 11] (er := [(1, _), (2, _), (3, _), (10, _), (11, _)]) rfl (n - 1, s, rng n) ?_ (by exact ⟨rfl, trivial⟩) (by (try dsimp only); (try simp only [Nat.add_zero, Nat.zero_add]); (repeat ((with_reducible apply Takes.cons); focus (first | (with_reducible (repeat (first | exact Take.here | apply Take.there)); done) | (repeat (first | exact Take.here | apply Take.there))))); exact Takes.nil) ?_
    · exact ⟨rfl, by omega, List.Perm.refl _⟩
    rintro ⟨i, z, l⟩ ⟨hsh, hin, hpm⟩
    try simp only [List.cons_append, List.nil_append]
    have hll : l.length = n := by rw [hpm.length_eq, rng_len]
    refine c_seq ?_
    refine c_seq ?_
    refine c_plain (.q 0 (.q 1 (.done))) (by kernel_rfl) ?_
    refine q_move rfl rfl rfl rfl ?_
    refine q_int rfl rfl rfl rfl rfl (b_geq _ _ _ _) ?_
    refine r_done ?_
    refine k_then_n ?_
    refine c_cond_p rfl (fun hlt => ?_) (fun hlt => ?_)
    · skip
      refine c_skip ?_
      refine k_then_n ?_
      refine c_seq ?_
      refine c_block ?_
      refine c_seq ?_
      refine c_plain (.q 0 (.q 1 (.q 2 (.q 3 ((.l 4 [] (.q 5 (.q 6 (.done))))))))) (by kernel_rfl) ?_
      refine q_move rfl rfl rfl rfl ?_
      refine q_move rfl rfl rfl rfl ?_
      refine q_int rfl rfl rfl rfl rfl (b_add' _ (by (first | exact fits_i64 (by omega) (by omega) | exact fits_u64 (by omega) (by omega) | exact fits_u32 (by omega) (by omega) | exact fits_u8 (by omega) (by omega)))) ?_
      refine q_conv' rfl rfl rfl rfl Try.underlying34 Try.underlying3 (by (first | exact fits_i64 (by omega) (by omega) | exact fits_u64 (by omega) (by omega) | exact fits_u32 (by omega) (by omega) | exact fits_u8 (by omega) (by omega))) ?_
      have hkr := blw_rng (s := z) (n := (i : Int) + 1) (by omega) (by omega)
      have sp_7 := rbelow_spec b43 0 z ((i : Int) + 1) (by omega) (by omega)
      refine l_call rfl rfl rfl rfl rfl rfl Try.call43 (sp_7) (by (repeat ((with_reducible apply Takes.cons); focus (first | (with_reducible (repeat (first | exact Take.here | apply Take.there)); done) | (repeat (first | exact Take.here | apply Take.there))))); exact Takes.nil) ?_
      rintro ⟨⟩ -
      try simp only [List.cons_append, List.nil_append]
      refine ag_nil ?_
      refine q_conv' rfl rfl rfl rfl Try.underlying3 Try.underlying34 (by (first | exact fits_i64 (by omega) (by omega) | exact fits_u64 (by omega) (by omega) | exact fits_u32 (by omega) (by omega) | exact fits_u8 (by omega) (by omega))) ?_
      refine q_assign rfl rfl rfl rfl ?_
      refine r_done ?_
      refine s_keep [1, 2, 3, 10, 11, 13, 14] (e' := [(1, _), (2, _), (3, _), (10, _), (11, _), (13, _), (14, _)]) rfl ?_
      refine k_then_n ?_
      refine c_seq ?_
      refine c_plain (.q 0 (.q 1 (.q 2 (.q 3 (.q 4 (.done)))))) (by kernel_rfl) ?_
      refine q_move rfl rfl rfl rfl ?_
      refine q_move rfl rfl rfl rfl ?_
      obtain ⟨x, hx⟩ := get_lt (l := l) (i := i) (by first | omega | (simp; done) | (simp; omega))
      refine q_idxO (sz := 0) (k := i) (enc := encZ) (xs := l) rfl rfl rfl rfl rfl Try.underlying53 Try.sizeOf3 hx (by first | rfl | omega) (by omega) (by with_reducible (repeat (first | exact Take.here | apply Take.there))) ?_
      intro ib67 io67 ha67 hl67 hc67
      refine q_load_O (j := 0) (k' := i) (enc := encZ) (off := io67) rfl rfl rfl rfl Try.isAgg3 ha67 encZ_len hx (by with_reducible (repeat (first | exact Take.here | apply Take.there))) (by first | rfl | exact (Nat.add_zero _).symm | omega) (by rfl) ?_
      refine q_assign rfl rfl rfl rfl ?_
      refine r_done ?_
      refine s_keep [1, 2, 3, 10, 11, 13, 14, 15] (e' := [(1, _), (2, _), (3, _), (10, _), (11, _), (13, _), (14, _), (15, _)]) rfl ?_
      refine k_then_n ?_
      refine c_seq ?_
      refine c_plain (.q 0 (.q 1 (.q 2 (.q 3 (.q 4 (.q 5 (.q 6 ((.l 7 [] (.done)))))))))) (by kernel_rfl) ?_
      refine q_move rfl rfl rfl rfl ?_
      refine q_move rfl rfl rfl rfl ?_
      refine q_move rfl rfl rfl rfl ?_
      refine q_move rfl rfl rfl rfl ?_
      obtain ⟨y, hy⟩ := get_lt (l := l) (i := (blw ((i : Int) + 1) (nx z / 4294967296)).toNat) (by first | omega | (simp; done) | (simp; omega))
      refine q_idxO (sz := 0) (k := (blw ((i : Int) + 1) (nx z / 4294967296)).toNat) (enc := encZ) (xs := l) rfl rfl rfl rfl rfl Try.underlying53 Try.sizeOf3 hy (by first | rfl | omega) (by omega) (by with_reducible (repeat (first | exact Take.here | apply Take.there))) ?_
      intro ib73 io73 ha73 hl73 hc73
      refine q_load_O (j := 0) (k' := (blw ((i : Int) + 1) (nx z / 4294967296)).toNat) (enc := encZ) (off := io73) rfl rfl rfl rfl Try.isAgg3 ha73 encZ_len hy (by with_reducible (repeat (first | exact Take.here | apply Take.there))) (by first | rfl | exact (Nat.add_zero _).symm | omega) (by rfl) ?_
      refine q_idxO (sz := 0) (k := i) (enc := encZ) (xs := l) rfl rfl rfl rfl rfl Try.underlying53 Try.sizeOf3 hx (by first | rfl | omega) (by omega) (by with_reducible (repeat (first | exact Take.here | apply Take.there))) ?_
      intro ib75 io75 ha75 hl75 hc75
      refine l_store_O (j := 0) (k := i) (q := y) (enc := encZ) (off := io75) rfl rfl rfl rfl Try.sizeOf3 (us := [_]) rfl rfl rfl ha75 encZ_len hx (by with_reducible (repeat (first | exact Take.here | apply Take.there))) (by first | rfl | exact (Nat.add_zero _).symm | omega) (by first | decide | exact Nat.le_of_ble_eq_true rfl) (by rfl) ?_
      refine ag_nil ?_
      refine r_done ?_
      refine s_keep [1, 2, 3, 10, 11, 13, 14, 15] (e' := [(1, _), (2, _), (3, _), (10, _), (11, _), (13, _), (14, _), (15, _)]) rfl ?_
      refine k_then_n ?_
      refine c_plain (.q 0 (.q 1 (.q 2 (.q 3 ((.l 4 [] (.done))))))) (by kernel_rfl) ?_
      refine q_move rfl rfl rfl rfl ?_
      refine q_move rfl rfl rfl rfl ?_
      refine q_move rfl rfl rfl rfl ?_
      obtain ⟨y2, hy2⟩ := get_lt (l := (l.set i y)) (i := (blw ((i : Int) + 1) (nx z / 4294967296)).toNat) (by first | omega | (simp; done) | (simp; omega))
      refine q_idxO (sz := 0) (k := (blw ((i : Int) + 1) (nx z / 4294967296)).toNat) (enc := encZ) (xs := (l.set i y)) rfl rfl rfl rfl rfl Try.underlying53 Try.sizeOf3 hy2 (by first | rfl | omega) (by omega) (by with_reducible (repeat (first | exact Take.here | apply Take.there))) ?_
      intro ib79 io79 ha79 hl79 hc79
      refine l_store_O (j := 0) (k := (blw ((i : Int) + 1) (nx z / 4294967296)).toNat) (q := x) (enc := encZ) (off := io79) rfl rfl rfl rfl Try.sizeOf3 (us := [_]) rfl rfl rfl ha79 encZ_len hy2 (by with_reducible (repeat (first | exact Take.here | apply Take.there))) (by first | rfl | exact (Nat.add_zero _).symm | omega) (by first | decide | exact Nat.le_of_ble_eq_true rfl) (by rfl) ?_
      refine ag_nil ?_
      refine r_done ?_
      rw [swp_of hx hy]
      refine s_keep [1, 2, 3, 10, 11, 13] (e' := [(1, _), (2, _), (3, _), (10, _), (11, _), (13, _)]) rfl ?_
      refine k_blk_n ?_
      refine k_then_n ?_
      refine c_plain (.q 0 (.q 1 (.q 2 (.done)))) (by kernel_rfl) ?_
      refine q_move rfl rfl rfl rfl ?_
      refine q_int rfl rfl rfl rfl rfl (b_sub' _ (by (first | exact fits_i64 (by omega) (by omega) | exact fits_u64 (by omega) (by omega) | exact fits_u32 (by omega) (by omega) | exact fits_u8 (by omega) (by omega)))) ?_
      refine q_assign rfl rfl rfl rfl ?_
      refine r_done ?_
      refine k_then_n ?_
      refine s_eq 13 rfl (v' := .int .i64 ((i - 1 : Nat) : Int)) (by congr 1; omega) ?_
      refine loop_next (x := (i, z, l)) ((i - 1, nx z, swp l i (blw ((i : Int) + 1) (nx z / 4294967296)).toNat)) ?_ ?_ ?_ ?_
      · try dsimp only
        exact ⟨by rw [← hsh]; obtain ⟨q, rfl⟩ : ∃ q, i = q + 1 := ⟨i - 1, by omega⟩; show _ = shf q (nx z, swp l (q + 1) (blw ((q : Int) + 2) (nx z / 4294967296)).toNat); rw [show ((q + 1 : Nat) : Int) + 1 = (q : Int) + 2 from by omega]; rfl, by omega, (swp_perm _ _ _).trans hpm⟩
      · show i - 1 < i; omega
      · exact ⟨rfl, rfl, rfl, rfl, rfl, rfl, trivial⟩
      · (try simp only [List.cons_append, List.nil_append]); (repeat ((with_reducible apply Takes.cons); focus (first | (with_reducible (repeat (first | exact Take.here | apply Take.there)); done) | (repeat (first | exact Take.here | apply Take.there))))); (repeat (first | exact Takes.nil | exact Takes.self | refine takes_drop2 ?_))
    · skip
      refine c_exit ?_
      refine k_then_exit ?_
      refine k_then_exit ?_
      refine k_blk_here ?_
      refine k_then_n ?_
      refine c_seq ?_
      obtain rfl : i = 0 := by omega
      have hzl : z = (shN s n).1 ∧ l = (shN s n).2 := by rw [← hsh]; exact ⟨rfl, rfl⟩
      obtain ⟨rfl, rfl⟩ := hzl
      have hsl := shN_len s n
      refine c_plain (.q 0 (.q 1 ((.l 2 [] (.q 3 ((.l 4 [] (.q 5 (.done))))))))) (by kernel_rfl) ?_
      refine q_move rfl rfl rfl rfl ?_
      refine q_move rfl rfl rfl rfl ?_
      refine l_make (sz := 1) (enc := encZ) (len := n) (cap := n) (0) rfl rfl rfl rfl rfl (by first | rfl | omega) (by first | rfl | omega) Try.underlying53 Try.typeInfo3 rfl rfl rfl (by decide) (by omega) (by omega) (by show 8 * _ ≤ _; omega) (by rfl) (encZ_len) ?_
      intro b82
      refine ag_nil ?_
      refine q_build rfl rfl rfl rfl (vs := [_, _, _, _]) (run_buildS Try.underlying71 Try.zeroValue71 (ps := [(0, 1), (1, 1), (2, 1), (3, 1)]) ⟨rfl, Try.sizeOf3, rfl, Try.sizeOf53, rfl, Try.sizeOf53, rfl, Try.sizeOf3, trivial⟩ rfl) ?_
      refine l_box rfl rfl rfl rfl (us := [_, _, _, _]) rfl ?_
      intro b84
      refine ag_nil ?_
      refine q_assign rfl rfl rfl rfl ?_
      refine r_done ?_
      refine s_keep [1, 2, 3, 10, 11, 16] (e' := [(1, _), (2, _), (3, _), (10, _), (11, _), (16, _)]) rfl ?_
      refine k_then_n ?_
      refine c_seq ?_
      refine c_seq ?_
      refine c_plain (.q 0 (.done)) (by kernel_rfl) ?_
      refine q_assign rfl rfl rfl rfl ?_
      refine r_done ?_
      refine k_then_n ?_
      refine c_block ?_
      refine c_loop2 (α := Nat × List Int) (fun (x_ : Nat × List Int) => match x_ with | (i, rk) => i ≤ n ∧ (rk = rks d (shN s n).2 i)) (fun (x_ : Nat × List Int) => match x_ with | (i, rk) => [(17, .int .i64 ((i : Nat) : Int))]) (fun (x_ : Nat × List Int) => match x_ with | (i, rk) => [cells b84 0 [.int .i64 d, .slice (some ⟨b82, 0, none⟩) n n, .slice none 0 0, .int .i64 0], own 1 encZ (some ⟨b82, 0, none⟩) n rk]) (fun (x_ : Nat × List Int) => match x_ with | (i, rk) => n - i) [1, 2, 3, 10, 11, 16] (er := [(1, _), (2, _), (3, _), (10, _), (11, _), (16, _)]) rfl (0, List.replicate n 0) ?_ (by exact ⟨rfl, trivial⟩) (by (try dsimp only); (try simp only [Nat.add_zero, Nat.zero_add]); (repeat ((with_reducible apply Takes.cons); focus (first | (with_reducible (repeat (first | exact Take.here | apply Take.there)); done) | (repeat (first | exact Take.here | apply Take.there))))); exact Takes.nil) ?_
      · exact ⟨Nat.zero_le _, by simp [rks, shN_len]⟩
      rintro ⟨i, rk⟩ ⟨hle_i, hrk⟩
      try simp only [List.cons_append, List.nil_append]
      have hsl := shN_len s n
      have hrl : rk.length = n := by rw [hrk, rks_len, hsl]
      refine c_seq ?_
      refine c_seq ?_
      refine c_plain (.q 0 (.q 1 (.q 2 (.done)))) (by kernel_rfl) ?_
      refine q_move rfl rfl rfl rfl ?_
      refine q_move rfl rfl rfl rfl ?_
      refine q_int rfl rfl rfl rfl rfl (b_lss _ _ _ _) ?_
      refine r_done ?_
      refine k_then_n ?_
      refine c_cond_p rfl (fun hlt => ?_) (fun hlt => ?_)
      · skip
        refine c_skip ?_
        refine k_then_n ?_
        refine c_seq ?_
        refine c_block ?_
        refine c_draw rfl (.q 0 (.q 1 (.q 2 (.q 3 (.q 4 (.q 5 (.q 6 (.q 7 (.q 8 (.q 9 (.q 10 (.q 11 ((.l 12 [] (.done))))))))))))))) (by kernel_rfl) ?_
        refine q_move rfl rfl rfl rfl ?_
        refine q_nil_p rfl rfl rfl rfl ?_
        refine q_field (k := 1) rfl rfl rfl rfl Try.underlying71 rfl Try.sizeOf53 rfl ?_
        refine q_load_c (j := 1) rfl rfl rfl rfl Try.isAgg53 (by with_reducible (repeat (first | exact Take.here | apply Take.there))) (by first | rfl | exact (Nat.add_zero _).symm) (by rfl) ?_
        refine q_move rfl rfl rfl rfl ?_
        refine q_move rfl rfl rfl rfl ?_
        obtain ⟨t, ht⟩ := get_lt (l := (shN s n).2) (i := i) (by first | omega | (simp; done) | (simp; omega))
        have htm : 0 ≤ t ∧ t < (n : Int) := rng_mem.1 ((shN_perm s n).mem_iff.1 (List.mem_of_getElem? ht))
        refine q_idxO (sz := 0) (k := i) (enc := encZ) (xs := (shN s n).2) rfl rfl rfl rfl rfl Try.underlying53 Try.sizeOf3 ht (by first | rfl | omega) (by omega) (by with_reducible (repeat (first | exact Take.here | apply Take.there))) ?_
        intro ib96 io96 ha96 hl96 hc96
        refine q_load_O (j := 0) (k' := i) (enc := encZ) (off := io96) rfl rfl rfl rfl Try.isAgg3 ha96 encZ_len ht (by with_reducible (repeat (first | exact Take.here | apply Take.there))) (by first | rfl | exact (Nat.add_zero _).symm | omega) (by rfl) ?_
        refine q_move rfl rfl rfl rfl ?_
        refine q_move rfl rfl rfl rfl ?_
        refine q_int rfl rfl rfl rfl rfl (b_add' _ (by (first | exact fits_i64 (by omega) (by omega) | exact fits_u64 (by omega) (by omega) | exact fits_u32 (by omega) (by omega) | exact fits_u8 (by omega) (by omega)))) ?_
        obtain ⟨e_8, he_8⟩ := get_lt (l := rk) (i := t.toNat) (by first | omega | (simp; done) | (simp; omega))
        refine q_idxO (sz := 0) (k := t.toNat) (enc := encZ) (xs := rk) rfl rfl rfl rfl rfl Try.underlying53 Try.sizeOf3 he_8 (by first | rfl | omega) (by omega) (by with_reducible (repeat (first | exact Take.here | apply Take.there))) ?_
        intro ib101 io101 ha101 hl101 hc101
        refine l_store_O (j := 0) (k := t.toNat) (q := (d + ((i : Nat) : Int))) (enc := encZ) (off := io101) rfl rfl rfl rfl Try.sizeOf3 (us := [_]) rfl rfl rfl ha101 encZ_len he_8 (by with_reducible (repeat (first | exact Take.here | apply Take.there))) (by first | rfl | exact (Nat.add_zero _).symm | omega) (by first | decide | exact Nat.le_of_ble_eq_true rfl) (by rfl) ?_
        refine ag_nil ?_
        refine r_done ?_
        refine s_keep [1, 2, 3, 10, 11, 16, 17] (e' := [(1, _), (2, _), (3, _), (10, _), (11, _), (16, _), (17, _)]) rfl ?_
        refine k_blk_n ?_
        refine k_then_n ?_
        refine c_plain (.q 0 (.q 1 (.q 2 (.done)))) (by kernel_rfl) ?_
        refine q_move rfl rfl rfl rfl ?_
        refine q_int rfl rfl rfl rfl rfl (b_add' _ (by (first | exact fits_i64 (by omega) (by omega) | exact fits_u64 (by omega) (by omega) | exact fits_u32 (by omega) (by omega) | exact fits_u8 (by omega) (by omega)))) ?_
        refine q_assign rfl rfl rfl rfl ?_
        refine r_done ?_
        refine k_then_n ?_
        rw [show rk.set t.toNat (d + (i : Int)) = rks d (shN s n).2 (i + 1) from by rw [hrk, rks_next ht]]
        refine loop_next (x := (i, rk)) ((i + 1, rks d (shN s n).2 (i + 1))) ?_ ?_ ?_ ?_
        · try dsimp only
          exact ⟨by omega, rfl⟩
        · show n - (i + 1) < n - i; omega
        · exact ⟨rfl, rfl, rfl, rfl, rfl, rfl, rfl, trivial⟩
        · (try simp only [List.cons_append, List.nil_append]); (repeat ((with_reducible apply Takes.cons); focus (first | (with_reducible (repeat (first | exact Take.here | apply Take.there)); done) | (repeat (first | exact Take.here | apply Take.there))))); (repeat (first | exact Takes.nil | exact Takes.self | refine takes_drop2 ?_))
      · skip
        refine c_exit ?_
        refine k_then_exit ?_
        refine k_then_exit ?_
        refine k_blk_here ?_
        refine k_then_n ?_
        refine c_seq ?_
        refine c_seq ?_
        refine c_plain (.q 0 (.done)) (by kernel_rfl) ?_
        refine q_assign rfl rfl rfl rfl ?_
        refine r_done ?_
        refine s_keep [2, 3, 10, 16, 18] (e' := [(2, _), (3, _), (10, _), (16, _), (18, _)]) rfl ?_
        refine k_then_n ?_
        refine c_block ?_
        obtain rfl : n = i := by omega
        subst hrk
        refine s_heap (fun _ h => own_nil (sz := 1) (enc := encZ) h) ?_
        refine c_loop2 (α := Nat × Option Addr × Nat) (fun (x_ : Nat × Option Addr × Nat) => match x_ with | (j, ac, cc) => j ≤ (d - 1).toNat ∧ True) (fun (x_ : Nat × Option Addr × Nat) => match x_ with | (j, ac, cc) => [(18, .int .i64 (((j : Nat) : Int) + 1))]) (fun (x_ : Nat × Option Addr × Nat) => match x_ with | (j, ac, cc) => [cells b84 0 [.int .i64 d, .slice (some ⟨b82, 0, none⟩) n n, .slice ac j cc, .int .i64 0], own 1 encZ (some ⟨b82, 0, none⟩) n (rks d (shN s n).2 n), own 1 encZ ac cc (dr (fun x => blw st x + 1) (shN s n).1 j), cells b43 0 [.int .u64 (sk (shN s n).1 j)]]) (fun (x_ : Nat × Option Addr × Nat) => match x_ with | (j, ac, cc) => (d - 1).toNat - j) [2, 3, 10, 16] (er := [(2, _), (3, _), (10, _), (16, _)]) rfl (0, none, 0) ?_ (by exact ⟨rfl, trivial⟩) (by (try dsimp only); (try simp only [Nat.add_zero, Nat.zero_add]); (repeat ((with_reducible apply Takes.cons); focus (first | (with_reducible (repeat (first | exact Take.here | apply Take.there)); done) | (repeat (first | exact Take.here | apply Take.there))))); exact Takes.nil) ?_
        · exact ⟨Nat.zero_le _, trivial⟩
        rintro ⟨j, ac, cc⟩ ⟨hle_j, hcc⟩
        try simp only [List.cons_append, List.nil_append]
        have hdl := dr_len (fun x => blw st x + 1) (shN s n).1 j
        have hbr := blw_rng (s := sk (shN s n).1 j) (n := st) (by omega) (by omega)
        refine c_seq ?_
        refine c_seq ?_
        refine c_plain (.q 0 (.q 1 (.q 2 (.done)))) (by kernel_rfl) ?_
        refine q_move rfl rfl rfl rfl ?_
        refine q_move rfl rfl rfl rfl ?_
        refine q_int rfl rfl rfl rfl rfl (b_lss _ _ _ _) ?_
        refine r_done ?_
        refine k_then_n ?_
        refine c_cond_p rfl (fun hlt => ?_) (fun hlt => ?_)
        · skip
          refine c_skip ?_
          refine k_then_n ?_
          refine c_seq ?_
          refine c_block ?_
          refine c_draw rfl (.q 0 (.q 1 (.q 2 (.q 3 (.q 4 (.q 5 (.q 6 (.q 7 ((.l 8 [4] (.q 9 (.q 10 ((.l 11 [4] ((.l 12 [] (.q 13 (.q 14 ((.l 15 [] (.done))))))))))))))))))))) (by kernel_rfl) ?_
          refine q_move rfl rfl rfl rfl ?_
          refine q_move rfl rfl rfl rfl ?_
          refine q_nil_p rfl rfl rfl rfl ?_
          refine q_field (k := 2) rfl rfl rfl rfl Try.underlying71 rfl Try.sizeOf53 rfl ?_
          refine q_load_c (j := 2) rfl rfl rfl rfl Try.isAgg53 (by with_reducible (repeat (first | exact Take.here | apply Take.there))) (by first | rfl | exact (Nat.add_zero _).symm) (by rfl) ?_
          refine q_move rfl rfl rfl rfl ?_
          refine q_move rfl rfl rfl rfl ?_
          refine q_conv' rfl rfl rfl rfl Try.underlying34 Try.underlying3 (by (first | exact fits_i64 (by omega) (by omega) | exact fits_u64 (by omega) (by omega) | exact fits_u32 (by omega) (by omega) | exact fits_u8 (by omega) (by omega))) ?_
          have sp_9 := rbelow_spec b43 0 (sk (shN s n).1 j) st (by omega) (by omega)
          refine l_call rfl rfl rfl rfl rfl rfl Try.call43 (sp_9) (by (repeat ((with_reducible apply Takes.cons); focus (first | (with_reducible (repeat (first | exact Take.here | apply Take.there)); done) | (repeat (first | exact Take.here | apply Take.there))))); exact Takes.nil) ?_
          rintro ⟨⟩ -
          try simp only [List.cons_append, List.nil_append]
          refine ag_load_c (q := 2) rfl rfl rfl Try.isAgg53 (by with_reducible (repeat (first | exact Take.here | apply Take.there))) (by first | rfl | exact (Nat.add_zero _).symm) (by rfl) ?_
          refine ag_nil ?_
          refine q_conv' rfl rfl rfl rfl Try.underlying3 Try.underlying34 (by (first | exact fits_i64 (by omega) (by omega) | exact fits_u64 (by omega) (by omega) | exact fits_u32 (by omega) (by omega) | exact fits_u8 (by omega) (by omega))) ?_
          refine q_int rfl rfl rfl rfl rfl (b_add' _ (by (first | exact fits_i64 (by omega) (by omega) | exact fits_u64 (by omega) (by omega) | exact fits_u32 (by omega) (by omega) | exact fits_u8 (by omega) (by omega)))) ?_
          refine l_buildSlice rfl rfl rfl rfl (run_build1 (us := [_]) Try.underlying53 Try.sizeOf3 rfl Try.zeroValue3 rfl rfl rfl) ?_
          intro b118
          refine ag_load_c (q := 2) rfl rfl rfl Try.isAgg53 (by with_reducible (repeat (first | exact Take.here | apply Take.there))) (by first | rfl | exact (Nat.add_zero _).symm) (by rfl) ?_
          refine ag_nil ?_
          refine l_append (sz := 1) (enc := encZ) (xs := (dr (fun x => blw st x + 1) (shN s n).1 j)) rfl rfl rfl rfl rfl Try.underlying53 Try.typeInfo3 rfl rfl rfl (by decide) (by with_reducible (repeat (first | exact Take.here | apply Take.there))) (by with_reducible (repeat (first | exact Take.here | apply Take.there))) (by first | rfl | omega | (simp; done) | (simp; omega)) (ys := [((blw st (nx (sk (shN s n).1 j) / 4294967296)) + 1)]) (rds_some rdn_cells) (by rfl) (by first | rfl | omega) (encZ_len) (encZ_one) (by omega) (by show _ * 8 ≤ _; omega) ?_
          intro ao119 cp119
          refine ag_nil ?_
          refine q_nil_p rfl rfl rfl rfl ?_
          refine q_field (k := 2) rfl rfl rfl rfl Try.underlying71 rfl Try.sizeOf53 rfl ?_
          refine l_store (j := 2) rfl rfl rfl rfl Try.sizeOf53 (us := [_]) rfl rfl rfl (by with_reducible (repeat (first | exact Take.here | apply Take.there))) (by first | rfl | exact (Nat.add_zero _).symm) (by first | decide | (simp; done) | omega) ?_
          simp only [setL, List.set]
          refine ag_nil ?_
          refine r_done ?_
          refine s_keep [2, 3, 10, 16, 18] (e' := [(2, _), (3, _), (10, _), (16, _), (18, _)]) rfl ?_
          refine k_blk_n ?_
          refine k_then_n ?_
          refine c_plain (.q 0 (.q 1 (.q 2 (.done)))) (by kernel_rfl) ?_
          refine q_move rfl rfl rfl rfl ?_
          refine q_int rfl rfl rfl rfl rfl (b_add' _ (by (first | exact fits_i64 (by omega) (by omega) | exact fits_u64 (by omega) (by omega) | exact fits_u32 (by omega) (by omega) | exact fits_u8 (by omega) (by omega)))) ?_
          refine q_assign rfl rfl rfl rfl ?_
          refine r_done ?_
          refine k_then_n ?_
          rw [show dr (fun x => blw st x + 1) (shN s n).1 j ++ [blw st (nx (sk (shN s n).1 j) / 4294967296) + 1] = dr (fun x => blw st x + 1) (shN s n).1 (j + 1) from dr_succ _ _ _]
          refine loop_next (x := (j, ac, cc)) ((j + 1, ao119, cp119)) ?_ ?_ ?_ ?_
          · try dsimp only
            exact ⟨by omega, trivial⟩
          · show (d - 1).toNat - (j + 1) < (d - 1).toNat - j; omega
          · exact ⟨rfl, rfl, rfl, rfl, rfl, trivial⟩
          · (try simp only [List.cons_append, List.nil_append]); (repeat ((with_reducible apply Takes.cons); focus (first | (with_reducible (repeat (first | exact Take.here | apply Take.there)); done) | (repeat (first | exact Take.here | apply Take.there))))); (repeat (first | exact Takes.nil | exact Takes.self | refine takes_drop2 ?_))
        · skip
          refine c_exit ?_
          refine k_then_exit ?_
          refine k_then_exit ?_
          refine k_blk_here ?_
          refine k_then_n ?_
          refine c_seq ?_
          refine c_plain (.q 0 (.q 1 (.q 2 (.done)))) (by kernel_rfl) ?_
          refine q_move rfl rfl rfl rfl ?_
          refine q_assign rfl rfl rfl rfl ?_
          refine q_assign rfl rfl rfl rfl ?_
          refine r_done ?_
          refine s_keep [8, 9] (e' := [(8, _), (9, _)]) rfl ?_
          refine k_then_n ?_
          refine c_ret ?_
          obtain rfl : j = (d - 1).toNat := by omega
          refine ch_fold (b := b84) (d := d) (rk := (rks d (shN s n).2 n)) (chs := (dr (fun x => blw st x + 1) (shN s n).1 (d - 1).toNat)) (m := 0) (by (repeat ((with_reducible apply Takes.cons); focus (first | (with_reducible (repeat (first | exact Take.here | apply Take.there)); done) | (repeat (first | exact Take.here | apply Take.there))))); exact Takes.nil) (by rw [rks_len, shN_len]) (by rw [dr_len]) ?_
          refine ret2 rfl rfl rfl (b84) (by first | rfl | (first | rfl | (congr 1; done) | (congr 1 <;> first | rfl | omega | (simp; done) | (simp; omega)))) (by trivial) ?_
          (repeat ((with_reducible apply Takes.cons); focus (first | (with_reducible (repeat (first | exact Take.here | apply Take.there)); done) | (repeat (first | exact Take.here | apply Take.there))))); (repeat (first | exact Takes.nil | exact Takes.self | refine takes_drop2 ?_))

theorem rnew_bad_spec (s th d st : Int) (hok : ¬ OkN th d st) : Spec Try.prog 31 [.int .u64 s, .int .i64 th, .int .i64 d, .int .i64 st] [] (fun (_ : Unit) => .tuple #[.pointer none, .int .i64 2]) (fun _ => True) (fun _ => []) := by
  refine spec_mk (n := 123) Try.func31 rfl rfl rfl ?_
  intro Γ w0
  simp only [argE, List.cons_append, List.nil_append, Nat.zero_add, Nat.reduceAdd]
  refine c_seq ?_
  refine c_plain (.q 0 (.q 1 (.done))) (by kernel_rfl) ?_
  refine q_assign rfl rfl rfl rfl ?_
  refine q_assign rfl rfl rfl rfl ?_
  refine r_done ?_
  refine k_then_n ?_
  refine c_seq ?_
  refine c_seq ?_
  refine c_plain (.q 0 (.q 1 (.q 2 (.q 3 (.q 4 (.q 5 (.q 6 (.q 7 (.q 8 (.q 9 (.q 10 (.q 11 (.q 12 (.q 13 (.q 14 (.q 15 (.q 16 (.q 17 (.q 18 (.q 19 (.q 20 (.q 21 (.done))))))))))))))))))))))) (by kernel_rfl) ?_
  refine q_move rfl rfl rfl rfl ?_
  refine q_int rfl rfl rfl rfl rfl (b_lss _ _ _ _) ?_
  refine q_move rfl rfl rfl rfl ?_
  refine s_bool_p 21 rfl (fun g_1 => ?_) (fun g_1 => ?_)
  · skip
    refine q_skip rfl rfl rfl rfl ?_
    refine q_skip rfl rfl rfl rfl ?_
    refine q_pick_t rfl rfl rfl rfl rfl ?_
    refine q_move rfl rfl rfl rfl ?_
    refine q_skip rfl rfl rfl rfl ?_
    refine q_skip rfl rfl rfl rfl ?_
    refine q_pick_t rfl rfl rfl rfl rfl ?_
    refine q_move rfl rfl rfl rfl ?_
    refine q_skip rfl rfl rfl rfl ?_
    refine q_skip rfl rfl rfl rfl ?_
    refine q_pick_t rfl rfl rfl rfl rfl ?_
    refine q_move rfl rfl rfl rfl ?_
    refine q_skip rfl rfl rfl rfl ?_
    refine q_skip rfl rfl rfl rfl ?_
    refine q_pick_t rfl rfl rfl rfl rfl ?_
    refine q_move rfl rfl rfl rfl ?_
    refine q_skip rfl rfl rfl rfl ?_
    refine q_skip rfl rfl rfl rfl ?_
    refine q_pick_t rfl rfl rfl rfl rfl ?_
    refine r_done ?_
    refine s_keep [0, 1, 2, 3, 40] (e' := [(0, _), (1, _), (2, _), (3, _), (40, _)]) rfl ?_
    refine k_then_n ?_
    refine c_cond_t rfl ?_
    refine c_seq ?_
    refine c_plain (.q 0 (.q 1 (.done))) (by kernel_rfl) ?_
    refine q_assign rfl rfl rfl rfl ?_
    refine q_assign rfl rfl rfl rfl ?_
    refine r_done ?_
    refine s_keep [8, 9] (e' := [(8, _), (9, _)]) rfl ?_
    refine k_then_n ?_
    refine c_ret ?_
    refine k_then_ret ?_
    refine ret2 rfl rfl rfl (()) (by first | rfl | (first | rfl | (congr 1; done) | (congr 1 <;> first | rfl | omega | (simp; done) | (simp; omega)))) (by trivial) ?_
    (repeat ((with_reducible apply Takes.cons); focus (first | (with_reducible (repeat (first | exact Take.here | apply Take.there)); done) | (repeat (first | exact Take.here | apply Take.there))))); (repeat (first | exact Takes.nil | exact Takes.self | refine takes_drop2 ?_))
  · skip
    refine q_move rfl rfl rfl rfl ?_
    refine q_int rfl rfl rfl rfl rfl (b_gtr _ _ _ _) ?_
    refine q_pick_f rfl rfl rfl rfl rfl ?_
    refine q_move rfl rfl rfl rfl ?_
    refine s_bool_p 25 rfl (fun g_2 => ?_) (fun g_2 => ?_)
    · skip
      refine q_skip rfl rfl rfl rfl ?_
      refine q_skip rfl rfl rfl rfl ?_
      refine q_pick_t rfl rfl rfl rfl rfl ?_
      refine q_move rfl rfl rfl rfl ?_
      refine q_skip rfl rfl rfl rfl ?_
      refine q_skip rfl rfl rfl rfl ?_
      refine q_pick_t rfl rfl rfl rfl rfl ?_
      refine q_move rfl rfl rfl rfl ?_
      refine q_skip rfl rfl rfl rfl ?_
      refine q_skip rfl rfl rfl rfl ?_
      refine q_pick_t rfl rfl rfl rfl rfl ?_
      refine q_move rfl rfl rfl rfl ?_
      refine q_skip rfl rfl rfl rfl ?_
      refine q_skip rfl rfl rfl rfl ?_
      refine q_pick_t rfl rfl rfl rfl rfl ?_
      refine r_done ?_
      refine s_keep [0, 1, 2, 3, 40] (e' := [(0, _), (1, _), (2, _), (3, _), (40, _)]) rfl ?_
      refine k_then_n ?_
      refine c_cond_t rfl ?_
      refine c_seq ?_
      refine c_plain (.q 0 (.q 1 (.done))) (by kernel_rfl) ?_
      refine q_assign rfl rfl rfl rfl ?_
      refine q_assign rfl rfl rfl rfl ?_
      refine r_done ?_
      refine s_keep [8, 9] (e' := [(8, _), (9, _)]) rfl ?_
      refine k_then_n ?_
      refine c_ret ?_
      refine k_then_ret ?_
      refine ret2 rfl rfl rfl (()) (by first | rfl | (first | rfl | (congr 1; done) | (congr 1 <;> first | rfl | omega | (simp; done) | (simp; omega)))) (by trivial) ?_
      (repeat ((with_reducible apply Takes.cons); focus (first | (with_reducible (repeat (first | exact Take.here | apply Take.there)); done) | (repeat (first | exact Take.here | apply Take.there))))); (repeat (first | exact Takes.nil | exact Takes.self | refine takes_drop2 ?_))
    · skip
      refine q_move rfl rfl rfl rfl ?_
      refine q_int rfl rfl rfl rfl rfl (b_lss _ _ _ _) ?_
      refine q_pick_f rfl rfl rfl rfl rfl ?_
      refine q_move rfl rfl rfl rfl ?_
      refine s_bool_p 29 rfl (fun g_3 => ?_) (fun g_3 => ?_)
      · skip
        refine q_skip rfl rfl rfl rfl ?_
        refine q_skip rfl rfl rfl rfl ?_
        refine q_pick_t rfl rfl rfl rfl rfl ?_
        refine q_move rfl rfl rfl rfl ?_
        refine q_skip rfl rfl rfl rfl ?_
        refine q_skip rfl rfl rfl rfl ?_
        refine q_pick_t rfl rfl rfl rfl rfl ?_
        refine q_move rfl rfl rfl rfl ?_
        refine q_skip rfl rfl rfl rfl ?_
        refine q_skip rfl rfl rfl rfl ?_
        refine q_pick_t rfl rfl rfl rfl rfl ?_
        refine r_done ?_
        refine s_keep [0, 1, 2, 3, 40] (e' := [(0, _), (1, _), (2, _), (3, _), (40, _)]) rfl ?_
        refine k_then_n ?_
        refine c_cond_t rfl ?_
        refine c_seq ?_
        refine c_plain (.q 0 (.q 1 (.done))) (by kernel_rfl) ?_
        refine q_assign rfl rfl rfl rfl ?_
        refine q_assign rfl rfl rfl rfl ?_
        refine r_done ?_
        refine s_keep [8, 9] (e' := [(8, _), (9, _)]) rfl ?_
        refine k_then_n ?_
        refine c_ret ?_
        refine k_then_ret ?_
        refine ret2 rfl rfl rfl (()) (by first | rfl | (first | rfl | (congr 1; done) | (congr 1 <;> first | rfl | omega | (simp; done) | (simp; omega)))) (by trivial) ?_
        (repeat ((with_reducible apply Takes.cons); focus (first | (with_reducible (repeat (first | exact Take.here | apply Take.there)); done) | (repeat (first | exact Take.here | apply Take.there))))); (repeat (first | exact Takes.nil | exact Takes.self | refine takes_drop2 ?_))
      · skip
        refine q_move rfl rfl rfl rfl ?_
        refine q_int rfl rfl rfl rfl rfl (b_gtr _ _ _ _) ?_
        refine q_pick_f rfl rfl rfl rfl rfl ?_
        refine q_move rfl rfl rfl rfl ?_
        refine s_bool_p 33 rfl (fun g_4 => ?_) (fun g_4 => ?_)
        · skip
          refine q_skip rfl rfl rfl rfl ?_
          refine q_skip rfl rfl rfl rfl ?_
          refine q_pick_t rfl rfl rfl rfl rfl ?_
          refine q_move rfl rfl rfl rfl ?_
          refine q_skip rfl rfl rfl rfl ?_
          refine q_skip rfl rfl rfl rfl ?_
          refine q_pick_t rfl rfl rfl rfl rfl ?_
          refine r_done ?_
          refine s_keep [0, 1, 2, 3, 40] (e' := [(0, _), (1, _), (2, _), (3, _), (40, _)]) rfl ?_
          refine k_then_n ?_
          refine c_cond_t rfl ?_
          refine c_seq ?_
          refine c_plain (.q 0 (.q 1 (.done))) (by kernel_rfl) ?_
          refine q_assign rfl rfl rfl rfl ?_
          refine q_assign rfl rfl rfl rfl ?_
          refine r_done ?_
          refine s_keep [8, 9] (e' := [(8, _), (9, _)]) rfl ?_
          refine k_then_n ?_
          refine c_ret ?_
          refine k_then_ret ?_
          refine ret2 rfl rfl rfl (()) (by first | rfl | (first | rfl | (congr 1; done) | (congr 1 <;> first | rfl | omega | (simp; done) | (simp; omega)))) (by trivial) ?_
          (repeat ((with_reducible apply Takes.cons); focus (first | (with_reducible (repeat (first | exact Take.here | apply Take.there)); done) | (repeat (first | exact Take.here | apply Take.there))))); (repeat (first | exact Takes.nil | exact Takes.self | refine takes_drop2 ?_))
        · skip
          refine q_move rfl rfl rfl rfl ?_
          refine q_int rfl rfl rfl rfl rfl (b_lss _ _ _ _) ?_
          refine q_pick_f rfl rfl rfl rfl rfl ?_
          refine q_move rfl rfl rfl rfl ?_
          refine s_bool_p 37 rfl (fun g_5 => ?_) (fun g_5 => ?_)
          · skip
            refine q_skip rfl rfl rfl rfl ?_
            refine q_skip rfl rfl rfl rfl ?_
            refine q_pick_t rfl rfl rfl rfl rfl ?_
            refine r_done ?_
            refine s_keep [0, 1, 2, 3, 40] (e' := [(0, _), (1, _), (2, _), (3, _), (40, _)]) rfl ?_
            refine k_then_n ?_
            refine c_cond_t rfl ?_
            refine c_seq ?_
            refine c_plain (.q 0 (.q 1 (.done))) (by kernel_rfl) ?_
            refine q_assign rfl rfl rfl rfl ?_
            refine q_assign rfl rfl rfl rfl ?_
            refine r_done ?_
            refine s_keep [8, 9] (e' := [(8, _), (9, _)]) rfl ?_
            refine k_then_n ?_
            refine c_ret ?_
            refine k_then_ret ?_
            refine ret2 rfl rfl rfl (()) (by first | rfl | (first | rfl | (congr 1; done) | (congr 1 <;> first | rfl | omega | (simp; done) | (simp; omega)))) (by trivial) ?_
            (repeat ((with_reducible apply Takes.cons); focus (first | (with_reducible (repeat (first | exact Take.here | apply Take.there)); done) | (repeat (first | exact Take.here | apply Take.there))))); (repeat (first | exact Takes.nil | exact Takes.self | refine takes_drop2 ?_))
          · skip
            refine q_move rfl rfl rfl rfl ?_
            refine q_int rfl rfl rfl rfl rfl (b_gtr _ _ _ _) ?_
            refine q_pick_f rfl rfl rfl rfl rfl ?_
            refine r_done ?_
            refine s_keep [0, 1, 2, 3, 40] (e' := [(0, _), (1, _), (2, _), (3, _), (40, _)]) rfl ?_
            refine k_then_n ?_
            refine c_cond_p rfl (fun h_6 => ?_) (fun h_6 => by exfalso; first | omega | contradiction | (simp_all; done) | (simp_all; omega))
            refine c_seq ?_
            refine c_plain (.q 0 (.q 1 (.done))) (by kernel_rfl) ?_
            refine q_assign rfl rfl rfl rfl ?_
            refine q_assign rfl rfl rfl rfl ?_
            refine r_done ?_
            refine s_keep [8, 9] (e' := [(8, _), (9, _)]) rfl ?_
            refine k_then_n ?_
            refine c_ret ?_
            refine k_then_ret ?_
            refine ret2 rfl rfl rfl (()) (by first | rfl | (first | rfl | (congr 1; done) | (congr 1 <;> first | rfl | omega | (simp; done) | (simp; omega)))) (by trivial) ?_
            (repeat ((with_reducible apply Takes.cons); focus (first | (with_reducible (repeat (first | exact Take.here | apply Take.there)); done) | (repeat (first | exact Take.here | apply Take.there))))); (repeat (first | exact Takes.nil | exact Takes.self | refine takes_drop2 ?_))
end Go.Ab.Sc
