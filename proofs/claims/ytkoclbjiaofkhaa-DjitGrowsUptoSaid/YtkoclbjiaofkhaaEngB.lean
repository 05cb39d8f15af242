/- The engine, part B: regions. One certificate says in which order the quiet operations may be carried out early and which loud ones follow one another; one theorem says that every order that may be drawn comes to the same. -/
import Derived.Test.YtkoclbjiaofkhaaEngA
set_option linter.unusedVariables false
set_option linter.unusedSimpArgs false
namespace Go.Ab
open Go

/-- The wide fence, in a frame of a round or of none. -/
def fz (r : Option Nat) : Fence := { Fence.wide with round := r }
theorem fz_calls {r : Option Nat} {n : Nat} {P : Program} {f : FuncId} {args : Array Value} {w : World} {R : Ending → World → Prop} (h : Calls P f args w R) : CallsIn (fz r) n P f args w R :=
  (callsIn_wide (n := n)).2 h

/-- One operation that ends in the ordinary way. -/
def opUp (P : Program) (r : Option Nat) (o : Oper) (a : Act) (K : Act → World → Prop) : Result Next → Prop
  | .ok (.value v) w' => K (a.put o.dst v) w'
  | .ok .skip w' => K (a.put o.dst undef) w'
  | .ok (.enter f args) w' => Calls P f args w' fun e w'' => ∃ v, e = .returned v ∧ K (a.put o.dst v) w''
  | .ok (.round l f tmps assign body) w' => RoundIn (fz r) 0 P l f tmps assign body w' fun e w'' => ∃ v, e = .returned v ∧ K (a.put o.dst v) w''
  | _ => False
def opW (P : Program) (r : Option Nat) (o : Oper) (a : Act) (w : World) (K : Act → World → Prop) : Prop := opUp P r o a K ((o.semAt r a.eval).run P w)

theorem opUp_mono {P : Program} {r : Option Nat} {o : Oper} {a b : Act} {K K' : Act → World → Prop} (h : ∀ v w, K (a.put o.dst v) w → K' (b.put o.dst v) w) {x : Result Next} (hx : opUp P r o a K x) : opUp P r o b K' x := by
  cases x with
  | ok n w' =>
    cases n <;> simp only [opUp] at hx ⊢ <;> first
      | exact h _ _ hx
      | exact hx.mono (fun e w'' ⟨v, e1, k⟩ => ⟨v, e1, h _ _ k⟩)
  | halt y w' => simp only [opUp] at hx

theorem opUp_wpIn {P : Program} {r : Option Nat} {o : Oper} {a : Act} {K : Act → World → Prop} {Q : Exit → Act → World → Prop} {x : Result Next} (hx : opUp P r o a K x) : o.uponIn (fz r) 0 P a K Q x := by
  cases x with
  | ok n w' =>
    cases n <;> simp only [opUp] at hx <;> simp only [Oper.uponIn]
    case value => exact hx
    case skip => exact hx
    case enter f args =>
      refine ⟨fun h => by simp [fz, Fence.wide] at h, fz_calls (hx.mono ?_)⟩
      rintro e w'' ⟨v, rfl, k⟩; exact k
    case round l f tmps assign body =>
      refine ⟨fun h => by simp [fz, Fence.wide] at h, hx.mono ?_⟩
      rintro e w'' ⟨v, rfl, k⟩; exact k
  | halt y w' => simp only [opUp] at hx
theorem opW_wpIn {P : Program} {r : Option Nat} {o : Oper} {a : Act} {w : World} {K : Act → World → Prop} {Q : Exit → Act → World → Prop} (h : opW P r o a w K) : o.wpIn (fz r) 0 P a w K Q :=
  ⟨fun f _ => trivial, opUp_wpIn h⟩

/-- Does the operation look into memory? -/
def reads (o : Oper) : Bool :=
  match o.op with
  | .move _ | .assign _ | .pick .. | .build .. | .nilCheck _ | .binOp .. | .unOp .. | .convert .. | .makeInterface .. | .makeFunc .. | .slice .. | .fieldAddr .. | .field .. | .indexAddr .. | .index .. | .extract .. => false
  | _ => true
/-- The operation yields v and leaves the world; if it is none that looks into memory: in every world. -/
def yq (P : Program) (r : Option Nat) (o : Oper) (a : Act) (w : World) (v : Value) : Prop :=
  if reads o then (o.semAt r a.eval).run P w = .ok (.value v) w else ∀ w', (o.semAt r a.eval).run P w' = .ok (.value v) w'
theorem yq.now {P : Program} {r : Option Nat} {o : Oper} {a : Act} {w : World} {v : Value} (h : yq P r o a w v) : (o.semAt r a.eval).run P w = .ok (.value v) w := by
  unfold yq at h
  split at h
  · exact h
  · exact h w

/-- The certificate. q: a quiet operation · l: a loud one, behind which those of the list still yield what they yielded · alt: several may come next. -/
inductive RT where
  | done
  | q (i : Nat) (k : RT)
  | l (i : Nat) (fl : List Nat) (k : RT)
  | alt (x y : RT)

/-- The operation, carried out again, yields what its slot holds. -/
def again (P : Program) (r : Option Nat) (ops : Array Oper) (a : Act) (w : World) (i : Nat) : Prop :=
  ∀ o, ops[i]? = some o → Region.wanted o (yielded ops a.tmps) = true → ∃ d, o.dst = some d ∧ (o.semAt r a.eval).run P w = .ok (.value (a.tmps.getD d undef)) w

def wpRT (P : Program) (r : Option Nat) (ops : Array Oper) (K : Act → World → Prop) : RT → Act → World → Prop
  | .done, a, w => K a w
  | .q i k, a, w => ∃ o d, ops[i]? = some o ∧ o.dst = some d ∧ d < a.tmps.size ∧
      ((Region.wanted o (yielded ops a.tmps) = true ∧ ∃ v, yq P r o a w v ∧ wpRT P r ops K k (a.put (some d) v) w) ∨
       (Region.wanted o (yielded ops a.tmps) = false ∧ wpRT P r ops K k (a.put (some d) undef) w))
  | .l i fl k, a, w => ∃ o, ops[i]? = some o ∧
      ((Region.wanted o (yielded ops a.tmps) = true ∧ opW P r o a w (fun a' w' => (∀ j ∈ fl, again P r ops a' w' j) ∧ wpRT P r ops K k a' w')) ∨
       (Region.wanted o (yielded ops a.tmps) = false ∧ wpRT P r ops K k (a.put o.dst undef) w))
  | .alt x y, a, w => wpRT P r ops K x a w ∧ wpRT P r ops K y a w

/-! ### A region that does not draw: the certificate is the text's order -/
def chkLex : Nat → Nat → RT → Bool
  | i, n, .done => i == n
  | i, n, .q j k => i == j && chkLex (i + 1) n k
  | i, n, .l j fl k => i == j && chkLex (i + 1) n k
  | _, _, .alt _ _ => false

theorem wpOpsIn_of_lex {P : Program} {r : Option Nat} {ops : Array Oper} {Q : Exit → Act → World → Prop} : ∀ (t : RT) (i : Nat) (a : Act) (w : World), chkLex i ops.size t = true → i ≤ ops.size →
    wpRT P r ops (Q .normal) t a w → wpOpsIn (fz r) 0 P ops Q (List.range' i (ops.size - i)) a w
  | .done, i, a, w, h, hi, hw => by
    simp only [chkLex, beq_iff_eq] at h
    subst h
    simpa [wpOpsIn, wpRT] using hw
  | .q j k, i, a, w, h, hi, hw => by
    simp only [chkLex, Bool.and_eq_true, beq_iff_eq] at h
    obtain ⟨rfl, h⟩ := h
    obtain ⟨o, d, ho, hd, hlt, hw⟩ := hw
    have hn : i < ops.size := (Array.getElem?_eq_some_iff.1 ho).1
    rw [show ops.size - i = (ops.size - (i + 1)) + 1 from by omega, List.range'_succ]
    rw [wpOpsIn_cons]
    unfold wpOpIn
    simp only [ho]
    rcases hw with ⟨h1, v, hv, hk⟩ | ⟨h1, hk⟩
    · rw [if_pos h1]
      refine opW_wpIn ?_
      unfold opW
      rw [hv.now]
      simp only [opUp, hd]
      exact wpOpsIn_of_lex k (i + 1) _ _ h (by omega) hk
    · rw [if_neg (by rw [h1]; simp)]
      refine ⟨fun f _ => trivial, ?_⟩
      rw [hd]
      exact wpOpsIn_of_lex k (i + 1) _ _ h (by omega) hk
  | .l j fl k, i, a, w, h, hi, hw => by
    simp only [chkLex, Bool.and_eq_true, beq_iff_eq] at h
    obtain ⟨rfl, h⟩ := h
    obtain ⟨o, ho, hw⟩ := hw
    have hn : i < ops.size := (Array.getElem?_eq_some_iff.1 ho).1
    rw [show ops.size - i = (ops.size - (i + 1)) + 1 from by omega, List.range'_succ]
    rw [wpOpsIn_cons]
    unfold wpOpIn
    simp only [ho]
    rcases hw with ⟨h1, hk⟩ | ⟨h1, hk⟩
    · rw [if_pos h1]
      exact opW_wpIn (opUp_mono (fun v w' hh => wpOpsIn_of_lex k (i + 1) _ _ h (by omega) hh.2) hk)
    · rw [if_neg (by rw [h1]; simp)]
      exact ⟨fun f _ => trivial, wpOpsIn_of_lex k (i + 1) _ _ h (by omega) hk⟩
  | .alt _ _, i, a, w, h, hi, hw => by simp [chkLex] at h

theorem wp_plain {P : Program} {r : Option Nat} {id : Nat} {ops : Array Oper} {Q : Exit → Act → World → Prop} {a : Act} {w : World} (t : RT) (hc : chkLex 0 ops.size t = true)
    (h : wpRT P r ops (Q .normal) t a w) : (Code.region id ops false).wpIn (fz r) 0 P Q a w :=
  wpIn_region (by rw [List.range_eq_range']; exact wpOpsIn_of_lex t 0 a w hc (Nat.zero_le _) h)

/-! ### A region that draws -/
def bAny (e : Edge) : Bool := Region.binds .any e
/-- What an operation stands behind, by whatever chain of edges. -/
def Anc (ops : Array Oper) (o : Oper) (k : Nat) : Prop :=
  ∀ S : Nat → Prop, (∀ i oi, ops[i]? = some oi → S i → ∀ e ∈ oi.after, bAny e = true → S e.on) → (∀ e ∈ o.after, bAny e = true → S e.on) → S k
theorem before_anc (ops : Array Oper) : (Region.before ops).size = ops.size ∧ ∀ j o, ops[j]? = some o → ∀ k, ((Region.before ops).getD j 0).testBit k = true → Anc ops o k := by
  have key : ∀ i ≤ ops.size, ∀ acc : Array Nat, acc.size = i → (∀ j, j < i → ∀ o, ops[j]? = some o → ∀ k, (acc.getD j 0).testBit k = true → Anc ops o k) →
      ∀ o, ops[i]? = some o → ∀ k, (o.after.foldl (fun s e => if Region.binds .any e then s ||| 2 ^ e.on ||| acc.getD e.on 0 else s) 0).testBit k = true → Anc ops o k := by
    intro i hi acc hs hacc o ho k hk S hS hpre
    rw [← Array.foldl_toList] at hk
    have : ∀ (l : List Edge) (s : Nat), (∀ e ∈ l, e ∈ o.after) → (∀ k, s.testBit k = true → S k) →
        ∀ k, (l.foldl (fun s e => if Region.binds .any e then s ||| 2 ^ e.on ||| acc.getD e.on 0 else s) s).testBit k = true → S k := by
      intro l
      induction l with
      | nil => intro s _ hs k hk; exact hs k hk
      | cons e l ih =>
        intro s hl hs k hk
        simp only [List.foldl_cons] at hk
        refine ih _ (fun e' he' => hl e' (List.mem_cons_of_mem _ he')) ?_ k hk
        intro k hk
        split at hk
        · rename_i hb
          have hSe : S e.on := hpre e (hl e List.mem_cons_self) hb
          rw [Nat.testBit_or, Nat.testBit_or, Nat.testBit_two_pow] at hk
          simp only [Bool.or_eq_true, decide_eq_true_eq] at hk
          rcases hk with (hk | hk) | hk
          · exact hs k hk
          · subst hk; exact hSe
          · have hlt : e.on < i := by
              rcases Nat.lt_or_ge e.on i with h' | h'
              · exact h'
              · simp [Array.getElem?_eq_none (by omega : acc.size ≤ e.on)] at hk
            have ⟨oe, hoe⟩ : ∃ oe, ops[e.on]? = some oe := ⟨_, Array.getElem?_eq_getElem (by omega)⟩
            exact hacc e.on hlt oe hoe k hk S hS (hS e.on oe hoe hSe)
        · exact hs k hk
    exact this o.after.toList 0 (fun e he => Array.mem_toList_iff.1 he) (by simp) k hk
  have main := Array.foldl_induction (as := ops) (motive := fun i (acc : Array Nat) => acc.size = i ∧ (∀ j, j < i → ∀ o, ops[j]? = some o → ∀ k, (acc.getD j 0).testBit k = true → Anc ops o k))
    (init := #[]) ⟨rfl, by omega⟩ (f := fun acc o => acc.push (o.after.foldl (fun s e => if Region.binds .any e then s ||| 2 ^ e.on ||| acc.getD e.on 0 else s) 0)) (by
      rintro i acc ⟨hs, hacc⟩
      refine ⟨by simp [hs], fun j hj o ho k hk => ?_⟩
      by_cases hji : j < i.val
      · refine hacc j hji o ho k ?_
        simpa [Array.getElem?_push, hs, Nat.ne_of_lt hji] using hk
      · have : j = i.val := by omega
        subst this
        have hk' : (ops[i.val].after.foldl (fun s e => if Region.binds .any e then s ||| 2 ^ e.on ||| acc.getD e.on 0 else s) 0).testBit k = true := by
          have hx : ∀ X : Nat, (acc.push X).getD i.val 0 = X := fun X => by rw [← hs]; simp
          rw [hx] at hk
          exact hk
        have ho' : ops[i.val] = o := by
          have := Array.getElem?_eq_getElem i.isLt
          simp only [Fin.getElem_fin] at *
          rw [ho] at this; exact (Option.some.inj this).symm
        rw [ho'] at hk'
        exact key i.val (Nat.le_of_lt i.isLt) acc hs hacc o ho k hk')
  refine ⟨main.1, fun j o ho k hk => main.2 j (Array.getElem?_eq_some_iff.1 ho).1 o ho k hk⟩

def noDefer (ops : Array Oper) : Bool := ops.all fun o => match o.op with | .defer .. => false | .select .. => false | _ => true
def predsIn (o : Oper) (L : Nat) : Bool := o.after.all fun e => !bAny e || L.testBit e.on
/-- What is asked of the region alone. -/
def stat (ops : Array Oper) (bf : Array Nat) : Bool :=
  noDefer ops && ((List.range ops.size).all fun i => match ops[i]? with
    | none => false
    | some o => (o.after.all fun e => !bAny e || decide (e.on < i)) && (match o.dst with
      | none => true
      | some d => (List.range ops.size).all fun k => k == i || (match ops[k]? with
        | none => false
        | some ok => (ok.dst != some d) && (!(ok.looksAt ops).contains d || (bf.getD k 0).testBit i || (bf.getD i 0).testBit k))))
/-- May this one be carried out early? -/
def qok (ops : Array Oper) (bf : Array Nat) (i : Nat) : Bool :=
  match ops[i]? with
  | none => false
  | some o => match o.dst with
    | none => false
    | some d => !(o.looksAt ops).contains d && (List.range ops.size).all fun k => k == i || (match ops[k]? with
        | none => false
        | some ok => !(ok.looksAt ops).contains d || (bf.getD k 0).testBit i)
def heads : RT → List Nat
  | .l i _ _ => [i]
  | .alt x y => heads x ++ heads y
  | _ => []
def cov (ops : Array Oper) (t : RT) (L : Nat) : Bool := (List.range ops.size).all fun j => L.testBit j || (match ops[j]? with | none => false | some o => !predsIn o L) || (heads t).contains j
def chkD (ops : Array Oper) (bf : Array Nat) : Bool → RT → Nat → Nat → Bool
  | fresh, .done, L, A => fresh && (List.range ops.size).all fun j => L.testBit j
  | fresh, .q i k, L, A => fresh && qok ops bf i && !L.testBit i && (match ops[i]? with | none => false | some o => predsIn o L) && chkD ops bf true k (L ||| 2 ^ i) A
  | fresh, .l i fl k, L, A => (!fresh || cov ops (.l i fl k) L) && !L.testBit i && (match ops[i]? with | none => false | some o => predsIn o L) &&
      ((List.range ops.size).all fun j => !L.testBit j || (A ||| (bf.getD i 0) ||| 2 ^ i).testBit j || (match ops[j]? with | none => true | some o => !reads o) || fl.contains j) &&
      chkD ops bf true k (L ||| 2 ^ i) (A ||| (bf.getD i 0) ||| 2 ^ i)
  | fresh, .alt x y, L, A => (!fresh || cov ops (.alt x y) L) && chkD ops bf false x L A && chkD ops bf false y L A
def chk (ops : Array Oper) (t : RT) : Bool := stat ops (Region.before ops) && chkD ops (Region.before ops) true t 0 0

/-- How the true state (what is listed, a) stands to the eager one (what is in L, ae). -/
structure Sim (P : Program) (r : Option Nat) (ops : Array Oper) (listed : Array Bool) (a ae : Act) (w : World) (L A : Nat) : Prop where
  size : listed.size = ops.size
  defers : ae.defers = a.defers
  tsize : ae.tmps.size = a.tmps.size
  inL : ∀ i, listed.getD i false = true → L.testBit i = true
  ltn : ∀ i, L.testBit i = true → i < ops.size
  down : ∀ i o, ops[i]? = some o → listed.getD i false = true → ∀ e ∈ o.after, bAny e = true → listed.getD e.on false = true
  downL : ∀ i o, ops[i]? = some o → L.testBit i = true → ∀ e ∈ o.after, bAny e = true → L.testBit e.on = true
  inA : ∀ i, A.testBit i = true → listed.getD i false = true
  agree : ∀ t, (∀ i o, ops[i]? = some o → L.testBit i = true → listed.getD i false = false → o.dst ≠ some t) → ae.tmps[t]? = a.tmps[t]?
  pend : ∀ i o, ops[i]? = some o → L.testBit i = true → listed.getD i false = false → qok ops (Region.before ops) i = true ∧ ∃ d, o.dst = some d ∧ d < ae.tmps.size ∧
    ((Region.wanted o (yielded ops ae.tmps) = true ∧ yq P r o ae w (ae.tmps.getD d undef)) ∨ (Region.wanted o (yielded ops ae.tmps) = false ∧ ae.tmps.getD d undef = undef))

theorem noDefer_spec {ops : Array Oper} (h : noDefer ops = true) {i : Nat} {o : Oper} (ho : ops[i]? = some o) : (∀ c, o.op ≠ .defer c) ∧ ∀ cs b, o.op ≠ .select cs b := by
  have := Array.all_eq_true_iff_forall_mem.1 h o (Array.mem_of_getElem? ho)
  constructor
  · intro c e; simp [e] at this
  · intro cs b e; simp [e] at this

theorem semAt_congr {r : Option Nat} {o : Oper} {a b : Act} (hd : ∀ c, o.op ≠ .defer c) (hs : ∀ cs b, o.op ≠ .select cs b) (h : ∀ x ∈ o.op.operands, a.eval x = b.eval x) : o.semAt r a.eval = o.semAt r b.eval := by
  rw [Oper.semAt_eq _ _ _ hd, Oper.semAt_eq _ _ _ hd]
  exact execOp_congr o hs h
theorem looks_operand {ops : Array Oper} {o : Oper} {t : Nat} (h : Operand.tmp t ∈ o.op.operands) : t ∈ o.looksAt ops :=
  List.mem_append_left _ (List.mem_filterMap.2 ⟨.tmp t, by simpa using h, rfl⟩)
theorem eval_congr {ops : Array Oper} {o : Oper} {a b : Act} (h : ∀ t ∈ o.looksAt ops, a.tmps[t]? = b.tmps[t]?) : ∀ x ∈ o.op.operands, a.eval x = b.eval x := by
  intro x hx
  cases x with
  | tmp t =>
    have := h t (looks_operand hx)
    simp only [Act.eval, Array.getD_eq_getD_getElem?, this]
  | _ => rfl
theorem wanted_congr {ops : Array Oper} {o : Oper} {a b : Act} (h : ∀ t ∈ o.looksAt ops, a.tmps[t]? = b.tmps[t]?) : Region.wanted o (yielded ops a.tmps) = Region.wanted o (yielded ops b.tmps) := by
  unfold Region.wanted
  cases hg : o.guard with
  | none => rfl
  | some gw =>
    obtain ⟨g, want⟩ := gw
    have hy : yielded ops a.tmps g = yielded ops b.tmps g := by
      unfold yielded
      cases ht : (ops[g]?).bind (·.dst) with
      | none => rfl
      | some t =>
        have := h t (List.mem_append_right _ (by simp [hg, ht]))
        simp [this]
    simp only [hy]
theorem put_get {a : Act} {d t : Nat} {v : Value} : (a.put (some d) v).tmps[t]? = if d = t then (if d < a.tmps.size then some v else none) else a.tmps[t]? := by
  show (a.tmps.setIfInBounds d v)[t]? = _
  rw [Array.getElem?_setIfInBounds]
theorem put_get_ne {a : Act} {x : Option Nat} {t : Nat} {v : Value} (h : x ≠ some t) : (a.put x v).tmps[t]? = a.tmps[t]? := by
  cases x with
  | none => rfl
  | some d => rw [put_get, if_neg (fun e => h (by rw [e]))]
theorem put_size {a : Act} {x : Option Nat} {v : Value} : (a.put x v).tmps.size = a.tmps.size := by cases x <;> simp [Act.put]
theorem put_defers {a : Act} {x : Option Nat} {v : Value} : (a.put x v).defers = a.defers := by cases x <;> rfl
theorem yq_congr {P : Program} {r : Option Nat} {o : Oper} {a b : Act} {w : World} {v : Value} (h : o.semAt r a.eval = o.semAt r b.eval) (hy : yq P r o a w v) : yq P r o b w v := by
  unfold yq at *
  rw [← h]; exact hy

section
variable {P : Program} {r : Option Nat} {ops : Array Oper}
/-- The facts that 'stat' holds ready. -/
theorem stat_spec (h : stat ops (Region.before ops) = true) : noDefer ops = true ∧
    (∀ i o, ops[i]? = some o → ∀ e ∈ o.after, bAny e = true → e.on < i) ∧
    (∀ i k o ok d, ops[i]? = some o → ops[k]? = some ok → k ≠ i → o.dst = some d → ok.dst ≠ some d ∧ (d ∈ ok.looksAt ops → Anc ops ok i ∨ Anc ops o k)) := by
  simp only [stat, Bool.and_eq_true, List.all_eq_true, List.mem_range] at h
  obtain ⟨h0, h1⟩ := h
  refine ⟨h0, fun i o ho e he hb => ?_, fun i k o ok d ho hk hne hd => ?_⟩
  · have := h1 i (Array.getElem?_eq_some_iff.1 ho).1
    simp only [ho, Bool.and_eq_true] at this
    have := Array.all_eq_true_iff_forall_mem.1 this.1 e he
    simpa [hb] using this
  · have := h1 i (Array.getElem?_eq_some_iff.1 ho).1
    simp only [ho, Bool.and_eq_true, hd, List.all_eq_true, List.mem_range] at this
    have := this.2 k (Array.getElem?_eq_some_iff.1 hk).1
    simp only [hk, Bool.or_eq_true, beq_iff_eq, hne, false_or, Bool.and_eq_true, bne_iff_ne, Bool.not_eq_true'] at this
    refine ⟨this.1, fun hm => ?_⟩
    rcases this.2 with (h2 | h2) | h2
    · simp [hm] at h2
    · exact .inl ((before_anc ops).2 k ok hk i h2)
    · exact .inr ((before_anc ops).2 i o ho k h2)
theorem qok_spec {i : Nat} {o : Oper} (ho : ops[i]? = some o) (h : qok ops (Region.before ops) i = true) : ∃ d, o.dst = some d ∧ d ∉ o.looksAt ops ∧
    ∀ k ok, ops[k]? = some ok → k ≠ i → d ∈ ok.looksAt ops → Anc ops ok i := by
  simp only [qok, ho] at h
  cases hd : o.dst with
  | none => simp [hd] at h
  | some d =>
    simp only [hd, Bool.and_eq_true, List.all_eq_true, List.mem_range] at h
    refine ⟨d, rfl, by simpa using h.1, fun k ok hk hne hm => ?_⟩
    have := h.2 k (Array.getElem?_eq_some_iff.1 hk).1
    simp only [hk, Bool.or_eq_true, beq_iff_eq, hne, false_or, Bool.not_eq_true'] at this
    rcases this with h2 | h2
    · simp [hm] at h2
    · exact (before_anc ops).2 k ok hk i h2
theorem predsIn_spec {o : Oper} {L : Nat} (h : predsIn o L = true) : ∀ e ∈ o.after, bAny e = true → L.testBit e.on = true := fun e he hb => by
  have := Array.all_eq_true_iff_forall_mem.1 h e he
  simpa [hb] using this
theorem predsIn_mk {o : Oper} {L : Nat} (h : ∀ e ∈ o.after, bAny e = true → L.testBit e.on = true) : predsIn o L = true := by
  refine Array.all_eq_true_iff_forall_mem.2 fun e he => ?_
  cases hb : bAny e
  · rfl
  · simp [h e he hb]
theorem bit_or {L i k : Nat} : (L ||| 2 ^ i).testBit k = true ↔ L.testBit k = true ∨ i = k := by
  rw [Nat.testBit_or, Nat.testBit_two_pow]
  simp

/-- What the true frame looks at is the same in the eager one, where the operation may come up. -/
theorem Sim.same {listed : Array Bool} {a ae : Act} {w : World} {L A : Nat} (hs : stat ops (Region.before ops) = true) (S : Sim P r ops listed a ae w L A) {i : Nat} {o : Oper} (ho : ops[i]? = some o)
    (hun : listed.getD i false = false) (hpre : ∀ e ∈ o.after, bAny e = true → listed.getD e.on false = true) : ∀ t ∈ o.looksAt ops, a.tmps[t]? = ae.tmps[t]? := by
  intro t ht
  refine (S.agree t fun k ok hk hkL hkun hd => ?_).symm
  obtain ⟨hq, -⟩ := S.pend k ok hk hkL hkun
  obtain ⟨d, hd', hself, hall⟩ := qok_spec hk hq
  rw [hd] at hd'; cases hd'
  by_cases hki : i = k
  · subst hki; rw [ho] at hk; cases hk; exact hself ht
  · have := hall i o ho hki ht (fun j => listed.getD j false = true) (fun j oj hj hl e he hb => S.down j oj hj hl e he hb) hpre
    rw [hkun] at this; cases this

/-- One more quiet operation is carried out early. -/
theorem Sim.quiet {listed : Array Bool} {a ae : Act} {w : World} {L A : Nat} (hs : stat ops (Region.before ops) = true) (S : Sim P r ops listed a ae w L A) {i : Nat} {o : Oper} (ho : ops[i]? = some o)
    (hq : qok ops (Region.before ops) i = true) (hL : L.testBit i = false) (hp : predsIn o L = true) {d : Nat} (hd : o.dst = some d) (hlt : d < ae.tmps.size) {v : Value}
    (hv : (Region.wanted o (yielded ops ae.tmps) = true ∧ yq P r o ae w v) ∨ (Region.wanted o (yielded ops ae.tmps) = false ∧ v = undef)) :
    Sim P r ops listed a (ae.put (some d) v) w (L ||| 2 ^ i) A := by
  obtain ⟨h0, h1, h2⟩ := stat_spec hs
  obtain ⟨d', hd', hself, hall⟩ := qok_spec ho hq
  rw [hd] at hd'; cases hd'
  have hp' := predsIn_spec hp
  have hil : listed.getD i false = false := by
    cases e : listed.getD i false with
    | false => rfl
    | true => rw [S.inL i e] at hL; cases hL
  -- those that stand early do not look at d
  have nolook : ∀ k ok, ops[k]? = some ok → L.testBit k = true → d ∉ ok.looksAt ops := by
    intro k ok hk hkL hm
    have hki : k ≠ i := fun e => by subst e; rw [hkL] at hL; cases hL
    have := hall k ok hk hki hm (fun j => L.testBit j = true) (fun j oj hj hl => S.downL j oj hj hl) (S.downL k ok hk hkL)
    rw [hL] at this; cases this
  have keep : ∀ k ok, ops[k]? = some ok → L.testBit k = true → ∀ t ∈ ok.looksAt ops, ae.tmps[t]? = (ae.put (some d) v).tmps[t]? := by
    intro k ok hk hkL t ht
    rw [put_get_ne]
    intro e; cases e; exact nolook k ok hk hkL ht
  refine ⟨S.size, by rw [put_defers]; exact S.defers, by rw [put_size]; exact S.tsize, fun k hk => bit_or.2 (.inl (S.inL k hk)), fun k hk => ?_, S.down, fun k ok hk hkL e he hb => ?_, S.inA, fun t ht => ?_, fun k ok hk hkL hkun => ?_⟩
  · rcases bit_or.1 hk with h | h
    · exact S.ltn k h
    · subst h; exact (Array.getElem?_eq_some_iff.1 ho).1
  · rcases bit_or.1 hkL with h | h
    · exact bit_or.2 (.inl (S.downL k ok hk h e he hb))
    · subst h; rw [ho] at hk; cases hk; exact bit_or.2 (.inl (hp' e he hb))
  · have hdt : d ≠ t := fun e => ht i o ho (bit_or.2 (.inr rfl)) hil (by rw [hd, e])
    rw [put_get_ne (by simpa using hdt)]
    exact S.agree t fun k ok hk hkL hkun => ht k ok hk (bit_or.2 (.inl hkL)) hkun
  · rcases bit_or.1 hkL with h | h
    · obtain ⟨hqk, dk, hdk, hltk, hvk⟩ := S.pend k ok hk h hkun
      have hki : k ≠ i := fun e => by subst e; rw [h] at hL; cases hL
      have hne : d ≠ dk := fun e => by subst e; exact (h2 i k o ok d ho hk hki hd).1 hdk
      refine ⟨hqk, dk, hdk, by rw [put_size]; exact hltk, ?_⟩
      have hget : (ae.put (some d) v).tmps.getD dk undef = ae.tmps.getD dk undef := by
        simp only [Array.getD_eq_getD_getElem?]
        rw [put_get_ne (by simpa using hne)]
      rw [hget, ← wanted_congr (keep k ok hk h)]
      rcases hvk with ⟨x1, x2⟩ | ⟨x1, x2⟩
      · exact .inl ⟨x1, yq_congr (semAt_congr (noDefer_spec h0 hk).1 (noDefer_spec h0 hk).2 (eval_congr (keep k ok hk h))) x2⟩
      · exact .inr ⟨x1, x2⟩
    · subst h
      rw [ho] at hk; cases hk
      have hself' : ∀ t ∈ o.looksAt ops, ae.tmps[t]? = (ae.put (some d) v).tmps[t]? := by
        intro t ht
        rw [put_get_ne]
        intro e; cases e; exact hself ht
      have hget : (ae.put (some d) v).tmps.getD d undef = v := by
        simp only [Array.getD_eq_getD_getElem?]
        rw [put_get, if_pos rfl, if_pos hlt]; rfl
      refine ⟨hq, d, hd, by rw [put_size]; exact hlt, ?_⟩
      rw [hget, ← wanted_congr hself']
      rcases hv with ⟨x1, x2⟩ | ⟨x1, x2⟩
      · exact .inl ⟨x1, yq_congr (semAt_congr (noDefer_spec h0 ho).1 (noDefer_spec h0 ho).2 (eval_congr hself')) x2⟩
      · exact .inr ⟨x1, x2⟩

/-- One that stood early comes up in truth. -/
theorem Sim.take {listed : Array Bool} {a ae : Act} {w : World} {L A : Nat} (hs : stat ops (Region.before ops) = true) (S : Sim P r ops listed a ae w L A) {i : Nat} {o : Oper} (ho : ops[i]? = some o)
    (hun : listed.getD i false = false) (hpre : ∀ e ∈ o.after, bAny e = true → listed.getD e.on false = true) (hL : L.testBit i = true) {Q : Exit → Act → World → Prop} {K : Act → World → Prop}
    (hKK : ∀ a', Sim P r ops (listed.setIfInBounds i true) a' ae w L A → K a' w) : wpOpIn (fz r) 0 P ops Q i K a w := by
  obtain ⟨h0, h1, h2⟩ := stat_spec hs
  have hlook := S.same hs ho hun hpre
  obtain ⟨hq, d, hd, hlt, hv⟩ := S.pend i o ho hL hun
  have hin : i < listed.size := by rw [S.size]; exact (Array.getElem?_eq_some_iff.1 ho).1
  have hset : ∀ k, (listed.setIfInBounds i true).getD k false = if k = i then true else listed.getD k false := by
    intro k
    simp only [Array.getD_eq_getD_getElem?, Array.getElem?_setIfInBounds]
    by_cases hki : k = i
    · subst hki; simp [hin]
    · rw [if_neg (Ne.symm hki), if_neg hki]
  have hfin : Sim P r ops (listed.setIfInBounds i true) (a.put (some d) (ae.tmps.getD d undef)) ae w L A := by
    refine ⟨by rw [Array.size_setIfInBounds]; exact S.size, by rw [put_defers]; exact S.defers, by rw [put_size]; exact S.tsize, fun k hk => ?_, S.ltn, fun k ok hk hl e he hb => ?_, S.downL, fun k hk => ?_, fun t ht => ?_, fun k ok hk hkL hkun => ?_⟩
    · rw [hset] at hk
      split at hk
      · rename_i e; rw [e]; exact hL
      · exact S.inL k hk
    · rw [hset] at hl ⊢
      split
      · rfl
      · split at hl
        · rename_i _ e2; subst e2; rw [ho] at hk; cases hk; exact hpre e he hb
        · exact S.down k ok hk hl e he hb
    · rw [hset]; split
      · rfl
      · exact S.inA k hk
    · by_cases hdt : d = t
      · subst hdt
        rw [put_get, if_pos rfl, if_pos (by rw [← S.tsize]; exact hlt)]
        simp [hlt]
      · rw [put_get_ne (by simpa using hdt)]
        refine S.agree t fun k ok hk hkL hkun => ?_
        by_cases hki : k = i
        · subst hki; rw [ho] at hk; cases hk; rw [hd]; simpa using hdt
        · exact ht k ok hk hkL (by rw [hset, if_neg hki]; exact hkun)
    · rw [hset] at hkun
      split at hkun
      · cases hkun
      · exact S.pend k ok hk hkL hkun
  unfold wpOpIn
  simp only [ho]
  rcases hv with ⟨x1, x2⟩ | ⟨x1, x2⟩
  · rw [if_pos (by rw [wanted_congr hlook]; exact x1)]
    refine opW_wpIn ?_
    unfold opW
    rw [semAt_congr (noDefer_spec h0 ho).1 (noDefer_spec h0 ho).2 (eval_congr hlook), x2.now]
    simp only [opUp, hd]
    exact hKK _ hfin
  · rw [if_neg (by rw [wanted_congr hlook, x1]; simp)]
    refine ⟨fun f _ => trivial, ?_⟩
    rw [hd]
    have := hKK _ hfin
    rw [x2] at this
    exact this

/-- A loud one comes up. -/
theorem Sim.loud {listed : Array Bool} {a ae : Act} {w w' : World} {L A : Nat} (hs : stat ops (Region.before ops) = true) (S : Sim P r ops listed a ae w L A) {i : Nat} {o : Oper} (ho : ops[i]? = some o)
    (hun : listed.getD i false = false) (hpre : ∀ e ∈ o.after, bAny e = true → listed.getD e.on false = true) (hL : L.testBit i = false) {fl : List Nat}
    (hfl : ∀ j < ops.size, L.testBit j = true → (A ||| ((Region.before ops).getD i 0) ||| 2 ^ i).testBit j = false → (∀ oj, ops[j]? = some oj → reads oj = true) → j ∈ fl) (v : Value)
    (hag : w' = w ∨ ∀ j ∈ fl, again P r ops (ae.put o.dst v) w' j) :
    Sim P r ops (listed.setIfInBounds i true) (a.put o.dst v) (ae.put o.dst v) w' (L ||| 2 ^ i) (A ||| ((Region.before ops).getD i 0) ||| 2 ^ i) := by
  obtain ⟨h0, h1, h2⟩ := stat_spec hs
  have hin : i < listed.size := by rw [S.size]; exact (Array.getElem?_eq_some_iff.1 ho).1
  have hset : ∀ k, (listed.setIfInBounds i true).getD k false = if k = i then true else listed.getD k false := by
    intro k
    simp only [Array.getD_eq_getD_getElem?, Array.getElem?_setIfInBounds]
    by_cases hki : k = i
    · subst hki; simp [hin]
    · rw [if_neg (Ne.symm hki), if_neg hki]
  have hinA : ∀ k, (A ||| ((Region.before ops).getD i 0) ||| 2 ^ i).testBit k = true → (listed.setIfInBounds i true).getD k false = true := by
    intro k hk
    rw [hset]
    split
    · rfl
    · rename_i hki
      rcases bit_or.1 hk with h | h
      · rw [Nat.testBit_or, Bool.or_eq_true] at h
        rcases h with h | h
        · exact S.inA k h
        · exact (before_anc ops).2 i o ho k h (fun j => listed.getD j false = true) (fun j oj hj hl e he hb => S.down j oj hj hl e he hb) hpre
      · exact absurd h.symm hki
  refine ⟨by rw [Array.size_setIfInBounds]; exact S.size, by rw [put_defers, put_defers]; exact S.defers, by rw [put_size, put_size]; exact S.tsize, fun k hk => ?_, fun k hk => ?_, fun k ok hk hl e he hb => ?_, fun k ok hk hkL e he hb => ?_, hinA, fun t ht => ?_, fun k ok hk hkL hkun => ?_⟩
  · rw [hset] at hk
    split at hk
    · rename_i e; exact bit_or.2 (.inr e.symm)
    · exact bit_or.2 (.inl (S.inL k hk))
  · rcases bit_or.1 hk with h | h
    · exact S.ltn k h
    · subst h; exact (Array.getElem?_eq_some_iff.1 ho).1
  · rw [hset] at hl ⊢
    split
    · rfl
    · split at hl
      · rename_i _ e2; subst e2; rw [ho] at hk; cases hk; exact hpre e he hb
      · exact S.down k ok hk hl e he hb
  · rcases bit_or.1 hkL with h | h
    · exact bit_or.2 (.inl (S.downL k ok hk h e he hb))
    · subst h; rw [ho] at hk; cases hk; exact bit_or.2 (.inl (S.inL _ (hpre e he hb)))
  · have hag : ae.tmps[t]? = a.tmps[t]? ∨ o.dst = some t := by
      by_cases hdt : o.dst = some t
      · exact .inr hdt
      · refine .inl (S.agree t fun k ok hk hkL hkun => ?_)
        by_cases hki : k = i
        · subst hki; rw [hL] at hkL; cases hkL
        · exact ht k ok hk (bit_or.2 (.inl hkL)) (by rw [hset, if_neg hki]; exact hkun)
    rcases hag with e | e
    · by_cases hdt : o.dst = some t
      · rw [hdt, put_get, put_get, S.tsize, e]
      · rw [put_get_ne hdt, put_get_ne hdt]; exact e
    · rw [e, put_get, put_get, S.tsize, if_pos rfl, if_pos rfl]
  · have hki : k ≠ i := fun e => by subst e; rw [hset, if_pos rfl] at hkun; cases hkun
    have hkun' : listed.getD k false = false := by rw [hset, if_neg hki] at hkun; exact hkun
    have hkL' : L.testBit k = true := (bit_or.1 hkL).resolve_right (fun e => hki e.symm)
    obtain ⟨hqk, dk, hdk, hltk, hvk⟩ := S.pend k ok hk hkL' hkun'
    have keep : ∀ t ∈ ok.looksAt ops, ae.tmps[t]? = (ae.put o.dst v).tmps[t]? := by
      intro t ht
      rw [put_get_ne]
      intro e
      rcases (h2 i k o ok t ho hk hki e).2 ht with hx | hx
      · have := hx (fun j => L.testBit j = true) (fun j oj hj hl => S.downL j oj hj hl) (S.downL k ok hk hkL')
        rw [hL] at this; cases this
      · have := hx (fun j => listed.getD j false = true) (fun j oj hj hl e he hb => S.down j oj hj hl e he hb) hpre
        rw [hkun'] at this; cases this
    have hget : (ae.put o.dst v).tmps.getD dk undef = ae.tmps.getD dk undef := by
      simp only [Array.getD_eq_getD_getElem?]
      rw [put_get_ne]
      intro e
      exact (h2 i k o ok dk ho hk hki e).1 hdk
    refine ⟨hqk, dk, hdk, by rw [put_size]; exact hltk, ?_⟩
    have hsem := semAt_congr (r := r) (noDefer_spec h0 hk).1 (noDefer_spec h0 hk).2 (eval_congr keep)
    have hwan := wanted_congr keep
    rcases hvk with ⟨x1, x2⟩ | ⟨x1, x2⟩
    · refine .inl ⟨by rw [← hwan]; exact x1, ?_⟩
      rw [hget]
      rcases hag with e | hag
      · subst e; exact yq_congr hsem x2
      · unfold yq at x2 ⊢
        rw [← hsem]
        by_cases hr : reads ok = true
        · rw [if_pos hr]
          have hkfl : k ∈ fl := by
            refine hfl k (Array.getElem?_eq_some_iff.1 hk).1 hkL' ?_ (fun oj hj => by rw [hk] at hj; cases hj; exact hr)
            cases e : (A ||| ((Region.before ops).getD i 0) ||| 2 ^ i).testBit k with
            | false => rfl
            | true => rw [hinA k e] at hkun; cases hkun
          obtain ⟨d', hd', hrun⟩ := hag k hkfl ok hk (by rw [← hwan]; exact x1)
          rw [hdk] at hd'; cases hd'
          rw [hget, ← hsem] at hrun
          exact hrun
        · rw [if_neg hr] at x2 ⊢
          exact x2
    · exact .inr ⟨by rw [← hwan]; exact x1, by rw [hget]; exact x2⟩

/-- No quiet one stands next. -/
def notq : RT → Bool
  | .q _ _ => false
  | _ => true
theorem Sim.norm {listed : Array Bool} {a : Act} {w : World} {A : Nat} {K : Act → World → Prop} (hs : stat ops (Region.before ops) = true) : ∀ (t : RT) (ae : Act) (L : Nat), Sim P r ops listed a ae w L A → wpRT P r ops K t ae w →
    chkD ops (Region.before ops) true t L A = true → ∃ t' ae' L', Sim P r ops listed a ae' w L' A ∧ wpRT P r ops K t' ae' w ∧ chkD ops (Region.before ops) true t' L' A = true ∧ notq t' = true
  | .q i k, ae, L, S, hw, hc => by
    simp only [chkD, Bool.and_eq_true, Bool.not_eq_true'] at hc
    obtain ⟨⟨⟨⟨-, hq⟩, hL⟩, hp⟩, hc⟩ := hc
    obtain ⟨o, d, ho, hd, hlt, hw⟩ := hw
    simp only [ho] at hp
    rcases hw with ⟨x1, v, hv, hk⟩ | ⟨x1, hk⟩
    · exact Sim.norm hs k _ _ (S.quiet hs ho hq hL hp hd hlt (.inl ⟨x1, hv⟩)) hk hc
    · exact Sim.norm hs k _ _ (S.quiet hs ho hq hL hp hd hlt (.inr ⟨x1, rfl⟩)) hk hc
  | .done, ae, L, S, hw, hc => ⟨_, _, _, S, hw, hc, rfl⟩
  | .l i fl k, ae, L, S, hw, hc => ⟨_, _, _, S, hw, hc, rfl⟩
  | .alt x y, ae, L, S, hw, hc => ⟨_, _, _, S, hw, hc, rfl⟩

theorem find_head {ae : Act} {w : World} {L A j : Nat} {K : Act → World → Prop} : ∀ (t : RT) (fresh : Bool), chkD ops (Region.before ops) fresh t L A = true → j ∈ heads t → wpRT P r ops K t ae w →
    ∃ fl k, wpRT P r ops K (.l j fl k) ae w ∧ (∀ i < ops.size, L.testBit i = true → (A ||| ((Region.before ops).getD j 0) ||| 2 ^ j).testBit i = false → (∀ oj, ops[i]? = some oj → reads oj = true) → i ∈ fl) ∧
      chkD ops (Region.before ops) true k (L ||| 2 ^ j) (A ||| ((Region.before ops).getD j 0) ||| 2 ^ j) = true
  | .done, fresh, hc, hj, hw => by simp [heads] at hj
  | .q i k, fresh, hc, hj, hw => by simp [heads] at hj
  | .l i fl k, fresh, hc, hj, hw => by
    simp only [heads, List.mem_singleton] at hj
    subst hj
    simp only [chkD, Bool.and_eq_true] at hc
    obtain ⟨⟨⟨⟨-, hL⟩, hp⟩, hf⟩, hc⟩ := hc
    refine ⟨fl, k, hw, fun i hi hLi hA hr => ?_, hc⟩
    have := (List.all_eq_true.1 hf) i (List.mem_range.2 hi)
    obtain ⟨oi, hoi⟩ : ∃ oi, ops[i]? = some oi := ⟨_, Array.getElem?_eq_getElem hi⟩
    simp only [hLi, hA, hoi, hr oi hoi, Bool.not_true, Bool.false_or, List.contains_iff_mem] at this
    exact this
  | .alt x y, fresh, hc, hj, hw => by
    simp only [chkD, Bool.and_eq_true] at hc
    simp only [heads, List.mem_append] at hj
    rcases hj with hj | hj
    · exact find_head x false hc.1.2 hj hw.1
    · exact find_head y false hc.2 hj hw.2
theorem cov_of_chk {L A : Nat} : ∀ (t : RT), chkD ops (Region.before ops) true t L A = true → notq t = true → t = .done ∨ cov ops t L = true
  | .done, hc, hn => .inl rfl
  | .q i k, hc, hn => by simp [notq] at hn
  | .l i fl k, hc, hn => by
    simp only [chkD, Bool.and_eq_true, Bool.not_true, Bool.false_or] at hc
    exact .inr hc.1.1.1.1
  | .alt x y, hc, hn => by
    simp only [chkD, Bool.and_eq_true, Bool.not_true, Bool.false_or] at hc
    exact .inr hc.1.1
theorem heads_ready {L A : Nat} : ∀ (t : RT) (fresh : Bool), chkD ops (Region.before ops) fresh t L A = true → t ≠ .done → notq t = true → ∃ j o, ops[j]? = some o ∧ L.testBit j = false ∧ predsIn o L = true
  | .done, fresh, hc, hd, hn => absurd rfl hd
  | .q i k, fresh, hc, hd, hn => by simp [notq] at hn
  | .l i fl k, fresh, hc, hd, hn => by
    simp only [chkD, Bool.and_eq_true, Bool.not_eq_true'] at hc
    obtain ⟨⟨⟨⟨-, hL⟩, hp⟩, hf⟩, hc⟩ := hc
    cases ho : ops[i]? with
    | none => simp [ho] at hp
    | some o => simp only [ho] at hp; exact ⟨i, o, ho, hL, hp⟩
  | .alt x y, fresh, hc, hd, hn => by
    simp only [chkD, Bool.and_eq_true] at hc
    cases x with
    | done => simp [chkD] at hc
    | q i k => simp [chkD] at hc
    | l i fl k => exact heads_ready (.l i fl k) false hc.1.2 (by simp) rfl
    | alt x1 x2 => exact heads_ready (.alt x1 x2) false hc.1.2 (by simp) rfl

theorem wpAny_of_RT {Q : Exit → Act → World → Prop} (hs : stat ops (Region.before ops) = true) : ∀ (fuel : Nat) (listed : Array Bool) (a ae : Act) (w : World) (L A : Nat) (t : RT), Sim P r ops listed a ae w L A →
    wpRT P r ops (Q .normal) t ae w → chkD ops (Region.before ops) true t L A = true → listed.toList.count false ≤ fuel → wpAnyIn (fz r) 0 P .any ops Q fuel listed a w := by
  intro fuel
  induction fuel with
  | zero =>
    intro listed a ae w L A t S hw hc hcount
    have hall : ∀ i, i < listed.size → listed.getD i false = true := by
      intro i hi
      have h0 : false ∉ listed.toList := List.count_eq_zero.1 (Nat.le_zero.1 hcount)
      have : listed[i] ∈ listed.toList := by simp
      cases e : listed[i] with
      | false => rw [e] at this; exact absurd this h0
      | true => simp [hi, e]
    have hr : Region.ready .any ops listed = [] := by
      rw [List.eq_nil_iff_forall_not_mem]
      intro j hj
      obtain ⟨h1, o, ho, -⟩ := mem_ready.1 hj
      have := hall j (by rw [S.size]; exact (Array.getElem?_eq_some_iff.1 ho).1)
      have hlt : j < listed.size := by rw [S.size]; exact (Array.getElem?_eq_some_iff.1 ho).1
      simp only [Array.getD_eq_getD_getElem?, Array.getElem?_eq_getElem hlt, Option.getD_some] at this h1
      rw [this] at h1; cases h1
    obtain ⟨t', ae', L', S', hw', hc', hn'⟩ := S.norm hs t ae L hw hc
    have hLl : ∀ i, L'.testBit i = true → listed.getD i false = true := fun i hi => hall i (by rw [S.size]; exact S'.ltn i hi)
    have hdone : t' = .done := by
      apply Classical.byContradiction
      intro hd
      obtain ⟨j, o, ho, hL, hp⟩ := heads_ready t' true hc' hd hn'
      have := S'.inL j (hall j (by rw [S.size]; exact (Array.getElem?_eq_some_iff.1 ho).1))
      rw [hL] at this; cases this
    subst hdone
    have hae : ae' = a := by
      have h1 : ae'.tmps = a.tmps := Array.ext_getElem? fun t => S'.agree t fun i o ho hi hun => by rw [hLl i hi] at hun; cases hun
      have h2 := S'.defers
      cases ae'; cases a; simp_all
    subst hae
    exact ⟨hr, hw'⟩
  | succ fuel ih =>
    intro listed a ae w L A t S hw hc hcount
    obtain ⟨h0, h1, h2⟩ := stat_spec hs
    obtain ⟨t', ae', L', S', hw', hc', hn'⟩ := S.norm hs t ae L hw hc
    have hgd : ∀ j o, ops[j]? = some o → listed.getD j true = listed.getD j false := fun j o ho => by
      have hlt : j < listed.size := by rw [S.size]; exact (Array.getElem?_eq_some_iff.1 ho).1
      simp [hlt]
    refine ⟨fun hr => ?_, fun i hi => ?_⟩
    · have hnr : ∀ j o, ops[j]? = some o → listed.getD j false = false → ¬ ∀ e ∈ o.after, bAny e = true → listed.getD e.on false = true := fun j o ho hl hp => by
        have : j ∈ Region.ready .any ops listed := mem_ready.2 ⟨by rw [hgd j o ho]; exact hl, o, ho, hp⟩
        rw [hr] at this; cases this
      have hLl : ∀ n i, i < n → L'.testBit i = true → listed.getD i false = true := by
        intro n
        induction n with
        | zero => intro i hi; omega
        | succ n ihn =>
          intro i hi hLi
          obtain ⟨o, ho⟩ : ∃ o, ops[i]? = some o := ⟨_, Array.getElem?_eq_getElem (S'.ltn i hLi)⟩
          cases hl : listed.getD i false with
          | true => rfl
          | false =>
            exact absurd (fun e he hb => ihn e.on (by have := h1 i o ho e he hb; omega) (S'.downL i o ho hLi e he hb)) (hnr i o ho hl)
      have hdone : t' = .done := by
        apply Classical.byContradiction
        intro hd
        obtain ⟨j, o, ho, hL, hp⟩ := heads_ready t' true hc' hd hn'
        have hl : listed.getD j false = false := by
          cases e : listed.getD j false with
          | false => rfl
          | true => rw [S'.inL j e] at hL; cases hL
        exact hnr j o ho hl fun e he hb => hLl (e.on + 1) e.on (Nat.lt_succ_self _) (predsIn_spec hp e he hb)
      subst hdone
      have hae : ae' = a := by
        have h1 : ae'.tmps = a.tmps := Array.ext_getElem? fun t => S'.agree t fun i o ho hi hun => by rw [hLl (i + 1) i (Nat.lt_succ_self _) hi] at hun; cases hun
        have h2 := S'.defers
        cases ae'; cases a; simp_all
      subst hae
      exact hw'
    · obtain ⟨hl, o, ho, hpre⟩ := mem_ready.1 hi
      rw [hgd i o ho] at hl
      have hcnt : (listed.setIfInBounds i true).toList.count false ≤ fuel := by
        have hlt : i < listed.toList.length := by rw [Array.length_toList, S.size]; exact (Array.getElem?_eq_some_iff.1 ho).1
        rw [Array.toList_setIfInBounds]
        have hf : listed.toList[i] = false := by
          have hlt' : i < listed.size := by simpa using hlt
          simpa [hlt'] using hl
        have hpos : 0 < listed.toList.count false := List.count_pos_iff.2 (hf ▸ List.getElem_mem hlt)
        rw [List.count_set hlt, hf]
        have e1 : (false == false) = true := rfl
        have e2 : (true == false) = false := rfl
        simp only [e1, e2, if_true, Bool.false_eq_true, if_false]
        omega
      by_cases hLi : L'.testBit i = true
      · exact S'.take hs ho hl hpre hLi fun a' Sa => ih _ _ _ _ _ _ _ Sa hw' hc' hcnt
      · have hLi : L'.testBit i = false := by simpa using hLi
        have hj : i ∈ heads t' := by
          have hp : predsIn o L' = true := predsIn_mk fun e he hb => S'.inL _ (hpre e he hb)
          rcases cov_of_chk t' hc' hn' with hd | hcov
          · subst hd
            simp only [chkD, Bool.true_and] at hc'
            have := (List.all_eq_true.1 hc') i (List.mem_range.2 (Array.getElem?_eq_some_iff.1 ho).1)
            rw [hLi] at this; cases this
          · have := (List.all_eq_true.1 hcov) i (List.mem_range.2 (Array.getElem?_eq_some_iff.1 ho).1)
            simpa [hLi, ho, hp] using this
        obtain ⟨fl, k, hwl, hfl, hck⟩ := find_head t' true hc' hj hw'
        obtain ⟨o', ho', hwl⟩ := hwl
        rw [ho] at ho'; cases ho'
        have hlook := S'.same hs ho hl hpre
        unfold wpOpIn
        simp only [ho]
        rcases hwl with ⟨x1, x2⟩ | ⟨x1, x2⟩
        · rw [if_pos (by rw [wanted_congr hlook]; exact x1)]
          refine opW_wpIn ?_
          unfold opW at x2 ⊢
          rw [semAt_congr (noDefer_spec h0 ho).1 (noDefer_spec h0 ho).2 (eval_congr hlook)]
          exact opUp_mono (fun v w' hh => ih _ _ _ _ _ _ _ (S'.loud hs ho hl hpre hLi hfl v (.inr hh.1)) hh.2 hck hcnt) x2
        · rw [if_neg (by rw [wanted_congr hlook, x1]; simp)]
          exact ⟨fun f _ => trivial, ih _ _ _ _ _ _ _ (S'.loud hs ho hl hpre hLi hfl undef (.inl rfl)) x2 hck hcnt⟩
end

theorem wp_draw {P : Program} {r : Option Nat} {id : Nat} {ops : Array Oper} {Q : Exit → Act → World → Prop} {a : Act} {w : World} (hm : P.follows .mixedOrders = true) (t : RT) (hc : chk ops t = true)
    (h : wpRT P r ops (Q .normal) t a { w with drawn := w.drawn + 1 }) : (Code.region id ops true).wpIn (fz r) 0 P Q a w := by
  simp only [chk, Bool.and_eq_true] at hc
  refine wpIn_region_any hm (wpAny_of_RT hc.1 _ _ _ a _ 0 0 t ?_ h hc.2 ?_)
  · have hz : ∀ i, (Array.replicate ops.size false).getD i false = false := by
      intro i
      simp only [Array.getD_eq_getD_getElem?, Array.getElem?_replicate]
      split <;> rfl
    exact ⟨by simp, rfl, rfl, fun i hi => (by rw [hz] at hi; cases hi), fun i hi => (by simp at hi), fun i o ho hi => (by rw [hz] at hi; cases hi), fun i o ho hi => (by simp at hi), fun i hi => (by simp at hi), fun t _ => rfl, fun i o ho hi => (by simp at hi)⟩
  · simp [List.count_replicate]
end Go.Ab
