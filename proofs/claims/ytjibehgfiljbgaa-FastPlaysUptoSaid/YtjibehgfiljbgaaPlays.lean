/- The law FastPlays holds, where what it reads is of bulk at most 1048576: the call returns true and leaves what it is handed as it was. No other condition. -/
import Derived.Test.YtjibehgfiljbgaaPlaysH
namespace Go.Proofs.Ytjibehgfiljbgaa.fastPlays
open Go.ChangeShapes Go.WideShapes Go.ChangeAt Go.RowKit Go.Ab
set_option linter.unusedVariables false
theorem own : ownKnob Try.prog.godebug = none := by kernel_rfl
theorem laid : laidOutB Try.prog = true := by kernel_rfl
set_option maxRecDepth 100000 in
theorem contract (H : Type) (enc : TypeId × Value → H) (W : World) (base : Nat) (args : Array Value) (ds gs : List (DataW H)) (before : List MemPlace)
    (hval : ∀ (j : Nat) t v, Try.f7.params[j]? = some t → args[j]? = some v → Value.okWide Try.prog W .any base t v)
    (hW : DataW.Whole enc Try.prog Try.f7.params.toList Rows.fastPlaysSpec.vars false W args.toList ds gs before) (hk : Rows.uptoSmall H (ds ++ gs) = true) :
    Calls Try.prog 7 args W fun e W' => ∃ v, e = .returned v ∧ Rows.fastPlaysSpec.post enc Try.prog Try.f7 false true false false W args v W' := by
  have hW' := hW
  obtain ⟨p, q, hA0, hV, rfl, hfz, hnd⟩ := hW
  have hA : DataW.TrodAll enc Try.prog W 0 (fun _ => true) true Try.f7.params.toList args.toList ds p := hA0
  rw [Try.params7] at hA hval
  obtain ⟨v0, v1, d0, d1, p0, p1, rfl, rfl, rfl, h0, h1⟩ := trodAll_two hA
  obtain ⟨rfl, rfl⟩ := trodVars_none hV
  have hb0 := frame.bound_mem hk (d := d0) (by simp)
  have hb1 := frame.bound_mem hk (d := d1) (by simp)
  obtain ⟨⟨th, va, vo, lk, ao0, cap0, pl⟩, rfl, -, -, -, -, dd0, ⟨hr0, hl0, -⟩, hbb0⟩ := frame.arg_struct Try.underlying25 (sz := 5) (by kernel_rfl) (frame.el_struct Try.underlying25 (frame.fo_cons (encA := (fun (x : Int) => [Value.int .i64 x])) (Q := (fun x _ => (Lit.int .i64 x).wf = true)) (sz := 1) (n := 4) rfl rfl (by kernel_rfl) (frame.el_int Try.underlying3) (frame.fo_cons (encA := (fun (x : Int) => [Value.int .i64 x])) (Q := (fun x _ => (Lit.int .i64 x).wf = true)) (sz := 1) (n := 3) rfl rfl (by kernel_rfl) (frame.el_int Try.underlying3) (frame.fo_cons (encA := (fun (x : Int) => [Value.int .i64 x])) (Q := (fun x _ => (Lit.int .i64 x).wf = true)) (sz := 1) (n := 2) rfl rfl (by kernel_rfl) (frame.el_int Try.underlying3) (frame.fo_cons (encA := (fun (x : Int) => [Value.int .i64 x])) (Q := (fun x _ => (Lit.int .i64 x).wf = true)) (sz := 1) (n := 1) rfl rfl (by kernel_rfl) (frame.el_int Try.underlying3) (frame.fo_last (encA := Go.Ab.encH) (Q := (fun x d => RdS (Go.Ab.base W) x.1 (x.2.2.flatMap Fe.encZ) ∧ x.2.2.length ≤ Rows.uptoBulk d ∧ (∀ z ∈ x.2.2, ∃ d2, (fun x _ => (Lit.int .i64 x).wf = true) z d2 ∧ Rows.uptoBulk d2 ≤ Rows.uptoBulk d) ∧ x.2.2.length ≤ x.2.1)) (sz := 1) rfl rfl (by kernel_rfl) (frame.el_sl (sz := 0) (enc' := Fe.encZ) (Q := (fun x _ => (Lit.int .i64 x).wf = true)) Try.underlying23 (by kernel_rfl) Fe.encZ_len (frame.el_int Try.underlying3)))))))) (hval 0 25 v0 rfl rfl) h0
  obtain ⟨L, ao1, cap1, rfl, hr1, hl1, hm1, hb1', hq1, -⟩ := frame.arg_sl (sz := 4) Try.underlying64 (by kernel_rfl) (enc' := Fr.enc5) (Q := fun _ _ => True) Fr.enc5_len (fun n cs y h hl => ((frame.el_struct Try.underlying71 (frame.fo_cons (encA := (fun (x : Int) => [Value.int .i64 x])) (Q := (fun x _ => (Lit.int .i64 x).wf = true)) (sz := 1) (n := 4) rfl rfl (by kernel_rfl) (frame.el_int Try.underlying3) (frame.fo_cons (encA := (fun (x : Int) => [Value.int .i64 x])) (Q := (fun x _ => (Lit.int .i64 x).wf = true)) (sz := 1) (n := 3) rfl rfl (by kernel_rfl) (frame.el_int Try.underlying3) (frame.fo_last (encA := (fun x : Int × Int × Int => [Value.int .i64 x.1] ++ ([Value.int .i64 x.2.1] ++ [Value.int .i64 x.2.2]))) (Q := (fun _ _ => True)) (sz := 3) rfl rfl (by kernel_rfl) (fun n cs y h hl => ((frame.el_struct Try.underlying36 (frame.fo_cons (encA := (fun (x : Int) => [Value.int .i64 x])) (Q := (fun x _ => (Lit.int .i64 x).wf = true)) (sz := 1) (n := 2) rfl rfl (by kernel_rfl) (frame.el_int Try.underlying34) (frame.fo_cons (encA := (fun (x : Int) => [Value.int .i64 x])) (Q := (fun x _ => (Lit.int .i64 x).wf = true)) (sz := 1) (n := 1) rfl rfl (by kernel_rfl) (frame.el_int Try.underlying3) (frame.fo_last (encA := (fun (x : Int) => [Value.int .i64 x])) (Q := (fun x _ => (Lit.int .i64 x).wf = true)) (sz := 1) rfl rfl (by kernel_rfl) (frame.el_int Try.underlying3))))) n cs y h hl).imp fun x h => ⟨h.1, trivial⟩))))) n cs y h hl).imp fun x h => ⟨h.1, trivial⟩) (hval 1 64 v1 rfl rfl) h1
  refine (frame.spec_calls (Fr.plays_spec th va vo lk pl ao0 _ cap0 (Go.Ab.base W) hr0 rfl (Nat.le_trans hl0 (Nat.le_trans hbb0 (by omega))) L ao1 _ cap1 hr1 rfl (by omega))).mono fun e W' ⟨he, hg⟩ => ?_
  subst he
  exact ⟨_, rfl, frame.law_post laid (by rw [Try.params7]; decide +kernel) rfl rfl Try.underlying4 rfl hW' hg⟩
set_option maxRecDepth 100000 in
theorem lifted (os : Os) (started : os.Started) (H : Type) (enc : TypeId × Value → H) (F : Stop.Interp) :
    ReturnsInHanded {} Try.checked os 7 .any ((Rows.OpenSpec.upto Rows.fastPlaysSpec).pre6 enc Try.prog Try.f7 Rows.fastPlaysUptoRow.domain false) (((Rows.OpenSpec.upto Rows.fastPlaysSpec).at F).post enc Try.prog Try.f7 false true false false) := by
  refine returnsInHanded_of_cond (C := Try.checked) (s := Rows.OpenSpec.upto Rows.fastPlaysSpec) (k := Rows.uptoSmall) rfl own started (by kernel_rfl) Try.func7
    (OpenSpec.witness (enc := enc) (C := Try.checked) (s := Rows.OpenSpec.upto Rows.fastPlaysSpec) (k := Rows.uptoSmall) rfl false ⟨#[], #[.agg #[.int .i64 0, .int .i64 0, .int .i64 0, .int .i64 0, .slice none 0 0], .slice none 0 0], []⟩ 8 (by kernel_rfl) (by kernel_rfl) (by kernel_rfl)
      (x := ([.agg [.lit (.int .i64 0), .lit (.int .i64 0), .lit (.int .i64 0), .lit (.int .i64 0), .nil], .nil], [], [])) (by kernel_rfl) rfl (by kernel_rfl)) ?_
  intro W base args ds gs before hval hW _ hk _
  exact contract H enc W base args ds gs before hval hW hk
theorem proved : Rows.FastPlaysUptoSaid :=
  OpenClaim.holds_of_cond 7 Try.f7 rfl rfl rfl rfl rfl rfl rfl ⟨rfl, rfl, rfl, rfl, rfl⟩ rfl rfl rfl rfl rfl (by kernel_rfl) Try.func7 (by kernel_rfl)
    (of_decide_eq_true (by kernel_rfl)) (by unfold Func.isWrapper; first | (rw [if_pos (by decide +kernel)]; kernel_rfl) | (rw [if_neg (by decide +kernel)]; exact ⟨rfl, rfl⟩))
    (fun os started H enc _ F => lifted os started H enc F)
#print axioms proved
end Go.Proofs.Ytjibehgfiljbgaa.fastPlays
