/- The law SchedFirst holds, where what it reads is of bulk at most 1048576: the call returns true and leaves what it is handed as it was. No other condition. -/
import Derived.Test.YtmaonhoplaebhaaSc12
import Derived.Test.YtmaonhoplaebhaaFrame2
import Derived.Test.YtmaonhoplaebhaaFrame
namespace Go.Proofs.Ytmaonhoplaebhaa.schedFirst
open Go.ChangeShapes Go.WideShapes Go.ChangeAt Go.RowKit Go.Ab
set_option linter.unusedVariables false
theorem own : ownKnob Try.prog.godebug = none := by kernel_rfl
theorem laid : laidOutB Try.prog = true := by kernel_rfl
set_option maxRecDepth 100000 in
theorem contract (H : Type) (enc : TypeId × Value → H) (W : World) (base : Nat) (args : Array Value) (ds gs : List (DataW H)) (before : List MemPlace)
    (hval : ∀ (j : Nat) t v, Try.f8.params[j]? = some t → args[j]? = some v → Value.okWide Try.prog W .any base t v)
    (hW : DataW.Whole enc Try.prog Try.f8.params.toList Rows.schedFirstSpec.vars false W args.toList ds gs before) (hk : Rows.uptoSmall H (ds ++ gs) = true) :
    Calls Try.prog 8 args W fun e W' => ∃ v, e = .returned v ∧ Rows.schedFirstSpec.post enc Try.prog Try.f8 false true false false W args v W' := by
  have hW' := hW
  obtain ⟨p, q, hA0, hV, rfl, hfz, hnd⟩ := hW
  have hA : DataW.TrodAll enc Try.prog W 0 (fun _ => true) true Try.f8.params.toList args.toList ds p := hA0
  rw [Try.params8] at hA hval
  obtain ⟨v0, v1, d0, d1, p0, p1, rfl, rfl, rfl, h0, h1⟩ := trodAll_two hA
  obtain ⟨rfl, rfl⟩ := trodVars_none hV
  have hb0 := frame.bound_mem hk (d := d0) (by simp)
  have hb1 := frame.bound_mem hk (d := d1) (by simp)
  obtain ⟨⟨s, th, d, st⟩, rfl, -⟩ := frame.arg_struct Try.underlying48 (sz := 4) (by kernel_rfl) (frame.el_struct Try.underlying48 (frame.fo_cons (encA := (fun (x : Int) => [Value.int .u64 x])) (Q := (fun x _ => (Lit.int .u64 x).wf = true)) (sz := 1) (n := 3) rfl rfl (by kernel_rfl) (frame.el_int Try.underlying34) (frame.fo_cons (encA := (fun (x : Int) => [Value.int .i64 x])) (Q := (fun x _ => (Lit.int .i64 x).wf = true)) (sz := 1) (n := 2) rfl rfl (by kernel_rfl) (frame.el_int Try.underlying3) (frame.fo_cons (encA := (fun (x : Int) => [Value.int .i64 x])) (Q := (fun x _ => (Lit.int .i64 x).wf = true)) (sz := 1) (n := 1) rfl rfl (by kernel_rfl) (frame.el_int Try.underlying3) (frame.fo_last (encA := (fun (x : Int) => [Value.int .i64 x])) (Q := (fun x _ => (Lit.int .i64 x).wf = true)) (sz := 1) rfl rfl (by kernel_rfl) (frame.el_int Try.underlying3)))))) (hval 0 48 v0 rfl rfl) h0
  obtain ⟨L, ao1, cap1, rfl, hr1, hl1, hm1, hb1', hq1, -⟩ := frame.arg_sl (sz := 0) Try.underlying49 (by kernel_rfl) (enc' := Sc.encHZ) (Q := fun x d => RdS (Go.Ab.base W) x.1 (x.2.2.flatMap Sc.encZ) ∧ x.2.2.length ≤ Rows.uptoBulk d) Sc.encHZ_len (fun n cs y h hl => (frame.el_sl (sz := 0) (enc' := Sc.encZ) (Q := fun _ _ => True) Try.underlying53 (by kernel_rfl) Sc.encZ_len (fun n cs y h hl => (frame.el_int Try.underlying3 n cs y h hl).imp fun _ h => ⟨h.1, trivial⟩) n cs y h hl).imp fun _ h => ⟨h.1, h.2.1, h.2.2.1⟩) (hval 1 49 v1 rfl rfl) h1
  refine (frame.spec_calls (Sc.firstlaw_spec s th d st L ao1 _ cap1 (Go.Ab.base W) hr1 rfl (fun x hx => (hq1 x hx).elim fun _ h => h.1.1) (by omega) (fun x hx => (hq1 x hx).elim fun _ h => Nat.le_trans h.1.2 (Nat.le_trans h.2 (by omega))))).mono fun e W' ⟨he, hg⟩ => ?_
  subst he
  exact ⟨_, rfl, frame.law_post laid (by rw [Try.params8]; decide +kernel) rfl rfl Try.underlying4 rfl hW' hg⟩
set_option maxRecDepth 100000 in
theorem lifted (os : Os) (started : os.Started) (H : Type) (enc : TypeId × Value → H) (F : Stop.Interp) :
    ReturnsInHanded {} Try.checked os 8 .any ((Rows.OpenSpec.upto Rows.schedFirstSpec).pre6 enc Try.prog Try.f8 Rows.schedFirstUptoRow.domain false) (((Rows.OpenSpec.upto Rows.schedFirstSpec).at F).post enc Try.prog Try.f8 false true false false) := by
  refine returnsInHanded_of_cond (C := Try.checked) (s := Rows.OpenSpec.upto Rows.schedFirstSpec) (k := Rows.uptoSmall) rfl own started (by kernel_rfl) Try.func8
    (OpenSpec.witness (enc := enc) (C := Try.checked) (s := Rows.OpenSpec.upto Rows.schedFirstSpec) (k := Rows.uptoSmall) rfl false ⟨#[], #[.agg #[.int .u64 0, .int .i64 0, .int .i64 0, .int .i64 0], .slice none 0 0], []⟩ 8 (by kernel_rfl) (by kernel_rfl) (by kernel_rfl)
      (x := ([.agg [.lit (.int .u64 0), .lit (.int .i64 0), .lit (.int .i64 0), .lit (.int .i64 0)], .nil], [], [])) (by kernel_rfl) rfl (by kernel_rfl)) ?_
  intro W base args ds gs before hval hW _ hk _
  exact contract H enc W base args ds gs before hval hW hk
theorem proved : Rows.SchedFirstUptoSaid :=
  OpenClaim.holds_of_cond 8 Try.f8 rfl rfl rfl rfl rfl rfl rfl ⟨rfl, rfl, rfl, rfl, rfl⟩ rfl rfl rfl rfl rfl (by kernel_rfl) Try.func8 (by kernel_rfl)
    (of_decide_eq_true (by kernel_rfl)) (by unfold Func.isWrapper; first | (rw [if_pos (by decide +kernel)]; kernel_rfl) | (rw [if_neg (by decide +kernel)]; exact ⟨rfl, rfl⟩))
    (fun os started H enc _ F => lifted os started H enc F)
#print axioms proved
end Go.Proofs.Ytmaonhoplaebhaa.schedFirst
