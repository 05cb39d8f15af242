/- The law VclockPlays holds, where what it reads is of bulk at most 1048576: the call returns true and leaves what it is handed as it was. No other condition. -/
import Derived.Test.YtjoacllimldfkaaPlaysE
namespace Go.Proofs.Ytjoacllimldfkaa.vclockPlays
open Go.ChangeShapes Go.WideShapes Go.ChangeAt Go.RowKit Go.Ab
set_option linter.unusedVariables false
theorem own : ownKnob Try.prog.godebug = none := by kernel_rfl
theorem laid : laidOutB Try.prog = true := by kernel_rfl
set_option maxRecDepth 100000 in
theorem contract (H : Type) (enc : TypeId × Value → H) (W : World) (base : Nat) (args : Array Value) (ds gs : List (DataW H)) (before : List MemPlace)
    (hval : ∀ (j : Nat) t v, Try.f7.params[j]? = some t → args[j]? = some v → Value.okWide Try.prog W .any base t v)
    (hW : DataW.Whole enc Try.prog Try.f7.params.toList Rows.vclockPlaysSpec.vars false W args.toList ds gs before) (hk : Rows.uptoSmall H (ds ++ gs) = true) :
    Calls Try.prog 7 args W fun e W' => ∃ v, e = .returned v ∧ Rows.vclockPlaysSpec.post enc Try.prog Try.f7 false true false false W args v W' := by
  have hW' := hW
  obtain ⟨p, q, hA0, hV, rfl, hfz, hnd⟩ := hW
  have hA : DataW.TrodAll enc Try.prog W 0 (fun _ => true) true Try.f7.params.toList args.toList ds p := hA0
  rw [Try.params7] at hA hval
  obtain ⟨v0, d0, rfl, rfl, h0⟩ := trodAll_one hA
  obtain ⟨rfl, rfl⟩ := trodVars_none hV
  have hb0 := frame.bound_mem hk (d := d0) (by simp)
  obtain ⟨L, ao0, cap0, rfl, hr0, hl0, hm0, hb0', hq0, -⟩ := frame.arg_sl (sz := 7) Try.underlying55 (by kernel_rfl) (enc' := Vp.encS3) (Q := (fun (x : Vp.STV) d => RdS (Go.Ab.base W) x.2.2.1.1 (x.2.2.1.2.2.flatMap Vp.encZ) ∧ x.2.2.1.2.2.length ≤ Rows.uptoBulk d ∧ RdS (Go.Ab.base W) x.2.2.2.2.2.1.1 (x.2.2.2.2.2.1.2.2.flatMap Vc.encU) ∧ x.2.2.2.2.2.1.2.2.length ≤ Rows.uptoBulk d ∧ (∀ z ∈ x.2.2.2.2.2.1.2.2, 0 ≤ z) ∧ 0 ≤ x.2.2.2.2.1 ∧ 0 ≤ x.2.2.2.2.2.2.1 ∧ x.2.2.2.2.2.2.1 < 18446744073709551616)) Vp.encS3_len (fun n cs y h hl => ((frame.el_struct Try.underlying68 (frame.fo_cons (encA := (fun (x : Int) => [Value.int .i64 x])) (Q := (fun x _ => (Lit.int .i64 x).wf = true)) (sz := 1) (n := 7) rfl rfl (by kernel_rfl) (frame.el_int Try.underlying3) (frame.fo_cons (encA := (fun (x : Int) => [Value.int .i64 x])) (Q := (fun x _ => (Lit.int .i64 x).wf = true)) (sz := 1) (n := 6) rfl rfl (by kernel_rfl) (frame.el_int Try.underlying3) (frame.fo_cons (encA := Go.Ab.encH) (Q := (fun x d => RdS (Go.Ab.base W) x.1 (x.2.2.flatMap Vp.encZ) ∧ x.2.2.length ≤ Rows.uptoBulk d ∧ (∀ z ∈ x.2.2, ∃ d2, (fun x _ => (Lit.int .i64 x).wf = true) z d2 ∧ Rows.uptoBulk d2 ≤ Rows.uptoBulk d) ∧ x.2.2.length ≤ x.2.1)) (sz := 1) (n := 5) rfl rfl (by kernel_rfl) (frame.el_sl (sz := 0) (enc' := Vp.encZ) (Q := (fun x _ => (Lit.int .i64 x).wf = true)) Try.underlying66 (by kernel_rfl) Vp.encZ_len (frame.el_int Try.underlying3)) (frame.fo_cons (encA := (fun (x : Int) => [Value.int .i64 x])) (Q := (fun x _ => (Lit.int .i64 x).wf = true)) (sz := 1) (n := 4) rfl rfl (by kernel_rfl) (frame.el_int Try.underlying3) (frame.fo_cons (encA := (fun (x : Int) => [Value.int .u64 x])) (Q := (fun x _ => (Lit.int .u64 x).wf = true)) (sz := 1) (n := 3) rfl rfl (by kernel_rfl) (frame.el_int Try.underlying30) (frame.fo_cons (encA := Go.Ab.encH) (Q := (fun x d => RdS (Go.Ab.base W) x.1 (x.2.2.flatMap Vc.encU) ∧ x.2.2.length ≤ Rows.uptoBulk d ∧ (∀ z ∈ x.2.2, ∃ d2, (fun x _ => (Lit.int .u64 x).wf = true) z d2 ∧ Rows.uptoBulk d2 ≤ Rows.uptoBulk d) ∧ x.2.2.length ≤ x.2.1)) (sz := 1) (n := 2) rfl rfl (by kernel_rfl) (frame.el_sl (sz := 0) (enc' := Vc.encU) (Q := (fun x _ => (Lit.int .u64 x).wf = true)) Try.underlying23 (by kernel_rfl) Vc.encU_len (frame.el_int Try.underlying30)) (frame.fo_cons (encA := (fun (x : Int) => [Value.int .u64 x])) (Q := (fun x _ => (Lit.int .u64 x).wf = true)) (sz := 1) (n := 1) rfl rfl (by kernel_rfl) (frame.el_int Try.underlying47) (frame.fo_last (encA := (fun (x : Int) => [Value.int .i64 x])) (Q := (fun x _ => (Lit.int .i64 x).wf = true)) (sz := 1) rfl rfl (by kernel_rfl) (frame.el_int Try.underlying3)))))))))) n cs y h hl).imp fun x h => ⟨h.1, by
    obtain ⟨-, -, ⟨dw, ⟨hw1, hw2, -, -⟩, hw3⟩, -, ⟨dk, hk, -⟩, ⟨dc, ⟨hc1, hc2, hc3, -⟩, hc4⟩, ⟨de, he, -⟩, -⟩ := h.2
    have he2 := frame.wf_u64 he
    exact ⟨hw1, Nat.le_trans hw2 hw3, hc1, Nat.le_trans hc2 hc4, fun z hz => (hc3 z hz).elim fun _ q => (frame.wf_u64 q.1).1, (frame.wf_u64 hk).1, he2.1, by omega⟩⟩) (hval 0 55 v0 rfl rfl) h0
  refine (frame.spec_calls (Vp.plays_spec L ao0 _ cap0 (Go.Ab.base W) hr0 (fun x hx => by
    obtain ⟨d2, ⟨q1, q2, q3, q4, q5, q6, q7, q8⟩, hd⟩ := hq0 x hx
    exact ⟨q1, by omega, q3, by omega, q5, q6, q7, q8⟩) rfl (by omega))).mono fun e W' ⟨he, hg⟩ => ?_
  subst he
  exact ⟨_, rfl, frame.law_post laid (by rw [Try.params7]; decide +kernel) rfl rfl Try.underlying4 rfl hW' hg⟩
set_option maxRecDepth 100000 in
theorem lifted (os : Os) (started : os.Started) (H : Type) (enc : TypeId × Value → H) (F : Stop.Interp) :
    ReturnsInHanded {} Try.checked os 7 .any ((Rows.OpenSpec.upto Rows.vclockPlaysSpec).pre6 enc Try.prog Try.f7 Rows.vclockPlaysUptoRow.domain false) (((Rows.OpenSpec.upto Rows.vclockPlaysSpec).at F).post enc Try.prog Try.f7 false true false false) := by
  refine returnsInHanded_of_cond (C := Try.checked) (s := Rows.OpenSpec.upto Rows.vclockPlaysSpec) (k := Rows.uptoSmall) rfl own started (by kernel_rfl) Try.func7
    (OpenSpec.witness (enc := enc) (C := Try.checked) (s := Rows.OpenSpec.upto Rows.vclockPlaysSpec) (k := Rows.uptoSmall) rfl false ⟨#[], #[.slice none 0 0], []⟩ 8 (by kernel_rfl) (by kernel_rfl) (by kernel_rfl)
      (x := ([.nil], [], [])) (by kernel_rfl) rfl (by kernel_rfl)) ?_
  intro W base args ds gs before hval hW _ hk _
  exact contract H enc W base args ds gs before hval hW hk
theorem proved : Rows.VclockPlaysUptoSaid :=
  OpenClaim.holds_of_cond 7 Try.f7 rfl rfl rfl rfl rfl rfl rfl ⟨rfl, rfl, rfl, rfl, rfl⟩ rfl rfl rfl rfl rfl (by kernel_rfl) Try.func7 (by kernel_rfl)
    (of_decide_eq_true (by kernel_rfl)) (by unfold Func.isWrapper; first | (rw [if_pos (by decide +kernel)]; kernel_rfl) | (rw [if_neg (by decide +kernel)]; exact ⟨rfl, rfl⟩))
    (fun os started H enc _ F => lifted os started H enc F)
#print axioms proved
end Go.Proofs.Ytjoacllimldfkaa.vclockPlays
