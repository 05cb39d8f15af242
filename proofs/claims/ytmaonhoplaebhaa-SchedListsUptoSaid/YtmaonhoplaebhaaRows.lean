/-
  No cell of these rows narrows 'for every input' (looked for: loops, veiled, ifaces, maps, wideKeys, modest, calm, conditions, laid).
  DERIVED. THE GIVEN ROWS OF THIS SEAT. 8 by the template 'for every input the law returns true; each argument reads behind the call as it read before'; 0 by the template 'total and deterministic' (their statements: YtmaonhoplaebhaaTotals.lean).
  GIVEN WITH THE SEED: the statements are not yours to turn. If you find one false, say at which input.
  Laid BY PROGRAM, IN A SANDBOX (cutbox-rows.mjs): the forced cells as the released guide's own fill.sh prints them over the translation 3a64ec3aba1c1a63… (all of the seat's roots in one cut). By AI agents, Wed Nov 11 2026. No macro, syntax, notation, axiom, sorry.
-/
import Derived.Test.YtmaonhoplaebhaaChecked
import GoSem.Claim
import GoSem.ClaimJoined
import GoSem.ClaimMapViews
import Derived.JoinedTies
import Derived.KernelRfl
namespace Go.Proofs.Ytmaonhoplaebhaa
/- THE CELL 'sum', in the pinned program and in every row, IS THE sha256 OF THE DUMP (.gsa) THAT YtmaonhoplaebhaaProg.lean LOADS. Nothing in Lean hashes anything: it is a label: what it is worth is what the hold of that sum in a sandbox is worth. -/
noncomputable def Try.pinned : Pinned := { name := "ytmaonhoplaebhaa", sum := "3a64ec3aba1c1a6300b6d54133d3a47211267f1fdd2c829f80f1211d112e7f89", checked := Try.checked }
namespace Rows
def none {H : Type} : Left H := { results := [], args := [] }

/-- 'abreastlaw16.SchedNames': WHATEVER THE INPUT: true; the input reads as it did. -/
def schedNamesSpec : ChangeSpec := { name := "schedNames", fn := fun _ => fun
  | [] => { results := [.lit (.bool true)], args := [] }
  | _ => none }
def schedNamesRow : OpenClaim := { program := "ytmaonhoplaebhaa", sum := "3a64ec3aba1c1a6300b6d54133d3a47211267f1fdd2c829f80f1211d112e7f89", func := "abreast/abreastlaw16.SchedNames", spec := "schedNames", apart := false }
def SchedNamesSaid : Prop := schedNamesRow.holds Try.pinned (OpenSpec.ofChange schedNamesSpec)

/-- ITS FALSE NEIGHBOUR: 'it returns false'. Refute it at one input. -/
def schedNamesWrong : ChangeSpec := { name := "schedNames", fn := fun _ => fun
  | [] => { results := [.lit (.bool false)], args := [] }
  | _ => none }
def SchedNamesWrongFalsely : Prop := schedNamesRow.holds Try.pinned (OpenSpec.ofChange schedNamesWrong)

/-- 'abreastlaw16.SchedTurns': WHATEVER THE INPUT: true; the input reads as it did. -/
def schedTurnsSpec : ChangeSpec := { name := "schedTurns", fn := fun _ => fun
  | [d1, d2] => { results := [.lit (.bool true)], args := [d1, d2] }
  | _ => none }
def schedTurnsRow : OpenClaim := { program := "ytmaonhoplaebhaa", sum := "3a64ec3aba1c1a6300b6d54133d3a47211267f1fdd2c829f80f1211d112e7f89", func := "abreast/abreastlaw16.SchedTurns", spec := "schedTurns", unfollowed := true, recurses := true, apart := false }
def SchedTurnsSaid : Prop := schedTurnsRow.holds Try.pinned (OpenSpec.ofChange schedTurnsSpec)

/-- ITS FALSE NEIGHBOUR: 'it returns false'. Refute it at one input. -/
def schedTurnsWrong : ChangeSpec := { name := "schedTurns", fn := fun _ => fun
  | [d1, d2] => { results := [.lit (.bool false)], args := [d1, d2] }
  | _ => none }
def SchedTurnsWrongFalsely : Prop := schedTurnsRow.holds Try.pinned (OpenSpec.ofChange schedTurnsWrong)

/-- 'abreastlaw16.SchedDraws': WHATEVER THE INPUT: true; the input reads as it did. -/
def schedDrawsSpec : ChangeSpec := { name := "schedDraws", fn := fun _ => fun
  | [d1, d2, d3] => { results := [.lit (.bool true)], args := [d1, d2, d3] }
  | _ => none }
def schedDrawsRow : OpenClaim := { program := "ytmaonhoplaebhaa", sum := "3a64ec3aba1c1a6300b6d54133d3a47211267f1fdd2c829f80f1211d112e7f89", func := "abreast/abreastlaw16.SchedDraws", spec := "schedDraws", unfollowed := true, recurses := true, apart := false }
def SchedDrawsSaid : Prop := schedDrawsRow.holds Try.pinned (OpenSpec.ofChange schedDrawsSpec)

/-- ITS FALSE NEIGHBOUR: 'it returns false'. Refute it at one input. -/
def schedDrawsWrong : ChangeSpec := { name := "schedDraws", fn := fun _ => fun
  | [d1, d2, d3] => { results := [.lit (.bool false)], args := [d1, d2, d3] }
  | _ => none }
def SchedDrawsWrongFalsely : Prop := schedDrawsRow.holds Try.pinned (OpenSpec.ofChange schedDrawsWrong)

/-- 'abreastlaw16.SchedBegins': WHATEVER THE INPUT: true; the input reads as it did. -/
def schedBeginsSpec : ChangeSpec := { name := "schedBegins", fn := fun _ => fun
  | [d1, d2, d3] => { results := [.lit (.bool true)], args := [d1, d2, d3] }
  | _ => none }
def schedBeginsRow : OpenClaim := { program := "ytmaonhoplaebhaa", sum := "3a64ec3aba1c1a6300b6d54133d3a47211267f1fdd2c829f80f1211d112e7f89", func := "abreast/abreastlaw16.SchedBegins", spec := "schedBegins", unfollowed := true, recurses := true, apart := false }
def SchedBeginsSaid : Prop := schedBeginsRow.holds Try.pinned (OpenSpec.ofChange schedBeginsSpec)

/-- ITS FALSE NEIGHBOUR: 'it returns false'. Refute it at one input. -/
def schedBeginsWrong : ChangeSpec := { name := "schedBegins", fn := fun _ => fun
  | [d1, d2, d3] => { results := [.lit (.bool false)], args := [d1, d2, d3] }
  | _ => none }
def SchedBeginsWrongFalsely : Prop := schedBeginsRow.holds Try.pinned (OpenSpec.ofChange schedBeginsWrong)

/-- 'abreastlaw16.SchedLists': WHATEVER THE INPUT: true; the input reads as it did. -/
def schedListsSpec : ChangeSpec := { name := "schedLists", fn := fun _ => fun
  | [d1, d2, d3] => { results := [.lit (.bool true)], args := [d1, d2, d3] }
  | _ => none }
def schedListsRow : OpenClaim := { program := "ytmaonhoplaebhaa", sum := "3a64ec3aba1c1a6300b6d54133d3a47211267f1fdd2c829f80f1211d112e7f89", func := "abreast/abreastlaw16.SchedLists", spec := "schedLists", unfollowed := true, recurses := true, apart := false }
def SchedListsSaid : Prop := schedListsRow.holds Try.pinned (OpenSpec.ofChange schedListsSpec)

/-- ITS FALSE NEIGHBOUR: 'it returns false'. Refute it at one input. -/
def schedListsWrong : ChangeSpec := { name := "schedLists", fn := fun _ => fun
  | [d1, d2, d3] => { results := [.lit (.bool false)], args := [d1, d2, d3] }
  | _ => none }
def SchedListsWrongFalsely : Prop := schedListsRow.holds Try.pinned (OpenSpec.ofChange schedListsWrong)

/-- 'abreastlaw16.SchedFirst': WHATEVER THE INPUT: true; the input reads as it did. -/
def schedFirstSpec : ChangeSpec := { name := "schedFirst", fn := fun _ => fun
  | [d1, d2] => { results := [.lit (.bool true)], args := [d1, d2] }
  | _ => none }
def schedFirstRow : OpenClaim := { program := "ytmaonhoplaebhaa", sum := "3a64ec3aba1c1a6300b6d54133d3a47211267f1fdd2c829f80f1211d112e7f89", func := "abreast/abreastlaw16.SchedFirst", spec := "schedFirst", unfollowed := true, recurses := true, apart := false }
def SchedFirstSaid : Prop := schedFirstRow.holds Try.pinned (OpenSpec.ofChange schedFirstSpec)

/-- ITS FALSE NEIGHBOUR: 'it returns false'. Refute it at one input. -/
def schedFirstWrong : ChangeSpec := { name := "schedFirst", fn := fun _ => fun
  | [d1, d2] => { results := [.lit (.bool false)], args := [d1, d2] }
  | _ => none }
def SchedFirstWrongFalsely : Prop := schedFirstRow.holds Try.pinned (OpenSpec.ofChange schedFirstWrong)

/-- 'abreastlaw16.SchedChooses': WHATEVER THE INPUT: true; the input reads as it did. -/
def schedChoosesSpec : ChangeSpec := { name := "schedChooses", fn := fun _ => fun
  | [d1, d2] => { results := [.lit (.bool true)], args := [d1, d2] }
  | _ => none }
def schedChoosesRow : OpenClaim := { program := "ytmaonhoplaebhaa", sum := "3a64ec3aba1c1a6300b6d54133d3a47211267f1fdd2c829f80f1211d112e7f89", func := "abreast/abreastlaw16.SchedChooses", spec := "schedChooses", unfollowed := true, recurses := true, apart := false }
def SchedChoosesSaid : Prop := schedChoosesRow.holds Try.pinned (OpenSpec.ofChange schedChoosesSpec)

/-- ITS FALSE NEIGHBOUR: 'it returns false'. Refute it at one input. -/
def schedChoosesWrong : ChangeSpec := { name := "schedChooses", fn := fun _ => fun
  | [d1, d2] => { results := [.lit (.bool false)], args := [d1, d2] }
  | _ => none }
def SchedChoosesWrongFalsely : Prop := schedChoosesRow.holds Try.pinned (OpenSpec.ofChange schedChoosesWrong)

/-- 'abreastlaw16.SchedNil': WHATEVER THE INPUT: true; the input reads as it did. -/
def schedNilSpec : ChangeSpec := { name := "schedNil", fn := fun _ => fun
  | [d] => { results := [.lit (.bool true)], args := [d] }
  | _ => none }
def schedNilRow : OpenClaim := { program := "ytmaonhoplaebhaa", sum := "3a64ec3aba1c1a6300b6d54133d3a47211267f1fdd2c829f80f1211d112e7f89", func := "abreast/abreastlaw16.SchedNil", spec := "schedNil", unfollowed := true, recurses := true, apart := false }
def SchedNilSaid : Prop := schedNilRow.holds Try.pinned (OpenSpec.ofChange schedNilSpec)

/-- ITS FALSE NEIGHBOUR: 'it returns false'. Refute it at one input. -/
def schedNilWrong : ChangeSpec := { name := "schedNil", fn := fun _ => fun
  | [d] => { results := [.lit (.bool false)], args := [d] }
  | _ => none }
def SchedNilWrongFalsely : Prop := schedNilRow.holds Try.pinned (OpenSpec.ofChange schedNilWrong)

/- THE SECOND FORM. 'bulk': how many values and letters a reading holds, each counted each time it is reached (what is shared counts as often as it is met; a slice's spare places count too). A statement '..UptoSaid' is the law's where the arguments, and the package variables that the reading takes, are together of bulk at most 1048576: NARROWER than '..Said'. Prove '..Said' where nothing that the law and all that it calls make is longer than what came in: it says more and counts as full. Else prove '..UptoSaid'. A law counts once. -/
mutual
def uptoBulk {H : Type} : DataW H → Nat
  | .lit (.string bytes) => bytes.length + 1
  | .lit _ => 1
  | .nil => 1
  | .ptr d => uptoBulk d + 1
  | .slice elems spare => uptoBulkAll elems + uptoBulkAll spare + 1
  | .agg parts => uptoBulkAll parts + 1
  | .iface _ d => uptoBulk d + 1
  | .map entries => uptoBulkEntries entries + 1
  | .held _ => 1
def uptoBulkAll {H : Type} : List (DataW H) → Nat
  | [] => 0
  | d :: r => uptoBulk d + uptoBulkAll r
def uptoBulkEntries {H : Type} : List (Lit × DataW H) → Nat
  | [] => 0
  | x :: r => uptoBulkEntry x + uptoBulkEntries r
def uptoBulkEntry {H : Type} : Lit × DataW H → Nat
  | (.string bytes, d) => bytes.length + uptoBulk d + 1
  | (_, d) => uptoBulk d + 1
 end
def uptoSmall : (H : Type) → List (DataW H) → Bool := fun _ ds => decide (uptoBulkAll ds ≤ 1048576)
def OpenSpec.upto (s : _root_.Go.ChangeSpec) : _root_.Go.OpenSpec := { _root_.Go.OpenSpec.ofChange s with cond := some uptoSmall }

/-- 'abreastlaw16.SchedNames', WHERE WHAT IT READS IS OF BULK AT MOST 1048576: true; the input reads as it did. -/
def schedNamesUptoRow : OpenClaim := { program := "ytmaonhoplaebhaa", sum := "3a64ec3aba1c1a6300b6d54133d3a47211267f1fdd2c829f80f1211d112e7f89", func := "abreast/abreastlaw16.SchedNames", spec := "schedNames", apart := false, narrowed := true }
def SchedNamesUptoSaid : Prop := schedNamesUptoRow.holds Try.pinned (OpenSpec.upto schedNamesSpec)

/-- 'abreastlaw16.SchedTurns', WHERE WHAT IT READS IS OF BULK AT MOST 1048576: true; the input reads as it did. -/
def schedTurnsUptoRow : OpenClaim := { program := "ytmaonhoplaebhaa", sum := "3a64ec3aba1c1a6300b6d54133d3a47211267f1fdd2c829f80f1211d112e7f89", func := "abreast/abreastlaw16.SchedTurns", spec := "schedTurns", unfollowed := true, recurses := true, apart := false, narrowed := true }
def SchedTurnsUptoSaid : Prop := schedTurnsUptoRow.holds Try.pinned (OpenSpec.upto schedTurnsSpec)

/-- 'abreastlaw16.SchedDraws', WHERE WHAT IT READS IS OF BULK AT MOST 1048576: true; the input reads as it did. -/
def schedDrawsUptoRow : OpenClaim := { program := "ytmaonhoplaebhaa", sum := "3a64ec3aba1c1a6300b6d54133d3a47211267f1fdd2c829f80f1211d112e7f89", func := "abreast/abreastlaw16.SchedDraws", spec := "schedDraws", unfollowed := true, recurses := true, apart := false, narrowed := true }
def SchedDrawsUptoSaid : Prop := schedDrawsUptoRow.holds Try.pinned (OpenSpec.upto schedDrawsSpec)

/-- 'abreastlaw16.SchedBegins', WHERE WHAT IT READS IS OF BULK AT MOST 1048576: true; the input reads as it did. -/
def schedBeginsUptoRow : OpenClaim := { program := "ytmaonhoplaebhaa", sum := "3a64ec3aba1c1a6300b6d54133d3a47211267f1fdd2c829f80f1211d112e7f89", func := "abreast/abreastlaw16.SchedBegins", spec := "schedBegins", unfollowed := true, recurses := true, apart := false, narrowed := true }
def SchedBeginsUptoSaid : Prop := schedBeginsUptoRow.holds Try.pinned (OpenSpec.upto schedBeginsSpec)

/-- 'abreastlaw16.SchedLists', WHERE WHAT IT READS IS OF BULK AT MOST 1048576: true; the input reads as it did. -/
def schedListsUptoRow : OpenClaim := { program := "ytmaonhoplaebhaa", sum := "3a64ec3aba1c1a6300b6d54133d3a47211267f1fdd2c829f80f1211d112e7f89", func := "abreast/abreastlaw16.SchedLists", spec := "schedLists", unfollowed := true, recurses := true, apart := false, narrowed := true }
def SchedListsUptoSaid : Prop := schedListsUptoRow.holds Try.pinned (OpenSpec.upto schedListsSpec)

/-- 'abreastlaw16.SchedFirst', WHERE WHAT IT READS IS OF BULK AT MOST 1048576: true; the input reads as it did. -/
def schedFirstUptoRow : OpenClaim := { program := "ytmaonhoplaebhaa", sum := "3a64ec3aba1c1a6300b6d54133d3a47211267f1fdd2c829f80f1211d112e7f89", func := "abreast/abreastlaw16.SchedFirst", spec := "schedFirst", unfollowed := true, recurses := true, apart := false, narrowed := true }
def SchedFirstUptoSaid : Prop := schedFirstUptoRow.holds Try.pinned (OpenSpec.upto schedFirstSpec)

/-- 'abreastlaw16.SchedChooses', WHERE WHAT IT READS IS OF BULK AT MOST 1048576: true; the input reads as it did. -/
def schedChoosesUptoRow : OpenClaim := { program := "ytmaonhoplaebhaa", sum := "3a64ec3aba1c1a6300b6d54133d3a47211267f1fdd2c829f80f1211d112e7f89", func := "abreast/abreastlaw16.SchedChooses", spec := "schedChooses", unfollowed := true, recurses := true, apart := false, narrowed := true }
def SchedChoosesUptoSaid : Prop := schedChoosesUptoRow.holds Try.pinned (OpenSpec.upto schedChoosesSpec)

/-- 'abreastlaw16.SchedNil', WHERE WHAT IT READS IS OF BULK AT MOST 1048576: true; the input reads as it did. -/
def schedNilUptoRow : OpenClaim := { program := "ytmaonhoplaebhaa", sum := "3a64ec3aba1c1a6300b6d54133d3a47211267f1fdd2c829f80f1211d112e7f89", func := "abreast/abreastlaw16.SchedNil", spec := "schedNil", unfollowed := true, recurses := true, apart := false, narrowed := true }
def SchedNilUptoSaid : Prop := schedNilUptoRow.holds Try.pinned (OpenSpec.upto schedNilSpec)

end Rows
end Go.Proofs.Ytmaonhoplaebhaa
