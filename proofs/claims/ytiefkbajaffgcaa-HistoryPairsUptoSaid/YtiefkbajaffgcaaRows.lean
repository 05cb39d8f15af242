/-
  No cell of these rows narrows 'for every input' (looked for: loops, veiled, ifaces, maps, wideKeys, modest, calm, conditions, laid).
  DERIVED. THE GIVEN ROWS OF THIS SEAT. 4 by the template 'for every input the law returns true; each argument reads behind the call as it read before'; 0 by the template 'total and deterministic' (their statements: YtiefkbajaffgcaaTotals.lean).
  GIVEN WITH THE SEED: the statements are not yours to turn. If you find one false, say at which input.
  Laid BY PROGRAM, IN A SANDBOX (cutbox-rows.mjs): the forced cells as the released guide's own fill.sh prints them over the translation 6f23acdcd192f3fb… (all of the seat's roots in one cut). By AI agents, Wed Nov 11 2026. No macro, syntax, notation, axiom, sorry.
-/
import Derived.Test.YtiefkbajaffgcaaChecked
import GoSem.Claim
import GoSem.ClaimJoined
import GoSem.ClaimMapViews
import Derived.JoinedTies
import Derived.KernelRfl
namespace Go.Proofs.Ytiefkbajaffgcaa
/- THE CELL 'sum', in the pinned program and in every row, IS THE sha256 OF THE DUMP (.gsa) THAT YtiefkbajaffgcaaProg.lean LOADS. Nothing in Lean hashes anything: it is a label: what it is worth is what the hold of that sum in a sandbox is worth. -/
noncomputable def Try.pinned : Pinned := { name := "ytiefkbajaffgcaa", sum := "6f23acdcd192f3fba8e2c790c72506f175c3ca034387ea367841da9610c5aa3f", checked := Try.checked }
namespace Rows
def none {H : Type} : Left H := { results := [], args := [] }

/-- 'abreastlaw24.HistoryNames': WHATEVER THE INPUT: true; the input reads as it did. -/
def historyNamesSpec : ChangeSpec := { name := "historyNames", fn := fun _ => fun
  | [] => { results := [.lit (.bool true)], args := [] }
  | _ => none }
def historyNamesRow : OpenClaim := { program := "ytiefkbajaffgcaa", sum := "6f23acdcd192f3fba8e2c790c72506f175c3ca034387ea367841da9610c5aa3f", func := "abreast/abreastlaw24.HistoryNames", spec := "historyNames", unfollowed := true, recurses := true, plainKeys := false, apart := false }
def HistoryNamesSaid : Prop := historyNamesRow.holds Try.pinned (OpenSpec.ofChange historyNamesSpec)

/-- ITS FALSE NEIGHBOUR: 'it returns false'. Refute it at one input. -/
def historyNamesWrong : ChangeSpec := { name := "historyNames", fn := fun _ => fun
  | [] => { results := [.lit (.bool false)], args := [] }
  | _ => none }
def HistoryNamesWrongFalsely : Prop := historyNamesRow.holds Try.pinned (OpenSpec.ofChange historyNamesWrong)

/-- 'abreastlaw24.HistoryJoined': WHATEVER THE INPUT: true; the input reads as it did. -/
def historyJoinedSpec : ChangeSpec := { name := "historyJoined", fn := fun _ => fun
  | [d1, d2, d3] => { results := [.lit (.bool true)], args := [d1, d2, d3] }
  | _ => none }
def historyJoinedRow : OpenClaim := { program := "ytiefkbajaffgcaa", sum := "6f23acdcd192f3fba8e2c790c72506f175c3ca034387ea367841da9610c5aa3f", func := "abreast/abreastlaw24.HistoryJoined", spec := "historyJoined", unfollowed := true, recurses := true, plainKeys := false, apart := false }
def HistoryJoinedSaid : Prop := historyJoinedRow.holds Try.pinned (OpenSpec.ofChange historyJoinedSpec)

/-- ITS FALSE NEIGHBOUR: 'it returns false'. Refute it at one input. -/
def historyJoinedWrong : ChangeSpec := { name := "historyJoined", fn := fun _ => fun
  | [d1, d2, d3] => { results := [.lit (.bool false)], args := [d1, d2, d3] }
  | _ => none }
def HistoryJoinedWrongFalsely : Prop := historyJoinedRow.holds Try.pinned (OpenSpec.ofChange historyJoinedWrong)

/-- 'abreastlaw24.HistoryAgainst': WHATEVER THE INPUT: true; the input reads as it did. -/
def historyAgainstSpec : ChangeSpec := { name := "historyAgainst", fn := fun _ => fun
  | [d1, d2, d3, d4, d5] => { results := [.lit (.bool true)], args := [d1, d2, d3, d4, d5] }
  | _ => none }
def historyAgainstRow : OpenClaim := { program := "ytiefkbajaffgcaa", sum := "6f23acdcd192f3fba8e2c790c72506f175c3ca034387ea367841da9610c5aa3f", func := "abreast/abreastlaw24.HistoryAgainst", spec := "historyAgainst", unfollowed := true, recurses := true, plainKeys := false, apart := false }
def HistoryAgainstSaid : Prop := historyAgainstRow.holds Try.pinned (OpenSpec.ofChange historyAgainstSpec)

/-- ITS FALSE NEIGHBOUR: 'it returns false'. Refute it at one input. -/
def historyAgainstWrong : ChangeSpec := { name := "historyAgainst", fn := fun _ => fun
  | [d1, d2, d3, d4, d5] => { results := [.lit (.bool false)], args := [d1, d2, d3, d4, d5] }
  | _ => none }
def HistoryAgainstWrongFalsely : Prop := historyAgainstRow.holds Try.pinned (OpenSpec.ofChange historyAgainstWrong)

/-- 'abreastlaw24.HistoryPairs': WHATEVER THE INPUT: true; the input reads as it did. -/
def historyPairsSpec : ChangeSpec := { name := "historyPairs", fn := fun _ => fun
  | [d1, d2] => { results := [.lit (.bool true)], args := [d1, d2] }
  | _ => none }
def historyPairsRow : OpenClaim := { program := "ytiefkbajaffgcaa", sum := "6f23acdcd192f3fba8e2c790c72506f175c3ca034387ea367841da9610c5aa3f", func := "abreast/abreastlaw24.HistoryPairs", spec := "historyPairs", unfollowed := true, recurses := true, plainKeys := false, apart := false }
def HistoryPairsSaid : Prop := historyPairsRow.holds Try.pinned (OpenSpec.ofChange historyPairsSpec)

/-- ITS FALSE NEIGHBOUR: 'it returns false'. Refute it at one input. -/
def historyPairsWrong : ChangeSpec := { name := "historyPairs", fn := fun _ => fun
  | [d1, d2] => { results := [.lit (.bool false)], args := [d1, d2] }
  | _ => none }
def HistoryPairsWrongFalsely : Prop := historyPairsRow.holds Try.pinned (OpenSpec.ofChange historyPairsWrong)

/- THE SECOND FORM. 'bulk': how many values and letters a reading holds, each counted each time it is reached (what is shared counts as often as it is met; a slice's spare places count too). A statement '..UptoSaid' is the law's where the arguments, and the package variables that the reading takes, are together of bulk at most 1048576: NARROWER than '..Said'. Prove '..Said' where nothing that the law and all that it calls make is longer than what came in: it says more and counts as full. Else prove '..UptoSaid'. A law counts once. -/
mutual
def uptoBulk {H : Type} : DataW H → Nat
  | .lit (.string bytes) => bytes.length + 1
  | .lit _ => 1
  | .nil => 1
  | .ptr d => uptoBulk d + 1
  | .slice elems spare => uptoBulkAll elems + uptoBulkAll spare + 1
  | .agg parts => uptoBulkAll parts + 1
  | .iface _ d => uptoBulk d + 1
  | .map entries => uptoBulkEntries entries + 1
  | .held _ => 1
def uptoBulkAll {H : Type} : List (DataW H) → Nat
  | [] => 0
  | d :: r => uptoBulk d + uptoBulkAll r
def uptoBulkEntries {H : Type} : List (Lit × DataW H) → Nat
  | [] => 0
  | x :: r => uptoBulkEntry x + uptoBulkEntries r
def uptoBulkEntry {H : Type} : Lit × DataW H → Nat
  | (.string bytes, d) => bytes.length + uptoBulk d + 1
  | (_, d) => uptoBulk d + 1
 end
def uptoSmall : (H : Type) → List (DataW H) → Bool := fun _ ds => decide (uptoBulkAll ds ≤ 1048576)
def OpenSpec.upto (s : _root_.Go.ChangeSpec) : _root_.Go.OpenSpec := { _root_.Go.OpenSpec.ofChange s with cond := some uptoSmall }

/-- 'abreastlaw24.HistoryNames', WHERE WHAT IT READS IS OF BULK AT MOST 1048576: true; the input reads as it did. -/
def historyNamesUptoRow : OpenClaim := { program := "ytiefkbajaffgcaa", sum := "6f23acdcd192f3fba8e2c790c72506f175c3ca034387ea367841da9610c5aa3f", func := "abreast/abreastlaw24.HistoryNames", spec := "historyNames", unfollowed := true, recurses := true, plainKeys := false, apart := false, narrowed := true }
def HistoryNamesUptoSaid : Prop := historyNamesUptoRow.holds Try.pinned (OpenSpec.upto historyNamesSpec)

/-- 'abreastlaw24.HistoryJoined', WHERE WHAT IT READS IS OF BULK AT MOST 1048576: true; the input reads as it did. -/
def historyJoinedUptoRow : OpenClaim := { program := "ytiefkbajaffgcaa", sum := "6f23acdcd192f3fba8e2c790c72506f175c3ca034387ea367841da9610c5aa3f", func := "abreast/abreastlaw24.HistoryJoined", spec := "historyJoined", unfollowed := true, recurses := true, plainKeys := false, apart := false, narrowed := true }
def HistoryJoinedUptoSaid : Prop := historyJoinedUptoRow.holds Try.pinned (OpenSpec.upto historyJoinedSpec)

/-- 'abreastlaw24.HistoryAgainst', WHERE WHAT IT READS IS OF BULK AT MOST 1048576: true; the input reads as it did. -/
def historyAgainstUptoRow : OpenClaim := { program := "ytiefkbajaffgcaa", sum := "6f23acdcd192f3fba8e2c790c72506f175c3ca034387ea367841da9610c5aa3f", func := "abreast/abreastlaw24.HistoryAgainst", spec := "historyAgainst", unfollowed := true, recurses := true, plainKeys := false, apart := false, narrowed := true }
def HistoryAgainstUptoSaid : Prop := historyAgainstUptoRow.holds Try.pinned (OpenSpec.upto historyAgainstSpec)

/-- 'abreastlaw24.HistoryPairs', WHERE WHAT IT READS IS OF BULK AT MOST 1048576: true; the input reads as it did. -/
def historyPairsUptoRow : OpenClaim := { program := "ytiefkbajaffgcaa", sum := "6f23acdcd192f3fba8e2c790c72506f175c3ca034387ea367841da9610c5aa3f", func := "abreast/abreastlaw24.HistoryPairs", spec := "historyPairs", unfollowed := true, recurses := true, plainKeys := false, apart := false, narrowed := true }
def HistoryPairsUptoSaid : Prop := historyPairsUptoRow.holds Try.pinned (OpenSpec.upto historyPairsSpec)

end Rows
end Go.Proofs.Ytiefkbajaffgcaa
