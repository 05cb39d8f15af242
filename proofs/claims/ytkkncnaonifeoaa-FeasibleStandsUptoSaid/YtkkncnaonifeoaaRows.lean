/-
  No cell of these rows narrows 'for every input' (looked for: loops, veiled, ifaces, maps, wideKeys, modest, calm, conditions, laid).
  DERIVED. THE GIVEN ROWS OF THIS SEAT. 7 by the template 'for every input the law returns true; each argument reads behind the call as it read before'; 0 by the template 'total and deterministic' (their statements: YtkkncnaonifeoaaTotals.lean).
  GIVEN WITH THE SEED: the statements are not yours to turn. If you find one false, say at which input.
  Laid BY PROGRAM, IN A SANDBOX (cutbox-rows.mjs): the forced cells as the released guide's own fill.sh prints them over the translation 0a21a7f8975a4c10… (all of the seat's roots in one cut). By AI agents, Wed Nov 11 2026. No macro, syntax, notation, axiom, sorry.
-/
import Derived.Test.YtkkncnaonifeoaaChecked
import GoSem.Claim
import GoSem.ClaimJoined
import GoSem.ClaimMapViews
import Derived.JoinedTies
import Derived.KernelRfl
namespace Go.Proofs.Ytkkncnaonifeoaa
/- THE CELL 'sum', in the pinned program and in every row, IS THE sha256 OF THE DUMP (.gsa) THAT YtkkncnaonifeoaaProg.lean LOADS. Nothing in Lean hashes anything: it is a label: what it is worth is what the hold of that sum in a sandbox is worth. -/
noncomputable def Try.pinned : Pinned := { name := "ytkkncnaonifeoaa", sum := "0a21a7f8975a4c10668064b102862a83dd3069e0aa3cdc8ccd57d0ab6e9648ab", checked := Try.checked }
namespace Rows
def none {H : Type} : Left H := { results := [], args := [] }

/-- 'abreastlaw19.FeasibleNames': WHATEVER THE INPUT: true; the input reads as it did. -/
def feasibleNamesSpec : ChangeSpec := { name := "feasibleNames", fn := fun _ => fun
  | [] => { results := [.lit (.bool true)], args := [] }
  | _ => none }
def feasibleNamesRow : OpenClaim := { program := "ytkkncnaonifeoaa", sum := "0a21a7f8975a4c10668064b102862a83dd3069e0aa3cdc8ccd57d0ab6e9648ab", func := "abreast/abreastlaw19.FeasibleNames", spec := "feasibleNames", apart := false }
def FeasibleNamesSaid : Prop := feasibleNamesRow.holds Try.pinned (OpenSpec.ofChange feasibleNamesSpec)

/-- ITS FALSE NEIGHBOUR: 'it returns false'. Refute it at one input. -/
def feasibleNamesWrong : ChangeSpec := { name := "feasibleNames", fn := fun _ => fun
  | [] => { results := [.lit (.bool false)], args := [] }
  | _ => none }
def FeasibleNamesWrongFalsely : Prop := feasibleNamesRow.holds Try.pinned (OpenSpec.ofChange feasibleNamesWrong)

/-- 'abreastlaw19.FeasibleLeast': WHATEVER THE INPUT: true; the input reads as it did. -/
def feasibleLeastSpec : ChangeSpec := { name := "feasibleLeast", fn := fun _ => fun
  | [d1, d2] => { results := [.lit (.bool true)], args := [d1, d2] }
  | _ => none }
def feasibleLeastRow : OpenClaim := { program := "ytkkncnaonifeoaa", sum := "0a21a7f8975a4c10668064b102862a83dd3069e0aa3cdc8ccd57d0ab6e9648ab", func := "abreast/abreastlaw19.FeasibleLeast", spec := "feasibleLeast", unfollowed := true, recurses := true, apart := false }
def FeasibleLeastSaid : Prop := feasibleLeastRow.holds Try.pinned (OpenSpec.ofChange feasibleLeastSpec)

/-- ITS FALSE NEIGHBOUR: 'it returns false'. Refute it at one input. -/
def feasibleLeastWrong : ChangeSpec := { name := "feasibleLeast", fn := fun _ => fun
  | [d1, d2] => { results := [.lit (.bool false)], args := [d1, d2] }
  | _ => none }
def FeasibleLeastWrongFalsely : Prop := feasibleLeastRow.holds Try.pinned (OpenSpec.ofChange feasibleLeastWrong)

/-- 'abreastlaw19.FeasibleBegins': WHATEVER THE INPUT: true; the input reads as it did. -/
def feasibleBeginsSpec : ChangeSpec := { name := "feasibleBegins", fn := fun _ => fun
  | [d] => { results := [.lit (.bool true)], args := [d] }
  | _ => none }
def feasibleBeginsRow : OpenClaim := { program := "ytkkncnaonifeoaa", sum := "0a21a7f8975a4c10668064b102862a83dd3069e0aa3cdc8ccd57d0ab6e9648ab", func := "abreast/abreastlaw19.FeasibleBegins", spec := "feasibleBegins", unfollowed := true, recurses := true, apart := false }
def FeasibleBeginsSaid : Prop := feasibleBeginsRow.holds Try.pinned (OpenSpec.ofChange feasibleBeginsSpec)

/-- ITS FALSE NEIGHBOUR: 'it returns false'. Refute it at one input. -/
def feasibleBeginsWrong : ChangeSpec := { name := "feasibleBegins", fn := fun _ => fun
  | [d] => { results := [.lit (.bool false)], args := [d] }
  | _ => none }
def FeasibleBeginsWrongFalsely : Prop := feasibleBeginsRow.holds Try.pinned (OpenSpec.ofChange feasibleBeginsWrong)

/-- 'abreastlaw19.FeasibleExits': WHATEVER THE INPUT: true; the input reads as it did. -/
def feasibleExitsSpec : ChangeSpec := { name := "feasibleExits", fn := fun _ => fun
  | [d1, d2, d3] => { results := [.lit (.bool true)], args := [d1, d2, d3] }
  | _ => none }
def feasibleExitsRow : OpenClaim := { program := "ytkkncnaonifeoaa", sum := "0a21a7f8975a4c10668064b102862a83dd3069e0aa3cdc8ccd57d0ab6e9648ab", func := "abreast/abreastlaw19.FeasibleExits", spec := "feasibleExits", unfollowed := true, recurses := true, apart := false }
def FeasibleExitsSaid : Prop := feasibleExitsRow.holds Try.pinned (OpenSpec.ofChange feasibleExitsSpec)

/-- ITS FALSE NEIGHBOUR: 'it returns false'. Refute it at one input. -/
def feasibleExitsWrong : ChangeSpec := { name := "feasibleExits", fn := fun _ => fun
  | [d1, d2, d3] => { results := [.lit (.bool false)], args := [d1, d2, d3] }
  | _ => none }
def FeasibleExitsWrongFalsely : Prop := feasibleExitsRow.holds Try.pinned (OpenSpec.ofChange feasibleExitsWrong)

/-- 'abreastlaw19.FeasibleStands': WHATEVER THE INPUT: true; the input reads as it did. -/
def feasibleStandsSpec : ChangeSpec := { name := "feasibleStands", fn := fun _ => fun
  | [d1, d2] => { results := [.lit (.bool true)], args := [d1, d2] }
  | _ => none }
def feasibleStandsRow : OpenClaim := { program := "ytkkncnaonifeoaa", sum := "0a21a7f8975a4c10668064b102862a83dd3069e0aa3cdc8ccd57d0ab6e9648ab", func := "abreast/abreastlaw19.FeasibleStands", spec := "feasibleStands", unfollowed := true, recurses := true, apart := false }
def FeasibleStandsSaid : Prop := feasibleStandsRow.holds Try.pinned (OpenSpec.ofChange feasibleStandsSpec)

/-- ITS FALSE NEIGHBOUR: 'it returns false'. Refute it at one input. -/
def feasibleStandsWrong : ChangeSpec := { name := "feasibleStands", fn := fun _ => fun
  | [d1, d2] => { results := [.lit (.bool false)], args := [d1, d2] }
  | _ => none }
def FeasibleStandsWrongFalsely : Prop := feasibleStandsRow.holds Try.pinned (OpenSpec.ofChange feasibleStandsWrong)

/-- 'abreastlaw19.FeasiblePlays': WHATEVER THE INPUT: true; the input reads as it did. -/
def feasiblePlaysSpec : ChangeSpec := { name := "feasiblePlays", fn := fun _ => fun
  | [d1, d2] => { results := [.lit (.bool true)], args := [d1, d2] }
  | _ => none }
def feasiblePlaysRow : OpenClaim := { program := "ytkkncnaonifeoaa", sum := "0a21a7f8975a4c10668064b102862a83dd3069e0aa3cdc8ccd57d0ab6e9648ab", func := "abreast/abreastlaw19.FeasiblePlays", spec := "feasiblePlays", inPlace := ["maps.clone"], unfollowed := true, recurses := true, apart := false }
def FeasiblePlaysSaid : Prop := feasiblePlaysRow.holds Try.pinned (OpenSpec.ofChange feasiblePlaysSpec)

/-- ITS FALSE NEIGHBOUR: 'it returns false'. Refute it at one input. -/
def feasiblePlaysWrong : ChangeSpec := { name := "feasiblePlays", fn := fun _ => fun
  | [d1, d2] => { results := [.lit (.bool false)], args := [d1, d2] }
  | _ => none }
def FeasiblePlaysWrongFalsely : Prop := feasiblePlaysRow.holds Try.pinned (OpenSpec.ofChange feasiblePlaysWrong)

/-- 'abreastlaw19.FeasibleNil': WHATEVER THE INPUT: true; the input reads as it did. -/
def feasibleNilSpec : ChangeSpec := { name := "feasibleNil", fn := fun _ => fun
  | [d1, d2] => { results := [.lit (.bool true)], args := [d1, d2] }
  | _ => none }
def feasibleNilRow : OpenClaim := { program := "ytkkncnaonifeoaa", sum := "0a21a7f8975a4c10668064b102862a83dd3069e0aa3cdc8ccd57d0ab6e9648ab", func := "abreast/abreastlaw19.FeasibleNil", spec := "feasibleNil", inPlace := ["maps.clone"], unfollowed := true, recurses := true, apart := false }
def FeasibleNilSaid : Prop := feasibleNilRow.holds Try.pinned (OpenSpec.ofChange feasibleNilSpec)

/-- ITS FALSE NEIGHBOUR: 'it returns false'. Refute it at one input. -/
def feasibleNilWrong : ChangeSpec := { name := "feasibleNil", fn := fun _ => fun
  | [d1, d2] => { results := [.lit (.bool false)], args := [d1, d2] }
  | _ => none }
def FeasibleNilWrongFalsely : Prop := feasibleNilRow.holds Try.pinned (OpenSpec.ofChange feasibleNilWrong)

/- THE SECOND FORM. 'bulk': how many values and letters a reading holds, each counted each time it is reached (what is shared counts as often as it is met; a slice's spare places count too). A statement '..UptoSaid' is the law's where the arguments, and the package variables that the reading takes, are together of bulk at most 1048576: NARROWER than '..Said'. Prove '..Said' where nothing that the law and all that it calls make is longer than what came in: it says more and counts as full. Else prove '..UptoSaid'. A law counts once. -/
mutual
def uptoBulk {H : Type} : DataW H → Nat
  | .lit (.string bytes) => bytes.length + 1
  | .lit _ => 1
  | .nil => 1
  | .ptr d => uptoBulk d + 1
  | .slice elems spare => uptoBulkAll elems + uptoBulkAll spare + 1
  | .agg parts => uptoBulkAll parts + 1
  | .iface _ d => uptoBulk d + 1
  | .map entries => uptoBulkEntries entries + 1
  | .held _ => 1
def uptoBulkAll {H : Type} : List (DataW H) → Nat
  | [] => 0
  | d :: r => uptoBulk d + uptoBulkAll r
def uptoBulkEntries {H : Type} : List (Lit × DataW H) → Nat
  | [] => 0
  | x :: r => uptoBulkEntry x + uptoBulkEntries r
def uptoBulkEntry {H : Type} : Lit × DataW H → Nat
  | (.string bytes, d) => bytes.length + uptoBulk d + 1
  | (_, d) => uptoBulk d + 1
 end
def uptoSmall : (H : Type) → List (DataW H) → Bool := fun _ ds => decide (uptoBulkAll ds ≤ 1048576)
def OpenSpec.upto (s : _root_.Go.ChangeSpec) : _root_.Go.OpenSpec := { _root_.Go.OpenSpec.ofChange s with cond := some uptoSmall }

/-- 'abreastlaw19.FeasibleNames', WHERE WHAT IT READS IS OF BULK AT MOST 1048576: true; the input reads as it did. -/
def feasibleNamesUptoRow : OpenClaim := { program := "ytkkncnaonifeoaa", sum := "0a21a7f8975a4c10668064b102862a83dd3069e0aa3cdc8ccd57d0ab6e9648ab", func := "abreast/abreastlaw19.FeasibleNames", spec := "feasibleNames", apart := false, narrowed := true }
def FeasibleNamesUptoSaid : Prop := feasibleNamesUptoRow.holds Try.pinned (OpenSpec.upto feasibleNamesSpec)

/-- 'abreastlaw19.FeasibleLeast', WHERE WHAT IT READS IS OF BULK AT MOST 1048576: true; the input reads as it did. -/
def feasibleLeastUptoRow : OpenClaim := { program := "ytkkncnaonifeoaa", sum := "0a21a7f8975a4c10668064b102862a83dd3069e0aa3cdc8ccd57d0ab6e9648ab", func := "abreast/abreastlaw19.FeasibleLeast", spec := "feasibleLeast", unfollowed := true, recurses := true, apart := false, narrowed := true }
def FeasibleLeastUptoSaid : Prop := feasibleLeastUptoRow.holds Try.pinned (OpenSpec.upto feasibleLeastSpec)

/-- 'abreastlaw19.FeasibleBegins', WHERE WHAT IT READS IS OF BULK AT MOST 1048576: true; the input reads as it did. -/
def feasibleBeginsUptoRow : OpenClaim := { program := "ytkkncnaonifeoaa", sum := "0a21a7f8975a4c10668064b102862a83dd3069e0aa3cdc8ccd57d0ab6e9648ab", func := "abreast/abreastlaw19.FeasibleBegins", spec := "feasibleBegins", unfollowed := true, recurses := true, apart := false, narrowed := true }
def FeasibleBeginsUptoSaid : Prop := feasibleBeginsUptoRow.holds Try.pinned (OpenSpec.upto feasibleBeginsSpec)

/-- 'abreastlaw19.FeasibleExits', WHERE WHAT IT READS IS OF BULK AT MOST 1048576: true; the input reads as it did. -/
def feasibleExitsUptoRow : OpenClaim := { program := "ytkkncnaonifeoaa", sum := "0a21a7f8975a4c10668064b102862a83dd3069e0aa3cdc8ccd57d0ab6e9648ab", func := "abreast/abreastlaw19.FeasibleExits", spec := "feasibleExits", unfollowed := true, recurses := true, apart := false, narrowed := true }
def FeasibleExitsUptoSaid : Prop := feasibleExitsUptoRow.holds Try.pinned (OpenSpec.upto feasibleExitsSpec)

/-- 'abreastlaw19.FeasibleStands', WHERE WHAT IT READS IS OF BULK AT MOST 1048576: true; the input reads as it did. -/
def feasibleStandsUptoRow : OpenClaim := { program := "ytkkncnaonifeoaa", sum := "0a21a7f8975a4c10668064b102862a83dd3069e0aa3cdc8ccd57d0ab6e9648ab", func := "abreast/abreastlaw19.FeasibleStands", spec := "feasibleStands", unfollowed := true, recurses := true, apart := false, narrowed := true }
def FeasibleStandsUptoSaid : Prop := feasibleStandsUptoRow.holds Try.pinned (OpenSpec.upto feasibleStandsSpec)

/-- 'abreastlaw19.FeasiblePlays', WHERE WHAT IT READS IS OF BULK AT MOST 1048576: true; the input reads as it did. -/
def feasiblePlaysUptoRow : OpenClaim := { program := "ytkkncnaonifeoaa", sum := "0a21a7f8975a4c10668064b102862a83dd3069e0aa3cdc8ccd57d0ab6e9648ab", func := "abreast/abreastlaw19.FeasiblePlays", spec := "feasiblePlays", inPlace := ["maps.clone"], unfollowed := true, recurses := true, apart := false, narrowed := true }
def FeasiblePlaysUptoSaid : Prop := feasiblePlaysUptoRow.holds Try.pinned (OpenSpec.upto feasiblePlaysSpec)

/-- 'abreastlaw19.FeasibleNil', WHERE WHAT IT READS IS OF BULK AT MOST 1048576: true; the input reads as it did. -/
def feasibleNilUptoRow : OpenClaim := { program := "ytkkncnaonifeoaa", sum := "0a21a7f8975a4c10668064b102862a83dd3069e0aa3cdc8ccd57d0ab6e9648ab", func := "abreast/abreastlaw19.FeasibleNil", spec := "feasibleNil", inPlace := ["maps.clone"], unfollowed := true, recurses := true, apart := false, narrowed := true }
def FeasibleNilUptoSaid : Prop := feasibleNilUptoRow.holds Try.pinned (OpenSpec.upto feasibleNilSpec)

end Rows
end Go.Proofs.Ytkkncnaonifeoaa
