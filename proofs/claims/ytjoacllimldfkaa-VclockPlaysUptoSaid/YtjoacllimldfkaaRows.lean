/-
  No cell of these rows narrows 'for every input' (looked for: loops, veiled, ifaces, maps, wideKeys, modest, calm, conditions, laid).
  DERIVED. THE GIVEN ROWS OF THIS SEAT. 5 by the template 'for every input the law returns true; each argument reads behind the call as it read before'; 0 by the template 'total and deterministic' (their statements: YtjoacllimldfkaaTotals.lean).
  GIVEN WITH THE SEED: the statements are not yours to turn. If you find one false, say at which input.
  Laid BY PROGRAM, IN A SANDBOX (cutbox-rows.mjs): the forced cells as the released guide's own fill.sh prints them over the translation 25405ed37bd0db35… (all of the seat's roots in one cut). By AI agents, Wed Nov 11 2026. No macro, syntax, notation, axiom, sorry.
-/
import Derived.Test.YtjoacllimldfkaaChecked
import GoSem.Claim
import GoSem.ClaimJoined
import GoSem.ClaimMapViews
import Derived.JoinedTies
import Derived.KernelRfl
namespace Go.Proofs.Ytjoacllimldfkaa
/- THE CELL 'sum', in the pinned program and in every row, IS THE sha256 OF THE DUMP (.gsa) THAT YtjoacllimldfkaaProg.lean LOADS. Nothing in Lean hashes anything: it is a label: what it is worth is what the hold of that sum in a sandbox is worth. -/
noncomputable def Try.pinned : Pinned := { name := "ytjoacllimldfkaa", sum := "25405ed37bd0db35711862df0529cedc7c46c26f782877545cf7297642e22e8e", checked := Try.checked }
namespace Rows
def none {H : Type} : Left H := { results := [], args := [] }

/-- 'abreastlaw03.VclockNames': WHATEVER THE INPUT: true; the input reads as it did. -/
def vclockNamesSpec : ChangeSpec := { name := "vclockNames", fn := fun _ => fun
  | [] => { results := [.lit (.bool true)], args := [] }
  | _ => none }
def vclockNamesRow : OpenClaim := { program := "ytjoacllimldfkaa", sum := "25405ed37bd0db35711862df0529cedc7c46c26f782877545cf7297642e22e8e", func := "abreast/abreastlaw03.VclockNames", spec := "vclockNames", unfollowed := true, recurses := true, apart := false }
def VclockNamesSaid : Prop := vclockNamesRow.holds Try.pinned (OpenSpec.ofChange vclockNamesSpec)

/-- ITS FALSE NEIGHBOUR: 'it returns false'. Refute it at one input. -/
def vclockNamesWrong : ChangeSpec := { name := "vclockNames", fn := fun _ => fun
  | [] => { results := [.lit (.bool false)], args := [] }
  | _ => none }
def VclockNamesWrongFalsely : Prop := vclockNamesRow.holds Try.pinned (OpenSpec.ofChange vclockNamesWrong)

/-- 'abreastlaw03.VclockLattice': WHATEVER THE INPUT: true; the input reads as it did. -/
def vclockLatticeSpec : ChangeSpec := { name := "vclockLattice", fn := fun _ => fun
  | [d1, d2, d3] => { results := [.lit (.bool true)], args := [d1, d2, d3] }
  | _ => none }
def vclockLatticeRow : OpenClaim := { program := "ytjoacllimldfkaa", sum := "25405ed37bd0db35711862df0529cedc7c46c26f782877545cf7297642e22e8e", func := "abreast/abreastlaw03.VclockLattice", spec := "vclockLattice", unfollowed := true, recurses := true, apart := false }
def VclockLatticeSaid : Prop := vclockLatticeRow.holds Try.pinned (OpenSpec.ofChange vclockLatticeSpec)

/-- ITS FALSE NEIGHBOUR: 'it returns false'. Refute it at one input. -/
def vclockLatticeWrong : ChangeSpec := { name := "vclockLattice", fn := fun _ => fun
  | [d1, d2, d3] => { results := [.lit (.bool false)], args := [d1, d2, d3] }
  | _ => none }
def VclockLatticeWrongFalsely : Prop := vclockLatticeRow.holds Try.pinned (OpenSpec.ofChange vclockLatticeWrong)

/-- 'abreastlaw03.VclockApart': WHATEVER THE INPUT: true; the input reads as it did. -/
def vclockApartSpec : ChangeSpec := { name := "vclockApart", fn := fun _ => fun
  | [d1, d2, d3] => { results := [.lit (.bool true)], args := [d1, d2, d3] }
  | _ => none }
def vclockApartRow : OpenClaim := { program := "ytjoacllimldfkaa", sum := "25405ed37bd0db35711862df0529cedc7c46c26f782877545cf7297642e22e8e", func := "abreast/abreastlaw03.VclockApart", spec := "vclockApart", unfollowed := true, recurses := true, apart := false }
def VclockApartSaid : Prop := vclockApartRow.holds Try.pinned (OpenSpec.ofChange vclockApartSpec)

/-- ITS FALSE NEIGHBOUR: 'it returns false'. Refute it at one input. -/
def vclockApartWrong : ChangeSpec := { name := "vclockApart", fn := fun _ => fun
  | [d1, d2, d3] => { results := [.lit (.bool false)], args := [d1, d2, d3] }
  | _ => none }
def VclockApartWrongFalsely : Prop := vclockApartRow.holds Try.pinned (OpenSpec.ofChange vclockApartWrong)

/-- 'abreastlaw03.VclockEpochs': WHATEVER THE INPUT: true; the input reads as it did. -/
def vclockEpochsSpec : ChangeSpec := { name := "vclockEpochs", fn := fun _ => fun
  | [d1, d2] => { results := [.lit (.bool true)], args := [d1, d2] }
  | _ => none }
def vclockEpochsRow : OpenClaim := { program := "ytjoacllimldfkaa", sum := "25405ed37bd0db35711862df0529cedc7c46c26f782877545cf7297642e22e8e", func := "abreast/abreastlaw03.VclockEpochs", spec := "vclockEpochs", unfollowed := true, recurses := true, apart := false }
def VclockEpochsSaid : Prop := vclockEpochsRow.holds Try.pinned (OpenSpec.ofChange vclockEpochsSpec)

/-- ITS FALSE NEIGHBOUR: 'it returns false'. Refute it at one input. -/
def vclockEpochsWrong : ChangeSpec := { name := "vclockEpochs", fn := fun _ => fun
  | [d1, d2] => { results := [.lit (.bool false)], args := [d1, d2] }
  | _ => none }
def VclockEpochsWrongFalsely : Prop := vclockEpochsRow.holds Try.pinned (OpenSpec.ofChange vclockEpochsWrong)

/-- 'abreastlaw03.VclockPlays': WHATEVER THE INPUT: true; the input reads as it did. -/
def vclockPlaysSpec : ChangeSpec := { name := "vclockPlays", fn := fun _ => fun
  | [d] => { results := [.lit (.bool true)], args := [d] }
  | _ => none }
def vclockPlaysRow : OpenClaim := { program := "ytjoacllimldfkaa", sum := "25405ed37bd0db35711862df0529cedc7c46c26f782877545cf7297642e22e8e", func := "abreast/abreastlaw03.VclockPlays", spec := "vclockPlays", unfollowed := true, recurses := true, apart := false }
def VclockPlaysSaid : Prop := vclockPlaysRow.holds Try.pinned (OpenSpec.ofChange vclockPlaysSpec)

/-- ITS FALSE NEIGHBOUR: 'it returns false'. Refute it at one input. -/
def vclockPlaysWrong : ChangeSpec := { name := "vclockPlays", fn := fun _ => fun
  | [d] => { results := [.lit (.bool false)], args := [d] }
  | _ => none }
def VclockPlaysWrongFalsely : Prop := vclockPlaysRow.holds Try.pinned (OpenSpec.ofChange vclockPlaysWrong)

/- THE SECOND FORM. 'bulk': how many values and letters a reading holds, each counted each time it is reached (what is shared counts as often as it is met; a slice's spare places count too). A statement '..UptoSaid' is the law's where the arguments, and the package variables that the reading takes, are together of bulk at most 1048576: NARROWER than '..Said'. Prove '..Said' where nothing that the law and all that it calls make is longer than what came in: it says more and counts as full. Else prove '..UptoSaid'. A law counts once. -/
mutual
def uptoBulk {H : Type} : DataW H → Nat
  | .lit (.string bytes) => bytes.length + 1
  | .lit _ => 1
  | .nil => 1
  | .ptr d => uptoBulk d + 1
  | .slice elems spare => uptoBulkAll elems + uptoBulkAll spare + 1
  | .agg parts => uptoBulkAll parts + 1
  | .iface _ d => uptoBulk d + 1
  | .map entries => uptoBulkEntries entries + 1
  | .held _ => 1
def uptoBulkAll {H : Type} : List (DataW H) → Nat
  | [] => 0
  | d :: r => uptoBulk d + uptoBulkAll r
def uptoBulkEntries {H : Type} : List (Lit × DataW H) → Nat
  | [] => 0
  | x :: r => uptoBulkEntry x + uptoBulkEntries r
def uptoBulkEntry {H : Type} : Lit × DataW H → Nat
  | (.string bytes, d) => bytes.length + uptoBulk d + 1
  | (_, d) => uptoBulk d + 1
 end
def uptoSmall : (H : Type) → List (DataW H) → Bool := fun _ ds => decide (uptoBulkAll ds ≤ 1048576)
def OpenSpec.upto (s : _root_.Go.ChangeSpec) : _root_.Go.OpenSpec := { _root_.Go.OpenSpec.ofChange s with cond := some uptoSmall }

/-- 'abreastlaw03.VclockNames', WHERE WHAT IT READS IS OF BULK AT MOST 1048576: true; the input reads as it did. -/
def vclockNamesUptoRow : OpenClaim := { program := "ytjoacllimldfkaa", sum := "25405ed37bd0db35711862df0529cedc7c46c26f782877545cf7297642e22e8e", func := "abreast/abreastlaw03.VclockNames", spec := "vclockNames", unfollowed := true, recurses := true, apart := false, narrowed := true }
def VclockNamesUptoSaid : Prop := vclockNamesUptoRow.holds Try.pinned (OpenSpec.upto vclockNamesSpec)

/-- 'abreastlaw03.VclockLattice', WHERE WHAT IT READS IS OF BULK AT MOST 1048576: true; the input reads as it did. -/
def vclockLatticeUptoRow : OpenClaim := { program := "ytjoacllimldfkaa", sum := "25405ed37bd0db35711862df0529cedc7c46c26f782877545cf7297642e22e8e", func := "abreast/abreastlaw03.VclockLattice", spec := "vclockLattice", unfollowed := true, recurses := true, apart := false, narrowed := true }
def VclockLatticeUptoSaid : Prop := vclockLatticeUptoRow.holds Try.pinned (OpenSpec.upto vclockLatticeSpec)

/-- 'abreastlaw03.VclockApart', WHERE WHAT IT READS IS OF BULK AT MOST 1048576: true; the input reads as it did. -/
def vclockApartUptoRow : OpenClaim := { program := "ytjoacllimldfkaa", sum := "25405ed37bd0db35711862df0529cedc7c46c26f782877545cf7297642e22e8e", func := "abreast/abreastlaw03.VclockApart", spec := "vclockApart", unfollowed := true, recurses := true, apart := false, narrowed := true }
def VclockApartUptoSaid : Prop := vclockApartUptoRow.holds Try.pinned (OpenSpec.upto vclockApartSpec)

/-- 'abreastlaw03.VclockEpochs', WHERE WHAT IT READS IS OF BULK AT MOST 1048576: true; the input reads as it did. -/
def vclockEpochsUptoRow : OpenClaim := { program := "ytjoacllimldfkaa", sum := "25405ed37bd0db35711862df0529cedc7c46c26f782877545cf7297642e22e8e", func := "abreast/abreastlaw03.VclockEpochs", spec := "vclockEpochs", unfollowed := true, recurses := true, apart := false, narrowed := true }
def VclockEpochsUptoSaid : Prop := vclockEpochsUptoRow.holds Try.pinned (OpenSpec.upto vclockEpochsSpec)

/-- 'abreastlaw03.VclockPlays', WHERE WHAT IT READS IS OF BULK AT MOST 1048576: true; the input reads as it did. -/
def vclockPlaysUptoRow : OpenClaim := { program := "ytjoacllimldfkaa", sum := "25405ed37bd0db35711862df0529cedc7c46c26f782877545cf7297642e22e8e", func := "abreast/abreastlaw03.VclockPlays", spec := "vclockPlays", unfollowed := true, recurses := true, apart := false, narrowed := true }
def VclockPlaysUptoSaid : Prop := vclockPlaysUptoRow.holds Try.pinned (OpenSpec.upto vclockPlaysSpec)

end Rows
end Go.Proofs.Ytjoacllimldfkaa
