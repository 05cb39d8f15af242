/-
  No cell of these rows narrows 'for every input' (looked for: loops, veiled, ifaces, maps, wideKeys, modest, calm, conditions, laid).
  DERIVED. THE GIVEN ROWS OF THIS SEAT. 5 by the template 'for every input the law returns true; each argument reads behind the call as it read before'; 0 by the template 'total and deterministic' (their statements: YtkoclbjiaofkhaaTotals.lean).
  GIVEN WITH THE SEED: the statements are not yours to turn. If you find one false, say at which input.
  Laid BY PROGRAM, IN A SANDBOX (cutbox-rows.mjs): the forced cells as the released guide's own fill.sh prints them over the translation 6c8a0b0f735cb69a… (all of the seat's roots in one cut). By AI agents, Wed Nov 11 2026. No macro, syntax, notation, axiom, sorry.
-/
import Derived.Test.YtkoclbjiaofkhaaChecked
import GoSem.Claim
import GoSem.ClaimJoined
import GoSem.ClaimMapViews
import Derived.JoinedTies
import Derived.KernelRfl
namespace Go.Proofs.Ytkoclbjiaofkhaa
/- THE CELL 'sum', in the pinned program and in every row, IS THE sha256 OF THE DUMP (.gsa) THAT YtkoclbjiaofkhaaProg.lean LOADS. Nothing in Lean hashes anything: it is a label: what it is worth is what the hold of that sum in a sandbox is worth. -/
noncomputable def Try.pinned : Pinned := { name := "ytkoclbjiaofkhaa", sum := "6c8a0b0f735cb69a48091e74aa48fd3f343ec2db38c034a25c26d05fea124799", checked := Try.checked }
namespace Rows
def none {H : Type} : Left H := { results := [], args := [] }

/-- 'abreastlaw21.DjitKnows': WHATEVER THE INPUT: true; the input reads as it did. -/
def djitKnowsSpec : ChangeSpec := { name := "djitKnows", fn := fun _ => fun
  | [d1, d2] => { results := [.lit (.bool true)], args := [d1, d2] }
  | _ => none }
def djitKnowsRow : OpenClaim := { program := "ytkoclbjiaofkhaa", sum := "6c8a0b0f735cb69a48091e74aa48fd3f343ec2db38c034a25c26d05fea124799", func := "abreast/abreastlaw21.DjitKnows", spec := "djitKnows", unfollowed := true, recurses := true, plainKeys := false, apart := false }
def DjitKnowsSaid : Prop := djitKnowsRow.holds Try.pinned (OpenSpec.ofChange djitKnowsSpec)

/-- ITS FALSE NEIGHBOUR: 'it returns false'. Refute it at one input. -/
def djitKnowsWrong : ChangeSpec := { name := "djitKnows", fn := fun _ => fun
  | [d1, d2] => { results := [.lit (.bool false)], args := [d1, d2] }
  | _ => none }
def DjitKnowsWrongFalsely : Prop := djitKnowsRow.holds Try.pinned (OpenSpec.ofChange djitKnowsWrong)

/-- 'abreastlaw21.DjitNames': WHATEVER THE INPUT: true; the input reads as it did. -/
def djitNamesSpec : ChangeSpec := { name := "djitNames", fn := fun _ => fun
  | [] => { results := [.lit (.bool true)], args := [] }
  | _ => none }
def djitNamesRow : OpenClaim := { program := "ytkoclbjiaofkhaa", sum := "6c8a0b0f735cb69a48091e74aa48fd3f343ec2db38c034a25c26d05fea124799", func := "abreast/abreastlaw21.DjitNames", spec := "djitNames", unfollowed := true, recurses := true, plainKeys := false, apart := false }
def DjitNamesSaid : Prop := djitNamesRow.holds Try.pinned (OpenSpec.ofChange djitNamesSpec)

/-- ITS FALSE NEIGHBOUR: 'it returns false'. Refute it at one input. -/
def djitNamesWrong : ChangeSpec := { name := "djitNames", fn := fun _ => fun
  | [] => { results := [.lit (.bool false)], args := [] }
  | _ => none }
def DjitNamesWrongFalsely : Prop := djitNamesRow.holds Try.pinned (OpenSpec.ofChange djitNamesWrong)

/-- 'abreastlaw21.DjitFirst': WHATEVER THE INPUT: true; the input reads as it did. -/
def djitFirstSpec : ChangeSpec := { name := "djitFirst", fn := fun _ => fun
  | [d1, d2] => { results := [.lit (.bool true)], args := [d1, d2] }
  | _ => none }
def djitFirstRow : OpenClaim := { program := "ytkoclbjiaofkhaa", sum := "6c8a0b0f735cb69a48091e74aa48fd3f343ec2db38c034a25c26d05fea124799", func := "abreast/abreastlaw21.DjitFirst", spec := "djitFirst", unfollowed := true, recurses := true, plainKeys := false, apart := false }
def DjitFirstSaid : Prop := djitFirstRow.holds Try.pinned (OpenSpec.ofChange djitFirstSpec)

/-- ITS FALSE NEIGHBOUR: 'it returns false'. Refute it at one input. -/
def djitFirstWrong : ChangeSpec := { name := "djitFirst", fn := fun _ => fun
  | [d1, d2] => { results := [.lit (.bool false)], args := [d1, d2] }
  | _ => none }
def DjitFirstWrongFalsely : Prop := djitFirstRow.holds Try.pinned (OpenSpec.ofChange djitFirstWrong)

/-- 'abreastlaw21.DjitElse': WHATEVER THE INPUT: true; the input reads as it did. -/
def djitElseSpec : ChangeSpec := { name := "djitElse", fn := fun _ => fun
  | [d1, d2, d3] => { results := [.lit (.bool true)], args := [d1, d2, d3] }
  | _ => none }
def djitElseRow : OpenClaim := { program := "ytkoclbjiaofkhaa", sum := "6c8a0b0f735cb69a48091e74aa48fd3f343ec2db38c034a25c26d05fea124799", func := "abreast/abreastlaw21.DjitElse", spec := "djitElse", unfollowed := true, recurses := true, plainKeys := false, apart := false }
def DjitElseSaid : Prop := djitElseRow.holds Try.pinned (OpenSpec.ofChange djitElseSpec)

/-- ITS FALSE NEIGHBOUR: 'it returns false'. Refute it at one input. -/
def djitElseWrong : ChangeSpec := { name := "djitElse", fn := fun _ => fun
  | [d1, d2, d3] => { results := [.lit (.bool false)], args := [d1, d2, d3] }
  | _ => none }
def DjitElseWrongFalsely : Prop := djitElseRow.holds Try.pinned (OpenSpec.ofChange djitElseWrong)

/-- 'abreastlaw21.DjitGrows': WHATEVER THE INPUT: true; the input reads as it did. -/
def djitGrowsSpec : ChangeSpec := { name := "djitGrows", fn := fun _ => fun
  | [d1, d2] => { results := [.lit (.bool true)], args := [d1, d2] }
  | _ => none }
def djitGrowsRow : OpenClaim := { program := "ytkoclbjiaofkhaa", sum := "6c8a0b0f735cb69a48091e74aa48fd3f343ec2db38c034a25c26d05fea124799", func := "abreast/abreastlaw21.DjitGrows", spec := "djitGrows", unfollowed := true, recurses := true, plainKeys := false, apart := false }
def DjitGrowsSaid : Prop := djitGrowsRow.holds Try.pinned (OpenSpec.ofChange djitGrowsSpec)

/-- ITS FALSE NEIGHBOUR: 'it returns false'. Refute it at one input. -/
def djitGrowsWrong : ChangeSpec := { name := "djitGrows", fn := fun _ => fun
  | [d1, d2] => { results := [.lit (.bool false)], args := [d1, d2] }
  | _ => none }
def DjitGrowsWrongFalsely : Prop := djitGrowsRow.holds Try.pinned (OpenSpec.ofChange djitGrowsWrong)

/- THE SECOND FORM. 'bulk': how many values and letters a reading holds, each counted each time it is reached (what is shared counts as often as it is met; a slice's spare places count too). A statement '..UptoSaid' is the law's where the arguments, and the package variables that the reading takes, are together of bulk at most 1048576: NARROWER than '..Said'. Prove '..Said' where nothing that the law and all that it calls make is longer than what came in: it says more and counts as full. Else prove '..UptoSaid'. A law counts once. -/
mutual
def uptoBulk {H : Type} : DataW H → Nat
  | .lit (.string bytes) => bytes.length + 1
  | .lit _ => 1
  | .nil => 1
  | .ptr d => uptoBulk d + 1
  | .slice elems spare => uptoBulkAll elems + uptoBulkAll spare + 1
  | .agg parts => uptoBulkAll parts + 1
  | .iface _ d => uptoBulk d + 1
  | .map entries => uptoBulkEntries entries + 1
  | .held _ => 1
def uptoBulkAll {H : Type} : List (DataW H) → Nat
  | [] => 0
  | d :: r => uptoBulk d + uptoBulkAll r
def uptoBulkEntries {H : Type} : List (Lit × DataW H) → Nat
  | [] => 0
  | x :: r => uptoBulkEntry x + uptoBulkEntries r
def uptoBulkEntry {H : Type} : Lit × DataW H → Nat
  | (.string bytes, d) => bytes.length + uptoBulk d + 1
  | (_, d) => uptoBulk d + 1
 end
def uptoSmall : (H : Type) → List (DataW H) → Bool := fun _ ds => decide (uptoBulkAll ds ≤ 1048576)
def OpenSpec.upto (s : _root_.Go.ChangeSpec) : _root_.Go.OpenSpec := { _root_.Go.OpenSpec.ofChange s with cond := some uptoSmall }

/-- 'abreastlaw21.DjitKnows', WHERE WHAT IT READS IS OF BULK AT MOST 1048576: true; the input reads as it did. -/
def djitKnowsUptoRow : OpenClaim := { program := "ytkoclbjiaofkhaa", sum := "6c8a0b0f735cb69a48091e74aa48fd3f343ec2db38c034a25c26d05fea124799", func := "abreast/abreastlaw21.DjitKnows", spec := "djitKnows", unfollowed := true, recurses := true, plainKeys := false, apart := false, narrowed := true }
def DjitKnowsUptoSaid : Prop := djitKnowsUptoRow.holds Try.pinned (OpenSpec.upto djitKnowsSpec)

/-- 'abreastlaw21.DjitNames', WHERE WHAT IT READS IS OF BULK AT MOST 1048576: true; the input reads as it did. -/
def djitNamesUptoRow : OpenClaim := { program := "ytkoclbjiaofkhaa", sum := "6c8a0b0f735cb69a48091e74aa48fd3f343ec2db38c034a25c26d05fea124799", func := "abreast/abreastlaw21.DjitNames", spec := "djitNames", unfollowed := true, recurses := true, plainKeys := false, apart := false, narrowed := true }
def DjitNamesUptoSaid : Prop := djitNamesUptoRow.holds Try.pinned (OpenSpec.upto djitNamesSpec)

/-- 'abreastlaw21.DjitFirst', WHERE WHAT IT READS IS OF BULK AT MOST 1048576: true; the input reads as it did. -/
def djitFirstUptoRow : OpenClaim := { program := "ytkoclbjiaofkhaa", sum := "6c8a0b0f735cb69a48091e74aa48fd3f343ec2db38c034a25c26d05fea124799", func := "abreast/abreastlaw21.DjitFirst", spec := "djitFirst", unfollowed := true, recurses := true, plainKeys := false, apart := false, narrowed := true }
def DjitFirstUptoSaid : Prop := djitFirstUptoRow.holds Try.pinned (OpenSpec.upto djitFirstSpec)

/-- 'abreastlaw21.DjitElse', WHERE WHAT IT READS IS OF BULK AT MOST 1048576: true; the input reads as it did. -/
def djitElseUptoRow : OpenClaim := { program := "ytkoclbjiaofkhaa", sum := "6c8a0b0f735cb69a48091e74aa48fd3f343ec2db38c034a25c26d05fea124799", func := "abreast/abreastlaw21.DjitElse", spec := "djitElse", unfollowed := true, recurses := true, plainKeys := false, apart := false, narrowed := true }
def DjitElseUptoSaid : Prop := djitElseUptoRow.holds Try.pinned (OpenSpec.upto djitElseSpec)

/-- 'abreastlaw21.DjitGrows', WHERE WHAT IT READS IS OF BULK AT MOST 1048576: true; the input reads as it did. -/
def djitGrowsUptoRow : OpenClaim := { program := "ytkoclbjiaofkhaa", sum := "6c8a0b0f735cb69a48091e74aa48fd3f343ec2db38c034a25c26d05fea124799", func := "abreast/abreastlaw21.DjitGrows", spec := "djitGrows", unfollowed := true, recurses := true, plainKeys := false, apart := false, narrowed := true }
def DjitGrowsUptoSaid : Prop := djitGrowsUptoRow.holds Try.pinned (OpenSpec.upto djitGrowsSpec)

end Rows
end Go.Proofs.Ytkoclbjiaofkhaa
