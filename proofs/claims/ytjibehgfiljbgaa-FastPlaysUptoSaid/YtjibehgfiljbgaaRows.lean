/-
  No cell of these rows narrows 'for every input' (looked for: loops, veiled, ifaces, maps, wideKeys, modest, calm, conditions, laid).
  DERIVED. THE GIVEN ROWS OF THIS SEAT. 6 by the template 'for every input the law returns true; each argument reads behind the call as it read before'; 0 by the template 'total and deterministic' (their statements: YtjibehgfiljbgaaTotals.lean).
  GIVEN WITH THE SEED: the statements are not yours to turn. If you find one false, say at which input.
  Laid BY PROGRAM, IN A SANDBOX (cutbox-rows.mjs): the forced cells as the released guide's own fill.sh prints them over the translation b1544f3158f233b9… (all of the seat's roots in one cut). By AI agents, Wed Nov 11 2026. No macro, syntax, notation, axiom, sorry.
-/
import Derived.Test.YtjibehgfiljbgaaChecked
import GoSem.Claim
import GoSem.ClaimJoined
import GoSem.ClaimMapViews
import Derived.JoinedTies
import Derived.KernelRfl
namespace Go.Proofs.Ytjibehgfiljbgaa
/- THE CELL 'sum', in the pinned program and in every row, IS THE sha256 OF THE DUMP (.gsa) THAT YtjibehgfiljbgaaProg.lean LOADS. Nothing in Lean hashes anything: it is a label: what it is worth is what the hold of that sum in a sandbox is worth. -/
noncomputable def Try.pinned : Pinned := { name := "ytjibehgfiljbgaa", sum := "b1544f3158f233b97c3771bef419ba5ed988767a125f006537de69fd5911067b", checked := Try.checked }
namespace Rows
def none {H : Type} : Left H := { results := [], args := [] }

/-- 'abreastlaw22.FastNames': WHATEVER THE INPUT: true; the input reads as it did. -/
def fastNamesSpec : ChangeSpec := { name := "fastNames", fn := fun _ => fun
  | [] => { results := [.lit (.bool true)], args := [] }
  | _ => none }
def fastNamesRow : OpenClaim := { program := "ytjibehgfiljbgaa", sum := "b1544f3158f233b97c3771bef419ba5ed988767a125f006537de69fd5911067b", func := "abreast/abreastlaw22.FastNames", spec := "fastNames", plainKeys := false, apart := false }
def FastNamesSaid : Prop := fastNamesRow.holds Try.pinned (OpenSpec.ofChange fastNamesSpec)

/-- ITS FALSE NEIGHBOUR: 'it returns false'. Refute it at one input. -/
def fastNamesWrong : ChangeSpec := { name := "fastNames", fn := fun _ => fun
  | [] => { results := [.lit (.bool false)], args := [] }
  | _ => none }
def FastNamesWrongFalsely : Prop := fastNamesRow.holds Try.pinned (OpenSpec.ofChange fastNamesWrong)

/-- 'abreastlaw22.FastRefused': WHATEVER THE INPUT: true; the input reads as it did. -/
def fastRefusedSpec : ChangeSpec := { name := "fastRefused", fn := fun _ => fun
  | [d1, d2] => { results := [.lit (.bool true)], args := [d1, d2] }
  | _ => none }
def fastRefusedRow : OpenClaim := { program := "ytjibehgfiljbgaa", sum := "b1544f3158f233b97c3771bef419ba5ed988767a125f006537de69fd5911067b", func := "abreast/abreastlaw22.FastRefused", spec := "fastRefused", unfollowed := true, recurses := true, plainKeys := false, apart := false }
def FastRefusedSaid : Prop := fastRefusedRow.holds Try.pinned (OpenSpec.ofChange fastRefusedSpec)

/-- ITS FALSE NEIGHBOUR: 'it returns false'. Refute it at one input. -/
def fastRefusedWrong : ChangeSpec := { name := "fastRefused", fn := fun _ => fun
  | [d1, d2] => { results := [.lit (.bool false)], args := [d1, d2] }
  | _ => none }
def FastRefusedWrongFalsely : Prop := fastRefusedRow.holds Try.pinned (OpenSpec.ofChange fastRefusedWrong)

/-- 'abreastlaw22.FastCheap': WHATEVER THE INPUT: true; the input reads as it did. -/
def fastCheapSpec : ChangeSpec := { name := "fastCheap", fn := fun _ => fun
  | [d1, d2] => { results := [.lit (.bool true)], args := [d1, d2] }
  | _ => none }
def fastCheapRow : OpenClaim := { program := "ytjibehgfiljbgaa", sum := "b1544f3158f233b97c3771bef419ba5ed988767a125f006537de69fd5911067b", func := "abreast/abreastlaw22.FastCheap", spec := "fastCheap", unfollowed := true, recurses := true, plainKeys := false, apart := false }
def FastCheapSaid : Prop := fastCheapRow.holds Try.pinned (OpenSpec.ofChange fastCheapSpec)

/-- ITS FALSE NEIGHBOUR: 'it returns false'. Refute it at one input. -/
def fastCheapWrong : ChangeSpec := { name := "fastCheap", fn := fun _ => fun
  | [d1, d2] => { results := [.lit (.bool false)], args := [d1, d2] }
  | _ => none }
def FastCheapWrongFalsely : Prop := fastCheapRow.holds Try.pinned (OpenSpec.ofChange fastCheapWrong)

/-- 'abreastlaw22.FastTwice': WHATEVER THE INPUT: true; the input reads as it did. -/
def fastTwiceSpec : ChangeSpec := { name := "fastTwice", fn := fun _ => fun
  | [d] => { results := [.lit (.bool true)], args := [d] }
  | _ => none }
def fastTwiceRow : OpenClaim := { program := "ytjibehgfiljbgaa", sum := "b1544f3158f233b97c3771bef419ba5ed988767a125f006537de69fd5911067b", func := "abreast/abreastlaw22.FastTwice", spec := "fastTwice", inPlace := ["maps.clone"], unfollowed := true, recurses := true, plainKeys := false, apart := false }
def FastTwiceSaid : Prop := fastTwiceRow.holds Try.pinned (OpenSpec.ofChange fastTwiceSpec)

/-- ITS FALSE NEIGHBOUR: 'it returns false'. Refute it at one input. -/
def fastTwiceWrong : ChangeSpec := { name := "fastTwice", fn := fun _ => fun
  | [d] => { results := [.lit (.bool false)], args := [d] }
  | _ => none }
def FastTwiceWrongFalsely : Prop := fastTwiceRow.holds Try.pinned (OpenSpec.ofChange fastTwiceWrong)

/-- 'abreastlaw22.FastPlays': WHATEVER THE INPUT: true; the input reads as it did. -/
def fastPlaysSpec : ChangeSpec := { name := "fastPlays", fn := fun _ => fun
  | [d1, d2] => { results := [.lit (.bool true)], args := [d1, d2] }
  | _ => none }
def fastPlaysRow : OpenClaim := { program := "ytjibehgfiljbgaa", sum := "b1544f3158f233b97c3771bef419ba5ed988767a125f006537de69fd5911067b", func := "abreast/abreastlaw22.FastPlays", spec := "fastPlays", inPlace := ["maps.clone"], unfollowed := true, recurses := true, plainKeys := false, apart := false }
def FastPlaysSaid : Prop := fastPlaysRow.holds Try.pinned (OpenSpec.ofChange fastPlaysSpec)

/-- ITS FALSE NEIGHBOUR: 'it returns false'. Refute it at one input. -/
def fastPlaysWrong : ChangeSpec := { name := "fastPlays", fn := fun _ => fun
  | [d1, d2] => { results := [.lit (.bool false)], args := [d1, d2] }
  | _ => none }
def FastPlaysWrongFalsely : Prop := fastPlaysRow.holds Try.pinned (OpenSpec.ofChange fastPlaysWrong)

/-- 'abreastlaw22.FastNil': WHATEVER THE INPUT: true; the input reads as it did. -/
def fastNilSpec : ChangeSpec := { name := "fastNil", fn := fun _ => fun
  | [d1, d2] => { results := [.lit (.bool true)], args := [d1, d2] }
  | _ => none }
def fastNilRow : OpenClaim := { program := "ytjibehgfiljbgaa", sum := "b1544f3158f233b97c3771bef419ba5ed988767a125f006537de69fd5911067b", func := "abreast/abreastlaw22.FastNil", spec := "fastNil", inPlace := ["maps.clone"], unfollowed := true, recurses := true, plainKeys := false, apart := false }
def FastNilSaid : Prop := fastNilRow.holds Try.pinned (OpenSpec.ofChange fastNilSpec)

/-- ITS FALSE NEIGHBOUR: 'it returns false'. Refute it at one input. -/
def fastNilWrong : ChangeSpec := { name := "fastNil", fn := fun _ => fun
  | [d1, d2] => { results := [.lit (.bool false)], args := [d1, d2] }
  | _ => none }
def FastNilWrongFalsely : Prop := fastNilRow.holds Try.pinned (OpenSpec.ofChange fastNilWrong)

/- THE SECOND FORM. 'bulk': how many values and letters a reading holds, each counted each time it is reached (what is shared counts as often as it is met; a slice's spare places count too). A statement '..UptoSaid' is the law's where the arguments, and the package variables that the reading takes, are together of bulk at most 1048576: NARROWER than '..Said'. Prove '..Said' where nothing that the law and all that it calls make is longer than what came in: it says more and counts as full. Else prove '..UptoSaid'. A law counts once. -/
mutual
def uptoBulk {H : Type} : DataW H → Nat
  | .lit (.string bytes) => bytes.length + 1
  | .lit _ => 1
  | .nil => 1
  | .ptr d => uptoBulk d + 1
  | .slice elems spare => uptoBulkAll elems + uptoBulkAll spare + 1
  | .agg parts => uptoBulkAll parts + 1
  | .iface _ d => uptoBulk d + 1
  | .map entries => uptoBulkEntries entries + 1
  | .held _ => 1
def uptoBulkAll {H : Type} : List (DataW H) → Nat
  | [] => 0
  | d :: r => uptoBulk d + uptoBulkAll r
def uptoBulkEntries {H : Type} : List (Lit × DataW H) → Nat
  | [] => 0
  | x :: r => uptoBulkEntry x + uptoBulkEntries r
def uptoBulkEntry {H : Type} : Lit × DataW H → Nat
  | (.string bytes, d) => bytes.length + uptoBulk d + 1
  | (_, d) => uptoBulk d + 1
 end
def uptoSmall : (H : Type) → List (DataW H) → Bool := fun _ ds => decide (uptoBulkAll ds ≤ 1048576)
def OpenSpec.upto (s : _root_.Go.ChangeSpec) : _root_.Go.OpenSpec := { _root_.Go.OpenSpec.ofChange s with cond := some uptoSmall }

/-- 'abreastlaw22.FastNames', WHERE WHAT IT READS IS OF BULK AT MOST 1048576: true; the input reads as it did. -/
def fastNamesUptoRow : OpenClaim := { program := "ytjibehgfiljbgaa", sum := "b1544f3158f233b97c3771bef419ba5ed988767a125f006537de69fd5911067b", func := "abreast/abreastlaw22.FastNames", spec := "fastNames", plainKeys := false, apart := false, narrowed := true }
def FastNamesUptoSaid : Prop := fastNamesUptoRow.holds Try.pinned (OpenSpec.upto fastNamesSpec)

/-- 'abreastlaw22.FastRefused', WHERE WHAT IT READS IS OF BULK AT MOST 1048576: true; the input reads as it did. -/
def fastRefusedUptoRow : OpenClaim := { program := "ytjibehgfiljbgaa", sum := "b1544f3158f233b97c3771bef419ba5ed988767a125f006537de69fd5911067b", func := "abreast/abreastlaw22.FastRefused", spec := "fastRefused", unfollowed := true, recurses := true, plainKeys := false, apart := false, narrowed := true }
def FastRefusedUptoSaid : Prop := fastRefusedUptoRow.holds Try.pinned (OpenSpec.upto fastRefusedSpec)

/-- 'abreastlaw22.FastCheap', WHERE WHAT IT READS IS OF BULK AT MOST 1048576: true; the input reads as it did. -/
def fastCheapUptoRow : OpenClaim := { program := "ytjibehgfiljbgaa", sum := "b1544f3158f233b97c3771bef419ba5ed988767a125f006537de69fd5911067b", func := "abreast/abreastlaw22.FastCheap", spec := "fastCheap", unfollowed := true, recurses := true, plainKeys := false, apart := false, narrowed := true }
def FastCheapUptoSaid : Prop := fastCheapUptoRow.holds Try.pinned (OpenSpec.upto fastCheapSpec)

/-- 'abreastlaw22.FastTwice', WHERE WHAT IT READS IS OF BULK AT MOST 1048576: true; the input reads as it did. -/
def fastTwiceUptoRow : OpenClaim := { program := "ytjibehgfiljbgaa", sum := "b1544f3158f233b97c3771bef419ba5ed988767a125f006537de69fd5911067b", func := "abreast/abreastlaw22.FastTwice", spec := "fastTwice", inPlace := ["maps.clone"], unfollowed := true, recurses := true, plainKeys := false, apart := false, narrowed := true }
def FastTwiceUptoSaid : Prop := fastTwiceUptoRow.holds Try.pinned (OpenSpec.upto fastTwiceSpec)

/-- 'abreastlaw22.FastPlays', WHERE WHAT IT READS IS OF BULK AT MOST 1048576: true; the input reads as it did. -/
def fastPlaysUptoRow : OpenClaim := { program := "ytjibehgfiljbgaa", sum := "b1544f3158f233b97c3771bef419ba5ed988767a125f006537de69fd5911067b", func := "abreast/abreastlaw22.FastPlays", spec := "fastPlays", inPlace := ["maps.clone"], unfollowed := true, recurses := true, plainKeys := false, apart := false, narrowed := true }
def FastPlaysUptoSaid : Prop := fastPlaysUptoRow.holds Try.pinned (OpenSpec.upto fastPlaysSpec)

/-- 'abreastlaw22.FastNil', WHERE WHAT IT READS IS OF BULK AT MOST 1048576: true; the input reads as it did. -/
def fastNilUptoRow : OpenClaim := { program := "ytjibehgfiljbgaa", sum := "b1544f3158f233b97c3771bef419ba5ed988767a125f006537de69fd5911067b", func := "abreast/abreastlaw22.FastNil", spec := "fastNil", inPlace := ["maps.clone"], unfollowed := true, recurses := true, plainKeys := false, apart := false, narrowed := true }
def FastNilUptoSaid : Prop := fastNilUptoRow.holds Try.pinned (OpenSpec.upto fastNilSpec)

end Rows
end Go.Proofs.Ytjibehgfiljbgaa
