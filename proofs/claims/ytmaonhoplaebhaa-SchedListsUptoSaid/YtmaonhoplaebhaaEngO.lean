/- The engine, part O: loops walked round by round. -/
import Derived.Test.YtmaonhoplaebhaaEngN
import Derived.LoopNIn
set_option linter.unusedVariables false
namespace Go.Ab
open Go
variable {P : Program} {r : Option Nat} {c : Code} {S : Act → World → Prop} {Q : Exit → Act → World → Prop}
theorem c_unroll (m : Nat) (h : Le S (c.wpIn (fz r) 0 P (Exit.then (Code.roundsIn (fz r) 0 P c Q m) Q))) : Le S ((Code.loop c).wpIn (fz r) 0 P Q) := fun a w s => wpIn_loop_rounds (m + 1) (h a w s)
theorem c_round {m : Nat} (h : Le S (c.wpIn (fz r) 0 P (Exit.then (Code.roundsIn (fz r) 0 P c Q m) Q))) : Le S (Code.roundsIn (fz r) 0 P c Q (m + 1)) := h
end Go.Ab
