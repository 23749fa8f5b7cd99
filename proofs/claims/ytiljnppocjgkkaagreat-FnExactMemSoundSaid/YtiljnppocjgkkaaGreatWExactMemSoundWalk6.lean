/- Printed by a program of ours: each Go function computes its Lean function. -/
import Derived.Test.YtiljnppocjgkkaaGreatProg
import Derived.Test.YtiljnppocjgkkaaGreatWExactMemSoundWalk5
namespace Go.Proofs.YtiljnppocjgkkaaGreat
open Eng Tryz
open Go.RowKit (Below)
set_option linter.unusedVariables false
set_option linter.unusedSimpArgs false

set_option maxRecDepth 100000
set_option maxHeartbeats 1000000
variable {Ψ Φ:Hp} {pv0:Value} {pD0 pG0:List Nat} {pb0:Nat} (N:Nat)
end Go.Proofs.YtiljnppocjgkkaaGreat
