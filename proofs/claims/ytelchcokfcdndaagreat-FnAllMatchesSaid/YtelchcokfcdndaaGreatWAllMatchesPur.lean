/- Printed by a program of ours: the plain laws of the sizes, copies, comparisons and marks. -/
import Derived.Test.YtelchcokfcdndaaGreatPLib
import Derived.Test.YtelchcokfcdndaaGreatWAllMatchesMod
namespace Go.Proofs.YtelchcokfcdndaaGreat
open Eng
set_option linter.unusedVariables false
set_option linter.unusedSimpArgs false
set_option maxRecDepth 10000
end Go.Proofs.YtelchcokfcdndaaGreat
