/- Plain laws: is what an argument names bound? -/
import Derived.Test.YtjhlmnbkfdkmpaaSOnce
namespace Go.Proofs.Ytjhlmnbkfdkmpaa
open Eng
set_option linter.unusedVariables false
set_option linter.unusedSimpArgs false

def known (vs : List ByteArray) (a : TArg) : Bool := !decide (a.K = 1) || decide (a.S ∈ vs)
theorem known_s {N : Nat} (hN : 1099000000000 ≤ N) (a : TArg) (vs : List ByteArray) (h : vs.length ≤ 4294967296) : m_s_l9Known N a vs = some (known vs a) := by
  unfold m_s_l9Known known
  simp only [hasS hN vs a.S h, Option.bind_some, orNB]
end Go.Proofs.Ytjhlmnbkfdkmpaa
