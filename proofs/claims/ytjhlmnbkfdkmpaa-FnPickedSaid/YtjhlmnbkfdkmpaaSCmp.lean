/- Plain laws: comparing numbers. -/
import Derived.Test.YtjhlmnbkfdkmpaaCL
import Derived.Test.YtjhlmnbkfdkmpaaWPickedMod
namespace Go.Proofs.Ytjhlmnbkfdkmpaa
open Eng
set_option linter.unusedVariables false
set_option linter.unusedSimpArgs false

def cmp (a b : Int) : Int := if a < b then -1 else if b < a then 1 else 0
theorem cmp_eq (N : Nat) (a b : Int) : m_cmp_Compare_int N a b = some (cmp a b) := by
  unfold m_cmp_Compare_int m_cmp_isNaN_int cmp
  by_cases h1 : a < b
  · simp [h1]
  · by_cases h2 : b < a <;> simp [h1, h2]
theorem or_eq {N : Nat} (hN : 1048578 ≤ N) (a b : Int) : m_cmp_Or_int N [a, b] = some (if a = 0 then b else a) := by
  obtain ⟨n, rfl⟩ : ∃ n, N = n + 3 := ⟨N - 3, by omega⟩
  unfold m_cmp_Or_int
  have w1 : IntKind.i64.wrap ((0 : Int) + 1) = 1 := by decide
  have w2 : IntKind.i64.wrap ((1 : Int) + 1) = 2 := by decide
  have i0 : idx [a, b] 0 = some a := rfl
  have i1 : idx [a, b] 1 = some b := rfl
  have l2 : (([a, b] : List Int).length : Int) = 2 := rfl
  simp only [m_cmp_Or_int_l1, w1, w2, i0, i1, l2, Option.bind_some]
  by_cases ha : a = 0
  · by_cases hb : b = 0 <;> simp [ha, hb]
  · simp [ha]

end Go.Proofs.Ytjhlmnbkfdkmpaa
