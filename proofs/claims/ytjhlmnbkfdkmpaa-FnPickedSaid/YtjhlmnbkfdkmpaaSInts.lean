/- Plain laws: the same numbers, as the reference asks. -/
import Derived.Test.YtjhlmnbkfdkmpaaCL2
import Derived.Test.YtjhlmnbkfdkmpaaWPickedPur
namespace Go.Proofs.Ytjhlmnbkfdkmpaa
open Eng
set_option linter.unusedVariables false
set_option linter.unusedSimpArgs false
theorem sameIs {N : Nat} (hN : 1099000000000 ≤ N) (x y : List Int) (hl : x.length ≤ 4294967296) : m_s_l11Same N x y = some (decide (x = y)) := by
  unfold m_s_l11Same
  by_cases c : x.length = y.length
  · rw [if_neg (by simp; omega)]
    refine (eqloop (m_s_l11Same_l1 N x y) x y c (by omega) (fun a b => some (decide (a = b))) (fun a _ b _ => rfl) (fun k i => rfl) N 0 (by omega) (by omega)).trans ?_
    simp
  · rw [if_pos (by simp; omega)]
    have : ¬ x = y := fun e => c (by rw [e])
    simp [this]
end Go.Proofs.Ytjhlmnbkfdkmpaa
