/- Plain laws: how many patterns are not Not. -/
import Derived.Test.YtjhlmnbkfdkmpaaCL2
import Derived.Test.YtjhlmnbkfdkmpaaWPickedPur
namespace Go.Proofs.Ytjhlmnbkfdkmpaa
open Eng
set_option linter.unusedVariables false
set_option linter.unusedSimpArgs false

/-- How many patterns are not Not. -/
def posCount : List TPat → Nat
  | [] => 0
  | p :: t => if p.Not then posCount t else posCount t + 1
theorem posCount_le : ∀ (l : List TPat), posCount l ≤ l.length
  | [] => by simp [posCount]
  | p :: t => by have := posCount_le t; unfold posCount; split <;> simp <;> omega
theorem count_s {N : Nat} (hN : 1099000000000 ≤ N) (r : TRule) (hl : r.Pats.length ≤ 1048576) : m_s_PosCount N r = some (posCount r.Pats : Int) := by
  unfold m_s_PosCount
  have := lp' hN r.Pats (by omega) (m_s_PosCount_l1 N r) (fun t s => some (s + (posCount t : Int))) (fun s t => 0 ≤ s ∧ s + t.length ≤ 1048576) (0 : Int) (by simp; omega) (fun n s i x t h1 h2 h3 h4 h5 h6 hI ih => by
    simp only [List.length_cons] at hI
    simp only [m_s_PosCount_l1, h5, if_true, h4, Option.bind_some, h6, posCount]
    cases hx : x.Not with
    | true => simpa using ih s (by omega)
    | false =>
      rw [wr (n := s + 1) (by omega) (by omega)]
      have := ih (s + 1) (by omega)
      simp only [Bool.not_false, if_true, this, Bool.false_eq_true, if_false]
      congr 1; omega) (fun n s i h1 h2 hI => by simp only [m_s_PosCount_l1, h2, Bool.false_eq_true, if_false, posCount]; simp)
  simpa using this
end Go.Proofs.Ytjhlmnbkfdkmpaa
