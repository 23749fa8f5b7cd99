/- Plain laws: the same fact; the item of a fact, as the reference finds it. -/
import Derived.Test.YtjhlmnbkfdkmpaaSVals
namespace Go.Proofs.Ytjhlmnbkfdkmpaa
open Eng
set_option linter.unusedVariables false
set_option linter.unusedSimpArgs false
theorem sameF_s {N : Nat} (hN : 1099000000000 ≤ N) (x y : TFact) (hl : x.Fields.length ≤ 4294967296) : m_s_SameFact N x y = some (decide (x = y)) := by
  unfold m_s_SameFact
  simp only [sameVs hN _ _ hl, Option.bind_some, andS, seq_eq]
  obtain ⟨a, b⟩ := x; obtain ⟨c, d⟩ := y
  simp only [TFact.mk.injEq, Bool.decide_and]
/-- The Id of the first item with this fact; 0: there is none. -/
def idOf (xs : List TItem) (f : TFact) : Int := match xs.find? (fun x => decide (x.F = f)) with | some x => x.Id | none => 0
theorem idOf_cons (x : TItem) (xs : List TItem) (f : TFact) : idOf (x :: xs) f = if x.F = f then x.Id else idOf xs f := by
  unfold idOf
  rw [List.find?_cons]
  by_cases h : x.F = f <;> simp [h]
theorem idOf_s {N : Nat} (hN : 1099000000000 ≤ N) (s : TStore) (f : TFact) (hl : s.Items.length ≤ 1048576) (hx : ∀ x ∈ s.Items, x.F.Fields.length ≤ 1048576) : m_s_IdOf N s f = some (idOf s.Items f) := by
  unfold m_s_IdOf
  refine lp0 hN s.Items (by omega) (m_s_IdOf_l1 N s f) (fun t => some (idOf t f)) (fun n i x t h1 h2 h3 h4 h5 h6 h7 => ?_) (fun n i h1 h2 => ?_)
  · simp only [m_s_IdOf_l1, h5, if_true, h4, Option.bind_some, sameF_s hN x.F f (by have := hx x h2; omega), h6, h7, idOf_cons]
    by_cases h : x.F = f <;> simp [h]
  · simp only [m_s_IdOf_l1, h2, Bool.false_eq_true, if_false]; rfl
end Go.Proofs.Ytjhlmnbkfdkmpaa
