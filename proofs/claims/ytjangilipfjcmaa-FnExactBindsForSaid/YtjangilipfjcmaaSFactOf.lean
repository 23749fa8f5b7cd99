/- Plain laws: the fact of an item. -/
import Derived.Test.YtjangilipfjcmaaCL2
import Derived.Test.YtjangilipfjcmaaWExactBindsForPur
namespace Go.Proofs.Ytjangilipfjcmaa
open Eng
set_option linter.unusedVariables false
set_option linter.unusedSimpArgs false
def noFact : TFact := ⟨⟨#[]⟩, []⟩
/-- The fact of the first item with this Id. -/
def factOf (xs : List TItem) (v : Int) : TFact × Bool := match xs.find? (fun x => decide (x.Id = v)) with | some x => (x.F, true) | none => (noFact, false)
theorem factOf_cons (x : TItem) (xs : List TItem) (v : Int) : factOf (x :: xs) v = if x.Id = v then (x.F, true) else factOf xs v := by
  unfold factOf
  rw [List.find?_cons]
  by_cases h : x.Id = v <;> simp [h]
theorem factOf_s {N : Nat} (hN : 1099000000000 ≤ N) (s : TStore) (v : Int) (hl : s.Items.length ≤ 1048576) (hx : ∀ x ∈ s.Items, x.F.Fields.length ≤ 1048576) : m_s_FactOf N s v = some (factOf s.Items v) := by
  unfold m_s_FactOf
  refine lp0 hN s.Items (by omega) (m_s_FactOf_l1 N s v) (fun t => some (factOf t v)) (fun n i x t h1 h2 h3 h4 h5 h6 h7 => ?_) (fun n i h1 h2 => ?_)
  · have e : m_s_l3Copy N x.F = some x.F := by
      unfold m_s_l3Copy
      rw [app_nil (show x.F.Fields.length ≤ 4294967296 by have := hx x h2; omega)]; rfl
    simp only [m_s_FactOf_l1, h5, if_true, h4, Option.bind_some, h6, h7, e, factOf_cons]
    by_cases h : x.Id = v <;> simp [h]
  · simp only [m_s_FactOf_l1, h2, Bool.false_eq_true, if_false]; rfl
theorem factOf_i {N : Nat} (hN : 1099000000000 ≤ N) (s : TStore) (v : Int) (hl : s.Items.length ≤ 1048576) (hx : ∀ x ∈ s.Items, x.F.Fields.length ≤ 1048576) : m_i_FactOf N s v = some (factOf s.Items v) := by
  unfold m_i_FactOf
  refine lp0 hN s.Items (by omega) (m_i_FactOf_l1 N s v) (fun t => some (factOf t v)) (fun n i x t h1 h2 h3 h4 h5 h6 h7 => ?_) (fun n i h1 h2 => ?_)
  · have e : m_i_copyFact N x.F = some x.F := by
      unfold m_i_copyFact m_sl_Clone_Si_Val_i_Val
      rw [app_nil (show x.F.Fields.length ≤ 4294967296 by have := hx x h2; omega)]; rfl
    simp only [m_i_FactOf_l1, h5, if_true, h4, Option.bind_some, h6, h7, e, factOf_cons]
    by_cases h : x.Id = v <;> simp [h]
  · simp only [m_i_FactOf_l1, h2, Bool.false_eq_true, if_false]; rfl
end Go.Proofs.Ytjangilipfjcmaa
