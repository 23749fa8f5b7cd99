/- Plain laws: rows of texts without doubles, as the program makes them. -/
import Derived.Test.YtjangilipfjcmaaGreatSOnce
namespace Go.Proofs.YtjangilipfjcmaaGreat
open Eng
set_option linter.unusedVariables false
set_option linter.unusedSimpArgs false

theorem idxSl {N : Nat} (hN : 1099000000000 ≤ N) (xs : List ByteArray) (v : ByteArray) (hl : xs.length ≤ 4294967296) : ∃ r, m_sl_Index_Sstring_string N xs v = some r ∧ decide (0 ≤ r) = decide (v ∈ xs) := by
  unfold m_sl_Index_Sstring_string
  have := findloop (m_sl_Index_Sstring_string_l1 N xs v) xs hl (fun x => seq v x) (fun n i x hx _ hc hw => by simp only [m_sl_Index_Sstring_string_l1, hc, if_true, hx, Option.bind_some, hw]) (fun n i hc => by simp only [m_sl_Index_Sstring_string_l1, hc, Bool.false_eq_true, if_false]) N 0 (by omega) (by omega)
  rw [List.drop_zero, show ((0 : Nat) : Int) = 0 from rfl] at this
  refine ⟨_, this, ?_⟩
  rw [find_any, Bool.eq_iff_iff, List.any_eq_true, decide_eq_true_eq]
  simp only [seq_eq, decide_eq_true_eq]
  constructor
  · rintro ⟨x, hx, rfl⟩; exact hx
  · intro h; exact ⟨v, h, rfl⟩
theorem hasSl {N : Nat} (hN : 1099000000000 ≤ N) (xs : List ByteArray) (v : ByteArray) (hl : xs.length ≤ 4294967296) : m_sl_Contains_Sstring_string N xs v = some (decide (v ∈ xs)) := by
  unfold m_sl_Contains_Sstring_string
  obtain ⟨r, h1, h2⟩ := idxSl hN xs v hl
  rw [h1, Option.bind_some, h2]
theorem addOnce {N : Nat} (hN : 1099000000000 ≤ N) (s : List ByteArray) (v : ByteArray) (hl : s.length ≤ 4294967295) : m_i_addOnce N s v = some (once s v) := by
  unfold m_i_addOnce once
  rw [hasSl hN s v (by omega), Option.bind_some]
  by_cases h : v ∈ s
  · simp [h]
  · simp only [h, decide_false, Bool.false_eq_true, if_false, app_ok (show s.length + [v].length ≤ 4294967296 by simp; omega), Option.bind_some]
end Go.Proofs.YtjangilipfjcmaaGreat
