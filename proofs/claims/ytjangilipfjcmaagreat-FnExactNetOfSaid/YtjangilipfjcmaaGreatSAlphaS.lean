/- Plain laws: the same question, as the reference asks. -/
import Derived.Test.YtjangilipfjcmaaGreatSAlpha
import Derived.Test.YtjangilipfjcmaaGreatSVals
import Derived.Test.YtjangilipfjcmaaGreatSInts
namespace Go.Proofs.YtjangilipfjcmaaGreat
open Eng
set_option linter.unusedVariables false
set_option linter.unusedSimpArgs false
theorem alpha_s {N : Nat} (hN : 1099000000000 ≤ N) (p : TPat) (hl : p.Args.length ≤ 1048576) : m_s_AlphaOf N p = some (alphaOf p) := by
  have lp : ∀ (n i : Nat) (cs : List TVal) (as : List Int), i ≤ p.Args.length → p.Args.length - i < n → cs.length ≤ i → as.length ≤ i →
      m_s_AlphaOf_l1 N p n cs as i = some ⟨p.Kind, (p.Args.length : Int), cs ++ consts (p.Args.drop i), as ++ ats i (p.Args.drop i)⟩ := by
    intro n
    induction n with
    | zero => intro i _ _ _ h; omega
    | succ n ih =>
      intro i cs as hi hn h1 h2
      by_cases hlt : i < p.Args.length
      · have c1 : decide ((i : Int) < (p.Args.length : Int)) = true := decide_eq_true (by omega)
        rw [List.drop_eq_getElem_cons hlt]
        simp only [m_s_AlphaOf_l1, c1, if_true, idx_nat_lt hlt, Option.bind_some, wr1 i (by omega), consts, ats]
        by_cases hk : p.Args[i].K = 2
        · simp only [hk, decide_true, if_true, app_ok (show cs.length + [p.Args[i].V].length ≤ 4294967296 by simp; omega), app_ok (show as.length + [(i : Int)].length ≤ 4294967296 by simp; omega), Option.bind_some]
          rw [ih (i + 1) _ _ (by omega) (by omega) (by simp; omega) (by simp; omega)]; simp
        · simp only [hk, decide_false, Bool.false_eq_true, if_false]
          exact ih (i + 1) _ _ (by omega) (by omega) (by omega) (by omega)
      · have c1 : decide ((i : Int) < (p.Args.length : Int)) = false := decide_eq_false (by omega)
        rw [List.drop_of_length_le (by omega)]
        simp only [m_s_AlphaOf_l1, c1, Bool.false_eq_true, if_false, consts, ats, List.append_nil]
  have := lp N 0 [] [] (by omega) (by omega) (by simp) (by simp)
  unfold m_s_AlphaOf alphaOf
  simpa using this
theorem sameA_s {N : Nat} (hN : 1099000000000 ≤ N) (x y : TAlpha) (h : SzAlpha x) : m_s_SameAlpha N x y = some (decide (x = y)) := by
  unfold m_s_SameAlpha
  simp only [sameIs hN _ _ (show x.At.length ≤ 4294967296 by have := h.2; omega), sameVs hN _ _ (show x.Consts.length ≤ 4294967296 by have := h.1; omega), Option.bind_some, andS, seq_eq]
  obtain ⟨a, b, c, d⟩ := x; obtain ⟨e, f, g, k⟩ := y
  congr 1
  rw [Bool.eq_iff_iff]
  simp only [TAlpha.mk.injEq, Bool.and_eq_true, decide_eq_true_eq]
  constructor
  · rintro ⟨⟨⟨h1, h2⟩, h3⟩, h4⟩; exact ⟨h1, h2, h4, h3⟩
  · rintro ⟨h1, h2, h4, h3⟩; exact ⟨⟨⟨h1, h2⟩, h3⟩, h4⟩
end Go.Proofs.YtjangilipfjcmaaGreat
