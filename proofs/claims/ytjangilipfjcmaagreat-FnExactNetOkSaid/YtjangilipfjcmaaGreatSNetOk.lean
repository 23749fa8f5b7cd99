/- Plain laws: is a network right? -/
import Derived.Test.YtjangilipfjcmaaGreatSNetAt
import Derived.Test.YtjangilipfjcmaaGreatSNet
namespace Go.Proofs.YtjangilipfjcmaaGreat
open Eng
set_option linter.unusedVariables false
set_option linter.unusedSimpArgs false

theorem eqChain_i {N : Nat} (hN : 1099000000000 ≤ N) (x y : TChain) (h1 : x.Pos.length ≤ 1048576) (h2 : x.Neg.length ≤ 1048576) : m_i_sameChain N x y = some (decide (x = y)) := by
  unfold m_i_sameChain
  simp only [eqInts hN _ _ (show x.Pos.length ≤ 4294967296 by omega), eqInts hN _ _ (show x.Neg.length ≤ 4294967296 by omega), Option.bind_some, andS]
  obtain ⟨a, b⟩ := x; obtain ⟨c, d⟩ := y
  simp only [TChain.mk.injEq, Bool.decide_and]
theorem eqAlphas_i {N : Nat} (hN : 1099000000000 ≤ N) (x y : List TAlpha) (hl : x.length ≤ 1048576) (h : ∀ a ∈ x, SzAlpha a) : m_sl_EqualFunc_Si_Alpha_Si_Alpha_i_Alpha_i_Alpha N x y (m_i_SameAlpha N) = some (decide (x = y)) := by
  unfold m_sl_EqualFunc_Si_Alpha_Si_Alpha_i_Alpha_i_Alpha
  by_cases c : x.length = y.length
  · rw [if_neg (by simp; omega)]
    refine (eqloop (m_sl_EqualFunc_Si_Alpha_Si_Alpha_i_Alpha_i_Alpha_l1 N x y (m_i_SameAlpha N)) x y c (by omega) (m_i_SameAlpha N) (fun a ha b _ => sameA_i hN a b (h a ha)) (fun k i => rfl) N 0 (by omega) (by omega)).trans ?_
    simp
  · rw [if_pos (by simp; omega)]
    have : ¬ x = y := fun e => c (by rw [e])
    simp [this]
theorem eqChains_i {N : Nat} (hN : 1099000000000 ≤ N) (x y : List TChain) (hl : x.length ≤ 1048576) (h : ∀ c ∈ x, c.Pos.length ≤ 1048576 ∧ c.Neg.length ≤ 1048576) : m_sl_EqualFunc_Si_Chain_Si_Chain_i_Chain_i_Chain N x y (m_i_sameChain N) = some (decide (x = y)) := by
  unfold m_sl_EqualFunc_Si_Chain_Si_Chain_i_Chain_i_Chain
  by_cases c : x.length = y.length
  · rw [if_neg (by simp; omega)]
    refine (eqloop (m_sl_EqualFunc_Si_Chain_Si_Chain_i_Chain_i_Chain_l1 N x y (m_i_sameChain N)) x y c (by omega) (m_i_sameChain N) (fun a ha b _ => eqChain_i hN a b (h a ha).1 (h a ha).2) (fun k i => rfl) N 0 (by omega) (by omega)).trans ?_
    simp
  · rw [if_pos (by simp; omega)]
    have : ¬ x = y := fun e => c (by rw [e])
    simp [this]
theorem netOk_i {N : Nat} (hN : 1099000000000 ≤ N) (n : TNet) (d : TDef) (hd : SzDef d) (hn : SzNet n) : m_i_NetOk N n d = some (okDef d && decide (n = netOf d)) := by
  unfold m_i_NetOk
  rw [def_i hN d hd, Option.bind_some]
  cases ho : okDef d with
  | false => simp
  | true =>
    simp only [Bool.not_true, Bool.false_eq_true, if_false, netIn_i hN d (okDef_net ho), Option.bind_some, eqAlphas_i hN _ _ hn.1.1 hn.1.2, eqChains_i hN _ _ hn.2.1 hn.2.2, andS, Bool.true_and]
    cases hno : netOf d with
    | mk a b => cases n with | mk x y => simp only [TNet.mk.injEq, Bool.decide_and]

end Go.Proofs.YtjangilipfjcmaaGreat
