/- Plain laws: what a network asks of a fact for a pattern. -/
import Derived.Test.YtjangilipfjcmaaGreatCL2
import Derived.Test.YtjangilipfjcmaaGreatWExactNetOfPur
namespace Go.Proofs.YtjangilipfjcmaaGreat
open Eng
set_option linter.unusedVariables false
set_option linter.unusedSimpArgs false

/-- The values among arguments, and where they stand, from place i on. -/
def consts : List TArg → List TVal
  | [] => []
  | a :: t => if a.K = 2 then a.V :: consts t else consts t
def ats : Nat → List TArg → List Int
  | _, [] => []
  | i, a :: t => if a.K = 2 then (i : Int) :: ats (i + 1) t else ats (i + 1) t
def alphaOf (p : TPat) : TAlpha := ⟨p.Kind, (p.Args.length : Int), consts p.Args, ats 0 p.Args⟩
theorem consts_len : ∀ (l : List TArg), (consts l).length ≤ l.length
  | [] => by simp [consts]
  | a :: t => by have := consts_len t; unfold consts; split <;> simp <;> omega
theorem ats_len : ∀ (l : List TArg) (i : Nat), (ats i l).length ≤ l.length
  | [], _ => by simp [ats]
  | a :: t, i => by have := ats_len t (i + 1); unfold ats; split <;> simp <;> omega
theorem alpha_i {N : Nat} (hN : 1099000000000 ≤ N) (p : TPat) (hl : p.Args.length ≤ 1048576) : m_i_AlphaOf N p = some (alphaOf p) := by
  have lp : ∀ (n i : Nat) (cs : List TVal) (as : List Int), i ≤ p.Args.length → p.Args.length - i < n → cs.length ≤ i → as.length ≤ i →
      m_i_AlphaOf_l1 N p n cs as i = some ⟨p.Kind, (p.Args.length : Int), cs ++ consts (p.Args.drop i), as ++ ats i (p.Args.drop i)⟩ := by
    intro n
    induction n with
    | zero => intro i _ _ _ h; omega
    | succ n ih =>
      intro i cs as hi hn h1 h2
      by_cases hlt : i < p.Args.length
      · have c1 : decide ((i : Int) < (p.Args.length : Int)) = true := decide_eq_true (by omega)
        rw [List.drop_eq_getElem_cons hlt]
        simp only [m_i_AlphaOf_l1, c1, if_true, idx_nat_lt hlt, Option.bind_some, wr1 i (by omega), consts, ats]
        by_cases hk : p.Args[i].K = 2
        · simp only [hk, decide_true, if_true, app_ok (show cs.length + [p.Args[i].V].length ≤ 4294967296 by simp; omega), app_ok (show as.length + [(i : Int)].length ≤ 4294967296 by simp; omega), Option.bind_some]
          rw [ih (i + 1) _ _ (by omega) (by omega) (by simp; omega) (by simp; omega)]; simp
        · simp only [hk, decide_false, Bool.false_eq_true, if_false]
          exact ih (i + 1) _ _ (by omega) (by omega) (by omega) (by omega)
      · have c1 : decide ((i : Int) < (p.Args.length : Int)) = false := decide_eq_false (by omega)
        rw [List.drop_of_length_le (by omega)]
        simp only [m_i_AlphaOf_l1, c1, Bool.false_eq_true, if_false, consts, ats, List.append_nil]
  have := lp N 0 [] [] (by omega) (by omega) (by simp) (by simp)
  unfold m_i_AlphaOf alphaOf
  simpa using this
theorem ifd {P : Prop} [Decidable P] : (if P then some true else some false) = some (decide P) := by split <;> simp [*]
theorem ifB {P : Prop} [Decidable P] {A B : Option Bool} : (if (!decide P) = true then A else B) = if P then B else A := by by_cases h : P <;> simp [h]
theorem eqValD (x y : TVal) : eqT_TVal x y = decide (x = y) := eqT_TVal_eq x y
def SzAlpha (a : TAlpha) : Prop := a.Consts.length ≤ 1048576 ∧ a.At.length ≤ 1048576
theorem eqInts {N : Nat} (hN : 1099000000000 ≤ N) (x y : List Int) (hl : x.length ≤ 4294967296) : m_sl_Equal_Sint_int N x y = some (decide (x = y)) := by
  unfold m_sl_Equal_Sint_int
  by_cases c : x.length = y.length
  · rw [if_neg (by simp; omega)]
    refine (eqloop (m_sl_Equal_Sint_int_l1 N x y) x y c (by omega) (fun a b => some (decide (a = b))) (fun a _ b _ => rfl) (fun k i => rfl) N 0 (by omega) (by omega)).trans ?_
    simp
  · rw [if_pos (by simp; omega)]
    have : ¬ x = y := fun e => c (by rw [e])
    simp [this]
theorem eqVals {N : Nat} (hN : 1099000000000 ≤ N) (x y : List TVal) (hl : x.length ≤ 4294967296) : m_sl_Equal_Si_Val_i_Val N x y = some (decide (x = y)) := by
  unfold m_sl_Equal_Si_Val_i_Val
  by_cases c : x.length = y.length
  · rw [if_neg (by simp; omega)]
    refine (eqloop (m_sl_Equal_Si_Val_i_Val_l1 N x y) x y c (by omega) (fun a b => some (decide (a = b))) (fun a _ b _ => rfl) (fun k i => by simp only [m_sl_Equal_Si_Val_i_Val_l1, eqValD, Option.bind_some]) N 0 (by omega) (by omega)).trans ?_
    simp
  · rw [if_pos (by simp; omega)]
    have : ¬ x = y := fun e => c (by rw [e])
    simp [this]
theorem sameA_i {N : Nat} (hN : 1099000000000 ≤ N) (x y : TAlpha) (h : SzAlpha x) : m_i_SameAlpha N x y = some (decide (x = y)) := by
  unfold m_i_SameAlpha
  simp only [eqInts hN _ _ (show x.At.length ≤ 4294967296 by have := h.2; omega), eqVals hN _ _ (show x.Consts.length ≤ 4294967296 by have := h.1; omega), Option.bind_some, andS, seq_eq]
  obtain ⟨a, b, c, d⟩ := x; obtain ⟨e, f, g, k⟩ := y
  simp only [TAlpha.mk.injEq, ← Bool.decide_and, and_assoc]
end Go.Proofs.YtjangilipfjcmaaGreat
