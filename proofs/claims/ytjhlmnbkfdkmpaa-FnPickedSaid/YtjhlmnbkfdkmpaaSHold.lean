/- Plain laws: conditions, as the reference asks them. -/
import Derived.Test.YtjhlmnbkfdkmpaaSMatch
namespace Go.Proofs.Ytjhlmnbkfdkmpaa
open Eng
set_option linter.unusedVariables false
set_option linter.unusedSimpArgs false

def argVal (a : TArg) (l : List TBind) : TVal × Bool := if a.K = 2 then (a.V, true) else if a.K = 1 then look l a.S else (zv, false)
def lessV (x y : TVal) : Bool := if x.K = y.K then (if x.N = y.N then slt x.S y.S else decide (x.N < y.N)) else decide (x.K < y.K)
def holds (c : TCond) (l : List TBind) : Bool := ((argVal c.L l).2 && (argVal c.R l).2) && (if c.Op = 1 then decide ((argVal c.L l).1 = (argVal c.R l).1) else if c.Op = 2 then !decide ((argVal c.L l).1 = (argVal c.R l).1) else if c.Op = 3 then lessV (argVal c.L l).1 (argVal c.R l).1 else false)
theorem argVal_s {N : Nat} (hN : 1099000000000 ≤ N) (a : TArg) (l : List TBind) (hl : l.length ≤ 4294967296) : m_s_ArgVal N a l = some (argVal a l) := by
  unfold m_s_ArgVal argVal
  rw [look_s hN l a.S hl]
  by_cases h2 : a.K = 2
  · simp [h2]
  · by_cases h1 : a.K = 1 <;> simp [h1, h2, zv]
theorem lessV_s (N : Nat) (x y : TVal) : m_s_LessVal N x y = some (lessV x y) := by
  unfold m_s_LessVal lessV
  by_cases h1 : x.K = y.K
  · by_cases h2 : x.N = y.N <;> simp [h1, h2]
  · simp [h1]
theorem holds_s {N : Nat} (hN : 1099000000000 ≤ N) (c : TCond) (l : List TBind) (hl : l.length ≤ 4294967296) : m_s_Holds N c l = some (holds c l) := by
  unfold m_s_Holds holds
  rw [argVal_s hN c.L l hl, argVal_s hN c.R l hl]
  simp only [Option.bind_some, lessV_s, eqT_TVal_eq]
  cases (argVal c.L l).2 with
  | false => simp
  | true =>
    cases (argVal c.R l).2 with
    | false => simp
    | true =>
      by_cases h1 : c.Op = 1
      · simp [h1]
      · by_cases h2 : c.Op = 2
        · simp [h2]
        · by_cases h3 : c.Op = 3 <;> simp [h1, h2, h3]
theorem holdAll_s {N : Nat} (hN : 1099000000000 ≤ N) (cs : List TCond) (l : List TBind) (hc : cs.length ≤ 4194304) (hl : l.length ≤ 4294967296) : m_s_HoldAll N cs l = some (cs.all fun c => holds c l) := by
  unfold m_s_HoldAll
  refine lp0 hN cs (by omega) (m_s_HoldAll_l1 N cs l) (fun t => some (t.all fun c => holds c l)) (fun n i x t h1 h2 h3 h4 h5 h6 h7 => ?_) (fun n i h1 h2 => ?_)
  · simp only [m_s_HoldAll_l1, h5, if_true, h4, Option.bind_some, holds_s hN x l hl, h6, h7, List.all_cons]
    cases holds x l <;> simp
  · simp only [m_s_HoldAll_l1, h2, Bool.false_eq_true, if_false]; rfl
end Go.Proofs.Ytjhlmnbkfdkmpaa
