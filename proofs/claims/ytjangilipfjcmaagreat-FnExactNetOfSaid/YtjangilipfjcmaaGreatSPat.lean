/- Plain laws: right patterns and conditions. -/
import Derived.Test.YtjangilipfjcmaaGreatSAct
import Derived.Test.YtjangilipfjcmaaGreatCL2
namespace Go.Proofs.YtjangilipfjcmaaGreat
open Eng
set_option linter.unusedVariables false
set_option linter.unusedSimpArgs false

def SzPat (p : TPat) : Prop := p.Kind.size ≤ 1048576 ∧ p.Args.length ≤ 1048576 ∧ ∀ a ∈ p.Args, SzArg a
def okPat (p : TPat) : Bool := okName p.Kind && (decide ((p.Args.length : Int) ≤ 5) && p.Args.all okArg)
theorem pat_i {N : Nat} (hN : 1099000000000 ≤ N) (p : TPat) (h : SzPat p) : m_i_PatOk N p = some (okPat p) := by
  obtain ⟨h1, h2, h3⟩ := h
  have lp := lp0 hN p.Args (by omega) (m_i_PatOk_l1 N p) (fun t => some (t.all okArg)) (fun n i x t g1 g2 g3 g4 g5 g6 g7 => by
    simp only [m_i_PatOk_l1, g5, if_true, g4, Option.bind_some, arg_i hN x (h3 x g2), g6, g7, List.all_cons]; cases okArg x <;> rfl) (fun n i g1 g2 => by simp only [m_i_PatOk_l1, g2, Bool.false_eq_true, if_false]; rfl)
  unfold m_i_PatOk okPat
  simp only [okName_i hN _ h1, Option.bind_some, lp]
  by_cases c : (p.Args.length : Int) ≤ 5
  · have c' : decide (5 < (p.Args.length : Int)) = false := decide_eq_false (by omega)
    simp only [c, c', decide_true]; cases okName p.Kind <;> simp
  · have c' : decide (5 < (p.Args.length : Int)) = true := decide_eq_true (by omega)
    simp only [c, c', decide_false]; cases okName p.Kind <;> simp
theorem pat_s {N : Nat} (hN : 1099000000000 ≤ N) (p : TPat) (h : SzPat p) : m_s_PatOk N p = some (okPat p) := by
  obtain ⟨h1, h2, h3⟩ := h
  have lp := lp0 hN p.Args (by omega) (m_s_PatOk_l1 N p) (fun t => some (t.all okArg && (okName p.Kind && decide ((p.Args.length : Int) ≤ 5)))) (fun n i x t g1 g2 g3 g4 g5 g6 g7 => by
    simp only [m_s_PatOk_l1, g5, if_true, g4, Option.bind_some, arg_s hN x (h3 x g2), g6, g7, List.all_cons]; cases okArg x <;> simp) (fun n i g1 g2 => by
    simp only [m_s_PatOk_l1, g2, Bool.false_eq_true, if_false, okName_s hN _ h1, Option.bind_some, andS, List.all_nil, Bool.true_and])
  unfold m_s_PatOk okPat
  rw [lp]
  generalize okName p.Kind = a; generalize p.Args.all okArg = b; generalize decide ((p.Args.length : Int) ≤ 5) = c
  cases a <;> cases b <;> cases c <;> rfl
def SzCond (c : TCond) : Prop := SzArg c.L ∧ SzArg c.R
def okCond (c : TCond) : Bool := (decide (1 ≤ c.Op) && decide (c.Op ≤ 3)) && (given c.L && given c.R)
theorem cond_i {N : Nat} (hN : 1099000000000 ≤ N) (c : TCond) (h : SzCond c) : m_i_CondOk N c = some (okCond c) := by
  unfold m_i_CondOk okCond
  simp only [in1, given_i hN _ h.1, given_i hN _ h.2, Option.bind_some, andS, Bool.and_assoc]
theorem cond_s {N : Nat} (hN : 1099000000000 ≤ N) (c : TCond) (h : SzCond c) : m_s_CondOk N c = some (okCond c) := by
  unfold m_s_CondOk okCond given
  simp only [in0, arg_s hN _ h.1, arg_s hN _ h.2, Option.bind_some, andS]
  generalize okArg c.L = a; generalize okArg c.R = b; generalize (decide (c.L.K = 3)) = d; generalize (decide (c.R.K = 3)) = e; generalize (decide (1 ≤ c.Op) && decide (c.Op ≤ 3)) = f
  cases a <;> cases b <;> cases d <;> cases e <;> cases f <;> rfl
end Go.Proofs.YtjangilipfjcmaaGreat
