/- Printed by a program of ours: the plain laws of the sizes, copies, comparisons and marks. -/
import Derived.Test.YteipbimepilcfaaGreatDoorPLib
import Derived.Test.YteipbimepilcfaaGreatDoorWExactParseDefMod
namespace Go.Proofs.YteipbimepilcfaaGreatDoor
open Eng
set_option linter.unusedVariables false
set_option linter.unusedSimpArgs false
set_option maxRecDepth 10000
def WfTVal (x : TVal) : Prop := (WfI .i64) x.K ∧ (WfI .i64) x.N ∧ WfS x.S
def totTVal (x : TVal) : Int := ((x.S.size : Int))
theorem totTVal_nn (x : TVal) : 0 ≤ totTVal x := by
 unfold totTVal
 omega
def WfTArg (x : TArg) : Prop := (WfI .i64) x.K ∧ WfS x.S ∧ WfTVal x.V
def totTArg (x : TArg) : Int := ((x.S.size : Int)) + (totTVal x.V)
theorem totTArg_nn (x : TArg) : 0 ≤ totTArg x := by
 unfold totTArg
 have := totTVal_nn x.V
 omega
def WfTPat (x : TPat) : Prop := WfS x.Kind ∧ (WfL WfTArg) x.Args ∧ WfB x.Not
def totTPat (x : TPat) : Int := ((x.Kind.size : Int)) + ((x.Args.length : Int) + (x.Args.map totTArg).sum)
theorem totTPat_nn (x : TPat) : 0 ≤ totTPat x := by
 unfold totTPat
 have := sum_nonneg totTArg x.Args (fun y _ => totTArg_nn y)
 omega
def WfTCond (x : TCond) : Prop := (WfI .i64) x.Op ∧ WfTArg x.L ∧ WfTArg x.R
def totTCond (x : TCond) : Int := (totTArg x.L) + (totTArg x.R)
theorem totTCond_nn (x : TCond) : 0 ≤ totTCond x := by
 unfold totTCond
 have := totTArg_nn x.L
 have := totTArg_nn x.R
 omega
def WfTExpr (x : TExpr) : Prop := WfS x.Op ∧ WfTArg x.L ∧ WfTArg x.R
def totTExpr (x : TExpr) : Int := ((x.Op.size : Int)) + (totTArg x.L) + (totTArg x.R)
theorem totTExpr_nn (x : TExpr) : 0 ≤ totTExpr x := by
 unfold totTExpr
 have := totTArg_nn x.L
 have := totTArg_nn x.R
 omega
def WfTAct (x : TAct) : Prop := (WfI .i64) x.Kind ∧ WfS x.Name ∧ (WfL WfTExpr) x.Args ∧ (WfI .i64) x.N ∧ WfS x.Undo
def totTAct (x : TAct) : Int := ((x.Name.size : Int)) + ((x.Args.length : Int) + (x.Args.map totTExpr).sum) + ((x.Undo.size : Int))
theorem totTAct_nn (x : TAct) : 0 ≤ totTAct x := by
 unfold totTAct
 have := sum_nonneg totTExpr x.Args (fun y _ => totTExpr_nn y)
 omega
def WfTRule (x : TRule) : Prop := WfS x.Name ∧ (WfI .i64) x.Sal ∧ (WfL WfTPat) x.Pats ∧ (WfL WfTCond) x.Conds ∧ (WfL WfTAct) x.Acts
def totTRule (x : TRule) : Int := ((x.Name.size : Int)) + ((x.Pats.length : Int) + (x.Pats.map totTPat).sum) + ((x.Conds.length : Int) + (x.Conds.map totTCond).sum) + ((x.Acts.length : Int) + (x.Acts.map totTAct).sum)
theorem totTRule_nn (x : TRule) : 0 ≤ totTRule x := by
 unfold totTRule
 have := sum_nonneg totTPat x.Pats (fun y _ => totTPat_nn y)
 have := sum_nonneg totTCond x.Conds (fun y _ => totTCond_nn y)
 have := sum_nonneg totTAct x.Acts (fun y _ => totTAct_nn y)
 omega
def WfTDef (x : TDef) : Prop := WfS x.Name ∧ (WfL WfTRule) x.Rules
def totTDef (x : TDef) : Int := ((x.Name.size : Int)) + ((x.Rules.length : Int) + (x.Rules.map totTRule).sum)
theorem totTDef_nn (x : TDef) : 0 ≤ totTDef x := by
 unfold totTDef
 have := sum_nonneg totTRule x.Rules (fun y _ => totTRule_nn y)
 omega
def LimTPat (x : TPat) : Prop := (x.Args.length ≤ 4294967296)
theorem LimTPat_of (x : TPat) (h : totTPat x ≤ 1048576) : LimTPat x := by
 unfold totTPat at h
 have nn_Args : ∀ y ∈ x.Args, 0 ≤ totTArg y := fun y _ => totTArg_nn y
 have := sum_nonneg _ _ nn_Args
 unfold LimTPat; omega
def LimTAct (x : TAct) : Prop := (x.Args.length ≤ 4294967296)
theorem LimTAct_of (x : TAct) (h : totTAct x ≤ 1048576) : LimTAct x := by
 unfold totTAct at h
 have nn_Args : ∀ y ∈ x.Args, 0 ≤ totTExpr y := fun y _ => totTExpr_nn y
 have := sum_nonneg _ _ nn_Args
 unfold LimTAct; omega
def LimTRule (x : TRule) : Prop := (x.Pats.length ≤ 4294967296 ∧ ∀ y ∈ x.Pats, LimTPat y) ∧ (x.Conds.length ≤ 4294967296) ∧ (x.Acts.length ≤ 4294967296 ∧ ∀ y ∈ x.Acts, LimTAct y)
theorem LimTRule_of (x : TRule) (h : totTRule x ≤ 1048576) : LimTRule x := by
 unfold totTRule at h
 have nn_Pats : ∀ y ∈ x.Pats, 0 ≤ totTPat y := fun y _ => totTPat_nn y
 have := sum_nonneg _ _ nn_Pats
 have nn_Conds : ∀ y ∈ x.Conds, 0 ≤ totTCond y := fun y _ => totTCond_nn y
 have := sum_nonneg _ _ nn_Conds
 have nn_Acts : ∀ y ∈ x.Acts, 0 ≤ totTAct y := fun y _ => totTAct_nn y
 have := sum_nonneg _ _ nn_Acts
 exact ⟨⟨by omega, fun y hy => LimTPat_of y (by have := sum_mem _ _ nn_Pats y hy; omega)⟩, by omega, ⟨by omega, fun y hy => LimTAct_of y (by have := sum_mem _ _ nn_Acts y hy; omega)⟩⟩
def LimTDef (x : TDef) : Prop := (x.Rules.length ≤ 4294967296 ∧ ∀ y ∈ x.Rules, LimTRule y)
theorem LimTDef_of (x : TDef) (h : totTDef x ≤ 1048576) : LimTDef x := by
 unfold totTDef at h
 have nn_Rules : ∀ y ∈ x.Rules, 0 ≤ totTRule y := fun y _ => totTRule_nn y
 have := sum_nonneg _ _ nn_Rules
 exact ⟨by omega, fun y hy => LimTRule_of y (by have := sum_mem _ _ nn_Rules y hy; omega)⟩
theorem eq_m_l_eqVal {N : Nat} (hN : 1099000000000 ≤ N) (x y : TVal) : m_l_eqVal N x y = some (decide (x = y)) := by
 unfold m_l_eqVal
 simp only [seq_eq, Option.bind_some]
 obtain ⟨a0, a1, a2⟩ := x; obtain ⟨b0, b1, b2⟩ := y
 simp only [TVal.mk.injEq]
 by_cases c0 : a0 = b0
 ·subst c0
  by_cases c1 : a1 = b1
  ·subst c1
   by_cases c2 : a2 = b2
   ·subst c2
    simp
   ·simp [c2]
  ·simp [c1]
 ·simp [c0]
theorem eq_m_l_eqArg {N : Nat} (hN : 1099000000000 ≤ N) (x y : TArg) : m_l_eqArg N x y = some (decide (x = y)) := by
 unfold m_l_eqArg
 rw [eq_m_l_eqVal hN _ _]
 simp only [seq_eq, Option.bind_some]
 obtain ⟨a0, a1, a2⟩ := x; obtain ⟨b0, b1, b2⟩ := y
 simp only [TArg.mk.injEq]
 by_cases c0 : a0 = b0
 ·subst c0
  by_cases c1 : a1 = b1
  ·subst c1
   by_cases c2 : a2 = b2
   ·subst c2
    simp
   ·simp [c2]
  ·simp [c1]
 ·simp [c0]
theorem eq_m_l_eqArgS {N : Nat} (hN : 1099000000000 ≤ N) (x y : (List TArg)) (h : (x.length ≤ 4294967296)) : m_l_eqArgS N x y = some (decide (x = y)) := by
 have hl : x.length ≤ 4294967296 := h
 unfold m_l_eqArgS
 by_cases c : x.length = y.length
 ·rw [if_neg (by simp; omega)]
  refine (eqloop (m_l_eqArgS_l1 N x y) x y c (by omega) (fun a b => m_l_eqArg N a b) (fun a ha b hb => eq_m_l_eqArg hN a b) (fun k i => rfl) N 0 (by omega) (by omega)).trans ?_
  simp
 ·rw [if_pos (by simp; omega)]
  have : ¬ x = y := fun e => c (by rw [e])
  simp [this]
theorem eq_m_l_eqPat {N : Nat} (hN : 1099000000000 ≤ N) (x y : TPat) (h : LimTPat x) : m_l_eqPat N x y = some (decide (x = y)) := by
 unfold m_l_eqPat
 rw [eq_m_l_eqArgS hN _ _ (h)]
 simp only [seq_eq, Option.bind_some]
 obtain ⟨a0, a1, a2⟩ := x; obtain ⟨b0, b1, b2⟩ := y
 simp only [TPat.mk.injEq]
 by_cases c0 : a0 = b0
 ·subst c0
  by_cases c1 : a1 = b1
  ·subst c1
   by_cases c2 : a2 = b2
   ·subst c2
    simp
   ·simp [c2]
  ·simp [c1]
 ·simp [c0]
theorem eq_m_l_eqPatS {N : Nat} (hN : 1099000000000 ≤ N) (x y : (List TPat)) (h : (x.length ≤ 4294967296 ∧ ∀ y ∈ x, LimTPat y)) : m_l_eqPatS N x y = some (decide (x = y)) := by
 have hl : x.length ≤ 4294967296 := h.1
 unfold m_l_eqPatS
 by_cases c : x.length = y.length
 ·rw [if_neg (by simp; omega)]
  refine (eqloop (m_l_eqPatS_l1 N x y) x y c (by omega) (fun a b => m_l_eqPat N a b) (fun a ha b hb => eq_m_l_eqPat hN a b (h.2 a ha)) (fun k i => rfl) N 0 (by omega) (by omega)).trans ?_
  simp
 ·rw [if_pos (by simp; omega)]
  have : ¬ x = y := fun e => c (by rw [e])
  simp [this]
theorem eq_m_l_eqCond {N : Nat} (hN : 1099000000000 ≤ N) (x y : TCond) : m_l_eqCond N x y = some (decide (x = y)) := by
 unfold m_l_eqCond
 rw [eq_m_l_eqArg hN _ _, eq_m_l_eqArg hN _ _]
 simp only [seq_eq, Option.bind_some]
 obtain ⟨a0, a1, a2⟩ := x; obtain ⟨b0, b1, b2⟩ := y
 simp only [TCond.mk.injEq]
 by_cases c0 : a0 = b0
 ·subst c0
  by_cases c1 : a1 = b1
  ·subst c1
   by_cases c2 : a2 = b2
   ·subst c2
    simp
   ·simp [c2]
  ·simp [c1]
 ·simp [c0]
theorem eq_m_l_eqCondS {N : Nat} (hN : 1099000000000 ≤ N) (x y : (List TCond)) (h : (x.length ≤ 4294967296)) : m_l_eqCondS N x y = some (decide (x = y)) := by
 have hl : x.length ≤ 4294967296 := h
 unfold m_l_eqCondS
 by_cases c : x.length = y.length
 ·rw [if_neg (by simp; omega)]
  refine (eqloop (m_l_eqCondS_l1 N x y) x y c (by omega) (fun a b => m_l_eqCond N a b) (fun a ha b hb => eq_m_l_eqCond hN a b) (fun k i => rfl) N 0 (by omega) (by omega)).trans ?_
  simp
 ·rw [if_pos (by simp; omega)]
  have : ¬ x = y := fun e => c (by rw [e])
  simp [this]
theorem eq_m_l_eqExpr {N : Nat} (hN : 1099000000000 ≤ N) (x y : TExpr) : m_l_eqExpr N x y = some (decide (x = y)) := by
 unfold m_l_eqExpr
 rw [eq_m_l_eqArg hN _ _, eq_m_l_eqArg hN _ _]
 simp only [seq_eq, Option.bind_some]
 obtain ⟨a0, a1, a2⟩ := x; obtain ⟨b0, b1, b2⟩ := y
 simp only [TExpr.mk.injEq]
 by_cases c0 : a0 = b0
 ·subst c0
  by_cases c1 : a1 = b1
  ·subst c1
   by_cases c2 : a2 = b2
   ·subst c2
    simp
   ·simp [c2]
  ·simp [c1]
 ·simp [c0]
theorem eq_m_l_eqExprS {N : Nat} (hN : 1099000000000 ≤ N) (x y : (List TExpr)) (h : (x.length ≤ 4294967296)) : m_l_eqExprS N x y = some (decide (x = y)) := by
 have hl : x.length ≤ 4294967296 := h
 unfold m_l_eqExprS
 by_cases c : x.length = y.length
 ·rw [if_neg (by simp; omega)]
  refine (eqloop (m_l_eqExprS_l1 N x y) x y c (by omega) (fun a b => m_l_eqExpr N a b) (fun a ha b hb => eq_m_l_eqExpr hN a b) (fun k i => rfl) N 0 (by omega) (by omega)).trans ?_
  simp
 ·rw [if_pos (by simp; omega)]
  have : ¬ x = y := fun e => c (by rw [e])
  simp [this]
theorem eq_m_l_eqAct {N : Nat} (hN : 1099000000000 ≤ N) (x y : TAct) (h : LimTAct x) : m_l_eqAct N x y = some (decide (x = y)) := by
 unfold m_l_eqAct
 rw [eq_m_l_eqExprS hN _ _ (h)]
 simp only [seq_eq, Option.bind_some]
 obtain ⟨a0, a1, a2, a3, a4⟩ := x; obtain ⟨b0, b1, b2, b3, b4⟩ := y
 simp only [TAct.mk.injEq]
 by_cases c0 : a0 = b0
 ·subst c0
  by_cases c1 : a1 = b1
  ·subst c1
   by_cases c2 : a2 = b2
   ·subst c2
    by_cases c3 : a3 = b3
    ·subst c3
     by_cases c4 : a4 = b4
     ·subst c4
      simp
     ·simp [c4]
    ·simp [c3]
   ·simp [c2]
  ·simp [c1]
 ·simp [c0]
theorem eq_m_l_eqActS {N : Nat} (hN : 1099000000000 ≤ N) (x y : (List TAct)) (h : (x.length ≤ 4294967296 ∧ ∀ y ∈ x, LimTAct y)) : m_l_eqActS N x y = some (decide (x = y)) := by
 have hl : x.length ≤ 4294967296 := h.1
 unfold m_l_eqActS
 by_cases c : x.length = y.length
 ·rw [if_neg (by simp; omega)]
  refine (eqloop (m_l_eqActS_l1 N x y) x y c (by omega) (fun a b => m_l_eqAct N a b) (fun a ha b hb => eq_m_l_eqAct hN a b (h.2 a ha)) (fun k i => rfl) N 0 (by omega) (by omega)).trans ?_
  simp
 ·rw [if_pos (by simp; omega)]
  have : ¬ x = y := fun e => c (by rw [e])
  simp [this]
theorem eq_m_l_eqRule {N : Nat} (hN : 1099000000000 ≤ N) (x y : TRule) (h : LimTRule x) : m_l_eqRule N x y = some (decide (x = y)) := by
 unfold m_l_eqRule
 rw [eq_m_l_eqPatS hN _ _ (h.1), eq_m_l_eqCondS hN _ _ (h.2.1), eq_m_l_eqActS hN _ _ (h.2.2)]
 simp only [seq_eq, Option.bind_some]
 obtain ⟨a0, a1, a2, a3, a4⟩ := x; obtain ⟨b0, b1, b2, b3, b4⟩ := y
 simp only [TRule.mk.injEq]
 by_cases c0 : a0 = b0
 ·subst c0
  by_cases c1 : a1 = b1
  ·subst c1
   by_cases c2 : a2 = b2
   ·subst c2
    by_cases c3 : a3 = b3
    ·subst c3
     by_cases c4 : a4 = b4
     ·subst c4
      simp
     ·simp [c4]
    ·simp [c3]
   ·simp [c2]
  ·simp [c1]
 ·simp [c0]
theorem eq_m_l_eqRuleS {N : Nat} (hN : 1099000000000 ≤ N) (x y : (List TRule)) (h : (x.length ≤ 4294967296 ∧ ∀ y ∈ x, LimTRule y)) : m_l_eqRuleS N x y = some (decide (x = y)) := by
 have hl : x.length ≤ 4294967296 := h.1
 unfold m_l_eqRuleS
 by_cases c : x.length = y.length
 ·rw [if_neg (by simp; omega)]
  refine (eqloop (m_l_eqRuleS_l1 N x y) x y c (by omega) (fun a b => m_l_eqRule N a b) (fun a ha b hb => eq_m_l_eqRule hN a b (h.2 a ha)) (fun k i => rfl) N 0 (by omega) (by omega)).trans ?_
  simp
 ·rw [if_pos (by simp; omega)]
  have : ¬ x = y := fun e => c (by rw [e])
  simp [this]
theorem eq_m_l_eqDef {N : Nat} (hN : 1099000000000 ≤ N) (x y : TDef) (h : LimTDef x) : m_l_eqDef N x y = some (decide (x = y)) := by
 unfold m_l_eqDef
 rw [eq_m_l_eqRuleS hN _ _ (h)]
 simp only [seq_eq, Option.bind_some]
 obtain ⟨a0, a1⟩ := x; obtain ⟨b0, b1⟩ := y
 simp only [TDef.mk.injEq]
 by_cases c0 : a0 = b0
 ·subst c0
  by_cases c1 : a1 = b1
  ·subst c1
   simp
  ·simp [c1]
 ·simp [c0]
theorem mtx {N : Nat} (hN : 1099000000000 ≤ N) (k : Int) (h0 : 0 ≤ k) (h1 : k ≤ big62) : ∃ t, m_l_markText N k = some t := by
 unfold m_l_markText
 by_cases c : k ≤ 0
 ·rw [if_pos (by simpa using c)]; exact ⟨_, rfl⟩
 ·rw [if_neg (by simpa using c)]
  obtain ⟨m, hm⟩ : ∃ m, N = 20 + 1 + m := ⟨N - 21, by omega⟩
  have := mtxloop (m_l_markText_l1 N) (fun n s t => by simp only [m_l_markText_l1]) 20 m k (⟨#[]⟩ : ByteArray) h0 h1 (by unfold big62 at h1; omega) (by decide)
  rw [← hm] at this; exact this
def cntTArg (x : TArg) : Int := 1 + 1 + 1 + 1 + 1
theorem cntTArg_nn (x : TArg) : 0 ≤ cntTArg x := by
 unfold cntTArg
 omega
theorem cntTArg_le (x : TArg) : cntTArg x ≤ 32 + 32 * (totTArg x) := by
 unfold cntTArg totTArg totTVal
 omega
def HdTArg (N : Nat) (x : TArg) (k : Int) : Prop := x.K = k ∧ m_l_markText N (k + 1) = some x.S ∧ x.V.K = ((k + 1) + 1) ∧ x.V.N = (((k + 1) + 1) + 1) ∧ m_l_markText N ((((k + 1) + 1) + 1) + 1) = some x.V.S
def cntTPat (x : TPat) : Int := 1 + cntL cntTArg x.Args + 1
theorem cntTPat_nn (x : TPat) : 0 ≤ cntTPat x := by
 unfold cntTPat
 have := cntL_nn cntTArg_nn x.Args
 omega
theorem cntTPat_le (x : TPat) : cntTPat x ≤ 32 + 32 * (totTPat x) := by
 have := cntL_le (p := x.Args) (tot := totTArg) (fun y _ => cntTArg_le y)
 have := sum_nonneg totTArg x.Args (fun y _ => totTArg_nn y)
 unfold cntTPat totTPat
 omega
def HdTPat (N : Nat) (x : TPat) (k : Int) : Prop := m_l_markText N k = some x.Kind ∧ HdL (HdTArg N) cntTArg x.Args (k + 1) ∧ x.Not = decide (((k + 1) + cntL cntTArg x.Args).tmod 3 = 0)
def cntTCond (x : TCond) : Int := 1 + 1 + 1 + 1 + 1 + 1 + 1 + 1 + 1 + 1 + 1
theorem cntTCond_nn (x : TCond) : 0 ≤ cntTCond x := by
 unfold cntTCond
 omega
theorem cntTCond_le (x : TCond) : cntTCond x ≤ 32 + 32 * (totTCond x) := by
 unfold cntTCond totTCond totTArg totTVal
 omega
def HdTCond (N : Nat) (x : TCond) (k : Int) : Prop := x.Op = k ∧ x.L.K = (k + 1) ∧ m_l_markText N ((k + 1) + 1) = some x.L.S ∧ x.L.V.K = (((k + 1) + 1) + 1) ∧ x.L.V.N = ((((k + 1) + 1) + 1) + 1) ∧ m_l_markText N (((((k + 1) + 1) + 1) + 1) + 1) = some x.L.V.S ∧ x.R.K = ((((((k + 1) + 1) + 1) + 1) + 1) + 1) ∧ m_l_markText N (((((((k + 1) + 1) + 1) + 1) + 1) + 1) + 1) = some x.R.S ∧ x.R.V.K = ((((((((k + 1) + 1) + 1) + 1) + 1) + 1) + 1) + 1) ∧ x.R.V.N = (((((((((k + 1) + 1) + 1) + 1) + 1) + 1) + 1) + 1) + 1) ∧ m_l_markText N ((((((((((k + 1) + 1) + 1) + 1) + 1) + 1) + 1) + 1) + 1) + 1) = some x.R.V.S
def cntTExpr (x : TExpr) : Int := 1 + 1 + 1 + 1 + 1 + 1 + 1 + 1 + 1 + 1 + 1
theorem cntTExpr_nn (x : TExpr) : 0 ≤ cntTExpr x := by
 unfold cntTExpr
 omega
theorem cntTExpr_le (x : TExpr) : cntTExpr x ≤ 32 + 32 * (totTExpr x) := by
 unfold cntTExpr totTExpr totTArg totTVal
 omega
def HdTExpr (N : Nat) (x : TExpr) (k : Int) : Prop := m_l_markText N k = some x.Op ∧ x.L.K = (k + 1) ∧ m_l_markText N ((k + 1) + 1) = some x.L.S ∧ x.L.V.K = (((k + 1) + 1) + 1) ∧ x.L.V.N = ((((k + 1) + 1) + 1) + 1) ∧ m_l_markText N (((((k + 1) + 1) + 1) + 1) + 1) = some x.L.V.S ∧ x.R.K = ((((((k + 1) + 1) + 1) + 1) + 1) + 1) ∧ m_l_markText N (((((((k + 1) + 1) + 1) + 1) + 1) + 1) + 1) = some x.R.S ∧ x.R.V.K = ((((((((k + 1) + 1) + 1) + 1) + 1) + 1) + 1) + 1) ∧ x.R.V.N = (((((((((k + 1) + 1) + 1) + 1) + 1) + 1) + 1) + 1) + 1) ∧ m_l_markText N ((((((((((k + 1) + 1) + 1) + 1) + 1) + 1) + 1) + 1) + 1) + 1) = some x.R.V.S
def cntTAct (x : TAct) : Int := 1 + 1 + cntL cntTExpr x.Args + 1 + 1
theorem cntTAct_nn (x : TAct) : 0 ≤ cntTAct x := by
 unfold cntTAct
 have := cntL_nn cntTExpr_nn x.Args
 omega
theorem cntTAct_le (x : TAct) : cntTAct x ≤ 32 + 32 * (totTAct x) := by
 have := cntL_le (p := x.Args) (tot := totTExpr) (fun y _ => cntTExpr_le y)
 have := sum_nonneg totTExpr x.Args (fun y _ => totTExpr_nn y)
 unfold cntTAct totTAct
 omega
def HdTAct (N : Nat) (x : TAct) (k : Int) : Prop := x.Kind = k ∧ m_l_markText N (k + 1) = some x.Name ∧ HdL (HdTExpr N) cntTExpr x.Args ((k + 1) + 1) ∧ x.N = (((k + 1) + 1) + cntL cntTExpr x.Args) ∧ m_l_markText N ((((k + 1) + 1) + cntL cntTExpr x.Args) + 1) = some x.Undo
def cntTRule (x : TRule) : Int := 1 + 1 + cntL cntTPat x.Pats + cntL cntTCond x.Conds + cntL cntTAct x.Acts
theorem cntTRule_nn (x : TRule) : 0 ≤ cntTRule x := by
 unfold cntTRule
 have := cntL_nn cntTPat_nn x.Pats
 have := cntL_nn cntTCond_nn x.Conds
 have := cntL_nn cntTAct_nn x.Acts
 omega
theorem cntTRule_le (x : TRule) : cntTRule x ≤ 32 + 32 * (totTRule x) := by
 have := cntL_le (p := x.Pats) (tot := totTPat) (fun y _ => cntTPat_le y)
 have := sum_nonneg totTPat x.Pats (fun y _ => totTPat_nn y)
 have := cntL_le (p := x.Conds) (tot := totTCond) (fun y _ => cntTCond_le y)
 have := sum_nonneg totTCond x.Conds (fun y _ => totTCond_nn y)
 have := cntL_le (p := x.Acts) (tot := totTAct) (fun y _ => cntTAct_le y)
 have := sum_nonneg totTAct x.Acts (fun y _ => totTAct_nn y)
 unfold cntTRule totTRule
 omega
def HdTRule (N : Nat) (x : TRule) (k : Int) : Prop := m_l_markText N k = some x.Name ∧ x.Sal = (k + 1) ∧ HdL (HdTPat N) cntTPat x.Pats ((k + 1) + 1) ∧ HdL (HdTCond N) cntTCond x.Conds (((k + 1) + 1) + cntL cntTPat x.Pats) ∧ HdL (HdTAct N) cntTAct x.Acts ((((k + 1) + 1) + cntL cntTPat x.Pats) + cntL cntTCond x.Conds)
def cntTDef (x : TDef) : Int := 1 + cntL cntTRule x.Rules
theorem cntTDef_nn (x : TDef) : 0 ≤ cntTDef x := by
 unfold cntTDef
 have := cntL_nn cntTRule_nn x.Rules
 omega
theorem cntTDef_le (x : TDef) : cntTDef x ≤ 32 + 32 * (totTDef x) := by
 have := cntL_le (p := x.Rules) (tot := totTRule) (fun y _ => cntTRule_le y)
 have := sum_nonneg totTRule x.Rules (fun y _ => totTRule_nn y)
 unfold cntTDef totTDef
 omega
def HdTDef (N : Nat) (x : TDef) (k : Int) : Prop := m_l_markText N k = some x.Name ∧ HdL (HdTRule N) cntTRule x.Rules (k + 1)
theorem mk_m_l_markArgS {N : Nat} (hN : 1099000000000 ≤ N) (x : (List TArg)) (h : (x.length ≤ 4294967296)) (k : Int) (h0 : 0 ≤ k) (h1 : k + cntL cntTArg x ≤ big62) : ∃ ys, m_l_markArgS N x k = some (k + cntL cntTArg x, ys) ∧ cntL cntTArg ys = cntL cntTArg x ∧ HdL (HdTArg N) cntTArg ys k ∧ (ys.length ≤ 4294967296) := by
 have hl : x.length ≤ 4294967296 := h
 obtain ⟨ys, a1, a2, a3, a4, a5⟩ := mkloop (m_l_markArgS_l1 N) (HdTArg N) cntTArg (fun _ => True) cntTArg_nn (fun n s k i x hx hi hlt h0 h1 h => by
  unfold big62 at h1
  have hcnt : cntTArg x = 1 + 1 + 1 + 1 + 1 := rfl
  rw [hcnt] at h1
  have e0 : IntKind.i64.wrap (k + 1) = k + 1 := wr (by omega) (by omega)
  obtain ⟨t1, m1⟩ := mtx hN (k + 1) (by omega) (by unfold big62; omega)
  have e1 : IntKind.i64.wrap ((k + 1) + 1) = (k + 1) + 1 := wr (by omega) (by omega)
  have e2 : IntKind.i64.wrap (((k + 1) + 1) + 1) = ((k + 1) + 1) + 1 := wr (by omega) (by omega)
  have e3 : IntKind.i64.wrap ((((k + 1) + 1) + 1) + 1) = (((k + 1) + 1) + 1) + 1 := wr (by omega) (by omega)
  obtain ⟨t4, m4⟩ := mtx hN ((((k + 1) + 1) + 1) + 1) (by omega) (by unfold big62; omega)
  have e4 : IntKind.i64.wrap (((((k + 1) + 1) + 1) + 1) + 1) = ((((k + 1) + 1) + 1) + 1) + 1 := wr (by omega) (by omega)
  have cc : decide ((i : Int) < (s.length : Int)) = true := decide_eq_true hlt
  refine ⟨(⟨k, t1, (⟨((k + 1) + 1), (((k + 1) + 1) + 1), t4⟩ : TVal)⟩ : TArg), ?_, ?_, ?_, ?_⟩
  ·exact ⟨(by trivial), m1, (by trivial), (by trivial), m4⟩
  ·simp only [cntTArg]
  ·exact trivial
  ·have hp : (((((k + 1) + 1) + 1) + 1) + 1) = k + cntTArg x := by omega
   rw [← hp, ← wr1 i (by omega)]
   simp only [m_l_markArgS_l1, cc, if_true, show idx s (i : Int) = some x from by rw [idx_nat, hx], Option.bind_some, Int.toNat_natCast, e0, m1, e1, e2, e3, m4, e4])
  (fun n s k i hi => by simp only [m_l_markArgS_l1]; rw [if_neg (by simpa using hi)]) N 0 x k hl (by omega) (by omega) h0 (by simpa using h1) (fun _ _ => trivial)
 simp only [List.drop_zero, List.take_zero, List.nil_append] at a1 a3
 exact ⟨ys, a1, a3, a4, by omega⟩
theorem hd_m_l_heldArgS {N : Nat} (hN : 1099000000000 ≤ N) (x : (List TArg)) (h : (x.length ≤ 4294967296)) (k : Int) (h0 : 0 ≤ k) (h1 : k + cntL cntTArg x ≤ big62) (hh : HdL (HdTArg N) cntTArg x k) : m_l_heldArgS N x k = some (k + cntL cntTArg x) := by
 have hl : x.length ≤ 4294967296 := h
 have := hdloop (m_l_heldArgS_l1 N x) x (HdTArg N) cntTArg (fun _ => True) cntTArg_nn hl (fun _ _ => trivial) (fun n k i y hx hi hlt h0 h1 h hy => by
  unfold big62 at h1
  have hcnt : cntTArg y = 1 + 1 + 1 + 1 + 1 := rfl
  rw [hcnt] at h1
  have e0 : IntKind.i64.wrap (k + 1) = k + 1 := wr (by omega) (by omega)
  have e1 : IntKind.i64.wrap ((k + 1) + 1) = (k + 1) + 1 := wr (by omega) (by omega)
  have e2 : IntKind.i64.wrap (((k + 1) + 1) + 1) = ((k + 1) + 1) + 1 := wr (by omega) (by omega)
  have e3 : IntKind.i64.wrap ((((k + 1) + 1) + 1) + 1) = (((k + 1) + 1) + 1) + 1 := wr (by omega) (by omega)
  have e4 : IntKind.i64.wrap (((((k + 1) + 1) + 1) + 1) + 1) = ((((k + 1) + 1) + 1) + 1) + 1 := wr (by omega) (by omega)
  have cc : decide ((i : Int) < (x.length : Int)) = true := decide_eq_true hlt
  have hp : (((((k + 1) + 1) + 1) + 1) + 1) = k + cntTArg y := by omega
  obtain ⟨q0, q1, q2, q3, q4⟩ := hy
  rw [← hp, ← wr1 i (by omega)]
  have hb : ∀ {β : Type} (f : TArg → Option β), (idx x (i : Int)).bind f = f y := fun f => by rw [idx_nat, hx]; rfl
  have bq1 := fun (β : Type) => @bs_of _ _ _ q1 β
  have bq4 := fun (β : Type) => @bs_of _ _ _ q4 β
  simp only [m_l_heldArgS_l1, cc, if_true]
  simp only [e0, e1, e2, e3, e4]
  simp only [↓hb, ↓bq1, ↓bq4, ↓reduceIte, seq_self, decide_true, Bool.not_true, Bool.false_eq_true, bne_self_eq_false, q0, q2, q3, e0, e1, e2, e3, e4])
  (fun n k i hi => by simp only [m_l_heldArgS_l1]; rw [if_neg (by simpa using hi)]) N 0 k (by omega) (by omega) h0 (by simpa using h1) (by simpa using hh)
 unfold m_l_heldArgS; simpa using this
theorem mk_m_l_markPatS {N : Nat} (hN : 1099000000000 ≤ N) (x : (List TPat)) (h : (x.length ≤ 4294967296 ∧ ∀ y ∈ x, LimTPat y)) (k : Int) (h0 : 0 ≤ k) (h1 : k + cntL cntTPat x ≤ big62) : ∃ ys, m_l_markPatS N x k = some (k + cntL cntTPat x, ys) ∧ cntL cntTPat ys = cntL cntTPat x ∧ HdL (HdTPat N) cntTPat ys k ∧ (ys.length ≤ 4294967296 ∧ ∀ y ∈ ys, LimTPat y) := by
 have hl : x.length ≤ 4294967296 := h.1
 obtain ⟨ys, a1, a2, a3, a4, a5⟩ := mkloop (m_l_markPatS_l1 N) (HdTPat N) cntTPat LimTPat cntTPat_nn (fun n s k i x hx hi hlt h0 h1 h => by
  unfold big62 at h1
  have hcnt : cntTPat x = 1 + cntL cntTArg x.Args + 1 := rfl
  rw [hcnt] at h1
  have n1 := cntL_nn cntTArg_nn x.Args
  obtain ⟨t0, m0⟩ := mtx hN k (by omega) (by unfold big62; omega)
  have e0 : IntKind.i64.wrap (k + 1) = k + 1 := wr (by omega) (by omega)
  obtain ⟨y1, m1, c1, d1, l1⟩ := mk_m_l_markArgS hN x.Args (h) (k + 1) (by omega) (by unfold big62; omega)
  have e2 : IntKind.i64.wrap (((k + 1) + cntL cntTArg x.Args) + 1) = ((k + 1) + cntL cntTArg x.Args) + 1 := wr (by omega) (by omega)
  have cc : decide ((i : Int) < (s.length : Int)) = true := decide_eq_true hlt
  refine ⟨(⟨t0, y1, decide (((k + 1) + cntL cntTArg x.Args).tmod 3 = 0)⟩ : TPat), ?_, ?_, ?_, ?_⟩
  ·simp only [HdTPat, c1]; exact ⟨m0, d1, (by trivial)⟩
  ·simp only [cntTPat, c1]
  ·exact l1
  ·have hp : (((k + 1) + cntL cntTArg x.Args) + 1) = k + cntTPat x := by omega
   rw [← hp, ← wr1 i (by omega)]
   simp only [m_l_markPatS_l1, cc, if_true, show idx s (i : Int) = some x from by rw [idx_nat, hx], Option.bind_some, Int.toNat_natCast, m0, e0, m1, e2])
  (fun n s k i hi => by simp only [m_l_markPatS_l1]; rw [if_neg (by simpa using hi)]) N 0 x k hl (by omega) (by omega) h0 (by simpa using h1) (h.2)
 simp only [List.drop_zero, List.take_zero, List.nil_append] at a1 a3
 exact ⟨ys, a1, a3, a4, ⟨by omega, a5⟩⟩
theorem hd_m_l_heldPatS {N : Nat} (hN : 1099000000000 ≤ N) (x : (List TPat)) (h : (x.length ≤ 4294967296 ∧ ∀ y ∈ x, LimTPat y)) (k : Int) (h0 : 0 ≤ k) (h1 : k + cntL cntTPat x ≤ big62) (hh : HdL (HdTPat N) cntTPat x k) : m_l_heldPatS N x k = some (k + cntL cntTPat x) := by
 have hl : x.length ≤ 4294967296 := h.1
 have := hdloop (m_l_heldPatS_l1 N x) x (HdTPat N) cntTPat LimTPat cntTPat_nn hl (h.2) (fun n k i y hx hi hlt h0 h1 h hy => by
  unfold big62 at h1
  have hcnt : cntTPat y = 1 + cntL cntTArg y.Args + 1 := rfl
  rw [hcnt] at h1
  have n1 := cntL_nn cntTArg_nn y.Args
  have e0 : IntKind.i64.wrap (k + 1) = k + 1 := wr (by omega) (by omega)
  have a1 : 0 ≤ (k + 1) := by omega
  have d1 : (k + 1) + cntL cntTArg y.Args ≤ big62 := by unfold big62; omega
  have p1 : decide (((k + 1) + cntL cntTArg y.Args) < 0) = false := decide_eq_false (by omega)
  have e2 : IntKind.i64.wrap (((k + 1) + cntL cntTArg y.Args) + 1) = ((k + 1) + cntL cntTArg y.Args) + 1 := wr (by omega) (by omega)
  have cc : decide ((i : Int) < (x.length : Int)) = true := decide_eq_true hlt
  have hp : (((k + 1) + cntL cntTArg y.Args) + 1) = k + cntTPat y := by omega
  obtain ⟨q0, q1, q2⟩ := hy
  have m1 := hd_m_l_heldArgS hN y.Args (h) (k + 1) a1 d1 q1
  rw [← hp, ← wr1 i (by omega)]
  have hb : ∀ {β : Type} (f : TPat → Option β), (idx x (i : Int)).bind f = f y := fun f => by rw [idx_nat, hx]; rfl
  have bq0 := fun (β : Type) => @bs_of _ _ _ q0 β
  have bm1 := fun (β : Type) => @bs_of _ _ _ m1 β
  simp only [m_l_heldPatS_l1, cc, if_true]
  simp only [e0, e2]
  simp only [↓hb, ↓bq0, ↓bm1, ↓reduceIte, seq_self, decide_true, Bool.not_true, Bool.false_eq_true, bne_self_eq_false, p1, q2, e0, e2])
  (fun n k i hi => by simp only [m_l_heldPatS_l1]; rw [if_neg (by simpa using hi)]) N 0 k (by omega) (by omega) h0 (by simpa using h1) (by simpa using hh)
 unfold m_l_heldPatS; simpa using this
theorem mk_m_l_markCondS {N : Nat} (hN : 1099000000000 ≤ N) (x : (List TCond)) (h : (x.length ≤ 4294967296)) (k : Int) (h0 : 0 ≤ k) (h1 : k + cntL cntTCond x ≤ big62) : ∃ ys, m_l_markCondS N x k = some (k + cntL cntTCond x, ys) ∧ cntL cntTCond ys = cntL cntTCond x ∧ HdL (HdTCond N) cntTCond ys k ∧ (ys.length ≤ 4294967296) := by
 have hl : x.length ≤ 4294967296 := h
 obtain ⟨ys, a1, a2, a3, a4, a5⟩ := mkloop (m_l_markCondS_l1 N) (HdTCond N) cntTCond (fun _ => True) cntTCond_nn (fun n s k i x hx hi hlt h0 h1 h => by
  unfold big62 at h1
  have hcnt : cntTCond x = 1 + 1 + 1 + 1 + 1 + 1 + 1 + 1 + 1 + 1 + 1 := rfl
  rw [hcnt] at h1
  have e0 : IntKind.i64.wrap (k + 1) = k + 1 := wr (by omega) (by omega)
  have e1 : IntKind.i64.wrap ((k + 1) + 1) = (k + 1) + 1 := wr (by omega) (by omega)
  obtain ⟨t2, m2⟩ := mtx hN ((k + 1) + 1) (by omega) (by unfold big62; omega)
  have e2 : IntKind.i64.wrap (((k + 1) + 1) + 1) = ((k + 1) + 1) + 1 := wr (by omega) (by omega)
  have e3 : IntKind.i64.wrap ((((k + 1) + 1) + 1) + 1) = (((k + 1) + 1) + 1) + 1 := wr (by omega) (by omega)
  have e4 : IntKind.i64.wrap (((((k + 1) + 1) + 1) + 1) + 1) = ((((k + 1) + 1) + 1) + 1) + 1 := wr (by omega) (by omega)
  obtain ⟨t5, m5⟩ := mtx hN (((((k + 1) + 1) + 1) + 1) + 1) (by omega) (by unfold big62; omega)
  have e5 : IntKind.i64.wrap ((((((k + 1) + 1) + 1) + 1) + 1) + 1) = (((((k + 1) + 1) + 1) + 1) + 1) + 1 := wr (by omega) (by omega)
  have e6 : IntKind.i64.wrap (((((((k + 1) + 1) + 1) + 1) + 1) + 1) + 1) = ((((((k + 1) + 1) + 1) + 1) + 1) + 1) + 1 := wr (by omega) (by omega)
  obtain ⟨t7, m7⟩ := mtx hN (((((((k + 1) + 1) + 1) + 1) + 1) + 1) + 1) (by omega) (by unfold big62; omega)
  have e7 : IntKind.i64.wrap ((((((((k + 1) + 1) + 1) + 1) + 1) + 1) + 1) + 1) = (((((((k + 1) + 1) + 1) + 1) + 1) + 1) + 1) + 1 := wr (by omega) (by omega)
  have e8 : IntKind.i64.wrap (((((((((k + 1) + 1) + 1) + 1) + 1) + 1) + 1) + 1) + 1) = ((((((((k + 1) + 1) + 1) + 1) + 1) + 1) + 1) + 1) + 1 := wr (by omega) (by omega)
  have e9 : IntKind.i64.wrap ((((((((((k + 1) + 1) + 1) + 1) + 1) + 1) + 1) + 1) + 1) + 1) = (((((((((k + 1) + 1) + 1) + 1) + 1) + 1) + 1) + 1) + 1) + 1 := wr (by omega) (by omega)
  obtain ⟨t10, m10⟩ := mtx hN ((((((((((k + 1) + 1) + 1) + 1) + 1) + 1) + 1) + 1) + 1) + 1) (by omega) (by unfold big62; omega)
  have e10 : IntKind.i64.wrap (((((((((((k + 1) + 1) + 1) + 1) + 1) + 1) + 1) + 1) + 1) + 1) + 1) = ((((((((((k + 1) + 1) + 1) + 1) + 1) + 1) + 1) + 1) + 1) + 1) + 1 := wr (by omega) (by omega)
  have cc : decide ((i : Int) < (s.length : Int)) = true := decide_eq_true hlt
  refine ⟨(⟨k, (⟨(k + 1), t2, (⟨(((k + 1) + 1) + 1), ((((k + 1) + 1) + 1) + 1), t5⟩ : TVal)⟩ : TArg), (⟨((((((k + 1) + 1) + 1) + 1) + 1) + 1), t7, (⟨((((((((k + 1) + 1) + 1) + 1) + 1) + 1) + 1) + 1), (((((((((k + 1) + 1) + 1) + 1) + 1) + 1) + 1) + 1) + 1), t10⟩ : TVal)⟩ : TArg)⟩ : TCond), ?_, ?_, ?_, ?_⟩
  ·exact ⟨(by trivial), (by trivial), m2, (by trivial), (by trivial), m5, (by trivial), m7, (by trivial), (by trivial), m10⟩
  ·simp only [cntTCond]
  ·exact trivial
  ·have hp : (((((((((((k + 1) + 1) + 1) + 1) + 1) + 1) + 1) + 1) + 1) + 1) + 1) = k + cntTCond x := by omega
   rw [← hp, ← wr1 i (by omega)]
   simp only [m_l_markCondS_l1, cc, if_true, show idx s (i : Int) = some x from by rw [idx_nat, hx], Option.bind_some, Int.toNat_natCast, e0, e1, m2, e2, e3, e4, m5, e5, e6, m7, e7, e8, e9, m10, e10])
  (fun n s k i hi => by simp only [m_l_markCondS_l1]; rw [if_neg (by simpa using hi)]) N 0 x k hl (by omega) (by omega) h0 (by simpa using h1) (fun _ _ => trivial)
 simp only [List.drop_zero, List.take_zero, List.nil_append] at a1 a3
 exact ⟨ys, a1, a3, a4, by omega⟩
theorem hd_m_l_heldCondS {N : Nat} (hN : 1099000000000 ≤ N) (x : (List TCond)) (h : (x.length ≤ 4294967296)) (k : Int) (h0 : 0 ≤ k) (h1 : k + cntL cntTCond x ≤ big62) (hh : HdL (HdTCond N) cntTCond x k) : m_l_heldCondS N x k = some (k + cntL cntTCond x) := by
 have hl : x.length ≤ 4294967296 := h
 have := hdloop (m_l_heldCondS_l1 N x) x (HdTCond N) cntTCond (fun _ => True) cntTCond_nn hl (fun _ _ => trivial) (fun n k i y hx hi hlt h0 h1 h hy => by
  unfold big62 at h1
  have hcnt : cntTCond y = 1 + 1 + 1 + 1 + 1 + 1 + 1 + 1 + 1 + 1 + 1 := rfl
  rw [hcnt] at h1
  have e0 : IntKind.i64.wrap (k + 1) = k + 1 := wr (by omega) (by omega)
  have e1 : IntKind.i64.wrap ((k + 1) + 1) = (k + 1) + 1 := wr (by omega) (by omega)
  have e2 : IntKind.i64.wrap (((k + 1) + 1) + 1) = ((k + 1) + 1) + 1 := wr (by omega) (by omega)
  have e3 : IntKind.i64.wrap ((((k + 1) + 1) + 1) + 1) = (((k + 1) + 1) + 1) + 1 := wr (by omega) (by omega)
  have e4 : IntKind.i64.wrap (((((k + 1) + 1) + 1) + 1) + 1) = ((((k + 1) + 1) + 1) + 1) + 1 := wr (by omega) (by omega)
  have e5 : IntKind.i64.wrap ((((((k + 1) + 1) + 1) + 1) + 1) + 1) = (((((k + 1) + 1) + 1) + 1) + 1) + 1 := wr (by omega) (by omega)
  have e6 : IntKind.i64.wrap (((((((k + 1) + 1) + 1) + 1) + 1) + 1) + 1) = ((((((k + 1) + 1) + 1) + 1) + 1) + 1) + 1 := wr (by omega) (by omega)
  have e7 : IntKind.i64.wrap ((((((((k + 1) + 1) + 1) + 1) + 1) + 1) + 1) + 1) = (((((((k + 1) + 1) + 1) + 1) + 1) + 1) + 1) + 1 := wr (by omega) (by omega)
  have e8 : IntKind.i64.wrap (((((((((k + 1) + 1) + 1) + 1) + 1) + 1) + 1) + 1) + 1) = ((((((((k + 1) + 1) + 1) + 1) + 1) + 1) + 1) + 1) + 1 := wr (by omega) (by omega)
  have e9 : IntKind.i64.wrap ((((((((((k + 1) + 1) + 1) + 1) + 1) + 1) + 1) + 1) + 1) + 1) = (((((((((k + 1) + 1) + 1) + 1) + 1) + 1) + 1) + 1) + 1) + 1 := wr (by omega) (by omega)
  have e10 : IntKind.i64.wrap (((((((((((k + 1) + 1) + 1) + 1) + 1) + 1) + 1) + 1) + 1) + 1) + 1) = ((((((((((k + 1) + 1) + 1) + 1) + 1) + 1) + 1) + 1) + 1) + 1) + 1 := wr (by omega) (by omega)
  have cc : decide ((i : Int) < (x.length : Int)) = true := decide_eq_true hlt
  have hp : (((((((((((k + 1) + 1) + 1) + 1) + 1) + 1) + 1) + 1) + 1) + 1) + 1) = k + cntTCond y := by omega
  obtain ⟨q0, q1, q2, q3, q4, q5, q6, q7, q8, q9, q10⟩ := hy
  rw [← hp, ← wr1 i (by omega)]
  have hb : ∀ {β : Type} (f : TCond → Option β), (idx x (i : Int)).bind f = f y := fun f => by rw [idx_nat, hx]; rfl
  have bq2 := fun (β : Type) => @bs_of _ _ _ q2 β
  have bq5 := fun (β : Type) => @bs_of _ _ _ q5 β
  have bq7 := fun (β : Type) => @bs_of _ _ _ q7 β
  have bq10 := fun (β : Type) => @bs_of _ _ _ q10 β
  simp only [m_l_heldCondS_l1, cc, if_true]
  simp only [e0, e1, e2, e3, e4, e5, e6, e7, e8, e9, e10]
  simp only [↓hb, ↓bq2, ↓bq5, ↓bq7, ↓bq10, ↓reduceIte, seq_self, decide_true, Bool.not_true, Bool.false_eq_true, bne_self_eq_false, q0, q1, q3, q4, q6, q8, q9, e0, e1, e2, e3, e4, e5, e6, e7, e8, e9, e10])
  (fun n k i hi => by simp only [m_l_heldCondS_l1]; rw [if_neg (by simpa using hi)]) N 0 k (by omega) (by omega) h0 (by simpa using h1) (by simpa using hh)
 unfold m_l_heldCondS; simpa using this
theorem mk_m_l_markExprS {N : Nat} (hN : 1099000000000 ≤ N) (x : (List TExpr)) (h : (x.length ≤ 4294967296)) (k : Int) (h0 : 0 ≤ k) (h1 : k + cntL cntTExpr x ≤ big62) : ∃ ys, m_l_markExprS N x k = some (k + cntL cntTExpr x, ys) ∧ cntL cntTExpr ys = cntL cntTExpr x ∧ HdL (HdTExpr N) cntTExpr ys k ∧ (ys.length ≤ 4294967296) := by
 have hl : x.length ≤ 4294967296 := h
 obtain ⟨ys, a1, a2, a3, a4, a5⟩ := mkloop (m_l_markExprS_l1 N) (HdTExpr N) cntTExpr (fun _ => True) cntTExpr_nn (fun n s k i x hx hi hlt h0 h1 h => by
  unfold big62 at h1
  have hcnt : cntTExpr x = 1 + 1 + 1 + 1 + 1 + 1 + 1 + 1 + 1 + 1 + 1 := rfl
  rw [hcnt] at h1
  obtain ⟨t0, m0⟩ := mtx hN k (by omega) (by unfold big62; omega)
  have e0 : IntKind.i64.wrap (k + 1) = k + 1 := wr (by omega) (by omega)
  have e1 : IntKind.i64.wrap ((k + 1) + 1) = (k + 1) + 1 := wr (by omega) (by omega)
  obtain ⟨t2, m2⟩ := mtx hN ((k + 1) + 1) (by omega) (by unfold big62; omega)
  have e2 : IntKind.i64.wrap (((k + 1) + 1) + 1) = ((k + 1) + 1) + 1 := wr (by omega) (by omega)
  have e3 : IntKind.i64.wrap ((((k + 1) + 1) + 1) + 1) = (((k + 1) + 1) + 1) + 1 := wr (by omega) (by omega)
  have e4 : IntKind.i64.wrap (((((k + 1) + 1) + 1) + 1) + 1) = ((((k + 1) + 1) + 1) + 1) + 1 := wr (by omega) (by omega)
  obtain ⟨t5, m5⟩ := mtx hN (((((k + 1) + 1) + 1) + 1) + 1) (by omega) (by unfold big62; omega)
  have e5 : IntKind.i64.wrap ((((((k + 1) + 1) + 1) + 1) + 1) + 1) = (((((k + 1) + 1) + 1) + 1) + 1) + 1 := wr (by omega) (by omega)
  have e6 : IntKind.i64.wrap (((((((k + 1) + 1) + 1) + 1) + 1) + 1) + 1) = ((((((k + 1) + 1) + 1) + 1) + 1) + 1) + 1 := wr (by omega) (by omega)
  obtain ⟨t7, m7⟩ := mtx hN (((((((k + 1) + 1) + 1) + 1) + 1) + 1) + 1) (by omega) (by unfold big62; omega)
  have e7 : IntKind.i64.wrap ((((((((k + 1) + 1) + 1) + 1) + 1) + 1) + 1) + 1) = (((((((k + 1) + 1) + 1) + 1) + 1) + 1) + 1) + 1 := wr (by omega) (by omega)
  have e8 : IntKind.i64.wrap (((((((((k + 1) + 1) + 1) + 1) + 1) + 1) + 1) + 1) + 1) = ((((((((k + 1) + 1) + 1) + 1) + 1) + 1) + 1) + 1) + 1 := wr (by omega) (by omega)
  have e9 : IntKind.i64.wrap ((((((((((k + 1) + 1) + 1) + 1) + 1) + 1) + 1) + 1) + 1) + 1) = (((((((((k + 1) + 1) + 1) + 1) + 1) + 1) + 1) + 1) + 1) + 1 := wr (by omega) (by omega)
  obtain ⟨t10, m10⟩ := mtx hN ((((((((((k + 1) + 1) + 1) + 1) + 1) + 1) + 1) + 1) + 1) + 1) (by omega) (by unfold big62; omega)
  have e10 : IntKind.i64.wrap (((((((((((k + 1) + 1) + 1) + 1) + 1) + 1) + 1) + 1) + 1) + 1) + 1) = ((((((((((k + 1) + 1) + 1) + 1) + 1) + 1) + 1) + 1) + 1) + 1) + 1 := wr (by omega) (by omega)
  have cc : decide ((i : Int) < (s.length : Int)) = true := decide_eq_true hlt
  refine ⟨(⟨t0, (⟨(k + 1), t2, (⟨(((k + 1) + 1) + 1), ((((k + 1) + 1) + 1) + 1), t5⟩ : TVal)⟩ : TArg), (⟨((((((k + 1) + 1) + 1) + 1) + 1) + 1), t7, (⟨((((((((k + 1) + 1) + 1) + 1) + 1) + 1) + 1) + 1), (((((((((k + 1) + 1) + 1) + 1) + 1) + 1) + 1) + 1) + 1), t10⟩ : TVal)⟩ : TArg)⟩ : TExpr), ?_, ?_, ?_, ?_⟩
  ·exact ⟨m0, (by trivial), m2, (by trivial), (by trivial), m5, (by trivial), m7, (by trivial), (by trivial), m10⟩
  ·simp only [cntTExpr]
  ·exact trivial
  ·have hp : (((((((((((k + 1) + 1) + 1) + 1) + 1) + 1) + 1) + 1) + 1) + 1) + 1) = k + cntTExpr x := by omega
   rw [← hp, ← wr1 i (by omega)]
   simp only [m_l_markExprS_l1, cc, if_true, show idx s (i : Int) = some x from by rw [idx_nat, hx], Option.bind_some, Int.toNat_natCast, m0, e0, e1, m2, e2, e3, e4, m5, e5, e6, m7, e7, e8, e9, m10, e10])
  (fun n s k i hi => by simp only [m_l_markExprS_l1]; rw [if_neg (by simpa using hi)]) N 0 x k hl (by omega) (by omega) h0 (by simpa using h1) (fun _ _ => trivial)
 simp only [List.drop_zero, List.take_zero, List.nil_append] at a1 a3
 exact ⟨ys, a1, a3, a4, by omega⟩
theorem hd_m_l_heldExprS {N : Nat} (hN : 1099000000000 ≤ N) (x : (List TExpr)) (h : (x.length ≤ 4294967296)) (k : Int) (h0 : 0 ≤ k) (h1 : k + cntL cntTExpr x ≤ big62) (hh : HdL (HdTExpr N) cntTExpr x k) : m_l_heldExprS N x k = some (k + cntL cntTExpr x) := by
 have hl : x.length ≤ 4294967296 := h
 have := hdloop (m_l_heldExprS_l1 N x) x (HdTExpr N) cntTExpr (fun _ => True) cntTExpr_nn hl (fun _ _ => trivial) (fun n k i y hx hi hlt h0 h1 h hy => by
  unfold big62 at h1
  have hcnt : cntTExpr y = 1 + 1 + 1 + 1 + 1 + 1 + 1 + 1 + 1 + 1 + 1 := rfl
  rw [hcnt] at h1
  have e0 : IntKind.i64.wrap (k + 1) = k + 1 := wr (by omega) (by omega)
  have e1 : IntKind.i64.wrap ((k + 1) + 1) = (k + 1) + 1 := wr (by omega) (by omega)
  have e2 : IntKind.i64.wrap (((k + 1) + 1) + 1) = ((k + 1) + 1) + 1 := wr (by omega) (by omega)
  have e3 : IntKind.i64.wrap ((((k + 1) + 1) + 1) + 1) = (((k + 1) + 1) + 1) + 1 := wr (by omega) (by omega)
  have e4 : IntKind.i64.wrap (((((k + 1) + 1) + 1) + 1) + 1) = ((((k + 1) + 1) + 1) + 1) + 1 := wr (by omega) (by omega)
  have e5 : IntKind.i64.wrap ((((((k + 1) + 1) + 1) + 1) + 1) + 1) = (((((k + 1) + 1) + 1) + 1) + 1) + 1 := wr (by omega) (by omega)
  have e6 : IntKind.i64.wrap (((((((k + 1) + 1) + 1) + 1) + 1) + 1) + 1) = ((((((k + 1) + 1) + 1) + 1) + 1) + 1) + 1 := wr (by omega) (by omega)
  have e7 : IntKind.i64.wrap ((((((((k + 1) + 1) + 1) + 1) + 1) + 1) + 1) + 1) = (((((((k + 1) + 1) + 1) + 1) + 1) + 1) + 1) + 1 := wr (by omega) (by omega)
  have e8 : IntKind.i64.wrap (((((((((k + 1) + 1) + 1) + 1) + 1) + 1) + 1) + 1) + 1) = ((((((((k + 1) + 1) + 1) + 1) + 1) + 1) + 1) + 1) + 1 := wr (by omega) (by omega)
  have e9 : IntKind.i64.wrap ((((((((((k + 1) + 1) + 1) + 1) + 1) + 1) + 1) + 1) + 1) + 1) = (((((((((k + 1) + 1) + 1) + 1) + 1) + 1) + 1) + 1) + 1) + 1 := wr (by omega) (by omega)
  have e10 : IntKind.i64.wrap (((((((((((k + 1) + 1) + 1) + 1) + 1) + 1) + 1) + 1) + 1) + 1) + 1) = ((((((((((k + 1) + 1) + 1) + 1) + 1) + 1) + 1) + 1) + 1) + 1) + 1 := wr (by omega) (by omega)
  have cc : decide ((i : Int) < (x.length : Int)) = true := decide_eq_true hlt
  have hp : (((((((((((k + 1) + 1) + 1) + 1) + 1) + 1) + 1) + 1) + 1) + 1) + 1) = k + cntTExpr y := by omega
  obtain ⟨q0, q1, q2, q3, q4, q5, q6, q7, q8, q9, q10⟩ := hy
  rw [← hp, ← wr1 i (by omega)]
  have hb : ∀ {β : Type} (f : TExpr → Option β), (idx x (i : Int)).bind f = f y := fun f => by rw [idx_nat, hx]; rfl
  have bq0 := fun (β : Type) => @bs_of _ _ _ q0 β
  have bq2 := fun (β : Type) => @bs_of _ _ _ q2 β
  have bq5 := fun (β : Type) => @bs_of _ _ _ q5 β
  have bq7 := fun (β : Type) => @bs_of _ _ _ q7 β
  have bq10 := fun (β : Type) => @bs_of _ _ _ q10 β
  simp only [m_l_heldExprS_l1, cc, if_true]
  simp only [e0, e1, e2, e3, e4, e5, e6, e7, e8, e9, e10]
  simp only [↓hb, ↓bq0, ↓bq2, ↓bq5, ↓bq7, ↓bq10, ↓reduceIte, seq_self, decide_true, Bool.not_true, Bool.false_eq_true, bne_self_eq_false, q1, q3, q4, q6, q8, q9, e0, e1, e2, e3, e4, e5, e6, e7, e8, e9, e10])
  (fun n k i hi => by simp only [m_l_heldExprS_l1]; rw [if_neg (by simpa using hi)]) N 0 k (by omega) (by omega) h0 (by simpa using h1) (by simpa using hh)
 unfold m_l_heldExprS; simpa using this
theorem mk_m_l_markActS {N : Nat} (hN : 1099000000000 ≤ N) (x : (List TAct)) (h : (x.length ≤ 4294967296 ∧ ∀ y ∈ x, LimTAct y)) (k : Int) (h0 : 0 ≤ k) (h1 : k + cntL cntTAct x ≤ big62) : ∃ ys, m_l_markActS N x k = some (k + cntL cntTAct x, ys) ∧ cntL cntTAct ys = cntL cntTAct x ∧ HdL (HdTAct N) cntTAct ys k ∧ (ys.length ≤ 4294967296 ∧ ∀ y ∈ ys, LimTAct y) := by
 have hl : x.length ≤ 4294967296 := h.1
 obtain ⟨ys, a1, a2, a3, a4, a5⟩ := mkloop (m_l_markActS_l1 N) (HdTAct N) cntTAct LimTAct cntTAct_nn (fun n s k i x hx hi hlt h0 h1 h => by
  unfold big62 at h1
  have hcnt : cntTAct x = 1 + 1 + cntL cntTExpr x.Args + 1 + 1 := rfl
  rw [hcnt] at h1
  have n2 := cntL_nn cntTExpr_nn x.Args
  have e0 : IntKind.i64.wrap (k + 1) = k + 1 := wr (by omega) (by omega)
  obtain ⟨t1, m1⟩ := mtx hN (k + 1) (by omega) (by unfold big62; omega)
  have e1 : IntKind.i64.wrap ((k + 1) + 1) = (k + 1) + 1 := wr (by omega) (by omega)
  obtain ⟨y2, m2, c2, d2, l2⟩ := mk_m_l_markExprS hN x.Args (h) ((k + 1) + 1) (by omega) (by unfold big62; omega)
  have e3 : IntKind.i64.wrap ((((k + 1) + 1) + cntL cntTExpr x.Args) + 1) = (((k + 1) + 1) + cntL cntTExpr x.Args) + 1 := wr (by omega) (by omega)
  obtain ⟨t4, m4⟩ := mtx hN ((((k + 1) + 1) + cntL cntTExpr x.Args) + 1) (by omega) (by unfold big62; omega)
  have e4 : IntKind.i64.wrap (((((k + 1) + 1) + cntL cntTExpr x.Args) + 1) + 1) = ((((k + 1) + 1) + cntL cntTExpr x.Args) + 1) + 1 := wr (by omega) (by omega)
  have cc : decide ((i : Int) < (s.length : Int)) = true := decide_eq_true hlt
  refine ⟨(⟨k, t1, y2, (((k + 1) + 1) + cntL cntTExpr x.Args), t4⟩ : TAct), ?_, ?_, ?_, ?_⟩
  ·simp only [HdTAct, c2]; exact ⟨(by trivial), m1, d2, (by trivial), m4⟩
  ·simp only [cntTAct, c2]
  ·exact l2
  ·have hp : (((((k + 1) + 1) + cntL cntTExpr x.Args) + 1) + 1) = k + cntTAct x := by omega
   rw [← hp, ← wr1 i (by omega)]
   simp only [m_l_markActS_l1, cc, if_true, show idx s (i : Int) = some x from by rw [idx_nat, hx], Option.bind_some, Int.toNat_natCast, e0, m1, e1, m2, e3, m4, e4])
  (fun n s k i hi => by simp only [m_l_markActS_l1]; rw [if_neg (by simpa using hi)]) N 0 x k hl (by omega) (by omega) h0 (by simpa using h1) (h.2)
 simp only [List.drop_zero, List.take_zero, List.nil_append] at a1 a3
 exact ⟨ys, a1, a3, a4, ⟨by omega, a5⟩⟩
theorem hd_m_l_heldActS {N : Nat} (hN : 1099000000000 ≤ N) (x : (List TAct)) (h : (x.length ≤ 4294967296 ∧ ∀ y ∈ x, LimTAct y)) (k : Int) (h0 : 0 ≤ k) (h1 : k + cntL cntTAct x ≤ big62) (hh : HdL (HdTAct N) cntTAct x k) : m_l_heldActS N x k = some (k + cntL cntTAct x) := by
 have hl : x.length ≤ 4294967296 := h.1
 have := hdloop (m_l_heldActS_l1 N x) x (HdTAct N) cntTAct LimTAct cntTAct_nn hl (h.2) (fun n k i y hx hi hlt h0 h1 h hy => by
  unfold big62 at h1
  have hcnt : cntTAct y = 1 + 1 + cntL cntTExpr y.Args + 1 + 1 := rfl
  rw [hcnt] at h1
  have n2 := cntL_nn cntTExpr_nn y.Args
  have e0 : IntKind.i64.wrap (k + 1) = k + 1 := wr (by omega) (by omega)
  have e1 : IntKind.i64.wrap ((k + 1) + 1) = (k + 1) + 1 := wr (by omega) (by omega)
  have a2 : 0 ≤ ((k + 1) + 1) := by omega
  have d2 : ((k + 1) + 1) + cntL cntTExpr y.Args ≤ big62 := by unfold big62; omega
  have p2 : decide ((((k + 1) + 1) + cntL cntTExpr y.Args) < 0) = false := decide_eq_false (by omega)
  have e3 : IntKind.i64.wrap ((((k + 1) + 1) + cntL cntTExpr y.Args) + 1) = (((k + 1) + 1) + cntL cntTExpr y.Args) + 1 := wr (by omega) (by omega)
  have e4 : IntKind.i64.wrap (((((k + 1) + 1) + cntL cntTExpr y.Args) + 1) + 1) = ((((k + 1) + 1) + cntL cntTExpr y.Args) + 1) + 1 := wr (by omega) (by omega)
  have cc : decide ((i : Int) < (x.length : Int)) = true := decide_eq_true hlt
  have hp : (((((k + 1) + 1) + cntL cntTExpr y.Args) + 1) + 1) = k + cntTAct y := by omega
  obtain ⟨q0, q1, q2, q3, q4⟩ := hy
  have m2 := hd_m_l_heldExprS hN y.Args (h) ((k + 1) + 1) a2 d2 q2
  rw [← hp, ← wr1 i (by omega)]
  have hb : ∀ {β : Type} (f : TAct → Option β), (idx x (i : Int)).bind f = f y := fun f => by rw [idx_nat, hx]; rfl
  have bq1 := fun (β : Type) => @bs_of _ _ _ q1 β
  have bm2 := fun (β : Type) => @bs_of _ _ _ m2 β
  have bq4 := fun (β : Type) => @bs_of _ _ _ q4 β
  simp only [m_l_heldActS_l1, cc, if_true]
  simp only [e0, e1, e3, e4]
  simp only [↓hb, ↓bq1, ↓bm2, ↓bq4, ↓reduceIte, seq_self, decide_true, Bool.not_true, Bool.false_eq_true, bne_self_eq_false, q0, p2, q3, e0, e1, e3, e4])
  (fun n k i hi => by simp only [m_l_heldActS_l1]; rw [if_neg (by simpa using hi)]) N 0 k (by omega) (by omega) h0 (by simpa using h1) (by simpa using hh)
 unfold m_l_heldActS; simpa using this
theorem mk_m_l_markRuleS {N : Nat} (hN : 1099000000000 ≤ N) (x : (List TRule)) (h : (x.length ≤ 4294967296 ∧ ∀ y ∈ x, LimTRule y)) (k : Int) (h0 : 0 ≤ k) (h1 : k + cntL cntTRule x ≤ big62) : ∃ ys, m_l_markRuleS N x k = some (k + cntL cntTRule x, ys) ∧ cntL cntTRule ys = cntL cntTRule x ∧ HdL (HdTRule N) cntTRule ys k ∧ (ys.length ≤ 4294967296 ∧ ∀ y ∈ ys, LimTRule y) := by
 have hl : x.length ≤ 4294967296 := h.1
 obtain ⟨ys, a1, a2, a3, a4, a5⟩ := mkloop (m_l_markRuleS_l1 N) (HdTRule N) cntTRule LimTRule cntTRule_nn (fun n s k i x hx hi hlt h0 h1 h => by
  unfold big62 at h1
  have hcnt : cntTRule x = 1 + 1 + cntL cntTPat x.Pats + cntL cntTCond x.Conds + cntL cntTAct x.Acts := rfl
  rw [hcnt] at h1
  have n2 := cntL_nn cntTPat_nn x.Pats
  have n3 := cntL_nn cntTCond_nn x.Conds
  have n4 := cntL_nn cntTAct_nn x.Acts
  obtain ⟨t0, m0⟩ := mtx hN k (by omega) (by unfold big62; omega)
  have e0 : IntKind.i64.wrap (k + 1) = k + 1 := wr (by omega) (by omega)
  have e1 : IntKind.i64.wrap ((k + 1) + 1) = (k + 1) + 1 := wr (by omega) (by omega)
  obtain ⟨y2, m2, c2, d2, l2⟩ := mk_m_l_markPatS hN x.Pats (h.1) ((k + 1) + 1) (by omega) (by unfold big62; omega)
  obtain ⟨y3, m3, c3, d3, l3⟩ := mk_m_l_markCondS hN x.Conds (h.2.1) (((k + 1) + 1) + cntL cntTPat x.Pats) (by omega) (by unfold big62; omega)
  obtain ⟨y4, m4, c4, d4, l4⟩ := mk_m_l_markActS hN x.Acts (h.2.2) ((((k + 1) + 1) + cntL cntTPat x.Pats) + cntL cntTCond x.Conds) (by omega) (by unfold big62; omega)
  have cc : decide ((i : Int) < (s.length : Int)) = true := decide_eq_true hlt
  refine ⟨(⟨t0, (k + 1), y2, y3, y4⟩ : TRule), ?_, ?_, ?_, ?_⟩
  ·simp only [HdTRule, c2, c3, c4]; exact ⟨m0, (by trivial), d2, d3, d4⟩
  ·simp only [cntTRule, c2, c3, c4]
  ·exact ⟨l2, l3, l4⟩
  ·have hp : (((((k + 1) + 1) + cntL cntTPat x.Pats) + cntL cntTCond x.Conds) + cntL cntTAct x.Acts) = k + cntTRule x := by omega
   rw [← hp, ← wr1 i (by omega)]
   simp only [m_l_markRuleS_l1, cc, if_true, show idx s (i : Int) = some x from by rw [idx_nat, hx], Option.bind_some, Int.toNat_natCast, m0, e0, e1, m2, m3, m4])
  (fun n s k i hi => by simp only [m_l_markRuleS_l1]; rw [if_neg (by simpa using hi)]) N 0 x k hl (by omega) (by omega) h0 (by simpa using h1) (h.2)
 simp only [List.drop_zero, List.take_zero, List.nil_append] at a1 a3
 exact ⟨ys, a1, a3, a4, ⟨by omega, a5⟩⟩
theorem hd_m_l_heldRuleS {N : Nat} (hN : 1099000000000 ≤ N) (x : (List TRule)) (h : (x.length ≤ 4294967296 ∧ ∀ y ∈ x, LimTRule y)) (k : Int) (h0 : 0 ≤ k) (h1 : k + cntL cntTRule x ≤ big62) (hh : HdL (HdTRule N) cntTRule x k) : m_l_heldRuleS N x k = some (k + cntL cntTRule x) := by
 have hl : x.length ≤ 4294967296 := h.1
 have := hdloop (m_l_heldRuleS_l1 N x) x (HdTRule N) cntTRule LimTRule cntTRule_nn hl (h.2) (fun n k i y hx hi hlt h0 h1 h hy => by
  unfold big62 at h1
  have hcnt : cntTRule y = 1 + 1 + cntL cntTPat y.Pats + cntL cntTCond y.Conds + cntL cntTAct y.Acts := rfl
  rw [hcnt] at h1
  have n2 := cntL_nn cntTPat_nn y.Pats
  have n3 := cntL_nn cntTCond_nn y.Conds
  have n4 := cntL_nn cntTAct_nn y.Acts
  have e0 : IntKind.i64.wrap (k + 1) = k + 1 := wr (by omega) (by omega)
  have e1 : IntKind.i64.wrap ((k + 1) + 1) = (k + 1) + 1 := wr (by omega) (by omega)
  have a2 : 0 ≤ ((k + 1) + 1) := by omega
  have d2 : ((k + 1) + 1) + cntL cntTPat y.Pats ≤ big62 := by unfold big62; omega
  have p2 : decide ((((k + 1) + 1) + cntL cntTPat y.Pats) < 0) = false := decide_eq_false (by omega)
  have a3 : 0 ≤ (((k + 1) + 1) + cntL cntTPat y.Pats) := by omega
  have d3 : (((k + 1) + 1) + cntL cntTPat y.Pats) + cntL cntTCond y.Conds ≤ big62 := by unfold big62; omega
  have p3 : decide (((((k + 1) + 1) + cntL cntTPat y.Pats) + cntL cntTCond y.Conds) < 0) = false := decide_eq_false (by omega)
  have a4 : 0 ≤ ((((k + 1) + 1) + cntL cntTPat y.Pats) + cntL cntTCond y.Conds) := by omega
  have d4 : ((((k + 1) + 1) + cntL cntTPat y.Pats) + cntL cntTCond y.Conds) + cntL cntTAct y.Acts ≤ big62 := by unfold big62; omega
  have p4 : decide ((((((k + 1) + 1) + cntL cntTPat y.Pats) + cntL cntTCond y.Conds) + cntL cntTAct y.Acts) < 0) = false := decide_eq_false (by omega)
  have cc : decide ((i : Int) < (x.length : Int)) = true := decide_eq_true hlt
  have hp : (((((k + 1) + 1) + cntL cntTPat y.Pats) + cntL cntTCond y.Conds) + cntL cntTAct y.Acts) = k + cntTRule y := by omega
  obtain ⟨q0, q1, q2, q3, q4⟩ := hy
  have m2 := hd_m_l_heldPatS hN y.Pats (h.1) ((k + 1) + 1) a2 d2 q2
  have m3 := hd_m_l_heldCondS hN y.Conds (h.2.1) (((k + 1) + 1) + cntL cntTPat y.Pats) a3 d3 q3
  have m4 := hd_m_l_heldActS hN y.Acts (h.2.2) ((((k + 1) + 1) + cntL cntTPat y.Pats) + cntL cntTCond y.Conds) a4 d4 q4
  rw [← hp, ← wr1 i (by omega)]
  have hb : ∀ {β : Type} (f : TRule → Option β), (idx x (i : Int)).bind f = f y := fun f => by rw [idx_nat, hx]; rfl
  have bq0 := fun (β : Type) => @bs_of _ _ _ q0 β
  have bm2 := fun (β : Type) => @bs_of _ _ _ m2 β
  have bm3 := fun (β : Type) => @bs_of _ _ _ m3 β
  have bm4 := fun (β : Type) => @bs_of _ _ _ m4 β
  simp only [m_l_heldRuleS_l1, cc, if_true]
  simp only [e0, e1]
  simp only [↓hb, ↓bq0, ↓bm2, ↓bm3, ↓bm4, ↓reduceIte, seq_self, decide_true, Bool.not_true, Bool.false_eq_true, bne_self_eq_false, q1, p2, p3, p4, e0, e1])
  (fun n k i hi => by simp only [m_l_heldRuleS_l1]; rw [if_neg (by simpa using hi)]) N 0 k (by omega) (by omega) h0 (by simpa using h1) (by simpa using hh)
 unfold m_l_heldRuleS; simpa using this
def mcnTDef (x : TDef) : Int := cntL cntTRule x.Rules
theorem mcnTDef_nn (x : TDef) : 0 ≤ mcnTDef x := by
 unfold mcnTDef
 have := cntL_nn cntTRule_nn x.Rules
 omega
theorem mcnTDef_le (x : TDef) : mcnTDef x ≤ 32 + 32 * totTDef x := by
 have := cntTDef_le x; unfold cntTDef at this; unfold mcnTDef; omega
theorem mk_m_l_markDef {N : Nat} (hN : 1099000000000 ≤ N) (x : TDef) (h : LimTDef x) (k : Int) (h0 : 0 ≤ k) (h1 : k + mcnTDef x ≤ big62) : ∃ y0, m_l_markDef N x k = some (k + mcnTDef x, y0) ∧ m_l_heldDef N (⟨x.Name, y0⟩ : TDef) k = some (k + mcnTDef x) := by
 unfold mcnTDef big62 at *
 have n0 := cntL_nn cntTRule_nn x.Rules
 obtain ⟨y0, m0, c0, d0, l0⟩ := mk_m_l_markRuleS hN x.Rules (h) k (by omega) (by unfold big62; omega)
 have w0 := hd_m_l_heldRuleS hN y0 l0 k (by omega) (by rw [c0]; unfold big62; omega) d0
 rw [c0] at w0
 have p0 : decide ((k + cntL cntTRule x.Rules) < 0) = false := decide_eq_false (by omega)
 have hp : k + (cntL cntTRule x.Rules) = (k + cntL cntTRule x.Rules) := by omega
 refine ⟨y0, ?_, ?_⟩
 ·rw [hp]; simp only [m_l_markDef, Option.bind_some, m0]
 ·rw [hp]; simp only [m_l_heldDef, Option.bind_some, Bool.false_eq_true, if_false, w0, p0]
end Go.Proofs.YteipbimepilcfaaGreatDoor
