/- Printed by a program of ours: Lean functions of plain data for the Go functions. -/
import Derived.Test.YtlfpehhlkccdiaaDoorEL
namespace Go.Proofs.YtlfpehhlkccdiaaDoor
open Eng
set_option linter.unusedVariables false
set_option linter.unusedSimpArgs false

structure TVal where
  K : Int
  N : Int
  S : ByteArray
  deriving DecidableEq
def RTVal (Φ : Hp) (F : List Nat) (cs : List Value) (x : TVal) : Prop := cs = [.int .i64 x.K, .int .i64 x.N, .string x.S] ∧ F = []
theorem RTVal.lasts : Lasts RTVal := fun _ _ _ _ _ _ _ _ h => h
theorem RTVal.knows : Knows RTVal := fun _ _ _ _ h => h.2 ▸ Kw.nil
theorem RTVal.flat : Flat RTVal := fun _ _ _ _ h => h.2
theorem RTVal.one : Ones RTVal := fun _ _ _ _ h => by obtain ⟨rfl, -⟩ := h; exact One.all ⟨rfl, rfl, rfl, trivial⟩
structure TArg where
  K : Int
  S : ByteArray
  V : TVal
  deriving DecidableEq
def RTArg (Φ : Hp) (F : List Nat) (cs : List Value) (x : TArg) : Prop := cs = [.int .i64 x.K, .string x.S, .int .i64 x.V.K, .int .i64 x.V.N, .string x.V.S] ∧ F = []
theorem RTArg.lasts : Lasts RTArg := fun _ _ _ _ _ _ _ _ h => h
theorem RTArg.knows : Knows RTArg := fun _ _ _ _ h => h.2 ▸ Kw.nil
theorem RTArg.flat : Flat RTArg := fun _ _ _ _ h => h.2
theorem RTArg.one : Ones RTArg := fun _ _ _ _ h => by obtain ⟨rfl, -⟩ := h; exact One.all ⟨rfl, rfl, rfl, rfl, rfl, trivial⟩
structure TExpr where
  Op : ByteArray
  L : TArg
  R : TArg
  deriving DecidableEq
def RTExpr (Φ : Hp) (F : List Nat) (cs : List Value) (x : TExpr) : Prop := cs = [.string x.Op, .int .i64 x.L.K, .string x.L.S, .int .i64 x.L.V.K, .int .i64 x.L.V.N, .string x.L.V.S, .int .i64 x.R.K, .string x.R.S, .int .i64 x.R.V.K, .int .i64 x.R.V.N, .string x.R.V.S] ∧ F = []
theorem RTExpr.lasts : Lasts RTExpr := fun _ _ _ _ _ _ _ _ h => h
theorem RTExpr.knows : Knows RTExpr := fun _ _ _ _ h => h.2 ▸ Kw.nil
theorem RTExpr.flat : Flat RTExpr := fun _ _ _ _ h => h.2
theorem RTExpr.one : Ones RTExpr := fun _ _ _ _ h => by obtain ⟨rfl, -⟩ := h; exact One.all ⟨rfl, rfl, rfl, rfl, rfl, rfl, rfl, rfl, rfl, rfl, rfl, trivial⟩
def eqT_TVal (x y : TVal) : Bool := ((x.K == y.K) && ((x.N == y.N) && (seq x.S y.S && true)))
theorem seq_dec (a b : ByteArray) : seq a b = decide (a = b) := by
  unfold seq
  by_cases h : a = b
  · subst h; simp
  · have : ¬ a.toList = b.toList := fun e => h (by rw [ByteArray.toList_eq, ByteArray.toList_eq] at e; exact ByteArray.ext (Array.toList_inj.1 e))
    simp [h, this]
theorem eqT_TVal_eq (x y : TVal) : eqT_TVal x y = decide (x = y) := by
  obtain ⟨a0, a1, a2⟩ := x; obtain ⟨b0, b1, b2⟩ := y
  rw [Bool.eq_iff_iff]
  simp only [eqT_TVal, seq_dec, Bool.and_true, Bool.and_eq_true, beq_iff_eq, decide_eq_true_eq, TVal.mk.injEq, and_assoc]
def eqT_TArg (x y : TArg) : Bool := ((x.K == y.K) && (seq x.S y.S && ((x.V.K == y.V.K) && ((x.V.N == y.V.N) && (seq x.V.S y.V.S && true)))))

theorem eqT_TArg_eq (x y : TArg) : eqT_TArg x y = decide (x = y) := by
  obtain ⟨a0, a1, ⟨a20, a21, a22⟩⟩ := x; obtain ⟨b0, b1, ⟨b20, b21, b22⟩⟩ := y
  rw [Bool.eq_iff_iff]
  simp only [eqT_TArg, seq_dec, Bool.and_true, Bool.and_eq_true, beq_iff_eq, decide_eq_true_eq, TArg.mk.injEq, TVal.mk.injEq, and_assoc]
abbrev Tab := TabAt 0
def m_l_szVal (N : Nat) (p0 : TVal) (p1 : Int) : Option (Int) :=
  (if decide (IntKind.i64.wrap (p1 - (p0.S.size : Int)) < 0) then some (-1) else some (IntKind.i64.wrap (p1 - (p0.S.size : Int))))
def m_l_szArg (N : Nat) (p0 : TArg) (p1 : Int) : Option (Int) :=
  (if decide (IntKind.i64.wrap (p1 - (p0.S.size : Int)) < 0) then some (-1) else ((m_l_szVal N p0.V (IntKind.i64.wrap (p1 - (p0.S.size : Int)))).bind fun x1 => (if decide (x1 < 0) then some (-1) else some x1)))
def m_l_szExpr (N : Nat) (p0 : TExpr) (p1 : Int) : Option (Int) :=
  (if decide (IntKind.i64.wrap (p1 - (p0.Op.size : Int)) < 0) then some (-1) else ((m_l_szArg N p0.L (IntKind.i64.wrap (p1 - (p0.Op.size : Int)))).bind fun x1 => (if decide (x1 < 0) then some (-1) else ((m_l_szArg N p0.R x1).bind fun x2 => (if decide (x2 < 0) then some (-1) else some x2)))))
def m_s_l1In (N : Nat) (p0 : Int) (p1 : Int) (p2 : Int) : Option (Bool) :=
  ((if decide (p1 ≤ p0) then some (decide (p0 ≤ p2)) else some false).bind fun b1 => some b1)
def m_s_l1Letter (N : Nat) (p0 : Int) : Option (Bool) :=
  ((m_s_l1In N (IntKind.i64.wrap p0) 97 122).bind fun x1 => ((if x1 then some true else ((m_s_l1In N (IntKind.i64.wrap p0) 48 57).bind fun x2 => some x2)).bind fun b1 => ((if b1 then some true else some (decide (p0 = 95))).bind fun b2 => some b2)))
def m_s_l5Large (N : Nat) (p0 : Int) : Option (Bool) :=
  ((m_s_l1In N (IntKind.i64.wrap p0) 65 90).bind fun x1 => some x1)
def m_s_l5VarOk_l1 (N : Nat) (p0 : ByteArray) : Nat → Int → Option (Bool)
  | 0, _ => none
  | k + 1, s1 =>
    (if decide (s1 < (p0.size : Int)) then ((idx p0.data.toList s1).bind fun y1 => ((m_s_l5Large N (y1.toNat : Int)).bind fun x1 => ((if !x1 then ((if decide (s1 = 0) then some true else ((idx p0.data.toList s1).bind fun y2 => ((m_s_l1Letter N (y2.toNat : Int)).bind fun x2 => some (!x2)))).bind fun b2 => some b2) else some false).bind fun b1 => (if b1 then some false else ((m_s_l5VarOk_l1 N p0 k) (IntKind.i64.wrap (s1 + 1))))))) else ((m_s_l1In N (p0.size : Int) 1 12).bind fun x3 => some x3))
def m_s_l5VarOk (N : Nat) (p0 : ByteArray) : Option (Bool) :=
  m_s_l5VarOk_l1 N p0 N 0
def m_s_l2Plain_l1 (N : Nat) (p0 : ByteArray) : Nat → Int → Option (Bool)
  | 0, _ => none
  | k + 1, s1 =>
    (if decide (s1 < (p0.size : Int)) then ((idx p0.data.toList s1).bind fun y1 => ((m_s_l1Letter N (y1.toNat : Int)).bind fun x1 => (if !x1 then some false else ((m_s_l2Plain_l1 N p0 k) (IntKind.i64.wrap (s1 + 1)))))) else some (decide ((p0.size : Int) ≤ 20)))
def m_s_l2Plain (N : Nat) (p0 : ByteArray) : Option (Bool) :=
  m_s_l2Plain_l1 N p0 N 0
def m_s_ValOk (N : Nat) (p0 : TVal) : Option (Bool) :=
  (if decide (p0.K = 1) then ((m_s_l1In N p0.N (-1000000000) 1000000000).bind fun x1 => ((if x1 then some (seq p0.S (⟨#[]⟩ : ByteArray)) else some false).bind fun b1 => some b1)) else (if decide (p0.K = 2) then ((m_s_l2Plain N p0.S).bind fun x2 => ((if x2 then some (decide (p0.N = 0)) else some false).bind fun b2 => some b2)) else some false))
def m_s_ArgOk (N : Nat) (p0 : TArg) : Option (Bool) :=
  (if decide (p0.K = 1) then ((m_s_l5VarOk N p0.S).bind fun x1 => ((if x1 then some (eqT_TVal p0.V (⟨0, 0, (⟨#[]⟩ : ByteArray)⟩ : TVal)) else some false).bind fun b1 => some b1)) else (if decide (p0.K = 2) then ((m_s_ValOk N p0.V).bind fun x2 => ((if x2 then some (seq p0.S (⟨#[]⟩ : ByteArray)) else some false).bind fun b2 => some b2)) else (if decide (p0.K = 3) then ((if seq p0.S (⟨#[]⟩ : ByteArray) then some (eqT_TVal p0.V (⟨0, 0, (⟨#[]⟩ : ByteArray)⟩ : TVal)) else some false).bind fun b3 => some b3) else some false)))
def m_s_l8Given (N : Nat) (p0 : TArg) : Option (Bool) :=
  ((m_s_ArgOk N p0).bind fun x1 => ((if x1 then some (!decide (p0.K = 3)) else some false).bind fun b1 => some b1))
def m_s_ExprOk_j1 (N : Nat) (p0 : TExpr) (s1 : Bool) : Option (Bool) :=
  (if s1 then ((m_s_l8Given N p0.L).bind fun x2 => ((if x2 then ((m_s_l8Given N p0.R).bind fun x3 => some x3) else some false).bind fun b2 => some b2)) else some false)
def m_s_ExprOk (N : Nat) (p0 : TExpr) : Option (Bool) :=
  (if seq p0.Op (⟨#[]⟩ : ByteArray) then ((m_s_l8Given N p0.L).bind fun x1 => ((if x1 then some (eqT_TArg p0.R (⟨0, (⟨#[]⟩ : ByteArray), (⟨0, 0, (⟨#[]⟩ : ByteArray)⟩ : TVal)⟩ : TArg)) else some false).bind fun b1 => some b1)) else (if seq p0.Op (⟨#[43]⟩ : ByteArray) then m_s_ExprOk_j1 N p0 (seq p0.Op (⟨#[43]⟩ : ByteArray)) else m_s_ExprOk_j1 N p0 (seq p0.Op (⟨#[45]⟩ : ByteArray))))
def m_s_l2Num_j1 (N : Nat) (s1 : ByteArray) : Option (ByteArray) :=
  some s1
def m_s_l2Num : Nat → Int → Option (ByteArray)
  | 0, _ => none
  | N + 1, p0 =>
    (if decide (p0 < 0) then (((m_s_l2Num N) (IntKind.i64.wrap (0 - p0))).bind fun x1 => ((cat (⟨#[45]⟩ : ByteArray) x1).bind fun z1 => some z1)) else (if decide (p0 < 10) then some (bstr ([(IntKind.u8.wrap (IntKind.i64.wrap (48 + p0)))] : List Int)) else (((m_s_l2Num N) (IntKind.i64.wrap (p0.tdiv 10))).bind fun x3 => ((cat x3 (bstr ([(IntKind.u8.wrap (IntKind.i64.wrap (48 + (p0.tmod 10))))] : List Int))).bind fun z3 => m_s_l2Num_j1 N z3))))
def m_s_l2Text (N : Nat) (p0 : TVal) : Option (ByteArray) :=
  (if decide (p0.K = 1) then ((m_s_l2Num N p0.N).bind fun x1 => some x1) else ((cat (⟨#[39]⟩ : ByteArray) p0.S).bind fun z1 => ((cat z1 (⟨#[39]⟩ : ByteArray)).bind fun z2 => some z2)))
def m_s_l6ArgText (N : Nat) (p0 : TArg) : Option (ByteArray) :=
  (if decide (p0.K = 1) then some p0.S else (if decide (p0.K = 2) then ((m_s_l2Text N p0.V).bind fun x1 => some x1) else some (⟨#[95]⟩ : ByteArray)))
def m_s_ExprText (N : Nat) (p0 : TExpr) : Option (ByteArray) :=
  ((m_s_ExprOk N p0).bind fun x1 => (if !x1 then some (⟨#[]⟩ : ByteArray) else (if seq p0.Op (⟨#[]⟩ : ByteArray) then ((m_s_l6ArgText N p0.L).bind fun x2 => some x2) else ((m_s_l6ArgText N p0.L).bind fun x3 => ((cat x3 (⟨#[32]⟩ : ByteArray)).bind fun z1 => ((cat z1 p0.Op).bind fun z2 => ((cat z2 (⟨#[32]⟩ : ByteArray)).bind fun z3 => ((m_s_l6ArgText N p0.R).bind fun x4 => ((cat z3 x4).bind fun z4 => some z4)))))))))
def m_l_toVal (N : Nat) (p0 : TVal) : Option (TVal) :=
  some p0
def m_l_toArg (N : Nat) (p0 : TArg) : Option (TArg) :=
  ((m_l_toVal N p0.V).bind fun x1 => some (⟨p0.K, p0.S, x1⟩ : TArg))
def m_l_toExpr (N : Nat) (p0 : TExpr) : Option (TExpr) :=
  ((m_l_toArg N p0.L).bind fun x1 => ((m_l_toArg N p0.R).bind fun x2 => some (⟨p0.Op, x1, x2⟩ : TExpr)))
def m_i_inRange (N : Nat) (p0 : Int) (p1 : Int) (p2 : Int) : Option (Bool) :=
  ((if decide (p1 ≤ p0) then some (decide (p0 ≤ p2)) else some false).bind fun b1 => some b1)
def m_i_isSmall (N : Nat) (p0 : Int) : Option (Bool) :=
  ((if decide (97 ≤ p0) then some (decide (p0 ≤ 122)) else some false).bind fun b1 => some b1)
def m_i_isDigit (N : Nat) (p0 : Int) : Option (Bool) :=
  ((if decide (48 ≤ p0) then some (decide (p0 ≤ 57)) else some false).bind fun b1 => some b1)
def m_i_isWordByte (N : Nat) (p0 : Int) : Option (Bool) :=
  ((m_i_isSmall N p0).bind fun x1 => ((if x1 then some true else ((m_i_isDigit N p0).bind fun x2 => some x2)).bind fun b1 => ((if b1 then some true else some (decide (p0 = 95))).bind fun b2 => some b2)))
def m_i_isWord_l1 (N : Nat) (p0 : ByteArray) : Nat → Int → Option (Bool)
  | 0, _ => none
  | k + 1, s1 =>
    (if decide (s1 < (p0.size : Int)) then ((idx p0.data.toList s1).bind fun y1 => ((m_i_isWordByte N (y1.toNat : Int)).bind fun x1 => (if !x1 then some false else ((m_i_isWord_l1 N p0 k) (IntKind.i64.wrap (s1 + 1)))))) else some true)
def m_i_isWord (N : Nat) (p0 : ByteArray) (p1 : Int) : Option (Bool) :=
  (if decide (p1 < (p0.size : Int)) then some false else m_i_isWord_l1 N p0 N 0)
def m_i_ValOk (N : Nat) (p0 : TVal) : Option (Bool) :=
  (if decide (p0.K = 1) then ((m_i_inRange N p0.N (-1000000000) 1000000000).bind fun x1 => ((if x1 then some (seq p0.S (⟨#[]⟩ : ByteArray)) else some false).bind fun b1 => some b1)) else (if decide (p0.K = 2) then ((if decide (p0.N = 0) then ((m_i_isWord N p0.S 20).bind fun x2 => some x2) else some false).bind fun b2 => some b2) else some false))
def m_i_isLarge (N : Nat) (p0 : Int) : Option (Bool) :=
  ((if decide (65 ≤ p0) then some (decide (p0 ≤ 90)) else some false).bind fun b1 => some b1)
def m_i_isVar_l1 (N : Nat) (p0 : ByteArray) : Nat → Int → Option (Bool)
  | 0, _ => none
  | k + 1, s1 =>
    (if decide (s1 < (p0.size : Int)) then ((idx p0.data.toList s1).bind fun y2 => ((m_i_isWordByte N (y2.toNat : Int)).bind fun x2 => ((if !x2 then ((idx p0.data.toList s1).bind fun y3 => ((m_i_isLarge N (y3.toNat : Int)).bind fun x3 => some (!x3))) else some false).bind fun b3 => (if b3 then some false else ((m_i_isVar_l1 N p0 k) (IntKind.i64.wrap (s1 + 1))))))) else some true)
def m_i_isVar (N : Nat) (p0 : ByteArray) : Option (Bool) :=
  ((if decide ((p0.size : Int) < 1) then some true else some (decide (12 < (p0.size : Int)))).bind fun b1 => ((if b1 then some true else ((idx p0.data.toList 0).bind fun y1 => ((m_i_isLarge N (y1.toNat : Int)).bind fun x1 => some (!x1)))).bind fun b2 => (if b2 then some false else m_i_isVar_l1 N p0 N 0)))
def m_i_ArgOk (N : Nat) (p0 : TArg) : Option (Bool) :=
  (if decide (p0.K = 1) then ((m_i_isVar N p0.S).bind fun x1 => ((if x1 then some (eqT_TVal p0.V (⟨0, 0, (⟨#[]⟩ : ByteArray)⟩ : TVal)) else some false).bind fun b1 => some b1)) else (if decide (p0.K = 2) then ((if seq p0.S (⟨#[]⟩ : ByteArray) then ((m_i_ValOk N p0.V).bind fun x2 => some x2) else some false).bind fun b2 => some b2) else (if decide (p0.K = 3) then ((if seq p0.S (⟨#[]⟩ : ByteArray) then some (eqT_TVal p0.V (⟨0, 0, (⟨#[]⟩ : ByteArray)⟩ : TVal)) else some false).bind fun b3 => some b3) else some false)))
def m_i_isTerm (N : Nat) (p0 : TArg) : Option (Bool) :=
  ((if !decide (p0.K = 3) then ((m_i_ArgOk N p0).bind fun x1 => some x1) else some false).bind fun b1 => some b1)
def m_i_ExprOk_j1 (N : Nat) (p0 : TExpr) (s1 : Bool) : Option (Bool) :=
  (if s1 then ((m_i_isTerm N p0.L).bind fun x2 => ((if x2 then ((m_i_isTerm N p0.R).bind fun x3 => some x3) else some false).bind fun b2 => some b2)) else some false)
def m_i_ExprOk (N : Nat) (p0 : TExpr) : Option (Bool) :=
  (if seq p0.Op (⟨#[]⟩ : ByteArray) then ((m_i_isTerm N p0.L).bind fun x1 => ((if x1 then some (eqT_TArg p0.R (⟨0, (⟨#[]⟩ : ByteArray), (⟨0, 0, (⟨#[]⟩ : ByteArray)⟩ : TVal)⟩ : TArg)) else some false).bind fun b1 => some b1)) else (if seq p0.Op (⟨#[43]⟩ : ByteArray) then m_i_ExprOk_j1 N p0 (seq p0.Op (⟨#[43]⟩ : ByteArray)) else m_i_ExprOk_j1 N p0 (seq p0.Op (⟨#[45]⟩ : ByteArray))))
def m_i_ValText (N : Nat) (p0 : TVal) : Option (ByteArray) :=
  ((m_i_ValOk N p0).bind fun x1 => (if !x1 then some (⟨#[]⟩ : ByteArray) else (if decide (p0.K = 1) then ((m_strconv_Itoa N p0.N).bind fun x2 => some x2) else ((cat (⟨#[39]⟩ : ByteArray) p0.S).bind fun z1 => ((cat z1 (⟨#[39]⟩ : ByteArray)).bind fun z2 => some z2)))))
def m_i_argText (N : Nat) (p0 : TArg) : Option (ByteArray) :=
  (if decide (p0.K = 1) then some p0.S else (if decide (p0.K = 2) then ((m_i_ValText N p0.V).bind fun x1 => some x1) else some (⟨#[95]⟩ : ByteArray)))
def m_i_ExprText (N : Nat) (p0 : TExpr) : Option (ByteArray) :=
  ((m_i_ExprOk N p0).bind fun x1 => (if !x1 then some (⟨#[]⟩ : ByteArray) else (if seq p0.Op (⟨#[]⟩ : ByteArray) then ((m_i_argText N p0.L).bind fun x2 => some x2) else ((m_i_argText N p0.L).bind fun x3 => ((cat x3 (⟨#[32]⟩ : ByteArray)).bind fun z1 => ((cat z1 p0.Op).bind fun z2 => ((cat z2 (⟨#[32]⟩ : ByteArray)).bind fun z3 => ((m_i_argText N p0.R).bind fun x4 => ((cat z3 x4).bind fun z4 => some z4)))))))))
def m_l_FnExactExprText (N : Nat) (p0 : TExpr) : Option (Bool) :=
  ((m_l_szExpr N p0 1048576).bind fun x1 => (if decide (x1 < 0) then some true else ((m_l_toExpr N p0).bind fun x2 => ((m_s_ExprText N x2).bind fun x3 => ((m_l_toExpr N p0).bind fun x4 => ((m_i_ExprText N x4).bind fun x5 => (if !seq x5 x3 then some false else some true)))))))
end Go.Proofs.YtlfpehhlkccdiaaDoor
