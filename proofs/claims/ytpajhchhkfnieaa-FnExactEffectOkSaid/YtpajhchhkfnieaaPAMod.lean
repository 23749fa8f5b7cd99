/- Printed by a program of ours: Lean functions of plain data for the Go functions. -/
import Derived.Test.YtpajhchhkfnieaaEng10
namespace Go.Proofs.Ytpajhchhkfnieaa
open Eng
set_option linter.unusedVariables false
set_option linter.unusedSimpArgs false

structure TVal where
  K : Int
  N : Int
  S : ByteArray
  deriving DecidableEq
def RTVal (Φ : Hp) (F : List Nat) (cs : List Value) (x : TVal) : Prop :=
  cs = [.int .i64 x.K, .int .i64 x.N, .string x.S] ∧ F = []
theorem RTVal.mono : ∀ Φ Φ' F cs x, Hle Φ Φ' → RTVal Φ F cs x → RTVal Φ' F cs x := fun _ _ _ _ _ _ h => h
structure TAlpha where
  Kind : ByteArray
  N : Int
  Consts : (List TVal)
  At : (List Int)
  deriving DecidableEq
def RTAlpha (Φ : Hp) (F : List Nat) (cs : List Value) (x : TAlpha) : Prop :=
  ∃ (s0 : Value) (F0 : List Nat) (s1 : Value) (F1 : List Nat), cs = [.string x.Kind, .int .i64 x.N, s0, s1] ∧ F = F0 ++ F1 ∧ RSl RTVal 3 Φ F0 s0 x.Consts ∧ RSl (RI .i64) 1 Φ F1 s1 x.At
theorem RTAlpha.mono : ∀ Φ Φ' F cs x, Hle Φ Φ' → RTAlpha Φ F cs x → RTAlpha Φ' F cs x := fun _ _ _ _ _ hle ⟨s0, F0, s1, F1, hc, hF, h0, h1⟩ => ⟨s0, F0, s1, F1, hc, hF, RSl.mono RTVal.mono hle h0, RSl.mono RI.mono hle h1⟩
structure TFact where
  Kind : ByteArray
  Fields : (List TVal)
  deriving DecidableEq
def RTFact (Φ : Hp) (F : List Nat) (cs : List Value) (x : TFact) : Prop :=
  ∃ (s0 : Value) (F0 : List Nat), cs = [.string x.Kind, s0] ∧ F = F0 ∧ RSl RTVal 3 Φ F0 s0 x.Fields
theorem RTFact.mono : ∀ Φ Φ' F cs x, Hle Φ Φ' → RTFact Φ F cs x → RTFact Φ' F cs x := fun _ _ _ _ _ hle ⟨s0, F0, hc, hF, h0⟩ => ⟨s0, F0, hc, hF, RSl.mono RTVal.mono hle h0⟩
def eqT_TVal (x y : TVal) : Bool := ((x.K == y.K) && ((x.N == y.N) && (seq x.S y.S && true)))
theorem seq_dec (a b : ByteArray) : seq a b = decide (a = b) := by
  unfold seq
  by_cases h : a = b
  · subst h; simp
  · have : ¬ a.toList = b.toList := fun e => h (by rw [ByteArray.toList_eq, ByteArray.toList_eq] at e; exact ByteArray.ext (Array.toList_inj.1 e))
    simp [h, this]
theorem eqT_TVal_eq (x y : TVal) : eqT_TVal x y = decide (x = y) := by
  obtain ⟨a0, a1, a2⟩ := x; obtain ⟨b0, b1, b2⟩ := y
  rw [Bool.eq_iff_iff]
  simp only [eqT_TVal, seq_dec, Bool.and_true, Bool.and_eq_true, beq_iff_eq, decide_eq_true_eq, TVal.mk.injEq, and_assoc]
structure TEffect where
  Kind : Int
  F : TFact
  Id : Int
  N : Int
  Undo : ByteArray
  deriving DecidableEq
def RTEffect (Φ : Hp) (F : List Nat) (cs : List Value) (x : TEffect) : Prop :=
  ∃ (s0 : Value) (F0 : List Nat), cs = [.int .i64 x.Kind, .string x.F.Kind, s0, .int .i64 x.Id, .int .i64 x.N, .string x.Undo] ∧ F = F0 ∧ RSl RTVal 3 Φ F0 s0 x.F.Fields
theorem RTEffect.mono : ∀ Φ Φ' F cs x, Hle Φ Φ' → RTEffect Φ F cs x → RTEffect Φ' F cs x := fun _ _ _ _ _ hle ⟨s0, F0, hc, hF, h0⟩ => ⟨s0, F0, hc, hF, RSl.mono RTVal.mono hle h0⟩
structure TArg where
  K : Int
  S : ByteArray
  V : TVal
  deriving DecidableEq
def RTArg (Φ : Hp) (F : List Nat) (cs : List Value) (x : TArg) : Prop :=
  cs = [.int .i64 x.K, .string x.S, .int .i64 x.V.K, .int .i64 x.V.N, .string x.V.S] ∧ F = []
theorem RTArg.mono : ∀ Φ Φ' F cs x, Hle Φ Φ' → RTArg Φ F cs x → RTArg Φ' F cs x := fun _ _ _ _ _ _ h => h
structure TExpr where
  Op : ByteArray
  L : TArg
  R : TArg
  deriving DecidableEq
def RTExpr (Φ : Hp) (F : List Nat) (cs : List Value) (x : TExpr) : Prop :=
  cs = [.string x.Op, .int .i64 x.L.K, .string x.L.S, .int .i64 x.L.V.K, .int .i64 x.L.V.N, .string x.L.V.S, .int .i64 x.R.K, .string x.R.S, .int .i64 x.R.V.K, .int .i64 x.R.V.N, .string x.R.V.S] ∧ F = []
theorem RTExpr.mono : ∀ Φ Φ' F cs x, Hle Φ Φ' → RTExpr Φ F cs x → RTExpr Φ' F cs x := fun _ _ _ _ _ _ h => h
structure TBind where
  Name : ByteArray
  V : TVal
  deriving DecidableEq
def RTBind (Φ : Hp) (F : List Nat) (cs : List Value) (x : TBind) : Prop :=
  cs = [.string x.Name, .int .i64 x.V.K, .int .i64 x.V.N, .string x.V.S] ∧ F = []
theorem RTBind.mono : ∀ Φ Φ' F cs x, Hle Φ Φ' → RTBind Φ F cs x → RTBind Φ' F cs x := fun _ _ _ _ _ _ h => h
structure TMatch where
  Rule : Int
  Ids : (List Int)
  Binds : (List TBind)
  deriving DecidableEq
def RTMatch (Φ : Hp) (F : List Nat) (cs : List Value) (x : TMatch) : Prop :=
  ∃ (s0 : Value) (F0 : List Nat) (s1 : Value) (F1 : List Nat), cs = [.int .i64 x.Rule, s0, s1] ∧ F = F0 ++ F1 ∧ RSl (RI .i64) 1 Φ F0 s0 x.Ids ∧ RSl RTBind 4 Φ F1 s1 x.Binds
theorem RTMatch.mono : ∀ Φ Φ' F cs x, Hle Φ Φ' → RTMatch Φ F cs x → RTMatch Φ' F cs x := fun _ _ _ _ _ hle ⟨s0, F0, s1, F1, hc, hF, h0, h1⟩ => ⟨s0, F0, s1, F1, hc, hF, RSl.mono RI.mono hle h0, RSl.mono RTBind.mono hle h1⟩
/-! laws.szVal -/
def m_l_szVal (N : Nat) (p0 : TVal) (p1 : Int) : Option (Int) :=
  (if decide (IntKind.i64.wrap (p1 - (p0.S.size : Int)) < 0) then some (-1) else some (IntKind.i64.wrap (p1 - (p0.S.size : Int))))
/-! laws.szValS -/
def m_l_szValS_l1 (N : Nat) (p0 : (List TVal)) : Nat → Int → Int → Option (Int)
  | 0, _, _ => none
  | k + 1, s1, s2 =>
    (if decide (s2 < (p0.length : Int)) then ((idx p0 s2).bind fun x1 => ((m_l_szVal N x1 s1).bind fun x2 => (if decide (x2 < 0) then some (-1) else m_l_szValS_l1 N p0 k x2 (IntKind.i64.wrap (s2 + 1))))) else some s1)
def m_l_szValS (N : Nat) (p0 : (List TVal)) (p1 : Int) : Option (Int) :=
  (if decide (IntKind.i64.wrap (p1 - (p0.length : Int)) < 0) then some (-1) else m_l_szValS_l1 N p0 N (IntKind.i64.wrap (p1 - (p0.length : Int))) 0)
/-! laws.szIntS -/
def m_l_szIntS (N : Nat) (p0 : (List Int)) (p1 : Int) : Option (Int) :=
  (if decide (IntKind.i64.wrap (p1 - (p0.length : Int)) < 0) then some (-1) else some (IntKind.i64.wrap (p1 - (p0.length : Int))))
/-! laws.szAlpha -/
def m_l_szAlpha (N : Nat) (p0 : TAlpha) (p1 : Int) : Option (Int) :=
  (if decide (IntKind.i64.wrap (p1 - (p0.Kind.size : Int)) < 0) then some (-1) else ((m_l_szValS N p0.Consts (IntKind.i64.wrap (p1 - (p0.Kind.size : Int)))).bind fun x1 => (if decide (x1 < 0) then some (-1) else ((m_l_szIntS N p0.At x1).bind fun x2 => (if decide (x2 < 0) then some (-1) else some x2)))))
/-! laws.toVal -/
def m_l_toVal (N : Nat) (p0 : TVal) : Option (TVal) :=
  some p0
/-! laws.toValS -/
def m_l_toValS_l1 (N : Nat) (p0 : (List TVal)) : Nat → Int → (List TVal) → Option ((List TVal))
  | 0, _, _ => none
  | k + 1, s1, s2 =>
    (if decide (s1 < (p0.length : Int)) then ((idx p0 s1).bind fun x2 => ((m_l_toVal N x2).bind fun x3 => ((idx s2 s1).bind fun x4 => m_l_toValS_l1 N p0 k (IntKind.i64.wrap (s1 + 1)) (s2.set s1.toNat x3)))) else some s2)
def m_l_toValS (N : Nat) (p0 : (List TVal)) : Option ((List TVal)) :=
  ((mk (⟨0, 0, (⟨#[]⟩ : ByteArray)⟩ : TVal) (p0.length : Int)).bind fun x1 => m_l_toValS_l1 N p0 N 0 x1)
/-! laws.toIntS -/
def m_l_toIntS_l1 (N : Nat) (p0 : (List Int)) : Nat → Int → (List Int) → Option ((List Int))
  | 0, _, _ => none
  | k + 1, s1, s2 =>
    (if decide (s1 < (p0.length : Int)) then ((idx p0 s1).bind fun x2 => ((idx s2 s1).bind fun x3 => m_l_toIntS_l1 N p0 k (IntKind.i64.wrap (s1 + 1)) (s2.set s1.toNat x2))) else some s2)
def m_l_toIntS (N : Nat) (p0 : (List Int)) : Option ((List Int)) :=
  ((mk 0 (p0.length : Int)).bind fun x1 => m_l_toIntS_l1 N p0 N 0 x1)
/-! laws.toAlpha -/
def m_l_toAlpha (N : Nat) (p0 : TAlpha) : Option (TAlpha) :=
  ((m_l_toValS N p0.Consts).bind fun x1 => ((m_l_toIntS N p0.At).bind fun x2 => some (⟨p0.Kind, p0.N, x1, x2⟩ : TAlpha)))
/-! laws.eqVal -/
def m_l_eqVal (N : Nat) (p0 : TVal) (p1 : TVal) : Option (Bool) :=
  (if !decide (p0.K = p1.K) then some false else (if !decide (p0.N = p1.N) then some false else (if !seq p0.S p1.S then some false else some true)))
/-! laws.eqValS -/
def m_l_eqValS_l1 (N : Nat) (p0 : (List TVal)) (p1 : (List TVal)) : Nat → Int → Option (Bool)
  | 0, _ => none
  | k + 1, s1 =>
    (if decide (s1 < (p0.length : Int)) then ((idx p0 s1).bind fun x1 => ((idx p1 s1).bind fun x2 => ((m_l_eqVal N x1 x2).bind fun x3 => (if !x3 then some false else m_l_eqValS_l1 N p0 p1 k (IntKind.i64.wrap (s1 + 1)))))) else some true)
def m_l_eqValS (N : Nat) (p0 : (List TVal)) (p1 : (List TVal)) : Option (Bool) :=
  (if !decide ((p0.length : Int) = (p1.length : Int)) then some false else m_l_eqValS_l1 N p0 p1 N 0)
/-! laws.eqIntS -/
def m_l_eqIntS_l1 (N : Nat) (p0 : (List Int)) (p1 : (List Int)) : Nat → Int → Option (Bool)
  | 0, _ => none
  | k + 1, s1 =>
    (if decide (s1 < (p0.length : Int)) then ((idx p0 s1).bind fun x1 => ((idx p1 s1).bind fun x2 => (if !decide (x1 = x2) then some false else m_l_eqIntS_l1 N p0 p1 k (IntKind.i64.wrap (s1 + 1))))) else some true)
def m_l_eqIntS (N : Nat) (p0 : (List Int)) (p1 : (List Int)) : Option (Bool) :=
  (if !decide ((p0.length : Int) = (p1.length : Int)) then some false else m_l_eqIntS_l1 N p0 p1 N 0)
/-! laws.eqAlpha -/
def m_l_eqAlpha (N : Nat) (p0 : TAlpha) (p1 : TAlpha) : Option (Bool) :=
  (if !seq p0.Kind p1.Kind then some false else (if !decide (p0.N = p1.N) then some false else ((m_l_eqValS N p0.Consts p1.Consts).bind fun x1 => (if !x1 then some false else ((m_l_eqIntS N p0.At p1.At).bind fun x2 => (if !x2 then some false else some true))))))
/-! laws.szFact -/
def m_l_szFact (N : Nat) (p0 : TFact) (p1 : Int) : Option (Int) :=
  (if decide (IntKind.i64.wrap (p1 - (p0.Kind.size : Int)) < 0) then some (-1) else ((m_l_szValS N p0.Fields (IntKind.i64.wrap (p1 - (p0.Kind.size : Int)))).bind fun x1 => (if decide (x1 < 0) then some (-1) else some x1)))
/-! spec.l1In -/
def m_s_l1In (N : Nat) (p0 : Int) (p1 : Int) (p2 : Int) : Option (Bool) :=
  ((if decide (p1 ≤ p0) then some (decide (p0 ≤ p2)) else some false).bind fun b1 => some b1)
/-! spec.Passes -/
def m_s_Passes_l1 (N : Nat) (p0 : TAlpha) (p1 : TFact) : Nat → Int → Option (Bool)
  | 0, _ => none
  | k + 1, s1 =>
    (if decide (s1 < (p0.At.length : Int)) then ((idx p0.At s1).bind fun x1 => ((if decide ((p0.Consts.length : Int) ≤ s1) then some true else ((m_s_l1In N x1 0 (IntKind.i64.wrap ((p1.Fields.length : Int) - 1))).bind fun x2 => some (!x2))).bind fun b2 => ((if b2 then some true else ((idx p1.Fields x1).bind fun x3 => ((idx p0.Consts s1).bind fun x4 => some (!(eqT_TVal x3 x4))))).bind fun b3 => (if b3 then some false else m_s_Passes_l1 N p0 p1 k (IntKind.i64.wrap (s1 + 1)))))) else some true)
def m_s_Passes (N : Nat) (p0 : TAlpha) (p1 : TFact) : Option (Bool) :=
  ((if !seq p0.Kind p1.Kind then some true else some (!decide (p0.N = (p1.Fields.length : Int)))).bind fun b1 => (if b1 then some false else m_s_Passes_l1 N p0 p1 N 0))
/-! laws.toFact -/
def m_l_toFact (N : Nat) (p0 : TFact) : Option (TFact) :=
  ((m_l_toValS N p0.Fields).bind fun x1 => some (⟨p0.Kind, x1⟩ : TFact))
/-! impl.Passes -/
def m_i_Passes_l1 (N : Nat) (p0 : TAlpha) (p1 : TFact) : Nat → Int → Option (Bool)
  | 0, _ => none
  | k + 1, s1 =>
    (if decide (s1 < (p0.At.length : Int)) then ((idx p0.At s1).bind fun x1 => ((if decide (x1 < 0) then some true else some (decide ((p1.Fields.length : Int) ≤ x1))).bind fun b2 => ((if b2 then some true else some (decide ((p0.Consts.length : Int) ≤ s1))).bind fun b3 => ((if b3 then some true else ((idx p1.Fields x1).bind fun x2 => ((idx p0.Consts s1).bind fun x3 => some (!(eqT_TVal x2 x3))))).bind fun b4 => (if b4 then some false else m_i_Passes_l1 N p0 p1 k (IntKind.i64.wrap (s1 + 1))))))) else some true)
def m_i_Passes (N : Nat) (p0 : TAlpha) (p1 : TFact) : Option (Bool) :=
  ((if !seq p1.Kind p0.Kind then some true else some (!decide ((p1.Fields.length : Int) = p0.N))).bind fun b1 => (if b1 then some false else m_i_Passes_l1 N p0 p1 N 0))
/-! laws.eqFact -/
def m_l_eqFact (N : Nat) (p0 : TFact) (p1 : TFact) : Option (Bool) :=
  (if !seq p0.Kind p1.Kind then some false else ((m_l_eqValS N p0.Fields p1.Fields).bind fun x1 => (if !x1 then some false else some true)))
/-! laws.FnExactPasses -/
def m_l_FnExactPasses (N : Nat) (p0 : TAlpha) (p1 : TFact) : Option (Bool) :=
  ((m_l_szAlpha N p0 1048576).bind fun x1 => (if decide (x1 < 0) then some true else ((m_l_szFact N p1 x1).bind fun x2 => (if decide (x2 < 0) then some true else ((m_l_toAlpha N p0).bind fun x3 => ((m_l_toFact N p1).bind fun x4 => ((m_s_Passes N x3 x4).bind fun x5 => ((m_l_toAlpha N p0).bind fun x6 => ((m_l_toFact N p1).bind fun x7 => ((m_i_Passes N x6 x7).bind fun x8 => (if (x8 != x5) then some false else ((m_l_toAlpha N p0).bind fun x9 => ((m_l_eqAlpha N x6 x9).bind fun x10 => (if !x10 then some false else ((m_l_toFact N p1).bind fun x11 => ((m_l_eqFact N x7 x11).bind fun x12 => (if !x12 then some false else some true)))))))))))))))))
/-! laws.szEffect -/
def m_l_szEffect (N : Nat) (p0 : TEffect) (p1 : Int) : Option (Int) :=
  ((m_l_szFact N p0.F p1).bind fun x1 => (if decide (x1 < 0) then some (-1) else (if decide (IntKind.i64.wrap (x1 - (p0.Undo.size : Int)) < 0) then some (-1) else some (IntKind.i64.wrap (x1 - (p0.Undo.size : Int))))))
/-! spec.l1Letter -/
def m_s_l1Letter (N : Nat) (p0 : Int) : Option (Bool) :=
  ((m_s_l1In N (IntKind.i64.wrap p0) 97 122).bind fun x1 => ((if x1 then some true else ((m_s_l1In N (IntKind.i64.wrap p0) 48 57).bind fun x2 => some x2)).bind fun b1 => ((if b1 then some true else some (decide (p0 = 95))).bind fun b2 => some b2)))
/-! spec.NameOk -/
def m_s_NameOk_l1 (N : Nat) (p0 : ByteArray) : Nat → Int → Option (Bool)
  | 0, _ => none
  | k + 1, s1 =>
    (if decide (s1 < (p0.size : Int)) then ((idx p0.data.toList s1).bind fun y1 => ((m_s_l1Letter N (y1.toNat : Int)).bind fun x1 => ((if !x1 then some true else ((if decide (s1 = 0) then ((idx p0.data.toList s1).bind fun y2 => ((m_s_l1In N (IntKind.i64.wrap (y2.toNat : Int)) 97 122).bind fun x2 => some (!x2))) else some false).bind fun b2 => some b2)).bind fun b1 => (if b1 then some false else m_s_NameOk_l1 N p0 k (IntKind.i64.wrap (s1 + 1)))))) else ((m_s_l1In N (p0.size : Int) 1 12).bind fun x3 => some x3))
def m_s_NameOk (N : Nat) (p0 : ByteArray) : Option (Bool) :=
  m_s_NameOk_l1 N p0 N 0
/-! spec.l2Plain -/
def m_s_l2Plain_l1 (N : Nat) (p0 : ByteArray) : Nat → Int → Option (Bool)
  | 0, _ => none
  | k + 1, s1 =>
    (if decide (s1 < (p0.size : Int)) then ((idx p0.data.toList s1).bind fun y1 => ((m_s_l1Letter N (y1.toNat : Int)).bind fun x1 => (if !x1 then some false else m_s_l2Plain_l1 N p0 k (IntKind.i64.wrap (s1 + 1))))) else some (decide ((p0.size : Int) ≤ 20)))
def m_s_l2Plain (N : Nat) (p0 : ByteArray) : Option (Bool) :=
  m_s_l2Plain_l1 N p0 N 0
/-! spec.ValOk -/
def m_s_ValOk (N : Nat) (p0 : TVal) : Option (Bool) :=
  (if decide (p0.K = 1) then ((m_s_l1In N p0.N (-1000000000) 1000000000).bind fun x1 => ((if x1 then some (seq p0.S (⟨#[]⟩ : ByteArray)) else some false).bind fun b1 => some b1)) else (if decide (p0.K = 2) then ((m_s_l2Plain N p0.S).bind fun x2 => ((if x2 then some (decide (p0.N = 0)) else some false).bind fun b2 => some b2)) else some false))
/-! spec.l3Vals -/
def m_s_l3Vals_l1 (N : Nat) (p0 : (List TVal)) : Nat → Int → Option (Bool)
  | 0, _ => none
  | k + 1, s1 =>
    (if decide (s1 < (p0.length : Int)) then ((idx p0 s1).bind fun x1 => ((m_s_ValOk N x1).bind fun x2 => (if !x2 then some false else m_s_l3Vals_l1 N p0 k (IntKind.i64.wrap (s1 + 1))))) else some (decide ((p0.length : Int) ≤ 5)))
def m_s_l3Vals (N : Nat) (p0 : (List TVal)) : Option (Bool) :=
  m_s_l3Vals_l1 N p0 N 0
/-! spec.FactOk -/
def m_s_FactOk (N : Nat) (p0 : TFact) : Option (Bool) :=
  ((m_s_NameOk N p0.Kind).bind fun x1 => ((if x1 then ((m_s_l3Vals N p0.Fields).bind fun x2 => some x2) else some false).bind fun b1 => some b1))
/-! spec.EffectOk -/
def m_s_EffectOk_j1 (N : Nat) (p0 : TEffect) (b1 : Bool) (s1 : Bool) : Option (Bool) :=
  (if s1 then ((if b1 then some (decide (p0.Id = 0)) else some false).bind fun b15 => ((if b15 then some (decide (p0.N = 0)) else some false).bind fun b16 => ((if b16 then some (seq p0.Undo (⟨#[]⟩ : ByteArray)) else some false).bind fun b17 => some b17))) else some false)
def m_s_EffectOk (N : Nat) (p0 : TEffect) : Option (Bool) :=
  ((if seq p0.F.Kind (⟨#[]⟩ : ByteArray) then some (decide ((p0.F.Fields.length : Int) = 0)) else some false).bind fun b1 => (if decide (p0.Kind = 1) then ((m_s_FactOk N p0.F).bind fun x1 => ((if x1 then some (decide (p0.Id = 0)) else some false).bind fun b2 => ((if b2 then some (decide (p0.N = 0)) else some false).bind fun b3 => ((if b3 then some (seq p0.Undo (⟨#[]⟩ : ByteArray)) else some false).bind fun b4 => some b4)))) else (if decide (p0.Kind = 3) then ((m_s_FactOk N p0.F).bind fun x2 => ((if x2 then some (decide (p0.Id = 0)) else some false).bind fun b5 => ((if b5 then some (decide (p0.N = 0)) else some false).bind fun b6 => ((if b6 then ((if seq p0.Undo (⟨#[]⟩ : ByteArray) then some true else ((m_s_NameOk N p0.Undo).bind fun x3 => some x3)).bind fun b8 => some b8) else some false).bind fun b7 => some b7)))) else (if decide (p0.Kind = 4) then ((m_s_FactOk N p0.F).bind fun x4 => ((if x4 then some (decide (p0.Id = 0)) else some false).bind fun b9 => ((if b9 then ((m_s_l1In N p0.N 0 100000).bind fun x5 => some x5) else some false).bind fun b10 => ((if b10 then some (seq p0.Undo (⟨#[]⟩ : ByteArray)) else some false).bind fun b11 => some b11)))) else (if decide (p0.Kind = 2) then ((if b1 then some (decide (1 ≤ p0.Id)) else some false).bind fun b12 => ((if b12 then some (decide (p0.N = 0)) else some false).bind fun b13 => ((if b13 then some (seq p0.Undo (⟨#[]⟩ : ByteArray)) else some false).bind fun b14 => some b14))) else (if decide (p0.Kind = 5) then m_s_EffectOk_j1 N p0 b1 (decide (p0.Kind = 5)) else m_s_EffectOk_j1 N p0 b1 (decide (p0.Kind = 6))))))))
/-! laws.toEffect -/
def m_l_toEffect (N : Nat) (p0 : TEffect) : Option (TEffect) :=
  ((m_l_toFact N p0.F).bind fun x1 => some (⟨p0.Kind, x1, p0.Id, p0.N, p0.Undo⟩ : TEffect))
/-! impl.isSmall -/
def m_i_isSmall (N : Nat) (p0 : Int) : Option (Bool) :=
  ((if decide (97 ≤ p0) then some (decide (p0 ≤ 122)) else some false).bind fun b1 => some b1)
/-! impl.isDigit -/
def m_i_isDigit (N : Nat) (p0 : Int) : Option (Bool) :=
  ((if decide (48 ≤ p0) then some (decide (p0 ≤ 57)) else some false).bind fun b1 => some b1)
/-! impl.isWordByte -/
def m_i_isWordByte (N : Nat) (p0 : Int) : Option (Bool) :=
  ((m_i_isSmall N p0).bind fun x1 => ((if x1 then some true else ((m_i_isDigit N p0).bind fun x2 => some x2)).bind fun b1 => ((if b1 then some true else some (decide (p0 = 95))).bind fun b2 => some b2)))
/-! impl.isWord -/
def m_i_isWord_l1 (N : Nat) (p0 : ByteArray) : Nat → Int → Option (Bool)
  | 0, _ => none
  | k + 1, s1 =>
    (if decide (s1 < (p0.size : Int)) then ((idx p0.data.toList s1).bind fun y1 => ((m_i_isWordByte N (y1.toNat : Int)).bind fun x1 => (if !x1 then some false else m_i_isWord_l1 N p0 k (IntKind.i64.wrap (s1 + 1))))) else some true)
def m_i_isWord (N : Nat) (p0 : ByteArray) (p1 : Int) : Option (Bool) :=
  (if decide (p1 < (p0.size : Int)) then some false else m_i_isWord_l1 N p0 N 0)
/-! impl.NameOk -/
def m_i_NameOk (N : Nat) (p0 : ByteArray) : Option (Bool) :=
  ((if decide (0 < (p0.size : Int)) then ((idx p0.data.toList 0).bind fun y1 => ((m_i_isSmall N (y1.toNat : Int)).bind fun x1 => some x1)) else some false).bind fun b1 => ((if b1 then ((m_i_isWord N p0 12).bind fun x2 => some x2) else some false).bind fun b2 => some b2))
/-! impl.inRange -/
def m_i_inRange (N : Nat) (p0 : Int) (p1 : Int) (p2 : Int) : Option (Bool) :=
  ((if decide (p1 ≤ p0) then some (decide (p0 ≤ p2)) else some false).bind fun b1 => some b1)
/-! impl.ValOk -/
def m_i_ValOk (N : Nat) (p0 : TVal) : Option (Bool) :=
  (if decide (p0.K = 1) then ((m_i_inRange N p0.N (-1000000000) 1000000000).bind fun x1 => ((if x1 then some (seq p0.S (⟨#[]⟩ : ByteArray)) else some false).bind fun b1 => some b1)) else (if decide (p0.K = 2) then ((if decide (p0.N = 0) then ((m_i_isWord N p0.S 20).bind fun x2 => some x2) else some false).bind fun b2 => some b2) else some false))
/-! impl.FactOk -/
def m_i_FactOk_l1 (N : Nat) (p0 : TFact) : Nat → Int → Option (Bool)
  | 0, _ => none
  | k + 1, s1 =>
    (if decide (s1 < (p0.Fields.length : Int)) then ((idx p0.Fields s1).bind fun x2 => ((m_i_ValOk N x2).bind fun x3 => (if !x3 then some false else m_i_FactOk_l1 N p0 k (IntKind.i64.wrap (s1 + 1))))) else some true)
def m_i_FactOk (N : Nat) (p0 : TFact) : Option (Bool) :=
  ((m_i_NameOk N p0.Kind).bind fun x1 => ((if !x1 then some true else some (decide (5 < (p0.Fields.length : Int)))).bind fun b1 => (if b1 then some false else m_i_FactOk_l1 N p0 N 0)))
/-! impl.isUndo -/
def m_i_isUndo (N : Nat) (p0 : ByteArray) : Option (Bool) :=
  ((if seq p0 (⟨#[]⟩ : ByteArray) then some true else ((m_i_NameOk N p0).bind fun x1 => some x1)).bind fun b1 => some b1)
/-! impl.EffectOk -/
def m_i_EffectOk_j1 (N : Nat) (p0 : TEffect) (b1 : Bool) (s1 : Bool) : Option (Bool) :=
  (if s1 then ((if b1 then some (decide (p0.Id = 0)) else some false).bind fun b14 => ((if b14 then some (decide (p0.N = 0)) else some false).bind fun b15 => ((if b15 then some (seq p0.Undo (⟨#[]⟩ : ByteArray)) else some false).bind fun b16 => some b16))) else some false)
def m_i_EffectOk (N : Nat) (p0 : TEffect) : Option (Bool) :=
  ((if seq p0.F.Kind (⟨#[]⟩ : ByteArray) then some (decide ((p0.F.Fields.length : Int) = 0)) else some false).bind fun b1 => (if decide (p0.Kind = 1) then ((m_i_FactOk N p0.F).bind fun x1 => ((if x1 then some (decide (p0.Id = 0)) else some false).bind fun b2 => ((if b2 then some (decide (p0.N = 0)) else some false).bind fun b3 => ((if b3 then some (seq p0.Undo (⟨#[]⟩ : ByteArray)) else some false).bind fun b4 => some b4)))) else (if decide (p0.Kind = 2) then ((if b1 then some (decide (1 ≤ p0.Id)) else some false).bind fun b5 => ((if b5 then some (decide (p0.N = 0)) else some false).bind fun b6 => ((if b6 then some (seq p0.Undo (⟨#[]⟩ : ByteArray)) else some false).bind fun b7 => some b7))) else (if decide (p0.Kind = 3) then ((m_i_FactOk N p0.F).bind fun x2 => ((if x2 then some (decide (p0.Id = 0)) else some false).bind fun b8 => ((if b8 then some (decide (p0.N = 0)) else some false).bind fun b9 => ((if b9 then ((m_i_isUndo N p0.Undo).bind fun x3 => some x3) else some false).bind fun b10 => some b10)))) else (if decide (p0.Kind = 4) then ((m_i_FactOk N p0.F).bind fun x4 => ((if x4 then some (decide (p0.Id = 0)) else some false).bind fun b11 => ((if b11 then ((m_i_inRange N p0.N 0 100000).bind fun x5 => some x5) else some false).bind fun b12 => ((if b12 then some (seq p0.Undo (⟨#[]⟩ : ByteArray)) else some false).bind fun b13 => some b13)))) else (if decide (p0.Kind = 5) then m_i_EffectOk_j1 N p0 b1 (decide (p0.Kind = 5)) else m_i_EffectOk_j1 N p0 b1 (decide (p0.Kind = 6))))))))
/-! laws.eqEffect -/
def m_l_eqEffect (N : Nat) (p0 : TEffect) (p1 : TEffect) : Option (Bool) :=
  (if !decide (p0.Kind = p1.Kind) then some false else ((m_l_eqFact N p0.F p1.F).bind fun x1 => (if !x1 then some false else (if !decide (p0.Id = p1.Id) then some false else (if !decide (p0.N = p1.N) then some false else (if !seq p0.Undo p1.Undo then some false else some true))))))
/-! laws.FnExactEffectOk -/
def m_l_FnExactEffectOk (N : Nat) (p0 : TEffect) : Option (Bool) :=
  ((m_l_szEffect N p0 1048576).bind fun x1 => (if decide (x1 < 0) then some true else ((m_l_toEffect N p0).bind fun x2 => ((m_s_EffectOk N x2).bind fun x3 => ((m_l_toEffect N p0).bind fun x4 => ((m_i_EffectOk N x4).bind fun x5 => (if (x5 != x3) then some false else ((m_l_toEffect N p0).bind fun x6 => ((m_l_eqEffect N x4 x6).bind fun x7 => (if !x7 then some false else some true))))))))))
/-! laws.szArg -/
def m_l_szArg (N : Nat) (p0 : TArg) (p1 : Int) : Option (Int) :=
  (if decide (IntKind.i64.wrap (p1 - (p0.S.size : Int)) < 0) then some (-1) else ((m_l_szVal N p0.V (IntKind.i64.wrap (p1 - (p0.S.size : Int)))).bind fun x1 => (if decide (x1 < 0) then some (-1) else some x1)))
/-! laws.szExpr -/
def m_l_szExpr (N : Nat) (p0 : TExpr) (p1 : Int) : Option (Int) :=
  (if decide (IntKind.i64.wrap (p1 - (p0.Op.size : Int)) < 0) then some (-1) else ((m_l_szArg N p0.L (IntKind.i64.wrap (p1 - (p0.Op.size : Int)))).bind fun x1 => (if decide (x1 < 0) then some (-1) else ((m_l_szArg N p0.R x1).bind fun x2 => (if decide (x2 < 0) then some (-1) else some x2)))))
/-! laws.szBind -/
def m_l_szBind (N : Nat) (p0 : TBind) (p1 : Int) : Option (Int) :=
  (if decide (IntKind.i64.wrap (p1 - (p0.Name.size : Int)) < 0) then some (-1) else ((m_l_szVal N p0.V (IntKind.i64.wrap (p1 - (p0.Name.size : Int)))).bind fun x1 => (if decide (x1 < 0) then some (-1) else some x1)))
/-! laws.szBindS -/
def m_l_szBindS_l1 (N : Nat) (p0 : (List TBind)) : Nat → Int → Int → Option (Int)
  | 0, _, _ => none
  | k + 1, s1, s2 =>
    (if decide (s2 < (p0.length : Int)) then ((idx p0 s2).bind fun x1 => ((m_l_szBind N x1 s1).bind fun x2 => (if decide (x2 < 0) then some (-1) else m_l_szBindS_l1 N p0 k x2 (IntKind.i64.wrap (s2 + 1))))) else some s1)
def m_l_szBindS (N : Nat) (p0 : (List TBind)) (p1 : Int) : Option (Int) :=
  (if decide (IntKind.i64.wrap (p1 - (p0.length : Int)) < 0) then some (-1) else m_l_szBindS_l1 N p0 N (IntKind.i64.wrap (p1 - (p0.length : Int))) 0)
/-! spec.BindOf -/
def m_s_BindOf_l1 (N : Nat) (p0 : (List TBind)) (p1 : ByteArray) : Nat → Int → Option (TVal × Bool)
  | 0, _ => none
  | k + 1, s1 =>
    (if decide (s1 < (p0.length : Int)) then ((idx p0 s1).bind fun x1 => (if seq x1.Name p1 then ((idx p0 s1).bind fun x2 => some (x2.V, true)) else m_s_BindOf_l1 N p0 p1 k (IntKind.i64.wrap (s1 + 1)))) else some ((⟨0, 0, (⟨#[]⟩ : ByteArray)⟩ : TVal), false))
def m_s_BindOf (N : Nat) (p0 : (List TBind)) (p1 : ByteArray) : Option (TVal × Bool) :=
  m_s_BindOf_l1 N p0 p1 N 0
/-! spec.ArgVal -/
def m_s_ArgVal (N : Nat) (p0 : TArg) (p1 : (List TBind)) : Option (TVal × Bool) :=
  (if decide (p0.K = 2) then some (p0.V, true) else (if decide (p0.K = 1) then ((m_s_BindOf N p1 p0.S).bind fun x1 => some (x1.1, x1.2)) else some ((⟨0, 0, (⟨#[]⟩ : ByteArray)⟩ : TVal), false)))
/-! spec.l2Sum -/
def m_s_l2Sum (N : Nat) (p0 : TVal) (p1 : TVal) (p2 : Int) : Option (TVal × Bool) :=
  ((if !decide (p0.K = 1) then some true else some (!decide (p1.K = 1))).bind fun b1 => ((if b1 then some true else ((m_s_ValOk N p0).bind fun x1 => some (!x1))).bind fun b2 => ((if b2 then some true else ((m_s_ValOk N p1).bind fun x2 => some (!x2))).bind fun b3 => ((if b3 then some true else ((m_s_ValOk N (⟨1, p2, (⟨#[]⟩ : ByteArray)⟩ : TVal)).bind fun x3 => some (!x3))).bind fun b4 => (if b4 then some ((⟨0, 0, (⟨#[]⟩ : ByteArray)⟩ : TVal), false) else some ((⟨1, p2, (⟨#[]⟩ : ByteArray)⟩ : TVal), true))))))
/-! spec.AddVals -/
def m_s_AddVals (N : Nat) (p0 : TVal) (p1 : TVal) : Option (TVal × Bool) :=
  ((m_s_l2Sum N p0 p1 (IntKind.i64.wrap (p0.N + p1.N))).bind fun x1 => some (x1.1, x1.2))
/-! spec.SubVals -/
def m_s_SubVals (N : Nat) (p0 : TVal) (p1 : TVal) : Option (TVal × Bool) :=
  ((m_s_l2Sum N p0 p1 (IntKind.i64.wrap (p0.N - p1.N))).bind fun x1 => some (x1.1, x1.2))
/-! spec.Compute -/
def m_s_Compute (N : Nat) (p0 : TExpr) (p1 : (List TBind)) : Option (TVal × Bool) :=
  ((m_s_ArgVal N p0.L p1).bind fun x1 => ((m_s_ArgVal N p0.R p1).bind fun x2 => (if !x1.2 then some ((⟨0, 0, (⟨#[]⟩ : ByteArray)⟩ : TVal), false) else (if seq p0.Op (⟨#[]⟩ : ByteArray) then some (x1.1, true) else (if !x2.2 then some ((⟨0, 0, (⟨#[]⟩ : ByteArray)⟩ : TVal), false) else (if seq p0.Op (⟨#[43]⟩ : ByteArray) then ((m_s_AddVals N x1.1 x2.1).bind fun x3 => some (x3.1, x3.2)) else (if seq p0.Op (⟨#[45]⟩ : ByteArray) then ((m_s_SubVals N x1.1 x2.1).bind fun x4 => some (x4.1, x4.2)) else some ((⟨0, 0, (⟨#[]⟩ : ByteArray)⟩ : TVal), false))))))))
/-! laws.toArg -/
def m_l_toArg (N : Nat) (p0 : TArg) : Option (TArg) :=
  ((m_l_toVal N p0.V).bind fun x1 => some (⟨p0.K, p0.S, x1⟩ : TArg))
/-! laws.toExpr -/
def m_l_toExpr (N : Nat) (p0 : TExpr) : Option (TExpr) :=
  ((m_l_toArg N p0.L).bind fun x1 => ((m_l_toArg N p0.R).bind fun x2 => some (⟨p0.Op, x1, x2⟩ : TExpr)))
/-! laws.toBind -/
def m_l_toBind (N : Nat) (p0 : TBind) : Option (TBind) :=
  ((m_l_toVal N p0.V).bind fun x1 => some (⟨p0.Name, x1⟩ : TBind))
/-! laws.toBindS -/
def m_l_toBindS_l1 (N : Nat) (p0 : (List TBind)) : Nat → Int → (List TBind) → Option ((List TBind))
  | 0, _, _ => none
  | k + 1, s1, s2 =>
    (if decide (s1 < (p0.length : Int)) then ((idx p0 s1).bind fun x2 => ((m_l_toBind N x2).bind fun x3 => ((idx s2 s1).bind fun x4 => m_l_toBindS_l1 N p0 k (IntKind.i64.wrap (s1 + 1)) (s2.set s1.toNat x3)))) else some s2)
def m_l_toBindS (N : Nat) (p0 : (List TBind)) : Option ((List TBind)) :=
  ((mk (⟨(⟨#[]⟩ : ByteArray), (⟨0, 0, (⟨#[]⟩ : ByteArray)⟩ : TVal)⟩ : TBind) (p0.length : Int)).bind fun x1 => m_l_toBindS_l1 N p0 N 0 x1)
/-! impl.BindOf -/
def m_i_BindOf_l1 (N : Nat) (p0 : (List TBind)) (p1 : ByteArray) : Nat → Int → Option (TVal × Bool)
  | 0, _ => none
  | k + 1, s1 =>
    (if decide (s1 < (p0.length : Int)) then ((idx p0 s1).bind fun x1 => (if seq x1.Name p1 then some (x1.V, true) else m_i_BindOf_l1 N p0 p1 k (IntKind.i64.wrap (s1 + 1)))) else some ((⟨0, 0, (⟨#[]⟩ : ByteArray)⟩ : TVal), false))
def m_i_BindOf (N : Nat) (p0 : (List TBind)) (p1 : ByteArray) : Option (TVal × Bool) :=
  m_i_BindOf_l1 N p0 p1 N 0
/-! impl.ArgVal -/
def m_i_ArgVal (N : Nat) (p0 : TArg) (p1 : (List TBind)) : Option (TVal × Bool) :=
  (if decide (p0.K = 2) then some (p0.V, true) else (if decide (p0.K = 1) then ((m_i_BindOf N p1 p0.S).bind fun x1 => some (x1.1, x1.2)) else some ((⟨0, 0, (⟨#[]⟩ : ByteArray)⟩ : TVal), false)))
/-! impl.areInts -/
def m_i_areInts (N : Nat) (p0 : TVal) (p1 : TVal) : Option (Bool) :=
  ((if decide (p0.K = 1) then some (decide (p1.K = 1)) else some false).bind fun b1 => ((if b1 then ((m_i_ValOk N p0).bind fun x1 => some x1) else some false).bind fun b2 => ((if b2 then ((m_i_ValOk N p1).bind fun x2 => some x2) else some false).bind fun b3 => some b3)))
/-! impl.intVal -/
def m_i_intVal (N : Nat) (p0 : Int) : Option (TVal × Bool) :=
  ((m_i_ValOk N (⟨1, p0, (⟨#[]⟩ : ByteArray)⟩ : TVal)).bind fun x1 => (if !x1 then some ((⟨0, 0, (⟨#[]⟩ : ByteArray)⟩ : TVal), false) else some ((⟨1, p0, (⟨#[]⟩ : ByteArray)⟩ : TVal), true)))
/-! impl.AddVals -/
def m_i_AddVals (N : Nat) (p0 : TVal) (p1 : TVal) : Option (TVal × Bool) :=
  ((m_i_areInts N p0 p1).bind fun x1 => (if !x1 then some ((⟨0, 0, (⟨#[]⟩ : ByteArray)⟩ : TVal), false) else ((m_i_intVal N (IntKind.i64.wrap (p0.N + p1.N))).bind fun x2 => some (x2.1, x2.2))))
/-! impl.SubVals -/
def m_i_SubVals (N : Nat) (p0 : TVal) (p1 : TVal) : Option (TVal × Bool) :=
  ((m_i_areInts N p0 p1).bind fun x1 => (if !x1 then some ((⟨0, 0, (⟨#[]⟩ : ByteArray)⟩ : TVal), false) else ((m_i_intVal N (IntKind.i64.wrap (p0.N - p1.N))).bind fun x2 => some (x2.1, x2.2))))
/-! impl.Compute -/
def m_i_Compute (N : Nat) (p0 : TExpr) (p1 : (List TBind)) : Option (TVal × Bool) :=
  ((m_i_ArgVal N p0.L p1).bind fun x1 => ((if !x1.2 then some true else some (seq p0.Op (⟨#[]⟩ : ByteArray))).bind fun b1 => (if b1 then some (x1.1, x1.2) else ((m_i_ArgVal N p0.R p1).bind fun x2 => ((if x2.2 then some (seq p0.Op (⟨#[43]⟩ : ByteArray)) else some false).bind fun b2 => (if b2 then ((m_i_AddVals N x1.1 x2.1).bind fun x3 => some (x3.1, x3.2)) else ((if x2.2 then some (seq p0.Op (⟨#[45]⟩ : ByteArray)) else some false).bind fun b3 => (if b3 then ((m_i_SubVals N x1.1 x2.1).bind fun x4 => some (x4.1, x4.2)) else some ((⟨0, 0, (⟨#[]⟩ : ByteArray)⟩ : TVal), false)))))))))
/-! laws.eqBind -/
def m_l_eqBind (N : Nat) (p0 : TBind) (p1 : TBind) : Option (Bool) :=
  (if !seq p0.Name p1.Name then some false else ((m_l_eqVal N p0.V p1.V).bind fun x1 => (if !x1 then some false else some true)))
/-! laws.eqBindS -/
def m_l_eqBindS_l1 (N : Nat) (p0 : (List TBind)) (p1 : (List TBind)) : Nat → Int → Option (Bool)
  | 0, _ => none
  | k + 1, s1 =>
    (if decide (s1 < (p0.length : Int)) then ((idx p0 s1).bind fun x1 => ((idx p1 s1).bind fun x2 => ((m_l_eqBind N x1 x2).bind fun x3 => (if !x3 then some false else m_l_eqBindS_l1 N p0 p1 k (IntKind.i64.wrap (s1 + 1)))))) else some true)
def m_l_eqBindS (N : Nat) (p0 : (List TBind)) (p1 : (List TBind)) : Option (Bool) :=
  (if !decide ((p0.length : Int) = (p1.length : Int)) then some false else m_l_eqBindS_l1 N p0 p1 N 0)
/-! laws.FnExactCompute -/
def m_l_FnExactCompute (N : Nat) (p0 : TExpr) (p1 : (List TBind)) : Option (Bool) :=
  ((m_l_szExpr N p0 1048576).bind fun x1 => (if decide (x1 < 0) then some true else ((m_l_szBindS N p1 x1).bind fun x2 => (if decide (x2 < 0) then some true else ((m_l_toExpr N p0).bind fun x3 => ((m_l_toBindS N p1).bind fun x4 => ((m_s_Compute N x3 x4).bind fun x5 => ((m_l_toBindS N p1).bind fun x6 => ((m_l_toExpr N p0).bind fun x7 => ((m_i_Compute N x7 x6).bind fun x8 => ((m_l_eqVal N x8.1 x5.1).bind fun x9 => ((if !x9 then some true else some (x8.2 != x5.2)).bind fun b1 => (if b1 then some false else ((m_l_toBindS N p1).bind fun x10 => ((m_l_eqBindS N x6 x10).bind fun x11 => (if !x11 then some false else some true))))))))))))))))
/-! spec.l11Same -/
def m_s_l11Same_l1 (N : Nat) (p0 : (List Int)) (p1 : (List Int)) : Nat → Int → Option (Bool)
  | 0, _ => none
  | k + 1, s1 =>
    (if decide (s1 < (p0.length : Int)) then ((idx p0 s1).bind fun x1 => ((idx p1 s1).bind fun x2 => (if !decide (x1 = x2) then some false else m_s_l11Same_l1 N p0 p1 k (IntKind.i64.wrap (s1 + 1))))) else some true)
def m_s_l11Same (N : Nat) (p0 : (List Int)) (p1 : (List Int)) : Option (Bool) :=
  (if !decide ((p0.length : Int) = (p1.length : Int)) then some false else m_s_l11Same_l1 N p0 p1 N 0)
/-! spec.l3SameVals -/
def m_s_l3SameVals_l1 (N : Nat) (p0 : (List TVal)) (p1 : (List TVal)) : Nat → Int → Option (Bool)
  | 0, _ => none
  | k + 1, s1 =>
    (if decide (s1 < (p0.length : Int)) then ((idx p0 s1).bind fun x1 => ((idx p1 s1).bind fun x2 => (if !(eqT_TVal x1 x2) then some false else m_s_l3SameVals_l1 N p0 p1 k (IntKind.i64.wrap (s1 + 1))))) else some true)
def m_s_l3SameVals (N : Nat) (p0 : (List TVal)) (p1 : (List TVal)) : Option (Bool) :=
  (if !decide ((p0.length : Int) = (p1.length : Int)) then some false else m_s_l3SameVals_l1 N p0 p1 N 0)
/-! spec.SameAlpha -/
def m_s_SameAlpha (N : Nat) (p0 : TAlpha) (p1 : TAlpha) : Option (Bool) :=
  ((if seq p0.Kind p1.Kind then some (decide (p0.N = p1.N)) else some false).bind fun b1 => ((if b1 then ((m_s_l11Same N p0.At p1.At).bind fun x1 => some x1) else some false).bind fun b2 => ((if b2 then ((m_s_l3SameVals N p0.Consts p1.Consts).bind fun x2 => some x2) else some false).bind fun b3 => some b3)))
/-! slices.Equal[[]int,int] -/
def m_sl_Equal_Sint_int_l1 (N : Nat) (p0 : (List Int)) (p1 : (List Int)) : Nat → Int → Option (Bool)
  | 0, _ => none
  | k + 1, s1 =>
    (if decide (s1 < (p0.length : Int)) then ((idx p0 s1).bind fun x1 => ((idx p1 s1).bind fun x2 => (if !decide (x1 = x2) then some false else m_sl_Equal_Sint_int_l1 N p0 p1 k (IntKind.i64.wrap (s1 + 1))))) else some true)
def m_sl_Equal_Sint_int (N : Nat) (p0 : (List Int)) (p1 : (List Int)) : Option (Bool) :=
  (if !decide ((p0.length : Int) = (p1.length : Int)) then some false else m_sl_Equal_Sint_int_l1 N p0 p1 N 0)
/-! slices.Equal[[]impl.Val,impl.Val] -/
def m_sl_Equal_Si_Val_i_Val_l1 (N : Nat) (p0 : (List TVal)) (p1 : (List TVal)) : Nat → Int → Option (Bool)
  | 0, _ => none
  | k + 1, s1 =>
    (if decide (s1 < (p0.length : Int)) then ((idx p0 s1).bind fun x1 => ((idx p1 s1).bind fun x2 => (if !(eqT_TVal x1 x2) then some false else m_sl_Equal_Si_Val_i_Val_l1 N p0 p1 k (IntKind.i64.wrap (s1 + 1))))) else some true)
def m_sl_Equal_Si_Val_i_Val (N : Nat) (p0 : (List TVal)) (p1 : (List TVal)) : Option (Bool) :=
  (if !decide ((p0.length : Int) = (p1.length : Int)) then some false else m_sl_Equal_Si_Val_i_Val_l1 N p0 p1 N 0)
/-! impl.SameAlpha -/
def m_i_SameAlpha (N : Nat) (p0 : TAlpha) (p1 : TAlpha) : Option (Bool) :=
  ((if seq p0.Kind p1.Kind then some (decide (p0.N = p1.N)) else some false).bind fun b1 => ((if b1 then ((m_sl_Equal_Si_Val_i_Val N p0.Consts p1.Consts).bind fun x1 => some x1) else some false).bind fun b2 => ((if b2 then ((m_sl_Equal_Sint_int N p0.At p1.At).bind fun x2 => some x2) else some false).bind fun b3 => some b3)))
/-! laws.FnExactSameAlpha -/
def m_l_FnExactSameAlpha (N : Nat) (p0 : TAlpha) (p1 : TAlpha) : Option (Bool) :=
  ((m_l_szAlpha N p0 1048576).bind fun x1 => (if decide (x1 < 0) then some true else ((m_l_szAlpha N p1 x1).bind fun x2 => (if decide (x2 < 0) then some true else ((m_l_toAlpha N p0).bind fun x3 => ((m_l_toAlpha N p1).bind fun x4 => ((m_s_SameAlpha N x3 x4).bind fun x5 => ((m_l_toAlpha N p0).bind fun x6 => ((m_l_toAlpha N p1).bind fun x7 => ((m_i_SameAlpha N x6 x7).bind fun x8 => (if (x8 != x5) then some false else ((m_l_toAlpha N p0).bind fun x9 => ((m_l_eqAlpha N x6 x9).bind fun x10 => (if !x10 then some false else ((m_l_toAlpha N p1).bind fun x11 => ((m_l_eqAlpha N x7 x11).bind fun x12 => (if !x12 then some false else some true)))))))))))))))))
/-! impl.SameMatch -/
def m_i_SameMatch (N : Nat) (p0 : TMatch) (p1 : TMatch) : Option (Bool) :=
  ((if decide (p0.Rule = p1.Rule) then ((m_sl_Equal_Sint_int N p0.Ids p1.Ids).bind fun x1 => some x1) else some false).bind fun b1 => some b1)
/-! laws.szMatch -/
def m_l_szMatch (N : Nat) (p0 : TMatch) (p1 : Int) : Option (Int) :=
  ((m_l_szIntS N p0.Ids p1).bind fun x1 => (if decide (x1 < 0) then some (-1) else ((m_l_szBindS N p0.Binds x1).bind fun x2 => (if decide (x2 < 0) then some (-1) else some x2))))
/-! spec.SameMatch -/
def m_s_SameMatch (N : Nat) (p0 : TMatch) (p1 : TMatch) : Option (Bool) :=
  ((if decide (p0.Rule = p1.Rule) then ((m_s_l11Same N p0.Ids p1.Ids).bind fun x1 => some x1) else some false).bind fun b1 => some b1)
/-! laws.toMatch -/
def m_l_toMatch (N : Nat) (p0 : TMatch) : Option (TMatch) :=
  ((m_l_toIntS N p0.Ids).bind fun x1 => ((m_l_toBindS N p0.Binds).bind fun x2 => some (⟨p0.Rule, x1, x2⟩ : TMatch)))
/-! laws.eqMatch -/
def m_l_eqMatch (N : Nat) (p0 : TMatch) (p1 : TMatch) : Option (Bool) :=
  (if !decide (p0.Rule = p1.Rule) then some false else ((m_l_eqIntS N p0.Ids p1.Ids).bind fun x1 => (if !x1 then some false else ((m_l_eqBindS N p0.Binds p1.Binds).bind fun x2 => (if !x2 then some false else some true)))))
/-! laws.FnExactSameMatch -/
def m_l_FnExactSameMatch (N : Nat) (p0 : TMatch) (p1 : TMatch) : Option (Bool) :=
  ((m_l_szMatch N p0 1048576).bind fun x1 => (if decide (x1 < 0) then some true else ((m_l_szMatch N p1 x1).bind fun x2 => (if decide (x2 < 0) then some true else ((m_l_toMatch N p0).bind fun x3 => ((m_l_toMatch N p1).bind fun x4 => ((m_s_SameMatch N x3 x4).bind fun x5 => ((m_l_toMatch N p0).bind fun x6 => ((m_l_toMatch N p1).bind fun x7 => ((m_i_SameMatch N x6 x7).bind fun x8 => (if (x8 != x5) then some false else ((m_l_toMatch N p0).bind fun x9 => ((m_l_eqMatch N x6 x9).bind fun x10 => (if !x10 then some false else ((m_l_toMatch N p1).bind fun x11 => ((m_l_eqMatch N x7 x11).bind fun x12 => (if !x12 then some false else some true)))))))))))))))))
end Go.Proofs.Ytpajhchhkfnieaa
