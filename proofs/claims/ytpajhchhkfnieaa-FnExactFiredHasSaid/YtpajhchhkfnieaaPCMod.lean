/- Printed by a program of ours: Lean functions of plain data for the Go functions. -/
import Derived.Test.YtpajhchhkfnieaaEng11
namespace Go.Proofs.Ytpajhchhkfnieaa
open Eng
set_option linter.unusedVariables false
set_option linter.unusedSimpArgs false

structure TVal where
  K : Int
  N : Int
  S : ByteArray
  deriving DecidableEq
def RTVal (Φ : Hp) (F : List Nat) (cs : List Value) (x : TVal) : Prop :=
  cs = [.int .i64 x.K, .int .i64 x.N, .string x.S] ∧ F = []
theorem RTVal.mono : ∀ Φ Φ' F cs x, Hle Φ Φ' → RTVal Φ F cs x → RTVal Φ' F cs x := fun _ _ _ _ _ _ h => h
theorem RTVal.one : ∀ Φ F cs x, RTVal Φ F cs x → ∀ v ∈ cs, v.oneCell' = true := fun _ _ _ _ h => by obtain ⟨rfl, -⟩ := h; exact One.all ⟨rfl, rfl, rfl, trivial⟩
structure TBind where
  Name : ByteArray
  V : TVal
  deriving DecidableEq
def RTBind (Φ : Hp) (F : List Nat) (cs : List Value) (x : TBind) : Prop :=
  cs = [.string x.Name, .int .i64 x.V.K, .int .i64 x.V.N, .string x.V.S] ∧ F = []
theorem RTBind.mono : ∀ Φ Φ' F cs x, Hle Φ Φ' → RTBind Φ F cs x → RTBind Φ' F cs x := fun _ _ _ _ _ _ h => h
theorem RTBind.one : ∀ Φ F cs x, RTBind Φ F cs x → ∀ v ∈ cs, v.oneCell' = true := fun _ _ _ _ h => by obtain ⟨rfl, -⟩ := h; exact One.all ⟨rfl, rfl, rfl, rfl, trivial⟩
structure TMatch where
  Rule : Int
  Ids : (List Int)
  Binds : (List TBind)
  deriving DecidableEq
def RTMatch (Φ : Hp) (F : List Nat) (cs : List Value) (x : TMatch) : Prop :=
  ∃ (s0 : Value) (F0 : List Nat) (s1 : Value) (F1 : List Nat), cs = [.int .i64 x.Rule, s0, s1] ∧ F = F0 ++ F1 ∧ RSl (RI .i64) 1 Φ F0 s0 x.Ids ∧ RSl RTBind 4 Φ F1 s1 x.Binds
theorem RTMatch.mono : ∀ Φ Φ' F cs x, Hle Φ Φ' → RTMatch Φ F cs x → RTMatch Φ' F cs x := fun _ _ _ _ _ hle ⟨s0, F0, s1, F1, hc, hF, h0, h1⟩ => ⟨s0, F0, s1, F1, hc, hF, RSl.mono RI.mono hle h0, RSl.mono RTBind.mono hle h1⟩
theorem RTMatch.one : ∀ Φ F cs x, RTMatch Φ F cs x → ∀ v ∈ cs, v.oneCell' = true := fun _ _ _ _ h => by obtain ⟨s0, F0, s1, F1, rfl, -, h0, h1⟩ := h; exact One.all ⟨rfl, RSl.one h0, RSl.one h1, trivial⟩
/-! slices.IndexFunc[[]impl.Match,impl.Match] -/
def m_sl_IndexFunc_Si_Match_i_Match_l1 (N : Nat) (p0 : (List TMatch)) (p1 : TMatch → Option (Bool)) : Nat → Int → Option (Int)
  | 0, _ => none
  | k + 1, s1 =>
    (if decide (s1 < (p0.length : Int)) then ((idx p0 s1).bind fun x1 => ((p1 x1).bind fun x2 => (if x2 then some s1 else ((m_sl_IndexFunc_Si_Match_i_Match_l1 N p0 p1 k) (IntKind.i64.wrap (s1 + 1)))))) else some (-1))
def m_sl_IndexFunc_Si_Match_i_Match (N : Nat) (p0 : (List TMatch)) (p1 : TMatch → Option (Bool)) : Option (Int) :=
  m_sl_IndexFunc_Si_Match_i_Match_l1 N p0 p1 N 0
/-! slices.ContainsFunc[[]impl.Match,impl.Match] -/
def m_sl_ContainsFunc_Si_Match_i_Match (N : Nat) (p0 : (List TMatch)) (p1 : TMatch → Option (Bool)) : Option (Bool) :=
  ((m_sl_IndexFunc_Si_Match_i_Match N p0 p1).bind fun x1 => some (decide (0 ≤ x1)))
/-! slices.Equal[[]int,int] -/
def m_sl_Equal_Sint_int_l1 (N : Nat) (p0 : (List Int)) (p1 : (List Int)) : Nat → Int → Option (Bool)
  | 0, _ => none
  | k + 1, s1 =>
    (if decide (s1 < (p0.length : Int)) then ((idx p0 s1).bind fun x1 => ((idx p1 s1).bind fun x2 => (if !decide (x1 = x2) then some false else ((m_sl_Equal_Sint_int_l1 N p0 p1 k) (IntKind.i64.wrap (s1 + 1)))))) else some true)
def m_sl_Equal_Sint_int (N : Nat) (p0 : (List Int)) (p1 : (List Int)) : Option (Bool) :=
  (if !decide ((p0.length : Int) = (p1.length : Int)) then some false else m_sl_Equal_Sint_int_l1 N p0 p1 N 0)
/-! impl.SameMatch -/
def m_i_SameMatch (N : Nat) (p0 : TMatch) (p1 : TMatch) : Option (Bool) :=
  ((if decide (p0.Rule = p1.Rule) then ((m_sl_Equal_Sint_int N p0.Ids p1.Ids).bind fun x1 => some x1) else some false).bind fun b1 => some b1)
/-! impl.FiredHas$1 -/
def m_i_FiredHas_c1 (N : Nat) (p0 : TMatch) (c0 : TMatch) : Option (Bool) :=
  ((m_i_SameMatch N p0 c0).bind fun x1 => some x1)
/-! impl.FiredHas -/
def m_i_FiredHas (N : Nat) (p0 : (List TMatch)) (p1 : TMatch) : Option (Bool) :=
  ((m_sl_ContainsFunc_Si_Match_i_Match N p0 (fun a0 => m_i_FiredHas_c1 N a0 p1)).bind fun x1 => some x1)
/-! laws.szVal -/
def m_l_szVal (N : Nat) (p0 : TVal) (p1 : Int) : Option (Int) :=
  (if decide (IntKind.i64.wrap (p1 - (p0.S.size : Int)) < 0) then some (-1) else some (IntKind.i64.wrap (p1 - (p0.S.size : Int))))
/-! laws.szBind -/
def m_l_szBind (N : Nat) (p0 : TBind) (p1 : Int) : Option (Int) :=
  (if decide (IntKind.i64.wrap (p1 - (p0.Name.size : Int)) < 0) then some (-1) else ((m_l_szVal N p0.V (IntKind.i64.wrap (p1 - (p0.Name.size : Int)))).bind fun x1 => (if decide (x1 < 0) then some (-1) else some x1)))
/-! laws.szBindS -/
def m_l_szBindS_l1 (N : Nat) (p0 : (List TBind)) : Nat → Int → Int → Option (Int)
  | 0, _, _ => none
  | k + 1, s1, s2 =>
    (if decide (s2 < (p0.length : Int)) then ((idx p0 s2).bind fun x1 => ((m_l_szBind N x1 s1).bind fun x2 => (if decide (x2 < 0) then some (-1) else ((m_l_szBindS_l1 N p0 k) x2 (IntKind.i64.wrap (s2 + 1)))))) else some s1)
def m_l_szBindS (N : Nat) (p0 : (List TBind)) (p1 : Int) : Option (Int) :=
  (if decide (IntKind.i64.wrap (p1 - (p0.length : Int)) < 0) then some (-1) else m_l_szBindS_l1 N p0 N (IntKind.i64.wrap (p1 - (p0.length : Int))) 0)
/-! laws.szIntS -/
def m_l_szIntS (N : Nat) (p0 : (List Int)) (p1 : Int) : Option (Int) :=
  (if decide (IntKind.i64.wrap (p1 - (p0.length : Int)) < 0) then some (-1) else some (IntKind.i64.wrap (p1 - (p0.length : Int))))
/-! laws.szMatch -/
def m_l_szMatch (N : Nat) (p0 : TMatch) (p1 : Int) : Option (Int) :=
  ((m_l_szIntS N p0.Ids p1).bind fun x1 => (if decide (x1 < 0) then some (-1) else ((m_l_szBindS N p0.Binds x1).bind fun x2 => (if decide (x2 < 0) then some (-1) else some x2))))
/-! laws.toVal -/
def m_l_toVal (N : Nat) (p0 : TVal) : Option (TVal) :=
  some p0
/-! laws.toBind -/
def m_l_toBind (N : Nat) (p0 : TBind) : Option (TBind) :=
  ((m_l_toVal N p0.V).bind fun x1 => some (⟨p0.Name, x1⟩ : TBind))
/-! laws.toBindS -/
def m_l_toBindS_l1 (N : Nat) (p0 : (List TBind)) : Nat → Int → (List TBind) → Option ((List TBind))
  | 0, _, _ => none
  | k + 1, s1, s2 =>
    (if decide (s1 < (p0.length : Int)) then ((idx p0 s1).bind fun x2 => ((m_l_toBind N x2).bind fun x3 => ((idx s2 s1).bind fun x4 => ((m_l_toBindS_l1 N p0 k) (IntKind.i64.wrap (s1 + 1)) (s2.set s1.toNat x3))))) else some s2)
def m_l_toBindS (N : Nat) (p0 : (List TBind)) : Option ((List TBind)) :=
  ((mk (⟨(⟨#[]⟩ : ByteArray), (⟨0, 0, (⟨#[]⟩ : ByteArray)⟩ : TVal)⟩ : TBind) (p0.length : Int)).bind fun x1 => m_l_toBindS_l1 N p0 N 0 x1)
/-! laws.toIntS -/
def m_l_toIntS_l1 (N : Nat) (p0 : (List Int)) : Nat → Int → (List Int) → Option ((List Int))
  | 0, _, _ => none
  | k + 1, s1, s2 =>
    (if decide (s1 < (p0.length : Int)) then ((idx p0 s1).bind fun x2 => ((idx s2 s1).bind fun x3 => ((m_l_toIntS_l1 N p0 k) (IntKind.i64.wrap (s1 + 1)) (s2.set s1.toNat x2)))) else some s2)
def m_l_toIntS (N : Nat) (p0 : (List Int)) : Option ((List Int)) :=
  ((mk 0 (p0.length : Int)).bind fun x1 => m_l_toIntS_l1 N p0 N 0 x1)
/-! laws.toMatch -/
def m_l_toMatch (N : Nat) (p0 : TMatch) : Option (TMatch) :=
  ((m_l_toIntS N p0.Ids).bind fun x1 => ((m_l_toBindS N p0.Binds).bind fun x2 => some (⟨p0.Rule, x1, x2⟩ : TMatch)))
/-! laws.eqVal -/
def m_l_eqVal (N : Nat) (p0 : TVal) (p1 : TVal) : Option (Bool) :=
  (if !decide (p0.K = p1.K) then some false else (if !decide (p0.N = p1.N) then some false else (if !seq p0.S p1.S then some false else some true)))
/-! laws.eqBind -/
def m_l_eqBind (N : Nat) (p0 : TBind) (p1 : TBind) : Option (Bool) :=
  (if !seq p0.Name p1.Name then some false else ((m_l_eqVal N p0.V p1.V).bind fun x1 => (if !x1 then some false else some true)))
/-! laws.eqBindS -/
def m_l_eqBindS_l1 (N : Nat) (p0 : (List TBind)) (p1 : (List TBind)) : Nat → Int → Option (Bool)
  | 0, _ => none
  | k + 1, s1 =>
    (if decide (s1 < (p0.length : Int)) then ((idx p0 s1).bind fun x1 => ((idx p1 s1).bind fun x2 => ((m_l_eqBind N x1 x2).bind fun x3 => (if !x3 then some false else ((m_l_eqBindS_l1 N p0 p1 k) (IntKind.i64.wrap (s1 + 1))))))) else some true)
def m_l_eqBindS (N : Nat) (p0 : (List TBind)) (p1 : (List TBind)) : Option (Bool) :=
  (if !decide ((p0.length : Int) = (p1.length : Int)) then some false else m_l_eqBindS_l1 N p0 p1 N 0)
/-! laws.eqIntS -/
def m_l_eqIntS_l1 (N : Nat) (p0 : (List Int)) (p1 : (List Int)) : Nat → Int → Option (Bool)
  | 0, _ => none
  | k + 1, s1 =>
    (if decide (s1 < (p0.length : Int)) then ((idx p0 s1).bind fun x1 => ((idx p1 s1).bind fun x2 => (if !decide (x1 = x2) then some false else ((m_l_eqIntS_l1 N p0 p1 k) (IntKind.i64.wrap (s1 + 1)))))) else some true)
def m_l_eqIntS (N : Nat) (p0 : (List Int)) (p1 : (List Int)) : Option (Bool) :=
  (if !decide ((p0.length : Int) = (p1.length : Int)) then some false else m_l_eqIntS_l1 N p0 p1 N 0)
/-! laws.eqMatch -/
def m_l_eqMatch (N : Nat) (p0 : TMatch) (p1 : TMatch) : Option (Bool) :=
  (if !decide (p0.Rule = p1.Rule) then some false else ((m_l_eqIntS N p0.Ids p1.Ids).bind fun x1 => (if !x1 then some false else ((m_l_eqBindS N p0.Binds p1.Binds).bind fun x2 => (if !x2 then some false else some true)))))
/-! laws.szMatchS -/
def m_l_szMatchS_l1 (N : Nat) (p0 : (List TMatch)) : Nat → Int → Int → Option (Int)
  | 0, _, _ => none
  | k + 1, s1, s2 =>
    (if decide (s2 < (p0.length : Int)) then ((idx p0 s2).bind fun x1 => ((m_l_szMatch N x1 s1).bind fun x2 => (if decide (x2 < 0) then some (-1) else ((m_l_szMatchS_l1 N p0 k) x2 (IntKind.i64.wrap (s2 + 1)))))) else some s1)
def m_l_szMatchS (N : Nat) (p0 : (List TMatch)) (p1 : Int) : Option (Int) :=
  (if decide (IntKind.i64.wrap (p1 - (p0.length : Int)) < 0) then some (-1) else m_l_szMatchS_l1 N p0 N (IntKind.i64.wrap (p1 - (p0.length : Int))) 0)
/-! spec.l11Same -/
def m_s_l11Same_l1 (N : Nat) (p0 : (List Int)) (p1 : (List Int)) : Nat → Int → Option (Bool)
  | 0, _ => none
  | k + 1, s1 =>
    (if decide (s1 < (p0.length : Int)) then ((idx p0 s1).bind fun x1 => ((idx p1 s1).bind fun x2 => (if !decide (x1 = x2) then some false else ((m_s_l11Same_l1 N p0 p1 k) (IntKind.i64.wrap (s1 + 1)))))) else some true)
def m_s_l11Same (N : Nat) (p0 : (List Int)) (p1 : (List Int)) : Option (Bool) :=
  (if !decide ((p0.length : Int) = (p1.length : Int)) then some false else m_s_l11Same_l1 N p0 p1 N 0)
/-! spec.SameMatch -/
def m_s_SameMatch (N : Nat) (p0 : TMatch) (p1 : TMatch) : Option (Bool) :=
  ((if decide (p0.Rule = p1.Rule) then ((m_s_l11Same N p0.Ids p1.Ids).bind fun x1 => some x1) else some false).bind fun b1 => some b1)
/-! spec.FiredHas -/
def m_s_FiredHas_l1 (N : Nat) (p0 : (List TMatch)) (p1 : TMatch) : Nat → Int → Option (Bool)
  | 0, _ => none
  | k + 1, s1 =>
    (if decide (s1 < (p0.length : Int)) then ((idx p0 s1).bind fun x1 => ((m_s_SameMatch N x1 p1).bind fun x2 => (if x2 then some true else ((m_s_FiredHas_l1 N p0 p1 k) (IntKind.i64.wrap (s1 + 1)))))) else some false)
def m_s_FiredHas (N : Nat) (p0 : (List TMatch)) (p1 : TMatch) : Option (Bool) :=
  m_s_FiredHas_l1 N p0 p1 N 0
/-! laws.toMatchS -/
def m_l_toMatchS_l1 (N : Nat) (p0 : (List TMatch)) : Nat → Int → (List TMatch) → Option ((List TMatch))
  | 0, _, _ => none
  | k + 1, s1, s2 =>
    (if decide (s1 < (p0.length : Int)) then ((idx p0 s1).bind fun x2 => ((m_l_toMatch N x2).bind fun x3 => ((idx s2 s1).bind fun x4 => ((m_l_toMatchS_l1 N p0 k) (IntKind.i64.wrap (s1 + 1)) (s2.set s1.toNat x3))))) else some s2)
def m_l_toMatchS (N : Nat) (p0 : (List TMatch)) : Option ((List TMatch)) :=
  ((mk (⟨0, ([] : List Int), ([] : List TBind)⟩ : TMatch) (p0.length : Int)).bind fun x1 => m_l_toMatchS_l1 N p0 N 0 x1)
/-! laws.eqMatchS -/
def m_l_eqMatchS_l1 (N : Nat) (p0 : (List TMatch)) (p1 : (List TMatch)) : Nat → Int → Option (Bool)
  | 0, _ => none
  | k + 1, s1 =>
    (if decide (s1 < (p0.length : Int)) then ((idx p0 s1).bind fun x1 => ((idx p1 s1).bind fun x2 => ((m_l_eqMatch N x1 x2).bind fun x3 => (if !x3 then some false else ((m_l_eqMatchS_l1 N p0 p1 k) (IntKind.i64.wrap (s1 + 1))))))) else some true)
def m_l_eqMatchS (N : Nat) (p0 : (List TMatch)) (p1 : (List TMatch)) : Option (Bool) :=
  (if !decide ((p0.length : Int) = (p1.length : Int)) then some false else m_l_eqMatchS_l1 N p0 p1 N 0)
/-! laws.FnExactFiredHas -/
def m_l_FnExactFiredHas (N : Nat) (p0 : (List TMatch)) (p1 : TMatch) : Option (Bool) :=
  ((m_l_szMatchS N p0 1048576).bind fun x1 => (if decide (x1 < 0) then some true else ((m_l_szMatch N p1 x1).bind fun x2 => (if decide (x2 < 0) then some true else ((m_l_toMatchS N p0).bind fun x3 => ((m_l_toMatch N p1).bind fun x4 => ((m_s_FiredHas N x3 x4).bind fun x5 => ((m_l_toMatchS N p0).bind fun x6 => ((m_l_toMatch N p1).bind fun x7 => ((m_i_FiredHas N x6 x7).bind fun x8 => (if (x8 != x5) then some false else ((m_l_toMatchS N p0).bind fun x9 => ((m_l_eqMatchS N x6 x9).bind fun x10 => (if !x10 then some false else ((m_l_toMatch N p1).bind fun x11 => ((m_l_eqMatch N x7 x11).bind fun x12 => (if !x12 then some false else some true)))))))))))))))))
end Go.Proofs.Ytpajhchhkfnieaa
