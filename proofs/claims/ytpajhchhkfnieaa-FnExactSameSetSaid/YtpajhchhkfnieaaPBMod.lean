/- Printed by a program of ours: Lean functions of plain data for the Go functions. -/
import Derived.Test.YtpajhchhkfnieaaEng11
namespace Go.Proofs.Ytpajhchhkfnieaa
open Eng
set_option linter.unusedVariables false
set_option linter.unusedSimpArgs false

structure TVal where
  K : Int
  N : Int
  S : ByteArray
  deriving DecidableEq
def RTVal (Φ : Hp) (F : List Nat) (cs : List Value) (x : TVal) : Prop :=
  cs = [.int .i64 x.K, .int .i64 x.N, .string x.S] ∧ F = []
theorem RTVal.mono : ∀ Φ Φ' F cs x, Hle Φ Φ' → RTVal Φ F cs x → RTVal Φ' F cs x := fun _ _ _ _ _ _ h => h
theorem RTVal.one : ∀ Φ F cs x, RTVal Φ F cs x → ∀ v ∈ cs, v.oneCell' = true := fun _ _ _ _ h => by obtain ⟨rfl, -⟩ := h; exact One.all ⟨rfl, rfl, rfl, trivial⟩
structure TBind where
  Name : ByteArray
  V : TVal
  deriving DecidableEq
def RTBind (Φ : Hp) (F : List Nat) (cs : List Value) (x : TBind) : Prop :=
  cs = [.string x.Name, .int .i64 x.V.K, .int .i64 x.V.N, .string x.V.S] ∧ F = []
theorem RTBind.mono : ∀ Φ Φ' F cs x, Hle Φ Φ' → RTBind Φ F cs x → RTBind Φ' F cs x := fun _ _ _ _ _ _ h => h
theorem RTBind.one : ∀ Φ F cs x, RTBind Φ F cs x → ∀ v ∈ cs, v.oneCell' = true := fun _ _ _ _ h => by obtain ⟨rfl, -⟩ := h; exact One.all ⟨rfl, rfl, rfl, rfl, trivial⟩
structure TMatch where
  Rule : Int
  Ids : (List Int)
  Binds : (List TBind)
  deriving DecidableEq
def RTMatch (Φ : Hp) (F : List Nat) (cs : List Value) (x : TMatch) : Prop :=
  ∃ (s0 : Value) (F0 : List Nat) (s1 : Value) (F1 : List Nat), cs = [.int .i64 x.Rule, s0, s1] ∧ F = F0 ++ F1 ∧ RSl (RI .i64) 1 Φ F0 s0 x.Ids ∧ RSl RTBind 4 Φ F1 s1 x.Binds
theorem RTMatch.mono : ∀ Φ Φ' F cs x, Hle Φ Φ' → RTMatch Φ F cs x → RTMatch Φ' F cs x := fun _ _ _ _ _ hle ⟨s0, F0, s1, F1, hc, hF, h0, h1⟩ => ⟨s0, F0, s1, F1, hc, hF, RSl.mono RI.mono hle h0, RSl.mono RTBind.mono hle h1⟩
theorem RTMatch.one : ∀ Φ F cs x, RTMatch Φ F cs x → ∀ v ∈ cs, v.oneCell' = true := fun _ _ _ _ h => by obtain ⟨s0, F0, s1, F1, rfl, -, h0, h1⟩ := h; exact One.all ⟨rfl, RSl.one h0, RSl.one h1, trivial⟩
def eqT_TBind (x y : TBind) : Bool := (seq x.Name y.Name && ((x.V.K == y.V.K) && ((x.V.N == y.V.N) && (seq x.V.S y.V.S && true))))
theorem seq_dec (a b : ByteArray) : seq a b = decide (a = b) := by
  unfold seq
  by_cases h : a = b
  · subst h; simp
  · have : ¬ a.toList = b.toList := fun e => h (by rw [ByteArray.toList_eq, ByteArray.toList_eq] at e; exact ByteArray.ext (Array.toList_inj.1 e))
    simp [h, this]
theorem eqT_TBind_eq (x y : TBind) : eqT_TBind x y = decide (x = y) := by
  obtain ⟨a0, ⟨a10, a11, a12⟩⟩ := x; obtain ⟨b0, ⟨b10, b11, b12⟩⟩ := y
  rw [Bool.eq_iff_iff]
  simp only [eqT_TBind, seq_dec, Bool.and_true, Bool.and_eq_true, beq_iff_eq, decide_eq_true_eq, TBind.mk.injEq, TVal.mk.injEq, and_assoc]
/-! cmp.Or[int] -/
def m_cmp_Or_int_l1 (N : Nat) (p0 : (List Int)) : Nat → Int → Option (Int)
  | 0, _ => none
  | k + 1, s1 =>
    (if decide (s1 < (p0.length : Int)) then ((idx p0 s1).bind fun x1 => (if !decide (x1 = 0) then some x1 else ((m_cmp_Or_int_l1 N p0 k) (IntKind.i64.wrap (s1 + 1))))) else some 0)
def m_cmp_Or_int (N : Nat) (p0 : (List Int)) : Option (Int) :=
  m_cmp_Or_int_l1 N p0 N 0
/-! cmp.isNaN[int] -/
def m_cmp_isNaN_int (N : Nat) (p0 : Int) : Option (Bool) :=
  some (!decide (p0 = p0))
/-! cmp.Compare[int] -/
def m_cmp_Compare_int (N : Nat) (p0 : Int) (p1 : Int) : Option (Int) :=
  ((m_cmp_isNaN_int N p0).bind fun x1 => ((m_cmp_isNaN_int N p1).bind fun x2 => (if x1 then (if x2 then some 0 else some (-1)) else (if x2 then some 1 else (if decide (p0 < p1) then some (-1) else (if decide (p1 < p0) then some 1 else some 0))))))
/-! slices.Compare[[]int,int] -/
def m_sl_Compare_Sint_int_l1 (N : Nat) (p0 : (List Int)) (p1 : (List Int)) : Nat → Int → Option (Int)
  | 0, _ => none
  | k + 1, s1 =>
    (if decide (s1 < (p0.length : Int)) then ((idx p0 s1).bind fun x1 => (if decide ((p1.length : Int) ≤ s1) then some 1 else ((idx p1 s1).bind fun x2 => ((m_cmp_Compare_int N x1 x2).bind fun x3 => (if !decide (x3 = 0) then some x3 else ((m_sl_Compare_Sint_int_l1 N p0 p1 k) (IntKind.i64.wrap (s1 + 1)))))))) else (if decide ((p0.length : Int) < (p1.length : Int)) then some (-1) else some 0))
def m_sl_Compare_Sint_int (N : Nat) (p0 : (List Int)) (p1 : (List Int)) : Option (Int) :=
  m_sl_Compare_Sint_int_l1 N p0 p1 N 0
/-! impl.compareMatches -/
def m_i_compareMatches (N : Nat) (p0 : TMatch) (p1 : TMatch) : Option (Int) :=
  ((m_cmp_Compare_int N p0.Rule p1.Rule).bind fun x1 => ((m_cmp_Compare_int N (p0.Ids.length : Int) (p1.Ids.length : Int)).bind fun x2 => ((m_cmp_Or_int N ([x1, x2] : List Int)).bind fun x3 => (if decide (x3 = 0) then ((m_sl_Compare_Sint_int N p0.Ids p1.Ids).bind fun x4 => some x4) else some x3))))
/-! impl.LessMatch -/
def m_i_LessMatch (N : Nat) (p0 : TMatch) (p1 : TMatch) : Option (Bool) :=
  ((m_i_compareMatches N p0 p1).bind fun x1 => some (decide (x1 < 0)))
/-! spec.LessMatch -/
def m_s_LessMatch_l1 (N : Nat) (p0 : TMatch) (p1 : TMatch) : Nat → Int → Option (Bool)
  | 0, _ => none
  | k + 1, s1 =>
    (if decide (s1 < (p0.Ids.length : Int)) then ((idx p0.Ids s1).bind fun x1 => ((idx p1.Ids s1).bind fun x2 => (if !decide (x1 = x2) then ((idx p0.Ids s1).bind fun x3 => ((idx p1.Ids s1).bind fun x4 => some (decide (x3 < x4)))) else ((m_s_LessMatch_l1 N p0 p1 k) (IntKind.i64.wrap (s1 + 1)))))) else some false)
def m_s_LessMatch (N : Nat) (p0 : TMatch) (p1 : TMatch) : Option (Bool) :=
  (if !decide (p0.Rule = p1.Rule) then some (decide (p0.Rule < p1.Rule)) else (if !decide ((p0.Ids.length : Int) = (p1.Ids.length : Int)) then some (decide ((p0.Ids.length : Int) < (p1.Ids.length : Int))) else m_s_LessMatch_l1 N p0 p1 N 0))
/-! laws.szVal -/
def m_l_szVal (N : Nat) (p0 : TVal) (p1 : Int) : Option (Int) :=
  (if decide (IntKind.i64.wrap (p1 - (p0.S.size : Int)) < 0) then some (-1) else some (IntKind.i64.wrap (p1 - (p0.S.size : Int))))
/-! laws.szBind -/
def m_l_szBind (N : Nat) (p0 : TBind) (p1 : Int) : Option (Int) :=
  (if decide (IntKind.i64.wrap (p1 - (p0.Name.size : Int)) < 0) then some (-1) else ((m_l_szVal N p0.V (IntKind.i64.wrap (p1 - (p0.Name.size : Int)))).bind fun x1 => (if decide (x1 < 0) then some (-1) else some x1)))
/-! laws.szBindS -/
def m_l_szBindS_l1 (N : Nat) (p0 : (List TBind)) : Nat → Int → Int → Option (Int)
  | 0, _, _ => none
  | k + 1, s1, s2 =>
    (if decide (s2 < (p0.length : Int)) then ((idx p0 s2).bind fun x1 => ((m_l_szBind N x1 s1).bind fun x2 => (if decide (x2 < 0) then some (-1) else ((m_l_szBindS_l1 N p0 k) x2 (IntKind.i64.wrap (s2 + 1)))))) else some s1)
def m_l_szBindS (N : Nat) (p0 : (List TBind)) (p1 : Int) : Option (Int) :=
  (if decide (IntKind.i64.wrap (p1 - (p0.length : Int)) < 0) then some (-1) else m_l_szBindS_l1 N p0 N (IntKind.i64.wrap (p1 - (p0.length : Int))) 0)
/-! laws.szIntS -/
def m_l_szIntS (N : Nat) (p0 : (List Int)) (p1 : Int) : Option (Int) :=
  (if decide (IntKind.i64.wrap (p1 - (p0.length : Int)) < 0) then some (-1) else some (IntKind.i64.wrap (p1 - (p0.length : Int))))
/-! laws.szMatch -/
def m_l_szMatch (N : Nat) (p0 : TMatch) (p1 : Int) : Option (Int) :=
  ((m_l_szIntS N p0.Ids p1).bind fun x1 => (if decide (x1 < 0) then some (-1) else ((m_l_szBindS N p0.Binds x1).bind fun x2 => (if decide (x2 < 0) then some (-1) else some x2))))
/-! laws.toVal -/
def m_l_toVal (N : Nat) (p0 : TVal) : Option (TVal) :=
  some p0
/-! laws.toBind -/
def m_l_toBind (N : Nat) (p0 : TBind) : Option (TBind) :=
  ((m_l_toVal N p0.V).bind fun x1 => some (⟨p0.Name, x1⟩ : TBind))
/-! laws.toBindS -/
def m_l_toBindS_l1 (N : Nat) (p0 : (List TBind)) : Nat → Int → (List TBind) → Option ((List TBind))
  | 0, _, _ => none
  | k + 1, s1, s2 =>
    (if decide (s1 < (p0.length : Int)) then ((idx p0 s1).bind fun x2 => ((m_l_toBind N x2).bind fun x3 => ((idx s2 s1).bind fun x4 => ((m_l_toBindS_l1 N p0 k) (IntKind.i64.wrap (s1 + 1)) (s2.set s1.toNat x3))))) else some s2)
def m_l_toBindS (N : Nat) (p0 : (List TBind)) : Option ((List TBind)) :=
  ((mk (⟨(⟨#[]⟩ : ByteArray), (⟨0, 0, (⟨#[]⟩ : ByteArray)⟩ : TVal)⟩ : TBind) (p0.length : Int)).bind fun x1 => m_l_toBindS_l1 N p0 N 0 x1)
/-! laws.toIntS -/
def m_l_toIntS_l1 (N : Nat) (p0 : (List Int)) : Nat → Int → (List Int) → Option ((List Int))
  | 0, _, _ => none
  | k + 1, s1, s2 =>
    (if decide (s1 < (p0.length : Int)) then ((idx p0 s1).bind fun x2 => ((idx s2 s1).bind fun x3 => ((m_l_toIntS_l1 N p0 k) (IntKind.i64.wrap (s1 + 1)) (s2.set s1.toNat x2)))) else some s2)
def m_l_toIntS (N : Nat) (p0 : (List Int)) : Option ((List Int)) :=
  ((mk 0 (p0.length : Int)).bind fun x1 => m_l_toIntS_l1 N p0 N 0 x1)
/-! laws.toMatch -/
def m_l_toMatch (N : Nat) (p0 : TMatch) : Option (TMatch) :=
  ((m_l_toIntS N p0.Ids).bind fun x1 => ((m_l_toBindS N p0.Binds).bind fun x2 => some (⟨p0.Rule, x1, x2⟩ : TMatch)))
/-! laws.eqVal -/
def m_l_eqVal (N : Nat) (p0 : TVal) (p1 : TVal) : Option (Bool) :=
  (if !decide (p0.K = p1.K) then some false else (if !decide (p0.N = p1.N) then some false else (if !seq p0.S p1.S then some false else some true)))
/-! laws.eqBind -/
def m_l_eqBind (N : Nat) (p0 : TBind) (p1 : TBind) : Option (Bool) :=
  (if !seq p0.Name p1.Name then some false else ((m_l_eqVal N p0.V p1.V).bind fun x1 => (if !x1 then some false else some true)))
/-! laws.eqBindS -/
def m_l_eqBindS_l1 (N : Nat) (p0 : (List TBind)) (p1 : (List TBind)) : Nat → Int → Option (Bool)
  | 0, _ => none
  | k + 1, s1 =>
    (if decide (s1 < (p0.length : Int)) then ((idx p0 s1).bind fun x1 => ((idx p1 s1).bind fun x2 => ((m_l_eqBind N x1 x2).bind fun x3 => (if !x3 then some false else ((m_l_eqBindS_l1 N p0 p1 k) (IntKind.i64.wrap (s1 + 1))))))) else some true)
def m_l_eqBindS (N : Nat) (p0 : (List TBind)) (p1 : (List TBind)) : Option (Bool) :=
  (if !decide ((p0.length : Int) = (p1.length : Int)) then some false else m_l_eqBindS_l1 N p0 p1 N 0)
/-! laws.eqIntS -/
def m_l_eqIntS_l1 (N : Nat) (p0 : (List Int)) (p1 : (List Int)) : Nat → Int → Option (Bool)
  | 0, _ => none
  | k + 1, s1 =>
    (if decide (s1 < (p0.length : Int)) then ((idx p0 s1).bind fun x1 => ((idx p1 s1).bind fun x2 => (if !decide (x1 = x2) then some false else ((m_l_eqIntS_l1 N p0 p1 k) (IntKind.i64.wrap (s1 + 1)))))) else some true)
def m_l_eqIntS (N : Nat) (p0 : (List Int)) (p1 : (List Int)) : Option (Bool) :=
  (if !decide ((p0.length : Int) = (p1.length : Int)) then some false else m_l_eqIntS_l1 N p0 p1 N 0)
/-! laws.eqMatch -/
def m_l_eqMatch (N : Nat) (p0 : TMatch) (p1 : TMatch) : Option (Bool) :=
  (if !decide (p0.Rule = p1.Rule) then some false else ((m_l_eqIntS N p0.Ids p1.Ids).bind fun x1 => (if !x1 then some false else ((m_l_eqBindS N p0.Binds p1.Binds).bind fun x2 => (if !x2 then some false else some true)))))
/-! laws.FnExactLessMatch -/
def m_l_FnExactLessMatch (N : Nat) (p0 : TMatch) (p1 : TMatch) : Option (Bool) :=
  ((m_l_szMatch N p0 1048576).bind fun x1 => (if decide (x1 < 0) then some true else ((m_l_szMatch N p1 x1).bind fun x2 => (if decide (x2 < 0) then some true else ((m_l_toMatch N p0).bind fun x3 => ((m_l_toMatch N p1).bind fun x4 => ((m_s_LessMatch N x3 x4).bind fun x5 => ((m_l_toMatch N p0).bind fun x6 => ((m_l_toMatch N p1).bind fun x7 => ((m_i_LessMatch N x6 x7).bind fun x8 => (if (x8 != x5) then some false else ((m_l_toMatch N p0).bind fun x9 => ((m_l_eqMatch N x6 x9).bind fun x10 => (if !x10 then some false else ((m_l_toMatch N p1).bind fun x11 => ((m_l_eqMatch N x7 x11).bind fun x12 => (if !x12 then some false else some true)))))))))))))))))
/-! laws.szMatchS -/
def m_l_szMatchS_l1 (N : Nat) (p0 : (List TMatch)) : Nat → Int → Int → Option (Int)
  | 0, _, _ => none
  | k + 1, s1, s2 =>
    (if decide (s2 < (p0.length : Int)) then ((idx p0 s2).bind fun x1 => ((m_l_szMatch N x1 s1).bind fun x2 => (if decide (x2 < 0) then some (-1) else ((m_l_szMatchS_l1 N p0 k) x2 (IntKind.i64.wrap (s2 + 1)))))) else some s1)
def m_l_szMatchS (N : Nat) (p0 : (List TMatch)) (p1 : Int) : Option (Int) :=
  (if decide (IntKind.i64.wrap (p1 - (p0.length : Int)) < 0) then some (-1) else m_l_szMatchS_l1 N p0 N (IntKind.i64.wrap (p1 - (p0.length : Int))) 0)
/-! laws.toMatchS -/
def m_l_toMatchS_l1 (N : Nat) (p0 : (List TMatch)) : Nat → Int → (List TMatch) → Option ((List TMatch))
  | 0, _, _ => none
  | k + 1, s1, s2 =>
    (if decide (s1 < (p0.length : Int)) then ((idx p0 s1).bind fun x2 => ((m_l_toMatch N x2).bind fun x3 => ((idx s2 s1).bind fun x4 => ((m_l_toMatchS_l1 N p0 k) (IntKind.i64.wrap (s1 + 1)) (s2.set s1.toNat x3))))) else some s2)
def m_l_toMatchS (N : Nat) (p0 : (List TMatch)) : Option ((List TMatch)) :=
  ((mk (⟨0, ([] : List Int), ([] : List TBind)⟩ : TMatch) (p0.length : Int)).bind fun x1 => m_l_toMatchS_l1 N p0 N 0 x1)
/-! laws.eqMatchS -/
def m_l_eqMatchS_l1 (N : Nat) (p0 : (List TMatch)) (p1 : (List TMatch)) : Nat → Int → Option (Bool)
  | 0, _ => none
  | k + 1, s1 =>
    (if decide (s1 < (p0.length : Int)) then ((idx p0 s1).bind fun x1 => ((idx p1 s1).bind fun x2 => ((m_l_eqMatch N x1 x2).bind fun x3 => (if !x3 then some false else ((m_l_eqMatchS_l1 N p0 p1 k) (IntKind.i64.wrap (s1 + 1))))))) else some true)
def m_l_eqMatchS (N : Nat) (p0 : (List TMatch)) (p1 : (List TMatch)) : Option (Bool) :=
  (if !decide ((p0.length : Int) = (p1.length : Int)) then some false else m_l_eqMatchS_l1 N p0 p1 N 0)
/-! spec.l11Same -/
def m_s_l11Same_l1 (N : Nat) (p0 : (List Int)) (p1 : (List Int)) : Nat → Int → Option (Bool)
  | 0, _ => none
  | k + 1, s1 =>
    (if decide (s1 < (p0.length : Int)) then ((idx p0 s1).bind fun x1 => ((idx p1 s1).bind fun x2 => (if !decide (x1 = x2) then some false else ((m_s_l11Same_l1 N p0 p1 k) (IntKind.i64.wrap (s1 + 1)))))) else some true)
def m_s_l11Same (N : Nat) (p0 : (List Int)) (p1 : (List Int)) : Option (Bool) :=
  (if !decide ((p0.length : Int) = (p1.length : Int)) then some false else m_s_l11Same_l1 N p0 p1 N 0)
/-! spec.SameMatch -/
def m_s_SameMatch (N : Nat) (p0 : TMatch) (p1 : TMatch) : Option (Bool) :=
  ((if decide (p0.Rule = p1.Rule) then ((m_s_l11Same N p0.Ids p1.Ids).bind fun x1 => some x1) else some false).bind fun b1 => some b1)
/-! spec.SameSet -/
def m_s_SameSet_l2 (N : Nat) (p0 : (List TMatch)) (p1 : (List TMatch)) (s1 : Int) (K1 : Int → Option (Bool)) : Nat → Int → Option (Bool)
  | 0, _ => none
  | k + 1, s2 =>
    ((idx p0 s1).bind fun x6 => (if decide (s2 < (x6.Binds.length : Int)) then ((idx p0 s1).bind fun x7 => ((idx x7.Binds s2).bind fun x8 => ((idx p1 s1).bind fun x9 => ((idx x9.Binds s2).bind fun x10 => (if !(eqT_TBind x8 x10) then some false else ((m_s_SameSet_l2 N p0 p1 s1 K1 k) (IntKind.i64.wrap (s2 + 1)))))))) else (K1 (IntKind.i64.wrap (s1 + 1)))))
def m_s_SameSet_l1 (N : Nat) (p0 : (List TMatch)) (p1 : (List TMatch)) : Nat → Int → Option (Bool)
  | 0, _ => none
  | k + 1, s1 =>
    (if decide (s1 < (p0.length : Int)) then ((idx p0 s1).bind fun x1 => ((idx p1 s1).bind fun x2 => ((m_s_SameMatch N x1 x2).bind fun x3 => ((if !x3 then some true else ((idx p0 s1).bind fun x4 => ((idx p1 s1).bind fun x5 => some (!decide ((x4.Binds.length : Int) = (x5.Binds.length : Int)))))).bind fun b1 => (if b1 then some false else m_s_SameSet_l2 N p0 p1 s1 (m_s_SameSet_l1 N p0 p1 k) N 0))))) else some true)
def m_s_SameSet (N : Nat) (p0 : (List TMatch)) (p1 : (List TMatch)) : Option (Bool) :=
  (if !decide ((p0.length : Int) = (p1.length : Int)) then some false else m_s_SameSet_l1 N p0 p1 N 0)
/-! slices.EqualFunc[[]impl.Match,[]impl.Match,impl.Match,impl.Match] -/
def m_sl_EqualFunc_Si_Match_Si_Match_i_Match_i_Match_l1 (N : Nat) (p0 : (List TMatch)) (p1 : (List TMatch)) (p2 : TMatch → TMatch → Option (Bool)) : Nat → Int → Option (Bool)
  | 0, _ => none
  | k + 1, s1 =>
    (if decide (s1 < (p0.length : Int)) then ((idx p0 s1).bind fun x1 => ((idx p1 s1).bind fun x2 => ((p2 x1 x2).bind fun x3 => (if !x3 then some false else ((m_sl_EqualFunc_Si_Match_Si_Match_i_Match_i_Match_l1 N p0 p1 p2 k) (IntKind.i64.wrap (s1 + 1))))))) else some true)
def m_sl_EqualFunc_Si_Match_Si_Match_i_Match_i_Match (N : Nat) (p0 : (List TMatch)) (p1 : (List TMatch)) (p2 : TMatch → TMatch → Option (Bool)) : Option (Bool) :=
  (if !decide ((p0.length : Int) = (p1.length : Int)) then some false else m_sl_EqualFunc_Si_Match_Si_Match_i_Match_i_Match_l1 N p0 p1 p2 N 0)
/-! slices.Equal[[]int,int] -/
def m_sl_Equal_Sint_int_l1 (N : Nat) (p0 : (List Int)) (p1 : (List Int)) : Nat → Int → Option (Bool)
  | 0, _ => none
  | k + 1, s1 =>
    (if decide (s1 < (p0.length : Int)) then ((idx p0 s1).bind fun x1 => ((idx p1 s1).bind fun x2 => (if !decide (x1 = x2) then some false else ((m_sl_Equal_Sint_int_l1 N p0 p1 k) (IntKind.i64.wrap (s1 + 1)))))) else some true)
def m_sl_Equal_Sint_int (N : Nat) (p0 : (List Int)) (p1 : (List Int)) : Option (Bool) :=
  (if !decide ((p0.length : Int) = (p1.length : Int)) then some false else m_sl_Equal_Sint_int_l1 N p0 p1 N 0)
/-! impl.SameMatch -/
def m_i_SameMatch (N : Nat) (p0 : TMatch) (p1 : TMatch) : Option (Bool) :=
  ((if decide (p0.Rule = p1.Rule) then ((m_sl_Equal_Sint_int N p0.Ids p1.Ids).bind fun x1 => some x1) else some false).bind fun b1 => some b1)
/-! slices.Equal[[]impl.Bind,impl.Bind] -/
def m_sl_Equal_Si_Bind_i_Bind_l1 (N : Nat) (p0 : (List TBind)) (p1 : (List TBind)) : Nat → Int → Option (Bool)
  | 0, _ => none
  | k + 1, s1 =>
    (if decide (s1 < (p0.length : Int)) then ((idx p0 s1).bind fun x1 => ((idx p1 s1).bind fun x2 => (if !(eqT_TBind x1 x2) then some false else ((m_sl_Equal_Si_Bind_i_Bind_l1 N p0 p1 k) (IntKind.i64.wrap (s1 + 1)))))) else some true)
def m_sl_Equal_Si_Bind_i_Bind (N : Nat) (p0 : (List TBind)) (p1 : (List TBind)) : Option (Bool) :=
  (if !decide ((p0.length : Int) = (p1.length : Int)) then some false else m_sl_Equal_Si_Bind_i_Bind_l1 N p0 p1 N 0)
/-! impl.SameSet$1 -/
def m_i_SameSet_c1 (N : Nat) (p0 : TMatch) (p1 : TMatch) : Option (Bool) :=
  ((m_i_SameMatch N p0 p1).bind fun x1 => ((if x1 then ((m_sl_Equal_Si_Bind_i_Bind N p0.Binds p1.Binds).bind fun x2 => some x2) else some false).bind fun b1 => some b1))
/-! impl.SameSet -/
def m_i_SameSet (N : Nat) (p0 : (List TMatch)) (p1 : (List TMatch)) : Option (Bool) :=
  ((m_sl_EqualFunc_Si_Match_Si_Match_i_Match_i_Match N p0 p1 (m_i_SameSet_c1 N)).bind fun x1 => some x1)
/-! laws.FnExactSameSet -/
def m_l_FnExactSameSet (N : Nat) (p0 : (List TMatch)) (p1 : (List TMatch)) : Option (Bool) :=
  ((m_l_szMatchS N p0 1048576).bind fun x1 => (if decide (x1 < 0) then some true else ((m_l_szMatchS N p1 x1).bind fun x2 => (if decide (x2 < 0) then some true else ((m_l_toMatchS N p0).bind fun x3 => ((m_l_toMatchS N p1).bind fun x4 => ((m_s_SameSet N x3 x4).bind fun x5 => ((m_l_toMatchS N p0).bind fun x6 => ((m_l_toMatchS N p1).bind fun x7 => ((m_i_SameSet N x6 x7).bind fun x8 => (if (x8 != x5) then some false else ((m_l_toMatchS N p0).bind fun x9 => ((m_l_eqMatchS N x6 x9).bind fun x10 => (if !x10 then some false else ((m_l_toMatchS N p1).bind fun x11 => ((m_l_eqMatchS N x7 x11).bind fun x12 => (if !x12 then some false else some true)))))))))))))))))
/-! slices.Clone[[]int,int] -/
def m_sl_Clone_Sint_int (N : Nat) (p0 : (List Int)) : Option ((List Int)) :=
  ((app ([] : List Int) p0).bind fun x1 => some x1)
/-! slices.Clone[[]impl.Bind,impl.Bind] -/
def m_sl_Clone_Si_Bind_i_Bind (N : Nat) (p0 : (List TBind)) : Option ((List TBind)) :=
  ((app ([] : List TBind) p0).bind fun x1 => some x1)
/-! impl.copyMatch -/
def m_i_copyMatch (N : Nat) (p0 : TMatch) : Option (TMatch) :=
  ((m_sl_Clone_Sint_int N p0.Ids).bind fun x1 => ((m_sl_Clone_Si_Bind_i_Bind N p0.Binds).bind fun x2 => some (⟨p0.Rule, x1, x2⟩ : TMatch)))
end Go.Proofs.Ytpajhchhkfnieaa
