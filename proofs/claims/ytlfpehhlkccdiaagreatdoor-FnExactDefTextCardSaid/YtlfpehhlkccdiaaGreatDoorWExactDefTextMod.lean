/- Printed by a program of ours: Lean functions of plain data for the Go functions. -/
import Derived.Test.YtlfpehhlkccdiaaGreatDoorEM
namespace Go.Proofs.YtlfpehhlkccdiaaGreatDoor
open Eng
set_option linter.unusedVariables false
set_option linter.unusedSimpArgs false

structure TVal where
  K : Int
  N : Int
  S : ByteArray
  deriving DecidableEq
def RTVal (Φ : Hp) (F : List Nat) (cs : List Value) (x : TVal) : Prop := cs = [.int .i64 x.K, .int .i64 x.N, .string x.S] ∧ F = []
theorem RTVal.lasts : Lasts RTVal := fun _ _ _ _ _ _ _ _ h => h
theorem RTVal.knows : Knows RTVal := fun _ _ _ _ h => h.2 ▸ Kw.nil
theorem RTVal.flat : Flat RTVal := fun _ _ _ _ h => h.2
theorem RTVal.one : Ones RTVal := fun _ _ _ _ h => by obtain ⟨rfl, -⟩ := h; exact One.all ⟨rfl, rfl, rfl, trivial⟩
structure TArg where
  K : Int
  S : ByteArray
  V : TVal
  deriving DecidableEq
def RTArg (Φ : Hp) (F : List Nat) (cs : List Value) (x : TArg) : Prop := cs = [.int .i64 x.K, .string x.S, .int .i64 x.V.K, .int .i64 x.V.N, .string x.V.S] ∧ F = []
theorem RTArg.lasts : Lasts RTArg := fun _ _ _ _ _ _ _ _ h => h
theorem RTArg.knows : Knows RTArg := fun _ _ _ _ h => h.2 ▸ Kw.nil
theorem RTArg.flat : Flat RTArg := fun _ _ _ _ h => h.2
theorem RTArg.one : Ones RTArg := fun _ _ _ _ h => by obtain ⟨rfl, -⟩ := h; exact One.all ⟨rfl, rfl, rfl, rfl, rfl, trivial⟩
structure TPat where
  Kind : ByteArray
  Args : (List TArg)
  Not : Bool
  deriving DecidableEq
def RTPat (Φ : Hp) (F : List Nat) (cs : List Value) (x : TPat) : Prop :=
  ∃ (s0 : Value) (F0 : List Nat), cs = [.string x.Kind, s0, .bool x.Not] ∧ F = F0 ∧ RSl RTArg 5 Φ F0 s0 x.Args
theorem RTPat.lasts : Lasts RTPat := fun X Φ Φ' F cs x hf hd ⟨s0, F0, hc, hF, h0⟩ => by
  rw [hF] at hd
  exact ⟨s0, F0, hc, hF, h0.frame RTArg.lasts hf (fun k hk => hd k (by simp [hk]))⟩
theorem RTPat.knows : Knows RTPat := fun Φ F cs x ⟨s0, F0, hc, hF, h0⟩ => hF ▸ h0.kn
theorem RTPat.one : Ones RTPat := fun _ _ _ _ h => by obtain ⟨s0, F0, rfl, -, h0⟩ := h; exact One.all ⟨rfl, h0.one, rfl, trivial⟩
def OTPat (Φ : Hp) (F : List Nat) (cs : List Value) (x : TPat) : Prop :=
  ∃ (s0 : Value), cs = [.string x.Kind, s0, .bool x.Not] ∧ F = (ob s0 ++ []) ∧ OSl RTArg 102 5 Φ [] s0 x.Args
theorem OTPat.lasts : Lasts OTPat := fun X Φ Φ' F cs x hf hd ⟨s0, hc, hF, h0⟩ => by
  rw [hF] at hd
  exact ⟨s0, hc, hF, h0.frame RTArg.lasts hf (fun k hk => hd k (by simp [hk])) (Dj.nil _)⟩
theorem OTPat.knows : Knows OTPat := fun Φ F cs x ⟨s0, hc, hF, h0⟩ => hF ▸ (h0.knO.app h0.kn)
theorem OTPat.one : Ones OTPat := fun _ _ _ _ h => by obtain ⟨s0, rfl, -, h0⟩ := h; exact One.all ⟨rfl, h0.one, rfl, trivial⟩
theorem OTPat.gives : Gives OTPat RTPat := fun Φ F cs x ⟨s0, hc, hF, h0⟩ => ⟨s0, ob s0 ++ [], hc, hF, h0.rslG (Gives.refl _)⟩
structure TCond where
  Op : Int
  L : TArg
  R : TArg
  deriving DecidableEq
def RTCond (Φ : Hp) (F : List Nat) (cs : List Value) (x : TCond) : Prop := cs = [.int .i64 x.Op, .int .i64 x.L.K, .string x.L.S, .int .i64 x.L.V.K, .int .i64 x.L.V.N, .string x.L.V.S, .int .i64 x.R.K, .string x.R.S, .int .i64 x.R.V.K, .int .i64 x.R.V.N, .string x.R.V.S] ∧ F = []
theorem RTCond.lasts : Lasts RTCond := fun _ _ _ _ _ _ _ _ h => h
theorem RTCond.knows : Knows RTCond := fun _ _ _ _ h => h.2 ▸ Kw.nil
theorem RTCond.flat : Flat RTCond := fun _ _ _ _ h => h.2
theorem RTCond.one : Ones RTCond := fun _ _ _ _ h => by obtain ⟨rfl, -⟩ := h; exact One.all ⟨rfl, rfl, rfl, rfl, rfl, rfl, rfl, rfl, rfl, rfl, rfl, trivial⟩
structure TExpr where
  Op : ByteArray
  L : TArg
  R : TArg
  deriving DecidableEq
def RTExpr (Φ : Hp) (F : List Nat) (cs : List Value) (x : TExpr) : Prop := cs = [.string x.Op, .int .i64 x.L.K, .string x.L.S, .int .i64 x.L.V.K, .int .i64 x.L.V.N, .string x.L.V.S, .int .i64 x.R.K, .string x.R.S, .int .i64 x.R.V.K, .int .i64 x.R.V.N, .string x.R.V.S] ∧ F = []
theorem RTExpr.lasts : Lasts RTExpr := fun _ _ _ _ _ _ _ _ h => h
theorem RTExpr.knows : Knows RTExpr := fun _ _ _ _ h => h.2 ▸ Kw.nil
theorem RTExpr.flat : Flat RTExpr := fun _ _ _ _ h => h.2
theorem RTExpr.one : Ones RTExpr := fun _ _ _ _ h => by obtain ⟨rfl, -⟩ := h; exact One.all ⟨rfl, rfl, rfl, rfl, rfl, rfl, rfl, rfl, rfl, rfl, rfl, trivial⟩
structure TAct where
  Kind : Int
  Name : ByteArray
  Args : (List TExpr)
  N : Int
  Undo : ByteArray
  deriving DecidableEq
def RTAct (Φ : Hp) (F : List Nat) (cs : List Value) (x : TAct) : Prop :=
  ∃ (s0 : Value) (F0 : List Nat), cs = [.int .i64 x.Kind, .string x.Name, s0, .int .i64 x.N, .string x.Undo] ∧ F = F0 ∧ RSl RTExpr 11 Φ F0 s0 x.Args
theorem RTAct.lasts : Lasts RTAct := fun X Φ Φ' F cs x hf hd ⟨s0, F0, hc, hF, h0⟩ => by
  rw [hF] at hd
  exact ⟨s0, F0, hc, hF, h0.frame RTExpr.lasts hf (fun k hk => hd k (by simp [hk]))⟩
theorem RTAct.knows : Knows RTAct := fun Φ F cs x ⟨s0, F0, hc, hF, h0⟩ => hF ▸ h0.kn
theorem RTAct.one : Ones RTAct := fun _ _ _ _ h => by obtain ⟨s0, F0, rfl, -, h0⟩ := h; exact One.all ⟨rfl, rfl, h0.one, rfl, rfl, trivial⟩
def OTAct (Φ : Hp) (F : List Nat) (cs : List Value) (x : TAct) : Prop :=
  ∃ (s0 : Value), cs = [.int .i64 x.Kind, .string x.Name, s0, .int .i64 x.N, .string x.Undo] ∧ F = (ob s0 ++ []) ∧ OSl RTExpr 129 11 Φ [] s0 x.Args
theorem OTAct.lasts : Lasts OTAct := fun X Φ Φ' F cs x hf hd ⟨s0, hc, hF, h0⟩ => by
  rw [hF] at hd
  exact ⟨s0, hc, hF, h0.frame RTExpr.lasts hf (fun k hk => hd k (by simp [hk])) (Dj.nil _)⟩
theorem OTAct.knows : Knows OTAct := fun Φ F cs x ⟨s0, hc, hF, h0⟩ => hF ▸ (h0.knO.app h0.kn)
theorem OTAct.one : Ones OTAct := fun _ _ _ _ h => by obtain ⟨s0, rfl, -, h0⟩ := h; exact One.all ⟨rfl, rfl, h0.one, rfl, rfl, trivial⟩
theorem OTAct.gives : Gives OTAct RTAct := fun Φ F cs x ⟨s0, hc, hF, h0⟩ => ⟨s0, ob s0 ++ [], hc, hF, h0.rslG (Gives.refl _)⟩
structure TRule where
  Name : ByteArray
  Sal : Int
  Pats : (List TPat)
  Conds : (List TCond)
  Acts : (List TAct)
  deriving DecidableEq
def RTRule (Φ : Hp) (F : List Nat) (cs : List Value) (x : TRule) : Prop :=
  ∃ (s0 : Value) (F0 : List Nat) (s1 : Value) (F1 : List Nat) (s2 : Value) (F2 : List Nat), cs = [.string x.Name, .int .i64 x.Sal, s0, s1, s2] ∧ F = F0 ++ (F1 ++ (F2)) ∧ RSl RTPat 3 Φ F0 s0 x.Pats ∧ RSl RTCond 11 Φ F1 s1 x.Conds ∧ RSl RTAct 5 Φ F2 s2 x.Acts
theorem RTRule.lasts : Lasts RTRule := fun X Φ Φ' F cs x hf hd ⟨s0, F0, s1, F1, s2, F2, hc, hF, h0, h1, h2⟩ => by
  rw [hF] at hd
  exact ⟨s0, F0, s1, F1, s2, F2, hc, hF, h0.frame RTPat.lasts hf (fun k hk => hd k (by simp [hk])), h1.frame RTCond.lasts hf (fun k hk => hd k (by simp [hk])), h2.frame RTAct.lasts hf (fun k hk => hd k (by simp [hk]))⟩
theorem RTRule.knows : Knows RTRule := fun Φ F cs x ⟨s0, F0, s1, F1, s2, F2, hc, hF, h0, h1, h2⟩ => hF ▸ (h0.kn.app (h1.kn.app h2.kn))
theorem RTRule.one : Ones RTRule := fun _ _ _ _ h => by obtain ⟨s0, F0, s1, F1, s2, F2, rfl, -, h0, h1, h2⟩ := h; exact One.all ⟨rfl, rfl, h0.one, h1.one, h2.one, trivial⟩
def OTRule (Φ : Hp) (F : List Nat) (cs : List Value) (x : TRule) : Prop :=
  ∃ (s0 : Value) (D0 : List Nat) (s1 : Value) (s2 : Value) (D2 : List Nat), cs = [.string x.Name, .int .i64 x.Sal, s0, s1, s2] ∧ F = (ob s0 ++ D0) ++ ((ob s1 ++ []) ++ ((ob s2 ++ D2))) ∧ OSl OTPat 98 3 Φ D0 s0 x.Pats ∧ OSl RTCond 104 11 Φ [] s1 x.Conds ∧ OSl OTAct 108 5 Φ D2 s2 x.Acts
theorem OTRule.lasts : Lasts OTRule := fun X Φ Φ' F cs x hf hd ⟨s0, D0, s1, s2, D2, hc, hF, h0, h1, h2⟩ => by
  rw [hF] at hd
  exact ⟨s0, D0, s1, s2, D2, hc, hF, h0.frame OTPat.lasts hf (fun k hk => hd k (by simp [hk])) (fun k hk => hd k (by simp [hk])), h1.frame RTCond.lasts hf (fun k hk => hd k (by simp [hk])) (Dj.nil _), h2.frame OTAct.lasts hf (fun k hk => hd k (by simp [hk])) (fun k hk => hd k (by simp [hk]))⟩
theorem OTRule.knows : Knows OTRule := fun Φ F cs x ⟨s0, D0, s1, s2, D2, hc, hF, h0, h1, h2⟩ => hF ▸ ((h0.knO.app h0.kn).app ((h1.knO.app h1.kn).app (h2.knO.app h2.kn)))
theorem OTRule.one : Ones OTRule := fun _ _ _ _ h => by obtain ⟨s0, D0, s1, s2, D2, rfl, -, h0, h1, h2⟩ := h; exact One.all ⟨rfl, rfl, h0.one, h1.one, h2.one, trivial⟩
theorem OTRule.gives : Gives OTRule RTRule := fun Φ F cs x ⟨s0, D0, s1, s2, D2, hc, hF, h0, h1, h2⟩ => ⟨s0, ob s0 ++ D0, s1, ob s1 ++ [], s2, ob s2 ++ D2, hc, hF, h0.rslG OTPat.gives, h1.rslG (Gives.refl _), h2.rslG OTAct.gives⟩
structure TDef where
  Name : ByteArray
  Rules : (List TRule)
  deriving DecidableEq
def RTDef (Φ : Hp) (F : List Nat) (cs : List Value) (x : TDef) : Prop :=
  ∃ (s0 : Value) (F0 : List Nat), cs = [.string x.Name, s0] ∧ F = F0 ∧ RSl RTRule 5 Φ F0 s0 x.Rules
theorem RTDef.lasts : Lasts RTDef := fun X Φ Φ' F cs x hf hd ⟨s0, F0, hc, hF, h0⟩ => by
  rw [hF] at hd
  exact ⟨s0, F0, hc, hF, h0.frame RTRule.lasts hf (fun k hk => hd k (by simp [hk]))⟩
theorem RTDef.knows : Knows RTDef := fun Φ F cs x ⟨s0, F0, hc, hF, h0⟩ => hF ▸ h0.kn
theorem RTDef.one : Ones RTDef := fun _ _ _ _ h => by obtain ⟨s0, F0, rfl, -, h0⟩ := h; exact One.all ⟨rfl, h0.one, trivial⟩
def OTDef (Φ : Hp) (F : List Nat) (cs : List Value) (x : TDef) : Prop :=
  ∃ (s0 : Value) (D0 : List Nat), cs = [.string x.Name, s0] ∧ F = (ob s0 ++ D0) ∧ OSl OTRule 33 5 Φ D0 s0 x.Rules
theorem OTDef.lasts : Lasts OTDef := fun X Φ Φ' F cs x hf hd ⟨s0, D0, hc, hF, h0⟩ => by
  rw [hF] at hd
  exact ⟨s0, D0, hc, hF, h0.frame OTRule.lasts hf (fun k hk => hd k (by simp [hk])) (fun k hk => hd k (by simp [hk]))⟩
theorem OTDef.knows : Knows OTDef := fun Φ F cs x ⟨s0, D0, hc, hF, h0⟩ => hF ▸ (h0.knO.app h0.kn)
theorem OTDef.one : Ones OTDef := fun _ _ _ _ h => by obtain ⟨s0, D0, rfl, -, h0⟩ := h; exact One.all ⟨rfl, h0.one, trivial⟩
theorem OTDef.gives : Gives OTDef RTDef := fun Φ F cs x ⟨s0, D0, hc, hF, h0⟩ => ⟨s0, ob s0 ++ D0, hc, hF, h0.rslG OTRule.gives⟩
def eqT_TVal (x y : TVal) : Bool := ((x.K == y.K) && ((x.N == y.N) && (seq x.S y.S && true)))
theorem seq_dec (a b : ByteArray) : seq a b = decide (a = b) := by
  unfold seq
  by_cases h : a = b
  · subst h; simp
  · have : ¬ a.toList = b.toList := fun e => h (by rw [ByteArray.toList_eq, ByteArray.toList_eq] at e; exact ByteArray.ext (Array.toList_inj.1 e))
    simp [h, this]
theorem eqT_TVal_eq (x y : TVal) : eqT_TVal x y = decide (x = y) := by
  obtain ⟨a0, a1, a2⟩ := x; obtain ⟨b0, b1, b2⟩ := y
  rw [Bool.eq_iff_iff]
  simp only [eqT_TVal, seq_dec, Bool.and_true, Bool.and_eq_true, beq_iff_eq, decide_eq_true_eq, TVal.mk.injEq, and_assoc]
def eqT_TArg (x y : TArg) : Bool := ((x.K == y.K) && (seq x.S y.S && ((x.V.K == y.V.K) && ((x.V.N == y.V.N) && (seq x.V.S y.V.S && true)))))

theorem eqT_TArg_eq (x y : TArg) : eqT_TArg x y = decide (x = y) := by
  obtain ⟨a0, a1, ⟨a20, a21, a22⟩⟩ := x; obtain ⟨b0, b1, ⟨b20, b21, b22⟩⟩ := y
  rw [Bool.eq_iff_iff]
  simp only [eqT_TArg, seq_dec, Bool.and_true, Bool.and_eq_true, beq_iff_eq, decide_eq_true_eq, TArg.mk.injEq, TVal.mk.injEq, and_assoc]
abbrev Tab := TabAt 0
def m_l_szVal (N : Nat) (p0 : TVal) (p1 : Int) : Option (Int) :=
  (if decide (IntKind.i64.wrap (p1 - (p0.S.size : Int)) < 0) then some (-1) else some (IntKind.i64.wrap (p1 - (p0.S.size : Int))))
def m_l_szArg (N : Nat) (p0 : TArg) (p1 : Int) : Option (Int) :=
  (if decide (IntKind.i64.wrap (p1 - (p0.S.size : Int)) < 0) then some (-1) else ((m_l_szVal N p0.V (IntKind.i64.wrap (p1 - (p0.S.size : Int)))).bind fun x1 => (if decide (x1 < 0) then some (-1) else some x1)))
def m_l_szArgS_l1 (N : Nat) (p0 : (List TArg)) : Nat → Int → Int → Option (Int)
  | 0, _, _ => none
  | k + 1, s1, s2 =>
    (if decide (s2 < (p0.length : Int)) then ((idx p0 s2).bind fun x1 => ((m_l_szArg N x1 s1).bind fun x2 => (if decide (x2 < 0) then some (-1) else ((m_l_szArgS_l1 N p0 k) x2 (IntKind.i64.wrap (s2 + 1)))))) else some s1)
def m_l_szArgS (N : Nat) (p0 : (List TArg)) (p1 : Int) : Option (Int) :=
  (if decide (IntKind.i64.wrap (p1 - (p0.length : Int)) < 0) then some (-1) else m_l_szArgS_l1 N p0 N (IntKind.i64.wrap (p1 - (p0.length : Int))) 0)
def m_l_szPat (N : Nat) (p0 : TPat) (p1 : Int) : Option (Int) :=
  (if decide (IntKind.i64.wrap (p1 - (p0.Kind.size : Int)) < 0) then some (-1) else ((m_l_szArgS N p0.Args (IntKind.i64.wrap (p1 - (p0.Kind.size : Int)))).bind fun x1 => (if decide (x1 < 0) then some (-1) else some x1)))
def m_l_szPatS_l1 (N : Nat) (p0 : (List TPat)) : Nat → Int → Int → Option (Int)
  | 0, _, _ => none
  | k + 1, s1, s2 =>
    (if decide (s2 < (p0.length : Int)) then ((idx p0 s2).bind fun x1 => ((m_l_szPat N x1 s1).bind fun x2 => (if decide (x2 < 0) then some (-1) else ((m_l_szPatS_l1 N p0 k) x2 (IntKind.i64.wrap (s2 + 1)))))) else some s1)
def m_l_szPatS (N : Nat) (p0 : (List TPat)) (p1 : Int) : Option (Int) :=
  (if decide (IntKind.i64.wrap (p1 - (p0.length : Int)) < 0) then some (-1) else m_l_szPatS_l1 N p0 N (IntKind.i64.wrap (p1 - (p0.length : Int))) 0)
def m_l_szCond (N : Nat) (p0 : TCond) (p1 : Int) : Option (Int) :=
  ((m_l_szArg N p0.L p1).bind fun x1 => (if decide (x1 < 0) then some (-1) else ((m_l_szArg N p0.R x1).bind fun x2 => (if decide (x2 < 0) then some (-1) else some x2))))
def m_l_szCondS_l1 (N : Nat) (p0 : (List TCond)) : Nat → Int → Int → Option (Int)
  | 0, _, _ => none
  | k + 1, s1, s2 =>
    (if decide (s2 < (p0.length : Int)) then ((idx p0 s2).bind fun x1 => ((m_l_szCond N x1 s1).bind fun x2 => (if decide (x2 < 0) then some (-1) else ((m_l_szCondS_l1 N p0 k) x2 (IntKind.i64.wrap (s2 + 1)))))) else some s1)
def m_l_szCondS (N : Nat) (p0 : (List TCond)) (p1 : Int) : Option (Int) :=
  (if decide (IntKind.i64.wrap (p1 - (p0.length : Int)) < 0) then some (-1) else m_l_szCondS_l1 N p0 N (IntKind.i64.wrap (p1 - (p0.length : Int))) 0)
def m_l_szExpr (N : Nat) (p0 : TExpr) (p1 : Int) : Option (Int) :=
  (if decide (IntKind.i64.wrap (p1 - (p0.Op.size : Int)) < 0) then some (-1) else ((m_l_szArg N p0.L (IntKind.i64.wrap (p1 - (p0.Op.size : Int)))).bind fun x1 => (if decide (x1 < 0) then some (-1) else ((m_l_szArg N p0.R x1).bind fun x2 => (if decide (x2 < 0) then some (-1) else some x2)))))
def m_l_szExprS_l1 (N : Nat) (p0 : (List TExpr)) : Nat → Int → Int → Option (Int)
  | 0, _, _ => none
  | k + 1, s1, s2 =>
    (if decide (s2 < (p0.length : Int)) then ((idx p0 s2).bind fun x1 => ((m_l_szExpr N x1 s1).bind fun x2 => (if decide (x2 < 0) then some (-1) else ((m_l_szExprS_l1 N p0 k) x2 (IntKind.i64.wrap (s2 + 1)))))) else some s1)
def m_l_szExprS (N : Nat) (p0 : (List TExpr)) (p1 : Int) : Option (Int) :=
  (if decide (IntKind.i64.wrap (p1 - (p0.length : Int)) < 0) then some (-1) else m_l_szExprS_l1 N p0 N (IntKind.i64.wrap (p1 - (p0.length : Int))) 0)
def m_l_szAct (N : Nat) (p0 : TAct) (p1 : Int) : Option (Int) :=
  (if decide (IntKind.i64.wrap (p1 - (p0.Name.size : Int)) < 0) then some (-1) else ((m_l_szExprS N p0.Args (IntKind.i64.wrap (p1 - (p0.Name.size : Int)))).bind fun x1 => (if decide (x1 < 0) then some (-1) else (if decide (IntKind.i64.wrap (x1 - (p0.Undo.size : Int)) < 0) then some (-1) else some (IntKind.i64.wrap (x1 - (p0.Undo.size : Int)))))))
def m_l_szActS_l1 (N : Nat) (p0 : (List TAct)) : Nat → Int → Int → Option (Int)
  | 0, _, _ => none
  | k + 1, s1, s2 =>
    (if decide (s2 < (p0.length : Int)) then ((idx p0 s2).bind fun x1 => ((m_l_szAct N x1 s1).bind fun x2 => (if decide (x2 < 0) then some (-1) else ((m_l_szActS_l1 N p0 k) x2 (IntKind.i64.wrap (s2 + 1)))))) else some s1)
def m_l_szActS (N : Nat) (p0 : (List TAct)) (p1 : Int) : Option (Int) :=
  (if decide (IntKind.i64.wrap (p1 - (p0.length : Int)) < 0) then some (-1) else m_l_szActS_l1 N p0 N (IntKind.i64.wrap (p1 - (p0.length : Int))) 0)
def m_l_szRule (N : Nat) (p0 : TRule) (p1 : Int) : Option (Int) :=
  (if decide (IntKind.i64.wrap (p1 - (p0.Name.size : Int)) < 0) then some (-1) else ((m_l_szPatS N p0.Pats (IntKind.i64.wrap (p1 - (p0.Name.size : Int)))).bind fun x1 => (if decide (x1 < 0) then some (-1) else ((m_l_szCondS N p0.Conds x1).bind fun x2 => (if decide (x2 < 0) then some (-1) else ((m_l_szActS N p0.Acts x2).bind fun x3 => (if decide (x3 < 0) then some (-1) else some x3)))))))
def m_l_szRuleS_l1 (N : Nat) (p0 : (List TRule)) : Nat → Int → Int → Option (Int)
  | 0, _, _ => none
  | k + 1, s1, s2 =>
    (if decide (s2 < (p0.length : Int)) then ((idx p0 s2).bind fun x1 => ((m_l_szRule N x1 s1).bind fun x2 => (if decide (x2 < 0) then some (-1) else ((m_l_szRuleS_l1 N p0 k) x2 (IntKind.i64.wrap (s2 + 1)))))) else some s1)
def m_l_szRuleS (N : Nat) (p0 : (List TRule)) (p1 : Int) : Option (Int) :=
  (if decide (IntKind.i64.wrap (p1 - (p0.length : Int)) < 0) then some (-1) else m_l_szRuleS_l1 N p0 N (IntKind.i64.wrap (p1 - (p0.length : Int))) 0)
def m_l_szDef (N : Nat) (p0 : TDef) (p1 : Int) : Option (Int) :=
  (if decide (IntKind.i64.wrap (p1 - (p0.Name.size : Int)) < 0) then some (-1) else ((m_l_szRuleS N p0.Rules (IntKind.i64.wrap (p1 - (p0.Name.size : Int)))).bind fun x1 => (if decide (x1 < 0) then some (-1) else some x1)))
def m_s_l2Num_j1 (N : Nat) (s1 : ByteArray) : Option (ByteArray) :=
  some s1
def m_s_l2Num : Nat → Int → Option (ByteArray)
  | 0, _ => none
  | N + 1, p0 =>
    (if decide (p0 < 0) then (((m_s_l2Num N) (IntKind.i64.wrap (0 - p0))).bind fun x1 => ((cat (⟨#[45]⟩ : ByteArray) x1).bind fun z1 => some z1)) else (if decide (p0 < 10) then some (bstr ([(IntKind.u8.wrap (IntKind.i64.wrap (48 + p0)))] : List Int)) else (((m_s_l2Num N) (IntKind.i64.wrap (p0.tdiv 10))).bind fun x3 => ((cat x3 (bstr ([(IntKind.u8.wrap (IntKind.i64.wrap (48 + (p0.tmod 10))))] : List Int))).bind fun z3 => m_s_l2Num_j1 N z3))))
def m_s_l1In (N : Nat) (p0 : Int) (p1 : Int) (p2 : Int) : Option (Bool) :=
  ((if decide (p1 ≤ p0) then some (decide (p0 ≤ p2)) else some false).bind fun b1 => some b1)
def m_s_l1Letter (N : Nat) (p0 : Int) : Option (Bool) :=
  ((m_s_l1In N (IntKind.i64.wrap p0) 97 122).bind fun x1 => ((if x1 then some true else ((m_s_l1In N (IntKind.i64.wrap p0) 48 57).bind fun x2 => some x2)).bind fun b1 => ((if b1 then some true else some (decide (p0 = 95))).bind fun b2 => some b2)))
def m_s_NameOk_l1 (N : Nat) (p0 : ByteArray) : Nat → Int → Option (Bool)
  | 0, _ => none
  | k + 1, s1 =>
    (if decide (s1 < (p0.size : Int)) then ((idx p0.data.toList s1).bind fun y1 => ((m_s_l1Letter N (y1.toNat : Int)).bind fun x1 => ((if !x1 then some true else ((if decide (s1 = 0) then ((idx p0.data.toList s1).bind fun y2 => ((m_s_l1In N (IntKind.i64.wrap (y2.toNat : Int)) 97 122).bind fun x2 => some (!x2))) else some false).bind fun b2 => some b2)).bind fun b1 => (if b1 then some false else ((m_s_NameOk_l1 N p0 k) (IntKind.i64.wrap (s1 + 1))))))) else ((m_s_l1In N (p0.size : Int) 1 12).bind fun x3 => some x3))
def m_s_NameOk (N : Nat) (p0 : ByteArray) : Option (Bool) :=
  m_s_NameOk_l1 N p0 N 0
def m_s_l5Large (N : Nat) (p0 : Int) : Option (Bool) :=
  ((m_s_l1In N (IntKind.i64.wrap p0) 65 90).bind fun x1 => some x1)
def m_s_l5VarOk_l1 (N : Nat) (p0 : ByteArray) : Nat → Int → Option (Bool)
  | 0, _ => none
  | k + 1, s1 =>
    (if decide (s1 < (p0.size : Int)) then ((idx p0.data.toList s1).bind fun y1 => ((m_s_l5Large N (y1.toNat : Int)).bind fun x1 => ((if !x1 then ((if decide (s1 = 0) then some true else ((idx p0.data.toList s1).bind fun y2 => ((m_s_l1Letter N (y2.toNat : Int)).bind fun x2 => some (!x2)))).bind fun b2 => some b2) else some false).bind fun b1 => (if b1 then some false else ((m_s_l5VarOk_l1 N p0 k) (IntKind.i64.wrap (s1 + 1))))))) else ((m_s_l1In N (p0.size : Int) 1 12).bind fun x3 => some x3))
def m_s_l5VarOk (N : Nat) (p0 : ByteArray) : Option (Bool) :=
  m_s_l5VarOk_l1 N p0 N 0
def m_s_l2Plain_l1 (N : Nat) (p0 : ByteArray) : Nat → Int → Option (Bool)
  | 0, _ => none
  | k + 1, s1 =>
    (if decide (s1 < (p0.size : Int)) then ((idx p0.data.toList s1).bind fun y1 => ((m_s_l1Letter N (y1.toNat : Int)).bind fun x1 => (if !x1 then some false else ((m_s_l2Plain_l1 N p0 k) (IntKind.i64.wrap (s1 + 1)))))) else some (decide ((p0.size : Int) ≤ 20)))
def m_s_l2Plain (N : Nat) (p0 : ByteArray) : Option (Bool) :=
  m_s_l2Plain_l1 N p0 N 0
def m_s_ValOk (N : Nat) (p0 : TVal) : Option (Bool) :=
  (if decide (p0.K = 1) then ((m_s_l1In N p0.N (-1000000000) 1000000000).bind fun x1 => ((if x1 then some (seq p0.S (⟨#[]⟩ : ByteArray)) else some false).bind fun b1 => some b1)) else (if decide (p0.K = 2) then ((m_s_l2Plain N p0.S).bind fun x2 => ((if x2 then some (decide (p0.N = 0)) else some false).bind fun b2 => some b2)) else some false))
def m_s_ArgOk (N : Nat) (p0 : TArg) : Option (Bool) :=
  (if decide (p0.K = 1) then ((m_s_l5VarOk N p0.S).bind fun x1 => ((if x1 then some (eqT_TVal p0.V (⟨0, 0, (⟨#[]⟩ : ByteArray)⟩ : TVal)) else some false).bind fun b1 => some b1)) else (if decide (p0.K = 2) then ((m_s_ValOk N p0.V).bind fun x2 => ((if x2 then some (seq p0.S (⟨#[]⟩ : ByteArray)) else some false).bind fun b2 => some b2)) else (if decide (p0.K = 3) then ((if seq p0.S (⟨#[]⟩ : ByteArray) then some (eqT_TVal p0.V (⟨0, 0, (⟨#[]⟩ : ByteArray)⟩ : TVal)) else some false).bind fun b3 => some b3) else some false)))
def m_s_PatOk_l1 (N : Nat) (p0 : TPat) : Nat → Int → Option (Bool)
  | 0, _ => none
  | k + 1, s1 =>
    (if decide (s1 < (p0.Args.length : Int)) then ((idx p0.Args s1).bind fun x1 => ((m_s_ArgOk N x1).bind fun x2 => (if !x2 then some false else ((m_s_PatOk_l1 N p0 k) (IntKind.i64.wrap (s1 + 1)))))) else ((m_s_NameOk N p0.Kind).bind fun x3 => ((if x3 then some (decide ((p0.Args.length : Int) ≤ 5)) else some false).bind fun b1 => some b1)))
def m_s_PatOk (N : Nat) (p0 : TPat) : Option (Bool) :=
  m_s_PatOk_l1 N p0 N 0
def m_s_l2Text (N : Nat) (p0 : TVal) : Option (ByteArray) :=
  (if decide (p0.K = 1) then ((m_s_l2Num N p0.N).bind fun x1 => some x1) else ((cat (⟨#[39]⟩ : ByteArray) p0.S).bind fun z1 => ((cat z1 (⟨#[39]⟩ : ByteArray)).bind fun z2 => some z2)))
def m_s_l6ArgText (N : Nat) (p0 : TArg) : Option (ByteArray) :=
  (if decide (p0.K = 1) then some p0.S else (if decide (p0.K = 2) then ((m_s_l2Text N p0.V).bind fun x1 => some x1) else some (⟨#[95]⟩ : ByteArray)))
def m_s_PatText_j3 (N : Nat) (p0 : TPat) (s3 : Int) (K2 : ByteArray → Int → Option (ByteArray)) (s4 : ByteArray) : Option (ByteArray) :=
  ((idx p0.Args s3).bind fun x2 => ((m_s_l6ArgText N x2).bind fun x3 => ((cat s4 x3).bind fun z2 => (K2 z2 (IntKind.i64.wrap (s3 + 1))))))
def m_s_PatText_l2 (N : Nat) (p0 : TPat) : Nat → ByteArray → Int → Option (ByteArray)
  | 0, _, _ => none
  | k + 1, s2, s3 =>
    (if decide (s3 < (p0.Args.length : Int)) then (if decide (0 < s3) then ((cat s2 (⟨#[44, 32]⟩ : ByteArray)).bind fun z3 => m_s_PatText_j3 N p0 s3 (m_s_PatText_l2 N p0 k) z3) else m_s_PatText_j3 N p0 s3 (m_s_PatText_l2 N p0 k) s2) else ((cat s2 (⟨#[41]⟩ : ByteArray)).bind fun z4 => some z4))
def m_s_PatText_j1 (N : Nat) (p0 : TPat) (s1 : ByteArray) : Option (ByteArray) :=
  m_s_PatText_l2 N p0 N s1 0
def m_s_PatText (N : Nat) (p0 : TPat) : Option (ByteArray) :=
  ((m_s_PatOk N p0).bind fun x1 => (if !x1 then some (⟨#[]⟩ : ByteArray) else ((cat p0.Kind (⟨#[40]⟩ : ByteArray)).bind fun z1 => (if p0.Not then ((cat (⟨#[33]⟩ : ByteArray) z1).bind fun z5 => m_s_PatText_j1 N p0 z5) else m_s_PatText_j1 N p0 z1))))
def m_s_CondOk (N : Nat) (p0 : TCond) : Option (Bool) :=
  ((m_s_l1In N p0.Op 1 3).bind fun x1 => ((if x1 then ((m_s_ArgOk N p0.L).bind fun x2 => some x2) else some false).bind fun b1 => ((if b1 then ((m_s_ArgOk N p0.R).bind fun x3 => some x3) else some false).bind fun b2 => ((if b2 then some (!decide (p0.L.K = 3)) else some false).bind fun b3 => ((if b3 then some (!decide (p0.R.K = 3)) else some false).bind fun b4 => some b4)))))
def m_s_CondText (N : Nat) (p0 : TCond) : Option (ByteArray) :=
  ((m_s_CondOk N p0).bind fun x1 => (if !x1 then some (⟨#[]⟩ : ByteArray) else ((m_s_l6ArgText N p0.L).bind fun x2 => ((cat x2 (⟨#[32]⟩ : ByteArray)).bind fun z1 => ((idx ([(⟨#[61]⟩ : ByteArray), (⟨#[35]⟩ : ByteArray), (⟨#[60]⟩ : ByteArray)] : List ByteArray) (IntKind.i64.wrap (p0.Op - 1))).bind fun x3 => ((cat z1 x3).bind fun z2 => ((cat z2 (⟨#[32]⟩ : ByteArray)).bind fun z3 => ((m_s_l6ArgText N p0.R).bind fun x4 => ((cat z3 x4).bind fun z4 => some z4)))))))))
def m_s_l8Given (N : Nat) (p0 : TArg) : Option (Bool) :=
  ((m_s_ArgOk N p0).bind fun x1 => ((if x1 then some (!decide (p0.K = 3)) else some false).bind fun b1 => some b1))
def m_s_ExprOk_j1 (N : Nat) (p0 : TExpr) (s1 : Bool) : Option (Bool) :=
  (if s1 then ((m_s_l8Given N p0.L).bind fun x2 => ((if x2 then ((m_s_l8Given N p0.R).bind fun x3 => some x3) else some false).bind fun b2 => some b2)) else some false)
def m_s_ExprOk (N : Nat) (p0 : TExpr) : Option (Bool) :=
  (if seq p0.Op (⟨#[]⟩ : ByteArray) then ((m_s_l8Given N p0.L).bind fun x1 => ((if x1 then some (eqT_TArg p0.R (⟨0, (⟨#[]⟩ : ByteArray), (⟨0, 0, (⟨#[]⟩ : ByteArray)⟩ : TVal)⟩ : TArg)) else some false).bind fun b1 => some b1)) else (if seq p0.Op (⟨#[43]⟩ : ByteArray) then m_s_ExprOk_j1 N p0 (seq p0.Op (⟨#[43]⟩ : ByteArray)) else m_s_ExprOk_j1 N p0 (seq p0.Op (⟨#[45]⟩ : ByteArray))))
def m_s_l8Args_l1 (N : Nat) (p0 : (List TExpr)) : Nat → Int → Option (Bool)
  | 0, _ => none
  | k + 1, s1 =>
    (if decide (s1 < (p0.length : Int)) then ((idx p0 s1).bind fun x1 => ((m_s_ExprOk N x1).bind fun x2 => (if !x2 then some false else ((m_s_l8Args_l1 N p0 k) (IntKind.i64.wrap (s1 + 1)))))) else some (decide ((p0.length : Int) ≤ 5)))
def m_s_l8Args (N : Nat) (p0 : (List TExpr)) : Option (Bool) :=
  m_s_l8Args_l1 N p0 N 0
def m_s_ActOk_j1 (N : Nat) (p0 : TAct) (b2 : Bool) (s1 : Bool) : Option (Bool) :=
  (if s1 then ((if b2 then some (decide (p0.N = 0)) else some false).bind fun b14 => some b14) else some false)
def m_s_ActOk (N : Nat) (p0 : TAct) : Option (Bool) :=
  ((if seq p0.Name (⟨#[]⟩ : ByteArray) then some (decide ((p0.Args.length : Int) = 0)) else some false).bind fun b1 => ((if b1 then some (seq p0.Undo (⟨#[]⟩ : ByteArray)) else some false).bind fun b2 => (if decide (p0.Kind = 1) then ((m_s_NameOk N p0.Name).bind fun x1 => ((if x1 then ((m_s_l8Args N p0.Args).bind fun x2 => some x2) else some false).bind fun b3 => ((if b3 then some (decide (p0.N = 0)) else some false).bind fun b4 => ((if b4 then some (seq p0.Undo (⟨#[]⟩ : ByteArray)) else some false).bind fun b5 => some b5)))) else (if decide (p0.Kind = 3) then ((m_s_NameOk N p0.Name).bind fun x3 => ((if x3 then ((m_s_l8Args N p0.Args).bind fun x4 => some x4) else some false).bind fun b6 => ((if b6 then some (decide (p0.N = 0)) else some false).bind fun b7 => ((if b7 then ((if seq p0.Undo (⟨#[]⟩ : ByteArray) then some true else ((m_s_NameOk N p0.Undo).bind fun x5 => some x5)).bind fun b9 => some b9) else some false).bind fun b8 => some b8)))) else (if decide (p0.Kind = 4) then ((m_s_NameOk N p0.Name).bind fun x6 => ((if x6 then ((m_s_l8Args N p0.Args).bind fun x7 => some x7) else some false).bind fun b10 => ((if b10 then ((m_s_l1In N p0.N 0 100000).bind fun x8 => some x8) else some false).bind fun b11 => ((if b11 then some (seq p0.Undo (⟨#[]⟩ : ByteArray)) else some false).bind fun b12 => some b12)))) else (if decide (p0.Kind = 2) then ((if b2 then ((m_s_l1In N p0.N 0 7).bind fun x9 => some x9) else some false).bind fun b13 => some b13) else (if decide (p0.Kind = 5) then m_s_ActOk_j1 N p0 b2 (decide (p0.Kind = 5)) else m_s_ActOk_j1 N p0 b2 (decide (p0.Kind = 6)))))))))
def m_s_ExprText (N : Nat) (p0 : TExpr) : Option (ByteArray) :=
  ((m_s_ExprOk N p0).bind fun x1 => (if !x1 then some (⟨#[]⟩ : ByteArray) else (if seq p0.Op (⟨#[]⟩ : ByteArray) then ((m_s_l6ArgText N p0.L).bind fun x2 => some x2) else ((m_s_l6ArgText N p0.L).bind fun x3 => ((cat x3 (⟨#[32]⟩ : ByteArray)).bind fun z1 => ((cat z1 p0.Op).bind fun z2 => ((cat z2 (⟨#[32]⟩ : ByteArray)).bind fun z3 => ((m_s_l6ArgText N p0.R).bind fun x4 => ((cat z3 x4).bind fun z4 => some z4)))))))))
def m_s_l8ArgsText_j2 (N : Nat) (p0 : TAct) (s2 : Int) (K1 : ByteArray → Int → Option (ByteArray)) (s3 : ByteArray) : Option (ByteArray) :=
  ((idx p0.Args s2).bind fun x1 => ((m_s_ExprText N x1).bind fun x2 => ((cat s3 x2).bind fun z2 => (K1 z2 (IntKind.i64.wrap (s2 + 1))))))
def m_s_l8ArgsText_l1 (N : Nat) (p0 : TAct) : Nat → ByteArray → Int → Option (ByteArray)
  | 0, _, _ => none
  | k + 1, s1, s2 =>
    (if decide (s2 < (p0.Args.length : Int)) then (if decide (0 < s2) then ((cat s1 (⟨#[44, 32]⟩ : ByteArray)).bind fun z3 => m_s_l8ArgsText_j2 N p0 s2 (m_s_l8ArgsText_l1 N p0 k) z3) else m_s_l8ArgsText_j2 N p0 s2 (m_s_l8ArgsText_l1 N p0 k) s1) else ((cat s1 (⟨#[41]⟩ : ByteArray)).bind fun z4 => some z4))
def m_s_l8ArgsText (N : Nat) (p0 : TAct) : Option (ByteArray) :=
  ((cat p0.Name (⟨#[40]⟩ : ByteArray)).bind fun z1 => m_s_l8ArgsText_l1 N p0 N z1 0)
def m_s_ActText (N : Nat) (p0 : TAct) : Option (ByteArray) :=
  ((m_s_ActOk N p0).bind fun x1 => (if !x1 then some (⟨#[]⟩ : ByteArray) else (if decide (p0.Kind = 1) then ((m_s_l8ArgsText N p0).bind fun x2 => ((cat (⟨#[97, 115, 115, 101, 114, 116, 32]⟩ : ByteArray) x2).bind fun z1 => some z1)) else (if decide (p0.Kind = 2) then ((m_s_l2Num N p0.N).bind fun x3 => ((cat (⟨#[100, 114, 111, 112, 32]⟩ : ByteArray) x3).bind fun z2 => some z2)) else (if decide (p0.Kind = 4) then ((m_s_l2Num N p0.N).bind fun x4 => ((cat (⟨#[116, 105, 109, 101, 114, 32]⟩ : ByteArray) x4).bind fun z3 => ((cat z3 (⟨#[32]⟩ : ByteArray)).bind fun z4 => ((m_s_l8ArgsText N p0).bind fun x5 => ((cat z4 x5).bind fun z5 => some z5))))) else (if decide (p0.Kind = 5) then some (⟨#[100, 111, 110, 101]⟩ : ByteArray) else (if decide (p0.Kind = 6) then some (⟨#[102, 97, 105, 108]⟩ : ByteArray) else (if seq p0.Undo (⟨#[]⟩ : ByteArray) then ((m_s_l8ArgsText N p0).bind fun x6 => ((cat (⟨#[116, 97, 115, 107, 32]⟩ : ByteArray) x6).bind fun z6 => some z6)) else ((m_s_l8ArgsText N p0).bind fun x7 => ((cat (⟨#[116, 97, 115, 107, 32]⟩ : ByteArray) x7).bind fun z7 => ((cat z7 (⟨#[32, 117, 110, 100, 111, 32]⟩ : ByteArray)).bind fun z8 => ((cat z8 p0.Undo).bind fun z9 => some z9))))))))))))
def m_s_l9Text_j2 (N : Nat) (p0 : TRule) (s2 : Int) (K1 : ByteArray → Int → Option (ByteArray)) (s3 : ByteArray) : Option (ByteArray) :=
  ((idx p0.Pats s2).bind fun x2 => ((m_s_PatText N x2).bind fun x3 => ((cat s3 x3).bind fun z5 => (K1 z5 (IntKind.i64.wrap (s2 + 1))))))
def m_s_l9Text_j4 (N : Nat) (p0 : TRule) (s5 : Int) (K3 : ByteArray → Int → Option (ByteArray)) (s6 : ByteArray) : Option (ByteArray) :=
  ((idx p0.Conds s5).bind fun x4 => ((m_s_CondText N x4).bind fun x5 => ((cat s6 x5).bind fun z7 => (K3 z7 (IntKind.i64.wrap (s5 + 1))))))
def m_s_l9Text_j6 (N : Nat) (p0 : TRule) (s8 : Int) (K5 : ByteArray → Int → Option (ByteArray)) (s9 : ByteArray) : Option (ByteArray) :=
  ((idx p0.Acts s8).bind fun x6 => ((m_s_ActText N x6).bind fun x7 => ((cat s9 x7).bind fun z11 => (K5 z11 (IntKind.i64.wrap (s8 + 1))))))
def m_s_l9Text_l5 (N : Nat) (p0 : TRule) : Nat → ByteArray → Int → Option (ByteArray)
  | 0, _, _ => none
  | k + 1, s7, s8 =>
    (if decide (s8 < (p0.Acts.length : Int)) then (if decide (0 < s8) then ((cat s7 (⟨#[44, 32]⟩ : ByteArray)).bind fun z12 => m_s_l9Text_j6 N p0 s8 (m_s_l9Text_l5 N p0 k) z12) else m_s_l9Text_j6 N p0 s8 (m_s_l9Text_l5 N p0 k) s7) else ((cat s7 (⟨#[46, 10]⟩ : ByteArray)).bind fun z13 => some z13))
def m_s_l9Text_l3 (N : Nat) (p0 : TRule) : Nat → ByteArray → Int → Option (ByteArray)
  | 0, _, _ => none
  | k + 1, s4, s5 =>
    (if decide (s5 < (p0.Conds.length : Int)) then (if decide (s5 = 0) then ((cat s4 (⟨#[32, 43, 32]⟩ : ByteArray)).bind fun z8 => m_s_l9Text_j4 N p0 s5 (m_s_l9Text_l3 N p0 k) z8) else ((cat s4 (⟨#[44, 32]⟩ : ByteArray)).bind fun z9 => m_s_l9Text_j4 N p0 s5 (m_s_l9Text_l3 N p0 k) z9)) else ((cat s4 (⟨#[32, 45, 62, 32]⟩ : ByteArray)).bind fun z10 => m_s_l9Text_l5 N p0 N z10 0))
def m_s_l9Text_l1 (N : Nat) (p0 : TRule) : Nat → ByteArray → Int → Option (ByteArray)
  | 0, _, _ => none
  | k + 1, s1, s2 =>
    (if decide (s2 < (p0.Pats.length : Int)) then (if decide (0 < s2) then ((cat s1 (⟨#[44, 32]⟩ : ByteArray)).bind fun z6 => m_s_l9Text_j2 N p0 s2 (m_s_l9Text_l1 N p0 k) z6) else m_s_l9Text_j2 N p0 s2 (m_s_l9Text_l1 N p0 k) s1) else m_s_l9Text_l3 N p0 N s1 0)
def m_s_l9Text (N : Nat) (p0 : TRule) : Option (ByteArray) :=
  ((cat (⟨#[114, 117, 108, 101, 32]⟩ : ByteArray) p0.Name).bind fun z1 => ((cat z1 (⟨#[32]⟩ : ByteArray)).bind fun z2 => ((m_s_l2Num N p0.Sal).bind fun x1 => ((cat z2 x1).bind fun z3 => ((cat z3 (⟨#[58, 32]⟩ : ByteArray)).bind fun z4 => m_s_l9Text_l1 N p0 N z4 0)))))
def m_s_l6Has_l1 (N : Nat) (p0 : (List ByteArray)) (p1 : ByteArray) : Nat → Int → Option (Bool)
  | 0, _ => none
  | k + 1, s1 =>
    (if decide (s1 < (p0.length : Int)) then ((idx p0 s1).bind fun x1 => (if seq x1 p1 then some true else ((m_s_l6Has_l1 N p0 p1 k) (IntKind.i64.wrap (s1 + 1))))) else some false)
def m_s_l6Has (N : Nat) (p0 : (List ByteArray)) (p1 : ByteArray) : Option (Bool) :=
  m_s_l6Has_l1 N p0 p1 N 0
def m_s_VarsOf_l1 (N : Nat) (p0 : TPat) : Nat → (List ByteArray) → Int → Option ((List ByteArray))
  | 0, _, _ => none
  | k + 1, s1, s2 =>
    (if decide (s2 < (p0.Args.length : Int)) then ((idx p0.Args s2).bind fun x1 => ((if decide (x1.K = 1) then ((idx p0.Args s2).bind fun x2 => ((m_s_l6Has N s1 x2.S).bind fun x3 => some (!x3))) else some false).bind fun b1 => (if b1 then ((idx p0.Args s2).bind fun x4 => ((app s1 ([x4.S] : List ByteArray)).bind fun x5 => ((m_s_VarsOf_l1 N p0 k) x5 (IntKind.i64.wrap (s2 + 1))))) else ((m_s_VarsOf_l1 N p0 k) s1 (IntKind.i64.wrap (s2 + 1)))))) else some s1)
def m_s_VarsOf (N : Nat) (p0 : TPat) : Option ((List ByteArray)) :=
  m_s_VarsOf_l1 N p0 N ([] : List ByteArray) 0
def m_s_PosVars_l2 (N : Nat) (p0 : TRule) (s2 : Int) (K1 : (List ByteArray) → Int → Option ((List ByteArray))) (x2 : (List ByteArray)) : Nat → (List ByteArray) → Int → Option ((List ByteArray))
  | 0, _, _ => none
  | k + 1, s3, s4 =>
    ((if decide (s4 < (x2.length : Int)) then ((idx p0.Pats s2).bind fun x3 => some (!x3.Not)) else some false).bind fun b1 => (if b1 then ((idx x2 s4).bind fun x4 => ((m_s_l6Has N s3 x4).bind fun x5 => (if !x5 then ((idx x2 s4).bind fun x6 => ((app s3 ([x6] : List ByteArray)).bind fun x7 => ((m_s_PosVars_l2 N p0 s2 K1 x2 k) x7 (IntKind.i64.wrap (s4 + 1))))) else ((m_s_PosVars_l2 N p0 s2 K1 x2 k) s3 (IntKind.i64.wrap (s4 + 1)))))) else (K1 s3 (IntKind.i64.wrap (s2 + 1)))))
def m_s_PosVars_l1 (N : Nat) (p0 : TRule) : Nat → (List ByteArray) → Int → Option ((List ByteArray))
  | 0, _, _ => none
  | k + 1, s1, s2 =>
    (if decide (s2 < (p0.Pats.length : Int)) then ((idx p0.Pats s2).bind fun x1 => ((m_s_VarsOf N x1).bind fun x2 => m_s_PosVars_l2 N p0 s2 (m_s_PosVars_l1 N p0 k) x2 N s1 0)) else some s1)
def m_s_PosVars (N : Nat) (p0 : TRule) : Option ((List ByteArray)) :=
  m_s_PosVars_l1 N p0 N ([] : List ByteArray) 0
def m_s_l9Pats_l1 (N : Nat) (p0 : (List TPat)) : Nat → Int → Option (Bool)
  | 0, _ => none
  | k + 1, s1 =>
    (if decide (s1 < (p0.length : Int)) then ((if decide (2 < s1) then ((idx p0 s1).bind fun x1 => some (!x1.Not)) else some false).bind fun b1 => (if b1 then some false else ((idx p0 s1).bind fun x2 => ((m_s_PatOk N x2).bind fun x3 => ((if !x3 then some true else ((if decide (s1 = 0) then ((idx p0 s1).bind fun x4 => some x4.Not) else some false).bind fun b3 => some b3)).bind fun b2 => ((if b2 then some true else ((if decide (0 < s1) then ((idx p0 (IntKind.i64.wrap (s1 - 1))).bind fun x5 => some x5.Not) else some false).bind fun b5 => ((if b5 then ((idx p0 s1).bind fun x6 => some (!x6.Not)) else some false).bind fun b6 => some b6))).bind fun b4 => (if b4 then some false else ((m_s_l9Pats_l1 N p0 k) (IntKind.i64.wrap (s1 + 1)))))))))) else ((m_s_l1In N (p0.length : Int) 1 6).bind fun x7 => some x7))
def m_s_l9Pats (N : Nat) (p0 : (List TPat)) : Option (Bool) :=
  m_s_l9Pats_l1 N p0 N 0
def m_s_l9Known (N : Nat) (p0 : TArg) (p1 : (List ByteArray)) : Option (Bool) :=
  ((if !decide (p0.K = 1) then some true else ((m_s_l6Has N p1 p0.S).bind fun x1 => some x1)).bind fun b1 => some b1)
def m_s_l9Conds_l1 (N : Nat) (p0 : (List TCond)) (p1 : (List ByteArray)) : Nat → Int → Option (Bool)
  | 0, _ => none
  | k + 1, s1 =>
    (if decide (s1 < (p0.length : Int)) then ((idx p0 s1).bind fun x1 => ((m_s_CondOk N x1).bind fun x2 => ((if !x2 then some true else ((idx p0 s1).bind fun x3 => ((m_s_l9Known N x3.L p1).bind fun x4 => some (!x4)))).bind fun b1 => ((if b1 then some true else ((idx p0 s1).bind fun x5 => ((m_s_l9Known N x5.R p1).bind fun x6 => some (!x6)))).bind fun b2 => (if b2 then some false else ((m_s_l9Conds_l1 N p0 p1 k) (IntKind.i64.wrap (s1 + 1)))))))) else some (decide ((p0.length : Int) ≤ 6)))
def m_s_l9Conds (N : Nat) (p0 : (List TCond)) (p1 : (List ByteArray)) : Option (Bool) :=
  m_s_l9Conds_l1 N p0 p1 N 0
def m_s_l9Acts_l2 (N : Nat) (p0 : (List TAct)) (p1 : (List ByteArray)) (s1 : Int) (K1 : Int → Option (Bool)) : Nat → Int → Option (Bool)
  | 0, _ => none
  | k + 1, s2 =>
    ((idx p0 s1).bind fun x5 => (if decide (s2 < (x5.Args.length : Int)) then ((idx p0 s1).bind fun x6 => ((idx x6.Args s2).bind fun x7 => ((m_s_l9Known N x7.L p1).bind fun x8 => ((if !x8 then some true else ((idx p0 s1).bind fun x9 => ((idx x9.Args s2).bind fun x10 => ((m_s_l9Known N x10.R p1).bind fun x11 => some (!x11))))).bind fun b3 => (if b3 then some false else ((m_s_l9Acts_l2 N p0 p1 s1 K1 k) (IntKind.i64.wrap (s2 + 1)))))))) else (K1 (IntKind.i64.wrap (s1 + 1)))))
def m_s_l9Acts_l1 (N : Nat) (p0 : (List TAct)) (p1 : (List ByteArray)) (p2 : Int) : Nat → Int → Option (Bool)
  | 0, _ => none
  | k + 1, s1 =>
    (if decide (s1 < (p0.length : Int)) then ((idx p0 s1).bind fun x1 => ((m_s_ActOk N x1).bind fun x2 => ((if !x2 then some true else ((idx p0 s1).bind fun x3 => ((if decide (x3.Kind = 2) then ((idx p0 s1).bind fun x4 => some (decide (p2 ≤ x4.N))) else some false).bind fun b2 => some b2))).bind fun b1 => (if b1 then some false else m_s_l9Acts_l2 N p0 p1 s1 (m_s_l9Acts_l1 N p0 p1 p2 k) N 0)))) else ((m_s_l1In N (p0.length : Int) 1 6).bind fun x12 => some x12))
def m_s_l9Acts (N : Nat) (p0 : (List TAct)) (p1 : (List ByteArray)) (p2 : Int) : Option (Bool) :=
  m_s_l9Acts_l1 N p0 p1 p2 N 0
def m_s_PosCount_l1 (N : Nat) (p0 : TRule) : Nat → Int → Int → Option (Int)
  | 0, _, _ => none
  | k + 1, s1, s2 =>
    (if decide (s2 < (p0.Pats.length : Int)) then ((idx p0.Pats s2).bind fun x1 => (if !x1.Not then ((m_s_PosCount_l1 N p0 k) (IntKind.i64.wrap (s1 + 1)) (IntKind.i64.wrap (s2 + 1))) else ((m_s_PosCount_l1 N p0 k) s1 (IntKind.i64.wrap (s2 + 1))))) else some s1)
def m_s_PosCount (N : Nat) (p0 : TRule) : Option (Int) :=
  m_s_PosCount_l1 N p0 N 0 0
def m_s_RuleOk (N : Nat) (p0 : TRule) : Option (Bool) :=
  ((m_s_PosVars N p0).bind fun x1 => ((m_s_NameOk N p0.Name).bind fun x2 => ((if x2 then ((m_s_l1In N p0.Sal (-100) 100).bind fun x3 => some x3) else some false).bind fun b1 => ((if b1 then ((m_s_l9Pats N p0.Pats).bind fun x4 => some x4) else some false).bind fun b2 => ((if b2 then ((m_s_l9Conds N p0.Conds x1).bind fun x5 => some x5) else some false).bind fun b3 => ((if b3 then ((m_s_PosCount N p0).bind fun x6 => ((m_s_l9Acts N p0.Acts x1 x6).bind fun x7 => some x7)) else some false).bind fun b4 => some b4))))))
def m_s_RuleAt_l1 (N : Nat) (p0 : TDef) (p1 : ByteArray) : Nat → Int → Option (Int)
  | 0, _ => none
  | k + 1, s1 =>
    (if decide (s1 < (p0.Rules.length : Int)) then ((idx p0.Rules s1).bind fun x1 => (if seq x1.Name p1 then some s1 else ((m_s_RuleAt_l1 N p0 p1 k) (IntKind.i64.wrap (s1 + 1))))) else some (-1))
def m_s_RuleAt (N : Nat) (p0 : TDef) (p1 : ByteArray) : Option (Int) :=
  m_s_RuleAt_l1 N p0 p1 N 0
def m_s_DefOk_l1 (N : Nat) (p0 : TDef) : Nat → Int → Option (Bool)
  | 0, _ => none
  | k + 1, s1 =>
    (if decide (s1 < (p0.Rules.length : Int)) then ((idx p0.Rules s1).bind fun x1 => ((m_s_RuleOk N x1).bind fun x2 => ((if !x2 then some true else ((idx p0.Rules s1).bind fun x3 => ((m_s_RuleAt N p0 x3.Name).bind fun x4 => some (!decide (x4 = s1))))).bind fun b1 => (if b1 then some false else ((m_s_DefOk_l1 N p0 k) (IntKind.i64.wrap (s1 + 1))))))) else ((m_s_NameOk N p0.Name).bind fun x5 => ((if x5 then ((m_s_l1In N (p0.Rules.length : Int) 1 12).bind fun x6 => some x6) else some false).bind fun b2 => some b2)))
def m_s_DefOk (N : Nat) (p0 : TDef) : Option (Bool) :=
  m_s_DefOk_l1 N p0 N 0
def m_s_DefText_l1 (N : Nat) (p0 : TDef) : Nat → ByteArray → Int → Option (ByteArray)
  | 0, _, _ => none
  | k + 1, s1, s2 =>
    (if decide (s2 < (p0.Rules.length : Int)) then ((idx p0.Rules s2).bind fun x2 => ((m_s_l9Text N x2).bind fun x3 => ((cat s1 x3).bind fun z3 => ((m_s_DefText_l1 N p0 k) z3 (IntKind.i64.wrap (s2 + 1)))))) else some s1)
def m_s_DefText (N : Nat) (p0 : TDef) : Option (ByteArray) :=
  ((m_s_DefOk N p0).bind fun x1 => (if !x1 then some (⟨#[]⟩ : ByteArray) else ((cat (⟨#[100, 101, 102, 32]⟩ : ByteArray) p0.Name).bind fun z1 => ((cat z1 (⟨#[46, 10]⟩ : ByteArray)).bind fun z2 => m_s_DefText_l1 N p0 N z2 0))))
def m_l_toVal (N : Nat) (p0 : TVal) : Option (TVal) :=
  some p0
def m_l_toArg (N : Nat) (p0 : TArg) : Option (TArg) :=
  ((m_l_toVal N p0.V).bind fun x1 => some (⟨p0.K, p0.S, x1⟩ : TArg))
def m_l_toArgS_l1 (N : Nat) (p0 : (List TArg)) : Nat → (List TArg) → Int → Option ((List TArg))
  | 0, _, _ => none
  | k + 1, s1, s2 =>
    (if decide (s2 < (p0.length : Int)) then ((idx p0 s2).bind fun x2 => ((m_l_toArg N x2).bind fun x3 => ((idx s1 s2).bind fun x4 => ((m_l_toArgS_l1 N p0 k) (s1.set s2.toNat x3) (IntKind.i64.wrap (s2 + 1)))))) else some s1)
def m_l_toArgS (N : Nat) (p0 : (List TArg)) : Option ((List TArg)) :=
  ((mk (⟨0, (⟨#[]⟩ : ByteArray), (⟨0, 0, (⟨#[]⟩ : ByteArray)⟩ : TVal)⟩ : TArg) (p0.length : Int)).bind fun x1 => m_l_toArgS_l1 N p0 N x1 0)
def m_l_toPat (N : Nat) (p0 : TPat) : Option (TPat) :=
  ((m_l_toArgS N p0.Args).bind fun x1 => some (⟨p0.Kind, x1, p0.Not⟩ : TPat))
def m_l_toPatS_l1 (N : Nat) (p0 : (List TPat)) : Nat → (List TPat) → Int → Option ((List TPat))
  | 0, _, _ => none
  | k + 1, s1, s2 =>
    (if decide (s2 < (p0.length : Int)) then ((idx p0 s2).bind fun x2 => ((m_l_toPat N x2).bind fun x3 => ((idx s1 s2).bind fun x4 => ((m_l_toPatS_l1 N p0 k) (s1.set s2.toNat x3) (IntKind.i64.wrap (s2 + 1)))))) else some s1)
def m_l_toPatS (N : Nat) (p0 : (List TPat)) : Option ((List TPat)) :=
  ((mk (⟨(⟨#[]⟩ : ByteArray), ([] : List TArg), false⟩ : TPat) (p0.length : Int)).bind fun x1 => m_l_toPatS_l1 N p0 N x1 0)
def m_l_toCond (N : Nat) (p0 : TCond) : Option (TCond) :=
  ((m_l_toArg N p0.L).bind fun x1 => ((m_l_toArg N p0.R).bind fun x2 => some (⟨p0.Op, x1, x2⟩ : TCond)))
def m_l_toCondS_l1 (N : Nat) (p0 : (List TCond)) : Nat → (List TCond) → Int → Option ((List TCond))
  | 0, _, _ => none
  | k + 1, s1, s2 =>
    (if decide (s2 < (p0.length : Int)) then ((idx p0 s2).bind fun x2 => ((m_l_toCond N x2).bind fun x3 => ((idx s1 s2).bind fun x4 => ((m_l_toCondS_l1 N p0 k) (s1.set s2.toNat x3) (IntKind.i64.wrap (s2 + 1)))))) else some s1)
def m_l_toCondS (N : Nat) (p0 : (List TCond)) : Option ((List TCond)) :=
  ((mk (⟨0, (⟨0, (⟨#[]⟩ : ByteArray), (⟨0, 0, (⟨#[]⟩ : ByteArray)⟩ : TVal)⟩ : TArg), (⟨0, (⟨#[]⟩ : ByteArray), (⟨0, 0, (⟨#[]⟩ : ByteArray)⟩ : TVal)⟩ : TArg)⟩ : TCond) (p0.length : Int)).bind fun x1 => m_l_toCondS_l1 N p0 N x1 0)
def m_l_toExpr (N : Nat) (p0 : TExpr) : Option (TExpr) :=
  ((m_l_toArg N p0.L).bind fun x1 => ((m_l_toArg N p0.R).bind fun x2 => some (⟨p0.Op, x1, x2⟩ : TExpr)))
def m_l_toExprS_l1 (N : Nat) (p0 : (List TExpr)) : Nat → (List TExpr) → Int → Option ((List TExpr))
  | 0, _, _ => none
  | k + 1, s1, s2 =>
    (if decide (s2 < (p0.length : Int)) then ((idx p0 s2).bind fun x2 => ((m_l_toExpr N x2).bind fun x3 => ((idx s1 s2).bind fun x4 => ((m_l_toExprS_l1 N p0 k) (s1.set s2.toNat x3) (IntKind.i64.wrap (s2 + 1)))))) else some s1)
def m_l_toExprS (N : Nat) (p0 : (List TExpr)) : Option ((List TExpr)) :=
  ((mk (⟨(⟨#[]⟩ : ByteArray), (⟨0, (⟨#[]⟩ : ByteArray), (⟨0, 0, (⟨#[]⟩ : ByteArray)⟩ : TVal)⟩ : TArg), (⟨0, (⟨#[]⟩ : ByteArray), (⟨0, 0, (⟨#[]⟩ : ByteArray)⟩ : TVal)⟩ : TArg)⟩ : TExpr) (p0.length : Int)).bind fun x1 => m_l_toExprS_l1 N p0 N x1 0)
def m_l_toAct (N : Nat) (p0 : TAct) : Option (TAct) :=
  ((m_l_toExprS N p0.Args).bind fun x1 => some (⟨p0.Kind, p0.Name, x1, p0.N, p0.Undo⟩ : TAct))
def m_l_toActS_l1 (N : Nat) (p0 : (List TAct)) : Nat → (List TAct) → Int → Option ((List TAct))
  | 0, _, _ => none
  | k + 1, s1, s2 =>
    (if decide (s2 < (p0.length : Int)) then ((idx p0 s2).bind fun x2 => ((m_l_toAct N x2).bind fun x3 => ((idx s1 s2).bind fun x4 => ((m_l_toActS_l1 N p0 k) (s1.set s2.toNat x3) (IntKind.i64.wrap (s2 + 1)))))) else some s1)
def m_l_toActS (N : Nat) (p0 : (List TAct)) : Option ((List TAct)) :=
  ((mk (⟨0, (⟨#[]⟩ : ByteArray), ([] : List TExpr), 0, (⟨#[]⟩ : ByteArray)⟩ : TAct) (p0.length : Int)).bind fun x1 => m_l_toActS_l1 N p0 N x1 0)
def m_l_toRule (N : Nat) (p0 : TRule) : Option (TRule) :=
  ((m_l_toPatS N p0.Pats).bind fun x1 => ((m_l_toCondS N p0.Conds).bind fun x2 => ((m_l_toActS N p0.Acts).bind fun x3 => some (⟨p0.Name, p0.Sal, x1, x2, x3⟩ : TRule))))
def m_l_toRuleS_l1 (N : Nat) (p0 : (List TRule)) : Nat → (List TRule) → Int → Option ((List TRule))
  | 0, _, _ => none
  | k + 1, s1, s2 =>
    (if decide (s2 < (p0.length : Int)) then ((idx p0 s2).bind fun x2 => ((m_l_toRule N x2).bind fun x3 => ((idx s1 s2).bind fun x4 => ((m_l_toRuleS_l1 N p0 k) (s1.set s2.toNat x3) (IntKind.i64.wrap (s2 + 1)))))) else some s1)
def m_l_toRuleS (N : Nat) (p0 : (List TRule)) : Option ((List TRule)) :=
  ((mk (⟨(⟨#[]⟩ : ByteArray), 0, ([] : List TPat), ([] : List TCond), ([] : List TAct)⟩ : TRule) (p0.length : Int)).bind fun x1 => m_l_toRuleS_l1 N p0 N x1 0)
def m_l_toDef (N : Nat) (p0 : TDef) : Option (TDef) :=
  ((m_l_toRuleS N p0.Rules).bind fun x1 => some (⟨p0.Name, x1⟩ : TDef))
def m_i_isSmall (N : Nat) (p0 : Int) : Option (Bool) :=
  ((if decide (97 ≤ p0) then some (decide (p0 ≤ 122)) else some false).bind fun b1 => some b1)
def m_i_isDigit (N : Nat) (p0 : Int) : Option (Bool) :=
  ((if decide (48 ≤ p0) then some (decide (p0 ≤ 57)) else some false).bind fun b1 => some b1)
def m_i_isWordByte (N : Nat) (p0 : Int) : Option (Bool) :=
  ((m_i_isSmall N p0).bind fun x1 => ((if x1 then some true else ((m_i_isDigit N p0).bind fun x2 => some x2)).bind fun b1 => ((if b1 then some true else some (decide (p0 = 95))).bind fun b2 => some b2)))
def m_i_isWord_l1 (N : Nat) (p0 : ByteArray) : Nat → Int → Option (Bool)
  | 0, _ => none
  | k + 1, s1 =>
    (if decide (s1 < (p0.size : Int)) then ((idx p0.data.toList s1).bind fun y1 => ((m_i_isWordByte N (y1.toNat : Int)).bind fun x1 => (if !x1 then some false else ((m_i_isWord_l1 N p0 k) (IntKind.i64.wrap (s1 + 1)))))) else some true)
def m_i_isWord (N : Nat) (p0 : ByteArray) (p1 : Int) : Option (Bool) :=
  (if decide (p1 < (p0.size : Int)) then some false else m_i_isWord_l1 N p0 N 0)
def m_i_NameOk (N : Nat) (p0 : ByteArray) : Option (Bool) :=
  ((if decide (0 < (p0.size : Int)) then ((idx p0.data.toList 0).bind fun y1 => ((m_i_isSmall N (y1.toNat : Int)).bind fun x1 => some x1)) else some false).bind fun b1 => ((if b1 then ((m_i_isWord N p0 12).bind fun x2 => some x2) else some false).bind fun b2 => some b2))
def m_i_isLarge (N : Nat) (p0 : Int) : Option (Bool) :=
  ((if decide (65 ≤ p0) then some (decide (p0 ≤ 90)) else some false).bind fun b1 => some b1)
def m_i_isVar_l1 (N : Nat) (p0 : ByteArray) : Nat → Int → Option (Bool)
  | 0, _ => none
  | k + 1, s1 =>
    (if decide (s1 < (p0.size : Int)) then ((idx p0.data.toList s1).bind fun y2 => ((m_i_isWordByte N (y2.toNat : Int)).bind fun x2 => ((if !x2 then ((idx p0.data.toList s1).bind fun y3 => ((m_i_isLarge N (y3.toNat : Int)).bind fun x3 => some (!x3))) else some false).bind fun b3 => (if b3 then some false else ((m_i_isVar_l1 N p0 k) (IntKind.i64.wrap (s1 + 1))))))) else some true)
def m_i_isVar (N : Nat) (p0 : ByteArray) : Option (Bool) :=
  ((if decide ((p0.size : Int) < 1) then some true else some (decide (12 < (p0.size : Int)))).bind fun b1 => ((if b1 then some true else ((idx p0.data.toList 0).bind fun y1 => ((m_i_isLarge N (y1.toNat : Int)).bind fun x1 => some (!x1)))).bind fun b2 => (if b2 then some false else m_i_isVar_l1 N p0 N 0)))
def m_i_inRange (N : Nat) (p0 : Int) (p1 : Int) (p2 : Int) : Option (Bool) :=
  ((if decide (p1 ≤ p0) then some (decide (p0 ≤ p2)) else some false).bind fun b1 => some b1)
def m_i_ValOk (N : Nat) (p0 : TVal) : Option (Bool) :=
  (if decide (p0.K = 1) then ((m_i_inRange N p0.N (-1000000000) 1000000000).bind fun x1 => ((if x1 then some (seq p0.S (⟨#[]⟩ : ByteArray)) else some false).bind fun b1 => some b1)) else (if decide (p0.K = 2) then ((if decide (p0.N = 0) then ((m_i_isWord N p0.S 20).bind fun x2 => some x2) else some false).bind fun b2 => some b2) else some false))
def m_i_ArgOk (N : Nat) (p0 : TArg) : Option (Bool) :=
  (if decide (p0.K = 1) then ((m_i_isVar N p0.S).bind fun x1 => ((if x1 then some (eqT_TVal p0.V (⟨0, 0, (⟨#[]⟩ : ByteArray)⟩ : TVal)) else some false).bind fun b1 => some b1)) else (if decide (p0.K = 2) then ((if seq p0.S (⟨#[]⟩ : ByteArray) then ((m_i_ValOk N p0.V).bind fun x2 => some x2) else some false).bind fun b2 => some b2) else (if decide (p0.K = 3) then ((if seq p0.S (⟨#[]⟩ : ByteArray) then some (eqT_TVal p0.V (⟨0, 0, (⟨#[]⟩ : ByteArray)⟩ : TVal)) else some false).bind fun b3 => some b3) else some false)))
def m_i_PatOk_l1 (N : Nat) (p0 : TPat) : Nat → Int → Option (Bool)
  | 0, _ => none
  | k + 1, s1 =>
    (if decide (s1 < (p0.Args.length : Int)) then ((idx p0.Args s1).bind fun x2 => ((m_i_ArgOk N x2).bind fun x3 => (if !x3 then some false else ((m_i_PatOk_l1 N p0 k) (IntKind.i64.wrap (s1 + 1)))))) else some true)
def m_i_PatOk (N : Nat) (p0 : TPat) : Option (Bool) :=
  ((m_i_NameOk N p0.Kind).bind fun x1 => ((if !x1 then some true else some (decide (5 < (p0.Args.length : Int)))).bind fun b1 => (if b1 then some false else m_i_PatOk_l1 N p0 N 0)))
def m_i_ValText (N : Nat) (p0 : TVal) : Option (ByteArray) :=
  ((m_i_ValOk N p0).bind fun x1 => (if !x1 then some (⟨#[]⟩ : ByteArray) else (if decide (p0.K = 1) then ((m_strconv_Itoa N p0.N).bind fun x2 => some x2) else ((cat (⟨#[39]⟩ : ByteArray) p0.S).bind fun z1 => ((cat z1 (⟨#[39]⟩ : ByteArray)).bind fun z2 => some z2)))))
def m_i_argText (N : Nat) (p0 : TArg) : Option (ByteArray) :=
  (if decide (p0.K = 1) then some p0.S else (if decide (p0.K = 2) then ((m_i_ValText N p0.V).bind fun x1 => some x1) else some (⟨#[95]⟩ : ByteArray)))
def m_i_PatText_l1 (N : Nat) (p0 : TPat) : Nat → (List ByteArray) → Int → Option (ByteArray)
  | 0, _, _ => none
  | k + 1, s1, s2 =>
    (if decide (s2 < (p0.Args.length : Int)) then ((idx p0.Args s2).bind fun x2 => ((m_i_argText N x2).bind fun x3 => ((app s1 ([x3] : List ByteArray)).bind fun x4 => ((m_i_PatText_l1 N p0 k) x4 (IntKind.i64.wrap (s2 + 1)))))) else ((cat p0.Kind (⟨#[40]⟩ : ByteArray)).bind fun z1 => ((m_strings_Join N s1 (⟨#[44, 32]⟩ : ByteArray)).bind fun x5 => ((cat z1 x5).bind fun z2 => ((cat z2 (⟨#[41]⟩ : ByteArray)).bind fun z3 => (if p0.Not then ((cat (⟨#[33]⟩ : ByteArray) z3).bind fun z4 => some z4) else some z3))))))
def m_i_PatText (N : Nat) (p0 : TPat) : Option (ByteArray) :=
  ((m_i_PatOk N p0).bind fun x1 => (if !x1 then some (⟨#[]⟩ : ByteArray) else m_i_PatText_l1 N p0 N ([] : List ByteArray) 0))
def m_i_isTerm (N : Nat) (p0 : TArg) : Option (Bool) :=
  ((if !decide (p0.K = 3) then ((m_i_ArgOk N p0).bind fun x1 => some x1) else some false).bind fun b1 => some b1)
def m_i_CondOk (N : Nat) (p0 : TCond) : Option (Bool) :=
  ((m_i_inRange N p0.Op 1 3).bind fun x1 => ((if x1 then ((m_i_isTerm N p0.L).bind fun x2 => some x2) else some false).bind fun b1 => ((if b1 then ((m_i_isTerm N p0.R).bind fun x3 => some x3) else some false).bind fun b2 => some b2)))
def m_i_CondText_j1 (N : Nat) (p0 : TCond) (s1 : ByteArray) : Option (ByteArray) :=
  ((m_i_argText N p0.L).bind fun x2 => ((cat x2 s1).bind fun z1 => ((m_i_argText N p0.R).bind fun x3 => ((cat z1 x3).bind fun z2 => some z2))))
def m_i_CondText (N : Nat) (p0 : TCond) : Option (ByteArray) :=
  ((m_i_CondOk N p0).bind fun x1 => (if !x1 then some (⟨#[]⟩ : ByteArray) else (if decide (p0.Op = 2) then m_i_CondText_j1 N p0 (⟨#[32, 35, 32]⟩ : ByteArray) else (if decide (p0.Op = 3) then m_i_CondText_j1 N p0 (⟨#[32, 60, 32]⟩ : ByteArray) else m_i_CondText_j1 N p0 (⟨#[32, 61, 32]⟩ : ByteArray)))))
def m_i_ExprOk_j1 (N : Nat) (p0 : TExpr) (s1 : Bool) : Option (Bool) :=
  (if s1 then ((m_i_isTerm N p0.L).bind fun x2 => ((if x2 then ((m_i_isTerm N p0.R).bind fun x3 => some x3) else some false).bind fun b2 => some b2)) else some false)
def m_i_ExprOk (N : Nat) (p0 : TExpr) : Option (Bool) :=
  (if seq p0.Op (⟨#[]⟩ : ByteArray) then ((m_i_isTerm N p0.L).bind fun x1 => ((if x1 then some (eqT_TArg p0.R (⟨0, (⟨#[]⟩ : ByteArray), (⟨0, 0, (⟨#[]⟩ : ByteArray)⟩ : TVal)⟩ : TArg)) else some false).bind fun b1 => some b1)) else (if seq p0.Op (⟨#[43]⟩ : ByteArray) then m_i_ExprOk_j1 N p0 (seq p0.Op (⟨#[43]⟩ : ByteArray)) else m_i_ExprOk_j1 N p0 (seq p0.Op (⟨#[45]⟩ : ByteArray))))
def m_i_argsOk_l1 (N : Nat) (p0 : TAct) : Nat → Int → Option (Bool)
  | 0, _ => none
  | k + 1, s1 =>
    (if decide (s1 < (p0.Args.length : Int)) then ((idx p0.Args s1).bind fun x2 => ((m_i_ExprOk N x2).bind fun x3 => (if !x3 then some false else ((m_i_argsOk_l1 N p0 k) (IntKind.i64.wrap (s1 + 1)))))) else some true)
def m_i_argsOk (N : Nat) (p0 : TAct) : Option (Bool) :=
  ((m_i_NameOk N p0.Name).bind fun x1 => ((if !x1 then some true else some (decide (5 < (p0.Args.length : Int)))).bind fun b1 => (if b1 then some false else m_i_argsOk_l1 N p0 N 0)))
def m_i_isUndo (N : Nat) (p0 : ByteArray) : Option (Bool) :=
  ((if seq p0 (⟨#[]⟩ : ByteArray) then some true else ((m_i_NameOk N p0).bind fun x1 => some x1)).bind fun b1 => some b1)
def m_i_ActOk_j1 (N : Nat) (p0 : TAct) (b1 : Bool) (s1 : Bool) : Option (Bool) :=
  (if s1 then ((if b1 then some (decide (p0.N = 0)) else some false).bind fun b10 => ((if b10 then some (seq p0.Undo (⟨#[]⟩ : ByteArray)) else some false).bind fun b11 => some b11)) else some false)
def m_i_ActOk (N : Nat) (p0 : TAct) : Option (Bool) :=
  ((if seq p0.Name (⟨#[]⟩ : ByteArray) then some (decide ((p0.Args.length : Int) = 0)) else some false).bind fun b1 => (if decide (p0.Kind = 1) then ((m_i_argsOk N p0).bind fun x1 => ((if x1 then some (decide (p0.N = 0)) else some false).bind fun b2 => ((if b2 then some (seq p0.Undo (⟨#[]⟩ : ByteArray)) else some false).bind fun b3 => some b3))) else (if decide (p0.Kind = 2) then ((if b1 then ((m_i_inRange N p0.N 0 7).bind fun x2 => some x2) else some false).bind fun b4 => ((if b4 then some (seq p0.Undo (⟨#[]⟩ : ByteArray)) else some false).bind fun b5 => some b5)) else (if decide (p0.Kind = 3) then ((m_i_argsOk N p0).bind fun x3 => ((if x3 then some (decide (p0.N = 0)) else some false).bind fun b6 => ((if b6 then ((m_i_isUndo N p0.Undo).bind fun x4 => some x4) else some false).bind fun b7 => some b7))) else (if decide (p0.Kind = 4) then ((m_i_argsOk N p0).bind fun x5 => ((if x5 then ((m_i_inRange N p0.N 0 100000).bind fun x6 => some x6) else some false).bind fun b8 => ((if b8 then some (seq p0.Undo (⟨#[]⟩ : ByteArray)) else some false).bind fun b9 => some b9))) else (if decide (p0.Kind = 5) then m_i_ActOk_j1 N p0 b1 (decide (p0.Kind = 5)) else m_i_ActOk_j1 N p0 b1 (decide (p0.Kind = 6))))))))
def m_i_ExprText (N : Nat) (p0 : TExpr) : Option (ByteArray) :=
  ((m_i_ExprOk N p0).bind fun x1 => (if !x1 then some (⟨#[]⟩ : ByteArray) else (if seq p0.Op (⟨#[]⟩ : ByteArray) then ((m_i_argText N p0.L).bind fun x2 => some x2) else ((m_i_argText N p0.L).bind fun x3 => ((cat x3 (⟨#[32]⟩ : ByteArray)).bind fun z1 => ((cat z1 p0.Op).bind fun z2 => ((cat z2 (⟨#[32]⟩ : ByteArray)).bind fun z3 => ((m_i_argText N p0.R).bind fun x4 => ((cat z3 x4).bind fun z4 => some z4)))))))))
def m_i_callText_l1 (N : Nat) (p0 : TAct) : Nat → (List ByteArray) → Int → Option (ByteArray)
  | 0, _, _ => none
  | k + 1, s1, s2 =>
    (if decide (s2 < (p0.Args.length : Int)) then ((idx p0.Args s2).bind fun x1 => ((m_i_ExprText N x1).bind fun x2 => ((app s1 ([x2] : List ByteArray)).bind fun x3 => ((m_i_callText_l1 N p0 k) x3 (IntKind.i64.wrap (s2 + 1)))))) else ((cat p0.Name (⟨#[40]⟩ : ByteArray)).bind fun z1 => ((m_strings_Join N s1 (⟨#[44, 32]⟩ : ByteArray)).bind fun x4 => ((cat z1 x4).bind fun z2 => ((cat z2 (⟨#[41]⟩ : ByteArray)).bind fun z3 => some z3)))))
def m_i_callText (N : Nat) (p0 : TAct) : Option (ByteArray) :=
  m_i_callText_l1 N p0 N ([] : List ByteArray) 0
def m_i_ActText (N : Nat) (p0 : TAct) : Option (ByteArray) :=
  ((m_i_ActOk N p0).bind fun x1 => (if !x1 then some (⟨#[]⟩ : ByteArray) else (if decide (p0.Kind = 1) then ((m_i_callText N p0).bind fun x2 => ((cat (⟨#[97, 115, 115, 101, 114, 116, 32]⟩ : ByteArray) x2).bind fun z1 => some z1)) else (if decide (p0.Kind = 2) then ((m_strconv_Itoa N p0.N).bind fun x3 => ((cat (⟨#[100, 114, 111, 112, 32]⟩ : ByteArray) x3).bind fun z2 => some z2)) else (if decide (p0.Kind = 3) then (if !seq p0.Undo (⟨#[]⟩ : ByteArray) then ((m_i_callText N p0).bind fun x4 => ((cat (⟨#[116, 97, 115, 107, 32]⟩ : ByteArray) x4).bind fun z3 => ((cat z3 (⟨#[32, 117, 110, 100, 111, 32]⟩ : ByteArray)).bind fun z4 => ((cat z4 p0.Undo).bind fun z5 => some z5)))) else ((m_i_callText N p0).bind fun x5 => ((cat (⟨#[116, 97, 115, 107, 32]⟩ : ByteArray) x5).bind fun z6 => some z6))) else (if decide (p0.Kind = 4) then ((m_strconv_Itoa N p0.N).bind fun x6 => ((cat (⟨#[116, 105, 109, 101, 114, 32]⟩ : ByteArray) x6).bind fun z7 => ((cat z7 (⟨#[32]⟩ : ByteArray)).bind fun z8 => ((m_i_callText N p0).bind fun x7 => ((cat z8 x7).bind fun z9 => some z9))))) else (if decide (p0.Kind = 5) then some (⟨#[100, 111, 110, 101]⟩ : ByteArray) else some (⟨#[102, 97, 105, 108]⟩ : ByteArray))))))))
def m_i_ruleText_j4 (N : Nat) (s5 : (List ByteArray)) (s7 : ByteArray) : Option (ByteArray) :=
  ((cat s7 (⟨#[32, 45, 62, 32]⟩ : ByteArray)).bind fun z6 => ((m_strings_Join N s5 (⟨#[44, 32]⟩ : ByteArray)).bind fun x12 => ((cat z6 x12).bind fun z7 => ((cat z7 (⟨#[46, 10]⟩ : ByteArray)).bind fun z8 => some z8))))
def m_i_ruleText_l3 (N : Nat) (p0 : TRule) (s1 : (List ByteArray)) (s3 : (List ByteArray)) : Nat → (List ByteArray) → Int → Option (ByteArray)
  | 0, _, _ => none
  | k + 1, s5, s6 =>
    (if decide (s6 < (p0.Acts.length : Int)) then ((idx p0.Acts s6).bind fun x7 => ((m_i_ActText N x7).bind fun x8 => ((app s5 ([x8] : List ByteArray)).bind fun x9 => ((m_i_ruleText_l3 N p0 s1 s3 k) x9 (IntKind.i64.wrap (s6 + 1)))))) else ((cat (⟨#[114, 117, 108, 101, 32]⟩ : ByteArray) p0.Name).bind fun z1 => ((cat z1 (⟨#[32]⟩ : ByteArray)).bind fun z2 => ((m_strconv_Itoa N p0.Sal).bind fun x10 => ((cat z2 x10).bind fun z3 => ((cat z3 (⟨#[58, 32]⟩ : ByteArray)).bind fun z4 => ((m_strings_Join N s1 (⟨#[44, 32]⟩ : ByteArray)).bind fun x11 => ((cat z4 x11).bind fun z5 => (if decide (0 < (s3.length : Int)) then ((m_strings_Join N s3 (⟨#[44, 32]⟩ : ByteArray)).bind fun x13 => ((cat (⟨#[32, 43, 32]⟩ : ByteArray) x13).bind fun z9 => ((cat z5 z9).bind fun z10 => m_i_ruleText_j4 N s5 z10))) else m_i_ruleText_j4 N s5 z5)))))))))
def m_i_ruleText_l2 (N : Nat) (p0 : TRule) (s1 : (List ByteArray)) : Nat → (List ByteArray) → Int → Option (ByteArray)
  | 0, _, _ => none
  | k + 1, s3, s4 =>
    (if decide (s4 < (p0.Conds.length : Int)) then ((idx p0.Conds s4).bind fun x4 => ((m_i_CondText N x4).bind fun x5 => ((app s3 ([x5] : List ByteArray)).bind fun x6 => ((m_i_ruleText_l2 N p0 s1 k) x6 (IntKind.i64.wrap (s4 + 1)))))) else m_i_ruleText_l3 N p0 s1 s3 N ([] : List ByteArray) 0)
def m_i_ruleText_l1 (N : Nat) (p0 : TRule) : Nat → (List ByteArray) → Int → Option (ByteArray)
  | 0, _, _ => none
  | k + 1, s1, s2 =>
    (if decide (s2 < (p0.Pats.length : Int)) then ((idx p0.Pats s2).bind fun x1 => ((m_i_PatText N x1).bind fun x2 => ((app s1 ([x2] : List ByteArray)).bind fun x3 => ((m_i_ruleText_l1 N p0 k) x3 (IntKind.i64.wrap (s2 + 1)))))) else m_i_ruleText_l2 N p0 s1 N ([] : List ByteArray) 0)
def m_i_ruleText (N : Nat) (p0 : TRule) : Option (ByteArray) :=
  m_i_ruleText_l1 N p0 N ([] : List ByteArray) 0
def m_i_PosCount_l1 (N : Nat) (p0 : TRule) : Nat → Int → Int → Option (Int)
  | 0, _, _ => none
  | k + 1, s1, s2 =>
    (if decide (s2 < (p0.Pats.length : Int)) then ((idx p0.Pats s2).bind fun x1 => (if !x1.Not then ((m_i_PosCount_l1 N p0 k) (IntKind.i64.wrap (s1 + 1)) (IntKind.i64.wrap (s2 + 1))) else ((m_i_PosCount_l1 N p0 k) s1 (IntKind.i64.wrap (s2 + 1))))) else some s1)
def m_i_PosCount (N : Nat) (p0 : TRule) : Option (Int) :=
  m_i_PosCount_l1 N p0 N 0 0
def m_i_patsOk_l1 (N : Nat) (p0 : TRule) : Nat → Int → Option (Bool)
  | 0, _ => none
  | k + 1, s1 =>
    (if decide (s1 < (p0.Pats.length : Int)) then ((idx p0.Pats s1).bind fun x4 => ((m_i_PatOk N x4).bind fun x5 => ((if !x5 then some true else ((m_i_PosCount N p0).bind fun x6 => some (x4.Not != (decide (x6 ≤ s1))))).bind fun b2 => (if b2 then some false else ((m_i_patsOk_l1 N p0 k) (IntKind.i64.wrap (s1 + 1))))))) else some true)
def m_i_patsOk (N : Nat) (p0 : TRule) : Option (Bool) :=
  ((m_i_inRange N (p0.Pats.length : Int) 1 6).bind fun x1 => ((if !x1 then some true else ((m_i_PosCount N p0).bind fun x2 => ((m_i_inRange N x2 1 3).bind fun x3 => some (!x3)))).bind fun b1 => (if b1 then some false else m_i_patsOk_l1 N p0 N 0)))
def m_sl_Index_Sstring_string_l1 (N : Nat) (p0 : (List ByteArray)) (p1 : ByteArray) : Nat → Int → Option (Int)
  | 0, _ => none
  | k + 1, s1 =>
    (if decide (s1 < (p0.length : Int)) then ((idx p0 s1).bind fun x1 => (if seq p1 x1 then some s1 else ((m_sl_Index_Sstring_string_l1 N p0 p1 k) (IntKind.i64.wrap (s1 + 1))))) else some (-1))
def m_sl_Index_Sstring_string (N : Nat) (p0 : (List ByteArray)) (p1 : ByteArray) : Option (Int) :=
  m_sl_Index_Sstring_string_l1 N p0 p1 N 0
def m_sl_Contains_Sstring_string (N : Nat) (p0 : (List ByteArray)) (p1 : ByteArray) : Option (Bool) :=
  ((m_sl_Index_Sstring_string N p0 p1).bind fun x1 => some (decide (0 ≤ x1)))
def m_i_addOnce (N : Nat) (p0 : (List ByteArray)) (p1 : ByteArray) : Option ((List ByteArray)) :=
  ((m_sl_Contains_Sstring_string N p0 p1).bind fun x1 => (if x1 then some p0 else ((app p0 ([p1] : List ByteArray)).bind fun x2 => some x2)))
def m_i_addVars_l1 (N : Nat) (p1 : (List TArg)) : Nat → (List ByteArray) → Int → Option ((List ByteArray))
  | 0, _, _ => none
  | k + 1, s1, s2 =>
    (if decide (s2 < (p1.length : Int)) then ((idx p1 s2).bind fun x1 => (if decide (x1.K = 1) then ((m_i_addOnce N s1 x1.S).bind fun x2 => ((m_i_addVars_l1 N p1 k) x2 (IntKind.i64.wrap (s2 + 1)))) else ((m_i_addVars_l1 N p1 k) s1 (IntKind.i64.wrap (s2 + 1))))) else some s1)
def m_i_addVars (N : Nat) (p0 : (List ByteArray)) (p1 : (List TArg)) : Option ((List ByteArray)) :=
  m_i_addVars_l1 N p1 N p0 0
def m_i_PosVars_l1 (N : Nat) (p0 : TRule) : Nat → (List ByteArray) → Int → Option ((List ByteArray))
  | 0, _, _ => none
  | k + 1, s1, s2 =>
    (if decide (s2 < (p0.Pats.length : Int)) then ((idx p0.Pats s2).bind fun x1 => (if !x1.Not then ((m_i_addVars N s1 x1.Args).bind fun x2 => ((m_i_PosVars_l1 N p0 k) x2 (IntKind.i64.wrap (s2 + 1)))) else ((m_i_PosVars_l1 N p0 k) s1 (IntKind.i64.wrap (s2 + 1))))) else some s1)
def m_i_PosVars (N : Nat) (p0 : TRule) : Option ((List ByteArray)) :=
  m_i_PosVars_l1 N p0 N ([] : List ByteArray) 0
def m_i_usedVars_l3 (N : Nat) (s4 : Int) (K2 : (List ByteArray) → Int → Option ((List ByteArray))) (x3 : TAct) : Nat → (List ByteArray) → Int → Option ((List ByteArray))
  | 0, _, _ => none
  | k + 1, s5, s6 =>
    (if decide (s6 < (x3.Args.length : Int)) then ((idx x3.Args s6).bind fun x4 => ((m_i_addVars N s5 ([x4.L, x4.R] : List TArg)).bind fun x5 => ((m_i_usedVars_l3 N s4 K2 x3 k) x5 (IntKind.i64.wrap (s6 + 1))))) else (K2 s5 (IntKind.i64.wrap (s4 + 1))))
def m_i_usedVars_l2 (N : Nat) (p0 : TRule) : Nat → (List ByteArray) → Int → Option ((List ByteArray))
  | 0, _, _ => none
  | k + 1, s3, s4 =>
    (if decide (s4 < (p0.Acts.length : Int)) then ((idx p0.Acts s4).bind fun x3 => m_i_usedVars_l3 N s4 (m_i_usedVars_l2 N p0 k) x3 N s3 0) else some s3)
def m_i_usedVars_l1 (N : Nat) (p0 : TRule) : Nat → (List ByteArray) → Int → Option ((List ByteArray))
  | 0, _, _ => none
  | k + 1, s1, s2 =>
    (if decide (s2 < (p0.Conds.length : Int)) then ((idx p0.Conds s2).bind fun x1 => ((m_i_addVars N s1 ([x1.L, x1.R] : List TArg)).bind fun x2 => ((m_i_usedVars_l1 N p0 k) x2 (IntKind.i64.wrap (s2 + 1))))) else m_i_usedVars_l2 N p0 N s1 0)
def m_i_usedVars (N : Nat) (p0 : TRule) : Option ((List ByteArray)) :=
  m_i_usedVars_l1 N p0 N ([] : List ByteArray) 0
def m_i_RuleOk_l3 (N : Nat) (x10 : (List ByteArray)) (x11 : (List ByteArray)) : Nat → Int → Option (Bool)
  | 0, _ => none
  | k + 1, s3 =>
    (if decide (s3 < (x11.length : Int)) then ((idx x11 s3).bind fun x12 => ((m_sl_Contains_Sstring_string N x10 x12).bind fun x13 => (if !x13 then some false else ((m_i_RuleOk_l3 N x10 x11 k) (IntKind.i64.wrap (s3 + 1)))))) else some true)
def m_i_RuleOk_l2 (N : Nat) (p0 : TRule) : Nat → Int → Option (Bool)
  | 0, _ => none
  | k + 1, s2 =>
    (if decide (s2 < (p0.Acts.length : Int)) then ((idx p0.Acts s2).bind fun x7 => ((m_i_ActOk N x7).bind fun x8 => ((if !x8 then some true else ((if decide (x7.Kind = 2) then ((m_i_PosCount N p0).bind fun x9 => some (decide (x9 ≤ x7.N))) else some false).bind fun b5 => some b5)).bind fun b4 => (if b4 then some false else ((m_i_RuleOk_l2 N p0 k) (IntKind.i64.wrap (s2 + 1))))))) else ((m_i_PosVars N p0).bind fun x10 => ((m_i_usedVars N p0).bind fun x11 => m_i_RuleOk_l3 N x10 x11 N 0)))
def m_i_RuleOk_l1 (N : Nat) (p0 : TRule) : Nat → Int → Option (Bool)
  | 0, _ => none
  | k + 1, s1 =>
    (if decide (s1 < (p0.Conds.length : Int)) then ((idx p0.Conds s1).bind fun x5 => ((m_i_CondOk N x5).bind fun x6 => (if !x6 then some false else ((m_i_RuleOk_l1 N p0 k) (IntKind.i64.wrap (s1 + 1)))))) else m_i_RuleOk_l2 N p0 N 0)
def m_i_RuleOk (N : Nat) (p0 : TRule) : Option (Bool) :=
  ((m_i_NameOk N p0.Name).bind fun x1 => ((if !x1 then some true else ((m_i_inRange N p0.Sal (-100) 100).bind fun x2 => some (!x2))).bind fun b1 => ((if b1 then some true else ((m_i_patsOk N p0).bind fun x3 => some (!x3))).bind fun b2 => (if b2 then some false else ((if decide (6 < (p0.Conds.length : Int)) then some true else ((m_i_inRange N (p0.Acts.length : Int) 1 6).bind fun x4 => some (!x4))).bind fun b3 => (if b3 then some false else m_i_RuleOk_l1 N p0 N 0))))))
def m_sl_IndexFunc_Si_Rule_i_Rule_l1 (N : Nat) (p0 : (List TRule)) (p1 : TRule → Option (Bool)) : Nat → Int → Option (Int)
  | 0, _ => none
  | k + 1, s1 =>
    (if decide (s1 < (p0.length : Int)) then ((idx p0 s1).bind fun x1 => ((p1 x1).bind fun x2 => (if x2 then some s1 else ((m_sl_IndexFunc_Si_Rule_i_Rule_l1 N p0 p1 k) (IntKind.i64.wrap (s1 + 1)))))) else some (-1))
def m_sl_IndexFunc_Si_Rule_i_Rule (N : Nat) (p0 : (List TRule)) (p1 : TRule → Option (Bool)) : Option (Int) :=
  m_sl_IndexFunc_Si_Rule_i_Rule_l1 N p0 p1 N 0
def m_i_RuleAt_c1 (N : Nat) (p0 : TRule) (c0 : ByteArray) : Option (Bool) :=
  some (seq p0.Name c0)
def m_i_RuleAt (N : Nat) (p0 : TDef) (p1 : ByteArray) : Option (Int) :=
  ((m_sl_IndexFunc_Si_Rule_i_Rule N p0.Rules (fun a0 => m_i_RuleAt_c1 N a0 p1)).bind fun x1 => some x1)
def m_i_DefOk_l1 (N : Nat) (p0 : TDef) : Nat → Int → Option (Bool)
  | 0, _ => none
  | k + 1, s1 =>
    (if decide (s1 < (p0.Rules.length : Int)) then ((idx p0.Rules s1).bind fun x3 => ((m_i_RuleOk N x3).bind fun x4 => ((if !x4 then some true else ((m_i_RuleAt N p0 x3.Name).bind fun x5 => some (!decide (x5 = s1)))).bind fun b2 => (if b2 then some false else ((m_i_DefOk_l1 N p0 k) (IntKind.i64.wrap (s1 + 1))))))) else some true)
def m_i_DefOk (N : Nat) (p0 : TDef) : Option (Bool) :=
  ((m_i_NameOk N p0.Name).bind fun x1 => ((if !x1 then some true else ((m_i_inRange N (p0.Rules.length : Int) 1 12).bind fun x2 => some (!x2))).bind fun b1 => (if b1 then some false else m_i_DefOk_l1 N p0 N 0)))
def m_i_DefText_l1 (N : Nat) (p0 : TDef) : Nat → ByteArray → Int → Option (ByteArray)
  | 0, _, _ => none
  | k + 1, s1, s2 =>
    (if decide (s2 < (p0.Rules.length : Int)) then ((idx p0.Rules s2).bind fun x3 => ((m_i_ruleText N x3).bind fun x4 => ((wrt s1 x4).bind fun x5 => ((m_i_DefText_l1 N p0 k) x5 (IntKind.i64.wrap (s2 + 1)))))) else some s1)
def m_i_DefText (N : Nat) (p0 : TDef) : Option (ByteArray) :=
  ((m_i_DefOk N p0).bind fun x1 => (if !x1 then some (⟨#[]⟩ : ByteArray) else ((cat (⟨#[100, 101, 102, 32]⟩ : ByteArray) p0.Name).bind fun z1 => ((cat z1 (⟨#[46, 10]⟩ : ByteArray)).bind fun z2 => ((wrt (⟨#[]⟩ : ByteArray) z2).bind fun x2 => m_i_DefText_l1 N p0 N x2 0)))))
def m_l_eqVal (N : Nat) (p0 : TVal) (p1 : TVal) : Option (Bool) :=
  (if !decide (p0.K = p1.K) then some false else (if !decide (p0.N = p1.N) then some false else (if !seq p0.S p1.S then some false else some true)))
def m_l_eqArg (N : Nat) (p0 : TArg) (p1 : TArg) : Option (Bool) :=
  (if !decide (p0.K = p1.K) then some false else (if !seq p0.S p1.S then some false else ((m_l_eqVal N p0.V p1.V).bind fun x1 => (if !x1 then some false else some true))))
def m_l_eqArgS_l1 (N : Nat) (p0 : (List TArg)) (p1 : (List TArg)) : Nat → Int → Option (Bool)
  | 0, _ => none
  | k + 1, s1 =>
    (if decide (s1 < (p0.length : Int)) then ((idx p0 s1).bind fun x1 => ((idx p1 s1).bind fun x2 => ((m_l_eqArg N x1 x2).bind fun x3 => (if !x3 then some false else ((m_l_eqArgS_l1 N p0 p1 k) (IntKind.i64.wrap (s1 + 1))))))) else some true)
def m_l_eqArgS (N : Nat) (p0 : (List TArg)) (p1 : (List TArg)) : Option (Bool) :=
  (if !decide ((p0.length : Int) = (p1.length : Int)) then some false else m_l_eqArgS_l1 N p0 p1 N 0)
def m_l_eqPat (N : Nat) (p0 : TPat) (p1 : TPat) : Option (Bool) :=
  (if !seq p0.Kind p1.Kind then some false else ((m_l_eqArgS N p0.Args p1.Args).bind fun x1 => (if !x1 then some false else (if (p0.Not != p1.Not) then some false else some true))))
def m_l_eqPatS_l1 (N : Nat) (p0 : (List TPat)) (p1 : (List TPat)) : Nat → Int → Option (Bool)
  | 0, _ => none
  | k + 1, s1 =>
    (if decide (s1 < (p0.length : Int)) then ((idx p0 s1).bind fun x1 => ((idx p1 s1).bind fun x2 => ((m_l_eqPat N x1 x2).bind fun x3 => (if !x3 then some false else ((m_l_eqPatS_l1 N p0 p1 k) (IntKind.i64.wrap (s1 + 1))))))) else some true)
def m_l_eqPatS (N : Nat) (p0 : (List TPat)) (p1 : (List TPat)) : Option (Bool) :=
  (if !decide ((p0.length : Int) = (p1.length : Int)) then some false else m_l_eqPatS_l1 N p0 p1 N 0)
def m_l_eqCond (N : Nat) (p0 : TCond) (p1 : TCond) : Option (Bool) :=
  (if !decide (p0.Op = p1.Op) then some false else ((m_l_eqArg N p0.L p1.L).bind fun x1 => (if !x1 then some false else ((m_l_eqArg N p0.R p1.R).bind fun x2 => (if !x2 then some false else some true)))))
def m_l_eqCondS_l1 (N : Nat) (p0 : (List TCond)) (p1 : (List TCond)) : Nat → Int → Option (Bool)
  | 0, _ => none
  | k + 1, s1 =>
    (if decide (s1 < (p0.length : Int)) then ((idx p0 s1).bind fun x1 => ((idx p1 s1).bind fun x2 => ((m_l_eqCond N x1 x2).bind fun x3 => (if !x3 then some false else ((m_l_eqCondS_l1 N p0 p1 k) (IntKind.i64.wrap (s1 + 1))))))) else some true)
def m_l_eqCondS (N : Nat) (p0 : (List TCond)) (p1 : (List TCond)) : Option (Bool) :=
  (if !decide ((p0.length : Int) = (p1.length : Int)) then some false else m_l_eqCondS_l1 N p0 p1 N 0)
def m_l_eqExpr (N : Nat) (p0 : TExpr) (p1 : TExpr) : Option (Bool) :=
  (if !seq p0.Op p1.Op then some false else ((m_l_eqArg N p0.L p1.L).bind fun x1 => (if !x1 then some false else ((m_l_eqArg N p0.R p1.R).bind fun x2 => (if !x2 then some false else some true)))))
def m_l_eqExprS_l1 (N : Nat) (p0 : (List TExpr)) (p1 : (List TExpr)) : Nat → Int → Option (Bool)
  | 0, _ => none
  | k + 1, s1 =>
    (if decide (s1 < (p0.length : Int)) then ((idx p0 s1).bind fun x1 => ((idx p1 s1).bind fun x2 => ((m_l_eqExpr N x1 x2).bind fun x3 => (if !x3 then some false else ((m_l_eqExprS_l1 N p0 p1 k) (IntKind.i64.wrap (s1 + 1))))))) else some true)
def m_l_eqExprS (N : Nat) (p0 : (List TExpr)) (p1 : (List TExpr)) : Option (Bool) :=
  (if !decide ((p0.length : Int) = (p1.length : Int)) then some false else m_l_eqExprS_l1 N p0 p1 N 0)
def m_l_eqAct (N : Nat) (p0 : TAct) (p1 : TAct) : Option (Bool) :=
  (if !decide (p0.Kind = p1.Kind) then some false else (if !seq p0.Name p1.Name then some false else ((m_l_eqExprS N p0.Args p1.Args).bind fun x1 => (if !x1 then some false else (if !decide (p0.N = p1.N) then some false else (if !seq p0.Undo p1.Undo then some false else some true))))))
def m_l_eqActS_l1 (N : Nat) (p0 : (List TAct)) (p1 : (List TAct)) : Nat → Int → Option (Bool)
  | 0, _ => none
  | k + 1, s1 =>
    (if decide (s1 < (p0.length : Int)) then ((idx p0 s1).bind fun x1 => ((idx p1 s1).bind fun x2 => ((m_l_eqAct N x1 x2).bind fun x3 => (if !x3 then some false else ((m_l_eqActS_l1 N p0 p1 k) (IntKind.i64.wrap (s1 + 1))))))) else some true)
def m_l_eqActS (N : Nat) (p0 : (List TAct)) (p1 : (List TAct)) : Option (Bool) :=
  (if !decide ((p0.length : Int) = (p1.length : Int)) then some false else m_l_eqActS_l1 N p0 p1 N 0)
def m_l_eqRule (N : Nat) (p0 : TRule) (p1 : TRule) : Option (Bool) :=
  (if !seq p0.Name p1.Name then some false else (if !decide (p0.Sal = p1.Sal) then some false else ((m_l_eqPatS N p0.Pats p1.Pats).bind fun x1 => (if !x1 then some false else ((m_l_eqCondS N p0.Conds p1.Conds).bind fun x2 => (if !x2 then some false else ((m_l_eqActS N p0.Acts p1.Acts).bind fun x3 => (if !x3 then some false else some true))))))))
def m_l_eqRuleS_l1 (N : Nat) (p0 : (List TRule)) (p1 : (List TRule)) : Nat → Int → Option (Bool)
  | 0, _ => none
  | k + 1, s1 =>
    (if decide (s1 < (p0.length : Int)) then ((idx p0 s1).bind fun x1 => ((idx p1 s1).bind fun x2 => ((m_l_eqRule N x1 x2).bind fun x3 => (if !x3 then some false else ((m_l_eqRuleS_l1 N p0 p1 k) (IntKind.i64.wrap (s1 + 1))))))) else some true)
def m_l_eqRuleS (N : Nat) (p0 : (List TRule)) (p1 : (List TRule)) : Option (Bool) :=
  (if !decide ((p0.length : Int) = (p1.length : Int)) then some false else m_l_eqRuleS_l1 N p0 p1 N 0)
def m_l_eqDef (N : Nat) (p0 : TDef) (p1 : TDef) : Option (Bool) :=
  (if !seq p0.Name p1.Name then some false else ((m_l_eqRuleS N p0.Rules p1.Rules).bind fun x1 => (if !x1 then some false else some true)))
def m_l_FnExactDefText (N : Nat) (p0 : TDef) : Option (Bool) :=
  ((m_l_szDef N p0 1048576).bind fun x1 => (if decide (x1 < 0) then some true else ((m_l_toDef N p0).bind fun x2 => ((m_s_DefText N x2).bind fun x3 => ((m_l_toDef N p0).bind fun x4 => ((m_i_DefText N x4).bind fun x5 => (if !seq x5 x3 then some false else ((m_l_toDef N p0).bind fun x6 => ((m_l_eqDef N x4 x6).bind fun x7 => (if !x7 then some false else some true))))))))))
end Go.Proofs.YtlfpehhlkccdiaaGreatDoor
