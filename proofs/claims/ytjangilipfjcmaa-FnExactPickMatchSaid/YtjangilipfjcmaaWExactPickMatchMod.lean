/- Printed by a program of ours: Lean functions of plain data for the Go functions. -/
import Derived.Test.YtjangilipfjcmaaEJ
namespace Go.Proofs.Ytjangilipfjcmaa
open Eng
set_option linter.unusedVariables false
set_option linter.unusedSimpArgs false

structure TVal where
  K : Int
  N : Int
  S : ByteArray
  deriving DecidableEq
def RTVal (Φ : Hp) (F : List Nat) (cs : List Value) (x : TVal) : Prop := cs = [.int .i64 x.K, .int .i64 x.N, .string x.S] ∧ F = []
theorem RTVal.lasts : Lasts RTVal := fun _ _ _ _ _ _ _ _ h => h
theorem RTVal.knows : Knows RTVal := fun _ _ _ _ h => h.2 ▸ Kw.nil
theorem RTVal.flat : Flat RTVal := fun _ _ _ _ h => h.2
theorem RTVal.one : Ones RTVal := fun _ _ _ _ h => by obtain ⟨rfl, -⟩ := h; exact One.all ⟨rfl, rfl, rfl, trivial⟩
structure TArg where
  K : Int
  S : ByteArray
  V : TVal
  deriving DecidableEq
def RTArg (Φ : Hp) (F : List Nat) (cs : List Value) (x : TArg) : Prop := cs = [.int .i64 x.K, .string x.S, .int .i64 x.V.K, .int .i64 x.V.N, .string x.V.S] ∧ F = []
theorem RTArg.lasts : Lasts RTArg := fun _ _ _ _ _ _ _ _ h => h
theorem RTArg.knows : Knows RTArg := fun _ _ _ _ h => h.2 ▸ Kw.nil
theorem RTArg.flat : Flat RTArg := fun _ _ _ _ h => h.2
theorem RTArg.one : Ones RTArg := fun _ _ _ _ h => by obtain ⟨rfl, -⟩ := h; exact One.all ⟨rfl, rfl, rfl, rfl, rfl, trivial⟩
structure TPat where
  Kind : ByteArray
  Args : (List TArg)
  Not : Bool
  deriving DecidableEq
def RTPat (Φ : Hp) (F : List Nat) (cs : List Value) (x : TPat) : Prop :=
  ∃ (s0 : Value) (F0 : List Nat), cs = [.string x.Kind, s0, .bool x.Not] ∧ F = F0 ∧ RSl RTArg 5 Φ F0 s0 x.Args
theorem RTPat.lasts : Lasts RTPat := fun X Φ Φ' F cs x hf hd ⟨s0, F0, hc, hF, h0⟩ => by
  rw [hF] at hd
  exact ⟨s0, F0, hc, hF, h0.frame RTArg.lasts hf (fun k hk => hd k (by simp [hk]))⟩
theorem RTPat.knows : Knows RTPat := fun Φ F cs x ⟨s0, F0, hc, hF, h0⟩ => hF ▸ h0.kn
theorem RTPat.one : Ones RTPat := fun _ _ _ _ h => by obtain ⟨s0, F0, rfl, -, h0⟩ := h; exact One.all ⟨rfl, h0.one, rfl, trivial⟩
def OTPat (Φ : Hp) (F : List Nat) (cs : List Value) (x : TPat) : Prop :=
  ∃ (s0 : Value), cs = [.string x.Kind, s0, .bool x.Not] ∧ F = (ob s0 ++ []) ∧ OSl RTArg 140 5 Φ [] s0 x.Args
theorem OTPat.lasts : Lasts OTPat := fun X Φ Φ' F cs x hf hd ⟨s0, hc, hF, h0⟩ => by
  rw [hF] at hd
  exact ⟨s0, hc, hF, h0.frame RTArg.lasts hf (fun k hk => hd k (by simp [hk])) (Dj.nil _)⟩
theorem OTPat.knows : Knows OTPat := fun Φ F cs x ⟨s0, hc, hF, h0⟩ => hF ▸ (h0.knO.app h0.kn)
theorem OTPat.one : Ones OTPat := fun _ _ _ _ h => by obtain ⟨s0, rfl, -, h0⟩ := h; exact One.all ⟨rfl, h0.one, rfl, trivial⟩
theorem OTPat.gives : Gives OTPat RTPat := fun Φ F cs x ⟨s0, hc, hF, h0⟩ => ⟨s0, ob s0 ++ [], hc, hF, h0.rslG (Gives.refl _)⟩
structure TCond where
  Op : Int
  L : TArg
  R : TArg
  deriving DecidableEq
def RTCond (Φ : Hp) (F : List Nat) (cs : List Value) (x : TCond) : Prop := cs = [.int .i64 x.Op, .int .i64 x.L.K, .string x.L.S, .int .i64 x.L.V.K, .int .i64 x.L.V.N, .string x.L.V.S, .int .i64 x.R.K, .string x.R.S, .int .i64 x.R.V.K, .int .i64 x.R.V.N, .string x.R.V.S] ∧ F = []
theorem RTCond.lasts : Lasts RTCond := fun _ _ _ _ _ _ _ _ h => h
theorem RTCond.knows : Knows RTCond := fun _ _ _ _ h => h.2 ▸ Kw.nil
theorem RTCond.flat : Flat RTCond := fun _ _ _ _ h => h.2
theorem RTCond.one : Ones RTCond := fun _ _ _ _ h => by obtain ⟨rfl, -⟩ := h; exact One.all ⟨rfl, rfl, rfl, rfl, rfl, rfl, rfl, rfl, rfl, rfl, rfl, trivial⟩
structure TExpr where
  Op : ByteArray
  L : TArg
  R : TArg
  deriving DecidableEq
def RTExpr (Φ : Hp) (F : List Nat) (cs : List Value) (x : TExpr) : Prop := cs = [.string x.Op, .int .i64 x.L.K, .string x.L.S, .int .i64 x.L.V.K, .int .i64 x.L.V.N, .string x.L.V.S, .int .i64 x.R.K, .string x.R.S, .int .i64 x.R.V.K, .int .i64 x.R.V.N, .string x.R.V.S] ∧ F = []
theorem RTExpr.lasts : Lasts RTExpr := fun _ _ _ _ _ _ _ _ h => h
theorem RTExpr.knows : Knows RTExpr := fun _ _ _ _ h => h.2 ▸ Kw.nil
theorem RTExpr.flat : Flat RTExpr := fun _ _ _ _ h => h.2
theorem RTExpr.one : Ones RTExpr := fun _ _ _ _ h => by obtain ⟨rfl, -⟩ := h; exact One.all ⟨rfl, rfl, rfl, rfl, rfl, rfl, rfl, rfl, rfl, rfl, rfl, trivial⟩
structure TAct where
  Kind : Int
  Name : ByteArray
  Args : (List TExpr)
  N : Int
  Undo : ByteArray
  deriving DecidableEq
def RTAct (Φ : Hp) (F : List Nat) (cs : List Value) (x : TAct) : Prop :=
  ∃ (s0 : Value) (F0 : List Nat), cs = [.int .i64 x.Kind, .string x.Name, s0, .int .i64 x.N, .string x.Undo] ∧ F = F0 ∧ RSl RTExpr 11 Φ F0 s0 x.Args
theorem RTAct.lasts : Lasts RTAct := fun X Φ Φ' F cs x hf hd ⟨s0, F0, hc, hF, h0⟩ => by
  rw [hF] at hd
  exact ⟨s0, F0, hc, hF, h0.frame RTExpr.lasts hf (fun k hk => hd k (by simp [hk]))⟩
theorem RTAct.knows : Knows RTAct := fun Φ F cs x ⟨s0, F0, hc, hF, h0⟩ => hF ▸ h0.kn
theorem RTAct.one : Ones RTAct := fun _ _ _ _ h => by obtain ⟨s0, F0, rfl, -, h0⟩ := h; exact One.all ⟨rfl, rfl, h0.one, rfl, rfl, trivial⟩
def OTAct (Φ : Hp) (F : List Nat) (cs : List Value) (x : TAct) : Prop :=
  ∃ (s0 : Value), cs = [.int .i64 x.Kind, .string x.Name, s0, .int .i64 x.N, .string x.Undo] ∧ F = (ob s0 ++ []) ∧ OSl RTExpr 197 11 Φ [] s0 x.Args
theorem OTAct.lasts : Lasts OTAct := fun X Φ Φ' F cs x hf hd ⟨s0, hc, hF, h0⟩ => by
  rw [hF] at hd
  exact ⟨s0, hc, hF, h0.frame RTExpr.lasts hf (fun k hk => hd k (by simp [hk])) (Dj.nil _)⟩
theorem OTAct.knows : Knows OTAct := fun Φ F cs x ⟨s0, hc, hF, h0⟩ => hF ▸ (h0.knO.app h0.kn)
theorem OTAct.one : Ones OTAct := fun _ _ _ _ h => by obtain ⟨s0, rfl, -, h0⟩ := h; exact One.all ⟨rfl, rfl, h0.one, rfl, rfl, trivial⟩
theorem OTAct.gives : Gives OTAct RTAct := fun Φ F cs x ⟨s0, hc, hF, h0⟩ => ⟨s0, ob s0 ++ [], hc, hF, h0.rslG (Gives.refl _)⟩
structure TRule where
  Name : ByteArray
  Sal : Int
  Pats : (List TPat)
  Conds : (List TCond)
  Acts : (List TAct)
  deriving DecidableEq
def RTRule (Φ : Hp) (F : List Nat) (cs : List Value) (x : TRule) : Prop :=
  ∃ (s0 : Value) (F0 : List Nat) (s1 : Value) (F1 : List Nat) (s2 : Value) (F2 : List Nat), cs = [.string x.Name, .int .i64 x.Sal, s0, s1, s2] ∧ F = F0 ++ (F1 ++ (F2)) ∧ RSl RTPat 3 Φ F0 s0 x.Pats ∧ RSl RTCond 11 Φ F1 s1 x.Conds ∧ RSl RTAct 5 Φ F2 s2 x.Acts
theorem RTRule.lasts : Lasts RTRule := fun X Φ Φ' F cs x hf hd ⟨s0, F0, s1, F1, s2, F2, hc, hF, h0, h1, h2⟩ => by
  rw [hF] at hd
  exact ⟨s0, F0, s1, F1, s2, F2, hc, hF, h0.frame RTPat.lasts hf (fun k hk => hd k (by simp [hk])), h1.frame RTCond.lasts hf (fun k hk => hd k (by simp [hk])), h2.frame RTAct.lasts hf (fun k hk => hd k (by simp [hk]))⟩
theorem RTRule.knows : Knows RTRule := fun Φ F cs x ⟨s0, F0, s1, F1, s2, F2, hc, hF, h0, h1, h2⟩ => hF ▸ (h0.kn.app (h1.kn.app h2.kn))
theorem RTRule.one : Ones RTRule := fun _ _ _ _ h => by obtain ⟨s0, F0, s1, F1, s2, F2, rfl, -, h0, h1, h2⟩ := h; exact One.all ⟨rfl, rfl, h0.one, h1.one, h2.one, trivial⟩
def OTRule (Φ : Hp) (F : List Nat) (cs : List Value) (x : TRule) : Prop :=
  ∃ (s0 : Value) (D0 : List Nat) (s1 : Value) (s2 : Value) (D2 : List Nat), cs = [.string x.Name, .int .i64 x.Sal, s0, s1, s2] ∧ F = (ob s0 ++ D0) ++ ((ob s1 ++ []) ++ ((ob s2 ++ D2))) ∧ OSl OTPat 94 3 Φ D0 s0 x.Pats ∧ OSl RTCond 142 11 Φ [] s1 x.Conds ∧ OSl OTAct 146 5 Φ D2 s2 x.Acts
theorem OTRule.lasts : Lasts OTRule := fun X Φ Φ' F cs x hf hd ⟨s0, D0, s1, s2, D2, hc, hF, h0, h1, h2⟩ => by
  rw [hF] at hd
  exact ⟨s0, D0, s1, s2, D2, hc, hF, h0.frame OTPat.lasts hf (fun k hk => hd k (by simp [hk])) (fun k hk => hd k (by simp [hk])), h1.frame RTCond.lasts hf (fun k hk => hd k (by simp [hk])) (Dj.nil _), h2.frame OTAct.lasts hf (fun k hk => hd k (by simp [hk])) (fun k hk => hd k (by simp [hk]))⟩
theorem OTRule.knows : Knows OTRule := fun Φ F cs x ⟨s0, D0, s1, s2, D2, hc, hF, h0, h1, h2⟩ => hF ▸ ((h0.knO.app h0.kn).app ((h1.knO.app h1.kn).app (h2.knO.app h2.kn)))
theorem OTRule.one : Ones OTRule := fun _ _ _ _ h => by obtain ⟨s0, D0, s1, s2, D2, rfl, -, h0, h1, h2⟩ := h; exact One.all ⟨rfl, rfl, h0.one, h1.one, h2.one, trivial⟩
theorem OTRule.gives : Gives OTRule RTRule := fun Φ F cs x ⟨s0, D0, s1, s2, D2, hc, hF, h0, h1, h2⟩ => ⟨s0, ob s0 ++ D0, s1, ob s1 ++ [], s2, ob s2 ++ D2, hc, hF, h0.rslG OTPat.gives, h1.rslG (Gives.refl _), h2.rslG OTAct.gives⟩
structure TDef where
  Name : ByteArray
  Rules : (List TRule)
  deriving DecidableEq
def RTDef (Φ : Hp) (F : List Nat) (cs : List Value) (x : TDef) : Prop :=
  ∃ (s0 : Value) (F0 : List Nat), cs = [.string x.Name, s0] ∧ F = F0 ∧ RSl RTRule 5 Φ F0 s0 x.Rules
theorem RTDef.lasts : Lasts RTDef := fun X Φ Φ' F cs x hf hd ⟨s0, F0, hc, hF, h0⟩ => by
  rw [hF] at hd
  exact ⟨s0, F0, hc, hF, h0.frame RTRule.lasts hf (fun k hk => hd k (by simp [hk]))⟩
theorem RTDef.knows : Knows RTDef := fun Φ F cs x ⟨s0, F0, hc, hF, h0⟩ => hF ▸ h0.kn
theorem RTDef.one : Ones RTDef := fun _ _ _ _ h => by obtain ⟨s0, F0, rfl, -, h0⟩ := h; exact One.all ⟨rfl, h0.one, trivial⟩
def OTDef (Φ : Hp) (F : List Nat) (cs : List Value) (x : TDef) : Prop :=
  ∃ (s0 : Value) (D0 : List Nat), cs = [.string x.Name, s0] ∧ F = (ob s0 ++ D0) ∧ OSl OTRule 51 5 Φ D0 s0 x.Rules
theorem OTDef.lasts : Lasts OTDef := fun X Φ Φ' F cs x hf hd ⟨s0, D0, hc, hF, h0⟩ => by
  rw [hF] at hd
  exact ⟨s0, D0, hc, hF, h0.frame OTRule.lasts hf (fun k hk => hd k (by simp [hk])) (fun k hk => hd k (by simp [hk]))⟩
theorem OTDef.knows : Knows OTDef := fun Φ F cs x ⟨s0, D0, hc, hF, h0⟩ => hF ▸ (h0.knO.app h0.kn)
theorem OTDef.one : Ones OTDef := fun _ _ _ _ h => by obtain ⟨s0, D0, rfl, -, h0⟩ := h; exact One.all ⟨rfl, h0.one, trivial⟩
theorem OTDef.gives : Gives OTDef RTDef := fun Φ F cs x ⟨s0, D0, hc, hF, h0⟩ => ⟨s0, ob s0 ++ D0, hc, hF, h0.rslG OTRule.gives⟩
structure TBind where
  Name : ByteArray
  V : TVal
  deriving DecidableEq
def RTBind (Φ : Hp) (F : List Nat) (cs : List Value) (x : TBind) : Prop := cs = [.string x.Name, .int .i64 x.V.K, .int .i64 x.V.N, .string x.V.S] ∧ F = []
theorem RTBind.lasts : Lasts RTBind := fun _ _ _ _ _ _ _ _ h => h
theorem RTBind.knows : Knows RTBind := fun _ _ _ _ h => h.2 ▸ Kw.nil
theorem RTBind.flat : Flat RTBind := fun _ _ _ _ h => h.2
theorem RTBind.one : Ones RTBind := fun _ _ _ _ h => by obtain ⟨rfl, -⟩ := h; exact One.all ⟨rfl, rfl, rfl, rfl, trivial⟩
structure TMatch where
  Rule : Int
  Ids : (List Int)
  Binds : (List TBind)
  deriving DecidableEq
def RTMatch (Φ : Hp) (F : List Nat) (cs : List Value) (x : TMatch) : Prop :=
  ∃ (s0 : Value) (F0 : List Nat) (s1 : Value) (F1 : List Nat), cs = [.int .i64 x.Rule, s0, s1] ∧ F = F0 ++ (F1) ∧ RSl (RI .i64) 1 Φ F0 s0 x.Ids ∧ RSl RTBind 4 Φ F1 s1 x.Binds
theorem RTMatch.lasts : Lasts RTMatch := fun X Φ Φ' F cs x hf hd ⟨s0, F0, s1, F1, hc, hF, h0, h1⟩ => by
  rw [hF] at hd
  exact ⟨s0, F0, s1, F1, hc, hF, h0.frame RI.lasts hf (fun k hk => hd k (by simp [hk])), h1.frame RTBind.lasts hf (fun k hk => hd k (by simp [hk]))⟩
theorem RTMatch.knows : Knows RTMatch := fun Φ F cs x ⟨s0, F0, s1, F1, hc, hF, h0, h1⟩ => hF ▸ (h0.kn.app h1.kn)
theorem RTMatch.one : Ones RTMatch := fun _ _ _ _ h => by obtain ⟨s0, F0, s1, F1, rfl, -, h0, h1⟩ := h; exact One.all ⟨rfl, h0.one, h1.one, trivial⟩
def OTMatch (Φ : Hp) (F : List Nat) (cs : List Value) (x : TMatch) : Prop :=
  ∃ (s0 : Value) (s1 : Value), cs = [.int .i64 x.Rule, s0, s1] ∧ F = (ob s0 ++ []) ++ ((ob s1 ++ [])) ∧ OSl (RI .i64) 3 1 Φ [] s0 x.Ids ∧ OSl RTBind 111 4 Φ [] s1 x.Binds
theorem OTMatch.lasts : Lasts OTMatch := fun X Φ Φ' F cs x hf hd ⟨s0, s1, hc, hF, h0, h1⟩ => by
  rw [hF] at hd
  exact ⟨s0, s1, hc, hF, h0.frame RI.lasts hf (fun k hk => hd k (by simp [hk])) (Dj.nil _), h1.frame RTBind.lasts hf (fun k hk => hd k (by simp [hk])) (Dj.nil _)⟩
theorem OTMatch.knows : Knows OTMatch := fun Φ F cs x ⟨s0, s1, hc, hF, h0, h1⟩ => hF ▸ ((h0.knO.app h0.kn).app (h1.knO.app h1.kn))
theorem OTMatch.one : Ones OTMatch := fun _ _ _ _ h => by obtain ⟨s0, s1, rfl, -, h0, h1⟩ := h; exact One.all ⟨rfl, h0.one, h1.one, trivial⟩
theorem OTMatch.gives : Gives OTMatch RTMatch := fun Φ F cs x ⟨s0, s1, hc, hF, h0, h1⟩ => ⟨s0, ob s0 ++ [], s1, ob s1 ++ [], hc, hF, h0.rslG (Gives.refl _), h1.rslG (Gives.refl _)⟩
/-! laws.szVal -/
def m_l_szVal (N : Nat) (p0 : TVal) (p1 : Int) : Option (Int) :=
  (if decide (IntKind.i64.wrap (p1 - (p0.S.size : Int)) < 0) then some (-1) else some (IntKind.i64.wrap (p1 - (p0.S.size : Int))))
/-! laws.szArg -/
def m_l_szArg (N : Nat) (p0 : TArg) (p1 : Int) : Option (Int) :=
  (if decide (IntKind.i64.wrap (p1 - (p0.S.size : Int)) < 0) then some (-1) else ((m_l_szVal N p0.V (IntKind.i64.wrap (p1 - (p0.S.size : Int)))).bind fun x1 => (if decide (x1 < 0) then some (-1) else some x1)))
/-! laws.szArgS -/
def m_l_szArgS_l1 (N : Nat) (p0 : (List TArg)) : Nat → Int → Int → Option (Int)
  | 0, _, _ => none
  | k + 1, s1, s2 =>
    (if decide (s2 < (p0.length : Int)) then ((idx p0 s2).bind fun x1 => ((m_l_szArg N x1 s1).bind fun x2 => (if decide (x2 < 0) then some (-1) else ((m_l_szArgS_l1 N p0 k) x2 (IntKind.i64.wrap (s2 + 1)))))) else some s1)
def m_l_szArgS (N : Nat) (p0 : (List TArg)) (p1 : Int) : Option (Int) :=
  (if decide (IntKind.i64.wrap (p1 - (p0.length : Int)) < 0) then some (-1) else m_l_szArgS_l1 N p0 N (IntKind.i64.wrap (p1 - (p0.length : Int))) 0)
/-! laws.szPat -/
def m_l_szPat (N : Nat) (p0 : TPat) (p1 : Int) : Option (Int) :=
  (if decide (IntKind.i64.wrap (p1 - (p0.Kind.size : Int)) < 0) then some (-1) else ((m_l_szArgS N p0.Args (IntKind.i64.wrap (p1 - (p0.Kind.size : Int)))).bind fun x1 => (if decide (x1 < 0) then some (-1) else some x1)))
/-! laws.szPatS -/
def m_l_szPatS_l1 (N : Nat) (p0 : (List TPat)) : Nat → Int → Int → Option (Int)
  | 0, _, _ => none
  | k + 1, s1, s2 =>
    (if decide (s2 < (p0.length : Int)) then ((idx p0 s2).bind fun x1 => ((m_l_szPat N x1 s1).bind fun x2 => (if decide (x2 < 0) then some (-1) else ((m_l_szPatS_l1 N p0 k) x2 (IntKind.i64.wrap (s2 + 1)))))) else some s1)
def m_l_szPatS (N : Nat) (p0 : (List TPat)) (p1 : Int) : Option (Int) :=
  (if decide (IntKind.i64.wrap (p1 - (p0.length : Int)) < 0) then some (-1) else m_l_szPatS_l1 N p0 N (IntKind.i64.wrap (p1 - (p0.length : Int))) 0)
/-! laws.szCond -/
def m_l_szCond (N : Nat) (p0 : TCond) (p1 : Int) : Option (Int) :=
  ((m_l_szArg N p0.L p1).bind fun x1 => (if decide (x1 < 0) then some (-1) else ((m_l_szArg N p0.R x1).bind fun x2 => (if decide (x2 < 0) then some (-1) else some x2))))
/-! laws.szCondS -/
def m_l_szCondS_l1 (N : Nat) (p0 : (List TCond)) : Nat → Int → Int → Option (Int)
  | 0, _, _ => none
  | k + 1, s1, s2 =>
    (if decide (s2 < (p0.length : Int)) then ((idx p0 s2).bind fun x1 => ((m_l_szCond N x1 s1).bind fun x2 => (if decide (x2 < 0) then some (-1) else ((m_l_szCondS_l1 N p0 k) x2 (IntKind.i64.wrap (s2 + 1)))))) else some s1)
def m_l_szCondS (N : Nat) (p0 : (List TCond)) (p1 : Int) : Option (Int) :=
  (if decide (IntKind.i64.wrap (p1 - (p0.length : Int)) < 0) then some (-1) else m_l_szCondS_l1 N p0 N (IntKind.i64.wrap (p1 - (p0.length : Int))) 0)
/-! laws.szExpr -/
def m_l_szExpr (N : Nat) (p0 : TExpr) (p1 : Int) : Option (Int) :=
  (if decide (IntKind.i64.wrap (p1 - (p0.Op.size : Int)) < 0) then some (-1) else ((m_l_szArg N p0.L (IntKind.i64.wrap (p1 - (p0.Op.size : Int)))).bind fun x1 => (if decide (x1 < 0) then some (-1) else ((m_l_szArg N p0.R x1).bind fun x2 => (if decide (x2 < 0) then some (-1) else some x2)))))
/-! laws.szExprS -/
def m_l_szExprS_l1 (N : Nat) (p0 : (List TExpr)) : Nat → Int → Int → Option (Int)
  | 0, _, _ => none
  | k + 1, s1, s2 =>
    (if decide (s2 < (p0.length : Int)) then ((idx p0 s2).bind fun x1 => ((m_l_szExpr N x1 s1).bind fun x2 => (if decide (x2 < 0) then some (-1) else ((m_l_szExprS_l1 N p0 k) x2 (IntKind.i64.wrap (s2 + 1)))))) else some s1)
def m_l_szExprS (N : Nat) (p0 : (List TExpr)) (p1 : Int) : Option (Int) :=
  (if decide (IntKind.i64.wrap (p1 - (p0.length : Int)) < 0) then some (-1) else m_l_szExprS_l1 N p0 N (IntKind.i64.wrap (p1 - (p0.length : Int))) 0)
/-! laws.szAct -/
def m_l_szAct (N : Nat) (p0 : TAct) (p1 : Int) : Option (Int) :=
  (if decide (IntKind.i64.wrap (p1 - (p0.Name.size : Int)) < 0) then some (-1) else ((m_l_szExprS N p0.Args (IntKind.i64.wrap (p1 - (p0.Name.size : Int)))).bind fun x1 => (if decide (x1 < 0) then some (-1) else (if decide (IntKind.i64.wrap (x1 - (p0.Undo.size : Int)) < 0) then some (-1) else some (IntKind.i64.wrap (x1 - (p0.Undo.size : Int)))))))
/-! laws.szActS -/
def m_l_szActS_l1 (N : Nat) (p0 : (List TAct)) : Nat → Int → Int → Option (Int)
  | 0, _, _ => none
  | k + 1, s1, s2 =>
    (if decide (s2 < (p0.length : Int)) then ((idx p0 s2).bind fun x1 => ((m_l_szAct N x1 s1).bind fun x2 => (if decide (x2 < 0) then some (-1) else ((m_l_szActS_l1 N p0 k) x2 (IntKind.i64.wrap (s2 + 1)))))) else some s1)
def m_l_szActS (N : Nat) (p0 : (List TAct)) (p1 : Int) : Option (Int) :=
  (if decide (IntKind.i64.wrap (p1 - (p0.length : Int)) < 0) then some (-1) else m_l_szActS_l1 N p0 N (IntKind.i64.wrap (p1 - (p0.length : Int))) 0)
/-! laws.szRule -/
def m_l_szRule (N : Nat) (p0 : TRule) (p1 : Int) : Option (Int) :=
  (if decide (IntKind.i64.wrap (p1 - (p0.Name.size : Int)) < 0) then some (-1) else ((m_l_szPatS N p0.Pats (IntKind.i64.wrap (p1 - (p0.Name.size : Int)))).bind fun x1 => (if decide (x1 < 0) then some (-1) else ((m_l_szCondS N p0.Conds x1).bind fun x2 => (if decide (x2 < 0) then some (-1) else ((m_l_szActS N p0.Acts x2).bind fun x3 => (if decide (x3 < 0) then some (-1) else some x3)))))))
/-! laws.szRuleS -/
def m_l_szRuleS_l1 (N : Nat) (p0 : (List TRule)) : Nat → Int → Int → Option (Int)
  | 0, _, _ => none
  | k + 1, s1, s2 =>
    (if decide (s2 < (p0.length : Int)) then ((idx p0 s2).bind fun x1 => ((m_l_szRule N x1 s1).bind fun x2 => (if decide (x2 < 0) then some (-1) else ((m_l_szRuleS_l1 N p0 k) x2 (IntKind.i64.wrap (s2 + 1)))))) else some s1)
def m_l_szRuleS (N : Nat) (p0 : (List TRule)) (p1 : Int) : Option (Int) :=
  (if decide (IntKind.i64.wrap (p1 - (p0.length : Int)) < 0) then some (-1) else m_l_szRuleS_l1 N p0 N (IntKind.i64.wrap (p1 - (p0.length : Int))) 0)
/-! laws.szDef -/
def m_l_szDef (N : Nat) (p0 : TDef) (p1 : Int) : Option (Int) :=
  (if decide (IntKind.i64.wrap (p1 - (p0.Name.size : Int)) < 0) then some (-1) else ((m_l_szRuleS N p0.Rules (IntKind.i64.wrap (p1 - (p0.Name.size : Int)))).bind fun x1 => (if decide (x1 < 0) then some (-1) else some x1)))
/-! laws.toVal -/
def m_l_toVal (N : Nat) (p0 : TVal) : Option (TVal) :=
  some p0
/-! laws.toArg -/
def m_l_toArg (N : Nat) (p0 : TArg) : Option (TArg) :=
  ((m_l_toVal N p0.V).bind fun x1 => some (⟨p0.K, p0.S, x1⟩ : TArg))
/-! laws.toArgS -/
def m_l_toArgS_l1 (N : Nat) (p0 : (List TArg)) : Nat → (List TArg) → Int → Option ((List TArg))
  | 0, _, _ => none
  | k + 1, s1, s2 =>
    (if decide (s2 < (p0.length : Int)) then ((idx p0 s2).bind fun x2 => ((m_l_toArg N x2).bind fun x3 => ((idx s1 s2).bind fun x4 => ((m_l_toArgS_l1 N p0 k) (s1.set s2.toNat x3) (IntKind.i64.wrap (s2 + 1)))))) else some s1)
def m_l_toArgS (N : Nat) (p0 : (List TArg)) : Option ((List TArg)) :=
  ((mk (⟨0, (⟨#[]⟩ : ByteArray), (⟨0, 0, (⟨#[]⟩ : ByteArray)⟩ : TVal)⟩ : TArg) (p0.length : Int)).bind fun x1 => m_l_toArgS_l1 N p0 N x1 0)
/-! laws.toPat -/
def m_l_toPat (N : Nat) (p0 : TPat) : Option (TPat) :=
  ((m_l_toArgS N p0.Args).bind fun x1 => some (⟨p0.Kind, x1, p0.Not⟩ : TPat))
/-! laws.toPatS -/
def m_l_toPatS_l1 (N : Nat) (p0 : (List TPat)) : Nat → (List TPat) → Int → Option ((List TPat))
  | 0, _, _ => none
  | k + 1, s1, s2 =>
    (if decide (s2 < (p0.length : Int)) then ((idx p0 s2).bind fun x2 => ((m_l_toPat N x2).bind fun x3 => ((idx s1 s2).bind fun x4 => ((m_l_toPatS_l1 N p0 k) (s1.set s2.toNat x3) (IntKind.i64.wrap (s2 + 1)))))) else some s1)
def m_l_toPatS (N : Nat) (p0 : (List TPat)) : Option ((List TPat)) :=
  ((mk (⟨(⟨#[]⟩ : ByteArray), ([] : List TArg), false⟩ : TPat) (p0.length : Int)).bind fun x1 => m_l_toPatS_l1 N p0 N x1 0)
/-! laws.toCond -/
def m_l_toCond (N : Nat) (p0 : TCond) : Option (TCond) :=
  ((m_l_toArg N p0.L).bind fun x1 => ((m_l_toArg N p0.R).bind fun x2 => some (⟨p0.Op, x1, x2⟩ : TCond)))
/-! laws.toCondS -/
def m_l_toCondS_l1 (N : Nat) (p0 : (List TCond)) : Nat → (List TCond) → Int → Option ((List TCond))
  | 0, _, _ => none
  | k + 1, s1, s2 =>
    (if decide (s2 < (p0.length : Int)) then ((idx p0 s2).bind fun x2 => ((m_l_toCond N x2).bind fun x3 => ((idx s1 s2).bind fun x4 => ((m_l_toCondS_l1 N p0 k) (s1.set s2.toNat x3) (IntKind.i64.wrap (s2 + 1)))))) else some s1)
def m_l_toCondS (N : Nat) (p0 : (List TCond)) : Option ((List TCond)) :=
  ((mk (⟨0, (⟨0, (⟨#[]⟩ : ByteArray), (⟨0, 0, (⟨#[]⟩ : ByteArray)⟩ : TVal)⟩ : TArg), (⟨0, (⟨#[]⟩ : ByteArray), (⟨0, 0, (⟨#[]⟩ : ByteArray)⟩ : TVal)⟩ : TArg)⟩ : TCond) (p0.length : Int)).bind fun x1 => m_l_toCondS_l1 N p0 N x1 0)
/-! laws.toExpr -/
def m_l_toExpr (N : Nat) (p0 : TExpr) : Option (TExpr) :=
  ((m_l_toArg N p0.L).bind fun x1 => ((m_l_toArg N p0.R).bind fun x2 => some (⟨p0.Op, x1, x2⟩ : TExpr)))
/-! laws.toExprS -/
def m_l_toExprS_l1 (N : Nat) (p0 : (List TExpr)) : Nat → (List TExpr) → Int → Option ((List TExpr))
  | 0, _, _ => none
  | k + 1, s1, s2 =>
    (if decide (s2 < (p0.length : Int)) then ((idx p0 s2).bind fun x2 => ((m_l_toExpr N x2).bind fun x3 => ((idx s1 s2).bind fun x4 => ((m_l_toExprS_l1 N p0 k) (s1.set s2.toNat x3) (IntKind.i64.wrap (s2 + 1)))))) else some s1)
def m_l_toExprS (N : Nat) (p0 : (List TExpr)) : Option ((List TExpr)) :=
  ((mk (⟨(⟨#[]⟩ : ByteArray), (⟨0, (⟨#[]⟩ : ByteArray), (⟨0, 0, (⟨#[]⟩ : ByteArray)⟩ : TVal)⟩ : TArg), (⟨0, (⟨#[]⟩ : ByteArray), (⟨0, 0, (⟨#[]⟩ : ByteArray)⟩ : TVal)⟩ : TArg)⟩ : TExpr) (p0.length : Int)).bind fun x1 => m_l_toExprS_l1 N p0 N x1 0)
/-! laws.toAct -/
def m_l_toAct (N : Nat) (p0 : TAct) : Option (TAct) :=
  ((m_l_toExprS N p0.Args).bind fun x1 => some (⟨p0.Kind, p0.Name, x1, p0.N, p0.Undo⟩ : TAct))
/-! laws.toActS -/
def m_l_toActS_l1 (N : Nat) (p0 : (List TAct)) : Nat → (List TAct) → Int → Option ((List TAct))
  | 0, _, _ => none
  | k + 1, s1, s2 =>
    (if decide (s2 < (p0.length : Int)) then ((idx p0 s2).bind fun x2 => ((m_l_toAct N x2).bind fun x3 => ((idx s1 s2).bind fun x4 => ((m_l_toActS_l1 N p0 k) (s1.set s2.toNat x3) (IntKind.i64.wrap (s2 + 1)))))) else some s1)
def m_l_toActS (N : Nat) (p0 : (List TAct)) : Option ((List TAct)) :=
  ((mk (⟨0, (⟨#[]⟩ : ByteArray), ([] : List TExpr), 0, (⟨#[]⟩ : ByteArray)⟩ : TAct) (p0.length : Int)).bind fun x1 => m_l_toActS_l1 N p0 N x1 0)
/-! laws.toRule -/
def m_l_toRule (N : Nat) (p0 : TRule) : Option (TRule) :=
  ((m_l_toPatS N p0.Pats).bind fun x1 => ((m_l_toCondS N p0.Conds).bind fun x2 => ((m_l_toActS N p0.Acts).bind fun x3 => some (⟨p0.Name, p0.Sal, x1, x2, x3⟩ : TRule))))
/-! laws.toRuleS -/
def m_l_toRuleS_l1 (N : Nat) (p0 : (List TRule)) : Nat → (List TRule) → Int → Option ((List TRule))
  | 0, _, _ => none
  | k + 1, s1, s2 =>
    (if decide (s2 < (p0.length : Int)) then ((idx p0 s2).bind fun x2 => ((m_l_toRule N x2).bind fun x3 => ((idx s1 s2).bind fun x4 => ((m_l_toRuleS_l1 N p0 k) (s1.set s2.toNat x3) (IntKind.i64.wrap (s2 + 1)))))) else some s1)
def m_l_toRuleS (N : Nat) (p0 : (List TRule)) : Option ((List TRule)) :=
  ((mk (⟨(⟨#[]⟩ : ByteArray), 0, ([] : List TPat), ([] : List TCond), ([] : List TAct)⟩ : TRule) (p0.length : Int)).bind fun x1 => m_l_toRuleS_l1 N p0 N x1 0)
/-! laws.toDef -/
def m_l_toDef (N : Nat) (p0 : TDef) : Option (TDef) :=
  ((m_l_toRuleS N p0.Rules).bind fun x1 => some (⟨p0.Name, x1⟩ : TDef))
/-! laws.eqVal -/
def m_l_eqVal (N : Nat) (p0 : TVal) (p1 : TVal) : Option (Bool) :=
  (if !decide (p0.K = p1.K) then some false else (if !decide (p0.N = p1.N) then some false else (if !seq p0.S p1.S then some false else some true)))
/-! laws.eqArg -/
def m_l_eqArg (N : Nat) (p0 : TArg) (p1 : TArg) : Option (Bool) :=
  (if !decide (p0.K = p1.K) then some false else (if !seq p0.S p1.S then some false else ((m_l_eqVal N p0.V p1.V).bind fun x1 => (if !x1 then some false else some true))))
/-! laws.eqArgS -/
def m_l_eqArgS_l1 (N : Nat) (p0 : (List TArg)) (p1 : (List TArg)) : Nat → Int → Option (Bool)
  | 0, _ => none
  | k + 1, s1 =>
    (if decide (s1 < (p0.length : Int)) then ((idx p0 s1).bind fun x1 => ((idx p1 s1).bind fun x2 => ((m_l_eqArg N x1 x2).bind fun x3 => (if !x3 then some false else ((m_l_eqArgS_l1 N p0 p1 k) (IntKind.i64.wrap (s1 + 1))))))) else some true)
def m_l_eqArgS (N : Nat) (p0 : (List TArg)) (p1 : (List TArg)) : Option (Bool) :=
  (if !decide ((p0.length : Int) = (p1.length : Int)) then some false else m_l_eqArgS_l1 N p0 p1 N 0)
/-! laws.eqPat -/
def m_l_eqPat (N : Nat) (p0 : TPat) (p1 : TPat) : Option (Bool) :=
  (if !seq p0.Kind p1.Kind then some false else ((m_l_eqArgS N p0.Args p1.Args).bind fun x1 => (if !x1 then some false else (if (p0.Not != p1.Not) then some false else some true))))
/-! laws.eqPatS -/
def m_l_eqPatS_l1 (N : Nat) (p0 : (List TPat)) (p1 : (List TPat)) : Nat → Int → Option (Bool)
  | 0, _ => none
  | k + 1, s1 =>
    (if decide (s1 < (p0.length : Int)) then ((idx p0 s1).bind fun x1 => ((idx p1 s1).bind fun x2 => ((m_l_eqPat N x1 x2).bind fun x3 => (if !x3 then some false else ((m_l_eqPatS_l1 N p0 p1 k) (IntKind.i64.wrap (s1 + 1))))))) else some true)
def m_l_eqPatS (N : Nat) (p0 : (List TPat)) (p1 : (List TPat)) : Option (Bool) :=
  (if !decide ((p0.length : Int) = (p1.length : Int)) then some false else m_l_eqPatS_l1 N p0 p1 N 0)
/-! laws.eqCond -/
def m_l_eqCond (N : Nat) (p0 : TCond) (p1 : TCond) : Option (Bool) :=
  (if !decide (p0.Op = p1.Op) then some false else ((m_l_eqArg N p0.L p1.L).bind fun x1 => (if !x1 then some false else ((m_l_eqArg N p0.R p1.R).bind fun x2 => (if !x2 then some false else some true)))))
/-! laws.eqCondS -/
def m_l_eqCondS_l1 (N : Nat) (p0 : (List TCond)) (p1 : (List TCond)) : Nat → Int → Option (Bool)
  | 0, _ => none
  | k + 1, s1 =>
    (if decide (s1 < (p0.length : Int)) then ((idx p0 s1).bind fun x1 => ((idx p1 s1).bind fun x2 => ((m_l_eqCond N x1 x2).bind fun x3 => (if !x3 then some false else ((m_l_eqCondS_l1 N p0 p1 k) (IntKind.i64.wrap (s1 + 1))))))) else some true)
def m_l_eqCondS (N : Nat) (p0 : (List TCond)) (p1 : (List TCond)) : Option (Bool) :=
  (if !decide ((p0.length : Int) = (p1.length : Int)) then some false else m_l_eqCondS_l1 N p0 p1 N 0)
/-! laws.eqExpr -/
def m_l_eqExpr (N : Nat) (p0 : TExpr) (p1 : TExpr) : Option (Bool) :=
  (if !seq p0.Op p1.Op then some false else ((m_l_eqArg N p0.L p1.L).bind fun x1 => (if !x1 then some false else ((m_l_eqArg N p0.R p1.R).bind fun x2 => (if !x2 then some false else some true)))))
/-! laws.eqExprS -/
def m_l_eqExprS_l1 (N : Nat) (p0 : (List TExpr)) (p1 : (List TExpr)) : Nat → Int → Option (Bool)
  | 0, _ => none
  | k + 1, s1 =>
    (if decide (s1 < (p0.length : Int)) then ((idx p0 s1).bind fun x1 => ((idx p1 s1).bind fun x2 => ((m_l_eqExpr N x1 x2).bind fun x3 => (if !x3 then some false else ((m_l_eqExprS_l1 N p0 p1 k) (IntKind.i64.wrap (s1 + 1))))))) else some true)
def m_l_eqExprS (N : Nat) (p0 : (List TExpr)) (p1 : (List TExpr)) : Option (Bool) :=
  (if !decide ((p0.length : Int) = (p1.length : Int)) then some false else m_l_eqExprS_l1 N p0 p1 N 0)
/-! laws.eqAct -/
def m_l_eqAct (N : Nat) (p0 : TAct) (p1 : TAct) : Option (Bool) :=
  (if !decide (p0.Kind = p1.Kind) then some false else (if !seq p0.Name p1.Name then some false else ((m_l_eqExprS N p0.Args p1.Args).bind fun x1 => (if !x1 then some false else (if !decide (p0.N = p1.N) then some false else (if !seq p0.Undo p1.Undo then some false else some true))))))
/-! laws.eqActS -/
def m_l_eqActS_l1 (N : Nat) (p0 : (List TAct)) (p1 : (List TAct)) : Nat → Int → Option (Bool)
  | 0, _ => none
  | k + 1, s1 =>
    (if decide (s1 < (p0.length : Int)) then ((idx p0 s1).bind fun x1 => ((idx p1 s1).bind fun x2 => ((m_l_eqAct N x1 x2).bind fun x3 => (if !x3 then some false else ((m_l_eqActS_l1 N p0 p1 k) (IntKind.i64.wrap (s1 + 1))))))) else some true)
def m_l_eqActS (N : Nat) (p0 : (List TAct)) (p1 : (List TAct)) : Option (Bool) :=
  (if !decide ((p0.length : Int) = (p1.length : Int)) then some false else m_l_eqActS_l1 N p0 p1 N 0)
/-! laws.eqRule -/
def m_l_eqRule (N : Nat) (p0 : TRule) (p1 : TRule) : Option (Bool) :=
  (if !seq p0.Name p1.Name then some false else (if !decide (p0.Sal = p1.Sal) then some false else ((m_l_eqPatS N p0.Pats p1.Pats).bind fun x1 => (if !x1 then some false else ((m_l_eqCondS N p0.Conds p1.Conds).bind fun x2 => (if !x2 then some false else ((m_l_eqActS N p0.Acts p1.Acts).bind fun x3 => (if !x3 then some false else some true))))))))
/-! laws.eqRuleS -/
def m_l_eqRuleS_l1 (N : Nat) (p0 : (List TRule)) (p1 : (List TRule)) : Nat → Int → Option (Bool)
  | 0, _ => none
  | k + 1, s1 =>
    (if decide (s1 < (p0.length : Int)) then ((idx p0 s1).bind fun x1 => ((idx p1 s1).bind fun x2 => ((m_l_eqRule N x1 x2).bind fun x3 => (if !x3 then some false else ((m_l_eqRuleS_l1 N p0 p1 k) (IntKind.i64.wrap (s1 + 1))))))) else some true)
def m_l_eqRuleS (N : Nat) (p0 : (List TRule)) (p1 : (List TRule)) : Option (Bool) :=
  (if !decide ((p0.length : Int) = (p1.length : Int)) then some false else m_l_eqRuleS_l1 N p0 p1 N 0)
/-! laws.eqDef -/
def m_l_eqDef (N : Nat) (p0 : TDef) (p1 : TDef) : Option (Bool) :=
  (if !seq p0.Name p1.Name then some false else ((m_l_eqRuleS N p0.Rules p1.Rules).bind fun x1 => (if !x1 then some false else some true)))
/-! laws.szIntS -/
def m_l_szIntS (N : Nat) (p0 : (List Int)) (p1 : Int) : Option (Int) :=
  (if decide (IntKind.i64.wrap (p1 - (p0.length : Int)) < 0) then some (-1) else some (IntKind.i64.wrap (p1 - (p0.length : Int))))
/-! laws.szBind -/
def m_l_szBind (N : Nat) (p0 : TBind) (p1 : Int) : Option (Int) :=
  (if decide (IntKind.i64.wrap (p1 - (p0.Name.size : Int)) < 0) then some (-1) else ((m_l_szVal N p0.V (IntKind.i64.wrap (p1 - (p0.Name.size : Int)))).bind fun x1 => (if decide (x1 < 0) then some (-1) else some x1)))
/-! laws.szBindS -/
def m_l_szBindS_l1 (N : Nat) (p0 : (List TBind)) : Nat → Int → Int → Option (Int)
  | 0, _, _ => none
  | k + 1, s1, s2 =>
    (if decide (s2 < (p0.length : Int)) then ((idx p0 s2).bind fun x1 => ((m_l_szBind N x1 s1).bind fun x2 => (if decide (x2 < 0) then some (-1) else ((m_l_szBindS_l1 N p0 k) x2 (IntKind.i64.wrap (s2 + 1)))))) else some s1)
def m_l_szBindS (N : Nat) (p0 : (List TBind)) (p1 : Int) : Option (Int) :=
  (if decide (IntKind.i64.wrap (p1 - (p0.length : Int)) < 0) then some (-1) else m_l_szBindS_l1 N p0 N (IntKind.i64.wrap (p1 - (p0.length : Int))) 0)
/-! laws.szMatch -/
def m_l_szMatch (N : Nat) (p0 : TMatch) (p1 : Int) : Option (Int) :=
  ((m_l_szIntS N p0.Ids p1).bind fun x1 => (if decide (x1 < 0) then some (-1) else ((m_l_szBindS N p0.Binds x1).bind fun x2 => (if decide (x2 < 0) then some (-1) else some x2))))
/-! laws.szMatchS -/
def m_l_szMatchS_l1 (N : Nat) (p0 : (List TMatch)) : Nat → Int → Int → Option (Int)
  | 0, _, _ => none
  | k + 1, s1, s2 =>
    (if decide (s2 < (p0.length : Int)) then ((idx p0 s2).bind fun x1 => ((m_l_szMatch N x1 s1).bind fun x2 => (if decide (x2 < 0) then some (-1) else ((m_l_szMatchS_l1 N p0 k) x2 (IntKind.i64.wrap (s2 + 1)))))) else some s1)
def m_l_szMatchS (N : Nat) (p0 : (List TMatch)) (p1 : Int) : Option (Int) :=
  (if decide (IntKind.i64.wrap (p1 - (p0.length : Int)) < 0) then some (-1) else m_l_szMatchS_l1 N p0 N (IntKind.i64.wrap (p1 - (p0.length : Int))) 0)
/-! spec.l15Rule -/
def m_s_l15Rule (N : Nat) (p0 : TDef) (p1 : TMatch) : Option (Bool) :=
  ((if decide (0 ≤ p1.Rule) then some (decide (p1.Rule < (p0.Rules.length : Int))) else some false).bind fun b1 => some b1)
/-! spec.l11Same -/
def m_s_l11Same_l1 (N : Nat) (p0 : (List Int)) (p1 : (List Int)) : Nat → Int → Option (Bool)
  | 0, _ => none
  | k + 1, s1 =>
    (if decide (s1 < (p0.length : Int)) then ((idx p0 s1).bind fun x1 => ((idx p1 s1).bind fun x2 => (if !decide (x1 = x2) then some false else ((m_s_l11Same_l1 N p0 p1 k) (IntKind.i64.wrap (s1 + 1)))))) else some true)
def m_s_l11Same (N : Nat) (p0 : (List Int)) (p1 : (List Int)) : Option (Bool) :=
  (if !decide ((p0.length : Int) = (p1.length : Int)) then some false else m_s_l11Same_l1 N p0 p1 N 0)
/-! spec.SameMatch -/
def m_s_SameMatch (N : Nat) (p0 : TMatch) (p1 : TMatch) : Option (Bool) :=
  ((if decide (p0.Rule = p1.Rule) then ((m_s_l11Same N p0.Ids p1.Ids).bind fun x1 => some x1) else some false).bind fun b1 => some b1)
/-! spec.FiredHas -/
def m_s_FiredHas_l1 (N : Nat) (p0 : (List TMatch)) (p1 : TMatch) : Nat → Int → Option (Bool)
  | 0, _ => none
  | k + 1, s1 =>
    (if decide (s1 < (p0.length : Int)) then ((idx p0 s1).bind fun x1 => ((m_s_SameMatch N x1 p1).bind fun x2 => (if x2 then some true else ((m_s_FiredHas_l1 N p0 p1 k) (IntKind.i64.wrap (s1 + 1)))))) else some false)
def m_s_FiredHas (N : Nat) (p0 : (List TMatch)) (p1 : TMatch) : Option (Bool) :=
  m_s_FiredHas_l1 N p0 p1 N 0
/-! spec.LessMatch -/
def m_s_LessMatch_l1 (N : Nat) (p0 : TMatch) (p1 : TMatch) : Nat → Int → Option (Bool)
  | 0, _ => none
  | k + 1, s1 =>
    (if decide (s1 < (p0.Ids.length : Int)) then ((idx p0.Ids s1).bind fun x1 => ((idx p1.Ids s1).bind fun x2 => (if !decide (x1 = x2) then ((idx p0.Ids s1).bind fun x3 => ((idx p1.Ids s1).bind fun x4 => some (decide (x3 < x4)))) else ((m_s_LessMatch_l1 N p0 p1 k) (IntKind.i64.wrap (s1 + 1)))))) else some false)
def m_s_LessMatch (N : Nat) (p0 : TMatch) (p1 : TMatch) : Option (Bool) :=
  (if !decide (p0.Rule = p1.Rule) then some (decide (p0.Rule < p1.Rule)) else (if !decide ((p0.Ids.length : Int) = (p1.Ids.length : Int)) then some (decide ((p0.Ids.length : Int) < (p1.Ids.length : Int))) else m_s_LessMatch_l1 N p0 p1 N 0))
/-! spec.Urgent -/
def m_s_Urgent (N : Nat) (p0 : TDef) (p1 : TMatch) (p2 : TMatch) : Option (Bool) :=
  ((m_s_l15Rule N p0 p1).bind fun x1 => ((if !x1 then some true else ((m_s_l15Rule N p0 p2).bind fun x2 => some (!x2))).bind fun b1 => (if b1 then some false else ((idx p0.Rules p1.Rule).bind fun x3 => ((idx p0.Rules p2.Rule).bind fun x4 => ((if decide (x4.Sal < x3.Sal) then some true else ((if decide (x3.Sal = x4.Sal) then ((m_s_LessMatch N p1 p2).bind fun x5 => some x5) else some false).bind fun b3 => some b3)).bind fun b2 => some b2))))))
/-! spec.l15CopyMatch -/
def m_s_l15CopyMatch_j1 (N : Nat) (s1 : (List Int)) (s2 : (List TBind)) (s3 : Int) : Option (TMatch) :=
  some (⟨s3, s1, s2⟩ : TMatch)
def m_s_l15CopyMatch (N : Nat) (p0 : TMatch) : Option (TMatch) :=
  ((app ([] : List Int) p0.Ids).bind fun x3 => ((app ([] : List TBind) p0.Binds).bind fun x4 => m_s_l15CopyMatch_j1 N x3 x4 p0.Rule))
/-! spec.PickMatch -/
def m_s_PickMatch_l1 (N : Nat) (p0 : TDef) (p1 : (List TMatch)) (p2 : (List TMatch)) : Nat → Int → Int → Option (TMatch × Bool)
  | 0, _, _ => none
  | k + 1, s1, s2 =>
    (if decide (s2 < (p1.length : Int)) then ((idx p1 s2).bind fun x1 => ((m_s_l15Rule N p0 x1).bind fun x2 => ((if x2 then ((idx p1 s2).bind fun x3 => ((m_s_FiredHas N p2 x3).bind fun x4 => some (!x4))) else some false).bind fun b1 => ((if b1 then ((if decide (s1 < 0) then some true else ((idx p1 s2).bind fun x5 => ((idx p1 s1).bind fun x6 => ((m_s_Urgent N p0 x5 x6).bind fun x7 => some x7)))).bind fun b3 => some b3) else some false).bind fun b2 => (if b2 then ((m_s_PickMatch_l1 N p0 p1 p2 k) s2 (IntKind.i64.wrap (s2 + 1))) else ((m_s_PickMatch_l1 N p0 p1 p2 k) s1 (IntKind.i64.wrap (s2 + 1)))))))) else (if decide (s1 < 0) then some ((⟨0, [], []⟩ : TMatch), false) else ((idx p1 s1).bind fun x8 => ((m_s_l15CopyMatch N x8).bind fun x9 => some (x9, true)))))
def m_s_PickMatch (N : Nat) (p0 : TDef) (p1 : (List TMatch)) (p2 : (List TMatch)) : Option (TMatch × Bool) :=
  m_s_PickMatch_l1 N p0 p1 p2 N (-1) 0
/-! laws.toIntS -/
def m_l_toIntS_l1 (N : Nat) (p0 : (List Int)) : Nat → (List Int) → Int → Option ((List Int))
  | 0, _, _ => none
  | k + 1, s1, s2 =>
    (if decide (s2 < (p0.length : Int)) then ((idx p0 s2).bind fun x2 => ((idx s1 s2).bind fun x3 => ((m_l_toIntS_l1 N p0 k) (s1.set s2.toNat x2) (IntKind.i64.wrap (s2 + 1))))) else some s1)
def m_l_toIntS (N : Nat) (p0 : (List Int)) : Option ((List Int)) :=
  ((mk 0 (p0.length : Int)).bind fun x1 => m_l_toIntS_l1 N p0 N x1 0)
/-! laws.toBind -/
def m_l_toBind (N : Nat) (p0 : TBind) : Option (TBind) :=
  ((m_l_toVal N p0.V).bind fun x1 => some (⟨p0.Name, x1⟩ : TBind))
/-! laws.toBindS -/
def m_l_toBindS_l1 (N : Nat) (p0 : (List TBind)) : Nat → (List TBind) → Int → Option ((List TBind))
  | 0, _, _ => none
  | k + 1, s1, s2 =>
    (if decide (s2 < (p0.length : Int)) then ((idx p0 s2).bind fun x2 => ((m_l_toBind N x2).bind fun x3 => ((idx s1 s2).bind fun x4 => ((m_l_toBindS_l1 N p0 k) (s1.set s2.toNat x3) (IntKind.i64.wrap (s2 + 1)))))) else some s1)
def m_l_toBindS (N : Nat) (p0 : (List TBind)) : Option ((List TBind)) :=
  ((mk (⟨(⟨#[]⟩ : ByteArray), (⟨0, 0, (⟨#[]⟩ : ByteArray)⟩ : TVal)⟩ : TBind) (p0.length : Int)).bind fun x1 => m_l_toBindS_l1 N p0 N x1 0)
/-! laws.toMatch -/
def m_l_toMatch (N : Nat) (p0 : TMatch) : Option (TMatch) :=
  ((m_l_toIntS N p0.Ids).bind fun x1 => ((m_l_toBindS N p0.Binds).bind fun x2 => some (⟨p0.Rule, x1, x2⟩ : TMatch)))
/-! laws.toMatchS -/
def m_l_toMatchS_l1 (N : Nat) (p0 : (List TMatch)) : Nat → (List TMatch) → Int → Option ((List TMatch))
  | 0, _, _ => none
  | k + 1, s1, s2 =>
    (if decide (s2 < (p0.length : Int)) then ((idx p0 s2).bind fun x2 => ((m_l_toMatch N x2).bind fun x3 => ((idx s1 s2).bind fun x4 => ((m_l_toMatchS_l1 N p0 k) (s1.set s2.toNat x3) (IntKind.i64.wrap (s2 + 1)))))) else some s1)
def m_l_toMatchS (N : Nat) (p0 : (List TMatch)) : Option ((List TMatch)) :=
  ((mk (⟨0, ([] : List Int), ([] : List TBind)⟩ : TMatch) (p0.length : Int)).bind fun x1 => m_l_toMatchS_l1 N p0 N x1 0)
/-! impl.hasRule -/
def m_i_hasRule (N : Nat) (p0 : TDef) (p1 : TMatch) : Option (Bool) :=
  ((if decide (0 ≤ p1.Rule) then some (decide (p1.Rule < (p0.Rules.length : Int))) else some false).bind fun b1 => some b1)
/-! slices.IndexFunc[[]impl.Match,impl.Match] -/
def m_sl_IndexFunc_Si_Match_i_Match_l1 (N : Nat) (p0 : (List TMatch)) (p1 : TMatch → Option (Bool)) : Nat → Int → Option (Int)
  | 0, _ => none
  | k + 1, s1 =>
    (if decide (s1 < (p0.length : Int)) then ((idx p0 s1).bind fun x1 => ((p1 x1).bind fun x2 => (if x2 then some s1 else ((m_sl_IndexFunc_Si_Match_i_Match_l1 N p0 p1 k) (IntKind.i64.wrap (s1 + 1)))))) else some (-1))
def m_sl_IndexFunc_Si_Match_i_Match (N : Nat) (p0 : (List TMatch)) (p1 : TMatch → Option (Bool)) : Option (Int) :=
  m_sl_IndexFunc_Si_Match_i_Match_l1 N p0 p1 N 0
/-! slices.ContainsFunc[[]impl.Match,impl.Match] -/
def m_sl_ContainsFunc_Si_Match_i_Match (N : Nat) (p0 : (List TMatch)) (p1 : TMatch → Option (Bool)) : Option (Bool) :=
  ((m_sl_IndexFunc_Si_Match_i_Match N p0 p1).bind fun x1 => some (decide (0 ≤ x1)))
/-! slices.Equal[[]int,int] -/
def m_sl_Equal_Sint_int_l1 (N : Nat) (p0 : (List Int)) (p1 : (List Int)) : Nat → Int → Option (Bool)
  | 0, _ => none
  | k + 1, s1 =>
    (if decide (s1 < (p0.length : Int)) then ((idx p0 s1).bind fun x1 => ((idx p1 s1).bind fun x2 => (if !decide (x1 = x2) then some false else ((m_sl_Equal_Sint_int_l1 N p0 p1 k) (IntKind.i64.wrap (s1 + 1)))))) else some true)
def m_sl_Equal_Sint_int (N : Nat) (p0 : (List Int)) (p1 : (List Int)) : Option (Bool) :=
  (if !decide ((p0.length : Int) = (p1.length : Int)) then some false else m_sl_Equal_Sint_int_l1 N p0 p1 N 0)
/-! impl.SameMatch -/
def m_i_SameMatch (N : Nat) (p0 : TMatch) (p1 : TMatch) : Option (Bool) :=
  ((if decide (p0.Rule = p1.Rule) then ((m_sl_Equal_Sint_int N p0.Ids p1.Ids).bind fun x1 => some x1) else some false).bind fun b1 => some b1)
/-! impl.FiredHas$1 -/
def m_i_FiredHas_c1 (N : Nat) (p0 : TMatch) (c0 : TMatch) : Option (Bool) :=
  ((m_i_SameMatch N p0 c0).bind fun x1 => some x1)
/-! impl.FiredHas -/
def m_i_FiredHas (N : Nat) (p0 : (List TMatch)) (p1 : TMatch) : Option (Bool) :=
  ((m_sl_ContainsFunc_Si_Match_i_Match N p0 (fun a0 => m_i_FiredHas_c1 N a0 p1)).bind fun x1 => some x1)
/-! cmp.Or[int] -/
def m_cmp_Or_int_l1 (N : Nat) (p0 : (List Int)) : Nat → Int → Option (Int)
  | 0, _ => none
  | k + 1, s1 =>
    (if decide (s1 < (p0.length : Int)) then ((idx p0 s1).bind fun x1 => (if !decide (x1 = 0) then some x1 else ((m_cmp_Or_int_l1 N p0 k) (IntKind.i64.wrap (s1 + 1))))) else some 0)
def m_cmp_Or_int (N : Nat) (p0 : (List Int)) : Option (Int) :=
  m_cmp_Or_int_l1 N p0 N 0
/-! cmp.isNaN[int] -/
def m_cmp_isNaN_int (N : Nat) (p0 : Int) : Option (Bool) :=
  some (!decide (p0 = p0))
/-! cmp.Compare[int] -/
def m_cmp_Compare_int (N : Nat) (p0 : Int) (p1 : Int) : Option (Int) :=
  ((m_cmp_isNaN_int N p0).bind fun x1 => ((m_cmp_isNaN_int N p1).bind fun x2 => (if x1 then (if x2 then some 0 else some (-1)) else (if x2 then some 1 else (if decide (p0 < p1) then some (-1) else (if decide (p1 < p0) then some 1 else some 0))))))
/-! slices.Compare[[]int,int] -/
def m_sl_Compare_Sint_int_l1 (N : Nat) (p0 : (List Int)) (p1 : (List Int)) : Nat → Int → Option (Int)
  | 0, _ => none
  | k + 1, s1 =>
    (if decide (s1 < (p0.length : Int)) then ((idx p0 s1).bind fun x1 => (if decide ((p1.length : Int) ≤ s1) then some 1 else ((idx p1 s1).bind fun x2 => ((m_cmp_Compare_int N x1 x2).bind fun x3 => (if !decide (x3 = 0) then some x3 else ((m_sl_Compare_Sint_int_l1 N p0 p1 k) (IntKind.i64.wrap (s1 + 1)))))))) else (if decide ((p0.length : Int) < (p1.length : Int)) then some (-1) else some 0))
def m_sl_Compare_Sint_int (N : Nat) (p0 : (List Int)) (p1 : (List Int)) : Option (Int) :=
  m_sl_Compare_Sint_int_l1 N p0 p1 N 0
/-! impl.compareMatches -/
def m_i_compareMatches (N : Nat) (p0 : TMatch) (p1 : TMatch) : Option (Int) :=
  ((m_cmp_Compare_int N p0.Rule p1.Rule).bind fun x1 => ((m_cmp_Compare_int N (p0.Ids.length : Int) (p1.Ids.length : Int)).bind fun x2 => ((m_cmp_Or_int N ([x1, x2] : List Int)).bind fun x3 => (if decide (x3 = 0) then ((m_sl_Compare_Sint_int N p0.Ids p1.Ids).bind fun x4 => some x4) else some x3))))
/-! impl.LessMatch -/
def m_i_LessMatch (N : Nat) (p0 : TMatch) (p1 : TMatch) : Option (Bool) :=
  ((m_i_compareMatches N p0 p1).bind fun x1 => some (decide (x1 < 0)))
/-! impl.Urgent -/
def m_i_Urgent (N : Nat) (p0 : TDef) (p1 : TMatch) (p2 : TMatch) : Option (Bool) :=
  ((m_i_hasRule N p0 p1).bind fun x1 => ((if !x1 then some true else ((m_i_hasRule N p0 p2).bind fun x2 => some (!x2))).bind fun b1 => (if b1 then some false else ((idx p0.Rules p1.Rule).bind fun x3 => ((idx p0.Rules p2.Rule).bind fun x4 => ((if decide (x4.Sal < x3.Sal) then some true else ((if decide (x3.Sal = x4.Sal) then ((m_i_LessMatch N p1 p2).bind fun x5 => some x5) else some false).bind fun b3 => some b3)).bind fun b2 => some b2))))))
/-! slices.Clone[[]int,int] -/
def m_sl_Clone_Sint_int (N : Nat) (p0 : (List Int)) : Option ((List Int)) :=
  ((app ([] : List Int) p0).bind fun x1 => some x1)
/-! slices.Clone[[]impl.Bind,impl.Bind] -/
def m_sl_Clone_Si_Bind_i_Bind (N : Nat) (p0 : (List TBind)) : Option ((List TBind)) :=
  ((app ([] : List TBind) p0).bind fun x1 => some x1)
/-! impl.copyMatch -/
def m_i_copyMatch (N : Nat) (p0 : TMatch) : Option (TMatch) :=
  ((m_sl_Clone_Sint_int N p0.Ids).bind fun x1 => ((m_sl_Clone_Si_Bind_i_Bind N p0.Binds).bind fun x2 => some (⟨p0.Rule, x1, x2⟩ : TMatch)))
/-! impl.PickMatch -/
def m_i_PickMatch_l1 (N : Nat) (p0 : TDef) (p1 : (List TMatch)) (p2 : (List TMatch)) : Nat → Bool → Int → Int → (List Int) → (List TBind) → Option (TMatch × Bool)
  | 0, _, _, _, _, _ => none
  | k + 1, s1, s2, s3, s4, s5 =>
    (if decide (s2 < (p1.length : Int)) then ((idx p1 s2).bind fun x1 => ((m_i_hasRule N p0 x1).bind fun x2 => ((if !x2 then some true else ((m_i_FiredHas N p2 x1).bind fun x3 => some x3)).bind fun b1 => (if b1 then ((m_i_PickMatch_l1 N p0 p1 p2 k) s1 (IntKind.i64.wrap (s2 + 1)) s3 s4 s5) else ((if !s1 then some true else ((m_i_Urgent N p0 x1 (⟨s3, s4, s5⟩ : TMatch)).bind fun x4 => some x4)).bind fun b2 => (if b2 then ((m_i_PickMatch_l1 N p0 p1 p2 k) true (IntKind.i64.wrap (s2 + 1)) x1.Rule x1.Ids x1.Binds) else ((m_i_PickMatch_l1 N p0 p1 p2 k) s1 (IntKind.i64.wrap (s2 + 1)) s3 s4 s5))))))) else ((m_i_copyMatch N (⟨s3, s4, s5⟩ : TMatch)).bind fun x5 => some (x5, s1)))
def m_i_PickMatch (N : Nat) (p0 : TDef) (p1 : (List TMatch)) (p2 : (List TMatch)) : Option (TMatch × Bool) :=
  m_i_PickMatch_l1 N p0 p1 p2 N false 0 0 [] []
/-! laws.eqBind -/
def m_l_eqBind (N : Nat) (p0 : TBind) (p1 : TBind) : Option (Bool) :=
  (if !seq p0.Name p1.Name then some false else ((m_l_eqVal N p0.V p1.V).bind fun x1 => (if !x1 then some false else some true)))
/-! laws.eqBindS -/
def m_l_eqBindS_l1 (N : Nat) (p0 : (List TBind)) (p1 : (List TBind)) : Nat → Int → Option (Bool)
  | 0, _ => none
  | k + 1, s1 =>
    (if decide (s1 < (p0.length : Int)) then ((idx p0 s1).bind fun x1 => ((idx p1 s1).bind fun x2 => ((m_l_eqBind N x1 x2).bind fun x3 => (if !x3 then some false else ((m_l_eqBindS_l1 N p0 p1 k) (IntKind.i64.wrap (s1 + 1))))))) else some true)
def m_l_eqBindS (N : Nat) (p0 : (List TBind)) (p1 : (List TBind)) : Option (Bool) :=
  (if !decide ((p0.length : Int) = (p1.length : Int)) then some false else m_l_eqBindS_l1 N p0 p1 N 0)
/-! laws.eqIntS -/
def m_l_eqIntS_l1 (N : Nat) (p0 : (List Int)) (p1 : (List Int)) : Nat → Int → Option (Bool)
  | 0, _ => none
  | k + 1, s1 =>
    (if decide (s1 < (p0.length : Int)) then ((idx p0 s1).bind fun x1 => ((idx p1 s1).bind fun x2 => (if !decide (x1 = x2) then some false else ((m_l_eqIntS_l1 N p0 p1 k) (IntKind.i64.wrap (s1 + 1)))))) else some true)
def m_l_eqIntS (N : Nat) (p0 : (List Int)) (p1 : (List Int)) : Option (Bool) :=
  (if !decide ((p0.length : Int) = (p1.length : Int)) then some false else m_l_eqIntS_l1 N p0 p1 N 0)
/-! laws.eqMatch -/
def m_l_eqMatch (N : Nat) (p0 : TMatch) (p1 : TMatch) : Option (Bool) :=
  (if !decide (p0.Rule = p1.Rule) then some false else ((m_l_eqIntS N p0.Ids p1.Ids).bind fun x1 => (if !x1 then some false else ((m_l_eqBindS N p0.Binds p1.Binds).bind fun x2 => (if !x2 then some false else some true)))))
/-! laws.eqMatchS -/
def m_l_eqMatchS_l1 (N : Nat) (p0 : (List TMatch)) (p1 : (List TMatch)) : Nat → Int → Option (Bool)
  | 0, _ => none
  | k + 1, s1 =>
    (if decide (s1 < (p0.length : Int)) then ((idx p0 s1).bind fun x1 => ((idx p1 s1).bind fun x2 => ((m_l_eqMatch N x1 x2).bind fun x3 => (if !x3 then some false else ((m_l_eqMatchS_l1 N p0 p1 k) (IntKind.i64.wrap (s1 + 1))))))) else some true)
def m_l_eqMatchS (N : Nat) (p0 : (List TMatch)) (p1 : (List TMatch)) : Option (Bool) :=
  (if !decide ((p0.length : Int) = (p1.length : Int)) then some false else m_l_eqMatchS_l1 N p0 p1 N 0)
/-! laws.markText -/
def m_l_markText_l1 (N : Nat) : Nat → Int → ByteArray → Option (ByteArray)
  | 0, _, _ => none
  | k + 1, s1, s2 =>
    (if decide (0 < s1) then ((cat (bstr ([(IntKind.u8.wrap (IntKind.i64.wrap (48 + (s1.tmod 10))))] : List Int)) s2).bind fun z1 => ((m_l_markText_l1 N k) (IntKind.i64.wrap (s1.tdiv 10)) z1)) else ((cat (⟨#[109]⟩ : ByteArray) s2).bind fun z2 => some z2))
def m_l_markText (N : Nat) (p0 : Int) : Option (ByteArray) :=
  (if decide (p0 ≤ 0) then some (⟨#[109, 48]⟩ : ByteArray) else m_l_markText_l1 N N p0 (⟨#[]⟩ : ByteArray))
/-! laws.markArgS -/
def m_l_markArgS_l1 (N : Nat) : Nat → (List TArg) → Int → Int → Option (Int × (List TArg))
  | 0, _, _, _ => none
  | k + 1, s1, s2, s3 =>
    (if decide (s3 < (s1.length : Int)) then ((idx s1 s3).bind fun x1 => ((m_l_markText N (IntKind.i64.wrap (s2 + 1))).bind fun x2 => ((m_l_markText N (IntKind.i64.wrap ((IntKind.i64.wrap ((IntKind.i64.wrap ((IntKind.i64.wrap (s2 + 1)) + 1)) + 1)) + 1))).bind fun x3 => ((m_l_markArgS_l1 N k) (s1.set s3.toNat (⟨s2, x2, (⟨IntKind.i64.wrap ((IntKind.i64.wrap (s2 + 1)) + 1), IntKind.i64.wrap ((IntKind.i64.wrap ((IntKind.i64.wrap (s2 + 1)) + 1)) + 1), x3⟩ : TVal)⟩ : TArg)) (IntKind.i64.wrap ((IntKind.i64.wrap ((IntKind.i64.wrap ((IntKind.i64.wrap ((IntKind.i64.wrap (s2 + 1)) + 1)) + 1)) + 1)) + 1)) (IntKind.i64.wrap (s3 + 1)))))) else some (s2, s1))
def m_l_markArgS (N : Nat) (p0 : (List TArg)) (p1 : Int) : Option (Int × (List TArg)) :=
  m_l_markArgS_l1 N N p0 p1 0
/-! laws.markPatS -/
def m_l_markPatS_l1 (N : Nat) : Nat → (List TPat) → Int → Int → Option (Int × (List TPat))
  | 0, _, _, _ => none
  | k + 1, s1, s2, s3 =>
    (if decide (s3 < (s1.length : Int)) then ((m_l_markText N s2).bind fun x1 => ((idx s1 s3).bind fun x2 => ((m_l_markArgS N x2.Args (IntKind.i64.wrap (s2 + 1))).bind fun x3 => ((m_l_markPatS_l1 N k) (s1.set s3.toNat (⟨x1, x3.2, decide ((x3.1.tmod 3) = 0)⟩ : TPat)) (IntKind.i64.wrap (x3.1 + 1)) (IntKind.i64.wrap (s3 + 1)))))) else some (s2, s1))
def m_l_markPatS (N : Nat) (p0 : (List TPat)) (p1 : Int) : Option (Int × (List TPat)) :=
  m_l_markPatS_l1 N N p0 p1 0
/-! laws.markCondS -/
def m_l_markCondS_l1 (N : Nat) : Nat → (List TCond) → Int → Int → Option (Int × (List TCond))
  | 0, _, _, _ => none
  | k + 1, s1, s2, s3 =>
    (if decide (s3 < (s1.length : Int)) then ((idx s1 s3).bind fun x1 => ((m_l_markText N (IntKind.i64.wrap ((IntKind.i64.wrap (s2 + 1)) + 1))).bind fun x2 => ((m_l_markText N (IntKind.i64.wrap ((IntKind.i64.wrap ((IntKind.i64.wrap ((IntKind.i64.wrap ((IntKind.i64.wrap (s2 + 1)) + 1)) + 1)) + 1)) + 1))).bind fun x3 => ((m_l_markText N (IntKind.i64.wrap ((IntKind.i64.wrap ((IntKind.i64.wrap ((IntKind.i64.wrap ((IntKind.i64.wrap ((IntKind.i64.wrap ((IntKind.i64.wrap (s2 + 1)) + 1)) + 1)) + 1)) + 1)) + 1)) + 1))).bind fun x4 => ((m_l_markText N (IntKind.i64.wrap ((IntKind.i64.wrap ((IntKind.i64.wrap ((IntKind.i64.wrap ((IntKind.i64.wrap ((IntKind.i64.wrap ((IntKind.i64.wrap ((IntKind.i64.wrap ((IntKind.i64.wrap ((IntKind.i64.wrap (s2 + 1)) + 1)) + 1)) + 1)) + 1)) + 1)) + 1)) + 1)) + 1)) + 1))).bind fun x5 => ((m_l_markCondS_l1 N k) (s1.set s3.toNat (⟨s2, (⟨IntKind.i64.wrap (s2 + 1), x2, (⟨IntKind.i64.wrap ((IntKind.i64.wrap ((IntKind.i64.wrap (s2 + 1)) + 1)) + 1), IntKind.i64.wrap ((IntKind.i64.wrap ((IntKind.i64.wrap ((IntKind.i64.wrap (s2 + 1)) + 1)) + 1)) + 1), x3⟩ : TVal)⟩ : TArg), (⟨IntKind.i64.wrap ((IntKind.i64.wrap ((IntKind.i64.wrap ((IntKind.i64.wrap ((IntKind.i64.wrap ((IntKind.i64.wrap (s2 + 1)) + 1)) + 1)) + 1)) + 1)) + 1), x4, (⟨IntKind.i64.wrap ((IntKind.i64.wrap ((IntKind.i64.wrap ((IntKind.i64.wrap ((IntKind.i64.wrap ((IntKind.i64.wrap ((IntKind.i64.wrap ((IntKind.i64.wrap (s2 + 1)) + 1)) + 1)) + 1)) + 1)) + 1)) + 1)) + 1), IntKind.i64.wrap ((IntKind.i64.wrap ((IntKind.i64.wrap ((IntKind.i64.wrap ((IntKind.i64.wrap ((IntKind.i64.wrap ((IntKind.i64.wrap ((IntKind.i64.wrap ((IntKind.i64.wrap (s2 + 1)) + 1)) + 1)) + 1)) + 1)) + 1)) + 1)) + 1)) + 1), x5⟩ : TVal)⟩ : TArg)⟩ : TCond)) (IntKind.i64.wrap ((IntKind.i64.wrap ((IntKind.i64.wrap ((IntKind.i64.wrap ((IntKind.i64.wrap ((IntKind.i64.wrap ((IntKind.i64.wrap ((IntKind.i64.wrap ((IntKind.i64.wrap ((IntKind.i64.wrap ((IntKind.i64.wrap (s2 + 1)) + 1)) + 1)) + 1)) + 1)) + 1)) + 1)) + 1)) + 1)) + 1)) + 1)) (IntKind.i64.wrap (s3 + 1)))))))) else some (s2, s1))
def m_l_markCondS (N : Nat) (p0 : (List TCond)) (p1 : Int) : Option (Int × (List TCond)) :=
  m_l_markCondS_l1 N N p0 p1 0
/-! laws.markExprS -/
def m_l_markExprS_l1 (N : Nat) : Nat → (List TExpr) → Int → Int → Option (Int × (List TExpr))
  | 0, _, _, _ => none
  | k + 1, s1, s2, s3 =>
    (if decide (s3 < (s1.length : Int)) then ((m_l_markText N s2).bind fun x1 => ((idx s1 s3).bind fun x2 => ((m_l_markText N (IntKind.i64.wrap ((IntKind.i64.wrap (s2 + 1)) + 1))).bind fun x3 => ((m_l_markText N (IntKind.i64.wrap ((IntKind.i64.wrap ((IntKind.i64.wrap ((IntKind.i64.wrap ((IntKind.i64.wrap (s2 + 1)) + 1)) + 1)) + 1)) + 1))).bind fun x4 => ((m_l_markText N (IntKind.i64.wrap ((IntKind.i64.wrap ((IntKind.i64.wrap ((IntKind.i64.wrap ((IntKind.i64.wrap ((IntKind.i64.wrap ((IntKind.i64.wrap (s2 + 1)) + 1)) + 1)) + 1)) + 1)) + 1)) + 1))).bind fun x5 => ((m_l_markText N (IntKind.i64.wrap ((IntKind.i64.wrap ((IntKind.i64.wrap ((IntKind.i64.wrap ((IntKind.i64.wrap ((IntKind.i64.wrap ((IntKind.i64.wrap ((IntKind.i64.wrap ((IntKind.i64.wrap ((IntKind.i64.wrap (s2 + 1)) + 1)) + 1)) + 1)) + 1)) + 1)) + 1)) + 1)) + 1)) + 1))).bind fun x6 => ((m_l_markExprS_l1 N k) (s1.set s3.toNat (⟨x1, (⟨IntKind.i64.wrap (s2 + 1), x3, (⟨IntKind.i64.wrap ((IntKind.i64.wrap ((IntKind.i64.wrap (s2 + 1)) + 1)) + 1), IntKind.i64.wrap ((IntKind.i64.wrap ((IntKind.i64.wrap ((IntKind.i64.wrap (s2 + 1)) + 1)) + 1)) + 1), x4⟩ : TVal)⟩ : TArg), (⟨IntKind.i64.wrap ((IntKind.i64.wrap ((IntKind.i64.wrap ((IntKind.i64.wrap ((IntKind.i64.wrap ((IntKind.i64.wrap (s2 + 1)) + 1)) + 1)) + 1)) + 1)) + 1), x5, (⟨IntKind.i64.wrap ((IntKind.i64.wrap ((IntKind.i64.wrap ((IntKind.i64.wrap ((IntKind.i64.wrap ((IntKind.i64.wrap ((IntKind.i64.wrap ((IntKind.i64.wrap (s2 + 1)) + 1)) + 1)) + 1)) + 1)) + 1)) + 1)) + 1), IntKind.i64.wrap ((IntKind.i64.wrap ((IntKind.i64.wrap ((IntKind.i64.wrap ((IntKind.i64.wrap ((IntKind.i64.wrap ((IntKind.i64.wrap ((IntKind.i64.wrap ((IntKind.i64.wrap (s2 + 1)) + 1)) + 1)) + 1)) + 1)) + 1)) + 1)) + 1)) + 1), x6⟩ : TVal)⟩ : TArg)⟩ : TExpr)) (IntKind.i64.wrap ((IntKind.i64.wrap ((IntKind.i64.wrap ((IntKind.i64.wrap ((IntKind.i64.wrap ((IntKind.i64.wrap ((IntKind.i64.wrap ((IntKind.i64.wrap ((IntKind.i64.wrap ((IntKind.i64.wrap ((IntKind.i64.wrap (s2 + 1)) + 1)) + 1)) + 1)) + 1)) + 1)) + 1)) + 1)) + 1)) + 1)) + 1)) (IntKind.i64.wrap (s3 + 1))))))))) else some (s2, s1))
def m_l_markExprS (N : Nat) (p0 : (List TExpr)) (p1 : Int) : Option (Int × (List TExpr)) :=
  m_l_markExprS_l1 N N p0 p1 0
/-! laws.markActS -/
def m_l_markActS_l1 (N : Nat) : Nat → (List TAct) → Int → Int → Option (Int × (List TAct))
  | 0, _, _, _ => none
  | k + 1, s1, s2, s3 =>
    (if decide (s3 < (s1.length : Int)) then ((idx s1 s3).bind fun x1 => ((m_l_markText N (IntKind.i64.wrap (s2 + 1))).bind fun x2 => ((m_l_markExprS N x1.Args (IntKind.i64.wrap ((IntKind.i64.wrap (s2 + 1)) + 1))).bind fun x3 => ((m_l_markText N (IntKind.i64.wrap (x3.1 + 1))).bind fun x4 => ((m_l_markActS_l1 N k) (s1.set s3.toNat (⟨s2, x2, x3.2, x3.1, x4⟩ : TAct)) (IntKind.i64.wrap ((IntKind.i64.wrap (x3.1 + 1)) + 1)) (IntKind.i64.wrap (s3 + 1))))))) else some (s2, s1))
def m_l_markActS (N : Nat) (p0 : (List TAct)) (p1 : Int) : Option (Int × (List TAct)) :=
  m_l_markActS_l1 N N p0 p1 0
/-! laws.markRuleS -/
def m_l_markRuleS_l1 (N : Nat) : Nat → (List TRule) → Int → Int → Option (Int × (List TRule))
  | 0, _, _, _ => none
  | k + 1, s1, s2, s3 =>
    (if decide (s3 < (s1.length : Int)) then ((m_l_markText N s2).bind fun x1 => ((idx s1 s3).bind fun x2 => ((m_l_markPatS N x2.Pats (IntKind.i64.wrap ((IntKind.i64.wrap (s2 + 1)) + 1))).bind fun x3 => ((m_l_markCondS N x2.Conds x3.1).bind fun x4 => ((m_l_markActS N x2.Acts x4.1).bind fun x5 => ((m_l_markRuleS_l1 N k) (s1.set s3.toNat (⟨x1, IntKind.i64.wrap (s2 + 1), x3.2, x4.2, x5.2⟩ : TRule)) x5.1 (IntKind.i64.wrap (s3 + 1)))))))) else some (s2, s1))
def m_l_markRuleS (N : Nat) (p0 : (List TRule)) (p1 : Int) : Option (Int × (List TRule)) :=
  m_l_markRuleS_l1 N N p0 p1 0
/-! laws.markDef -/
def m_l_markDef (N : Nat) (p0 : TDef) (p1 : Int) : Option (Int × (List TRule)) :=
  ((m_l_markRuleS N p0.Rules p1).bind fun x1 => some (x1.1, x1.2))
/-! laws.markIntS -/
def m_l_markIntS_l1 (N : Nat) : Nat → (List Int) → Int → Int → Option (Int × (List Int))
  | 0, _, _, _ => none
  | k + 1, s1, s2, s3 =>
    (if decide (s3 < (s1.length : Int)) then ((idx s1 s3).bind fun x1 => ((m_l_markIntS_l1 N k) (s1.set s3.toNat s2) (IntKind.i64.wrap (s2 + 1)) (IntKind.i64.wrap (s3 + 1)))) else some (s2, s1))
def m_l_markIntS (N : Nat) (p0 : (List Int)) (p1 : Int) : Option (Int × (List Int)) :=
  m_l_markIntS_l1 N N p0 p1 0
/-! laws.markBindS -/
def m_l_markBindS_l1 (N : Nat) : Nat → (List TBind) → Int → Int → Option (Int × (List TBind))
  | 0, _, _, _ => none
  | k + 1, s1, s2, s3 =>
    (if decide (s3 < (s1.length : Int)) then ((m_l_markText N s2).bind fun x1 => ((idx s1 s3).bind fun x2 => ((m_l_markText N (IntKind.i64.wrap ((IntKind.i64.wrap ((IntKind.i64.wrap (s2 + 1)) + 1)) + 1))).bind fun x3 => ((m_l_markBindS_l1 N k) (s1.set s3.toNat (⟨x1, (⟨IntKind.i64.wrap (s2 + 1), IntKind.i64.wrap ((IntKind.i64.wrap (s2 + 1)) + 1), x3⟩ : TVal)⟩ : TBind)) (IntKind.i64.wrap ((IntKind.i64.wrap ((IntKind.i64.wrap ((IntKind.i64.wrap (s2 + 1)) + 1)) + 1)) + 1)) (IntKind.i64.wrap (s3 + 1)))))) else some (s2, s1))
def m_l_markBindS (N : Nat) (p0 : (List TBind)) (p1 : Int) : Option (Int × (List TBind)) :=
  m_l_markBindS_l1 N N p0 p1 0
/-! laws.markMatchS -/
def m_l_markMatchS_l1 (N : Nat) : Nat → (List TMatch) → Int → Int → Option (Int × (List TMatch))
  | 0, _, _, _ => none
  | k + 1, s1, s2, s3 =>
    (if decide (s3 < (s1.length : Int)) then ((idx s1 s3).bind fun x1 => ((m_l_markIntS N x1.Ids (IntKind.i64.wrap (s2 + 1))).bind fun x2 => ((m_l_markBindS N x1.Binds x2.1).bind fun x3 => ((m_l_markMatchS_l1 N k) (s1.set s3.toNat (⟨s2, x2.2, x3.2⟩ : TMatch)) x3.1 (IntKind.i64.wrap (s3 + 1)))))) else some (s2, s1))
def m_l_markMatchS (N : Nat) (p0 : (List TMatch)) (p1 : Int) : Option (Int × (List TMatch)) :=
  m_l_markMatchS_l1 N N p0 p1 0
/-! laws.markMatch -/
def m_l_markMatch (N : Nat) (p0 : TMatch) (p1 : Int) : Option (Int × (List Int) × (List TBind)) :=
  ((m_l_markIntS N p0.Ids p1).bind fun x1 => ((m_l_markBindS N p0.Binds x1.1).bind fun x2 => some (x2.1, x1.2, x2.2)))
/-! laws.heldBindS -/
def m_l_heldBindS_l1 (N : Nat) (p0 : (List TBind)) : Nat → Int → Int → Option (Int)
  | 0, _, _ => none
  | k + 1, s1, s2 =>
    (if decide (s2 < (p0.length : Int)) then ((idx p0 s2).bind fun x1 => ((m_l_markText N s1).bind fun x2 => (if !seq x1.Name x2 then some (-1) else ((idx p0 s2).bind fun x3 => (if !decide (x3.V.K = IntKind.i64.wrap (s1 + 1)) then some (-1) else ((idx p0 s2).bind fun x4 => (if !decide (x4.V.N = IntKind.i64.wrap ((IntKind.i64.wrap (s1 + 1)) + 1)) then some (-1) else ((idx p0 s2).bind fun x5 => ((m_l_markText N (IntKind.i64.wrap ((IntKind.i64.wrap ((IntKind.i64.wrap (s1 + 1)) + 1)) + 1))).bind fun x6 => (if !seq x5.V.S x6 then some (-1) else ((m_l_heldBindS_l1 N p0 k) (IntKind.i64.wrap ((IntKind.i64.wrap ((IntKind.i64.wrap ((IntKind.i64.wrap (s1 + 1)) + 1)) + 1)) + 1)) (IntKind.i64.wrap (s2 + 1))))))))))))) else some s1)
def m_l_heldBindS (N : Nat) (p0 : (List TBind)) (p1 : Int) : Option (Int) :=
  m_l_heldBindS_l1 N p0 N p1 0
/-! laws.heldIntS -/
def m_l_heldIntS_l1 (N : Nat) (p0 : (List Int)) : Nat → Int → Int → Option (Int)
  | 0, _, _ => none
  | k + 1, s1, s2 =>
    (if decide (s2 < (p0.length : Int)) then ((idx p0 s2).bind fun x1 => (if !decide (x1 = s1) then some (-1) else ((m_l_heldIntS_l1 N p0 k) (IntKind.i64.wrap (s1 + 1)) (IntKind.i64.wrap (s2 + 1))))) else some s1)
def m_l_heldIntS (N : Nat) (p0 : (List Int)) (p1 : Int) : Option (Int) :=
  m_l_heldIntS_l1 N p0 N p1 0
/-! laws.heldMatch -/
def m_l_heldMatch (N : Nat) (p0 : TMatch) (p1 : Int) : Option (Int) :=
  ((m_l_heldIntS N p0.Ids p1).bind fun x1 => (if decide (x1 < 0) then some (-1) else ((m_l_heldBindS N p0.Binds x1).bind fun x2 => (if decide (x2 < 0) then some (-1) else some x2))))
/-! laws.FnExactPickMatch -/
def m_l_FnExactPickMatch (N : Nat) (p0 : TDef) (p1 : (List TMatch)) (p2 : (List TMatch)) : Option (Bool) :=
  ((m_l_szDef N p0 1048576).bind fun x1 => (if decide (x1 < 0) then some true else ((m_l_szMatchS N p1 x1).bind fun x2 => (if decide (x2 < 0) then some true else ((m_l_szMatchS N p2 x2).bind fun x3 => (if decide (x3 < 0) then some true else ((m_l_toDef N p0).bind fun x4 => ((m_l_toMatchS N p1).bind fun x5 => ((m_l_toMatchS N p2).bind fun x6 => ((m_s_PickMatch N x4 x5 x6).bind fun x7 => ((m_l_toDef N p0).bind fun x8 => ((m_l_toMatchS N p1).bind fun x9 => ((m_l_toMatchS N p2).bind fun x10 => ((m_i_PickMatch N x8 x9 x10).bind fun x11 => ((m_l_eqMatch N x11.1 x7.1).bind fun x12 => ((if !x12 then some true else some (x11.2 != x7.2)).bind fun b1 => (if b1 then some false else ((m_l_toDef N p0).bind fun x13 => ((m_l_eqDef N x8 x13).bind fun x14 => (if !x14 then some false else ((m_l_toMatchS N p1).bind fun x15 => ((m_l_eqMatchS N x9 x15).bind fun x16 => (if !x16 then some false else ((m_l_toMatchS N p2).bind fun x17 => ((m_l_eqMatchS N x10 x17).bind fun x18 => (if !x18 then some false else ((m_l_markDef N x8 1).bind fun x19 => ((m_l_markMatchS N x9 x19.1).bind fun x20 => ((m_l_markMatchS N x10 x20.1).bind fun x21 => ((if decide (x21.1 < 0) then some true else ((m_l_eqMatch N x11.1 x7.1).bind fun x22 => some (!x22))).bind fun b2 => ((if b2 then some true else some (x11.2 != x7.2)).bind fun b3 => (if b3 then some false else ((m_l_markMatch N x11.1 1).bind fun x23 => ((m_l_heldMatch N (⟨x11.1.Rule, x23.2.1, x23.2.2⟩ : TMatch) 1).bind fun x24 => (if decide (x24 < 0) then some false else (if !decide (x24 = x23.1) then some false else ((m_l_toDef N p0).bind fun x25 => ((m_l_toMatchS N p1).bind fun x26 => ((m_l_toMatchS N p2).bind fun x27 => ((m_i_PickMatch N x25 x26 x27).bind fun x28 => ((m_l_eqMatch N x28.1 x7.1).bind fun x29 => ((if !x29 then some true else some (x28.2 != x7.2)).bind fun b4 => (if b4 then some false else ((m_l_heldMatch N (⟨x11.1.Rule, x23.2.1, x23.2.2⟩ : TMatch) 1).bind fun x30 => (if decide (x30 < 0) then some false else (if !decide (x30 = x23.1) then some false else some true))))))))))))))))))))))))))))))))))))))))))))))
end Go.Proofs.Ytjangilipfjcmaa
