/- Printed by a program of ours: Lean functions of plain data for the Go functions. -/
import Derived.Test.YtjangilipfjcmaaGreatEJ
namespace Go.Proofs.YtjangilipfjcmaaGreat
open Eng
set_option linter.unusedVariables false
set_option linter.unusedSimpArgs false

structure TVal where
  K : Int
  N : Int
  S : ByteArray
  deriving DecidableEq
def RTVal (Φ : Hp) (F : List Nat) (cs : List Value) (x : TVal) : Prop := cs = [.int .i64 x.K, .int .i64 x.N, .string x.S] ∧ F = []
theorem RTVal.lasts : Lasts RTVal := fun _ _ _ _ _ _ _ _ h => h
theorem RTVal.knows : Knows RTVal := fun _ _ _ _ h => h.2 ▸ Kw.nil
theorem RTVal.flat : Flat RTVal := fun _ _ _ _ h => h.2
theorem RTVal.one : Ones RTVal := fun _ _ _ _ h => by obtain ⟨rfl, -⟩ := h; exact One.all ⟨rfl, rfl, rfl, trivial⟩
structure TArg where
  K : Int
  S : ByteArray
  V : TVal
  deriving DecidableEq
def RTArg (Φ : Hp) (F : List Nat) (cs : List Value) (x : TArg) : Prop := cs = [.int .i64 x.K, .string x.S, .int .i64 x.V.K, .int .i64 x.V.N, .string x.V.S] ∧ F = []
theorem RTArg.lasts : Lasts RTArg := fun _ _ _ _ _ _ _ _ h => h
theorem RTArg.knows : Knows RTArg := fun _ _ _ _ h => h.2 ▸ Kw.nil
theorem RTArg.flat : Flat RTArg := fun _ _ _ _ h => h.2
theorem RTArg.one : Ones RTArg := fun _ _ _ _ h => by obtain ⟨rfl, -⟩ := h; exact One.all ⟨rfl, rfl, rfl, rfl, rfl, trivial⟩
structure TPat where
  Kind : ByteArray
  Args : (List TArg)
  Not : Bool
  deriving DecidableEq
def RTPat (Φ : Hp) (F : List Nat) (cs : List Value) (x : TPat) : Prop :=
  ∃ (s0 : Value) (F0 : List Nat), cs = [.string x.Kind, s0, .bool x.Not] ∧ F = F0 ∧ RSl RTArg 5 Φ F0 s0 x.Args
theorem RTPat.lasts : Lasts RTPat := fun X Φ Φ' F cs x hf hd ⟨s0, F0, hc, hF, h0⟩ => by
  rw [hF] at hd
  exact ⟨s0, F0, hc, hF, h0.frame RTArg.lasts hf (fun k hk => hd k (by simp [hk]))⟩
theorem RTPat.knows : Knows RTPat := fun Φ F cs x ⟨s0, F0, hc, hF, h0⟩ => hF ▸ h0.kn
theorem RTPat.one : Ones RTPat := fun _ _ _ _ h => by obtain ⟨s0, F0, rfl, -, h0⟩ := h; exact One.all ⟨rfl, h0.one, rfl, trivial⟩
def OTPat (Φ : Hp) (F : List Nat) (cs : List Value) (x : TPat) : Prop :=
  ∃ (s0 : Value), cs = [.string x.Kind, s0, .bool x.Not] ∧ F = (ob s0 ++ []) ∧ OSl RTArg 126 5 Φ [] s0 x.Args
theorem OTPat.lasts : Lasts OTPat := fun X Φ Φ' F cs x hf hd ⟨s0, hc, hF, h0⟩ => by
  rw [hF] at hd
  exact ⟨s0, hc, hF, h0.frame RTArg.lasts hf (fun k hk => hd k (by simp [hk])) (Dj.nil _)⟩
theorem OTPat.knows : Knows OTPat := fun Φ F cs x ⟨s0, hc, hF, h0⟩ => hF ▸ (h0.knO.app h0.kn)
theorem OTPat.one : Ones OTPat := fun _ _ _ _ h => by obtain ⟨s0, rfl, -, h0⟩ := h; exact One.all ⟨rfl, h0.one, rfl, trivial⟩
theorem OTPat.gives : Gives OTPat RTPat := fun Φ F cs x ⟨s0, hc, hF, h0⟩ => ⟨s0, ob s0 ++ [], hc, hF, h0.rslG (Gives.refl _)⟩
structure TCond where
  Op : Int
  L : TArg
  R : TArg
  deriving DecidableEq
def RTCond (Φ : Hp) (F : List Nat) (cs : List Value) (x : TCond) : Prop := cs = [.int .i64 x.Op, .int .i64 x.L.K, .string x.L.S, .int .i64 x.L.V.K, .int .i64 x.L.V.N, .string x.L.V.S, .int .i64 x.R.K, .string x.R.S, .int .i64 x.R.V.K, .int .i64 x.R.V.N, .string x.R.V.S] ∧ F = []
theorem RTCond.lasts : Lasts RTCond := fun _ _ _ _ _ _ _ _ h => h
theorem RTCond.knows : Knows RTCond := fun _ _ _ _ h => h.2 ▸ Kw.nil
theorem RTCond.flat : Flat RTCond := fun _ _ _ _ h => h.2
theorem RTCond.one : Ones RTCond := fun _ _ _ _ h => by obtain ⟨rfl, -⟩ := h; exact One.all ⟨rfl, rfl, rfl, rfl, rfl, rfl, rfl, rfl, rfl, rfl, rfl, trivial⟩
structure TExpr where
  Op : ByteArray
  L : TArg
  R : TArg
  deriving DecidableEq
def RTExpr (Φ : Hp) (F : List Nat) (cs : List Value) (x : TExpr) : Prop := cs = [.string x.Op, .int .i64 x.L.K, .string x.L.S, .int .i64 x.L.V.K, .int .i64 x.L.V.N, .string x.L.V.S, .int .i64 x.R.K, .string x.R.S, .int .i64 x.R.V.K, .int .i64 x.R.V.N, .string x.R.V.S] ∧ F = []
theorem RTExpr.lasts : Lasts RTExpr := fun _ _ _ _ _ _ _ _ h => h
theorem RTExpr.knows : Knows RTExpr := fun _ _ _ _ h => h.2 ▸ Kw.nil
theorem RTExpr.flat : Flat RTExpr := fun _ _ _ _ h => h.2
theorem RTExpr.one : Ones RTExpr := fun _ _ _ _ h => by obtain ⟨rfl, -⟩ := h; exact One.all ⟨rfl, rfl, rfl, rfl, rfl, rfl, rfl, rfl, rfl, rfl, rfl, trivial⟩
structure TAct where
  Kind : Int
  Name : ByteArray
  Args : (List TExpr)
  N : Int
  Undo : ByteArray
  deriving DecidableEq
def RTAct (Φ : Hp) (F : List Nat) (cs : List Value) (x : TAct) : Prop :=
  ∃ (s0 : Value) (F0 : List Nat), cs = [.int .i64 x.Kind, .string x.Name, s0, .int .i64 x.N, .string x.Undo] ∧ F = F0 ∧ RSl RTExpr 11 Φ F0 s0 x.Args
theorem RTAct.lasts : Lasts RTAct := fun X Φ Φ' F cs x hf hd ⟨s0, F0, hc, hF, h0⟩ => by
  rw [hF] at hd
  exact ⟨s0, F0, hc, hF, h0.frame RTExpr.lasts hf (fun k hk => hd k (by simp [hk]))⟩
theorem RTAct.knows : Knows RTAct := fun Φ F cs x ⟨s0, F0, hc, hF, h0⟩ => hF ▸ h0.kn
theorem RTAct.one : Ones RTAct := fun _ _ _ _ h => by obtain ⟨s0, F0, rfl, -, h0⟩ := h; exact One.all ⟨rfl, rfl, h0.one, rfl, rfl, trivial⟩
def OTAct (Φ : Hp) (F : List Nat) (cs : List Value) (x : TAct) : Prop :=
  ∃ (s0 : Value), cs = [.int .i64 x.Kind, .string x.Name, s0, .int .i64 x.N, .string x.Undo] ∧ F = (ob s0 ++ []) ∧ OSl RTExpr 175 11 Φ [] s0 x.Args
theorem OTAct.lasts : Lasts OTAct := fun X Φ Φ' F cs x hf hd ⟨s0, hc, hF, h0⟩ => by
  rw [hF] at hd
  exact ⟨s0, hc, hF, h0.frame RTExpr.lasts hf (fun k hk => hd k (by simp [hk])) (Dj.nil _)⟩
theorem OTAct.knows : Knows OTAct := fun Φ F cs x ⟨s0, hc, hF, h0⟩ => hF ▸ (h0.knO.app h0.kn)
theorem OTAct.one : Ones OTAct := fun _ _ _ _ h => by obtain ⟨s0, rfl, -, h0⟩ := h; exact One.all ⟨rfl, rfl, h0.one, rfl, rfl, trivial⟩
theorem OTAct.gives : Gives OTAct RTAct := fun Φ F cs x ⟨s0, hc, hF, h0⟩ => ⟨s0, ob s0 ++ [], hc, hF, h0.rslG (Gives.refl _)⟩
structure TRule where
  Name : ByteArray
  Sal : Int
  Pats : (List TPat)
  Conds : (List TCond)
  Acts : (List TAct)
  deriving DecidableEq
def RTRule (Φ : Hp) (F : List Nat) (cs : List Value) (x : TRule) : Prop :=
  ∃ (s0 : Value) (F0 : List Nat) (s1 : Value) (F1 : List Nat) (s2 : Value) (F2 : List Nat), cs = [.string x.Name, .int .i64 x.Sal, s0, s1, s2] ∧ F = F0 ++ (F1 ++ (F2)) ∧ RSl RTPat 3 Φ F0 s0 x.Pats ∧ RSl RTCond 11 Φ F1 s1 x.Conds ∧ RSl RTAct 5 Φ F2 s2 x.Acts
theorem RTRule.lasts : Lasts RTRule := fun X Φ Φ' F cs x hf hd ⟨s0, F0, s1, F1, s2, F2, hc, hF, h0, h1, h2⟩ => by
  rw [hF] at hd
  exact ⟨s0, F0, s1, F1, s2, F2, hc, hF, h0.frame RTPat.lasts hf (fun k hk => hd k (by simp [hk])), h1.frame RTCond.lasts hf (fun k hk => hd k (by simp [hk])), h2.frame RTAct.lasts hf (fun k hk => hd k (by simp [hk]))⟩
theorem RTRule.knows : Knows RTRule := fun Φ F cs x ⟨s0, F0, s1, F1, s2, F2, hc, hF, h0, h1, h2⟩ => hF ▸ (h0.kn.app (h1.kn.app h2.kn))
theorem RTRule.one : Ones RTRule := fun _ _ _ _ h => by obtain ⟨s0, F0, s1, F1, s2, F2, rfl, -, h0, h1, h2⟩ := h; exact One.all ⟨rfl, rfl, h0.one, h1.one, h2.one, trivial⟩
def OTRule (Φ : Hp) (F : List Nat) (cs : List Value) (x : TRule) : Prop :=
  ∃ (s0 : Value) (D0 : List Nat) (s1 : Value) (s2 : Value) (D2 : List Nat), cs = [.string x.Name, .int .i64 x.Sal, s0, s1, s2] ∧ F = (ob s0 ++ D0) ++ ((ob s1 ++ []) ++ ((ob s2 ++ D2))) ∧ OSl OTPat 114 3 Φ D0 s0 x.Pats ∧ OSl RTCond 128 11 Φ [] s1 x.Conds ∧ OSl OTAct 135 5 Φ D2 s2 x.Acts
theorem OTRule.lasts : Lasts OTRule := fun X Φ Φ' F cs x hf hd ⟨s0, D0, s1, s2, D2, hc, hF, h0, h1, h2⟩ => by
  rw [hF] at hd
  exact ⟨s0, D0, s1, s2, D2, hc, hF, h0.frame OTPat.lasts hf (fun k hk => hd k (by simp [hk])) (fun k hk => hd k (by simp [hk])), h1.frame RTCond.lasts hf (fun k hk => hd k (by simp [hk])) (Dj.nil _), h2.frame OTAct.lasts hf (fun k hk => hd k (by simp [hk])) (fun k hk => hd k (by simp [hk]))⟩
theorem OTRule.knows : Knows OTRule := fun Φ F cs x ⟨s0, D0, s1, s2, D2, hc, hF, h0, h1, h2⟩ => hF ▸ ((h0.knO.app h0.kn).app ((h1.knO.app h1.kn).app (h2.knO.app h2.kn)))
theorem OTRule.one : Ones OTRule := fun _ _ _ _ h => by obtain ⟨s0, D0, s1, s2, D2, rfl, -, h0, h1, h2⟩ := h; exact One.all ⟨rfl, rfl, h0.one, h1.one, h2.one, trivial⟩
theorem OTRule.gives : Gives OTRule RTRule := fun Φ F cs x ⟨s0, D0, s1, s2, D2, hc, hF, h0, h1, h2⟩ => ⟨s0, ob s0 ++ D0, s1, ob s1 ++ [], s2, ob s2 ++ D2, hc, hF, h0.rslG OTPat.gives, h1.rslG (Gives.refl _), h2.rslG OTAct.gives⟩
structure TDef where
  Name : ByteArray
  Rules : (List TRule)
  deriving DecidableEq
def RTDef (Φ : Hp) (F : List Nat) (cs : List Value) (x : TDef) : Prop :=
  ∃ (s0 : Value) (F0 : List Nat), cs = [.string x.Name, s0] ∧ F = F0 ∧ RSl RTRule 5 Φ F0 s0 x.Rules
theorem RTDef.lasts : Lasts RTDef := fun X Φ Φ' F cs x hf hd ⟨s0, F0, hc, hF, h0⟩ => by
  rw [hF] at hd
  exact ⟨s0, F0, hc, hF, h0.frame RTRule.lasts hf (fun k hk => hd k (by simp [hk]))⟩
theorem RTDef.knows : Knows RTDef := fun Φ F cs x ⟨s0, F0, hc, hF, h0⟩ => hF ▸ h0.kn
theorem RTDef.one : Ones RTDef := fun _ _ _ _ h => by obtain ⟨s0, F0, rfl, -, h0⟩ := h; exact One.all ⟨rfl, h0.one, trivial⟩
def OTDef (Φ : Hp) (F : List Nat) (cs : List Value) (x : TDef) : Prop :=
  ∃ (s0 : Value) (D0 : List Nat), cs = [.string x.Name, s0] ∧ F = (ob s0 ++ D0) ∧ OSl OTRule 49 5 Φ D0 s0 x.Rules
theorem OTDef.lasts : Lasts OTDef := fun X Φ Φ' F cs x hf hd ⟨s0, D0, hc, hF, h0⟩ => by
  rw [hF] at hd
  exact ⟨s0, D0, hc, hF, h0.frame OTRule.lasts hf (fun k hk => hd k (by simp [hk])) (fun k hk => hd k (by simp [hk]))⟩
theorem OTDef.knows : Knows OTDef := fun Φ F cs x ⟨s0, D0, hc, hF, h0⟩ => hF ▸ (h0.knO.app h0.kn)
theorem OTDef.one : Ones OTDef := fun _ _ _ _ h => by obtain ⟨s0, D0, rfl, -, h0⟩ := h; exact One.all ⟨rfl, h0.one, trivial⟩
theorem OTDef.gives : Gives OTDef RTDef := fun Φ F cs x ⟨s0, D0, hc, hF, h0⟩ => ⟨s0, ob s0 ++ D0, hc, hF, h0.rslG OTRule.gives⟩
structure TAlpha where
  Kind : ByteArray
  N : Int
  Consts : (List TVal)
  At : (List Int)
  deriving DecidableEq
def RTAlpha (Φ : Hp) (F : List Nat) (cs : List Value) (x : TAlpha) : Prop :=
  ∃ (s0 : Value) (F0 : List Nat) (s1 : Value) (F1 : List Nat), cs = [.string x.Kind, .int .i64 x.N, s0, s1] ∧ F = F0 ++ (F1) ∧ RSl RTVal 3 Φ F0 s0 x.Consts ∧ RSl (RI .i64) 1 Φ F1 s1 x.At
theorem RTAlpha.lasts : Lasts RTAlpha := fun X Φ Φ' F cs x hf hd ⟨s0, F0, s1, F1, hc, hF, h0, h1⟩ => by
  rw [hF] at hd
  exact ⟨s0, F0, s1, F1, hc, hF, h0.frame RTVal.lasts hf (fun k hk => hd k (by simp [hk])), h1.frame RI.lasts hf (fun k hk => hd k (by simp [hk]))⟩
theorem RTAlpha.knows : Knows RTAlpha := fun Φ F cs x ⟨s0, F0, s1, F1, hc, hF, h0, h1⟩ => hF ▸ (h0.kn.app h1.kn)
theorem RTAlpha.one : Ones RTAlpha := fun _ _ _ _ h => by obtain ⟨s0, F0, s1, F1, rfl, -, h0, h1⟩ := h; exact One.all ⟨rfl, rfl, h0.one, h1.one, trivial⟩
def OTAlpha (Φ : Hp) (F : List Nat) (cs : List Value) (x : TAlpha) : Prop :=
  ∃ (s0 : Value) (s1 : Value), cs = [.string x.Kind, .int .i64 x.N, s0, s1] ∧ F = (ob s0 ++ []) ++ ((ob s1 ++ [])) ∧ OSl RTVal 121 3 Φ [] s0 x.Consts ∧ OSl (RI .i64) 3 1 Φ [] s1 x.At
theorem OTAlpha.lasts : Lasts OTAlpha := fun X Φ Φ' F cs x hf hd ⟨s0, s1, hc, hF, h0, h1⟩ => by
  rw [hF] at hd
  exact ⟨s0, s1, hc, hF, h0.frame RTVal.lasts hf (fun k hk => hd k (by simp [hk])) (Dj.nil _), h1.frame RI.lasts hf (fun k hk => hd k (by simp [hk])) (Dj.nil _)⟩
theorem OTAlpha.knows : Knows OTAlpha := fun Φ F cs x ⟨s0, s1, hc, hF, h0, h1⟩ => hF ▸ ((h0.knO.app h0.kn).app (h1.knO.app h1.kn))
theorem OTAlpha.one : Ones OTAlpha := fun _ _ _ _ h => by obtain ⟨s0, s1, rfl, -, h0, h1⟩ := h; exact One.all ⟨rfl, rfl, h0.one, h1.one, trivial⟩
theorem OTAlpha.gives : Gives OTAlpha RTAlpha := fun Φ F cs x ⟨s0, s1, hc, hF, h0, h1⟩ => ⟨s0, ob s0 ++ [], s1, ob s1 ++ [], hc, hF, h0.rslG (Gives.refl _), h1.rslG (Gives.refl _)⟩
structure TChain where
  Pos : (List Int)
  Neg : (List Int)
  deriving DecidableEq
def RTChain (Φ : Hp) (F : List Nat) (cs : List Value) (x : TChain) : Prop :=
  ∃ (s0 : Value) (F0 : List Nat) (s1 : Value) (F1 : List Nat), cs = [s0, s1] ∧ F = F0 ++ (F1) ∧ RSl (RI .i64) 1 Φ F0 s0 x.Pos ∧ RSl (RI .i64) 1 Φ F1 s1 x.Neg
theorem RTChain.lasts : Lasts RTChain := fun X Φ Φ' F cs x hf hd ⟨s0, F0, s1, F1, hc, hF, h0, h1⟩ => by
  rw [hF] at hd
  exact ⟨s0, F0, s1, F1, hc, hF, h0.frame RI.lasts hf (fun k hk => hd k (by simp [hk])), h1.frame RI.lasts hf (fun k hk => hd k (by simp [hk]))⟩
theorem RTChain.knows : Knows RTChain := fun Φ F cs x ⟨s0, F0, s1, F1, hc, hF, h0, h1⟩ => hF ▸ (h0.kn.app h1.kn)
theorem RTChain.one : Ones RTChain := fun _ _ _ _ h => by obtain ⟨s0, F0, s1, F1, rfl, -, h0, h1⟩ := h; exact One.all ⟨h0.one, h1.one, trivial⟩
def OTChain (Φ : Hp) (F : List Nat) (cs : List Value) (x : TChain) : Prop :=
  ∃ (s0 : Value) (s1 : Value), cs = [s0, s1] ∧ F = (ob s0 ++ []) ++ ((ob s1 ++ [])) ∧ OSl (RI .i64) 3 1 Φ [] s0 x.Pos ∧ OSl (RI .i64) 3 1 Φ [] s1 x.Neg
theorem OTChain.lasts : Lasts OTChain := fun X Φ Φ' F cs x hf hd ⟨s0, s1, hc, hF, h0, h1⟩ => by
  rw [hF] at hd
  exact ⟨s0, s1, hc, hF, h0.frame RI.lasts hf (fun k hk => hd k (by simp [hk])) (Dj.nil _), h1.frame RI.lasts hf (fun k hk => hd k (by simp [hk])) (Dj.nil _)⟩
theorem OTChain.knows : Knows OTChain := fun Φ F cs x ⟨s0, s1, hc, hF, h0, h1⟩ => hF ▸ ((h0.knO.app h0.kn).app (h1.knO.app h1.kn))
theorem OTChain.one : Ones OTChain := fun _ _ _ _ h => by obtain ⟨s0, s1, rfl, -, h0, h1⟩ := h; exact One.all ⟨h0.one, h1.one, trivial⟩
theorem OTChain.gives : Gives OTChain RTChain := fun Φ F cs x ⟨s0, s1, hc, hF, h0, h1⟩ => ⟨s0, ob s0 ++ [], s1, ob s1 ++ [], hc, hF, h0.rslG (Gives.refl _), h1.rslG (Gives.refl _)⟩
structure TNet where
  Alphas : (List TAlpha)
  Chains : (List TChain)
  deriving DecidableEq
def RTNet (Φ : Hp) (F : List Nat) (cs : List Value) (x : TNet) : Prop :=
  ∃ (s0 : Value) (F0 : List Nat) (s1 : Value) (F1 : List Nat), cs = [s0, s1] ∧ F = F0 ++ (F1) ∧ RSl RTAlpha 4 Φ F0 s0 x.Alphas ∧ RSl RTChain 2 Φ F1 s1 x.Chains
theorem RTNet.lasts : Lasts RTNet := fun X Φ Φ' F cs x hf hd ⟨s0, F0, s1, F1, hc, hF, h0, h1⟩ => by
  rw [hF] at hd
  exact ⟨s0, F0, s1, F1, hc, hF, h0.frame RTAlpha.lasts hf (fun k hk => hd k (by simp [hk])), h1.frame RTChain.lasts hf (fun k hk => hd k (by simp [hk]))⟩
theorem RTNet.knows : Knows RTNet := fun Φ F cs x ⟨s0, F0, s1, F1, hc, hF, h0, h1⟩ => hF ▸ (h0.kn.app h1.kn)
theorem RTNet.one : Ones RTNet := fun _ _ _ _ h => by obtain ⟨s0, F0, s1, F1, rfl, -, h0, h1⟩ := h; exact One.all ⟨h0.one, h1.one, trivial⟩
def OTNet (Φ : Hp) (F : List Nat) (cs : List Value) (x : TNet) : Prop :=
  ∃ (s0 : Value) (D0 : List Nat) (s1 : Value) (D1 : List Nat), cs = [s0, s1] ∧ F = (ob s0 ++ D0) ++ ((ob s1 ++ D1)) ∧ OSl OTAlpha 102 4 Φ D0 s0 x.Alphas ∧ OSl OTChain 43 2 Φ D1 s1 x.Chains
theorem OTNet.lasts : Lasts OTNet := fun X Φ Φ' F cs x hf hd ⟨s0, D0, s1, D1, hc, hF, h0, h1⟩ => by
  rw [hF] at hd
  exact ⟨s0, D0, s1, D1, hc, hF, h0.frame OTAlpha.lasts hf (fun k hk => hd k (by simp [hk])) (fun k hk => hd k (by simp [hk])), h1.frame OTChain.lasts hf (fun k hk => hd k (by simp [hk])) (fun k hk => hd k (by simp [hk]))⟩
theorem OTNet.knows : Knows OTNet := fun Φ F cs x ⟨s0, D0, s1, D1, hc, hF, h0, h1⟩ => hF ▸ ((h0.knO.app h0.kn).app (h1.knO.app h1.kn))
theorem OTNet.one : Ones OTNet := fun _ _ _ _ h => by obtain ⟨s0, D0, s1, D1, rfl, -, h0, h1⟩ := h; exact One.all ⟨h0.one, h1.one, trivial⟩
theorem OTNet.gives : Gives OTNet RTNet := fun Φ F cs x ⟨s0, D0, s1, D1, hc, hF, h0, h1⟩ => ⟨s0, ob s0 ++ D0, s1, ob s1 ++ D1, hc, hF, h0.rslG OTAlpha.gives, h1.rslG OTChain.gives⟩
def eqT_TVal (x y : TVal) : Bool := ((x.K == y.K) && ((x.N == y.N) && (seq x.S y.S && true)))
theorem seq_dec (a b : ByteArray) : seq a b = decide (a = b) := by
  unfold seq
  by_cases h : a = b
  · subst h; simp
  · have : ¬ a.toList = b.toList := fun e => h (by rw [ByteArray.toList_eq, ByteArray.toList_eq] at e; exact ByteArray.ext (Array.toList_inj.1 e))
    simp [h, this]
theorem eqT_TVal_eq (x y : TVal) : eqT_TVal x y = decide (x = y) := by
  obtain ⟨a0, a1, a2⟩ := x; obtain ⟨b0, b1, b2⟩ := y
  rw [Bool.eq_iff_iff]
  simp only [eqT_TVal, seq_dec, Bool.and_true, Bool.and_eq_true, beq_iff_eq, decide_eq_true_eq, TVal.mk.injEq, and_assoc]
def eqT_TArg (x y : TArg) : Bool := ((x.K == y.K) && (seq x.S y.S && ((x.V.K == y.V.K) && ((x.V.N == y.V.N) && (seq x.V.S y.V.S && true)))))

theorem eqT_TArg_eq (x y : TArg) : eqT_TArg x y = decide (x = y) := by
  obtain ⟨a0, a1, ⟨a20, a21, a22⟩⟩ := x; obtain ⟨b0, b1, ⟨b20, b21, b22⟩⟩ := y
  rw [Bool.eq_iff_iff]
  simp only [eqT_TArg, seq_dec, Bool.and_true, Bool.and_eq_true, beq_iff_eq, decide_eq_true_eq, TArg.mk.injEq, TVal.mk.injEq, and_assoc]
/-! laws.szVal -/
def m_l_szVal (N : Nat) (p0 : TVal) (p1 : Int) : Option (Int) :=
  (if decide (IntKind.i64.wrap (p1 - (p0.S.size : Int)) < 0) then some (-1) else some (IntKind.i64.wrap (p1 - (p0.S.size : Int))))
/-! laws.szArg -/
def m_l_szArg (N : Nat) (p0 : TArg) (p1 : Int) : Option (Int) :=
  (if decide (IntKind.i64.wrap (p1 - (p0.S.size : Int)) < 0) then some (-1) else ((m_l_szVal N p0.V (IntKind.i64.wrap (p1 - (p0.S.size : Int)))).bind fun x1 => (if decide (x1 < 0) then some (-1) else some x1)))
/-! laws.szArgS -/
def m_l_szArgS_l1 (N : Nat) (p0 : (List TArg)) : Nat → Int → Int → Option (Int)
  | 0, _, _ => none
  | k + 1, s1, s2 =>
    (if decide (s2 < (p0.length : Int)) then ((idx p0 s2).bind fun x1 => ((m_l_szArg N x1 s1).bind fun x2 => (if decide (x2 < 0) then some (-1) else ((m_l_szArgS_l1 N p0 k) x2 (IntKind.i64.wrap (s2 + 1)))))) else some s1)
def m_l_szArgS (N : Nat) (p0 : (List TArg)) (p1 : Int) : Option (Int) :=
  (if decide (IntKind.i64.wrap (p1 - (p0.length : Int)) < 0) then some (-1) else m_l_szArgS_l1 N p0 N (IntKind.i64.wrap (p1 - (p0.length : Int))) 0)
/-! laws.szPat -/
def m_l_szPat (N : Nat) (p0 : TPat) (p1 : Int) : Option (Int) :=
  (if decide (IntKind.i64.wrap (p1 - (p0.Kind.size : Int)) < 0) then some (-1) else ((m_l_szArgS N p0.Args (IntKind.i64.wrap (p1 - (p0.Kind.size : Int)))).bind fun x1 => (if decide (x1 < 0) then some (-1) else some x1)))
/-! laws.szPatS -/
def m_l_szPatS_l1 (N : Nat) (p0 : (List TPat)) : Nat → Int → Int → Option (Int)
  | 0, _, _ => none
  | k + 1, s1, s2 =>
    (if decide (s2 < (p0.length : Int)) then ((idx p0 s2).bind fun x1 => ((m_l_szPat N x1 s1).bind fun x2 => (if decide (x2 < 0) then some (-1) else ((m_l_szPatS_l1 N p0 k) x2 (IntKind.i64.wrap (s2 + 1)))))) else some s1)
def m_l_szPatS (N : Nat) (p0 : (List TPat)) (p1 : Int) : Option (Int) :=
  (if decide (IntKind.i64.wrap (p1 - (p0.length : Int)) < 0) then some (-1) else m_l_szPatS_l1 N p0 N (IntKind.i64.wrap (p1 - (p0.length : Int))) 0)
/-! laws.szCond -/
def m_l_szCond (N : Nat) (p0 : TCond) (p1 : Int) : Option (Int) :=
  ((m_l_szArg N p0.L p1).bind fun x1 => (if decide (x1 < 0) then some (-1) else ((m_l_szArg N p0.R x1).bind fun x2 => (if decide (x2 < 0) then some (-1) else some x2))))
/-! laws.szCondS -/
def m_l_szCondS_l1 (N : Nat) (p0 : (List TCond)) : Nat → Int → Int → Option (Int)
  | 0, _, _ => none
  | k + 1, s1, s2 =>
    (if decide (s2 < (p0.length : Int)) then ((idx p0 s2).bind fun x1 => ((m_l_szCond N x1 s1).bind fun x2 => (if decide (x2 < 0) then some (-1) else ((m_l_szCondS_l1 N p0 k) x2 (IntKind.i64.wrap (s2 + 1)))))) else some s1)
def m_l_szCondS (N : Nat) (p0 : (List TCond)) (p1 : Int) : Option (Int) :=
  (if decide (IntKind.i64.wrap (p1 - (p0.length : Int)) < 0) then some (-1) else m_l_szCondS_l1 N p0 N (IntKind.i64.wrap (p1 - (p0.length : Int))) 0)
/-! laws.szExpr -/
def m_l_szExpr (N : Nat) (p0 : TExpr) (p1 : Int) : Option (Int) :=
  (if decide (IntKind.i64.wrap (p1 - (p0.Op.size : Int)) < 0) then some (-1) else ((m_l_szArg N p0.L (IntKind.i64.wrap (p1 - (p0.Op.size : Int)))).bind fun x1 => (if decide (x1 < 0) then some (-1) else ((m_l_szArg N p0.R x1).bind fun x2 => (if decide (x2 < 0) then some (-1) else some x2)))))
/-! laws.szExprS -/
def m_l_szExprS_l1 (N : Nat) (p0 : (List TExpr)) : Nat → Int → Int → Option (Int)
  | 0, _, _ => none
  | k + 1, s1, s2 =>
    (if decide (s2 < (p0.length : Int)) then ((idx p0 s2).bind fun x1 => ((m_l_szExpr N x1 s1).bind fun x2 => (if decide (x2 < 0) then some (-1) else ((m_l_szExprS_l1 N p0 k) x2 (IntKind.i64.wrap (s2 + 1)))))) else some s1)
def m_l_szExprS (N : Nat) (p0 : (List TExpr)) (p1 : Int) : Option (Int) :=
  (if decide (IntKind.i64.wrap (p1 - (p0.length : Int)) < 0) then some (-1) else m_l_szExprS_l1 N p0 N (IntKind.i64.wrap (p1 - (p0.length : Int))) 0)
/-! laws.szAct -/
def m_l_szAct (N : Nat) (p0 : TAct) (p1 : Int) : Option (Int) :=
  (if decide (IntKind.i64.wrap (p1 - (p0.Name.size : Int)) < 0) then some (-1) else ((m_l_szExprS N p0.Args (IntKind.i64.wrap (p1 - (p0.Name.size : Int)))).bind fun x1 => (if decide (x1 < 0) then some (-1) else (if decide (IntKind.i64.wrap (x1 - (p0.Undo.size : Int)) < 0) then some (-1) else some (IntKind.i64.wrap (x1 - (p0.Undo.size : Int)))))))
/-! laws.szActS -/
def m_l_szActS_l1 (N : Nat) (p0 : (List TAct)) : Nat → Int → Int → Option (Int)
  | 0, _, _ => none
  | k + 1, s1, s2 =>
    (if decide (s2 < (p0.length : Int)) then ((idx p0 s2).bind fun x1 => ((m_l_szAct N x1 s1).bind fun x2 => (if decide (x2 < 0) then some (-1) else ((m_l_szActS_l1 N p0 k) x2 (IntKind.i64.wrap (s2 + 1)))))) else some s1)
def m_l_szActS (N : Nat) (p0 : (List TAct)) (p1 : Int) : Option (Int) :=
  (if decide (IntKind.i64.wrap (p1 - (p0.length : Int)) < 0) then some (-1) else m_l_szActS_l1 N p0 N (IntKind.i64.wrap (p1 - (p0.length : Int))) 0)
/-! laws.szRule -/
def m_l_szRule (N : Nat) (p0 : TRule) (p1 : Int) : Option (Int) :=
  (if decide (IntKind.i64.wrap (p1 - (p0.Name.size : Int)) < 0) then some (-1) else ((m_l_szPatS N p0.Pats (IntKind.i64.wrap (p1 - (p0.Name.size : Int)))).bind fun x1 => (if decide (x1 < 0) then some (-1) else ((m_l_szCondS N p0.Conds x1).bind fun x2 => (if decide (x2 < 0) then some (-1) else ((m_l_szActS N p0.Acts x2).bind fun x3 => (if decide (x3 < 0) then some (-1) else some x3)))))))
/-! laws.szRuleS -/
def m_l_szRuleS_l1 (N : Nat) (p0 : (List TRule)) : Nat → Int → Int → Option (Int)
  | 0, _, _ => none
  | k + 1, s1, s2 =>
    (if decide (s2 < (p0.length : Int)) then ((idx p0 s2).bind fun x1 => ((m_l_szRule N x1 s1).bind fun x2 => (if decide (x2 < 0) then some (-1) else ((m_l_szRuleS_l1 N p0 k) x2 (IntKind.i64.wrap (s2 + 1)))))) else some s1)
def m_l_szRuleS (N : Nat) (p0 : (List TRule)) (p1 : Int) : Option (Int) :=
  (if decide (IntKind.i64.wrap (p1 - (p0.length : Int)) < 0) then some (-1) else m_l_szRuleS_l1 N p0 N (IntKind.i64.wrap (p1 - (p0.length : Int))) 0)
/-! laws.szDef -/
def m_l_szDef (N : Nat) (p0 : TDef) (p1 : Int) : Option (Int) :=
  (if decide (IntKind.i64.wrap (p1 - (p0.Name.size : Int)) < 0) then some (-1) else ((m_l_szRuleS N p0.Rules (IntKind.i64.wrap (p1 - (p0.Name.size : Int)))).bind fun x1 => (if decide (x1 < 0) then some (-1) else some x1)))
/-! laws.toVal -/
def m_l_toVal (N : Nat) (p0 : TVal) : Option (TVal) :=
  some p0
/-! laws.toArg -/
def m_l_toArg (N : Nat) (p0 : TArg) : Option (TArg) :=
  ((m_l_toVal N p0.V).bind fun x1 => some (⟨p0.K, p0.S, x1⟩ : TArg))
/-! laws.toArgS -/
def m_l_toArgS_l1 (N : Nat) (p0 : (List TArg)) : Nat → (List TArg) → Int → Option ((List TArg))
  | 0, _, _ => none
  | k + 1, s1, s2 =>
    (if decide (s2 < (p0.length : Int)) then ((idx p0 s2).bind fun x2 => ((m_l_toArg N x2).bind fun x3 => ((idx s1 s2).bind fun x4 => ((m_l_toArgS_l1 N p0 k) (s1.set s2.toNat x3) (IntKind.i64.wrap (s2 + 1)))))) else some s1)
def m_l_toArgS (N : Nat) (p0 : (List TArg)) : Option ((List TArg)) :=
  ((mk (⟨0, (⟨#[]⟩ : ByteArray), (⟨0, 0, (⟨#[]⟩ : ByteArray)⟩ : TVal)⟩ : TArg) (p0.length : Int)).bind fun x1 => m_l_toArgS_l1 N p0 N x1 0)
/-! laws.toPat -/
def m_l_toPat (N : Nat) (p0 : TPat) : Option (TPat) :=
  ((m_l_toArgS N p0.Args).bind fun x1 => some (⟨p0.Kind, x1, p0.Not⟩ : TPat))
/-! laws.toPatS -/
def m_l_toPatS_l1 (N : Nat) (p0 : (List TPat)) : Nat → (List TPat) → Int → Option ((List TPat))
  | 0, _, _ => none
  | k + 1, s1, s2 =>
    (if decide (s2 < (p0.length : Int)) then ((idx p0 s2).bind fun x2 => ((m_l_toPat N x2).bind fun x3 => ((idx s1 s2).bind fun x4 => ((m_l_toPatS_l1 N p0 k) (s1.set s2.toNat x3) (IntKind.i64.wrap (s2 + 1)))))) else some s1)
def m_l_toPatS (N : Nat) (p0 : (List TPat)) : Option ((List TPat)) :=
  ((mk (⟨(⟨#[]⟩ : ByteArray), ([] : List TArg), false⟩ : TPat) (p0.length : Int)).bind fun x1 => m_l_toPatS_l1 N p0 N x1 0)
/-! laws.toCond -/
def m_l_toCond (N : Nat) (p0 : TCond) : Option (TCond) :=
  ((m_l_toArg N p0.L).bind fun x1 => ((m_l_toArg N p0.R).bind fun x2 => some (⟨p0.Op, x1, x2⟩ : TCond)))
/-! laws.toCondS -/
def m_l_toCondS_l1 (N : Nat) (p0 : (List TCond)) : Nat → (List TCond) → Int → Option ((List TCond))
  | 0, _, _ => none
  | k + 1, s1, s2 =>
    (if decide (s2 < (p0.length : Int)) then ((idx p0 s2).bind fun x2 => ((m_l_toCond N x2).bind fun x3 => ((idx s1 s2).bind fun x4 => ((m_l_toCondS_l1 N p0 k) (s1.set s2.toNat x3) (IntKind.i64.wrap (s2 + 1)))))) else some s1)
def m_l_toCondS (N : Nat) (p0 : (List TCond)) : Option ((List TCond)) :=
  ((mk (⟨0, (⟨0, (⟨#[]⟩ : ByteArray), (⟨0, 0, (⟨#[]⟩ : ByteArray)⟩ : TVal)⟩ : TArg), (⟨0, (⟨#[]⟩ : ByteArray), (⟨0, 0, (⟨#[]⟩ : ByteArray)⟩ : TVal)⟩ : TArg)⟩ : TCond) (p0.length : Int)).bind fun x1 => m_l_toCondS_l1 N p0 N x1 0)
/-! laws.toExpr -/
def m_l_toExpr (N : Nat) (p0 : TExpr) : Option (TExpr) :=
  ((m_l_toArg N p0.L).bind fun x1 => ((m_l_toArg N p0.R).bind fun x2 => some (⟨p0.Op, x1, x2⟩ : TExpr)))
/-! laws.toExprS -/
def m_l_toExprS_l1 (N : Nat) (p0 : (List TExpr)) : Nat → (List TExpr) → Int → Option ((List TExpr))
  | 0, _, _ => none
  | k + 1, s1, s2 =>
    (if decide (s2 < (p0.length : Int)) then ((idx p0 s2).bind fun x2 => ((m_l_toExpr N x2).bind fun x3 => ((idx s1 s2).bind fun x4 => ((m_l_toExprS_l1 N p0 k) (s1.set s2.toNat x3) (IntKind.i64.wrap (s2 + 1)))))) else some s1)
def m_l_toExprS (N : Nat) (p0 : (List TExpr)) : Option ((List TExpr)) :=
  ((mk (⟨(⟨#[]⟩ : ByteArray), (⟨0, (⟨#[]⟩ : ByteArray), (⟨0, 0, (⟨#[]⟩ : ByteArray)⟩ : TVal)⟩ : TArg), (⟨0, (⟨#[]⟩ : ByteArray), (⟨0, 0, (⟨#[]⟩ : ByteArray)⟩ : TVal)⟩ : TArg)⟩ : TExpr) (p0.length : Int)).bind fun x1 => m_l_toExprS_l1 N p0 N x1 0)
/-! laws.toAct -/
def m_l_toAct (N : Nat) (p0 : TAct) : Option (TAct) :=
  ((m_l_toExprS N p0.Args).bind fun x1 => some (⟨p0.Kind, p0.Name, x1, p0.N, p0.Undo⟩ : TAct))
/-! laws.toActS -/
def m_l_toActS_l1 (N : Nat) (p0 : (List TAct)) : Nat → (List TAct) → Int → Option ((List TAct))
  | 0, _, _ => none
  | k + 1, s1, s2 =>
    (if decide (s2 < (p0.length : Int)) then ((idx p0 s2).bind fun x2 => ((m_l_toAct N x2).bind fun x3 => ((idx s1 s2).bind fun x4 => ((m_l_toActS_l1 N p0 k) (s1.set s2.toNat x3) (IntKind.i64.wrap (s2 + 1)))))) else some s1)
def m_l_toActS (N : Nat) (p0 : (List TAct)) : Option ((List TAct)) :=
  ((mk (⟨0, (⟨#[]⟩ : ByteArray), ([] : List TExpr), 0, (⟨#[]⟩ : ByteArray)⟩ : TAct) (p0.length : Int)).bind fun x1 => m_l_toActS_l1 N p0 N x1 0)
/-! laws.toRule -/
def m_l_toRule (N : Nat) (p0 : TRule) : Option (TRule) :=
  ((m_l_toPatS N p0.Pats).bind fun x1 => ((m_l_toCondS N p0.Conds).bind fun x2 => ((m_l_toActS N p0.Acts).bind fun x3 => some (⟨p0.Name, p0.Sal, x1, x2, x3⟩ : TRule))))
/-! laws.toRuleS -/
def m_l_toRuleS_l1 (N : Nat) (p0 : (List TRule)) : Nat → (List TRule) → Int → Option ((List TRule))
  | 0, _, _ => none
  | k + 1, s1, s2 =>
    (if decide (s2 < (p0.length : Int)) then ((idx p0 s2).bind fun x2 => ((m_l_toRule N x2).bind fun x3 => ((idx s1 s2).bind fun x4 => ((m_l_toRuleS_l1 N p0 k) (s1.set s2.toNat x3) (IntKind.i64.wrap (s2 + 1)))))) else some s1)
def m_l_toRuleS (N : Nat) (p0 : (List TRule)) : Option ((List TRule)) :=
  ((mk (⟨(⟨#[]⟩ : ByteArray), 0, ([] : List TPat), ([] : List TCond), ([] : List TAct)⟩ : TRule) (p0.length : Int)).bind fun x1 => m_l_toRuleS_l1 N p0 N x1 0)
/-! laws.toDef -/
def m_l_toDef (N : Nat) (p0 : TDef) : Option (TDef) :=
  ((m_l_toRuleS N p0.Rules).bind fun x1 => some (⟨p0.Name, x1⟩ : TDef))
/-! laws.eqVal -/
def m_l_eqVal (N : Nat) (p0 : TVal) (p1 : TVal) : Option (Bool) :=
  (if !decide (p0.K = p1.K) then some false else (if !decide (p0.N = p1.N) then some false else (if !seq p0.S p1.S then some false else some true)))
/-! laws.eqValS -/
def m_l_eqValS_l1 (N : Nat) (p0 : (List TVal)) (p1 : (List TVal)) : Nat → Int → Option (Bool)
  | 0, _ => none
  | k + 1, s1 =>
    (if decide (s1 < (p0.length : Int)) then ((idx p0 s1).bind fun x1 => ((idx p1 s1).bind fun x2 => ((m_l_eqVal N x1 x2).bind fun x3 => (if !x3 then some false else ((m_l_eqValS_l1 N p0 p1 k) (IntKind.i64.wrap (s1 + 1))))))) else some true)
def m_l_eqValS (N : Nat) (p0 : (List TVal)) (p1 : (List TVal)) : Option (Bool) :=
  (if !decide ((p0.length : Int) = (p1.length : Int)) then some false else m_l_eqValS_l1 N p0 p1 N 0)
/-! laws.eqIntS -/
def m_l_eqIntS_l1 (N : Nat) (p0 : (List Int)) (p1 : (List Int)) : Nat → Int → Option (Bool)
  | 0, _ => none
  | k + 1, s1 =>
    (if decide (s1 < (p0.length : Int)) then ((idx p0 s1).bind fun x1 => ((idx p1 s1).bind fun x2 => (if !decide (x1 = x2) then some false else ((m_l_eqIntS_l1 N p0 p1 k) (IntKind.i64.wrap (s1 + 1)))))) else some true)
def m_l_eqIntS (N : Nat) (p0 : (List Int)) (p1 : (List Int)) : Option (Bool) :=
  (if !decide ((p0.length : Int) = (p1.length : Int)) then some false else m_l_eqIntS_l1 N p0 p1 N 0)
/-! laws.eqAlpha -/
def m_l_eqAlpha (N : Nat) (p0 : TAlpha) (p1 : TAlpha) : Option (Bool) :=
  (if !seq p0.Kind p1.Kind then some false else (if !decide (p0.N = p1.N) then some false else ((m_l_eqValS N p0.Consts p1.Consts).bind fun x1 => (if !x1 then some false else ((m_l_eqIntS N p0.At p1.At).bind fun x2 => (if !x2 then some false else some true))))))
/-! laws.eqAlphaS -/
def m_l_eqAlphaS_l1 (N : Nat) (p0 : (List TAlpha)) (p1 : (List TAlpha)) : Nat → Int → Option (Bool)
  | 0, _ => none
  | k + 1, s1 =>
    (if decide (s1 < (p0.length : Int)) then ((idx p0 s1).bind fun x1 => ((idx p1 s1).bind fun x2 => ((m_l_eqAlpha N x1 x2).bind fun x3 => (if !x3 then some false else ((m_l_eqAlphaS_l1 N p0 p1 k) (IntKind.i64.wrap (s1 + 1))))))) else some true)
def m_l_eqAlphaS (N : Nat) (p0 : (List TAlpha)) (p1 : (List TAlpha)) : Option (Bool) :=
  (if !decide ((p0.length : Int) = (p1.length : Int)) then some false else m_l_eqAlphaS_l1 N p0 p1 N 0)
/-! laws.eqChain -/
def m_l_eqChain (N : Nat) (p0 : TChain) (p1 : TChain) : Option (Bool) :=
  ((m_l_eqIntS N p0.Pos p1.Pos).bind fun x1 => (if !x1 then some false else ((m_l_eqIntS N p0.Neg p1.Neg).bind fun x2 => (if !x2 then some false else some true))))
/-! laws.eqChainS -/
def m_l_eqChainS_l1 (N : Nat) (p0 : (List TChain)) (p1 : (List TChain)) : Nat → Int → Option (Bool)
  | 0, _ => none
  | k + 1, s1 =>
    (if decide (s1 < (p0.length : Int)) then ((idx p0 s1).bind fun x1 => ((idx p1 s1).bind fun x2 => ((m_l_eqChain N x1 x2).bind fun x3 => (if !x3 then some false else ((m_l_eqChainS_l1 N p0 p1 k) (IntKind.i64.wrap (s1 + 1))))))) else some true)
def m_l_eqChainS (N : Nat) (p0 : (List TChain)) (p1 : (List TChain)) : Option (Bool) :=
  (if !decide ((p0.length : Int) = (p1.length : Int)) then some false else m_l_eqChainS_l1 N p0 p1 N 0)
/-! laws.eqNet -/
def m_l_eqNet (N : Nat) (p0 : TNet) (p1 : TNet) : Option (Bool) :=
  ((m_l_eqAlphaS N p0.Alphas p1.Alphas).bind fun x1 => (if !x1 then some false else ((m_l_eqChainS N p0.Chains p1.Chains).bind fun x2 => (if !x2 then some false else some true))))
/-! laws.eqArg -/
def m_l_eqArg (N : Nat) (p0 : TArg) (p1 : TArg) : Option (Bool) :=
  (if !decide (p0.K = p1.K) then some false else (if !seq p0.S p1.S then some false else ((m_l_eqVal N p0.V p1.V).bind fun x1 => (if !x1 then some false else some true))))
/-! laws.eqArgS -/
def m_l_eqArgS_l1 (N : Nat) (p0 : (List TArg)) (p1 : (List TArg)) : Nat → Int → Option (Bool)
  | 0, _ => none
  | k + 1, s1 =>
    (if decide (s1 < (p0.length : Int)) then ((idx p0 s1).bind fun x1 => ((idx p1 s1).bind fun x2 => ((m_l_eqArg N x1 x2).bind fun x3 => (if !x3 then some false else ((m_l_eqArgS_l1 N p0 p1 k) (IntKind.i64.wrap (s1 + 1))))))) else some true)
def m_l_eqArgS (N : Nat) (p0 : (List TArg)) (p1 : (List TArg)) : Option (Bool) :=
  (if !decide ((p0.length : Int) = (p1.length : Int)) then some false else m_l_eqArgS_l1 N p0 p1 N 0)
/-! laws.eqPat -/
def m_l_eqPat (N : Nat) (p0 : TPat) (p1 : TPat) : Option (Bool) :=
  (if !seq p0.Kind p1.Kind then some false else ((m_l_eqArgS N p0.Args p1.Args).bind fun x1 => (if !x1 then some false else (if (p0.Not != p1.Not) then some false else some true))))
/-! laws.eqPatS -/
def m_l_eqPatS_l1 (N : Nat) (p0 : (List TPat)) (p1 : (List TPat)) : Nat → Int → Option (Bool)
  | 0, _ => none
  | k + 1, s1 =>
    (if decide (s1 < (p0.length : Int)) then ((idx p0 s1).bind fun x1 => ((idx p1 s1).bind fun x2 => ((m_l_eqPat N x1 x2).bind fun x3 => (if !x3 then some false else ((m_l_eqPatS_l1 N p0 p1 k) (IntKind.i64.wrap (s1 + 1))))))) else some true)
def m_l_eqPatS (N : Nat) (p0 : (List TPat)) (p1 : (List TPat)) : Option (Bool) :=
  (if !decide ((p0.length : Int) = (p1.length : Int)) then some false else m_l_eqPatS_l1 N p0 p1 N 0)
/-! laws.eqCond -/
def m_l_eqCond (N : Nat) (p0 : TCond) (p1 : TCond) : Option (Bool) :=
  (if !decide (p0.Op = p1.Op) then some false else ((m_l_eqArg N p0.L p1.L).bind fun x1 => (if !x1 then some false else ((m_l_eqArg N p0.R p1.R).bind fun x2 => (if !x2 then some false else some true)))))
/-! laws.eqCondS -/
def m_l_eqCondS_l1 (N : Nat) (p0 : (List TCond)) (p1 : (List TCond)) : Nat → Int → Option (Bool)
  | 0, _ => none
  | k + 1, s1 =>
    (if decide (s1 < (p0.length : Int)) then ((idx p0 s1).bind fun x1 => ((idx p1 s1).bind fun x2 => ((m_l_eqCond N x1 x2).bind fun x3 => (if !x3 then some false else ((m_l_eqCondS_l1 N p0 p1 k) (IntKind.i64.wrap (s1 + 1))))))) else some true)
def m_l_eqCondS (N : Nat) (p0 : (List TCond)) (p1 : (List TCond)) : Option (Bool) :=
  (if !decide ((p0.length : Int) = (p1.length : Int)) then some false else m_l_eqCondS_l1 N p0 p1 N 0)
/-! laws.eqExpr -/
def m_l_eqExpr (N : Nat) (p0 : TExpr) (p1 : TExpr) : Option (Bool) :=
  (if !seq p0.Op p1.Op then some false else ((m_l_eqArg N p0.L p1.L).bind fun x1 => (if !x1 then some false else ((m_l_eqArg N p0.R p1.R).bind fun x2 => (if !x2 then some false else some true)))))
/-! laws.eqExprS -/
def m_l_eqExprS_l1 (N : Nat) (p0 : (List TExpr)) (p1 : (List TExpr)) : Nat → Int → Option (Bool)
  | 0, _ => none
  | k + 1, s1 =>
    (if decide (s1 < (p0.length : Int)) then ((idx p0 s1).bind fun x1 => ((idx p1 s1).bind fun x2 => ((m_l_eqExpr N x1 x2).bind fun x3 => (if !x3 then some false else ((m_l_eqExprS_l1 N p0 p1 k) (IntKind.i64.wrap (s1 + 1))))))) else some true)
def m_l_eqExprS (N : Nat) (p0 : (List TExpr)) (p1 : (List TExpr)) : Option (Bool) :=
  (if !decide ((p0.length : Int) = (p1.length : Int)) then some false else m_l_eqExprS_l1 N p0 p1 N 0)
/-! laws.eqAct -/
def m_l_eqAct (N : Nat) (p0 : TAct) (p1 : TAct) : Option (Bool) :=
  (if !decide (p0.Kind = p1.Kind) then some false else (if !seq p0.Name p1.Name then some false else ((m_l_eqExprS N p0.Args p1.Args).bind fun x1 => (if !x1 then some false else (if !decide (p0.N = p1.N) then some false else (if !seq p0.Undo p1.Undo then some false else some true))))))
/-! laws.eqActS -/
def m_l_eqActS_l1 (N : Nat) (p0 : (List TAct)) (p1 : (List TAct)) : Nat → Int → Option (Bool)
  | 0, _ => none
  | k + 1, s1 =>
    (if decide (s1 < (p0.length : Int)) then ((idx p0 s1).bind fun x1 => ((idx p1 s1).bind fun x2 => ((m_l_eqAct N x1 x2).bind fun x3 => (if !x3 then some false else ((m_l_eqActS_l1 N p0 p1 k) (IntKind.i64.wrap (s1 + 1))))))) else some true)
def m_l_eqActS (N : Nat) (p0 : (List TAct)) (p1 : (List TAct)) : Option (Bool) :=
  (if !decide ((p0.length : Int) = (p1.length : Int)) then some false else m_l_eqActS_l1 N p0 p1 N 0)
/-! laws.eqRule -/
def m_l_eqRule (N : Nat) (p0 : TRule) (p1 : TRule) : Option (Bool) :=
  (if !seq p0.Name p1.Name then some false else (if !decide (p0.Sal = p1.Sal) then some false else ((m_l_eqPatS N p0.Pats p1.Pats).bind fun x1 => (if !x1 then some false else ((m_l_eqCondS N p0.Conds p1.Conds).bind fun x2 => (if !x2 then some false else ((m_l_eqActS N p0.Acts p1.Acts).bind fun x3 => (if !x3 then some false else some true))))))))
/-! laws.eqRuleS -/
def m_l_eqRuleS_l1 (N : Nat) (p0 : (List TRule)) (p1 : (List TRule)) : Nat → Int → Option (Bool)
  | 0, _ => none
  | k + 1, s1 =>
    (if decide (s1 < (p0.length : Int)) then ((idx p0 s1).bind fun x1 => ((idx p1 s1).bind fun x2 => ((m_l_eqRule N x1 x2).bind fun x3 => (if !x3 then some false else ((m_l_eqRuleS_l1 N p0 p1 k) (IntKind.i64.wrap (s1 + 1))))))) else some true)
def m_l_eqRuleS (N : Nat) (p0 : (List TRule)) (p1 : (List TRule)) : Option (Bool) :=
  (if !decide ((p0.length : Int) = (p1.length : Int)) then some false else m_l_eqRuleS_l1 N p0 p1 N 0)
/-! laws.eqDef -/
def m_l_eqDef (N : Nat) (p0 : TDef) (p1 : TDef) : Option (Bool) :=
  (if !seq p0.Name p1.Name then some false else ((m_l_eqRuleS N p0.Rules p1.Rules).bind fun x1 => (if !x1 then some false else some true)))
/-! spec.l1In -/
def m_s_l1In (N : Nat) (p0 : Int) (p1 : Int) (p2 : Int) : Option (Bool) :=
  ((if decide (p1 ≤ p0) then some (decide (p0 ≤ p2)) else some false).bind fun b1 => some b1)
/-! spec.l1Letter -/
def m_s_l1Letter (N : Nat) (p0 : Int) : Option (Bool) :=
  ((m_s_l1In N (IntKind.i64.wrap p0) 97 122).bind fun x1 => ((if x1 then some true else ((m_s_l1In N (IntKind.i64.wrap p0) 48 57).bind fun x2 => some x2)).bind fun b1 => ((if b1 then some true else some (decide (p0 = 95))).bind fun b2 => some b2)))
/-! spec.NameOk -/
def m_s_NameOk_l1 (N : Nat) (p0 : ByteArray) : Nat → Int → Option (Bool)
  | 0, _ => none
  | k + 1, s1 =>
    (if decide (s1 < (p0.size : Int)) then ((idx p0.data.toList s1).bind fun y1 => ((m_s_l1Letter N (y1.toNat : Int)).bind fun x1 => ((if !x1 then some true else ((if decide (s1 = 0) then ((idx p0.data.toList s1).bind fun y2 => ((m_s_l1In N (IntKind.i64.wrap (y2.toNat : Int)) 97 122).bind fun x2 => some (!x2))) else some false).bind fun b2 => some b2)).bind fun b1 => (if b1 then some false else ((m_s_NameOk_l1 N p0 k) (IntKind.i64.wrap (s1 + 1))))))) else ((m_s_l1In N (p0.size : Int) 1 12).bind fun x3 => some x3))
def m_s_NameOk (N : Nat) (p0 : ByteArray) : Option (Bool) :=
  m_s_NameOk_l1 N p0 N 0
/-! spec.l6Has -/
def m_s_l6Has_l1 (N : Nat) (p0 : (List ByteArray)) (p1 : ByteArray) : Nat → Int → Option (Bool)
  | 0, _ => none
  | k + 1, s1 =>
    (if decide (s1 < (p0.length : Int)) then ((idx p0 s1).bind fun x1 => (if seq x1 p1 then some true else ((m_s_l6Has_l1 N p0 p1 k) (IntKind.i64.wrap (s1 + 1))))) else some false)
def m_s_l6Has (N : Nat) (p0 : (List ByteArray)) (p1 : ByteArray) : Option (Bool) :=
  m_s_l6Has_l1 N p0 p1 N 0
/-! spec.VarsOf -/
def m_s_VarsOf_l1 (N : Nat) (p0 : TPat) : Nat → (List ByteArray) → Int → Option ((List ByteArray))
  | 0, _, _ => none
  | k + 1, s1, s2 =>
    (if decide (s2 < (p0.Args.length : Int)) then ((idx p0.Args s2).bind fun x1 => ((if decide (x1.K = 1) then ((idx p0.Args s2).bind fun x2 => ((m_s_l6Has N s1 x2.S).bind fun x3 => some (!x3))) else some false).bind fun b1 => (if b1 then ((idx p0.Args s2).bind fun x4 => ((app s1 ([x4.S] : List ByteArray)).bind fun x5 => ((m_s_VarsOf_l1 N p0 k) x5 (IntKind.i64.wrap (s2 + 1))))) else ((m_s_VarsOf_l1 N p0 k) s1 (IntKind.i64.wrap (s2 + 1)))))) else some s1)
def m_s_VarsOf (N : Nat) (p0 : TPat) : Option ((List ByteArray)) :=
  m_s_VarsOf_l1 N p0 N ([] : List ByteArray) 0
/-! spec.PosVars -/
def m_s_PosVars_l2 (N : Nat) (p0 : TRule) (s2 : Int) (K1 : (List ByteArray) → Int → Option ((List ByteArray))) (x2 : (List ByteArray)) : Nat → (List ByteArray) → Int → Option ((List ByteArray))
  | 0, _, _ => none
  | k + 1, s3, s4 =>
    ((if decide (s4 < (x2.length : Int)) then ((idx p0.Pats s2).bind fun x3 => some (!x3.Not)) else some false).bind fun b1 => (if b1 then ((idx x2 s4).bind fun x4 => ((m_s_l6Has N s3 x4).bind fun x5 => (if !x5 then ((idx x2 s4).bind fun x6 => ((app s3 ([x6] : List ByteArray)).bind fun x7 => ((m_s_PosVars_l2 N p0 s2 K1 x2 k) x7 (IntKind.i64.wrap (s4 + 1))))) else ((m_s_PosVars_l2 N p0 s2 K1 x2 k) s3 (IntKind.i64.wrap (s4 + 1)))))) else (K1 s3 (IntKind.i64.wrap (s2 + 1)))))
def m_s_PosVars_l1 (N : Nat) (p0 : TRule) : Nat → (List ByteArray) → Int → Option ((List ByteArray))
  | 0, _, _ => none
  | k + 1, s1, s2 =>
    (if decide (s2 < (p0.Pats.length : Int)) then ((idx p0.Pats s2).bind fun x1 => ((m_s_VarsOf N x1).bind fun x2 => m_s_PosVars_l2 N p0 s2 (m_s_PosVars_l1 N p0 k) x2 N s1 0)) else some s1)
def m_s_PosVars (N : Nat) (p0 : TRule) : Option ((List ByteArray)) :=
  m_s_PosVars_l1 N p0 N ([] : List ByteArray) 0
/-! spec.PosCount -/
def m_s_PosCount_l1 (N : Nat) (p0 : TRule) : Nat → Int → Int → Option (Int)
  | 0, _, _ => none
  | k + 1, s1, s2 =>
    (if decide (s2 < (p0.Pats.length : Int)) then ((idx p0.Pats s2).bind fun x1 => (if !x1.Not then ((m_s_PosCount_l1 N p0 k) (IntKind.i64.wrap (s1 + 1)) (IntKind.i64.wrap (s2 + 1))) else ((m_s_PosCount_l1 N p0 k) s1 (IntKind.i64.wrap (s2 + 1))))) else some s1)
def m_s_PosCount (N : Nat) (p0 : TRule) : Option (Int) :=
  m_s_PosCount_l1 N p0 N 0 0
/-! spec.l2Plain -/
def m_s_l2Plain_l1 (N : Nat) (p0 : ByteArray) : Nat → Int → Option (Bool)
  | 0, _ => none
  | k + 1, s1 =>
    (if decide (s1 < (p0.size : Int)) then ((idx p0.data.toList s1).bind fun y1 => ((m_s_l1Letter N (y1.toNat : Int)).bind fun x1 => (if !x1 then some false else ((m_s_l2Plain_l1 N p0 k) (IntKind.i64.wrap (s1 + 1)))))) else some (decide ((p0.size : Int) ≤ 20)))
def m_s_l2Plain (N : Nat) (p0 : ByteArray) : Option (Bool) :=
  m_s_l2Plain_l1 N p0 N 0
/-! spec.ValOk -/
def m_s_ValOk (N : Nat) (p0 : TVal) : Option (Bool) :=
  (if decide (p0.K = 1) then ((m_s_l1In N p0.N (-1000000000) 1000000000).bind fun x1 => ((if x1 then some (seq p0.S (⟨#[]⟩ : ByteArray)) else some false).bind fun b1 => some b1)) else (if decide (p0.K = 2) then ((m_s_l2Plain N p0.S).bind fun x2 => ((if x2 then some (decide (p0.N = 0)) else some false).bind fun b2 => some b2)) else some false))
/-! spec.l5Large -/
def m_s_l5Large (N : Nat) (p0 : Int) : Option (Bool) :=
  ((m_s_l1In N (IntKind.i64.wrap p0) 65 90).bind fun x1 => some x1)
/-! spec.l5VarOk -/
def m_s_l5VarOk_l1 (N : Nat) (p0 : ByteArray) : Nat → Int → Option (Bool)
  | 0, _ => none
  | k + 1, s1 =>
    (if decide (s1 < (p0.size : Int)) then ((idx p0.data.toList s1).bind fun y1 => ((m_s_l5Large N (y1.toNat : Int)).bind fun x1 => ((if !x1 then ((if decide (s1 = 0) then some true else ((idx p0.data.toList s1).bind fun y2 => ((m_s_l1Letter N (y2.toNat : Int)).bind fun x2 => some (!x2)))).bind fun b2 => some b2) else some false).bind fun b1 => (if b1 then some false else ((m_s_l5VarOk_l1 N p0 k) (IntKind.i64.wrap (s1 + 1))))))) else ((m_s_l1In N (p0.size : Int) 1 12).bind fun x3 => some x3))
def m_s_l5VarOk (N : Nat) (p0 : ByteArray) : Option (Bool) :=
  m_s_l5VarOk_l1 N p0 N 0
/-! spec.ArgOk -/
def m_s_ArgOk (N : Nat) (p0 : TArg) : Option (Bool) :=
  (if decide (p0.K = 1) then ((m_s_l5VarOk N p0.S).bind fun x1 => ((if x1 then some (eqT_TVal p0.V (⟨0, 0, (⟨#[]⟩ : ByteArray)⟩ : TVal)) else some false).bind fun b1 => some b1)) else (if decide (p0.K = 2) then ((m_s_ValOk N p0.V).bind fun x2 => ((if x2 then some (seq p0.S (⟨#[]⟩ : ByteArray)) else some false).bind fun b2 => some b2)) else (if decide (p0.K = 3) then ((if seq p0.S (⟨#[]⟩ : ByteArray) then some (eqT_TVal p0.V (⟨0, 0, (⟨#[]⟩ : ByteArray)⟩ : TVal)) else some false).bind fun b3 => some b3) else some false)))
/-! spec.PatOk -/
def m_s_PatOk_l1 (N : Nat) (p0 : TPat) : Nat → Int → Option (Bool)
  | 0, _ => none
  | k + 1, s1 =>
    (if decide (s1 < (p0.Args.length : Int)) then ((idx p0.Args s1).bind fun x1 => ((m_s_ArgOk N x1).bind fun x2 => (if !x2 then some false else ((m_s_PatOk_l1 N p0 k) (IntKind.i64.wrap (s1 + 1)))))) else ((m_s_NameOk N p0.Kind).bind fun x3 => ((if x3 then some (decide ((p0.Args.length : Int) ≤ 5)) else some false).bind fun b1 => some b1)))
def m_s_PatOk (N : Nat) (p0 : TPat) : Option (Bool) :=
  m_s_PatOk_l1 N p0 N 0
/-! spec.l9Pats -/
def m_s_l9Pats_l1 (N : Nat) (p0 : (List TPat)) : Nat → Int → Option (Bool)
  | 0, _ => none
  | k + 1, s1 =>
    (if decide (s1 < (p0.length : Int)) then ((if decide (2 < s1) then ((idx p0 s1).bind fun x1 => some (!x1.Not)) else some false).bind fun b1 => (if b1 then some false else ((idx p0 s1).bind fun x2 => ((m_s_PatOk N x2).bind fun x3 => ((if !x3 then some true else ((if decide (s1 = 0) then ((idx p0 s1).bind fun x4 => some x4.Not) else some false).bind fun b3 => some b3)).bind fun b2 => ((if b2 then some true else ((if decide (0 < s1) then ((idx p0 (IntKind.i64.wrap (s1 - 1))).bind fun x5 => some x5.Not) else some false).bind fun b5 => ((if b5 then ((idx p0 s1).bind fun x6 => some (!x6.Not)) else some false).bind fun b6 => some b6))).bind fun b4 => (if b4 then some false else ((m_s_l9Pats_l1 N p0 k) (IntKind.i64.wrap (s1 + 1)))))))))) else ((m_s_l1In N (p0.length : Int) 1 6).bind fun x7 => some x7))
def m_s_l9Pats (N : Nat) (p0 : (List TPat)) : Option (Bool) :=
  m_s_l9Pats_l1 N p0 N 0
/-! spec.l9Known -/
def m_s_l9Known (N : Nat) (p0 : TArg) (p1 : (List ByteArray)) : Option (Bool) :=
  ((if !decide (p0.K = 1) then some true else ((m_s_l6Has N p1 p0.S).bind fun x1 => some x1)).bind fun b1 => some b1)
/-! spec.CondOk -/
def m_s_CondOk (N : Nat) (p0 : TCond) : Option (Bool) :=
  ((m_s_l1In N p0.Op 1 3).bind fun x1 => ((if x1 then ((m_s_ArgOk N p0.L).bind fun x2 => some x2) else some false).bind fun b1 => ((if b1 then ((m_s_ArgOk N p0.R).bind fun x3 => some x3) else some false).bind fun b2 => ((if b2 then some (!decide (p0.L.K = 3)) else some false).bind fun b3 => ((if b3 then some (!decide (p0.R.K = 3)) else some false).bind fun b4 => some b4)))))
/-! spec.l9Conds -/
def m_s_l9Conds_l1 (N : Nat) (p0 : (List TCond)) (p1 : (List ByteArray)) : Nat → Int → Option (Bool)
  | 0, _ => none
  | k + 1, s1 =>
    (if decide (s1 < (p0.length : Int)) then ((idx p0 s1).bind fun x1 => ((m_s_CondOk N x1).bind fun x2 => ((if !x2 then some true else ((idx p0 s1).bind fun x3 => ((m_s_l9Known N x3.L p1).bind fun x4 => some (!x4)))).bind fun b1 => ((if b1 then some true else ((idx p0 s1).bind fun x5 => ((m_s_l9Known N x5.R p1).bind fun x6 => some (!x6)))).bind fun b2 => (if b2 then some false else ((m_s_l9Conds_l1 N p0 p1 k) (IntKind.i64.wrap (s1 + 1)))))))) else some (decide ((p0.length : Int) ≤ 6)))
def m_s_l9Conds (N : Nat) (p0 : (List TCond)) (p1 : (List ByteArray)) : Option (Bool) :=
  m_s_l9Conds_l1 N p0 p1 N 0
/-! spec.l8Given -/
def m_s_l8Given (N : Nat) (p0 : TArg) : Option (Bool) :=
  ((m_s_ArgOk N p0).bind fun x1 => ((if x1 then some (!decide (p0.K = 3)) else some false).bind fun b1 => some b1))
/-! spec.ExprOk -/
def m_s_ExprOk_j1 (N : Nat) (p0 : TExpr) (s1 : Bool) : Option (Bool) :=
  (if s1 then ((m_s_l8Given N p0.L).bind fun x2 => ((if x2 then ((m_s_l8Given N p0.R).bind fun x3 => some x3) else some false).bind fun b2 => some b2)) else some false)
def m_s_ExprOk (N : Nat) (p0 : TExpr) : Option (Bool) :=
  (if seq p0.Op (⟨#[]⟩ : ByteArray) then ((m_s_l8Given N p0.L).bind fun x1 => ((if x1 then some (eqT_TArg p0.R (⟨0, (⟨#[]⟩ : ByteArray), (⟨0, 0, (⟨#[]⟩ : ByteArray)⟩ : TVal)⟩ : TArg)) else some false).bind fun b1 => some b1)) else (if seq p0.Op (⟨#[43]⟩ : ByteArray) then m_s_ExprOk_j1 N p0 (seq p0.Op (⟨#[43]⟩ : ByteArray)) else m_s_ExprOk_j1 N p0 (seq p0.Op (⟨#[45]⟩ : ByteArray))))
/-! spec.l8Args -/
def m_s_l8Args_l1 (N : Nat) (p0 : (List TExpr)) : Nat → Int → Option (Bool)
  | 0, _ => none
  | k + 1, s1 =>
    (if decide (s1 < (p0.length : Int)) then ((idx p0 s1).bind fun x1 => ((m_s_ExprOk N x1).bind fun x2 => (if !x2 then some false else ((m_s_l8Args_l1 N p0 k) (IntKind.i64.wrap (s1 + 1)))))) else some (decide ((p0.length : Int) ≤ 5)))
def m_s_l8Args (N : Nat) (p0 : (List TExpr)) : Option (Bool) :=
  m_s_l8Args_l1 N p0 N 0
/-! spec.ActOk -/
def m_s_ActOk_j1 (N : Nat) (p0 : TAct) (b2 : Bool) (s1 : Bool) : Option (Bool) :=
  (if s1 then ((if b2 then some (decide (p0.N = 0)) else some false).bind fun b14 => some b14) else some false)
def m_s_ActOk (N : Nat) (p0 : TAct) : Option (Bool) :=
  ((if seq p0.Name (⟨#[]⟩ : ByteArray) then some (decide ((p0.Args.length : Int) = 0)) else some false).bind fun b1 => ((if b1 then some (seq p0.Undo (⟨#[]⟩ : ByteArray)) else some false).bind fun b2 => (if decide (p0.Kind = 1) then ((m_s_NameOk N p0.Name).bind fun x1 => ((if x1 then ((m_s_l8Args N p0.Args).bind fun x2 => some x2) else some false).bind fun b3 => ((if b3 then some (decide (p0.N = 0)) else some false).bind fun b4 => ((if b4 then some (seq p0.Undo (⟨#[]⟩ : ByteArray)) else some false).bind fun b5 => some b5)))) else (if decide (p0.Kind = 3) then ((m_s_NameOk N p0.Name).bind fun x3 => ((if x3 then ((m_s_l8Args N p0.Args).bind fun x4 => some x4) else some false).bind fun b6 => ((if b6 then some (decide (p0.N = 0)) else some false).bind fun b7 => ((if b7 then ((if seq p0.Undo (⟨#[]⟩ : ByteArray) then some true else ((m_s_NameOk N p0.Undo).bind fun x5 => some x5)).bind fun b9 => some b9) else some false).bind fun b8 => some b8)))) else (if decide (p0.Kind = 4) then ((m_s_NameOk N p0.Name).bind fun x6 => ((if x6 then ((m_s_l8Args N p0.Args).bind fun x7 => some x7) else some false).bind fun b10 => ((if b10 then ((m_s_l1In N p0.N 0 100000).bind fun x8 => some x8) else some false).bind fun b11 => ((if b11 then some (seq p0.Undo (⟨#[]⟩ : ByteArray)) else some false).bind fun b12 => some b12)))) else (if decide (p0.Kind = 2) then ((if b2 then ((m_s_l1In N p0.N 0 7).bind fun x9 => some x9) else some false).bind fun b13 => some b13) else (if decide (p0.Kind = 5) then m_s_ActOk_j1 N p0 b2 (decide (p0.Kind = 5)) else m_s_ActOk_j1 N p0 b2 (decide (p0.Kind = 6)))))))))
/-! spec.l9Acts -/
def m_s_l9Acts_l2 (N : Nat) (p0 : (List TAct)) (p1 : (List ByteArray)) (s1 : Int) (K1 : Int → Option (Bool)) : Nat → Int → Option (Bool)
  | 0, _ => none
  | k + 1, s2 =>
    ((idx p0 s1).bind fun x5 => (if decide (s2 < (x5.Args.length : Int)) then ((idx p0 s1).bind fun x6 => ((idx x6.Args s2).bind fun x7 => ((m_s_l9Known N x7.L p1).bind fun x8 => ((if !x8 then some true else ((idx p0 s1).bind fun x9 => ((idx x9.Args s2).bind fun x10 => ((m_s_l9Known N x10.R p1).bind fun x11 => some (!x11))))).bind fun b3 => (if b3 then some false else ((m_s_l9Acts_l2 N p0 p1 s1 K1 k) (IntKind.i64.wrap (s2 + 1)))))))) else (K1 (IntKind.i64.wrap (s1 + 1)))))
def m_s_l9Acts_l1 (N : Nat) (p0 : (List TAct)) (p1 : (List ByteArray)) (p2 : Int) : Nat → Int → Option (Bool)
  | 0, _ => none
  | k + 1, s1 =>
    (if decide (s1 < (p0.length : Int)) then ((idx p0 s1).bind fun x1 => ((m_s_ActOk N x1).bind fun x2 => ((if !x2 then some true else ((idx p0 s1).bind fun x3 => ((if decide (x3.Kind = 2) then ((idx p0 s1).bind fun x4 => some (decide (p2 ≤ x4.N))) else some false).bind fun b2 => some b2))).bind fun b1 => (if b1 then some false else m_s_l9Acts_l2 N p0 p1 s1 (m_s_l9Acts_l1 N p0 p1 p2 k) N 0)))) else ((m_s_l1In N (p0.length : Int) 1 6).bind fun x12 => some x12))
def m_s_l9Acts (N : Nat) (p0 : (List TAct)) (p1 : (List ByteArray)) (p2 : Int) : Option (Bool) :=
  m_s_l9Acts_l1 N p0 p1 p2 N 0
/-! spec.RuleOk -/
def m_s_RuleOk (N : Nat) (p0 : TRule) : Option (Bool) :=
  ((m_s_PosVars N p0).bind fun x1 => ((m_s_NameOk N p0.Name).bind fun x2 => ((if x2 then ((m_s_l1In N p0.Sal (-100) 100).bind fun x3 => some x3) else some false).bind fun b1 => ((if b1 then ((m_s_l9Pats N p0.Pats).bind fun x4 => some x4) else some false).bind fun b2 => ((if b2 then ((m_s_l9Conds N p0.Conds x1).bind fun x5 => some x5) else some false).bind fun b3 => ((if b3 then ((m_s_PosCount N p0).bind fun x6 => ((m_s_l9Acts N p0.Acts x1 x6).bind fun x7 => some x7)) else some false).bind fun b4 => some b4))))))
/-! spec.RuleAt -/
def m_s_RuleAt_l1 (N : Nat) (p0 : TDef) (p1 : ByteArray) : Nat → Int → Option (Int)
  | 0, _ => none
  | k + 1, s1 =>
    (if decide (s1 < (p0.Rules.length : Int)) then ((idx p0.Rules s1).bind fun x1 => (if seq x1.Name p1 then some s1 else ((m_s_RuleAt_l1 N p0 p1 k) (IntKind.i64.wrap (s1 + 1))))) else some (-1))
def m_s_RuleAt (N : Nat) (p0 : TDef) (p1 : ByteArray) : Option (Int) :=
  m_s_RuleAt_l1 N p0 p1 N 0
/-! spec.DefOk -/
def m_s_DefOk_l1 (N : Nat) (p0 : TDef) : Nat → Int → Option (Bool)
  | 0, _ => none
  | k + 1, s1 =>
    (if decide (s1 < (p0.Rules.length : Int)) then ((idx p0.Rules s1).bind fun x1 => ((m_s_RuleOk N x1).bind fun x2 => ((if !x2 then some true else ((idx p0.Rules s1).bind fun x3 => ((m_s_RuleAt N p0 x3.Name).bind fun x4 => some (!decide (x4 = s1))))).bind fun b1 => (if b1 then some false else ((m_s_DefOk_l1 N p0 k) (IntKind.i64.wrap (s1 + 1))))))) else ((m_s_NameOk N p0.Name).bind fun x5 => ((if x5 then ((m_s_l1In N (p0.Rules.length : Int) 1 12).bind fun x6 => some x6) else some false).bind fun b2 => some b2)))
def m_s_DefOk (N : Nat) (p0 : TDef) : Option (Bool) :=
  m_s_DefOk_l1 N p0 N 0
/-! spec.l11Same -/
def m_s_l11Same_l1 (N : Nat) (p0 : (List Int)) (p1 : (List Int)) : Nat → Int → Option (Bool)
  | 0, _ => none
  | k + 1, s1 =>
    (if decide (s1 < (p0.length : Int)) then ((idx p0 s1).bind fun x1 => ((idx p1 s1).bind fun x2 => (if !decide (x1 = x2) then some false else ((m_s_l11Same_l1 N p0 p1 k) (IntKind.i64.wrap (s1 + 1)))))) else some true)
def m_s_l11Same (N : Nat) (p0 : (List Int)) (p1 : (List Int)) : Option (Bool) :=
  (if !decide ((p0.length : Int) = (p1.length : Int)) then some false else m_s_l11Same_l1 N p0 p1 N 0)
/-! spec.l3SameVals -/
def m_s_l3SameVals_l1 (N : Nat) (p0 : (List TVal)) (p1 : (List TVal)) : Nat → Int → Option (Bool)
  | 0, _ => none
  | k + 1, s1 =>
    (if decide (s1 < (p0.length : Int)) then ((idx p0 s1).bind fun x1 => ((idx p1 s1).bind fun x2 => (if !(eqT_TVal x1 x2) then some false else ((m_s_l3SameVals_l1 N p0 p1 k) (IntKind.i64.wrap (s1 + 1)))))) else some true)
def m_s_l3SameVals (N : Nat) (p0 : (List TVal)) (p1 : (List TVal)) : Option (Bool) :=
  (if !decide ((p0.length : Int) = (p1.length : Int)) then some false else m_s_l3SameVals_l1 N p0 p1 N 0)
/-! spec.SameAlpha -/
def m_s_SameAlpha (N : Nat) (p0 : TAlpha) (p1 : TAlpha) : Option (Bool) :=
  ((if seq p0.Kind p1.Kind then some (decide (p0.N = p1.N)) else some false).bind fun b1 => ((if b1 then ((m_s_l11Same N p0.At p1.At).bind fun x1 => some x1) else some false).bind fun b2 => ((if b2 then ((m_s_l3SameVals N p0.Consts p1.Consts).bind fun x2 => some x2) else some false).bind fun b3 => some b3)))
/-! spec.l12Find -/
def m_s_l12Find_l1 (N : Nat) (p0 : TNet) (p1 : TAlpha) : Nat → Int → Option (Int × TNet)
  | 0, _ => none
  | k + 1, s1 =>
    (if decide (s1 < (p0.Alphas.length : Int)) then ((idx p0.Alphas s1).bind fun x1 => ((m_s_SameAlpha N x1 p1).bind fun x2 => (if x2 then some (s1, p0) else ((m_s_l12Find_l1 N p0 p1 k) (IntKind.i64.wrap (s1 + 1)))))) else ((app p0.Alphas ([p1] : List TAlpha)).bind fun x3 => some (IntKind.i64.wrap ((x3.length : Int) - 1), (⟨x3, p0.Chains⟩ : TNet))))
def m_s_l12Find (N : Nat) (p0 : TNet) (p1 : TAlpha) : Option (Int × TNet) :=
  m_s_l12Find_l1 N p0 p1 N 0
/-! spec.AlphaOf -/
def m_s_AlphaOf_l1 (N : Nat) (p0 : TPat) : Nat → (List TVal) → (List Int) → Int → Option (TAlpha)
  | 0, _, _, _ => none
  | k + 1, s1, s2, s3 =>
    (if decide (s3 < (p0.Args.length : Int)) then ((idx p0.Args s3).bind fun x1 => (if decide (x1.K = 2) then ((idx p0.Args s3).bind fun x2 => ((app s1 ([x2.V] : List TVal)).bind fun x3 => ((app s2 ([s3] : List Int)).bind fun x4 => ((m_s_AlphaOf_l1 N p0 k) x3 x4 (IntKind.i64.wrap (s3 + 1)))))) else ((m_s_AlphaOf_l1 N p0 k) s1 s2 (IntKind.i64.wrap (s3 + 1))))) else some (⟨p0.Kind, (p0.Args.length : Int), s1, s2⟩ : TAlpha))
def m_s_AlphaOf (N : Nat) (p0 : TPat) : Option (TAlpha) :=
  m_s_AlphaOf_l1 N p0 N ([] : List TVal) ([] : List Int) 0
/-! spec.l12Net -/
def m_s_l12Net_l2 (N : Nat) (p0 : TDef) (s2 : (List TChain)) (s3 : Int) (K1 : (List TAlpha) → (List TChain) → Int → Option (TNet)) : Nat → (List TAlpha) → (List Int) → (List Int) → Int → Option (TNet)
  | 0, _, _, _, _ => none
  | k + 1, s4, s5, s6, s7 =>
    ((idx p0.Rules s3).bind fun x1 => (if decide (s7 < (x1.Pats.length : Int)) then ((idx p0.Rules s3).bind fun x2 => ((idx x2.Pats s7).bind fun x3 => ((m_s_AlphaOf N x3).bind fun x4 => ((m_s_l12Find N (⟨s4, s2⟩ : TNet) x4).bind fun x5 => (if x3.Not then ((app s5 ([x5.1] : List Int)).bind fun x6 => ((m_s_l12Net_l2 N p0 s2 s3 K1 k) x5.2.Alphas x6 s6 (IntKind.i64.wrap (s7 + 1)))) else ((app s6 ([x5.1] : List Int)).bind fun x7 => ((m_s_l12Net_l2 N p0 s2 s3 K1 k) x5.2.Alphas s5 x7 (IntKind.i64.wrap (s7 + 1))))))))) else ((app s2 ([(⟨s6, s5⟩ : TChain)] : List TChain)).bind fun x8 => (K1 s4 x8 (IntKind.i64.wrap (s3 + 1))))))
def m_s_l12Net_l1 (N : Nat) (p0 : TDef) : Nat → (List TAlpha) → (List TChain) → Int → Option (TNet)
  | 0, _, _, _ => none
  | k + 1, s1, s2, s3 =>
    (if decide (s3 < (p0.Rules.length : Int)) then m_s_l12Net_l2 N p0 s2 s3 (m_s_l12Net_l1 N p0 k) N s1 ([] : List Int) ([] : List Int) 0 else some (⟨s1, s2⟩ : TNet))
def m_s_l12Net (N : Nat) (p0 : TDef) : Option (TNet) :=
  m_s_l12Net_l1 N p0 N ([] : List TAlpha) ([] : List TChain) 0
/-! spec.NetOf -/
def m_s_NetOf (N : Nat) (p0 : TDef) : Option (TNet) :=
  ((m_s_DefOk N p0).bind fun x1 => (if !x1 then some (⟨[], []⟩ : TNet) else ((m_s_l12Net N p0).bind fun x2 => some x2)))
/-! impl.PosCount -/
def m_i_PosCount_l1 (N : Nat) (p0 : TRule) : Nat → Int → Int → Option (Int)
  | 0, _, _ => none
  | k + 1, s1, s2 =>
    (if decide (s2 < (p0.Pats.length : Int)) then ((idx p0.Pats s2).bind fun x1 => (if !x1.Not then ((m_i_PosCount_l1 N p0 k) (IntKind.i64.wrap (s1 + 1)) (IntKind.i64.wrap (s2 + 1))) else ((m_i_PosCount_l1 N p0 k) s1 (IntKind.i64.wrap (s2 + 1))))) else some s1)
def m_i_PosCount (N : Nat) (p0 : TRule) : Option (Int) :=
  m_i_PosCount_l1 N p0 N 0 0
/-! impl.isSmall -/
def m_i_isSmall (N : Nat) (p0 : Int) : Option (Bool) :=
  ((if decide (97 ≤ p0) then some (decide (p0 ≤ 122)) else some false).bind fun b1 => some b1)
/-! impl.isDigit -/
def m_i_isDigit (N : Nat) (p0 : Int) : Option (Bool) :=
  ((if decide (48 ≤ p0) then some (decide (p0 ≤ 57)) else some false).bind fun b1 => some b1)
/-! impl.isWordByte -/
def m_i_isWordByte (N : Nat) (p0 : Int) : Option (Bool) :=
  ((m_i_isSmall N p0).bind fun x1 => ((if x1 then some true else ((m_i_isDigit N p0).bind fun x2 => some x2)).bind fun b1 => ((if b1 then some true else some (decide (p0 = 95))).bind fun b2 => some b2)))
/-! impl.isWord -/
def m_i_isWord_l1 (N : Nat) (p0 : ByteArray) : Nat → Int → Option (Bool)
  | 0, _ => none
  | k + 1, s1 =>
    (if decide (s1 < (p0.size : Int)) then ((idx p0.data.toList s1).bind fun y1 => ((m_i_isWordByte N (y1.toNat : Int)).bind fun x1 => (if !x1 then some false else ((m_i_isWord_l1 N p0 k) (IntKind.i64.wrap (s1 + 1)))))) else some true)
def m_i_isWord (N : Nat) (p0 : ByteArray) (p1 : Int) : Option (Bool) :=
  (if decide (p1 < (p0.size : Int)) then some false else m_i_isWord_l1 N p0 N 0)
/-! impl.NameOk -/
def m_i_NameOk (N : Nat) (p0 : ByteArray) : Option (Bool) :=
  ((if decide (0 < (p0.size : Int)) then ((idx p0.data.toList 0).bind fun y1 => ((m_i_isSmall N (y1.toNat : Int)).bind fun x1 => some x1)) else some false).bind fun b1 => ((if b1 then ((m_i_isWord N p0 12).bind fun x2 => some x2) else some false).bind fun b2 => some b2))
/-! impl.inRange -/
def m_i_inRange (N : Nat) (p0 : Int) (p1 : Int) (p2 : Int) : Option (Bool) :=
  ((if decide (p1 ≤ p0) then some (decide (p0 ≤ p2)) else some false).bind fun b1 => some b1)
/-! impl.ValOk -/
def m_i_ValOk (N : Nat) (p0 : TVal) : Option (Bool) :=
  (if decide (p0.K = 1) then ((m_i_inRange N p0.N (-1000000000) 1000000000).bind fun x1 => ((if x1 then some (seq p0.S (⟨#[]⟩ : ByteArray)) else some false).bind fun b1 => some b1)) else (if decide (p0.K = 2) then ((if decide (p0.N = 0) then ((m_i_isWord N p0.S 20).bind fun x2 => some x2) else some false).bind fun b2 => some b2) else some false))
/-! impl.isLarge -/
def m_i_isLarge (N : Nat) (p0 : Int) : Option (Bool) :=
  ((if decide (65 ≤ p0) then some (decide (p0 ≤ 90)) else some false).bind fun b1 => some b1)
/-! impl.isVar -/
def m_i_isVar_l1 (N : Nat) (p0 : ByteArray) : Nat → Int → Option (Bool)
  | 0, _ => none
  | k + 1, s1 =>
    (if decide (s1 < (p0.size : Int)) then ((idx p0.data.toList s1).bind fun y2 => ((m_i_isWordByte N (y2.toNat : Int)).bind fun x2 => ((if !x2 then ((idx p0.data.toList s1).bind fun y3 => ((m_i_isLarge N (y3.toNat : Int)).bind fun x3 => some (!x3))) else some false).bind fun b3 => (if b3 then some false else ((m_i_isVar_l1 N p0 k) (IntKind.i64.wrap (s1 + 1))))))) else some true)
def m_i_isVar (N : Nat) (p0 : ByteArray) : Option (Bool) :=
  ((if decide ((p0.size : Int) < 1) then some true else some (decide (12 < (p0.size : Int)))).bind fun b1 => ((if b1 then some true else ((idx p0.data.toList 0).bind fun y1 => ((m_i_isLarge N (y1.toNat : Int)).bind fun x1 => some (!x1)))).bind fun b2 => (if b2 then some false else m_i_isVar_l1 N p0 N 0)))
/-! impl.ArgOk -/
def m_i_ArgOk (N : Nat) (p0 : TArg) : Option (Bool) :=
  (if decide (p0.K = 1) then ((m_i_isVar N p0.S).bind fun x1 => ((if x1 then some (eqT_TVal p0.V (⟨0, 0, (⟨#[]⟩ : ByteArray)⟩ : TVal)) else some false).bind fun b1 => some b1)) else (if decide (p0.K = 2) then ((if seq p0.S (⟨#[]⟩ : ByteArray) then ((m_i_ValOk N p0.V).bind fun x2 => some x2) else some false).bind fun b2 => some b2) else (if decide (p0.K = 3) then ((if seq p0.S (⟨#[]⟩ : ByteArray) then some (eqT_TVal p0.V (⟨0, 0, (⟨#[]⟩ : ByteArray)⟩ : TVal)) else some false).bind fun b3 => some b3) else some false)))
/-! impl.PatOk -/
def m_i_PatOk_l1 (N : Nat) (p0 : TPat) : Nat → Int → Option (Bool)
  | 0, _ => none
  | k + 1, s1 =>
    (if decide (s1 < (p0.Args.length : Int)) then ((idx p0.Args s1).bind fun x2 => ((m_i_ArgOk N x2).bind fun x3 => (if !x3 then some false else ((m_i_PatOk_l1 N p0 k) (IntKind.i64.wrap (s1 + 1)))))) else some true)
def m_i_PatOk (N : Nat) (p0 : TPat) : Option (Bool) :=
  ((m_i_NameOk N p0.Kind).bind fun x1 => ((if !x1 then some true else some (decide (5 < (p0.Args.length : Int)))).bind fun b1 => (if b1 then some false else m_i_PatOk_l1 N p0 N 0)))
/-! impl.patsOk -/
def m_i_patsOk_l1 (N : Nat) (p0 : TRule) : Nat → Int → Option (Bool)
  | 0, _ => none
  | k + 1, s1 =>
    (if decide (s1 < (p0.Pats.length : Int)) then ((idx p0.Pats s1).bind fun x4 => ((m_i_PatOk N x4).bind fun x5 => ((if !x5 then some true else ((m_i_PosCount N p0).bind fun x6 => some (x4.Not != decide (x6 ≤ s1)))).bind fun b2 => (if b2 then some false else ((m_i_patsOk_l1 N p0 k) (IntKind.i64.wrap (s1 + 1))))))) else some true)
def m_i_patsOk (N : Nat) (p0 : TRule) : Option (Bool) :=
  ((m_i_inRange N (p0.Pats.length : Int) 1 6).bind fun x1 => ((if !x1 then some true else ((m_i_PosCount N p0).bind fun x2 => ((m_i_inRange N x2 1 3).bind fun x3 => some (!x3)))).bind fun b1 => (if b1 then some false else m_i_patsOk_l1 N p0 N 0)))
/-! impl.isTerm -/
def m_i_isTerm (N : Nat) (p0 : TArg) : Option (Bool) :=
  ((if !decide (p0.K = 3) then ((m_i_ArgOk N p0).bind fun x1 => some x1) else some false).bind fun b1 => some b1)
/-! impl.CondOk -/
def m_i_CondOk (N : Nat) (p0 : TCond) : Option (Bool) :=
  ((m_i_inRange N p0.Op 1 3).bind fun x1 => ((if x1 then ((m_i_isTerm N p0.L).bind fun x2 => some x2) else some false).bind fun b1 => ((if b1 then ((m_i_isTerm N p0.R).bind fun x3 => some x3) else some false).bind fun b2 => some b2)))
/-! impl.ExprOk -/
def m_i_ExprOk_j1 (N : Nat) (p0 : TExpr) (s1 : Bool) : Option (Bool) :=
  (if s1 then ((m_i_isTerm N p0.L).bind fun x2 => ((if x2 then ((m_i_isTerm N p0.R).bind fun x3 => some x3) else some false).bind fun b2 => some b2)) else some false)
def m_i_ExprOk (N : Nat) (p0 : TExpr) : Option (Bool) :=
  (if seq p0.Op (⟨#[]⟩ : ByteArray) then ((m_i_isTerm N p0.L).bind fun x1 => ((if x1 then some (eqT_TArg p0.R (⟨0, (⟨#[]⟩ : ByteArray), (⟨0, 0, (⟨#[]⟩ : ByteArray)⟩ : TVal)⟩ : TArg)) else some false).bind fun b1 => some b1)) else (if seq p0.Op (⟨#[43]⟩ : ByteArray) then m_i_ExprOk_j1 N p0 (seq p0.Op (⟨#[43]⟩ : ByteArray)) else m_i_ExprOk_j1 N p0 (seq p0.Op (⟨#[45]⟩ : ByteArray))))
/-! impl.argsOk -/
def m_i_argsOk_l1 (N : Nat) (p0 : TAct) : Nat → Int → Option (Bool)
  | 0, _ => none
  | k + 1, s1 =>
    (if decide (s1 < (p0.Args.length : Int)) then ((idx p0.Args s1).bind fun x2 => ((m_i_ExprOk N x2).bind fun x3 => (if !x3 then some false else ((m_i_argsOk_l1 N p0 k) (IntKind.i64.wrap (s1 + 1)))))) else some true)
def m_i_argsOk (N : Nat) (p0 : TAct) : Option (Bool) :=
  ((m_i_NameOk N p0.Name).bind fun x1 => ((if !x1 then some true else some (decide (5 < (p0.Args.length : Int)))).bind fun b1 => (if b1 then some false else m_i_argsOk_l1 N p0 N 0)))
/-! impl.isUndo -/
def m_i_isUndo (N : Nat) (p0 : ByteArray) : Option (Bool) :=
  ((if seq p0 (⟨#[]⟩ : ByteArray) then some true else ((m_i_NameOk N p0).bind fun x1 => some x1)).bind fun b1 => some b1)
/-! impl.ActOk -/
def m_i_ActOk_j1 (N : Nat) (p0 : TAct) (b1 : Bool) (s1 : Bool) : Option (Bool) :=
  (if s1 then ((if b1 then some (decide (p0.N = 0)) else some false).bind fun b10 => ((if b10 then some (seq p0.Undo (⟨#[]⟩ : ByteArray)) else some false).bind fun b11 => some b11)) else some false)
def m_i_ActOk (N : Nat) (p0 : TAct) : Option (Bool) :=
  ((if seq p0.Name (⟨#[]⟩ : ByteArray) then some (decide ((p0.Args.length : Int) = 0)) else some false).bind fun b1 => (if decide (p0.Kind = 1) then ((m_i_argsOk N p0).bind fun x1 => ((if x1 then some (decide (p0.N = 0)) else some false).bind fun b2 => ((if b2 then some (seq p0.Undo (⟨#[]⟩ : ByteArray)) else some false).bind fun b3 => some b3))) else (if decide (p0.Kind = 2) then ((if b1 then ((m_i_inRange N p0.N 0 7).bind fun x2 => some x2) else some false).bind fun b4 => ((if b4 then some (seq p0.Undo (⟨#[]⟩ : ByteArray)) else some false).bind fun b5 => some b5)) else (if decide (p0.Kind = 3) then ((m_i_argsOk N p0).bind fun x3 => ((if x3 then some (decide (p0.N = 0)) else some false).bind fun b6 => ((if b6 then ((m_i_isUndo N p0.Undo).bind fun x4 => some x4) else some false).bind fun b7 => some b7))) else (if decide (p0.Kind = 4) then ((m_i_argsOk N p0).bind fun x5 => ((if x5 then ((m_i_inRange N p0.N 0 100000).bind fun x6 => some x6) else some false).bind fun b8 => ((if b8 then some (seq p0.Undo (⟨#[]⟩ : ByteArray)) else some false).bind fun b9 => some b9))) else (if decide (p0.Kind = 5) then m_i_ActOk_j1 N p0 b1 (decide (p0.Kind = 5)) else m_i_ActOk_j1 N p0 b1 (decide (p0.Kind = 6))))))))
/-! slices.Index[[]string,string] -/
def m_sl_Index_Sstring_string_l1 (N : Nat) (p0 : (List ByteArray)) (p1 : ByteArray) : Nat → Int → Option (Int)
  | 0, _ => none
  | k + 1, s1 =>
    (if decide (s1 < (p0.length : Int)) then ((idx p0 s1).bind fun x1 => (if seq p1 x1 then some s1 else ((m_sl_Index_Sstring_string_l1 N p0 p1 k) (IntKind.i64.wrap (s1 + 1))))) else some (-1))
def m_sl_Index_Sstring_string (N : Nat) (p0 : (List ByteArray)) (p1 : ByteArray) : Option (Int) :=
  m_sl_Index_Sstring_string_l1 N p0 p1 N 0
/-! slices.Contains[[]string,string] -/
def m_sl_Contains_Sstring_string (N : Nat) (p0 : (List ByteArray)) (p1 : ByteArray) : Option (Bool) :=
  ((m_sl_Index_Sstring_string N p0 p1).bind fun x1 => some (decide (0 ≤ x1)))
/-! impl.addOnce -/
def m_i_addOnce (N : Nat) (p0 : (List ByteArray)) (p1 : ByteArray) : Option ((List ByteArray)) :=
  ((m_sl_Contains_Sstring_string N p0 p1).bind fun x1 => (if x1 then some p0 else ((app p0 ([p1] : List ByteArray)).bind fun x2 => some x2)))
/-! impl.addVars -/
def m_i_addVars_l1 (N : Nat) (p1 : (List TArg)) : Nat → (List ByteArray) → Int → Option ((List ByteArray))
  | 0, _, _ => none
  | k + 1, s1, s2 =>
    (if decide (s2 < (p1.length : Int)) then ((idx p1 s2).bind fun x1 => (if decide (x1.K = 1) then ((m_i_addOnce N s1 x1.S).bind fun x2 => ((m_i_addVars_l1 N p1 k) x2 (IntKind.i64.wrap (s2 + 1)))) else ((m_i_addVars_l1 N p1 k) s1 (IntKind.i64.wrap (s2 + 1))))) else some s1)
def m_i_addVars (N : Nat) (p0 : (List ByteArray)) (p1 : (List TArg)) : Option ((List ByteArray)) :=
  m_i_addVars_l1 N p1 N p0 0
/-! impl.PosVars -/
def m_i_PosVars_l1 (N : Nat) (p0 : TRule) : Nat → (List ByteArray) → Int → Option ((List ByteArray))
  | 0, _, _ => none
  | k + 1, s1, s2 =>
    (if decide (s2 < (p0.Pats.length : Int)) then ((idx p0.Pats s2).bind fun x1 => (if !x1.Not then ((m_i_addVars N s1 x1.Args).bind fun x2 => ((m_i_PosVars_l1 N p0 k) x2 (IntKind.i64.wrap (s2 + 1)))) else ((m_i_PosVars_l1 N p0 k) s1 (IntKind.i64.wrap (s2 + 1))))) else some s1)
def m_i_PosVars (N : Nat) (p0 : TRule) : Option ((List ByteArray)) :=
  m_i_PosVars_l1 N p0 N ([] : List ByteArray) 0
/-! impl.usedVars -/
def m_i_usedVars_l3 (N : Nat) (s4 : Int) (K2 : (List ByteArray) → Int → Option ((List ByteArray))) (x3 : TAct) : Nat → (List ByteArray) → Int → Option ((List ByteArray))
  | 0, _, _ => none
  | k + 1, s5, s6 =>
    (if decide (s6 < (x3.Args.length : Int)) then ((idx x3.Args s6).bind fun x4 => ((m_i_addVars N s5 ([x4.L, x4.R] : List TArg)).bind fun x5 => ((m_i_usedVars_l3 N s4 K2 x3 k) x5 (IntKind.i64.wrap (s6 + 1))))) else (K2 s5 (IntKind.i64.wrap (s4 + 1))))
def m_i_usedVars_l2 (N : Nat) (p0 : TRule) : Nat → (List ByteArray) → Int → Option ((List ByteArray))
  | 0, _, _ => none
  | k + 1, s3, s4 =>
    (if decide (s4 < (p0.Acts.length : Int)) then ((idx p0.Acts s4).bind fun x3 => m_i_usedVars_l3 N s4 (m_i_usedVars_l2 N p0 k) x3 N s3 0) else some s3)
def m_i_usedVars_l1 (N : Nat) (p0 : TRule) : Nat → (List ByteArray) → Int → Option ((List ByteArray))
  | 0, _, _ => none
  | k + 1, s1, s2 =>
    (if decide (s2 < (p0.Conds.length : Int)) then ((idx p0.Conds s2).bind fun x1 => ((m_i_addVars N s1 ([x1.L, x1.R] : List TArg)).bind fun x2 => ((m_i_usedVars_l1 N p0 k) x2 (IntKind.i64.wrap (s2 + 1))))) else m_i_usedVars_l2 N p0 N s1 0)
def m_i_usedVars (N : Nat) (p0 : TRule) : Option ((List ByteArray)) :=
  m_i_usedVars_l1 N p0 N ([] : List ByteArray) 0
/-! impl.RuleOk -/
def m_i_RuleOk_l3 (N : Nat) (x10 : (List ByteArray)) (x11 : (List ByteArray)) : Nat → Int → Option (Bool)
  | 0, _ => none
  | k + 1, s3 =>
    (if decide (s3 < (x11.length : Int)) then ((idx x11 s3).bind fun x12 => ((m_sl_Contains_Sstring_string N x10 x12).bind fun x13 => (if !x13 then some false else ((m_i_RuleOk_l3 N x10 x11 k) (IntKind.i64.wrap (s3 + 1)))))) else some true)
def m_i_RuleOk_l2 (N : Nat) (p0 : TRule) : Nat → Int → Option (Bool)
  | 0, _ => none
  | k + 1, s2 =>
    (if decide (s2 < (p0.Acts.length : Int)) then ((idx p0.Acts s2).bind fun x7 => ((m_i_ActOk N x7).bind fun x8 => ((if !x8 then some true else ((if decide (x7.Kind = 2) then ((m_i_PosCount N p0).bind fun x9 => some (decide (x9 ≤ x7.N))) else some false).bind fun b5 => some b5)).bind fun b4 => (if b4 then some false else ((m_i_RuleOk_l2 N p0 k) (IntKind.i64.wrap (s2 + 1))))))) else ((m_i_PosVars N p0).bind fun x10 => ((m_i_usedVars N p0).bind fun x11 => m_i_RuleOk_l3 N x10 x11 N 0)))
def m_i_RuleOk_l1 (N : Nat) (p0 : TRule) : Nat → Int → Option (Bool)
  | 0, _ => none
  | k + 1, s1 =>
    (if decide (s1 < (p0.Conds.length : Int)) then ((idx p0.Conds s1).bind fun x5 => ((m_i_CondOk N x5).bind fun x6 => (if !x6 then some false else ((m_i_RuleOk_l1 N p0 k) (IntKind.i64.wrap (s1 + 1)))))) else m_i_RuleOk_l2 N p0 N 0)
def m_i_RuleOk (N : Nat) (p0 : TRule) : Option (Bool) :=
  ((m_i_NameOk N p0.Name).bind fun x1 => ((if !x1 then some true else ((m_i_inRange N p0.Sal (-100) 100).bind fun x2 => some (!x2))).bind fun b1 => ((if b1 then some true else ((m_i_patsOk N p0).bind fun x3 => some (!x3))).bind fun b2 => (if b2 then some false else ((if decide (6 < (p0.Conds.length : Int)) then some true else ((m_i_inRange N (p0.Acts.length : Int) 1 6).bind fun x4 => some (!x4))).bind fun b3 => (if b3 then some false else m_i_RuleOk_l1 N p0 N 0))))))
/-! slices.IndexFunc[[]impl.Rule,impl.Rule] -/
def m_sl_IndexFunc_Si_Rule_i_Rule_l1 (N : Nat) (p0 : (List TRule)) (p1 : TRule → Option (Bool)) : Nat → Int → Option (Int)
  | 0, _ => none
  | k + 1, s1 =>
    (if decide (s1 < (p0.length : Int)) then ((idx p0 s1).bind fun x1 => ((p1 x1).bind fun x2 => (if x2 then some s1 else ((m_sl_IndexFunc_Si_Rule_i_Rule_l1 N p0 p1 k) (IntKind.i64.wrap (s1 + 1)))))) else some (-1))
def m_sl_IndexFunc_Si_Rule_i_Rule (N : Nat) (p0 : (List TRule)) (p1 : TRule → Option (Bool)) : Option (Int) :=
  m_sl_IndexFunc_Si_Rule_i_Rule_l1 N p0 p1 N 0
/-! impl.RuleAt$1 -/
def m_i_RuleAt_c1 (N : Nat) (p0 : TRule) (c0 : ByteArray) : Option (Bool) :=
  some (seq p0.Name c0)
/-! impl.RuleAt -/
def m_i_RuleAt (N : Nat) (p0 : TDef) (p1 : ByteArray) : Option (Int) :=
  ((m_sl_IndexFunc_Si_Rule_i_Rule N p0.Rules (fun a0 => m_i_RuleAt_c1 N a0 p1)).bind fun x1 => some x1)
/-! impl.DefOk -/
def m_i_DefOk_l1 (N : Nat) (p0 : TDef) : Nat → Int → Option (Bool)
  | 0, _ => none
  | k + 1, s1 =>
    (if decide (s1 < (p0.Rules.length : Int)) then ((idx p0.Rules s1).bind fun x3 => ((m_i_RuleOk N x3).bind fun x4 => ((if !x4 then some true else ((m_i_RuleAt N p0 x3.Name).bind fun x5 => some (!decide (x5 = s1)))).bind fun b2 => (if b2 then some false else ((m_i_DefOk_l1 N p0 k) (IntKind.i64.wrap (s1 + 1))))))) else some true)
def m_i_DefOk (N : Nat) (p0 : TDef) : Option (Bool) :=
  ((m_i_NameOk N p0.Name).bind fun x1 => ((if !x1 then some true else ((m_i_inRange N (p0.Rules.length : Int) 1 12).bind fun x2 => some (!x2))).bind fun b1 => (if b1 then some false else m_i_DefOk_l1 N p0 N 0)))
/-! slices.Equal[[]impl.Val,impl.Val] -/
def m_sl_Equal_Si_Val_i_Val_l1 (N : Nat) (p0 : (List TVal)) (p1 : (List TVal)) : Nat → Int → Option (Bool)
  | 0, _ => none
  | k + 1, s1 =>
    (if decide (s1 < (p0.length : Int)) then ((idx p0 s1).bind fun x1 => ((idx p1 s1).bind fun x2 => (if !(eqT_TVal x1 x2) then some false else ((m_sl_Equal_Si_Val_i_Val_l1 N p0 p1 k) (IntKind.i64.wrap (s1 + 1)))))) else some true)
def m_sl_Equal_Si_Val_i_Val (N : Nat) (p0 : (List TVal)) (p1 : (List TVal)) : Option (Bool) :=
  (if !decide ((p0.length : Int) = (p1.length : Int)) then some false else m_sl_Equal_Si_Val_i_Val_l1 N p0 p1 N 0)
/-! slices.Equal[[]int,int] -/
def m_sl_Equal_Sint_int_l1 (N : Nat) (p0 : (List Int)) (p1 : (List Int)) : Nat → Int → Option (Bool)
  | 0, _ => none
  | k + 1, s1 =>
    (if decide (s1 < (p0.length : Int)) then ((idx p0 s1).bind fun x1 => ((idx p1 s1).bind fun x2 => (if !decide (x1 = x2) then some false else ((m_sl_Equal_Sint_int_l1 N p0 p1 k) (IntKind.i64.wrap (s1 + 1)))))) else some true)
def m_sl_Equal_Sint_int (N : Nat) (p0 : (List Int)) (p1 : (List Int)) : Option (Bool) :=
  (if !decide ((p0.length : Int) = (p1.length : Int)) then some false else m_sl_Equal_Sint_int_l1 N p0 p1 N 0)
/-! impl.SameAlpha -/
def m_i_SameAlpha (N : Nat) (p0 : TAlpha) (p1 : TAlpha) : Option (Bool) :=
  ((if seq p0.Kind p1.Kind then some (decide (p0.N = p1.N)) else some false).bind fun b1 => ((if b1 then ((m_sl_Equal_Si_Val_i_Val N p0.Consts p1.Consts).bind fun x1 => some x1) else some false).bind fun b2 => ((if b2 then ((m_sl_Equal_Sint_int N p0.At p1.At).bind fun x2 => some x2) else some false).bind fun b3 => some b3)))
/-! impl.AlphaOf -/
def m_i_AlphaOf_l1 (N : Nat) (p0 : TPat) : Nat → (List TVal) → (List Int) → Int → Option (TAlpha)
  | 0, _, _, _ => none
  | k + 1, s1, s2, s3 =>
    (if decide (s3 < (p0.Args.length : Int)) then ((idx p0.Args s3).bind fun x1 => (if decide (x1.K = 2) then ((app s1 ([x1.V] : List TVal)).bind fun x2 => ((app s2 ([s3] : List Int)).bind fun x3 => ((m_i_AlphaOf_l1 N p0 k) x2 x3 (IntKind.i64.wrap (s3 + 1))))) else ((m_i_AlphaOf_l1 N p0 k) s1 s2 (IntKind.i64.wrap (s3 + 1))))) else some (⟨p0.Kind, (p0.Args.length : Int), s1, s2⟩ : TAlpha))
def m_i_AlphaOf (N : Nat) (p0 : TPat) : Option (TAlpha) :=
  m_i_AlphaOf_l1 N p0 N ([] : List TVal) ([] : List Int) 0
/-! (*impl.Net).alphaAt -/
def m_i_Net_alphaAt_l1 (N : Nat) (p0 : TNet) (x1 : TAlpha) : Nat → Int → Option (Int × TNet)
  | 0, _ => none
  | k + 1, s1 =>
    (if decide (s1 < (p0.Alphas.length : Int)) then ((idx p0.Alphas s1).bind fun x2 => ((m_i_SameAlpha N x2 x1).bind fun x3 => (if x3 then some (s1, p0) else ((m_i_Net_alphaAt_l1 N p0 x1 k) (IntKind.i64.wrap (s1 + 1)))))) else ((app p0.Alphas ([x1] : List TAlpha)).bind fun x4 => some (IntKind.i64.wrap ((x4.length : Int) - 1), (⟨x4, p0.Chains⟩ : TNet))))
def m_i_Net_alphaAt (N : Nat) (p0 : TNet) (p1 : TPat) : Option (Int × TNet) :=
  ((m_i_AlphaOf N p1).bind fun x1 => m_i_Net_alphaAt_l1 N p0 x1 N 0)
/-! impl.netIn -/
def m_i_netIn_l2 (N : Nat) (s2 : (List TChain)) (s3 : Int) (K1 : (List TAlpha) → (List TChain) → Int → Option (TNet)) (x1 : TRule) : Nat → (List TAlpha) → (List Int) → (List Int) → Int → Option (TNet)
  | 0, _, _, _, _ => none
  | k + 1, s4, s5, s6, s7 =>
    (if decide (s7 < (x1.Pats.length : Int)) then ((idx x1.Pats s7).bind fun x2 => ((m_i_Net_alphaAt N (⟨s4, s2⟩ : TNet) x2).bind fun x3 => (if x2.Not then ((app s5 ([x3.1] : List Int)).bind fun x4 => ((m_i_netIn_l2 N s2 s3 K1 x1 k) x3.2.Alphas x4 s6 (IntKind.i64.wrap (s7 + 1)))) else ((app s6 ([x3.1] : List Int)).bind fun x5 => ((m_i_netIn_l2 N s2 s3 K1 x1 k) x3.2.Alphas s5 x5 (IntKind.i64.wrap (s7 + 1))))))) else ((app s2 ([(⟨s6, s5⟩ : TChain)] : List TChain)).bind fun x6 => (K1 s4 x6 (IntKind.i64.wrap (s3 + 1)))))
def m_i_netIn_l1 (N : Nat) (p0 : TDef) : Nat → (List TAlpha) → (List TChain) → Int → Option (TNet)
  | 0, _, _, _ => none
  | k + 1, s1, s2, s3 =>
    (if decide (s3 < (p0.Rules.length : Int)) then ((idx p0.Rules s3).bind fun x1 => m_i_netIn_l2 N s2 s3 (m_i_netIn_l1 N p0 k) x1 N s1 ([] : List Int) ([] : List Int) 0) else some (⟨s1, s2⟩ : TNet))
def m_i_netIn (N : Nat) (p0 : TDef) : Option (TNet) :=
  m_i_netIn_l1 N p0 N ([] : List TAlpha) ([] : List TChain) 0
/-! impl.NetOf -/
def m_i_NetOf (N : Nat) (p0 : TDef) : Option (TNet) :=
  ((m_i_DefOk N p0).bind fun x1 => (if !x1 then some (⟨[], []⟩ : TNet) else ((m_i_netIn N p0).bind fun x2 => some x2)))
/-! laws.markText -/
def m_l_markText_l1 (N : Nat) : Nat → Int → ByteArray → Option (ByteArray)
  | 0, _, _ => none
  | k + 1, s1, s2 =>
    (if decide (0 < s1) then ((cat (bstr ([(IntKind.u8.wrap (IntKind.i64.wrap (48 + (s1.tmod 10))))] : List Int)) s2).bind fun z1 => ((m_l_markText_l1 N k) (IntKind.i64.wrap (s1.tdiv 10)) z1)) else ((cat (⟨#[109]⟩ : ByteArray) s2).bind fun z2 => some z2))
def m_l_markText (N : Nat) (p0 : Int) : Option (ByteArray) :=
  (if decide (p0 ≤ 0) then some (⟨#[109, 48]⟩ : ByteArray) else m_l_markText_l1 N N p0 (⟨#[]⟩ : ByteArray))
/-! laws.markArgS -/
def m_l_markArgS_l1 (N : Nat) : Nat → (List TArg) → Int → Int → Option (Int × (List TArg))
  | 0, _, _, _ => none
  | k + 1, s1, s2, s3 =>
    (if decide (s3 < (s1.length : Int)) then ((idx s1 s3).bind fun x1 => ((m_l_markText N (IntKind.i64.wrap (s2 + 1))).bind fun x2 => ((m_l_markText N (IntKind.i64.wrap ((IntKind.i64.wrap ((IntKind.i64.wrap ((IntKind.i64.wrap (s2 + 1)) + 1)) + 1)) + 1))).bind fun x3 => ((m_l_markArgS_l1 N k) (s1.set s3.toNat (⟨s2, x2, (⟨IntKind.i64.wrap ((IntKind.i64.wrap (s2 + 1)) + 1), IntKind.i64.wrap ((IntKind.i64.wrap ((IntKind.i64.wrap (s2 + 1)) + 1)) + 1), x3⟩ : TVal)⟩ : TArg)) (IntKind.i64.wrap ((IntKind.i64.wrap ((IntKind.i64.wrap ((IntKind.i64.wrap ((IntKind.i64.wrap (s2 + 1)) + 1)) + 1)) + 1)) + 1)) (IntKind.i64.wrap (s3 + 1)))))) else some (s2, s1))
def m_l_markArgS (N : Nat) (p0 : (List TArg)) (p1 : Int) : Option (Int × (List TArg)) :=
  m_l_markArgS_l1 N N p0 p1 0
/-! laws.markPatS -/
def m_l_markPatS_l1 (N : Nat) : Nat → (List TPat) → Int → Int → Option (Int × (List TPat))
  | 0, _, _, _ => none
  | k + 1, s1, s2, s3 =>
    (if decide (s3 < (s1.length : Int)) then ((m_l_markText N s2).bind fun x1 => ((idx s1 s3).bind fun x2 => ((m_l_markArgS N x2.Args (IntKind.i64.wrap (s2 + 1))).bind fun x3 => ((m_l_markPatS_l1 N k) (s1.set s3.toNat (⟨x1, x3.2, decide ((x3.1.tmod 3) = 0)⟩ : TPat)) (IntKind.i64.wrap (x3.1 + 1)) (IntKind.i64.wrap (s3 + 1)))))) else some (s2, s1))
def m_l_markPatS (N : Nat) (p0 : (List TPat)) (p1 : Int) : Option (Int × (List TPat)) :=
  m_l_markPatS_l1 N N p0 p1 0
/-! laws.markCondS -/
def m_l_markCondS_l1 (N : Nat) : Nat → (List TCond) → Int → Int → Option (Int × (List TCond))
  | 0, _, _, _ => none
  | k + 1, s1, s2, s3 =>
    (if decide (s3 < (s1.length : Int)) then ((idx s1 s3).bind fun x1 => ((m_l_markText N (IntKind.i64.wrap ((IntKind.i64.wrap (s2 + 1)) + 1))).bind fun x2 => ((m_l_markText N (IntKind.i64.wrap ((IntKind.i64.wrap ((IntKind.i64.wrap ((IntKind.i64.wrap ((IntKind.i64.wrap (s2 + 1)) + 1)) + 1)) + 1)) + 1))).bind fun x3 => ((m_l_markText N (IntKind.i64.wrap ((IntKind.i64.wrap ((IntKind.i64.wrap ((IntKind.i64.wrap ((IntKind.i64.wrap ((IntKind.i64.wrap ((IntKind.i64.wrap (s2 + 1)) + 1)) + 1)) + 1)) + 1)) + 1)) + 1))).bind fun x4 => ((m_l_markText N (IntKind.i64.wrap ((IntKind.i64.wrap ((IntKind.i64.wrap ((IntKind.i64.wrap ((IntKind.i64.wrap ((IntKind.i64.wrap ((IntKind.i64.wrap ((IntKind.i64.wrap ((IntKind.i64.wrap ((IntKind.i64.wrap (s2 + 1)) + 1)) + 1)) + 1)) + 1)) + 1)) + 1)) + 1)) + 1)) + 1))).bind fun x5 => ((m_l_markCondS_l1 N k) (s1.set s3.toNat (⟨s2, (⟨IntKind.i64.wrap (s2 + 1), x2, (⟨IntKind.i64.wrap ((IntKind.i64.wrap ((IntKind.i64.wrap (s2 + 1)) + 1)) + 1), IntKind.i64.wrap ((IntKind.i64.wrap ((IntKind.i64.wrap ((IntKind.i64.wrap (s2 + 1)) + 1)) + 1)) + 1), x3⟩ : TVal)⟩ : TArg), (⟨IntKind.i64.wrap ((IntKind.i64.wrap ((IntKind.i64.wrap ((IntKind.i64.wrap ((IntKind.i64.wrap ((IntKind.i64.wrap (s2 + 1)) + 1)) + 1)) + 1)) + 1)) + 1), x4, (⟨IntKind.i64.wrap ((IntKind.i64.wrap ((IntKind.i64.wrap ((IntKind.i64.wrap ((IntKind.i64.wrap ((IntKind.i64.wrap ((IntKind.i64.wrap ((IntKind.i64.wrap (s2 + 1)) + 1)) + 1)) + 1)) + 1)) + 1)) + 1)) + 1), IntKind.i64.wrap ((IntKind.i64.wrap ((IntKind.i64.wrap ((IntKind.i64.wrap ((IntKind.i64.wrap ((IntKind.i64.wrap ((IntKind.i64.wrap ((IntKind.i64.wrap ((IntKind.i64.wrap (s2 + 1)) + 1)) + 1)) + 1)) + 1)) + 1)) + 1)) + 1)) + 1), x5⟩ : TVal)⟩ : TArg)⟩ : TCond)) (IntKind.i64.wrap ((IntKind.i64.wrap ((IntKind.i64.wrap ((IntKind.i64.wrap ((IntKind.i64.wrap ((IntKind.i64.wrap ((IntKind.i64.wrap ((IntKind.i64.wrap ((IntKind.i64.wrap ((IntKind.i64.wrap ((IntKind.i64.wrap (s2 + 1)) + 1)) + 1)) + 1)) + 1)) + 1)) + 1)) + 1)) + 1)) + 1)) + 1)) (IntKind.i64.wrap (s3 + 1)))))))) else some (s2, s1))
def m_l_markCondS (N : Nat) (p0 : (List TCond)) (p1 : Int) : Option (Int × (List TCond)) :=
  m_l_markCondS_l1 N N p0 p1 0
/-! laws.markExprS -/
def m_l_markExprS_l1 (N : Nat) : Nat → (List TExpr) → Int → Int → Option (Int × (List TExpr))
  | 0, _, _, _ => none
  | k + 1, s1, s2, s3 =>
    (if decide (s3 < (s1.length : Int)) then ((m_l_markText N s2).bind fun x1 => ((idx s1 s3).bind fun x2 => ((m_l_markText N (IntKind.i64.wrap ((IntKind.i64.wrap (s2 + 1)) + 1))).bind fun x3 => ((m_l_markText N (IntKind.i64.wrap ((IntKind.i64.wrap ((IntKind.i64.wrap ((IntKind.i64.wrap ((IntKind.i64.wrap (s2 + 1)) + 1)) + 1)) + 1)) + 1))).bind fun x4 => ((m_l_markText N (IntKind.i64.wrap ((IntKind.i64.wrap ((IntKind.i64.wrap ((IntKind.i64.wrap ((IntKind.i64.wrap ((IntKind.i64.wrap ((IntKind.i64.wrap (s2 + 1)) + 1)) + 1)) + 1)) + 1)) + 1)) + 1))).bind fun x5 => ((m_l_markText N (IntKind.i64.wrap ((IntKind.i64.wrap ((IntKind.i64.wrap ((IntKind.i64.wrap ((IntKind.i64.wrap ((IntKind.i64.wrap ((IntKind.i64.wrap ((IntKind.i64.wrap ((IntKind.i64.wrap ((IntKind.i64.wrap (s2 + 1)) + 1)) + 1)) + 1)) + 1)) + 1)) + 1)) + 1)) + 1)) + 1))).bind fun x6 => ((m_l_markExprS_l1 N k) (s1.set s3.toNat (⟨x1, (⟨IntKind.i64.wrap (s2 + 1), x3, (⟨IntKind.i64.wrap ((IntKind.i64.wrap ((IntKind.i64.wrap (s2 + 1)) + 1)) + 1), IntKind.i64.wrap ((IntKind.i64.wrap ((IntKind.i64.wrap ((IntKind.i64.wrap (s2 + 1)) + 1)) + 1)) + 1), x4⟩ : TVal)⟩ : TArg), (⟨IntKind.i64.wrap ((IntKind.i64.wrap ((IntKind.i64.wrap ((IntKind.i64.wrap ((IntKind.i64.wrap ((IntKind.i64.wrap (s2 + 1)) + 1)) + 1)) + 1)) + 1)) + 1), x5, (⟨IntKind.i64.wrap ((IntKind.i64.wrap ((IntKind.i64.wrap ((IntKind.i64.wrap ((IntKind.i64.wrap ((IntKind.i64.wrap ((IntKind.i64.wrap ((IntKind.i64.wrap (s2 + 1)) + 1)) + 1)) + 1)) + 1)) + 1)) + 1)) + 1), IntKind.i64.wrap ((IntKind.i64.wrap ((IntKind.i64.wrap ((IntKind.i64.wrap ((IntKind.i64.wrap ((IntKind.i64.wrap ((IntKind.i64.wrap ((IntKind.i64.wrap ((IntKind.i64.wrap (s2 + 1)) + 1)) + 1)) + 1)) + 1)) + 1)) + 1)) + 1)) + 1), x6⟩ : TVal)⟩ : TArg)⟩ : TExpr)) (IntKind.i64.wrap ((IntKind.i64.wrap ((IntKind.i64.wrap ((IntKind.i64.wrap ((IntKind.i64.wrap ((IntKind.i64.wrap ((IntKind.i64.wrap ((IntKind.i64.wrap ((IntKind.i64.wrap ((IntKind.i64.wrap ((IntKind.i64.wrap (s2 + 1)) + 1)) + 1)) + 1)) + 1)) + 1)) + 1)) + 1)) + 1)) + 1)) + 1)) (IntKind.i64.wrap (s3 + 1))))))))) else some (s2, s1))
def m_l_markExprS (N : Nat) (p0 : (List TExpr)) (p1 : Int) : Option (Int × (List TExpr)) :=
  m_l_markExprS_l1 N N p0 p1 0
/-! laws.markActS -/
def m_l_markActS_l1 (N : Nat) : Nat → (List TAct) → Int → Int → Option (Int × (List TAct))
  | 0, _, _, _ => none
  | k + 1, s1, s2, s3 =>
    (if decide (s3 < (s1.length : Int)) then ((idx s1 s3).bind fun x1 => ((m_l_markText N (IntKind.i64.wrap (s2 + 1))).bind fun x2 => ((m_l_markExprS N x1.Args (IntKind.i64.wrap ((IntKind.i64.wrap (s2 + 1)) + 1))).bind fun x3 => ((m_l_markText N (IntKind.i64.wrap (x3.1 + 1))).bind fun x4 => ((m_l_markActS_l1 N k) (s1.set s3.toNat (⟨s2, x2, x3.2, x3.1, x4⟩ : TAct)) (IntKind.i64.wrap ((IntKind.i64.wrap (x3.1 + 1)) + 1)) (IntKind.i64.wrap (s3 + 1))))))) else some (s2, s1))
def m_l_markActS (N : Nat) (p0 : (List TAct)) (p1 : Int) : Option (Int × (List TAct)) :=
  m_l_markActS_l1 N N p0 p1 0
/-! laws.markRuleS -/
def m_l_markRuleS_l1 (N : Nat) : Nat → (List TRule) → Int → Int → Option (Int × (List TRule))
  | 0, _, _, _ => none
  | k + 1, s1, s2, s3 =>
    (if decide (s3 < (s1.length : Int)) then ((m_l_markText N s2).bind fun x1 => ((idx s1 s3).bind fun x2 => ((m_l_markPatS N x2.Pats (IntKind.i64.wrap ((IntKind.i64.wrap (s2 + 1)) + 1))).bind fun x3 => ((m_l_markCondS N x2.Conds x3.1).bind fun x4 => ((m_l_markActS N x2.Acts x4.1).bind fun x5 => ((m_l_markRuleS_l1 N k) (s1.set s3.toNat (⟨x1, IntKind.i64.wrap (s2 + 1), x3.2, x4.2, x5.2⟩ : TRule)) x5.1 (IntKind.i64.wrap (s3 + 1)))))))) else some (s2, s1))
def m_l_markRuleS (N : Nat) (p0 : (List TRule)) (p1 : Int) : Option (Int × (List TRule)) :=
  m_l_markRuleS_l1 N N p0 p1 0
/-! laws.markDef -/
def m_l_markDef (N : Nat) (p0 : TDef) (p1 : Int) : Option (Int × (List TRule)) :=
  ((m_l_markRuleS N p0.Rules p1).bind fun x1 => some (x1.1, x1.2))
/-! laws.markValS -/
def m_l_markValS_l1 (N : Nat) : Nat → (List TVal) → Int → Int → Option (Int × (List TVal))
  | 0, _, _, _ => none
  | k + 1, s1, s2, s3 =>
    (if decide (s3 < (s1.length : Int)) then ((idx s1 s3).bind fun x1 => ((m_l_markText N (IntKind.i64.wrap ((IntKind.i64.wrap (s2 + 1)) + 1))).bind fun x2 => ((m_l_markValS_l1 N k) (s1.set s3.toNat (⟨s2, IntKind.i64.wrap (s2 + 1), x2⟩ : TVal)) (IntKind.i64.wrap ((IntKind.i64.wrap ((IntKind.i64.wrap (s2 + 1)) + 1)) + 1)) (IntKind.i64.wrap (s3 + 1))))) else some (s2, s1))
def m_l_markValS (N : Nat) (p0 : (List TVal)) (p1 : Int) : Option (Int × (List TVal)) :=
  m_l_markValS_l1 N N p0 p1 0
/-! laws.markIntS -/
def m_l_markIntS_l1 (N : Nat) : Nat → (List Int) → Int → Int → Option (Int × (List Int))
  | 0, _, _, _ => none
  | k + 1, s1, s2, s3 =>
    (if decide (s3 < (s1.length : Int)) then ((idx s1 s3).bind fun x1 => ((m_l_markIntS_l1 N k) (s1.set s3.toNat s2) (IntKind.i64.wrap (s2 + 1)) (IntKind.i64.wrap (s3 + 1)))) else some (s2, s1))
def m_l_markIntS (N : Nat) (p0 : (List Int)) (p1 : Int) : Option (Int × (List Int)) :=
  m_l_markIntS_l1 N N p0 p1 0
/-! laws.markAlphaS -/
def m_l_markAlphaS_l1 (N : Nat) : Nat → (List TAlpha) → Int → Int → Option (Int × (List TAlpha))
  | 0, _, _, _ => none
  | k + 1, s1, s2, s3 =>
    (if decide (s3 < (s1.length : Int)) then ((m_l_markText N s2).bind fun x1 => ((idx s1 s3).bind fun x2 => ((m_l_markValS N x2.Consts (IntKind.i64.wrap ((IntKind.i64.wrap (s2 + 1)) + 1))).bind fun x3 => ((m_l_markIntS N x2.At x3.1).bind fun x4 => ((m_l_markAlphaS_l1 N k) (s1.set s3.toNat (⟨x1, IntKind.i64.wrap (s2 + 1), x3.2, x4.2⟩ : TAlpha)) x4.1 (IntKind.i64.wrap (s3 + 1))))))) else some (s2, s1))
def m_l_markAlphaS (N : Nat) (p0 : (List TAlpha)) (p1 : Int) : Option (Int × (List TAlpha)) :=
  m_l_markAlphaS_l1 N N p0 p1 0
/-! laws.markChainS -/
def m_l_markChainS_l1 (N : Nat) : Nat → (List TChain) → Int → Int → Option (Int × (List TChain))
  | 0, _, _, _ => none
  | k + 1, s1, s2, s3 =>
    (if decide (s3 < (s1.length : Int)) then ((idx s1 s3).bind fun x1 => ((m_l_markIntS N x1.Pos s2).bind fun x2 => ((m_l_markIntS N x1.Neg x2.1).bind fun x3 => ((m_l_markChainS_l1 N k) (s1.set s3.toNat (⟨x2.2, x3.2⟩ : TChain)) x3.1 (IntKind.i64.wrap (s3 + 1)))))) else some (s2, s1))
def m_l_markChainS (N : Nat) (p0 : (List TChain)) (p1 : Int) : Option (Int × (List TChain)) :=
  m_l_markChainS_l1 N N p0 p1 0
/-! laws.markNet -/
def m_l_markNet (N : Nat) (p0 : TNet) (p1 : Int) : Option (Int × (List TAlpha) × (List TChain)) :=
  ((m_l_markAlphaS N p0.Alphas p1).bind fun x1 => ((m_l_markChainS N p0.Chains x1.1).bind fun x2 => some (x2.1, x1.2, x2.2)))
/-! laws.heldValS -/
def m_l_heldValS_l1 (N : Nat) (p0 : (List TVal)) : Nat → Int → Int → Option (Int)
  | 0, _, _ => none
  | k + 1, s1, s2 =>
    (if decide (s2 < (p0.length : Int)) then ((idx p0 s2).bind fun x1 => (if !decide (x1.K = s1) then some (-1) else ((idx p0 s2).bind fun x2 => (if !decide (x2.N = IntKind.i64.wrap (s1 + 1)) then some (-1) else ((idx p0 s2).bind fun x3 => ((m_l_markText N (IntKind.i64.wrap ((IntKind.i64.wrap (s1 + 1)) + 1))).bind fun x4 => (if !seq x3.S x4 then some (-1) else ((m_l_heldValS_l1 N p0 k) (IntKind.i64.wrap ((IntKind.i64.wrap ((IntKind.i64.wrap (s1 + 1)) + 1)) + 1)) (IntKind.i64.wrap (s2 + 1)))))))))) else some s1)
def m_l_heldValS (N : Nat) (p0 : (List TVal)) (p1 : Int) : Option (Int) :=
  m_l_heldValS_l1 N p0 N p1 0
/-! laws.heldIntS -/
def m_l_heldIntS_l1 (N : Nat) (p0 : (List Int)) : Nat → Int → Int → Option (Int)
  | 0, _, _ => none
  | k + 1, s1, s2 =>
    (if decide (s2 < (p0.length : Int)) then ((idx p0 s2).bind fun x1 => (if !decide (x1 = s1) then some (-1) else ((m_l_heldIntS_l1 N p0 k) (IntKind.i64.wrap (s1 + 1)) (IntKind.i64.wrap (s2 + 1))))) else some s1)
def m_l_heldIntS (N : Nat) (p0 : (List Int)) (p1 : Int) : Option (Int) :=
  m_l_heldIntS_l1 N p0 N p1 0
/-! laws.heldAlphaS -/
def m_l_heldAlphaS_l1 (N : Nat) (p0 : (List TAlpha)) : Nat → Int → Int → Option (Int)
  | 0, _, _ => none
  | k + 1, s1, s2 =>
    (if decide (s2 < (p0.length : Int)) then ((idx p0 s2).bind fun x1 => ((m_l_markText N s1).bind fun x2 => (if !seq x1.Kind x2 then some (-1) else ((idx p0 s2).bind fun x3 => (if !decide (x3.N = IntKind.i64.wrap (s1 + 1)) then some (-1) else ((idx p0 s2).bind fun x4 => ((m_l_heldValS N x4.Consts (IntKind.i64.wrap ((IntKind.i64.wrap (s1 + 1)) + 1))).bind fun x5 => (if decide (x5 < 0) then some (-1) else ((idx p0 s2).bind fun x6 => ((m_l_heldIntS N x6.At x5).bind fun x7 => (if decide (x7 < 0) then some (-1) else ((m_l_heldAlphaS_l1 N p0 k) x7 (IntKind.i64.wrap (s2 + 1)))))))))))))) else some s1)
def m_l_heldAlphaS (N : Nat) (p0 : (List TAlpha)) (p1 : Int) : Option (Int) :=
  m_l_heldAlphaS_l1 N p0 N p1 0
/-! laws.heldChainS -/
def m_l_heldChainS_l1 (N : Nat) (p0 : (List TChain)) : Nat → Int → Int → Option (Int)
  | 0, _, _ => none
  | k + 1, s1, s2 =>
    (if decide (s2 < (p0.length : Int)) then ((idx p0 s2).bind fun x1 => ((m_l_heldIntS N x1.Pos s1).bind fun x2 => (if decide (x2 < 0) then some (-1) else ((idx p0 s2).bind fun x3 => ((m_l_heldIntS N x3.Neg x2).bind fun x4 => (if decide (x4 < 0) then some (-1) else ((m_l_heldChainS_l1 N p0 k) x4 (IntKind.i64.wrap (s2 + 1))))))))) else some s1)
def m_l_heldChainS (N : Nat) (p0 : (List TChain)) (p1 : Int) : Option (Int) :=
  m_l_heldChainS_l1 N p0 N p1 0
/-! laws.heldNet -/
def m_l_heldNet (N : Nat) (p0 : TNet) (p1 : Int) : Option (Int) :=
  ((m_l_heldAlphaS N p0.Alphas p1).bind fun x1 => (if decide (x1 < 0) then some (-1) else ((m_l_heldChainS N p0.Chains x1).bind fun x2 => (if decide (x2 < 0) then some (-1) else some x2))))
/-! laws.FnExactNetOf -/
def m_l_FnExactNetOf (N : Nat) (p0 : TDef) : Option (Bool) :=
  ((m_l_szDef N p0 1048576).bind fun x1 => (if decide (x1 < 0) then some true else ((m_l_toDef N p0).bind fun x2 => ((m_s_NetOf N x2).bind fun x3 => ((m_l_toDef N p0).bind fun x5 => ((m_i_NetOf N x5).bind fun x6 => ((m_l_eqNet N x6 x3).bind fun x7 => (if !x7 then some false else ((m_l_toDef N p0).bind fun x8 => ((m_l_eqDef N x5 x8).bind fun x9 => (if !x9 then some false else ((m_l_markDef N x5 1).bind fun x10 => ((if decide (x10.1 < 0) then some true else ((m_l_eqNet N x6 x3).bind fun x11 => some (!x11))).bind fun b1 => (if b1 then some false else ((m_l_markNet N x6 1).bind fun x12 => ((m_l_heldNet N (⟨x12.2.1, x12.2.2⟩ : TNet) 1).bind fun x13 => (if decide (x13 < 0) then some false else (if !decide (x13 = x12.1) then some false else ((m_l_toDef N p0).bind fun x14 => ((m_i_NetOf N x14).bind fun x15 => ((m_l_eqNet N x15 x3).bind fun x16 => (if !x16 then some false else ((m_l_heldNet N (⟨x12.2.1, x12.2.2⟩ : TNet) 1).bind fun x17 => (if decide (x17 < 0) then some false else (if !decide (x17 = x12.1) then some false else some true)))))))))))))))))))))))))
end Go.Proofs.YtjangilipfjcmaaGreat
