/- Printed by a program of ours: Lean functions of plain data for the Go functions. -/
import Derived.Test.YtjccaebpbieejaaGreatEK
namespace Go.Proofs.YtjccaebpbieejaaGreat
open Eng IntKind
set_option linter.unusedVariables false
set_option linter.unusedSimpArgs false

structure TVal where
  K : Int
  N : Int
  S : ByteArray
  deriving DecidableEq
def RTVal (Φ : Hp) (F : List Nat) (cs : List Value) (x : TVal) : Prop := cs = [.int .i64 x.K, .int .i64 x.N, .string x.S] ∧ F = []
theorem RTVal.lasts : Lasts RTVal := fun _ _ _ _ _ _ _ _ h => h
instance : LS RTVal := ⟨RTVal.lasts⟩
theorem RTVal.knows : Knows RTVal := fun _ _ _ _ h => h.2 ▸ Kw.nil
theorem RTVal.flat : Flat RTVal := fun _ _ _ _ h => h.2
theorem RTVal.one : Ones RTVal := fun _ _ _ _ h => by obtain ⟨rfl, -⟩ := h; exact One.all ⟨rfl, rfl, rfl, trivial⟩
structure TArg where
  K : Int
  S : ByteArray
  V : TVal
  deriving DecidableEq
def RTArg (Φ : Hp) (F : List Nat) (cs : List Value) (x : TArg) : Prop := cs = [.int .i64 x.K, .string x.S, .int .i64 x.V.K, .int .i64 x.V.N, .string x.V.S] ∧ F = []
theorem RTArg.lasts : Lasts RTArg := fun _ _ _ _ _ _ _ _ h => h
instance : LS RTArg := ⟨RTArg.lasts⟩
theorem RTArg.knows : Knows RTArg := fun _ _ _ _ h => h.2 ▸ Kw.nil
theorem RTArg.flat : Flat RTArg := fun _ _ _ _ h => h.2
theorem RTArg.one : Ones RTArg := fun _ _ _ _ h => by obtain ⟨rfl, -⟩ := h; exact One.all ⟨rfl, rfl, rfl, rfl, rfl, trivial⟩
structure TPat where
  Kind : ByteArray
  Args : (List TArg)
  Not : Bool
  deriving DecidableEq
def RTPat (Φ : Hp) (F : List Nat) (cs : List Value) (x : TPat) : Prop :=
  ∃ (s0 : Value) (F0 : List Nat), cs = [.string x.Kind, s0, .bool x.Not] ∧ F = F0 ∧ RSl RTArg 5 Φ F0 s0 x.Args
theorem RTPat.lasts : Lasts RTPat := fun X Φ Φ' F cs x hf hd ⟨s0, F0, hc, hF, h0⟩ => by
  rw [hF] at hd
  exact ⟨s0, F0, hc, hF, h0.frame RTArg.lasts hf (fun k hk => hd k (by simp [hk]))⟩
instance : LS RTPat := ⟨RTPat.lasts⟩
theorem RTPat.knows : Knows RTPat := fun Φ F cs x ⟨s0, F0, hc, hF, h0⟩ => hF ▸ h0.kn
theorem RTPat.one : Ones RTPat := fun _ _ _ _ h => by obtain ⟨s0, F0, rfl, -, h0⟩ := h; exact One.all ⟨rfl, h0.one, rfl, trivial⟩
def OTPat (Φ : Hp) (F : List Nat) (cs : List Value) (x : TPat) : Prop :=
  ∃ (s0 : Value), cs = [.string x.Kind, s0, .bool x.Not] ∧ F = (ob s0 ++ []) ∧ OSl RTArg 135 5 Φ [] s0 x.Args
theorem OTPat.lasts : Lasts OTPat := fun X Φ Φ' F cs x hf hd ⟨s0, hc, hF, h0⟩ => by
  rw [hF] at hd
  exact ⟨s0, hc, hF, h0.frame RTArg.lasts hf (fun k hk => hd k (by simp [hk])) (Dj.nil _)⟩
instance : LS OTPat := ⟨OTPat.lasts⟩
theorem OTPat.knows : Knows OTPat := fun Φ F cs x ⟨s0, hc, hF, h0⟩ => hF ▸ (h0.knO.app h0.kn)
theorem OTPat.one : Ones OTPat := fun _ _ _ _ h => by obtain ⟨s0, rfl, -, h0⟩ := h; exact One.all ⟨rfl, h0.one, rfl, trivial⟩
theorem OTPat.gives : Gives OTPat RTPat := fun Φ F cs x ⟨s0, hc, hF, h0⟩ => ⟨s0, ob s0 ++ [], hc, hF, h0.rslG (Gives.refl _)⟩
structure TCond where
  Op : Int
  L : TArg
  R : TArg
  deriving DecidableEq
def RTCond (Φ : Hp) (F : List Nat) (cs : List Value) (x : TCond) : Prop := cs = [.int .i64 x.Op, .int .i64 x.L.K, .string x.L.S, .int .i64 x.L.V.K, .int .i64 x.L.V.N, .string x.L.V.S, .int .i64 x.R.K, .string x.R.S, .int .i64 x.R.V.K, .int .i64 x.R.V.N, .string x.R.V.S] ∧ F = []
theorem RTCond.lasts : Lasts RTCond := fun _ _ _ _ _ _ _ _ h => h
instance : LS RTCond := ⟨RTCond.lasts⟩
theorem RTCond.knows : Knows RTCond := fun _ _ _ _ h => h.2 ▸ Kw.nil
theorem RTCond.flat : Flat RTCond := fun _ _ _ _ h => h.2
theorem RTCond.one : Ones RTCond := fun _ _ _ _ h => by obtain ⟨rfl, -⟩ := h; exact One.all ⟨rfl, rfl, rfl, rfl, rfl, rfl, rfl, rfl, rfl, rfl, rfl, trivial⟩
structure TExpr where
  Op : ByteArray
  L : TArg
  R : TArg
  deriving DecidableEq
def RTExpr (Φ : Hp) (F : List Nat) (cs : List Value) (x : TExpr) : Prop := cs = [.string x.Op, .int .i64 x.L.K, .string x.L.S, .int .i64 x.L.V.K, .int .i64 x.L.V.N, .string x.L.V.S, .int .i64 x.R.K, .string x.R.S, .int .i64 x.R.V.K, .int .i64 x.R.V.N, .string x.R.V.S] ∧ F = []
theorem RTExpr.lasts : Lasts RTExpr := fun _ _ _ _ _ _ _ _ h => h
instance : LS RTExpr := ⟨RTExpr.lasts⟩
theorem RTExpr.knows : Knows RTExpr := fun _ _ _ _ h => h.2 ▸ Kw.nil
theorem RTExpr.flat : Flat RTExpr := fun _ _ _ _ h => h.2
theorem RTExpr.one : Ones RTExpr := fun _ _ _ _ h => by obtain ⟨rfl, -⟩ := h; exact One.all ⟨rfl, rfl, rfl, rfl, rfl, rfl, rfl, rfl, rfl, rfl, rfl, trivial⟩
structure TAct where
  Kind : Int
  Name : ByteArray
  Args : (List TExpr)
  N : Int
  Undo : ByteArray
  deriving DecidableEq
def RTAct (Φ : Hp) (F : List Nat) (cs : List Value) (x : TAct) : Prop :=
  ∃ (s0 : Value) (F0 : List Nat), cs = [.int .i64 x.Kind, .string x.Name, s0, .int .i64 x.N, .string x.Undo] ∧ F = F0 ∧ RSl RTExpr 11 Φ F0 s0 x.Args
theorem RTAct.lasts : Lasts RTAct := fun X Φ Φ' F cs x hf hd ⟨s0, F0, hc, hF, h0⟩ => by
  rw [hF] at hd
  exact ⟨s0, F0, hc, hF, h0.frame RTExpr.lasts hf (fun k hk => hd k (by simp [hk]))⟩
instance : LS RTAct := ⟨RTAct.lasts⟩
theorem RTAct.knows : Knows RTAct := fun Φ F cs x ⟨s0, F0, hc, hF, h0⟩ => hF ▸ h0.kn
theorem RTAct.one : Ones RTAct := fun _ _ _ _ h => by obtain ⟨s0, F0, rfl, -, h0⟩ := h; exact One.all ⟨rfl, rfl, h0.one, rfl, rfl, trivial⟩
def OTAct (Φ : Hp) (F : List Nat) (cs : List Value) (x : TAct) : Prop :=
  ∃ (s0 : Value), cs = [.int .i64 x.Kind, .string x.Name, s0, .int .i64 x.N, .string x.Undo] ∧ F = (ob s0 ++ []) ∧ OSl RTExpr 229 11 Φ [] s0 x.Args
theorem OTAct.lasts : Lasts OTAct := fun X Φ Φ' F cs x hf hd ⟨s0, hc, hF, h0⟩ => by
  rw [hF] at hd
  exact ⟨s0, hc, hF, h0.frame RTExpr.lasts hf (fun k hk => hd k (by simp [hk])) (Dj.nil _)⟩
instance : LS OTAct := ⟨OTAct.lasts⟩
theorem OTAct.knows : Knows OTAct := fun Φ F cs x ⟨s0, hc, hF, h0⟩ => hF ▸ (h0.knO.app h0.kn)
theorem OTAct.one : Ones OTAct := fun _ _ _ _ h => by obtain ⟨s0, rfl, -, h0⟩ := h; exact One.all ⟨rfl, rfl, h0.one, rfl, rfl, trivial⟩
theorem OTAct.gives : Gives OTAct RTAct := fun Φ F cs x ⟨s0, hc, hF, h0⟩ => ⟨s0, ob s0 ++ [], hc, hF, h0.rslG (Gives.refl _)⟩
structure TRule where
  Name : ByteArray
  Sal : Int
  Pats : (List TPat)
  Conds : (List TCond)
  Acts : (List TAct)
  deriving DecidableEq
def RTRule (Φ : Hp) (F : List Nat) (cs : List Value) (x : TRule) : Prop :=
  ∃ (s0 : Value) (F0 : List Nat) (s1 : Value) (F1 : List Nat) (s2 : Value) (F2 : List Nat), cs = [.string x.Name, .int .i64 x.Sal, s0, s1, s2] ∧ F = F0 ++ (F1 ++ (F2)) ∧ RSl RTPat 3 Φ F0 s0 x.Pats ∧ RSl RTCond 11 Φ F1 s1 x.Conds ∧ RSl RTAct 5 Φ F2 s2 x.Acts
theorem RTRule.lasts : Lasts RTRule := fun X Φ Φ' F cs x hf hd ⟨s0, F0, s1, F1, s2, F2, hc, hF, h0, h1, h2⟩ => by
  rw [hF] at hd
  exact ⟨s0, F0, s1, F1, s2, F2, hc, hF, h0.frame RTPat.lasts hf (fun k hk => hd k (by simp [hk])), h1.frame RTCond.lasts hf (fun k hk => hd k (by simp [hk])), h2.frame RTAct.lasts hf (fun k hk => hd k (by simp [hk]))⟩
instance : LS RTRule := ⟨RTRule.lasts⟩
theorem RTRule.knows : Knows RTRule := fun Φ F cs x ⟨s0, F0, s1, F1, s2, F2, hc, hF, h0, h1, h2⟩ => hF ▸ (h0.kn.app (h1.kn.app h2.kn))
theorem RTRule.one : Ones RTRule := fun _ _ _ _ h => by obtain ⟨s0, F0, s1, F1, s2, F2, rfl, -, h0, h1, h2⟩ := h; exact One.all ⟨rfl, rfl, h0.one, h1.one, h2.one, trivial⟩
def OTRule (Φ : Hp) (F : List Nat) (cs : List Value) (x : TRule) : Prop :=
  ∃ (s0 : Value) (D0 : List Nat) (s1 : Value) (s2 : Value) (D2 : List Nat), cs = [.string x.Name, .int .i64 x.Sal, s0, s1, s2] ∧ F = (ob s0 ++ D0) ++ ((ob s1 ++ []) ++ ((ob s2 ++ D2))) ∧ OSl OTPat 124 3 Φ D0 s0 x.Pats ∧ OSl RTCond 137 11 Φ [] s1 x.Conds ∧ OSl OTAct 193 5 Φ D2 s2 x.Acts
theorem OTRule.lasts : Lasts OTRule := fun X Φ Φ' F cs x hf hd ⟨s0, D0, s1, s2, D2, hc, hF, h0, h1, h2⟩ => by
  rw [hF] at hd
  exact ⟨s0, D0, s1, s2, D2, hc, hF, h0.frame OTPat.lasts hf (fun k hk => hd k (by simp [hk])) (fun k hk => hd k (by simp [hk])), h1.frame RTCond.lasts hf (fun k hk => hd k (by simp [hk])) (Dj.nil _), h2.frame OTAct.lasts hf (fun k hk => hd k (by simp [hk])) (fun k hk => hd k (by simp [hk]))⟩
instance : LS OTRule := ⟨OTRule.lasts⟩
theorem OTRule.knows : Knows OTRule := fun Φ F cs x ⟨s0, D0, s1, s2, D2, hc, hF, h0, h1, h2⟩ => hF ▸ ((h0.knO.app h0.kn).app ((h1.knO.app h1.kn).app (h2.knO.app h2.kn)))
theorem OTRule.one : Ones OTRule := fun _ _ _ _ h => by obtain ⟨s0, D0, s1, s2, D2, rfl, -, h0, h1, h2⟩ := h; exact One.all ⟨rfl, rfl, h0.one, h1.one, h2.one, trivial⟩
theorem OTRule.gives : Gives OTRule RTRule := fun Φ F cs x ⟨s0, D0, s1, s2, D2, hc, hF, h0, h1, h2⟩ => ⟨s0, ob s0 ++ D0, s1, ob s1 ++ [], s2, ob s2 ++ D2, hc, hF, h0.rslG OTPat.gives, h1.rslG (Gives.refl _), h2.rslG OTAct.gives⟩
structure TDef where
  Name : ByteArray
  Rules : (List TRule)
  deriving DecidableEq
def RTDef (Φ : Hp) (F : List Nat) (cs : List Value) (x : TDef) : Prop :=
  ∃ (s0 : Value) (F0 : List Nat), cs = [.string x.Name, s0] ∧ F = F0 ∧ RSl RTRule 5 Φ F0 s0 x.Rules
theorem RTDef.lasts : Lasts RTDef := fun X Φ Φ' F cs x hf hd ⟨s0, F0, hc, hF, h0⟩ => by
  rw [hF] at hd
  exact ⟨s0, F0, hc, hF, h0.frame RTRule.lasts hf (fun k hk => hd k (by simp [hk]))⟩
instance : LS RTDef := ⟨RTDef.lasts⟩
theorem RTDef.knows : Knows RTDef := fun Φ F cs x ⟨s0, F0, hc, hF, h0⟩ => hF ▸ h0.kn
theorem RTDef.one : Ones RTDef := fun _ _ _ _ h => by obtain ⟨s0, F0, rfl, -, h0⟩ := h; exact One.all ⟨rfl, h0.one, trivial⟩
def OTDef (Φ : Hp) (F : List Nat) (cs : List Value) (x : TDef) : Prop :=
  ∃ (s0 : Value) (D0 : List Nat), cs = [.string x.Name, s0] ∧ F = (ob s0 ++ D0) ∧ OSl OTRule 76 5 Φ D0 s0 x.Rules
theorem OTDef.lasts : Lasts OTDef := fun X Φ Φ' F cs x hf hd ⟨s0, D0, hc, hF, h0⟩ => by
  rw [hF] at hd
  exact ⟨s0, D0, hc, hF, h0.frame OTRule.lasts hf (fun k hk => hd k (by simp [hk])) (fun k hk => hd k (by simp [hk]))⟩
instance : LS OTDef := ⟨OTDef.lasts⟩
theorem OTDef.knows : Knows OTDef := fun Φ F cs x ⟨s0, D0, hc, hF, h0⟩ => hF ▸ (h0.knO.app h0.kn)
theorem OTDef.one : Ones OTDef := fun _ _ _ _ h => by obtain ⟨s0, D0, rfl, -, h0⟩ := h; exact One.all ⟨rfl, h0.one, trivial⟩
theorem OTDef.gives : Gives OTDef RTDef := fun Φ F cs x ⟨s0, D0, hc, hF, h0⟩ => ⟨s0, ob s0 ++ D0, hc, hF, h0.rslG OTRule.gives⟩
structure TIds where
  L : (List Int)
  deriving DecidableEq
def RTIds (Φ : Hp) (F : List Nat) (cs : List Value) (x : TIds) : Prop :=
  ∃ (s0 : Value) (F0 : List Nat), cs = [s0] ∧ F = F0 ∧ RSl (RI .i64) 1 Φ F0 s0 x.L
theorem RTIds.lasts : Lasts RTIds := fun X Φ Φ' F cs x hf hd ⟨s0, F0, hc, hF, h0⟩ => by
  rw [hF] at hd
  exact ⟨s0, F0, hc, hF, h0.frame RI.lasts hf (fun k hk => hd k (by simp [hk]))⟩
instance : LS RTIds := ⟨RTIds.lasts⟩
theorem RTIds.knows : Knows RTIds := fun Φ F cs x ⟨s0, F0, hc, hF, h0⟩ => hF ▸ h0.kn
theorem RTIds.one : Ones RTIds := fun _ _ _ _ h => by obtain ⟨s0, F0, rfl, -, h0⟩ := h; exact One.all ⟨h0.one, trivial⟩
def OTIds (Φ : Hp) (F : List Nat) (cs : List Value) (x : TIds) : Prop :=
  ∃ (s0 : Value), cs = [s0] ∧ F = (ob s0 ++ []) ∧ OSl (RI .i64) 3 1 Φ [] s0 x.L
theorem OTIds.lasts : Lasts OTIds := fun X Φ Φ' F cs x hf hd ⟨s0, hc, hF, h0⟩ => by
  rw [hF] at hd
  exact ⟨s0, hc, hF, h0.frame RI.lasts hf (fun k hk => hd k (by simp [hk])) (Dj.nil _)⟩
instance : LS OTIds := ⟨OTIds.lasts⟩
theorem OTIds.knows : Knows OTIds := fun Φ F cs x ⟨s0, hc, hF, h0⟩ => hF ▸ (h0.knO.app h0.kn)
theorem OTIds.one : Ones OTIds := fun _ _ _ _ h => by obtain ⟨s0, rfl, -, h0⟩ := h; exact One.all ⟨h0.one, trivial⟩
theorem OTIds.gives : Gives OTIds RTIds := fun Φ F cs x ⟨s0, hc, hF, h0⟩ => ⟨s0, ob s0 ++ [], hc, hF, h0.rslG (Gives.refl _)⟩
structure TTok where
  Ids : (List Int)
  Hits : (List Int)
  deriving DecidableEq
def RTTok (Φ : Hp) (F : List Nat) (cs : List Value) (x : TTok) : Prop :=
  ∃ (s0 : Value) (F0 : List Nat) (s1 : Value) (F1 : List Nat), cs = [s0, s1] ∧ F = F0 ++ (F1) ∧ RSl (RI .i64) 1 Φ F0 s0 x.Ids ∧ RSl (RI .i64) 1 Φ F1 s1 x.Hits
theorem RTTok.lasts : Lasts RTTok := fun X Φ Φ' F cs x hf hd ⟨s0, F0, s1, F1, hc, hF, h0, h1⟩ => by
  rw [hF] at hd
  exact ⟨s0, F0, s1, F1, hc, hF, h0.frame RI.lasts hf (fun k hk => hd k (by simp [hk])), h1.frame RI.lasts hf (fun k hk => hd k (by simp [hk]))⟩
instance : LS RTTok := ⟨RTTok.lasts⟩
theorem RTTok.knows : Knows RTTok := fun Φ F cs x ⟨s0, F0, s1, F1, hc, hF, h0, h1⟩ => hF ▸ (h0.kn.app h1.kn)
theorem RTTok.one : Ones RTTok := fun _ _ _ _ h => by obtain ⟨s0, F0, s1, F1, rfl, -, h0, h1⟩ := h; exact One.all ⟨h0.one, h1.one, trivial⟩
def OTTok (Φ : Hp) (F : List Nat) (cs : List Value) (x : TTok) : Prop :=
  ∃ (s0 : Value) (s1 : Value), cs = [s0, s1] ∧ F = (ob s0 ++ []) ++ ((ob s1 ++ [])) ∧ OSl (RI .i64) 3 1 Φ [] s0 x.Ids ∧ OSl (RI .i64) 3 1 Φ [] s1 x.Hits
theorem OTTok.lasts : Lasts OTTok := fun X Φ Φ' F cs x hf hd ⟨s0, s1, hc, hF, h0, h1⟩ => by
  rw [hF] at hd
  exact ⟨s0, s1, hc, hF, h0.frame RI.lasts hf (fun k hk => hd k (by simp [hk])) (Dj.nil _), h1.frame RI.lasts hf (fun k hk => hd k (by simp [hk])) (Dj.nil _)⟩
instance : LS OTTok := ⟨OTTok.lasts⟩
theorem OTTok.knows : Knows OTTok := fun Φ F cs x ⟨s0, s1, hc, hF, h0, h1⟩ => hF ▸ ((h0.knO.app h0.kn).app (h1.knO.app h1.kn))
theorem OTTok.one : Ones OTTok := fun _ _ _ _ h => by obtain ⟨s0, s1, rfl, -, h0, h1⟩ := h; exact One.all ⟨h0.one, h1.one, trivial⟩
theorem OTTok.gives : Gives OTTok RTTok := fun Φ F cs x ⟨s0, s1, hc, hF, h0, h1⟩ => ⟨s0, ob s0 ++ [], s1, ob s1 ++ [], hc, hF, h0.rslG (Gives.refl _), h1.rslG (Gives.refl _)⟩
structure TLevel where
  Toks : (List TTok)
  deriving DecidableEq
def RTLevel (Φ : Hp) (F : List Nat) (cs : List Value) (x : TLevel) : Prop :=
  ∃ (s0 : Value) (F0 : List Nat), cs = [s0] ∧ F = F0 ∧ RSl RTTok 2 Φ F0 s0 x.Toks
theorem RTLevel.lasts : Lasts RTLevel := fun X Φ Φ' F cs x hf hd ⟨s0, F0, hc, hF, h0⟩ => by
  rw [hF] at hd
  exact ⟨s0, F0, hc, hF, h0.frame RTTok.lasts hf (fun k hk => hd k (by simp [hk]))⟩
instance : LS RTLevel := ⟨RTLevel.lasts⟩
theorem RTLevel.knows : Knows RTLevel := fun Φ F cs x ⟨s0, F0, hc, hF, h0⟩ => hF ▸ h0.kn
theorem RTLevel.one : Ones RTLevel := fun _ _ _ _ h => by obtain ⟨s0, F0, rfl, -, h0⟩ := h; exact One.all ⟨h0.one, trivial⟩
def OTLevel (Φ : Hp) (F : List Nat) (cs : List Value) (x : TLevel) : Prop :=
  ∃ (s0 : Value) (D0 : List Nat), cs = [s0] ∧ F = (ob s0 ++ D0) ∧ OSl OTTok 79 2 Φ D0 s0 x.Toks
theorem OTLevel.lasts : Lasts OTLevel := fun X Φ Φ' F cs x hf hd ⟨s0, D0, hc, hF, h0⟩ => by
  rw [hF] at hd
  exact ⟨s0, D0, hc, hF, h0.frame OTTok.lasts hf (fun k hk => hd k (by simp [hk])) (fun k hk => hd k (by simp [hk]))⟩
instance : LS OTLevel := ⟨OTLevel.lasts⟩
theorem OTLevel.knows : Knows OTLevel := fun Φ F cs x ⟨s0, D0, hc, hF, h0⟩ => hF ▸ (h0.knO.app h0.kn)
theorem OTLevel.one : Ones OTLevel := fun _ _ _ _ h => by obtain ⟨s0, D0, rfl, -, h0⟩ := h; exact One.all ⟨h0.one, trivial⟩
theorem OTLevel.gives : Gives OTLevel RTLevel := fun Φ F cs x ⟨s0, D0, hc, hF, h0⟩ => ⟨s0, ob s0 ++ D0, hc, hF, h0.rslG OTTok.gives⟩
structure TRow where
  Levels : (List TLevel)
  deriving DecidableEq
def RTRow (Φ : Hp) (F : List Nat) (cs : List Value) (x : TRow) : Prop :=
  ∃ (s0 : Value) (F0 : List Nat), cs = [s0] ∧ F = F0 ∧ RSl RTLevel 1 Φ F0 s0 x.Levels
theorem RTRow.lasts : Lasts RTRow := fun X Φ Φ' F cs x hf hd ⟨s0, F0, hc, hF, h0⟩ => by
  rw [hF] at hd
  exact ⟨s0, F0, hc, hF, h0.frame RTLevel.lasts hf (fun k hk => hd k (by simp [hk]))⟩
instance : LS RTRow := ⟨RTRow.lasts⟩
theorem RTRow.knows : Knows RTRow := fun Φ F cs x ⟨s0, F0, hc, hF, h0⟩ => hF ▸ h0.kn
theorem RTRow.one : Ones RTRow := fun _ _ _ _ h => by obtain ⟨s0, F0, rfl, -, h0⟩ := h; exact One.all ⟨h0.one, trivial⟩
def OTRow (Φ : Hp) (F : List Nat) (cs : List Value) (x : TRow) : Prop :=
  ∃ (s0 : Value) (D0 : List Nat), cs = [s0] ∧ F = (ob s0 ++ D0) ∧ OSl OTLevel 68 1 Φ D0 s0 x.Levels
theorem OTRow.lasts : Lasts OTRow := fun X Φ Φ' F cs x hf hd ⟨s0, D0, hc, hF, h0⟩ => by
  rw [hF] at hd
  exact ⟨s0, D0, hc, hF, h0.frame OTLevel.lasts hf (fun k hk => hd k (by simp [hk])) (fun k hk => hd k (by simp [hk]))⟩
instance : LS OTRow := ⟨OTRow.lasts⟩
theorem OTRow.knows : Knows OTRow := fun Φ F cs x ⟨s0, D0, hc, hF, h0⟩ => hF ▸ (h0.knO.app h0.kn)
theorem OTRow.one : Ones OTRow := fun _ _ _ _ h => by obtain ⟨s0, D0, rfl, -, h0⟩ := h; exact One.all ⟨h0.one, trivial⟩
theorem OTRow.gives : Gives OTRow RTRow := fun Φ F cs x ⟨s0, D0, hc, hF, h0⟩ => ⟨s0, ob s0 ++ D0, hc, hF, h0.rslG OTLevel.gives⟩
structure TMem where
  Alphas : (List TIds)
  Rules : (List TRow)
  deriving DecidableEq
def RTMem (Φ : Hp) (F : List Nat) (cs : List Value) (x : TMem) : Prop :=
  ∃ (s0 : Value) (F0 : List Nat) (s1 : Value) (F1 : List Nat), cs = [s0, s1] ∧ F = F0 ++ (F1) ∧ RSl RTIds 1 Φ F0 s0 x.Alphas ∧ RSl RTRow 1 Φ F1 s1 x.Rules
theorem RTMem.lasts : Lasts RTMem := fun X Φ Φ' F cs x hf hd ⟨s0, F0, s1, F1, hc, hF, h0, h1⟩ => by
  rw [hF] at hd
  exact ⟨s0, F0, s1, F1, hc, hF, h0.frame RTIds.lasts hf (fun k hk => hd k (by simp [hk])), h1.frame RTRow.lasts hf (fun k hk => hd k (by simp [hk]))⟩
instance : LS RTMem := ⟨RTMem.lasts⟩
theorem RTMem.knows : Knows RTMem := fun Φ F cs x ⟨s0, F0, s1, F1, hc, hF, h0, h1⟩ => hF ▸ (h0.kn.app h1.kn)
theorem RTMem.one : Ones RTMem := fun _ _ _ _ h => by obtain ⟨s0, F0, s1, F1, rfl, -, h0, h1⟩ := h; exact One.all ⟨h0.one, h1.one, trivial⟩
def OTMem (Φ : Hp) (F : List Nat) (cs : List Value) (x : TMem) : Prop :=
  ∃ (s0 : Value) (D0 : List Nat) (s1 : Value) (D1 : List Nat), cs = [s0, s1] ∧ F = (ob s0 ++ D0) ++ ((ob s1 ++ D1)) ∧ OSl OTIds 139 1 Φ D0 s0 x.Alphas ∧ OSl OTRow 65 1 Φ D1 s1 x.Rules
theorem OTMem.lasts : Lasts OTMem := fun X Φ Φ' F cs x hf hd ⟨s0, D0, s1, D1, hc, hF, h0, h1⟩ => by
  rw [hF] at hd
  exact ⟨s0, D0, s1, D1, hc, hF, h0.frame OTIds.lasts hf (fun k hk => hd k (by simp [hk])) (fun k hk => hd k (by simp [hk])), h1.frame OTRow.lasts hf (fun k hk => hd k (by simp [hk])) (fun k hk => hd k (by simp [hk]))⟩
instance : LS OTMem := ⟨OTMem.lasts⟩
theorem OTMem.knows : Knows OTMem := fun Φ F cs x ⟨s0, D0, s1, D1, hc, hF, h0, h1⟩ => hF ▸ ((h0.knO.app h0.kn).app (h1.knO.app h1.kn))
theorem OTMem.one : Ones OTMem := fun _ _ _ _ h => by obtain ⟨s0, D0, s1, D1, rfl, -, h0, h1⟩ := h; exact One.all ⟨h0.one, h1.one, trivial⟩
theorem OTMem.gives : Gives OTMem RTMem := fun Φ F cs x ⟨s0, D0, s1, D1, hc, hF, h0, h1⟩ => ⟨s0, ob s0 ++ D0, s1, ob s1 ++ D1, hc, hF, h0.rslG OTIds.gives, h1.rslG OTRow.gives⟩
structure TFact where
  Kind : ByteArray
  Fields : (List TVal)
  deriving DecidableEq
def RTFact (Φ : Hp) (F : List Nat) (cs : List Value) (x : TFact) : Prop :=
  ∃ (s0 : Value) (F0 : List Nat), cs = [.string x.Kind, s0] ∧ F = F0 ∧ RSl RTVal 3 Φ F0 s0 x.Fields
theorem RTFact.lasts : Lasts RTFact := fun X Φ Φ' F cs x hf hd ⟨s0, F0, hc, hF, h0⟩ => by
  rw [hF] at hd
  exact ⟨s0, F0, hc, hF, h0.frame RTVal.lasts hf (fun k hk => hd k (by simp [hk]))⟩
instance : LS RTFact := ⟨RTFact.lasts⟩
theorem RTFact.knows : Knows RTFact := fun Φ F cs x ⟨s0, F0, hc, hF, h0⟩ => hF ▸ h0.kn
theorem RTFact.one : Ones RTFact := fun _ _ _ _ h => by obtain ⟨s0, F0, rfl, -, h0⟩ := h; exact One.all ⟨rfl, h0.one, trivial⟩
def OTFact (Φ : Hp) (F : List Nat) (cs : List Value) (x : TFact) : Prop :=
  ∃ (s0 : Value), cs = [.string x.Kind, s0] ∧ F = (ob s0 ++ []) ∧ OSl RTVal 133 3 Φ [] s0 x.Fields
theorem OTFact.lasts : Lasts OTFact := fun X Φ Φ' F cs x hf hd ⟨s0, hc, hF, h0⟩ => by
  rw [hF] at hd
  exact ⟨s0, hc, hF, h0.frame RTVal.lasts hf (fun k hk => hd k (by simp [hk])) (Dj.nil _)⟩
instance : LS OTFact := ⟨OTFact.lasts⟩
theorem OTFact.knows : Knows OTFact := fun Φ F cs x ⟨s0, hc, hF, h0⟩ => hF ▸ (h0.knO.app h0.kn)
theorem OTFact.one : Ones OTFact := fun _ _ _ _ h => by obtain ⟨s0, rfl, -, h0⟩ := h; exact One.all ⟨rfl, h0.one, trivial⟩
theorem OTFact.gives : Gives OTFact RTFact := fun Φ F cs x ⟨s0, hc, hF, h0⟩ => ⟨s0, ob s0 ++ [], hc, hF, h0.rslG (Gives.refl _)⟩
structure TItem where
  Id : Int
  F : TFact
  deriving DecidableEq
def RTItem (Φ : Hp) (F : List Nat) (cs : List Value) (x : TItem) : Prop :=
  ∃ (s0 : Value) (F0 : List Nat), cs = [.int .i64 x.Id, .string x.F.Kind, s0] ∧ F = F0 ∧ RSl RTVal 3 Φ F0 s0 x.F.Fields
theorem RTItem.lasts : Lasts RTItem := fun X Φ Φ' F cs x hf hd ⟨s0, F0, hc, hF, h0⟩ => by
  rw [hF] at hd
  exact ⟨s0, F0, hc, hF, h0.frame RTVal.lasts hf (fun k hk => hd k (by simp [hk]))⟩
instance : LS RTItem := ⟨RTItem.lasts⟩
theorem RTItem.knows : Knows RTItem := fun Φ F cs x ⟨s0, F0, hc, hF, h0⟩ => hF ▸ h0.kn
theorem RTItem.one : Ones RTItem := fun _ _ _ _ h => by obtain ⟨s0, F0, rfl, -, h0⟩ := h; exact One.all ⟨rfl, rfl, h0.one, trivial⟩
def OTItem (Φ : Hp) (F : List Nat) (cs : List Value) (x : TItem) : Prop :=
  ∃ (s0 : Value), cs = [.int .i64 x.Id, .string x.F.Kind, s0] ∧ F = (ob s0 ++ []) ∧ OSl RTVal 133 3 Φ [] s0 x.F.Fields
theorem OTItem.lasts : Lasts OTItem := fun X Φ Φ' F cs x hf hd ⟨s0, hc, hF, h0⟩ => by
  rw [hF] at hd
  exact ⟨s0, hc, hF, h0.frame RTVal.lasts hf (fun k hk => hd k (by simp [hk])) (Dj.nil _)⟩
instance : LS OTItem := ⟨OTItem.lasts⟩
theorem OTItem.knows : Knows OTItem := fun Φ F cs x ⟨s0, hc, hF, h0⟩ => hF ▸ (h0.knO.app h0.kn)
theorem OTItem.one : Ones OTItem := fun _ _ _ _ h => by obtain ⟨s0, rfl, -, h0⟩ := h; exact One.all ⟨rfl, rfl, h0.one, trivial⟩
theorem OTItem.gives : Gives OTItem RTItem := fun Φ F cs x ⟨s0, hc, hF, h0⟩ => ⟨s0, ob s0 ++ [], hc, hF, h0.rslG (Gives.refl _)⟩
structure TStore where
  Items : (List TItem)
  Next : Int
  deriving DecidableEq
def RTStore (Φ : Hp) (F : List Nat) (cs : List Value) (x : TStore) : Prop :=
  ∃ (s0 : Value) (F0 : List Nat), cs = [s0, .int .i64 x.Next] ∧ F = F0 ∧ RSl RTItem 3 Φ F0 s0 x.Items
theorem RTStore.lasts : Lasts RTStore := fun X Φ Φ' F cs x hf hd ⟨s0, F0, hc, hF, h0⟩ => by
  rw [hF] at hd
  exact ⟨s0, F0, hc, hF, h0.frame RTItem.lasts hf (fun k hk => hd k (by simp [hk]))⟩
instance : LS RTStore := ⟨RTStore.lasts⟩
theorem RTStore.knows : Knows RTStore := fun Φ F cs x ⟨s0, F0, hc, hF, h0⟩ => hF ▸ h0.kn
theorem RTStore.one : Ones RTStore := fun _ _ _ _ h => by obtain ⟨s0, F0, rfl, -, h0⟩ := h; exact One.all ⟨h0.one, rfl, trivial⟩
def OTStore (Φ : Hp) (F : List Nat) (cs : List Value) (x : TStore) : Prop :=
  ∃ (s0 : Value) (D0 : List Nat), cs = [s0, .int .i64 x.Next] ∧ F = (ob s0 ++ D0) ∧ OSl OTItem 143 3 Φ D0 s0 x.Items
theorem OTStore.lasts : Lasts OTStore := fun X Φ Φ' F cs x hf hd ⟨s0, D0, hc, hF, h0⟩ => by
  rw [hF] at hd
  exact ⟨s0, D0, hc, hF, h0.frame OTItem.lasts hf (fun k hk => hd k (by simp [hk])) (fun k hk => hd k (by simp [hk]))⟩
instance : LS OTStore := ⟨OTStore.lasts⟩
theorem OTStore.knows : Knows OTStore := fun Φ F cs x ⟨s0, D0, hc, hF, h0⟩ => hF ▸ (h0.knO.app h0.kn)
theorem OTStore.one : Ones OTStore := fun _ _ _ _ h => by obtain ⟨s0, D0, rfl, -, h0⟩ := h; exact One.all ⟨h0.one, rfl, trivial⟩
theorem OTStore.gives : Gives OTStore RTStore := fun Φ F cs x ⟨s0, D0, hc, hF, h0⟩ => ⟨s0, ob s0 ++ D0, hc, hF, h0.rslG OTItem.gives⟩
structure TBind where
  Name : ByteArray
  V : TVal
  deriving DecidableEq
def RTBind (Φ : Hp) (F : List Nat) (cs : List Value) (x : TBind) : Prop := cs = [.string x.Name, .int .i64 x.V.K, .int .i64 x.V.N, .string x.V.S] ∧ F = []
theorem RTBind.lasts : Lasts RTBind := fun _ _ _ _ _ _ _ _ h => h
instance : LS RTBind := ⟨RTBind.lasts⟩
theorem RTBind.knows : Knows RTBind := fun _ _ _ _ h => h.2 ▸ Kw.nil
theorem RTBind.flat : Flat RTBind := fun _ _ _ _ h => h.2
theorem RTBind.one : Ones RTBind := fun _ _ _ _ h => by obtain ⟨rfl, -⟩ := h; exact One.all ⟨rfl, rfl, rfl, rfl, trivial⟩
def eqT_TVal (x y : TVal) : Bool := ((x.K == y.K) && ((x.N == y.N) && (seq x.S y.S && true)))
theorem seq_dec (a b : ByteArray) : seq a b = decide (a = b) := by
  unfold seq
  by_cases h : a = b
  · subst h; simp
  · have : ¬ a.toList = b.toList := fun e => h (by rw [ByteArray.toList_eq, ByteArray.toList_eq] at e; exact ByteArray.ext (Array.toList_inj.1 e))
    simp [h, this]
theorem eqT_TVal_eq (x y : TVal) : eqT_TVal x y = decide (x = y) := by
  obtain ⟨a0, a1, a2⟩ := x; obtain ⟨b0, b1, b2⟩ := y
  rw [Bool.eq_iff_iff]
  simp only [eqT_TVal, seq_dec, Bool.and_true, Bool.and_eq_true, beq_iff_eq, decide_eq_true_eq, TVal.mk.injEq, and_assoc]
structure TMatch where
  Rule : Int
  Ids : (List Int)
  Binds : (List TBind)
  deriving DecidableEq
def RTMatch (Φ : Hp) (F : List Nat) (cs : List Value) (x : TMatch) : Prop :=
  ∃ (s0 : Value) (F0 : List Nat) (s1 : Value) (F1 : List Nat), cs = [.int .i64 x.Rule, s0, s1] ∧ F = F0 ++ (F1) ∧ RSl (RI .i64) 1 Φ F0 s0 x.Ids ∧ RSl RTBind 4 Φ F1 s1 x.Binds
theorem RTMatch.lasts : Lasts RTMatch := fun X Φ Φ' F cs x hf hd ⟨s0, F0, s1, F1, hc, hF, h0, h1⟩ => by
  rw [hF] at hd
  exact ⟨s0, F0, s1, F1, hc, hF, h0.frame RI.lasts hf (fun k hk => hd k (by simp [hk])), h1.frame RTBind.lasts hf (fun k hk => hd k (by simp [hk]))⟩
instance : LS RTMatch := ⟨RTMatch.lasts⟩
theorem RTMatch.knows : Knows RTMatch := fun Φ F cs x ⟨s0, F0, s1, F1, hc, hF, h0, h1⟩ => hF ▸ (h0.kn.app h1.kn)
theorem RTMatch.one : Ones RTMatch := fun _ _ _ _ h => by obtain ⟨s0, F0, s1, F1, rfl, -, h0, h1⟩ := h; exact One.all ⟨rfl, h0.one, h1.one, trivial⟩
def OTMatch (Φ : Hp) (F : List Nat) (cs : List Value) (x : TMatch) : Prop :=
  ∃ (s0 : Value) (s1 : Value), cs = [.int .i64 x.Rule, s0, s1] ∧ F = (ob s0 ++ []) ++ ((ob s1 ++ [])) ∧ OSl (RI .i64) 3 1 Φ [] s0 x.Ids ∧ OSl RTBind 164 4 Φ [] s1 x.Binds
theorem OTMatch.lasts : Lasts OTMatch := fun X Φ Φ' F cs x hf hd ⟨s0, s1, hc, hF, h0, h1⟩ => by
  rw [hF] at hd
  exact ⟨s0, s1, hc, hF, h0.frame RI.lasts hf (fun k hk => hd k (by simp [hk])) (Dj.nil _), h1.frame RTBind.lasts hf (fun k hk => hd k (by simp [hk])) (Dj.nil _)⟩
instance : LS OTMatch := ⟨OTMatch.lasts⟩
theorem OTMatch.knows : Knows OTMatch := fun Φ F cs x ⟨s0, s1, hc, hF, h0, h1⟩ => hF ▸ ((h0.knO.app h0.kn).app (h1.knO.app h1.kn))
theorem OTMatch.one : Ones OTMatch := fun _ _ _ _ h => by obtain ⟨s0, s1, rfl, -, h0, h1⟩ := h; exact One.all ⟨rfl, h0.one, h1.one, trivial⟩
theorem OTMatch.gives : Gives OTMatch RTMatch := fun Φ F cs x ⟨s0, s1, hc, hF, h0, h1⟩ => ⟨s0, ob s0 ++ [], s1, ob s1 ++ [], hc, hF, h0.rslG (Gives.refl _), h1.rslG (Gives.refl _)⟩
def m_l_szVal (N : Nat) (p0 : TVal) (p1 : Int) : Option (Int) :=
  (if decide (i64.wrap (p1 - (p0.S.size : Int)) < 0) then some (-1) else some (i64.wrap (p1 - (p0.S.size : Int))))
def m_l_szArg (N : Nat) (p0 : TArg) (p1 : Int) : Option (Int) :=
  (if decide (i64.wrap (p1 - (p0.S.size : Int)) < 0) then some (-1) else ((m_l_szVal N p0.V (i64.wrap (p1 - (p0.S.size : Int)))).bind fun x1 => (if decide (x1 < 0) then some (-1) else some x1)))
def m_l_szArgS_l1 (N : Nat) (p0 : (List TArg)) : Nat → Int → Int → Option (Int)
  | 0, _, _ => none
  | k + 1, s1, s2 =>
    (if decide (s2 < (p0.length : Int)) then ((idx p0 s2).bind fun x1 => ((m_l_szArg N x1 s1).bind fun x2 => (if decide (x2 < 0) then some (-1) else ((m_l_szArgS_l1 N p0 k) x2 (i64.wrap (s2 + 1)))))) else some s1)
def m_l_szArgS (N : Nat) (p0 : (List TArg)) (p1 : Int) : Option (Int) :=
  (if decide (i64.wrap (p1 - (p0.length : Int)) < 0) then some (-1) else m_l_szArgS_l1 N p0 N (i64.wrap (p1 - (p0.length : Int))) 0)
def m_l_szPat (N : Nat) (p0 : TPat) (p1 : Int) : Option (Int) :=
  (if decide (i64.wrap (p1 - (p0.Kind.size : Int)) < 0) then some (-1) else ((m_l_szArgS N p0.Args (i64.wrap (p1 - (p0.Kind.size : Int)))).bind fun x1 => (if decide (x1 < 0) then some (-1) else some x1)))
def m_l_szPatS_l1 (N : Nat) (p0 : (List TPat)) : Nat → Int → Int → Option (Int)
  | 0, _, _ => none
  | k + 1, s1, s2 =>
    (if decide (s2 < (p0.length : Int)) then ((idx p0 s2).bind fun x1 => ((m_l_szPat N x1 s1).bind fun x2 => (if decide (x2 < 0) then some (-1) else ((m_l_szPatS_l1 N p0 k) x2 (i64.wrap (s2 + 1)))))) else some s1)
def m_l_szPatS (N : Nat) (p0 : (List TPat)) (p1 : Int) : Option (Int) :=
  (if decide (i64.wrap (p1 - (p0.length : Int)) < 0) then some (-1) else m_l_szPatS_l1 N p0 N (i64.wrap (p1 - (p0.length : Int))) 0)
def m_l_szCond (N : Nat) (p0 : TCond) (p1 : Int) : Option (Int) :=
  ((m_l_szArg N p0.L p1).bind fun x1 => (if decide (x1 < 0) then some (-1) else ((m_l_szArg N p0.R x1).bind fun x2 => (if decide (x2 < 0) then some (-1) else some x2))))
def m_l_szCondS_l1 (N : Nat) (p0 : (List TCond)) : Nat → Int → Int → Option (Int)
  | 0, _, _ => none
  | k + 1, s1, s2 =>
    (if decide (s2 < (p0.length : Int)) then ((idx p0 s2).bind fun x1 => ((m_l_szCond N x1 s1).bind fun x2 => (if decide (x2 < 0) then some (-1) else ((m_l_szCondS_l1 N p0 k) x2 (i64.wrap (s2 + 1)))))) else some s1)
def m_l_szCondS (N : Nat) (p0 : (List TCond)) (p1 : Int) : Option (Int) :=
  (if decide (i64.wrap (p1 - (p0.length : Int)) < 0) then some (-1) else m_l_szCondS_l1 N p0 N (i64.wrap (p1 - (p0.length : Int))) 0)
def m_l_szExpr (N : Nat) (p0 : TExpr) (p1 : Int) : Option (Int) :=
  (if decide (i64.wrap (p1 - (p0.Op.size : Int)) < 0) then some (-1) else ((m_l_szArg N p0.L (i64.wrap (p1 - (p0.Op.size : Int)))).bind fun x1 => (if decide (x1 < 0) then some (-1) else ((m_l_szArg N p0.R x1).bind fun x2 => (if decide (x2 < 0) then some (-1) else some x2)))))
def m_l_szExprS_l1 (N : Nat) (p0 : (List TExpr)) : Nat → Int → Int → Option (Int)
  | 0, _, _ => none
  | k + 1, s1, s2 =>
    (if decide (s2 < (p0.length : Int)) then ((idx p0 s2).bind fun x1 => ((m_l_szExpr N x1 s1).bind fun x2 => (if decide (x2 < 0) then some (-1) else ((m_l_szExprS_l1 N p0 k) x2 (i64.wrap (s2 + 1)))))) else some s1)
def m_l_szExprS (N : Nat) (p0 : (List TExpr)) (p1 : Int) : Option (Int) :=
  (if decide (i64.wrap (p1 - (p0.length : Int)) < 0) then some (-1) else m_l_szExprS_l1 N p0 N (i64.wrap (p1 - (p0.length : Int))) 0)
def m_l_szAct (N : Nat) (p0 : TAct) (p1 : Int) : Option (Int) :=
  (if decide (i64.wrap (p1 - (p0.Name.size : Int)) < 0) then some (-1) else ((m_l_szExprS N p0.Args (i64.wrap (p1 - (p0.Name.size : Int)))).bind fun x1 => (if decide (x1 < 0) then some (-1) else (if decide (i64.wrap (x1 - (p0.Undo.size : Int)) < 0) then some (-1) else some (i64.wrap (x1 - (p0.Undo.size : Int)))))))
def m_l_szActS_l1 (N : Nat) (p0 : (List TAct)) : Nat → Int → Int → Option (Int)
  | 0, _, _ => none
  | k + 1, s1, s2 =>
    (if decide (s2 < (p0.length : Int)) then ((idx p0 s2).bind fun x1 => ((m_l_szAct N x1 s1).bind fun x2 => (if decide (x2 < 0) then some (-1) else ((m_l_szActS_l1 N p0 k) x2 (i64.wrap (s2 + 1)))))) else some s1)
def m_l_szActS (N : Nat) (p0 : (List TAct)) (p1 : Int) : Option (Int) :=
  (if decide (i64.wrap (p1 - (p0.length : Int)) < 0) then some (-1) else m_l_szActS_l1 N p0 N (i64.wrap (p1 - (p0.length : Int))) 0)
def m_l_szRule (N : Nat) (p0 : TRule) (p1 : Int) : Option (Int) :=
  (if decide (i64.wrap (p1 - (p0.Name.size : Int)) < 0) then some (-1) else ((m_l_szPatS N p0.Pats (i64.wrap (p1 - (p0.Name.size : Int)))).bind fun x1 => (if decide (x1 < 0) then some (-1) else ((m_l_szCondS N p0.Conds x1).bind fun x2 => (if decide (x2 < 0) then some (-1) else ((m_l_szActS N p0.Acts x2).bind fun x3 => (if decide (x3 < 0) then some (-1) else some x3)))))))
def m_l_szRuleS_l1 (N : Nat) (p0 : (List TRule)) : Nat → Int → Int → Option (Int)
  | 0, _, _ => none
  | k + 1, s1, s2 =>
    (if decide (s2 < (p0.length : Int)) then ((idx p0 s2).bind fun x1 => ((m_l_szRule N x1 s1).bind fun x2 => (if decide (x2 < 0) then some (-1) else ((m_l_szRuleS_l1 N p0 k) x2 (i64.wrap (s2 + 1)))))) else some s1)
def m_l_szRuleS (N : Nat) (p0 : (List TRule)) (p1 : Int) : Option (Int) :=
  (if decide (i64.wrap (p1 - (p0.length : Int)) < 0) then some (-1) else m_l_szRuleS_l1 N p0 N (i64.wrap (p1 - (p0.length : Int))) 0)
def m_l_szDef (N : Nat) (p0 : TDef) (p1 : Int) : Option (Int) :=
  (if decide (i64.wrap (p1 - (p0.Name.size : Int)) < 0) then some (-1) else ((m_l_szRuleS N p0.Rules (i64.wrap (p1 - (p0.Name.size : Int)))).bind fun x1 => (if decide (x1 < 0) then some (-1) else some x1)))
def m_l_szIntS (N : Nat) (p0 : (List Int)) (p1 : Int) : Option (Int) :=
  (if decide (i64.wrap (p1 - (p0.length : Int)) < 0) then some (-1) else some (i64.wrap (p1 - (p0.length : Int))))
def m_l_szIds (N : Nat) (p0 : TIds) (p1 : Int) : Option (Int) :=
  ((m_l_szIntS N p0.L p1).bind fun x1 => (if decide (x1 < 0) then some (-1) else some x1))
def m_l_szIdsS_l1 (N : Nat) (p0 : (List TIds)) : Nat → Int → Int → Option (Int)
  | 0, _, _ => none
  | k + 1, s1, s2 =>
    (if decide (s2 < (p0.length : Int)) then ((idx p0 s2).bind fun x1 => ((m_l_szIds N x1 s1).bind fun x2 => (if decide (x2 < 0) then some (-1) else ((m_l_szIdsS_l1 N p0 k) x2 (i64.wrap (s2 + 1)))))) else some s1)
def m_l_szIdsS (N : Nat) (p0 : (List TIds)) (p1 : Int) : Option (Int) :=
  (if decide (i64.wrap (p1 - (p0.length : Int)) < 0) then some (-1) else m_l_szIdsS_l1 N p0 N (i64.wrap (p1 - (p0.length : Int))) 0)
def m_l_szTok (N : Nat) (p0 : TTok) (p1 : Int) : Option (Int) :=
  ((m_l_szIntS N p0.Ids p1).bind fun x1 => (if decide (x1 < 0) then some (-1) else ((m_l_szIntS N p0.Hits x1).bind fun x2 => (if decide (x2 < 0) then some (-1) else some x2))))
def m_l_szTokS_l1 (N : Nat) (p0 : (List TTok)) : Nat → Int → Int → Option (Int)
  | 0, _, _ => none
  | k + 1, s1, s2 =>
    (if decide (s2 < (p0.length : Int)) then ((idx p0 s2).bind fun x1 => ((m_l_szTok N x1 s1).bind fun x2 => (if decide (x2 < 0) then some (-1) else ((m_l_szTokS_l1 N p0 k) x2 (i64.wrap (s2 + 1)))))) else some s1)
def m_l_szTokS (N : Nat) (p0 : (List TTok)) (p1 : Int) : Option (Int) :=
  (if decide (i64.wrap (p1 - (p0.length : Int)) < 0) then some (-1) else m_l_szTokS_l1 N p0 N (i64.wrap (p1 - (p0.length : Int))) 0)
def m_l_szLevel (N : Nat) (p0 : TLevel) (p1 : Int) : Option (Int) :=
  ((m_l_szTokS N p0.Toks p1).bind fun x1 => (if decide (x1 < 0) then some (-1) else some x1))
def m_l_szLevelS_l1 (N : Nat) (p0 : (List TLevel)) : Nat → Int → Int → Option (Int)
  | 0, _, _ => none
  | k + 1, s1, s2 =>
    (if decide (s2 < (p0.length : Int)) then ((idx p0 s2).bind fun x1 => ((m_l_szLevel N x1 s1).bind fun x2 => (if decide (x2 < 0) then some (-1) else ((m_l_szLevelS_l1 N p0 k) x2 (i64.wrap (s2 + 1)))))) else some s1)
def m_l_szLevelS (N : Nat) (p0 : (List TLevel)) (p1 : Int) : Option (Int) :=
  (if decide (i64.wrap (p1 - (p0.length : Int)) < 0) then some (-1) else m_l_szLevelS_l1 N p0 N (i64.wrap (p1 - (p0.length : Int))) 0)
def m_l_szRow (N : Nat) (p0 : TRow) (p1 : Int) : Option (Int) :=
  ((m_l_szLevelS N p0.Levels p1).bind fun x1 => (if decide (x1 < 0) then some (-1) else some x1))
def m_l_szRowS_l1 (N : Nat) (p0 : (List TRow)) : Nat → Int → Int → Option (Int)
  | 0, _, _ => none
  | k + 1, s1, s2 =>
    (if decide (s2 < (p0.length : Int)) then ((idx p0 s2).bind fun x1 => ((m_l_szRow N x1 s1).bind fun x2 => (if decide (x2 < 0) then some (-1) else ((m_l_szRowS_l1 N p0 k) x2 (i64.wrap (s2 + 1)))))) else some s1)
def m_l_szRowS (N : Nat) (p0 : (List TRow)) (p1 : Int) : Option (Int) :=
  (if decide (i64.wrap (p1 - (p0.length : Int)) < 0) then some (-1) else m_l_szRowS_l1 N p0 N (i64.wrap (p1 - (p0.length : Int))) 0)
def m_l_szMem (N : Nat) (p0 : TMem) (p1 : Int) : Option (Int) :=
  ((m_l_szIdsS N p0.Alphas p1).bind fun x1 => (if decide (x1 < 0) then some (-1) else ((m_l_szRowS N p0.Rules x1).bind fun x2 => (if decide (x2 < 0) then some (-1) else some x2))))
def m_l_szValS_l1 (N : Nat) (p0 : (List TVal)) : Nat → Int → Int → Option (Int)
  | 0, _, _ => none
  | k + 1, s1, s2 =>
    (if decide (s2 < (p0.length : Int)) then ((idx p0 s2).bind fun x1 => ((m_l_szVal N x1 s1).bind fun x2 => (if decide (x2 < 0) then some (-1) else ((m_l_szValS_l1 N p0 k) x2 (i64.wrap (s2 + 1)))))) else some s1)
def m_l_szValS (N : Nat) (p0 : (List TVal)) (p1 : Int) : Option (Int) :=
  (if decide (i64.wrap (p1 - (p0.length : Int)) < 0) then some (-1) else m_l_szValS_l1 N p0 N (i64.wrap (p1 - (p0.length : Int))) 0)
def m_l_szFact (N : Nat) (p0 : TFact) (p1 : Int) : Option (Int) :=
  (if decide (i64.wrap (p1 - (p0.Kind.size : Int)) < 0) then some (-1) else ((m_l_szValS N p0.Fields (i64.wrap (p1 - (p0.Kind.size : Int)))).bind fun x1 => (if decide (x1 < 0) then some (-1) else some x1)))
def m_l_szItem (N : Nat) (p0 : TItem) (p1 : Int) : Option (Int) :=
  ((m_l_szFact N p0.F p1).bind fun x1 => (if decide (x1 < 0) then some (-1) else some x1))
def m_l_szItemS_l1 (N : Nat) (p0 : (List TItem)) : Nat → Int → Int → Option (Int)
  | 0, _, _ => none
  | k + 1, s1, s2 =>
    (if decide (s2 < (p0.length : Int)) then ((idx p0 s2).bind fun x1 => ((m_l_szItem N x1 s1).bind fun x2 => (if decide (x2 < 0) then some (-1) else ((m_l_szItemS_l1 N p0 k) x2 (i64.wrap (s2 + 1)))))) else some s1)
def m_l_szItemS (N : Nat) (p0 : (List TItem)) (p1 : Int) : Option (Int) :=
  (if decide (i64.wrap (p1 - (p0.length : Int)) < 0) then some (-1) else m_l_szItemS_l1 N p0 N (i64.wrap (p1 - (p0.length : Int))) 0)
def m_l_szStore (N : Nat) (p0 : TStore) (p1 : Int) : Option (Int) :=
  ((m_l_szItemS N p0.Items p1).bind fun x1 => (if decide (x1 < 0) then some (-1) else some x1))
def m_s_l3Copy (N : Nat) (p0 : TFact) : Option (TFact) :=
  ((app ([] : List TVal) p0.Fields).bind fun x1 => some (⟨p0.Kind, x1⟩ : TFact))
def m_s_FactOf_l1 (N : Nat) (p0 : TStore) (p1 : Int) : Nat → Int → Option (TFact × Bool)
  | 0, _ => none
  | k + 1, s1 =>
    (if decide (s1 < (p0.Items.length : Int)) then ((idx p0.Items s1).bind fun x1 => (if decide (x1.Id = p1) then ((idx p0.Items s1).bind fun x2 => ((m_s_l3Copy N x2.F).bind fun x3 => some (x3, true))) else ((m_s_FactOf_l1 N p0 p1 k) (i64.wrap (s1 + 1))))) else some ((⟨(⟨#[]⟩ : ByteArray), []⟩ : TFact), false))
def m_s_FactOf (N : Nat) (p0 : TStore) (p1 : Int) : Option (TFact × Bool) :=
  m_s_FactOf_l1 N p0 p1 N 0
def m_s_BindOf_l1 (N : Nat) (p0 : (List TBind)) (p1 : ByteArray) : Nat → Int → Option (TVal × Bool)
  | 0, _ => none
  | k + 1, s1 =>
    (if decide (s1 < (p0.length : Int)) then ((idx p0 s1).bind fun x1 => (if seq x1.Name p1 then ((idx p0 s1).bind fun x2 => some (x2.V, true)) else ((m_s_BindOf_l1 N p0 p1 k) (i64.wrap (s1 + 1))))) else some ((⟨0, 0, (⟨#[]⟩ : ByteArray)⟩ : TVal), false))
def m_s_BindOf (N : Nat) (p0 : (List TBind)) (p1 : ByteArray) : Option (TVal × Bool) :=
  m_s_BindOf_l1 N p0 p1 N 0
def m_s_MatchPat_l1 (N : Nat) (p0 : TPat) (p1 : TFact) (p2 : (List TBind)) : Nat → (List TBind) → Int → Option ((List TBind) × Bool)
  | 0, _, _ => none
  | k + 1, s1, s2 =>
    (if decide (s2 < (p0.Args.length : Int)) then ((idx p0.Args s2).bind fun x2 => ((m_s_BindOf N s1 x2.S).bind fun x3 => ((if decide (x2.K = 2) then ((idx p1.Fields s2).bind fun x4 => some (!(eqT_TVal x2.V x4))) else some false).bind fun b2 => ((if b2 then some true else ((if decide (x2.K = 1) then some x3.2 else some false).bind fun b4 => ((if b4 then ((idx p1.Fields s2).bind fun x5 => some (!(eqT_TVal x3.1 x5))) else some false).bind fun b5 => some b5))).bind fun b3 => (if b3 then ((app ([] : List TBind) p2).bind fun x6 => some (x6, false)) else ((if decide (x2.K = 1) then some (!x3.2) else some false).bind fun b6 => (if b6 then ((idx p1.Fields s2).bind fun x7 => ((app s1 ([(⟨x2.S, x7⟩ : TBind)] : List TBind)).bind fun x8 => ((m_s_MatchPat_l1 N p0 p1 p2 k) x8 (i64.wrap (s2 + 1))))) else ((m_s_MatchPat_l1 N p0 p1 p2 k) s1 (i64.wrap (s2 + 1)))))))))) else some (s1, true))
def m_s_MatchPat (N : Nat) (p0 : TPat) (p1 : TFact) (p2 : (List TBind)) : Option ((List TBind) × Bool) :=
  ((app ([] : List TBind) p2).bind fun x1 => ((if !seq p0.Kind p1.Kind then some true else some (!decide ((p0.Args.length : Int) = (p1.Fields.length : Int)))).bind fun b1 => (if b1 then some (x1, false) else m_s_MatchPat_l1 N p0 p1 p2 N x1 0)))
def m_s_BindsFor_j2 (N : Nat) (p0 : TRule) (s1 : (List TBind)) (s2 : Int) (s3 : Int) (K1 : (List TBind) → Int → Int → Option ((List TBind) × Bool)) (s4 : (List TVal)) (s5 : Bool) (s6 : ByteArray) : Option ((List TBind) × Bool) :=
  ((idx p0.Pats s3).bind fun x4 => ((m_s_MatchPat N x4 (⟨s6, s4⟩ : TFact) s1).bind fun x5 => ((if !s5 then some true else some (!x5.2)).bind fun b1 => (if b1 then some (([] : List TBind), false) else (K1 x5.1 (i64.wrap (s2 + 1)) (i64.wrap (s3 + 1)))))))
def m_s_BindsFor_l1 (N : Nat) (p0 : TRule) (p1 : TStore) (p2 : (List Int)) : Nat → (List TBind) → Int → Int → Option ((List TBind) × Bool)
  | 0, _, _, _ => none
  | k + 1, s1, s2, s3 =>
    (if decide (s3 < (p0.Pats.length : Int)) then ((idx p0.Pats s3).bind fun x1 => (if x1.Not then ((m_s_BindsFor_l1 N p0 p1 p2 k) s1 s2 (i64.wrap (s3 + 1))) else (if decide ((p2.length : Int) ≤ s2) then some (([] : List TBind), false) else ((idx p2 s2).bind fun x6 => ((m_s_FactOf N p1 x6).bind fun x7 => m_s_BindsFor_j2 N p0 s1 s2 s3 (m_s_BindsFor_l1 N p0 p1 p2 k) x7.1.Fields x7.2 x7.1.Kind))))) else (if !decide (s2 = (p2.length : Int)) then some (([] : List TBind), false) else some (s1, true)))
def m_s_BindsFor (N : Nat) (p0 : TRule) (p1 : TStore) (p2 : (List Int)) : Option ((List TBind) × Bool) :=
  m_s_BindsFor_l1 N p0 p1 p2 N ([] : List TBind) 0 0
def m_s_l14Free_l1 (N : Nat) (p0 : TTok) : Nat → Int → Option (Bool)
  | 0, _ => none
  | k + 1, s1 =>
    (if decide (s1 < (p0.Hits.length : Int)) then ((idx p0.Hits s1).bind fun x1 => (if !decide (x1 = 0) then some false else ((m_s_l14Free_l1 N p0 k) (i64.wrap (s1 + 1))))) else some true)
def m_s_l14Free (N : Nat) (p0 : TTok) : Option (Bool) :=
  m_s_l14Free_l1 N p0 N 0
def m_s_ArgVal (N : Nat) (p0 : TArg) (p1 : (List TBind)) : Option (TVal × Bool) :=
  (if decide (p0.K = 2) then some (p0.V, true) else (if decide (p0.K = 1) then ((m_s_BindOf N p1 p0.S).bind fun x1 => some (x1.1, x1.2)) else some ((⟨0, 0, (⟨#[]⟩ : ByteArray)⟩ : TVal), false)))
def m_s_LessVal (N : Nat) (p0 : TVal) (p1 : TVal) : Option (Bool) :=
  (if !decide (p0.K = p1.K) then some (decide (p0.K < p1.K)) else (if !decide (p0.N = p1.N) then some (decide (p0.N < p1.N)) else some (slt p0.S p1.S)))
def m_s_Holds (N : Nat) (p0 : TCond) (p1 : (List TBind)) : Option (Bool) :=
  ((m_s_ArgVal N p0.L p1).bind fun x1 => ((m_s_ArgVal N p0.R p1).bind fun x2 => ((if !x1.2 then some true else some (!x2.2)).bind fun b1 => (if b1 then some false else (if decide (p0.Op = 1) then some (eqT_TVal x1.1 x2.1) else (if decide (p0.Op = 2) then some (!(eqT_TVal x1.1 x2.1)) else (if decide (p0.Op = 3) then ((m_s_LessVal N x1.1 x2.1).bind fun x3 => some x3) else some false)))))))
def m_s_HoldAll_l1 (N : Nat) (p0 : (List TCond)) (p1 : (List TBind)) : Nat → Int → Option (Bool)
  | 0, _ => none
  | k + 1, s1 =>
    (if decide (s1 < (p0.length : Int)) then ((idx p0 s1).bind fun x1 => ((m_s_Holds N x1 p1).bind fun x2 => (if !x2 then some false else ((m_s_HoldAll_l1 N p0 p1 k) (i64.wrap (s1 + 1)))))) else some true)
def m_s_HoldAll (N : Nat) (p0 : (List TCond)) (p1 : (List TBind)) : Option (Bool) :=
  m_s_HoldAll_l1 N p0 p1 N 0
def m_s_LessMatch_l1 (N : Nat) (p0 : TMatch) (p1 : TMatch) : Nat → Int → Option (Bool)
  | 0, _ => none
  | k + 1, s1 =>
    (if decide (s1 < (p0.Ids.length : Int)) then ((idx p0.Ids s1).bind fun x1 => ((idx p1.Ids s1).bind fun x2 => (if !decide (x1 = x2) then ((idx p0.Ids s1).bind fun x3 => ((idx p1.Ids s1).bind fun x4 => some (decide (x3 < x4)))) else ((m_s_LessMatch_l1 N p0 p1 k) (i64.wrap (s1 + 1)))))) else some false)
def m_s_LessMatch (N : Nat) (p0 : TMatch) (p1 : TMatch) : Option (Bool) :=
  (if !decide (p0.Rule = p1.Rule) then some (decide (p0.Rule < p1.Rule)) else (if !decide ((p0.Ids.length : Int) = (p1.Ids.length : Int)) then some (decide ((p0.Ids.length : Int) < (p1.Ids.length : Int))) else m_s_LessMatch_l1 N p0 p1 N 0))
def m_s_l14Put_l1 (N : Nat) (p1 : TMatch) : Nat → (List TMatch) → Int → Option ((List TMatch))
  | 0, _, _ => none
  | k + 1, s1, s2 =>
    ((if decide (0 < s2) then ((idx s1 (i64.wrap (s2 - 1))).bind fun x2 => ((m_s_LessMatch N p1 x2).bind fun x3 => some x3)) else some false).bind fun b1 => (if b1 then ((idx s1 (i64.wrap (s2 - 1))).bind fun x4 => ((idx s1 s2).bind fun x5 => ((m_s_l14Put_l1 N p1 k) (s1.set s2.toNat x4) (i64.wrap (s2 - 1))))) else ((idx s1 s2).bind fun x6 => some (s1.set s2.toNat p1))))
def m_s_l14Put (N : Nat) (p0 : (List TMatch)) (p1 : TMatch) : Option ((List TMatch)) :=
  ((app p0 ([p1] : List TMatch)).bind fun x1 => m_s_l14Put_l1 N p1 N x1 (i64.wrap ((x1.length : Int) - 1)))
def m_s_SetOf_l2 (N : Nat) (p0 : TDef) (p2 : TStore) (s1 : (List TMatch)) (s2 : Int) (K1 : (List TMatch) → Int → Option ((List TMatch))) (x2 : TLevel) : Nat → (List TMatch) → Int → Option ((List TMatch))
  | 0, _, _ => none
  | k + 1, s3, s4 =>
    (if decide (s4 < (x2.Toks.length : Int)) then ((idx p0.Rules s2).bind fun x3 => ((idx x2.Toks s4).bind fun x4 => ((m_s_BindsFor N x3 p2 x4.Ids).bind fun x5 => ((if x5.2 then ((idx x2.Toks s4).bind fun x6 => ((m_s_l14Free N x6).bind fun x7 => some x7)) else some false).bind fun b2 => ((if b2 then ((idx p0.Rules s2).bind fun x8 => ((m_s_HoldAll N x8.Conds x5.1).bind fun x9 => some x9)) else some false).bind fun b3 => (if b3 then ((idx x2.Toks s4).bind fun x10 => ((app ([] : List Int) x10.Ids).bind fun x11 => ((m_s_l14Put N s3 (⟨s2, x11, x5.1⟩ : TMatch)).bind fun x12 => ((m_s_SetOf_l2 N p0 p2 s1 s2 K1 x2 k) x12 (i64.wrap (s4 + 1)))))) else ((m_s_SetOf_l2 N p0 p2 s1 s2 K1 x2 k) s3 (i64.wrap (s4 + 1))))))))) else ((app s1 s3).bind fun x13 => (K1 x13 (i64.wrap (s2 + 1)))))
def m_s_SetOf_l1 (N : Nat) (p0 : TDef) (p1 : TMem) (p2 : TStore) : Nat → (List TMatch) → Int → Option ((List TMatch))
  | 0, _, _ => none
  | k + 1, s1, s2 =>
    ((if decide (s2 < (p0.Rules.length : Int)) then some (decide (s2 < (p1.Rules.length : Int))) else some false).bind fun b1 => (if b1 then ((idx p1.Rules s2).bind fun x1 => (if decide ((x1.Levels.length : Int) = 0) then ((m_s_SetOf_l1 N p0 p1 p2 k) s1 (i64.wrap (s2 + 1))) else ((idx x1.Levels (i64.wrap ((x1.Levels.length : Int) - 1))).bind fun x2 => m_s_SetOf_l2 N p0 p2 s1 s2 (m_s_SetOf_l1 N p0 p1 p2 k) x2 N ([] : List TMatch) 0))) else some s1))
def m_s_SetOf (N : Nat) (p0 : TDef) (p1 : TMem) (p2 : TStore) : Option ((List TMatch)) :=
  m_s_SetOf_l1 N p0 p1 p2 N ([] : List TMatch) 0
def m_l_toVal (N : Nat) (p0 : TVal) : Option (TVal) :=
  some p0
def m_l_toArg (N : Nat) (p0 : TArg) : Option (TArg) :=
  ((m_l_toVal N p0.V).bind fun x1 => some (⟨p0.K, p0.S, x1⟩ : TArg))
def m_l_toArgS_l1 (N : Nat) (p0 : (List TArg)) : Nat → (List TArg) → Int → Option ((List TArg))
  | 0, _, _ => none
  | k + 1, s1, s2 =>
    (if decide (s2 < (p0.length : Int)) then ((idx p0 s2).bind fun x2 => ((m_l_toArg N x2).bind fun x3 => ((idx s1 s2).bind fun x4 => ((m_l_toArgS_l1 N p0 k) (s1.set s2.toNat x3) (i64.wrap (s2 + 1)))))) else some s1)
def m_l_toArgS (N : Nat) (p0 : (List TArg)) : Option ((List TArg)) :=
  ((mk (⟨0, (⟨#[]⟩ : ByteArray), (⟨0, 0, (⟨#[]⟩ : ByteArray)⟩ : TVal)⟩ : TArg) (p0.length : Int)).bind fun x1 => m_l_toArgS_l1 N p0 N x1 0)
def m_l_toPat (N : Nat) (p0 : TPat) : Option (TPat) :=
  ((m_l_toArgS N p0.Args).bind fun x1 => some (⟨p0.Kind, x1, p0.Not⟩ : TPat))
def m_l_toPatS_l1 (N : Nat) (p0 : (List TPat)) : Nat → (List TPat) → Int → Option ((List TPat))
  | 0, _, _ => none
  | k + 1, s1, s2 =>
    (if decide (s2 < (p0.length : Int)) then ((idx p0 s2).bind fun x2 => ((m_l_toPat N x2).bind fun x3 => ((idx s1 s2).bind fun x4 => ((m_l_toPatS_l1 N p0 k) (s1.set s2.toNat x3) (i64.wrap (s2 + 1)))))) else some s1)
def m_l_toPatS (N : Nat) (p0 : (List TPat)) : Option ((List TPat)) :=
  ((mk (⟨(⟨#[]⟩ : ByteArray), ([] : List TArg), false⟩ : TPat) (p0.length : Int)).bind fun x1 => m_l_toPatS_l1 N p0 N x1 0)
def m_l_toCond (N : Nat) (p0 : TCond) : Option (TCond) :=
  ((m_l_toArg N p0.L).bind fun x1 => ((m_l_toArg N p0.R).bind fun x2 => some (⟨p0.Op, x1, x2⟩ : TCond)))
def m_l_toCondS_l1 (N : Nat) (p0 : (List TCond)) : Nat → (List TCond) → Int → Option ((List TCond))
  | 0, _, _ => none
  | k + 1, s1, s2 =>
    (if decide (s2 < (p0.length : Int)) then ((idx p0 s2).bind fun x2 => ((m_l_toCond N x2).bind fun x3 => ((idx s1 s2).bind fun x4 => ((m_l_toCondS_l1 N p0 k) (s1.set s2.toNat x3) (i64.wrap (s2 + 1)))))) else some s1)
def m_l_toCondS (N : Nat) (p0 : (List TCond)) : Option ((List TCond)) :=
  ((mk (⟨0, (⟨0, (⟨#[]⟩ : ByteArray), (⟨0, 0, (⟨#[]⟩ : ByteArray)⟩ : TVal)⟩ : TArg), (⟨0, (⟨#[]⟩ : ByteArray), (⟨0, 0, (⟨#[]⟩ : ByteArray)⟩ : TVal)⟩ : TArg)⟩ : TCond) (p0.length : Int)).bind fun x1 => m_l_toCondS_l1 N p0 N x1 0)
def m_l_toExpr (N : Nat) (p0 : TExpr) : Option (TExpr) :=
  ((m_l_toArg N p0.L).bind fun x1 => ((m_l_toArg N p0.R).bind fun x2 => some (⟨p0.Op, x1, x2⟩ : TExpr)))
def m_l_toExprS_l1 (N : Nat) (p0 : (List TExpr)) : Nat → (List TExpr) → Int → Option ((List TExpr))
  | 0, _, _ => none
  | k + 1, s1, s2 =>
    (if decide (s2 < (p0.length : Int)) then ((idx p0 s2).bind fun x2 => ((m_l_toExpr N x2).bind fun x3 => ((idx s1 s2).bind fun x4 => ((m_l_toExprS_l1 N p0 k) (s1.set s2.toNat x3) (i64.wrap (s2 + 1)))))) else some s1)
def m_l_toExprS (N : Nat) (p0 : (List TExpr)) : Option ((List TExpr)) :=
  ((mk (⟨(⟨#[]⟩ : ByteArray), (⟨0, (⟨#[]⟩ : ByteArray), (⟨0, 0, (⟨#[]⟩ : ByteArray)⟩ : TVal)⟩ : TArg), (⟨0, (⟨#[]⟩ : ByteArray), (⟨0, 0, (⟨#[]⟩ : ByteArray)⟩ : TVal)⟩ : TArg)⟩ : TExpr) (p0.length : Int)).bind fun x1 => m_l_toExprS_l1 N p0 N x1 0)
def m_l_toAct (N : Nat) (p0 : TAct) : Option (TAct) :=
  ((m_l_toExprS N p0.Args).bind fun x1 => some (⟨p0.Kind, p0.Name, x1, p0.N, p0.Undo⟩ : TAct))
def m_l_toActS_l1 (N : Nat) (p0 : (List TAct)) : Nat → (List TAct) → Int → Option ((List TAct))
  | 0, _, _ => none
  | k + 1, s1, s2 =>
    (if decide (s2 < (p0.length : Int)) then ((idx p0 s2).bind fun x2 => ((m_l_toAct N x2).bind fun x3 => ((idx s1 s2).bind fun x4 => ((m_l_toActS_l1 N p0 k) (s1.set s2.toNat x3) (i64.wrap (s2 + 1)))))) else some s1)
def m_l_toActS (N : Nat) (p0 : (List TAct)) : Option ((List TAct)) :=
  ((mk (⟨0, (⟨#[]⟩ : ByteArray), ([] : List TExpr), 0, (⟨#[]⟩ : ByteArray)⟩ : TAct) (p0.length : Int)).bind fun x1 => m_l_toActS_l1 N p0 N x1 0)
def m_l_toRule (N : Nat) (p0 : TRule) : Option (TRule) :=
  ((m_l_toPatS N p0.Pats).bind fun x1 => ((m_l_toCondS N p0.Conds).bind fun x2 => ((m_l_toActS N p0.Acts).bind fun x3 => some (⟨p0.Name, p0.Sal, x1, x2, x3⟩ : TRule))))
def m_l_toRuleS_l1 (N : Nat) (p0 : (List TRule)) : Nat → (List TRule) → Int → Option ((List TRule))
  | 0, _, _ => none
  | k + 1, s1, s2 =>
    (if decide (s2 < (p0.length : Int)) then ((idx p0 s2).bind fun x2 => ((m_l_toRule N x2).bind fun x3 => ((idx s1 s2).bind fun x4 => ((m_l_toRuleS_l1 N p0 k) (s1.set s2.toNat x3) (i64.wrap (s2 + 1)))))) else some s1)
def m_l_toRuleS (N : Nat) (p0 : (List TRule)) : Option ((List TRule)) :=
  ((mk (⟨(⟨#[]⟩ : ByteArray), 0, ([] : List TPat), ([] : List TCond), ([] : List TAct)⟩ : TRule) (p0.length : Int)).bind fun x1 => m_l_toRuleS_l1 N p0 N x1 0)
def m_l_toDef (N : Nat) (p0 : TDef) : Option (TDef) :=
  ((m_l_toRuleS N p0.Rules).bind fun x1 => some (⟨p0.Name, x1⟩ : TDef))
def m_l_toIntS_l1 (N : Nat) (p0 : (List Int)) : Nat → (List Int) → Int → Option ((List Int))
  | 0, _, _ => none
  | k + 1, s1, s2 =>
    (if decide (s2 < (p0.length : Int)) then ((idx p0 s2).bind fun x2 => ((idx s1 s2).bind fun x3 => ((m_l_toIntS_l1 N p0 k) (s1.set s2.toNat x2) (i64.wrap (s2 + 1))))) else some s1)
def m_l_toIntS (N : Nat) (p0 : (List Int)) : Option ((List Int)) :=
  ((mk 0 (p0.length : Int)).bind fun x1 => m_l_toIntS_l1 N p0 N x1 0)
def m_l_toIds (N : Nat) (p0 : TIds) : Option (TIds) :=
  ((m_l_toIntS N p0.L).bind fun x1 => some (⟨x1⟩ : TIds))
def m_l_toIdsS_l1 (N : Nat) (p0 : (List TIds)) : Nat → (List TIds) → Int → Option ((List TIds))
  | 0, _, _ => none
  | k + 1, s1, s2 =>
    (if decide (s2 < (p0.length : Int)) then ((idx p0 s2).bind fun x2 => ((m_l_toIds N x2).bind fun x3 => ((idx s1 s2).bind fun x4 => ((m_l_toIdsS_l1 N p0 k) (s1.set s2.toNat x3) (i64.wrap (s2 + 1)))))) else some s1)
def m_l_toIdsS (N : Nat) (p0 : (List TIds)) : Option ((List TIds)) :=
  ((mk (⟨([] : List Int)⟩ : TIds) (p0.length : Int)).bind fun x1 => m_l_toIdsS_l1 N p0 N x1 0)
def m_l_toTok (N : Nat) (p0 : TTok) : Option (TTok) :=
  ((m_l_toIntS N p0.Ids).bind fun x1 => ((m_l_toIntS N p0.Hits).bind fun x2 => some (⟨x1, x2⟩ : TTok)))
def m_l_toTokS_l1 (N : Nat) (p0 : (List TTok)) : Nat → (List TTok) → Int → Option ((List TTok))
  | 0, _, _ => none
  | k + 1, s1, s2 =>
    (if decide (s2 < (p0.length : Int)) then ((idx p0 s2).bind fun x2 => ((m_l_toTok N x2).bind fun x3 => ((idx s1 s2).bind fun x4 => ((m_l_toTokS_l1 N p0 k) (s1.set s2.toNat x3) (i64.wrap (s2 + 1)))))) else some s1)
def m_l_toTokS (N : Nat) (p0 : (List TTok)) : Option ((List TTok)) :=
  ((mk (⟨([] : List Int), ([] : List Int)⟩ : TTok) (p0.length : Int)).bind fun x1 => m_l_toTokS_l1 N p0 N x1 0)
def m_l_toLevel (N : Nat) (p0 : TLevel) : Option (TLevel) :=
  ((m_l_toTokS N p0.Toks).bind fun x1 => some (⟨x1⟩ : TLevel))
def m_l_toLevelS_l1 (N : Nat) (p0 : (List TLevel)) : Nat → (List TLevel) → Int → Option ((List TLevel))
  | 0, _, _ => none
  | k + 1, s1, s2 =>
    (if decide (s2 < (p0.length : Int)) then ((idx p0 s2).bind fun x2 => ((m_l_toLevel N x2).bind fun x3 => ((idx s1 s2).bind fun x4 => ((m_l_toLevelS_l1 N p0 k) (s1.set s2.toNat x3) (i64.wrap (s2 + 1)))))) else some s1)
def m_l_toLevelS (N : Nat) (p0 : (List TLevel)) : Option ((List TLevel)) :=
  ((mk (⟨([] : List TTok)⟩ : TLevel) (p0.length : Int)).bind fun x1 => m_l_toLevelS_l1 N p0 N x1 0)
def m_l_toRow (N : Nat) (p0 : TRow) : Option (TRow) :=
  ((m_l_toLevelS N p0.Levels).bind fun x1 => some (⟨x1⟩ : TRow))
def m_l_toRowS_l1 (N : Nat) (p0 : (List TRow)) : Nat → (List TRow) → Int → Option ((List TRow))
  | 0, _, _ => none
  | k + 1, s1, s2 =>
    (if decide (s2 < (p0.length : Int)) then ((idx p0 s2).bind fun x2 => ((m_l_toRow N x2).bind fun x3 => ((idx s1 s2).bind fun x4 => ((m_l_toRowS_l1 N p0 k) (s1.set s2.toNat x3) (i64.wrap (s2 + 1)))))) else some s1)
def m_l_toRowS (N : Nat) (p0 : (List TRow)) : Option ((List TRow)) :=
  ((mk (⟨([] : List TLevel)⟩ : TRow) (p0.length : Int)).bind fun x1 => m_l_toRowS_l1 N p0 N x1 0)
def m_l_toMem (N : Nat) (p0 : TMem) : Option (TMem) :=
  ((m_l_toIdsS N p0.Alphas).bind fun x1 => ((m_l_toRowS N p0.Rules).bind fun x2 => some (⟨x1, x2⟩ : TMem)))
def m_l_toValS_l1 (N : Nat) (p0 : (List TVal)) : Nat → (List TVal) → Int → Option ((List TVal))
  | 0, _, _ => none
  | k + 1, s1, s2 =>
    (if decide (s2 < (p0.length : Int)) then ((idx p0 s2).bind fun x2 => ((m_l_toVal N x2).bind fun x3 => ((idx s1 s2).bind fun x4 => ((m_l_toValS_l1 N p0 k) (s1.set s2.toNat x3) (i64.wrap (s2 + 1)))))) else some s1)
def m_l_toValS (N : Nat) (p0 : (List TVal)) : Option ((List TVal)) :=
  ((mk (⟨0, 0, (⟨#[]⟩ : ByteArray)⟩ : TVal) (p0.length : Int)).bind fun x1 => m_l_toValS_l1 N p0 N x1 0)
def m_l_toFact (N : Nat) (p0 : TFact) : Option (TFact) :=
  ((m_l_toValS N p0.Fields).bind fun x1 => some (⟨p0.Kind, x1⟩ : TFact))
def m_l_toItem (N : Nat) (p0 : TItem) : Option (TItem) :=
  ((m_l_toFact N p0.F).bind fun x1 => some (⟨p0.Id, x1⟩ : TItem))
def m_l_toItemS_l1 (N : Nat) (p0 : (List TItem)) : Nat → (List TItem) → Int → Option ((List TItem))
  | 0, _, _ => none
  | k + 1, s1, s2 =>
    (if decide (s2 < (p0.length : Int)) then ((idx p0 s2).bind fun x2 => ((m_l_toItem N x2).bind fun x3 => ((idx s1 s2).bind fun x4 => ((m_l_toItemS_l1 N p0 k) (s1.set s2.toNat x3) (i64.wrap (s2 + 1)))))) else some s1)
def m_l_toItemS (N : Nat) (p0 : (List TItem)) : Option ((List TItem)) :=
  ((mk (⟨0, (⟨(⟨#[]⟩ : ByteArray), ([] : List TVal)⟩ : TFact)⟩ : TItem) (p0.length : Int)).bind fun x1 => m_l_toItemS_l1 N p0 N x1 0)
def m_l_toStore (N : Nat) (p0 : TStore) : Option (TStore) :=
  ((m_l_toItemS N p0.Items).bind fun x1 => some (⟨x1, p0.Next⟩ : TStore))
def m_i_pats_l1 (N : Nat) (p0 : TRule) (p1 : Bool) : Nat → (List TPat) → Int → Option ((List TPat))
  | 0, _, _ => none
  | k + 1, s1, s2 =>
    (if decide (s2 < (p0.Pats.length : Int)) then ((idx p0.Pats s2).bind fun x1 => (if (x1.Not == p1) then ((app s1 ([x1] : List TPat)).bind fun x2 => ((m_i_pats_l1 N p0 p1 k) x2 (i64.wrap (s2 + 1)))) else ((m_i_pats_l1 N p0 p1 k) s1 (i64.wrap (s2 + 1))))) else some s1)
def m_i_pats (N : Nat) (p0 : TRule) (p1 : Bool) : Option ((List TPat)) :=
  m_i_pats_l1 N p0 p1 N ([] : List TPat) 0
def m_sl_Clone_Si_Val_i_Val (N : Nat) (p0 : (List TVal)) : Option ((List TVal)) :=
  ((app ([] : List TVal) p0).bind fun x1 => some x1)
def m_i_copyFact (N : Nat) (p0 : TFact) : Option (TFact) :=
  ((m_sl_Clone_Si_Val_i_Val N p0.Fields).bind fun x1 => some (⟨p0.Kind, x1⟩ : TFact))
def m_i_FactOf_l1 (N : Nat) (p0 : TStore) (p1 : Int) : Nat → Int → Option (TFact × Bool)
  | 0, _ => none
  | k + 1, s1 =>
    (if decide (s1 < (p0.Items.length : Int)) then ((idx p0.Items s1).bind fun x1 => (if decide (x1.Id = p1) then ((m_i_copyFact N x1.F).bind fun x2 => some (x2, true)) else ((m_i_FactOf_l1 N p0 p1 k) (i64.wrap (s1 + 1))))) else some ((⟨(⟨#[]⟩ : ByteArray), []⟩ : TFact), false))
def m_i_FactOf (N : Nat) (p0 : TStore) (p1 : Int) : Option (TFact × Bool) :=
  m_i_FactOf_l1 N p0 p1 N 0
def m_sl_Clone_Si_Bind_i_Bind (N : Nat) (p0 : (List TBind)) : Option ((List TBind)) :=
  ((app ([] : List TBind) p0).bind fun x1 => some x1)
def m_i_BindOf_l1 (N : Nat) (p0 : (List TBind)) (p1 : ByteArray) : Nat → Int → Option (TVal × Bool)
  | 0, _ => none
  | k + 1, s1 =>
    (if decide (s1 < (p0.length : Int)) then ((idx p0 s1).bind fun x1 => (if seq x1.Name p1 then some (x1.V, true) else ((m_i_BindOf_l1 N p0 p1 k) (i64.wrap (s1 + 1))))) else some ((⟨0, 0, (⟨#[]⟩ : ByteArray)⟩ : TVal), false))
def m_i_BindOf (N : Nat) (p0 : (List TBind)) (p1 : ByteArray) : Option (TVal × Bool) :=
  m_i_BindOf_l1 N p0 p1 N 0
def m_i_MatchPat_l1 (N : Nat) (p0 : TPat) (p1 : TFact) (p2 : (List TBind)) : Nat → (List TBind) → Int → Option ((List TBind) × Bool)
  | 0, _, _ => none
  | k + 1, s1, s2 =>
    (if decide (s2 < (p0.Args.length : Int)) then ((idx p0.Args s2).bind fun x3 => ((idx p1.Fields s2).bind fun x4 => (if decide (x3.K = 2) then (if !(eqT_TVal x3.V x4) then ((m_sl_Clone_Si_Bind_i_Bind N p2).bind fun x5 => some (x5, false)) else ((m_i_MatchPat_l1 N p0 p1 p2 k) s1 (i64.wrap (s2 + 1)))) else (if decide (x3.K = 1) then ((m_i_BindOf N s1 x3.S).bind fun x6 => ((if x6.2 then some (!(eqT_TVal x6.1 x4)) else some false).bind fun b2 => (if b2 then ((m_sl_Clone_Si_Bind_i_Bind N p2).bind fun x7 => some (x7, false)) else (if !x6.2 then ((app s1 ([(⟨x3.S, x4⟩ : TBind)] : List TBind)).bind fun x8 => ((m_i_MatchPat_l1 N p0 p1 p2 k) x8 (i64.wrap (s2 + 1)))) else ((m_i_MatchPat_l1 N p0 p1 p2 k) s1 (i64.wrap (s2 + 1))))))) else ((m_i_MatchPat_l1 N p0 p1 p2 k) s1 (i64.wrap (s2 + 1))))))) else some (s1, true))
def m_i_MatchPat (N : Nat) (p0 : TPat) (p1 : TFact) (p2 : (List TBind)) : Option ((List TBind) × Bool) :=
  ((if !seq p1.Kind p0.Kind then some true else some (!decide ((p1.Fields.length : Int) = (p0.Args.length : Int)))).bind fun b1 => (if b1 then ((m_sl_Clone_Si_Bind_i_Bind N p2).bind fun x1 => some (x1, false)) else ((m_sl_Clone_Si_Bind_i_Bind N p2).bind fun x2 => m_i_MatchPat_l1 N p0 p1 p2 N x2 0)))
def m_i_bindsOf_l1 (N : Nat) (p0 : (List TPat)) (p1 : TStore) (p2 : (List Int)) : Nat → (List TBind) → Int → Option ((List TBind) × Bool)
  | 0, _, _ => none
  | k + 1, s1, s2 =>
    (if decide (s2 < (p2.length : Int)) then ((idx p2 s2).bind fun x1 => ((m_i_FactOf N p1 x1).bind fun x2 => (if !x2.2 then some ([], false) else ((idx p0 s2).bind fun x3 => ((m_i_MatchPat N x3 x2.1 s1).bind fun x4 => (if !x4.2 then some ([], false) else ((m_i_bindsOf_l1 N p0 p1 p2 k) x4.1 (i64.wrap (s2 + 1))))))))) else some (s1, true))
def m_i_bindsOf (N : Nat) (p0 : (List TPat)) (p1 : TStore) (p2 : (List Int)) : Option ((List TBind) × Bool) :=
  m_i_bindsOf_l1 N p0 p1 p2 N ([] : List TBind) 0
def m_i_BindsFor (N : Nat) (p0 : TRule) (p1 : TStore) (p2 : (List Int)) : Option ((List TBind) × Bool) :=
  ((m_i_pats N p0 false).bind fun x1 => (if !decide ((p2.length : Int) = (x1.length : Int)) then some ([], false) else ((m_i_bindsOf N x1 p1 p2).bind fun x2 => some (x2.1, x2.2))))
def m_i_isFree_l1 (N : Nat) (p0 : TTok) : Nat → Int → Option (Bool)
  | 0, _ => none
  | k + 1, s1 =>
    (if decide (s1 < (p0.Hits.length : Int)) then ((idx p0.Hits s1).bind fun x1 => (if !decide (x1 = 0) then some false else ((m_i_isFree_l1 N p0 k) (i64.wrap (s1 + 1))))) else some true)
def m_i_isFree (N : Nat) (p0 : TTok) : Option (Bool) :=
  m_i_isFree_l1 N p0 N 0
def m_i_ArgVal (N : Nat) (p0 : TArg) (p1 : (List TBind)) : Option (TVal × Bool) :=
  (if decide (p0.K = 2) then some (p0.V, true) else (if decide (p0.K = 1) then ((m_i_BindOf N p1 p0.S).bind fun x1 => some (x1.1, x1.2)) else some ((⟨0, 0, (⟨#[]⟩ : ByteArray)⟩ : TVal), false)))
def m_cmp_Or_int_l1 (N : Nat) (p0 : (List Int)) : Nat → Int → Option (Int)
  | 0, _ => none
  | k + 1, s1 =>
    (if decide (s1 < (p0.length : Int)) then ((idx p0 s1).bind fun x1 => (if !decide (x1 = 0) then some x1 else ((m_cmp_Or_int_l1 N p0 k) (i64.wrap (s1 + 1))))) else some 0)
def m_cmp_Or_int (N : Nat) (p0 : (List Int)) : Option (Int) :=
  m_cmp_Or_int_l1 N p0 N 0
def m_cmp_isNaN_int (N : Nat) (p0 : Int) : Option (Bool) :=
  some (!decide (p0 = p0))
def m_cmp_Compare_int (N : Nat) (p0 : Int) (p1 : Int) : Option (Int) :=
  ((m_cmp_isNaN_int N p0).bind fun x1 => ((m_cmp_isNaN_int N p1).bind fun x2 => (if x1 then (if x2 then some 0 else some (-1)) else (if x2 then some 1 else (if decide (p0 < p1) then some (-1) else (if decide (p1 < p0) then some 1 else some 0))))))
def m_cmp_isNaN_string (N : Nat) (p0 : ByteArray) : Option (Bool) :=
  some (!seq p0 p0)
def m_cmp_Compare_string (N : Nat) (p0 : ByteArray) (p1 : ByteArray) : Option (Int) :=
  ((m_cmp_isNaN_string N p0).bind fun x1 => ((m_cmp_isNaN_string N p1).bind fun x2 => (if x1 then (if x2 then some 0 else some (-1)) else (if x2 then some 1 else (if slt p0 p1 then some (-1) else (if (!slt p0 p1 && !seq p0 p1) then some 1 else some 0))))))
def m_i_compareVals (N : Nat) (p0 : TVal) (p1 : TVal) : Option (Int) :=
  ((m_cmp_Compare_int N p0.K p1.K).bind fun x1 => ((m_cmp_Compare_int N p0.N p1.N).bind fun x2 => ((m_cmp_Compare_string N p0.S p1.S).bind fun x3 => ((m_cmp_Or_int N ([x1, x2, x3] : List Int)).bind fun x4 => some x4))))
def m_i_LessVal (N : Nat) (p0 : TVal) (p1 : TVal) : Option (Bool) :=
  ((m_i_compareVals N p0 p1).bind fun x1 => some (decide (x1 < 0)))
def m_i_Holds (N : Nat) (p0 : TCond) (p1 : (List TBind)) : Option (Bool) :=
  ((m_i_ArgVal N p0.L p1).bind fun x1 => ((m_i_ArgVal N p0.R p1).bind fun x2 => ((if !x1.2 then some true else some (!x2.2)).bind fun b1 => (if b1 then some false else (if decide (p0.Op = 1) then some (eqT_TVal x1.1 x2.1) else (if decide (p0.Op = 2) then some (!(eqT_TVal x1.1 x2.1)) else (if decide (p0.Op = 3) then ((m_i_LessVal N x1.1 x2.1).bind fun x3 => some x3) else some false)))))))
def m_i_HoldAll_l1 (N : Nat) (p0 : (List TCond)) (p1 : (List TBind)) : Nat → Int → Option (Bool)
  | 0, _ => none
  | k + 1, s1 =>
    (if decide (s1 < (p0.length : Int)) then ((idx p0 s1).bind fun x1 => ((m_i_Holds N x1 p1).bind fun x2 => (if !x2 then some false else ((m_i_HoldAll_l1 N p0 p1 k) (i64.wrap (s1 + 1)))))) else some true)
def m_i_HoldAll (N : Nat) (p0 : (List TCond)) (p1 : (List TBind)) : Option (Bool) :=
  m_i_HoldAll_l1 N p0 p1 N 0
def m_sl_Clone_Sint_int (N : Nat) (p0 : (List Int)) : Option ((List Int)) :=
  ((app ([] : List Int) p0).bind fun x1 => some x1)
def m_sl_insertionSortCmpFunc_i_Match_l2 (N : Nat) (p1 : Int) (p3 : TMatch → TMatch → Option (Int)) (s2 : Int) (K1 : (List TMatch) → Int → Option ((List TMatch))) : Nat → (List TMatch) → Int → Option ((List TMatch))
  | 0, _, _ => none
  | k + 1, s3, s4 =>
    ((if decide (p1 < s4) then ((idx s3 s4).bind fun x1 => ((idx s3 (i64.wrap (s4 - 1))).bind fun x2 => ((p3 x1 x2).bind fun x3 => some (decide (x3 < 0))))) else some false).bind fun b1 => (if b1 then ((idx s3 (i64.wrap (s4 - 1))).bind fun x4 => ((idx s3 s4).bind fun x5 => ((idx s3 s4).bind fun x6 => ((idx (s3.set s4.toNat x4) (i64.wrap (s4 - 1))).bind fun x7 => ((m_sl_insertionSortCmpFunc_i_Match_l2 N p1 p3 s2 K1 k) ((s3.set s4.toNat x4).set (i64.wrap (s4 - 1)).toNat x5) (i64.wrap (s4 - 1))))))) else (K1 s3 (i64.wrap (s2 + 1)))))
def m_sl_insertionSortCmpFunc_i_Match_l1 (N : Nat) (p1 : Int) (p2 : Int) (p3 : TMatch → TMatch → Option (Int)) : Nat → (List TMatch) → Int → Option ((List TMatch))
  | 0, _, _ => none
  | k + 1, s1, s2 =>
    (if decide (s2 < p2) then m_sl_insertionSortCmpFunc_i_Match_l2 N p1 p3 s2 (m_sl_insertionSortCmpFunc_i_Match_l1 N p1 p2 p3 k) N s1 s2 else some s1)
def m_sl_insertionSortCmpFunc_i_Match (N : Nat) (p0 : (List TMatch)) (p1 : Int) (p2 : Int) (p3 : TMatch → TMatch → Option (Int)) : Option ((List TMatch)) :=
  m_sl_insertionSortCmpFunc_i_Match_l1 N p1 p2 p3 N p0 (i64.wrap (p1 + 1))
def m_sl_swapRangeCmpFunc_i_Match_l1 (N : Nat) (p1 : Int) (p2 : Int) (p3 : Int) : Nat → (List TMatch) → Int → Option ((List TMatch))
  | 0, _, _ => none
  | k + 1, s1, s2 =>
    (if decide (s2 < p3) then ((idx s1 (i64.wrap (p2 + s2))).bind fun x1 => ((idx s1 (i64.wrap (p1 + s2))).bind fun x2 => ((idx s1 (i64.wrap (p1 + s2))).bind fun x3 => ((idx (s1.set (i64.wrap (p1 + s2)).toNat x1) (i64.wrap (p2 + s2))).bind fun x4 => ((m_sl_swapRangeCmpFunc_i_Match_l1 N p1 p2 p3 k) ((s1.set (i64.wrap (p1 + s2)).toNat x1).set (i64.wrap (p2 + s2)).toNat x2) (i64.wrap (s2 + 1))))))) else some s1)
def m_sl_swapRangeCmpFunc_i_Match (N : Nat) (p0 : (List TMatch)) (p1 : Int) (p2 : Int) (p3 : Int) (p4 : TMatch → TMatch → Option (Int)) : Option ((List TMatch)) :=
  m_sl_swapRangeCmpFunc_i_Match_l1 N p1 p2 p3 N p0 0
def m_sl_rotateCmpFunc_i_Match_l1 (N : Nat) (p2 : Int) (p4 : TMatch → TMatch → Option (Int)) : Nat → (List TMatch) → Int → Int → Option ((List TMatch))
  | 0, _, _, _ => none
  | k + 1, s1, s2, s3 =>
    (if !decide (s2 = s3) then (if decide (s3 < s2) then ((m_sl_swapRangeCmpFunc_i_Match N s1 (i64.wrap (p2 - s2)) p2 s3 p4).bind fun x1 => ((m_sl_rotateCmpFunc_i_Match_l1 N p2 p4 k) x1 (i64.wrap (s2 - s3)) s3)) else ((m_sl_swapRangeCmpFunc_i_Match N s1 (i64.wrap (p2 - s2)) (i64.wrap ((i64.wrap (p2 + s3)) - s2)) s2 p4).bind fun x2 => ((m_sl_rotateCmpFunc_i_Match_l1 N p2 p4 k) x2 s2 (i64.wrap (s3 - s2))))) else ((m_sl_swapRangeCmpFunc_i_Match N s1 (i64.wrap (p2 - s2)) p2 s2 p4).bind fun x3 => some x3))
def m_sl_rotateCmpFunc_i_Match (N : Nat) (p0 : (List TMatch)) (p1 : Int) (p2 : Int) (p3 : Int) (p4 : TMatch → TMatch → Option (Int)) : Option ((List TMatch)) :=
  m_sl_rotateCmpFunc_i_Match_l1 N p2 p4 N p0 (i64.wrap (p2 - p1)) (i64.wrap (p3 - p2))
def m_sl_symMergeCmpFunc_i_Match_l2 (N : Nat) (s1 : Int) : Nat → (List TMatch) → Int → Option ((List TMatch))
  | 0, _, _ => none
  | k + 1, s3, s4 =>
    (if decide (s4 < i64.wrap (s1 - 1)) then ((idx s3 (i64.wrap (s4 + 1))).bind fun x4 => ((idx s3 s4).bind fun x5 => ((idx s3 s4).bind fun x6 => ((idx (s3.set s4.toNat x4) (i64.wrap (s4 + 1))).bind fun x7 => ((m_sl_symMergeCmpFunc_i_Match_l2 N s1 k) ((s3.set s4.toNat x4).set (i64.wrap (s4 + 1)).toNat x5) (i64.wrap (s4 + 1))))))) else some s3)
def m_sl_symMergeCmpFunc_i_Match_l1 (N : Nat) (p0 : (List TMatch)) (p1 : Int) (p4 : TMatch → TMatch → Option (Int)) : Nat → Int → Int → Option ((List TMatch))
  | 0, _, _ => none
  | k + 1, s1, s2 =>
    (if decide (s1 < s2) then ((idx p0 (i64.wrap (shrI .u64 (IntKind.u64.wrap (i64.wrap (s1 + s2))) 1))).bind fun x1 => ((idx p0 p1).bind fun x2 => ((p4 x1 x2).bind fun x3 => (if decide (x3 < 0) then ((m_sl_symMergeCmpFunc_i_Match_l1 N p0 p1 p4 k) (i64.wrap ((i64.wrap (shrI .u64 (IntKind.u64.wrap (i64.wrap (s1 + s2))) 1)) + 1)) s2) else ((m_sl_symMergeCmpFunc_i_Match_l1 N p0 p1 p4 k) s1 (i64.wrap (shrI .u64 (IntKind.u64.wrap (i64.wrap (s1 + s2))) 1))))))) else m_sl_symMergeCmpFunc_i_Match_l2 N s1 N p0 p1)
def m_sl_symMergeCmpFunc_i_Match_l4 (N : Nat) (s5 : Int) : Nat → (List TMatch) → Int → Option ((List TMatch))
  | 0, _, _ => none
  | k + 1, s7, s8 =>
    (if decide (s5 < s8) then ((idx s7 (i64.wrap (s8 - 1))).bind fun x11 => ((idx s7 s8).bind fun x12 => ((idx s7 s8).bind fun x13 => ((idx (s7.set s8.toNat x11) (i64.wrap (s8 - 1))).bind fun x14 => ((m_sl_symMergeCmpFunc_i_Match_l4 N s5 k) ((s7.set s8.toNat x11).set (i64.wrap (s8 - 1)).toNat x12) (i64.wrap (s8 - 1))))))) else some s7)
def m_sl_symMergeCmpFunc_i_Match_l3 (N : Nat) (p0 : (List TMatch)) (p2 : Int) (p4 : TMatch → TMatch → Option (Int)) : Nat → Int → Int → Option ((List TMatch))
  | 0, _, _ => none
  | k + 1, s5, s6 =>
    (if decide (s5 < s6) then ((idx p0 p2).bind fun x8 => ((idx p0 (i64.wrap (shrI .u64 (IntKind.u64.wrap (i64.wrap (s5 + s6))) 1))).bind fun x9 => ((p4 x8 x9).bind fun x10 => (if !(decide (x10 < 0)) then ((m_sl_symMergeCmpFunc_i_Match_l3 N p0 p2 p4 k) (i64.wrap ((i64.wrap (shrI .u64 (IntKind.u64.wrap (i64.wrap (s5 + s6))) 1)) + 1)) s6) else ((m_sl_symMergeCmpFunc_i_Match_l3 N p0 p2 p4 k) s5 (i64.wrap (shrI .u64 (IntKind.u64.wrap (i64.wrap (s5 + s6))) 1))))))) else m_sl_symMergeCmpFunc_i_Match_l4 N s5 N p0 p2)
def m_sl_symMergeCmpFunc_i_Match_j8 (N : Nat) (p1 : Int) (p2 : Int) (p3 : Int) (p4 : TMatch → TMatch → Option (Int)) (RF0 : (List TMatch) → Int → Int → Int → (TMatch → TMatch → Option (Int)) → Option ((List TMatch))) (s11 : Int) (s14 : (List TMatch)) : Option ((List TMatch)) :=
  ((if decide ((i64.wrap (shrI .u64 (IntKind.u64.wrap (i64.wrap (p1 + p3))) 1)) < i64.wrap ((i64.wrap ((i64.wrap (shrI .u64 (IntKind.u64.wrap (i64.wrap (p1 + p3))) 1)) + p2)) - s11)) then some (decide (i64.wrap ((i64.wrap ((i64.wrap (shrI .u64 (IntKind.u64.wrap (i64.wrap (p1 + p3))) 1)) + p2)) - s11) < p3)) else some false).bind fun b3 => (if b3 then ((RF0 s14 (i64.wrap (shrI .u64 (IntKind.u64.wrap (i64.wrap (p1 + p3))) 1)) (i64.wrap ((i64.wrap ((i64.wrap (shrI .u64 (IntKind.u64.wrap (i64.wrap (p1 + p3))) 1)) + p2)) - s11)) p3 p4).bind fun x18 => some x18) else some s14))
def m_sl_symMergeCmpFunc_i_Match_j7 (N : Nat) (p1 : Int) (p2 : Int) (p3 : Int) (p4 : TMatch → TMatch → Option (Int)) (RF0 : (List TMatch) → Int → Int → Int → (TMatch → TMatch → Option (Int)) → Option ((List TMatch))) (s11 : Int) (s13 : (List TMatch)) : Option ((List TMatch)) :=
  ((if decide (p1 < s11) then some (decide (s11 < (i64.wrap (shrI .u64 (IntKind.u64.wrap (i64.wrap (p1 + p3))) 1)))) else some false).bind fun b2 => (if b2 then ((RF0 s13 p1 s11 (i64.wrap (shrI .u64 (IntKind.u64.wrap (i64.wrap (p1 + p3))) 1)) p4).bind fun x19 => m_sl_symMergeCmpFunc_i_Match_j8 N p1 p2 p3 p4 RF0 s11 x19) else m_sl_symMergeCmpFunc_i_Match_j8 N p1 p2 p3 p4 RF0 s11 s13))
def m_sl_symMergeCmpFunc_i_Match_l6 (N : Nat) (p0 : (List TMatch)) (p1 : Int) (p2 : Int) (p3 : Int) (p4 : TMatch → TMatch → Option (Int)) (RF0 : (List TMatch) → Int → Int → Int → (TMatch → TMatch → Option (Int)) → Option ((List TMatch))) : Nat → Int → Int → Option ((List TMatch))
  | 0, _, _ => none
  | k + 1, s11, s12 =>
    (if decide (s11 < s12) then ((idx p0 (i64.wrap ((i64.wrap ((i64.wrap ((i64.wrap (shrI .u64 (IntKind.u64.wrap (i64.wrap (p1 + p3))) 1)) + p2)) - 1)) - (i64.wrap (shrI .u64 (IntKind.u64.wrap (i64.wrap (s11 + s12))) 1))))).bind fun x15 => ((idx p0 (i64.wrap (shrI .u64 (IntKind.u64.wrap (i64.wrap (s11 + s12))) 1))).bind fun x16 => ((p4 x15 x16).bind fun x17 => (if !(decide (x17 < 0)) then ((m_sl_symMergeCmpFunc_i_Match_l6 N p0 p1 p2 p3 p4 RF0 k) (i64.wrap ((i64.wrap (shrI .u64 (IntKind.u64.wrap (i64.wrap (s11 + s12))) 1)) + 1)) s12) else ((m_sl_symMergeCmpFunc_i_Match_l6 N p0 p1 p2 p3 p4 RF0 k) s11 (i64.wrap (shrI .u64 (IntKind.u64.wrap (i64.wrap (s11 + s12))) 1))))))) else ((if decide (s11 < p2) then some (decide (p2 < i64.wrap ((i64.wrap ((i64.wrap (shrI .u64 (IntKind.u64.wrap (i64.wrap (p1 + p3))) 1)) + p2)) - s11))) else some false).bind fun b1 => (if b1 then ((m_sl_rotateCmpFunc_i_Match N p0 s11 p2 (i64.wrap ((i64.wrap ((i64.wrap (shrI .u64 (IntKind.u64.wrap (i64.wrap (p1 + p3))) 1)) + p2)) - s11)) p4).bind fun x20 => m_sl_symMergeCmpFunc_i_Match_j7 N p1 p2 p3 p4 RF0 s11 x20) else m_sl_symMergeCmpFunc_i_Match_j7 N p1 p2 p3 p4 RF0 s11 p0)))
def m_sl_symMergeCmpFunc_i_Match_j5 (N : Nat) (p0 : (List TMatch)) (p1 : Int) (p2 : Int) (p3 : Int) (p4 : TMatch → TMatch → Option (Int)) (RF0 : (List TMatch) → Int → Int → Int → (TMatch → TMatch → Option (Int)) → Option ((List TMatch))) (s9 : Int) (s10 : Int) : Option ((List TMatch)) :=
  m_sl_symMergeCmpFunc_i_Match_l6 N p0 p1 p2 p3 p4 RF0 N s9 s10
def m_sl_symMergeCmpFunc_i_Match : Nat → (List TMatch) → Int → Int → Int → (TMatch → TMatch → Option (Int)) → Option ((List TMatch))
  | 0, _, _, _, _, _ => none
  | N + 1, p0, p1, p2, p3, p4 =>
    (if decide (i64.wrap (p2 - p1) = 1) then m_sl_symMergeCmpFunc_i_Match_l1 N p0 p1 p4 N p2 p3 else (if decide (i64.wrap (p3 - p2) = 1) then m_sl_symMergeCmpFunc_i_Match_l3 N p0 p2 p4 N p1 p2 else (if decide ((i64.wrap (shrI .u64 (IntKind.u64.wrap (i64.wrap (p1 + p3))) 1)) < p2) then m_sl_symMergeCmpFunc_i_Match_j5 N p0 p1 p2 p3 p4 (m_sl_symMergeCmpFunc_i_Match N) (i64.wrap ((i64.wrap ((i64.wrap (shrI .u64 (IntKind.u64.wrap (i64.wrap (p1 + p3))) 1)) + p2)) - p3)) (i64.wrap (shrI .u64 (IntKind.u64.wrap (i64.wrap (p1 + p3))) 1)) else m_sl_symMergeCmpFunc_i_Match_j5 N p0 p1 p2 p3 p4 (m_sl_symMergeCmpFunc_i_Match N) p1 p2)))
def m_sl_stableCmpFunc_i_Match_l3 (N : Nat) (p1 : Int) (p2 : TMatch → TMatch → Option (Int)) (s5 : Int) (K2 : (List TMatch) → Int → Option ((List TMatch))) : Nat → (List TMatch) → Int → Int → Option ((List TMatch))
  | 0, _, _, _ => none
  | k + 1, s6, s7, s8 =>
    (if decide (s8 ≤ p1) then ((m_sl_symMergeCmpFunc_i_Match N s6 s7 (i64.wrap (s7 + s5)) s8 p2).bind fun x3 => ((m_sl_stableCmpFunc_i_Match_l3 N p1 p2 s5 K2 k) x3 s8 (i64.wrap (s8 + (i64.wrap (2 * s5)))))) else (if decide (i64.wrap (s7 + s5) < p1) then ((m_sl_symMergeCmpFunc_i_Match N s6 s7 (i64.wrap (s7 + s5)) p1 p2).bind fun x4 => (K2 x4 (i64.wrap (s5 * 2)))) else (K2 s6 (i64.wrap (s5 * 2)))))
def m_sl_stableCmpFunc_i_Match_l2 (N : Nat) (p1 : Int) (p2 : TMatch → TMatch → Option (Int)) : Nat → (List TMatch) → Int → Option ((List TMatch))
  | 0, _, _ => none
  | k + 1, s4, s5 =>
    (if decide (s5 < p1) then m_sl_stableCmpFunc_i_Match_l3 N p1 p2 s5 (m_sl_stableCmpFunc_i_Match_l2 N p1 p2 k) N s4 0 (i64.wrap (2 * s5)) else some s4)
def m_sl_stableCmpFunc_i_Match_l1 (N : Nat) (p1 : Int) (p2 : TMatch → TMatch → Option (Int)) : Nat → (List TMatch) → Int → Int → Option ((List TMatch))
  | 0, _, _, _ => none
  | k + 1, s1, s2, s3 =>
    (if decide (s3 ≤ p1) then ((m_sl_insertionSortCmpFunc_i_Match N s1 s2 s3 p2).bind fun x1 => ((m_sl_stableCmpFunc_i_Match_l1 N p1 p2 k) x1 s3 (i64.wrap (s3 + 20)))) else ((m_sl_insertionSortCmpFunc_i_Match N s1 s2 p1 p2).bind fun x2 => m_sl_stableCmpFunc_i_Match_l2 N p1 p2 N x2 20))
def m_sl_stableCmpFunc_i_Match (N : Nat) (p0 : (List TMatch)) (p1 : Int) (p2 : TMatch → TMatch → Option (Int)) : Option ((List TMatch)) :=
  m_sl_stableCmpFunc_i_Match_l1 N p1 p2 N p0 0 20
def m_sl_SortStableFunc_Si_Match_i_Match (N : Nat) (p0 : (List TMatch)) (p1 : TMatch → TMatch → Option (Int)) : Option ((List TMatch)) :=
  ((m_sl_stableCmpFunc_i_Match N p0 (p0.length : Int) p1).bind fun x1 => some x1)
def m_sl_Compare_Sint_int_l1 (N : Nat) (p0 : (List Int)) (p1 : (List Int)) : Nat → Int → Option (Int)
  | 0, _ => none
  | k + 1, s1 =>
    (if decide (s1 < (p0.length : Int)) then ((idx p0 s1).bind fun x1 => (if decide ((p1.length : Int) ≤ s1) then some 1 else ((idx p1 s1).bind fun x2 => ((m_cmp_Compare_int N x1 x2).bind fun x3 => (if !decide (x3 = 0) then some x3 else ((m_sl_Compare_Sint_int_l1 N p0 p1 k) (i64.wrap (s1 + 1)))))))) else (if decide ((p0.length : Int) < (p1.length : Int)) then some (-1) else some 0))
def m_sl_Compare_Sint_int (N : Nat) (p0 : (List Int)) (p1 : (List Int)) : Option (Int) :=
  m_sl_Compare_Sint_int_l1 N p0 p1 N 0
def m_i_compareMatches (N : Nat) (p0 : TMatch) (p1 : TMatch) : Option (Int) :=
  ((m_cmp_Compare_int N p0.Rule p1.Rule).bind fun x1 => ((m_cmp_Compare_int N (p0.Ids.length : Int) (p1.Ids.length : Int)).bind fun x2 => ((m_cmp_Or_int N ([x1, x2] : List Int)).bind fun x3 => (if decide (x3 = 0) then ((m_sl_Compare_Sint_int N p0.Ids p1.Ids).bind fun x4 => some x4) else some x3))))
def m_i_SetOf_l2 (N : Nat) (p2 : TStore) (s1 : (List TMatch)) (s2 : Int) (K1 : (List TMatch) → Int → Option ((List TMatch))) (x1 : TRule) (x4 : TLevel) : Nat → (List TMatch) → Int → Option ((List TMatch))
  | 0, _, _ => none
  | k + 1, s3, s4 =>
    (if decide (s4 < (x4.Toks.length : Int)) then ((idx x4.Toks s4).bind fun x5 => ((m_i_BindsFor N x1 p2 x5.Ids).bind fun x6 => ((if x6.2 then ((m_i_isFree N x5).bind fun x7 => some x7) else some false).bind fun b2 => ((if b2 then ((m_i_HoldAll N x1.Conds x6.1).bind fun x8 => some x8) else some false).bind fun b3 => (if b3 then ((m_sl_Clone_Sint_int N x5.Ids).bind fun x9 => ((app s3 ([(⟨s2, x9, x6.1⟩ : TMatch)] : List TMatch)).bind fun x10 => ((m_i_SetOf_l2 N p2 s1 s2 K1 x1 x4 k) x10 (i64.wrap (s4 + 1))))) else ((m_i_SetOf_l2 N p2 s1 s2 K1 x1 x4 k) s3 (i64.wrap (s4 + 1)))))))) else ((m_sl_SortStableFunc_Si_Match_i_Match N s3 (m_i_compareMatches N)).bind fun x11 => ((app s1 x11).bind fun x12 => (K1 x12 (i64.wrap (s2 + 1))))))
def m_i_SetOf_l1 (N : Nat) (p0 : TDef) (p1 : TMem) (p2 : TStore) : Nat → (List TMatch) → Int → Option ((List TMatch))
  | 0, _, _ => none
  | k + 1, s1, s2 =>
    (if decide (s2 < (p0.Rules.length : Int)) then ((idx p0.Rules s2).bind fun x1 => ((if decide ((p1.Rules.length : Int) ≤ s2) then some true else ((idx p1.Rules s2).bind fun x2 => some (decide ((x2.Levels.length : Int) = 0)))).bind fun b1 => (if b1 then ((m_i_SetOf_l1 N p0 p1 p2 k) s1 (i64.wrap (s2 + 1))) else ((idx p1.Rules s2).bind fun x3 => ((idx x3.Levels (i64.wrap ((x3.Levels.length : Int) - 1))).bind fun x4 => m_i_SetOf_l2 N p2 s1 s2 (m_i_SetOf_l1 N p0 p1 p2 k) x1 x4 N ([] : List TMatch) 0))))) else some s1)
def m_i_SetOf (N : Nat) (p0 : TDef) (p1 : TMem) (p2 : TStore) : Option ((List TMatch)) :=
  m_i_SetOf_l1 N p0 p1 p2 N ([] : List TMatch) 0
def m_l_eqIntS_l1 (N : Nat) (p0 : (List Int)) (p1 : (List Int)) : Nat → Int → Option (Bool)
  | 0, _ => none
  | k + 1, s1 =>
    (if decide (s1 < (p0.length : Int)) then ((idx p0 s1).bind fun x1 => ((idx p1 s1).bind fun x2 => (if !decide (x1 = x2) then some false else ((m_l_eqIntS_l1 N p0 p1 k) (i64.wrap (s1 + 1)))))) else some true)
def m_l_eqIntS (N : Nat) (p0 : (List Int)) (p1 : (List Int)) : Option (Bool) :=
  (if !decide ((p0.length : Int) = (p1.length : Int)) then some false else m_l_eqIntS_l1 N p0 p1 N 0)
def m_l_eqVal (N : Nat) (p0 : TVal) (p1 : TVal) : Option (Bool) :=
  (if !decide (p0.K = p1.K) then some false else (if !decide (p0.N = p1.N) then some false else (if !seq p0.S p1.S then some false else some true)))
def m_l_eqBind (N : Nat) (p0 : TBind) (p1 : TBind) : Option (Bool) :=
  (if !seq p0.Name p1.Name then some false else ((m_l_eqVal N p0.V p1.V).bind fun x1 => (if !x1 then some false else some true)))
def m_l_eqBindS_l1 (N : Nat) (p0 : (List TBind)) (p1 : (List TBind)) : Nat → Int → Option (Bool)
  | 0, _ => none
  | k + 1, s1 =>
    (if decide (s1 < (p0.length : Int)) then ((idx p0 s1).bind fun x1 => ((idx p1 s1).bind fun x2 => ((m_l_eqBind N x1 x2).bind fun x3 => (if !x3 then some false else ((m_l_eqBindS_l1 N p0 p1 k) (i64.wrap (s1 + 1))))))) else some true)
def m_l_eqBindS (N : Nat) (p0 : (List TBind)) (p1 : (List TBind)) : Option (Bool) :=
  (if !decide ((p0.length : Int) = (p1.length : Int)) then some false else m_l_eqBindS_l1 N p0 p1 N 0)
def m_l_eqMatch (N : Nat) (p0 : TMatch) (p1 : TMatch) : Option (Bool) :=
  (if !decide (p0.Rule = p1.Rule) then some false else ((m_l_eqIntS N p0.Ids p1.Ids).bind fun x1 => (if !x1 then some false else ((m_l_eqBindS N p0.Binds p1.Binds).bind fun x2 => (if !x2 then some false else some true)))))
def m_l_eqMatchS_l1 (N : Nat) (p0 : (List TMatch)) (p1 : (List TMatch)) : Nat → Int → Option (Bool)
  | 0, _ => none
  | k + 1, s1 =>
    (if decide (s1 < (p0.length : Int)) then ((idx p0 s1).bind fun x1 => ((idx p1 s1).bind fun x2 => ((m_l_eqMatch N x1 x2).bind fun x3 => (if !x3 then some false else ((m_l_eqMatchS_l1 N p0 p1 k) (i64.wrap (s1 + 1))))))) else some true)
def m_l_eqMatchS (N : Nat) (p0 : (List TMatch)) (p1 : (List TMatch)) : Option (Bool) :=
  (if !decide ((p0.length : Int) = (p1.length : Int)) then some false else m_l_eqMatchS_l1 N p0 p1 N 0)
def m_l_eqArg (N : Nat) (p0 : TArg) (p1 : TArg) : Option (Bool) :=
  (if !decide (p0.K = p1.K) then some false else (if !seq p0.S p1.S then some false else ((m_l_eqVal N p0.V p1.V).bind fun x1 => (if !x1 then some false else some true))))
def m_l_eqArgS_l1 (N : Nat) (p0 : (List TArg)) (p1 : (List TArg)) : Nat → Int → Option (Bool)
  | 0, _ => none
  | k + 1, s1 =>
    (if decide (s1 < (p0.length : Int)) then ((idx p0 s1).bind fun x1 => ((idx p1 s1).bind fun x2 => ((m_l_eqArg N x1 x2).bind fun x3 => (if !x3 then some false else ((m_l_eqArgS_l1 N p0 p1 k) (i64.wrap (s1 + 1))))))) else some true)
def m_l_eqArgS (N : Nat) (p0 : (List TArg)) (p1 : (List TArg)) : Option (Bool) :=
  (if !decide ((p0.length : Int) = (p1.length : Int)) then some false else m_l_eqArgS_l1 N p0 p1 N 0)
def m_l_eqPat (N : Nat) (p0 : TPat) (p1 : TPat) : Option (Bool) :=
  (if !seq p0.Kind p1.Kind then some false else ((m_l_eqArgS N p0.Args p1.Args).bind fun x1 => (if !x1 then some false else (if (p0.Not != p1.Not) then some false else some true))))
def m_l_eqPatS_l1 (N : Nat) (p0 : (List TPat)) (p1 : (List TPat)) : Nat → Int → Option (Bool)
  | 0, _ => none
  | k + 1, s1 =>
    (if decide (s1 < (p0.length : Int)) then ((idx p0 s1).bind fun x1 => ((idx p1 s1).bind fun x2 => ((m_l_eqPat N x1 x2).bind fun x3 => (if !x3 then some false else ((m_l_eqPatS_l1 N p0 p1 k) (i64.wrap (s1 + 1))))))) else some true)
def m_l_eqPatS (N : Nat) (p0 : (List TPat)) (p1 : (List TPat)) : Option (Bool) :=
  (if !decide ((p0.length : Int) = (p1.length : Int)) then some false else m_l_eqPatS_l1 N p0 p1 N 0)
def m_l_eqCond (N : Nat) (p0 : TCond) (p1 : TCond) : Option (Bool) :=
  (if !decide (p0.Op = p1.Op) then some false else ((m_l_eqArg N p0.L p1.L).bind fun x1 => (if !x1 then some false else ((m_l_eqArg N p0.R p1.R).bind fun x2 => (if !x2 then some false else some true)))))
def m_l_eqCondS_l1 (N : Nat) (p0 : (List TCond)) (p1 : (List TCond)) : Nat → Int → Option (Bool)
  | 0, _ => none
  | k + 1, s1 =>
    (if decide (s1 < (p0.length : Int)) then ((idx p0 s1).bind fun x1 => ((idx p1 s1).bind fun x2 => ((m_l_eqCond N x1 x2).bind fun x3 => (if !x3 then some false else ((m_l_eqCondS_l1 N p0 p1 k) (i64.wrap (s1 + 1))))))) else some true)
def m_l_eqCondS (N : Nat) (p0 : (List TCond)) (p1 : (List TCond)) : Option (Bool) :=
  (if !decide ((p0.length : Int) = (p1.length : Int)) then some false else m_l_eqCondS_l1 N p0 p1 N 0)
def m_l_eqExpr (N : Nat) (p0 : TExpr) (p1 : TExpr) : Option (Bool) :=
  (if !seq p0.Op p1.Op then some false else ((m_l_eqArg N p0.L p1.L).bind fun x1 => (if !x1 then some false else ((m_l_eqArg N p0.R p1.R).bind fun x2 => (if !x2 then some false else some true)))))
def m_l_eqExprS_l1 (N : Nat) (p0 : (List TExpr)) (p1 : (List TExpr)) : Nat → Int → Option (Bool)
  | 0, _ => none
  | k + 1, s1 =>
    (if decide (s1 < (p0.length : Int)) then ((idx p0 s1).bind fun x1 => ((idx p1 s1).bind fun x2 => ((m_l_eqExpr N x1 x2).bind fun x3 => (if !x3 then some false else ((m_l_eqExprS_l1 N p0 p1 k) (i64.wrap (s1 + 1))))))) else some true)
def m_l_eqExprS (N : Nat) (p0 : (List TExpr)) (p1 : (List TExpr)) : Option (Bool) :=
  (if !decide ((p0.length : Int) = (p1.length : Int)) then some false else m_l_eqExprS_l1 N p0 p1 N 0)
def m_l_eqAct (N : Nat) (p0 : TAct) (p1 : TAct) : Option (Bool) :=
  (if !decide (p0.Kind = p1.Kind) then some false else (if !seq p0.Name p1.Name then some false else ((m_l_eqExprS N p0.Args p1.Args).bind fun x1 => (if !x1 then some false else (if !decide (p0.N = p1.N) then some false else (if !seq p0.Undo p1.Undo then some false else some true))))))
def m_l_eqActS_l1 (N : Nat) (p0 : (List TAct)) (p1 : (List TAct)) : Nat → Int → Option (Bool)
  | 0, _ => none
  | k + 1, s1 =>
    (if decide (s1 < (p0.length : Int)) then ((idx p0 s1).bind fun x1 => ((idx p1 s1).bind fun x2 => ((m_l_eqAct N x1 x2).bind fun x3 => (if !x3 then some false else ((m_l_eqActS_l1 N p0 p1 k) (i64.wrap (s1 + 1))))))) else some true)
def m_l_eqActS (N : Nat) (p0 : (List TAct)) (p1 : (List TAct)) : Option (Bool) :=
  (if !decide ((p0.length : Int) = (p1.length : Int)) then some false else m_l_eqActS_l1 N p0 p1 N 0)
def m_l_eqRule (N : Nat) (p0 : TRule) (p1 : TRule) : Option (Bool) :=
  (if !seq p0.Name p1.Name then some false else (if !decide (p0.Sal = p1.Sal) then some false else ((m_l_eqPatS N p0.Pats p1.Pats).bind fun x1 => (if !x1 then some false else ((m_l_eqCondS N p0.Conds p1.Conds).bind fun x2 => (if !x2 then some false else ((m_l_eqActS N p0.Acts p1.Acts).bind fun x3 => (if !x3 then some false else some true))))))))
def m_l_eqRuleS_l1 (N : Nat) (p0 : (List TRule)) (p1 : (List TRule)) : Nat → Int → Option (Bool)
  | 0, _ => none
  | k + 1, s1 =>
    (if decide (s1 < (p0.length : Int)) then ((idx p0 s1).bind fun x1 => ((idx p1 s1).bind fun x2 => ((m_l_eqRule N x1 x2).bind fun x3 => (if !x3 then some false else ((m_l_eqRuleS_l1 N p0 p1 k) (i64.wrap (s1 + 1))))))) else some true)
def m_l_eqRuleS (N : Nat) (p0 : (List TRule)) (p1 : (List TRule)) : Option (Bool) :=
  (if !decide ((p0.length : Int) = (p1.length : Int)) then some false else m_l_eqRuleS_l1 N p0 p1 N 0)
def m_l_eqDef (N : Nat) (p0 : TDef) (p1 : TDef) : Option (Bool) :=
  (if !seq p0.Name p1.Name then some false else ((m_l_eqRuleS N p0.Rules p1.Rules).bind fun x1 => (if !x1 then some false else some true)))
def m_l_eqIds (N : Nat) (p0 : TIds) (p1 : TIds) : Option (Bool) :=
  ((m_l_eqIntS N p0.L p1.L).bind fun x1 => (if !x1 then some false else some true))
def m_l_eqIdsS_l1 (N : Nat) (p0 : (List TIds)) (p1 : (List TIds)) : Nat → Int → Option (Bool)
  | 0, _ => none
  | k + 1, s1 =>
    (if decide (s1 < (p0.length : Int)) then ((idx p0 s1).bind fun x1 => ((idx p1 s1).bind fun x2 => ((m_l_eqIds N x1 x2).bind fun x3 => (if !x3 then some false else ((m_l_eqIdsS_l1 N p0 p1 k) (i64.wrap (s1 + 1))))))) else some true)
def m_l_eqIdsS (N : Nat) (p0 : (List TIds)) (p1 : (List TIds)) : Option (Bool) :=
  (if !decide ((p0.length : Int) = (p1.length : Int)) then some false else m_l_eqIdsS_l1 N p0 p1 N 0)
def m_l_eqTok (N : Nat) (p0 : TTok) (p1 : TTok) : Option (Bool) :=
  ((m_l_eqIntS N p0.Ids p1.Ids).bind fun x1 => (if !x1 then some false else ((m_l_eqIntS N p0.Hits p1.Hits).bind fun x2 => (if !x2 then some false else some true))))
def m_l_eqTokS_l1 (N : Nat) (p0 : (List TTok)) (p1 : (List TTok)) : Nat → Int → Option (Bool)
  | 0, _ => none
  | k + 1, s1 =>
    (if decide (s1 < (p0.length : Int)) then ((idx p0 s1).bind fun x1 => ((idx p1 s1).bind fun x2 => ((m_l_eqTok N x1 x2).bind fun x3 => (if !x3 then some false else ((m_l_eqTokS_l1 N p0 p1 k) (i64.wrap (s1 + 1))))))) else some true)
def m_l_eqTokS (N : Nat) (p0 : (List TTok)) (p1 : (List TTok)) : Option (Bool) :=
  (if !decide ((p0.length : Int) = (p1.length : Int)) then some false else m_l_eqTokS_l1 N p0 p1 N 0)
def m_l_eqLevel (N : Nat) (p0 : TLevel) (p1 : TLevel) : Option (Bool) :=
  ((m_l_eqTokS N p0.Toks p1.Toks).bind fun x1 => (if !x1 then some false else some true))
def m_l_eqLevelS_l1 (N : Nat) (p0 : (List TLevel)) (p1 : (List TLevel)) : Nat → Int → Option (Bool)
  | 0, _ => none
  | k + 1, s1 =>
    (if decide (s1 < (p0.length : Int)) then ((idx p0 s1).bind fun x1 => ((idx p1 s1).bind fun x2 => ((m_l_eqLevel N x1 x2).bind fun x3 => (if !x3 then some false else ((m_l_eqLevelS_l1 N p0 p1 k) (i64.wrap (s1 + 1))))))) else some true)
def m_l_eqLevelS (N : Nat) (p0 : (List TLevel)) (p1 : (List TLevel)) : Option (Bool) :=
  (if !decide ((p0.length : Int) = (p1.length : Int)) then some false else m_l_eqLevelS_l1 N p0 p1 N 0)
def m_l_eqRow (N : Nat) (p0 : TRow) (p1 : TRow) : Option (Bool) :=
  ((m_l_eqLevelS N p0.Levels p1.Levels).bind fun x1 => (if !x1 then some false else some true))
def m_l_eqRowS_l1 (N : Nat) (p0 : (List TRow)) (p1 : (List TRow)) : Nat → Int → Option (Bool)
  | 0, _ => none
  | k + 1, s1 =>
    (if decide (s1 < (p0.length : Int)) then ((idx p0 s1).bind fun x1 => ((idx p1 s1).bind fun x2 => ((m_l_eqRow N x1 x2).bind fun x3 => (if !x3 then some false else ((m_l_eqRowS_l1 N p0 p1 k) (i64.wrap (s1 + 1))))))) else some true)
def m_l_eqRowS (N : Nat) (p0 : (List TRow)) (p1 : (List TRow)) : Option (Bool) :=
  (if !decide ((p0.length : Int) = (p1.length : Int)) then some false else m_l_eqRowS_l1 N p0 p1 N 0)
def m_l_eqMem (N : Nat) (p0 : TMem) (p1 : TMem) : Option (Bool) :=
  ((m_l_eqIdsS N p0.Alphas p1.Alphas).bind fun x1 => (if !x1 then some false else ((m_l_eqRowS N p0.Rules p1.Rules).bind fun x2 => (if !x2 then some false else some true))))
def m_l_eqValS_l1 (N : Nat) (p0 : (List TVal)) (p1 : (List TVal)) : Nat → Int → Option (Bool)
  | 0, _ => none
  | k + 1, s1 =>
    (if decide (s1 < (p0.length : Int)) then ((idx p0 s1).bind fun x1 => ((idx p1 s1).bind fun x2 => ((m_l_eqVal N x1 x2).bind fun x3 => (if !x3 then some false else ((m_l_eqValS_l1 N p0 p1 k) (i64.wrap (s1 + 1))))))) else some true)
def m_l_eqValS (N : Nat) (p0 : (List TVal)) (p1 : (List TVal)) : Option (Bool) :=
  (if !decide ((p0.length : Int) = (p1.length : Int)) then some false else m_l_eqValS_l1 N p0 p1 N 0)
def m_l_eqFact (N : Nat) (p0 : TFact) (p1 : TFact) : Option (Bool) :=
  (if !seq p0.Kind p1.Kind then some false else ((m_l_eqValS N p0.Fields p1.Fields).bind fun x1 => (if !x1 then some false else some true)))
def m_l_eqItem (N : Nat) (p0 : TItem) (p1 : TItem) : Option (Bool) :=
  (if !decide (p0.Id = p1.Id) then some false else ((m_l_eqFact N p0.F p1.F).bind fun x1 => (if !x1 then some false else some true)))
def m_l_eqItemS_l1 (N : Nat) (p0 : (List TItem)) (p1 : (List TItem)) : Nat → Int → Option (Bool)
  | 0, _ => none
  | k + 1, s1 =>
    (if decide (s1 < (p0.length : Int)) then ((idx p0 s1).bind fun x1 => ((idx p1 s1).bind fun x2 => ((m_l_eqItem N x1 x2).bind fun x3 => (if !x3 then some false else ((m_l_eqItemS_l1 N p0 p1 k) (i64.wrap (s1 + 1))))))) else some true)
def m_l_eqItemS (N : Nat) (p0 : (List TItem)) (p1 : (List TItem)) : Option (Bool) :=
  (if !decide ((p0.length : Int) = (p1.length : Int)) then some false else m_l_eqItemS_l1 N p0 p1 N 0)
def m_l_eqStore (N : Nat) (p0 : TStore) (p1 : TStore) : Option (Bool) :=
  ((m_l_eqItemS N p0.Items p1.Items).bind fun x1 => (if !x1 then some false else (if !decide (p0.Next = p1.Next) then some false else some true)))
def m_l_markText_l1 (N : Nat) : Nat → Int → ByteArray → Option (ByteArray)
  | 0, _, _ => none
  | k + 1, s1, s2 =>
    (if decide (0 < s1) then ((cat (bstr ([(IntKind.u8.wrap (i64.wrap (48 + (s1.tmod 10))))] : List Int)) s2).bind fun z1 => ((m_l_markText_l1 N k) (i64.wrap (s1.tdiv 10)) z1)) else ((cat (⟨#[109]⟩ : ByteArray) s2).bind fun z2 => some z2))
def m_l_markText (N : Nat) (p0 : Int) : Option (ByteArray) :=
  (if decide (p0 ≤ 0) then some (⟨#[109, 48]⟩ : ByteArray) else m_l_markText_l1 N N p0 (⟨#[]⟩ : ByteArray))
def m_l_markArgS_l1 (N : Nat) : Nat → (List TArg) → Int → Int → Option (Int × (List TArg))
  | 0, _, _, _ => none
  | k + 1, s1, s2, s3 =>
    (if decide (s3 < (s1.length : Int)) then ((idx s1 s3).bind fun x1 => ((m_l_markText N (i64.wrap (s2 + 1))).bind fun x2 => ((m_l_markText N (i64.wrap ((i64.wrap ((i64.wrap ((i64.wrap (s2 + 1)) + 1)) + 1)) + 1))).bind fun x3 => ((m_l_markArgS_l1 N k) (s1.set s3.toNat (⟨s2, x2, (⟨i64.wrap ((i64.wrap (s2 + 1)) + 1), i64.wrap ((i64.wrap ((i64.wrap (s2 + 1)) + 1)) + 1), x3⟩ : TVal)⟩ : TArg)) (i64.wrap ((i64.wrap ((i64.wrap ((i64.wrap ((i64.wrap (s2 + 1)) + 1)) + 1)) + 1)) + 1)) (i64.wrap (s3 + 1)))))) else some (s2, s1))
def m_l_markArgS (N : Nat) (p0 : (List TArg)) (p1 : Int) : Option (Int × (List TArg)) :=
  m_l_markArgS_l1 N N p0 p1 0
def m_l_markPatS_l1 (N : Nat) : Nat → (List TPat) → Int → Int → Option (Int × (List TPat))
  | 0, _, _, _ => none
  | k + 1, s1, s2, s3 =>
    (if decide (s3 < (s1.length : Int)) then ((m_l_markText N s2).bind fun x1 => ((idx s1 s3).bind fun x2 => ((m_l_markArgS N x2.Args (i64.wrap (s2 + 1))).bind fun x3 => ((m_l_markPatS_l1 N k) (s1.set s3.toNat (⟨x1, x3.2, decide ((x3.1.tmod 3) = 0)⟩ : TPat)) (i64.wrap (x3.1 + 1)) (i64.wrap (s3 + 1)))))) else some (s2, s1))
def m_l_markPatS (N : Nat) (p0 : (List TPat)) (p1 : Int) : Option (Int × (List TPat)) :=
  m_l_markPatS_l1 N N p0 p1 0
def m_l_markCondS_l1 (N : Nat) : Nat → (List TCond) → Int → Int → Option (Int × (List TCond))
  | 0, _, _, _ => none
  | k + 1, s1, s2, s3 =>
    (if decide (s3 < (s1.length : Int)) then ((idx s1 s3).bind fun x1 => ((m_l_markText N (i64.wrap ((i64.wrap (s2 + 1)) + 1))).bind fun x2 => ((m_l_markText N (i64.wrap ((i64.wrap ((i64.wrap ((i64.wrap ((i64.wrap (s2 + 1)) + 1)) + 1)) + 1)) + 1))).bind fun x3 => ((m_l_markText N (i64.wrap ((i64.wrap ((i64.wrap ((i64.wrap ((i64.wrap ((i64.wrap ((i64.wrap (s2 + 1)) + 1)) + 1)) + 1)) + 1)) + 1)) + 1))).bind fun x4 => ((m_l_markText N (i64.wrap ((i64.wrap ((i64.wrap ((i64.wrap ((i64.wrap ((i64.wrap ((i64.wrap ((i64.wrap ((i64.wrap ((i64.wrap (s2 + 1)) + 1)) + 1)) + 1)) + 1)) + 1)) + 1)) + 1)) + 1)) + 1))).bind fun x5 => ((m_l_markCondS_l1 N k) (s1.set s3.toNat (⟨s2, (⟨i64.wrap (s2 + 1), x2, (⟨i64.wrap ((i64.wrap ((i64.wrap (s2 + 1)) + 1)) + 1), i64.wrap ((i64.wrap ((i64.wrap ((i64.wrap (s2 + 1)) + 1)) + 1)) + 1), x3⟩ : TVal)⟩ : TArg), (⟨i64.wrap ((i64.wrap ((i64.wrap ((i64.wrap ((i64.wrap ((i64.wrap (s2 + 1)) + 1)) + 1)) + 1)) + 1)) + 1), x4, (⟨i64.wrap ((i64.wrap ((i64.wrap ((i64.wrap ((i64.wrap ((i64.wrap ((i64.wrap ((i64.wrap (s2 + 1)) + 1)) + 1)) + 1)) + 1)) + 1)) + 1)) + 1), i64.wrap ((i64.wrap ((i64.wrap ((i64.wrap ((i64.wrap ((i64.wrap ((i64.wrap ((i64.wrap ((i64.wrap (s2 + 1)) + 1)) + 1)) + 1)) + 1)) + 1)) + 1)) + 1)) + 1), x5⟩ : TVal)⟩ : TArg)⟩ : TCond)) (i64.wrap ((i64.wrap ((i64.wrap ((i64.wrap ((i64.wrap ((i64.wrap ((i64.wrap ((i64.wrap ((i64.wrap ((i64.wrap ((i64.wrap (s2 + 1)) + 1)) + 1)) + 1)) + 1)) + 1)) + 1)) + 1)) + 1)) + 1)) + 1)) (i64.wrap (s3 + 1)))))))) else some (s2, s1))
def m_l_markCondS (N : Nat) (p0 : (List TCond)) (p1 : Int) : Option (Int × (List TCond)) :=
  m_l_markCondS_l1 N N p0 p1 0
def m_l_markExprS_l1 (N : Nat) : Nat → (List TExpr) → Int → Int → Option (Int × (List TExpr))
  | 0, _, _, _ => none
  | k + 1, s1, s2, s3 =>
    (if decide (s3 < (s1.length : Int)) then ((m_l_markText N s2).bind fun x1 => ((idx s1 s3).bind fun x2 => ((m_l_markText N (i64.wrap ((i64.wrap (s2 + 1)) + 1))).bind fun x3 => ((m_l_markText N (i64.wrap ((i64.wrap ((i64.wrap ((i64.wrap ((i64.wrap (s2 + 1)) + 1)) + 1)) + 1)) + 1))).bind fun x4 => ((m_l_markText N (i64.wrap ((i64.wrap ((i64.wrap ((i64.wrap ((i64.wrap ((i64.wrap ((i64.wrap (s2 + 1)) + 1)) + 1)) + 1)) + 1)) + 1)) + 1))).bind fun x5 => ((m_l_markText N (i64.wrap ((i64.wrap ((i64.wrap ((i64.wrap ((i64.wrap ((i64.wrap ((i64.wrap ((i64.wrap ((i64.wrap ((i64.wrap (s2 + 1)) + 1)) + 1)) + 1)) + 1)) + 1)) + 1)) + 1)) + 1)) + 1))).bind fun x6 => ((m_l_markExprS_l1 N k) (s1.set s3.toNat (⟨x1, (⟨i64.wrap (s2 + 1), x3, (⟨i64.wrap ((i64.wrap ((i64.wrap (s2 + 1)) + 1)) + 1), i64.wrap ((i64.wrap ((i64.wrap ((i64.wrap (s2 + 1)) + 1)) + 1)) + 1), x4⟩ : TVal)⟩ : TArg), (⟨i64.wrap ((i64.wrap ((i64.wrap ((i64.wrap ((i64.wrap ((i64.wrap (s2 + 1)) + 1)) + 1)) + 1)) + 1)) + 1), x5, (⟨i64.wrap ((i64.wrap ((i64.wrap ((i64.wrap ((i64.wrap ((i64.wrap ((i64.wrap ((i64.wrap (s2 + 1)) + 1)) + 1)) + 1)) + 1)) + 1)) + 1)) + 1), i64.wrap ((i64.wrap ((i64.wrap ((i64.wrap ((i64.wrap ((i64.wrap ((i64.wrap ((i64.wrap ((i64.wrap (s2 + 1)) + 1)) + 1)) + 1)) + 1)) + 1)) + 1)) + 1)) + 1), x6⟩ : TVal)⟩ : TArg)⟩ : TExpr)) (i64.wrap ((i64.wrap ((i64.wrap ((i64.wrap ((i64.wrap ((i64.wrap ((i64.wrap ((i64.wrap ((i64.wrap ((i64.wrap ((i64.wrap (s2 + 1)) + 1)) + 1)) + 1)) + 1)) + 1)) + 1)) + 1)) + 1)) + 1)) + 1)) (i64.wrap (s3 + 1))))))))) else some (s2, s1))
def m_l_markExprS (N : Nat) (p0 : (List TExpr)) (p1 : Int) : Option (Int × (List TExpr)) :=
  m_l_markExprS_l1 N N p0 p1 0
def m_l_markActS_l1 (N : Nat) : Nat → (List TAct) → Int → Int → Option (Int × (List TAct))
  | 0, _, _, _ => none
  | k + 1, s1, s2, s3 =>
    (if decide (s3 < (s1.length : Int)) then ((idx s1 s3).bind fun x1 => ((m_l_markText N (i64.wrap (s2 + 1))).bind fun x2 => ((m_l_markExprS N x1.Args (i64.wrap ((i64.wrap (s2 + 1)) + 1))).bind fun x3 => ((m_l_markText N (i64.wrap (x3.1 + 1))).bind fun x4 => ((m_l_markActS_l1 N k) (s1.set s3.toNat (⟨s2, x2, x3.2, x3.1, x4⟩ : TAct)) (i64.wrap ((i64.wrap (x3.1 + 1)) + 1)) (i64.wrap (s3 + 1))))))) else some (s2, s1))
def m_l_markActS (N : Nat) (p0 : (List TAct)) (p1 : Int) : Option (Int × (List TAct)) :=
  m_l_markActS_l1 N N p0 p1 0
def m_l_markRuleS_l1 (N : Nat) : Nat → (List TRule) → Int → Int → Option (Int × (List TRule))
  | 0, _, _, _ => none
  | k + 1, s1, s2, s3 =>
    (if decide (s3 < (s1.length : Int)) then ((m_l_markText N s2).bind fun x1 => ((idx s1 s3).bind fun x2 => ((m_l_markPatS N x2.Pats (i64.wrap ((i64.wrap (s2 + 1)) + 1))).bind fun x3 => ((m_l_markCondS N x2.Conds x3.1).bind fun x4 => ((m_l_markActS N x2.Acts x4.1).bind fun x5 => ((m_l_markRuleS_l1 N k) (s1.set s3.toNat (⟨x1, i64.wrap (s2 + 1), x3.2, x4.2, x5.2⟩ : TRule)) x5.1 (i64.wrap (s3 + 1)))))))) else some (s2, s1))
def m_l_markRuleS (N : Nat) (p0 : (List TRule)) (p1 : Int) : Option (Int × (List TRule)) :=
  m_l_markRuleS_l1 N N p0 p1 0
def m_l_markDef (N : Nat) (p0 : TDef) (p1 : Int) : Option (Int × (List TRule)) :=
  ((m_l_markRuleS N p0.Rules p1).bind fun x1 => some (x1.1, x1.2))
def m_l_markIntS_l1 (N : Nat) : Nat → (List Int) → Int → Int → Option (Int × (List Int))
  | 0, _, _, _ => none
  | k + 1, s1, s2, s3 =>
    (if decide (s3 < (s1.length : Int)) then ((idx s1 s3).bind fun x1 => ((m_l_markIntS_l1 N k) (s1.set s3.toNat s2) (i64.wrap (s2 + 1)) (i64.wrap (s3 + 1)))) else some (s2, s1))
def m_l_markIntS (N : Nat) (p0 : (List Int)) (p1 : Int) : Option (Int × (List Int)) :=
  m_l_markIntS_l1 N N p0 p1 0
def m_l_markIdsS_l1 (N : Nat) : Nat → (List TIds) → Int → Int → Option (Int × (List TIds))
  | 0, _, _, _ => none
  | k + 1, s1, s2, s3 =>
    (if decide (s3 < (s1.length : Int)) then ((idx s1 s3).bind fun x1 => ((m_l_markIntS N x1.L s2).bind fun x2 => ((m_l_markIdsS_l1 N k) (s1.set s3.toNat (⟨x2.2⟩ : TIds)) x2.1 (i64.wrap (s3 + 1))))) else some (s2, s1))
def m_l_markIdsS (N : Nat) (p0 : (List TIds)) (p1 : Int) : Option (Int × (List TIds)) :=
  m_l_markIdsS_l1 N N p0 p1 0
def m_l_markTokS_l1 (N : Nat) : Nat → (List TTok) → Int → Int → Option (Int × (List TTok))
  | 0, _, _, _ => none
  | k + 1, s1, s2, s3 =>
    (if decide (s3 < (s1.length : Int)) then ((idx s1 s3).bind fun x1 => ((m_l_markIntS N x1.Ids s2).bind fun x2 => ((m_l_markIntS N x1.Hits x2.1).bind fun x3 => ((m_l_markTokS_l1 N k) (s1.set s3.toNat (⟨x2.2, x3.2⟩ : TTok)) x3.1 (i64.wrap (s3 + 1)))))) else some (s2, s1))
def m_l_markTokS (N : Nat) (p0 : (List TTok)) (p1 : Int) : Option (Int × (List TTok)) :=
  m_l_markTokS_l1 N N p0 p1 0
def m_l_markLevelS_l1 (N : Nat) : Nat → (List TLevel) → Int → Int → Option (Int × (List TLevel))
  | 0, _, _, _ => none
  | k + 1, s1, s2, s3 =>
    (if decide (s3 < (s1.length : Int)) then ((idx s1 s3).bind fun x1 => ((m_l_markTokS N x1.Toks s2).bind fun x2 => ((m_l_markLevelS_l1 N k) (s1.set s3.toNat (⟨x2.2⟩ : TLevel)) x2.1 (i64.wrap (s3 + 1))))) else some (s2, s1))
def m_l_markLevelS (N : Nat) (p0 : (List TLevel)) (p1 : Int) : Option (Int × (List TLevel)) :=
  m_l_markLevelS_l1 N N p0 p1 0
def m_l_markRowS_l1 (N : Nat) : Nat → (List TRow) → Int → Int → Option (Int × (List TRow))
  | 0, _, _, _ => none
  | k + 1, s1, s2, s3 =>
    (if decide (s3 < (s1.length : Int)) then ((idx s1 s3).bind fun x1 => ((m_l_markLevelS N x1.Levels s2).bind fun x2 => ((m_l_markRowS_l1 N k) (s1.set s3.toNat (⟨x2.2⟩ : TRow)) x2.1 (i64.wrap (s3 + 1))))) else some (s2, s1))
def m_l_markRowS (N : Nat) (p0 : (List TRow)) (p1 : Int) : Option (Int × (List TRow)) :=
  m_l_markRowS_l1 N N p0 p1 0
def m_l_markMem (N : Nat) (p0 : TMem) (p1 : Int) : Option (Int × (List TIds) × (List TRow)) :=
  ((m_l_markIdsS N p0.Alphas p1).bind fun x1 => ((m_l_markRowS N p0.Rules x1.1).bind fun x2 => some (x2.1, x1.2, x2.2)))
def m_l_markValS_l1 (N : Nat) : Nat → (List TVal) → Int → Int → Option (Int × (List TVal))
  | 0, _, _, _ => none
  | k + 1, s1, s2, s3 =>
    (if decide (s3 < (s1.length : Int)) then ((idx s1 s3).bind fun x1 => ((m_l_markText N (i64.wrap ((i64.wrap (s2 + 1)) + 1))).bind fun x2 => ((m_l_markValS_l1 N k) (s1.set s3.toNat (⟨s2, i64.wrap (s2 + 1), x2⟩ : TVal)) (i64.wrap ((i64.wrap ((i64.wrap (s2 + 1)) + 1)) + 1)) (i64.wrap (s3 + 1))))) else some (s2, s1))
def m_l_markValS (N : Nat) (p0 : (List TVal)) (p1 : Int) : Option (Int × (List TVal)) :=
  m_l_markValS_l1 N N p0 p1 0
def m_l_markItemS_l1 (N : Nat) : Nat → (List TItem) → Int → Int → Option (Int × (List TItem))
  | 0, _, _, _ => none
  | k + 1, s1, s2, s3 =>
    (if decide (s3 < (s1.length : Int)) then ((idx s1 s3).bind fun x1 => ((m_l_markText N (i64.wrap (s2 + 1))).bind fun x2 => ((m_l_markValS N x1.F.Fields (i64.wrap ((i64.wrap (s2 + 1)) + 1))).bind fun x3 => ((m_l_markItemS_l1 N k) (s1.set s3.toNat (⟨s2, (⟨x2, x3.2⟩ : TFact)⟩ : TItem)) x3.1 (i64.wrap (s3 + 1)))))) else some (s2, s1))
def m_l_markItemS (N : Nat) (p0 : (List TItem)) (p1 : Int) : Option (Int × (List TItem)) :=
  m_l_markItemS_l1 N N p0 p1 0
def m_l_markStore (N : Nat) (p0 : TStore) (p1 : Int) : Option (Int × (List TItem)) :=
  ((m_l_markItemS N p0.Items p1).bind fun x1 => some (x1.1, x1.2))
def m_l_markBindS_l1 (N : Nat) : Nat → (List TBind) → Int → Int → Option (Int × (List TBind))
  | 0, _, _, _ => none
  | k + 1, s1, s2, s3 =>
    (if decide (s3 < (s1.length : Int)) then ((m_l_markText N s2).bind fun x1 => ((idx s1 s3).bind fun x2 => ((m_l_markText N (i64.wrap ((i64.wrap ((i64.wrap (s2 + 1)) + 1)) + 1))).bind fun x3 => ((m_l_markBindS_l1 N k) (s1.set s3.toNat (⟨x1, (⟨i64.wrap (s2 + 1), i64.wrap ((i64.wrap (s2 + 1)) + 1), x3⟩ : TVal)⟩ : TBind)) (i64.wrap ((i64.wrap ((i64.wrap ((i64.wrap (s2 + 1)) + 1)) + 1)) + 1)) (i64.wrap (s3 + 1)))))) else some (s2, s1))
def m_l_markBindS (N : Nat) (p0 : (List TBind)) (p1 : Int) : Option (Int × (List TBind)) :=
  m_l_markBindS_l1 N N p0 p1 0
def m_l_markMatchS_l1 (N : Nat) : Nat → (List TMatch) → Int → Int → Option (Int × (List TMatch))
  | 0, _, _, _ => none
  | k + 1, s1, s2, s3 =>
    (if decide (s3 < (s1.length : Int)) then ((idx s1 s3).bind fun x1 => ((m_l_markIntS N x1.Ids (i64.wrap (s2 + 1))).bind fun x2 => ((m_l_markBindS N x1.Binds x2.1).bind fun x3 => ((m_l_markMatchS_l1 N k) (s1.set s3.toNat (⟨s2, x2.2, x3.2⟩ : TMatch)) x3.1 (i64.wrap (s3 + 1)))))) else some (s2, s1))
def m_l_markMatchS (N : Nat) (p0 : (List TMatch)) (p1 : Int) : Option (Int × (List TMatch)) :=
  m_l_markMatchS_l1 N N p0 p1 0
def m_l_heldIntS_l1 (N : Nat) (p0 : (List Int)) : Nat → Int → Int → Option (Int)
  | 0, _, _ => none
  | k + 1, s1, s2 =>
    (if decide (s2 < (p0.length : Int)) then ((idx p0 s2).bind fun x1 => (if !decide (x1 = s1) then some (-1) else ((m_l_heldIntS_l1 N p0 k) (i64.wrap (s1 + 1)) (i64.wrap (s2 + 1))))) else some s1)
def m_l_heldIntS (N : Nat) (p0 : (List Int)) (p1 : Int) : Option (Int) :=
  m_l_heldIntS_l1 N p0 N p1 0
def m_l_heldBindS_l1 (N : Nat) (p0 : (List TBind)) : Nat → Int → Int → Option (Int)
  | 0, _, _ => none
  | k + 1, s1, s2 =>
    (if decide (s2 < (p0.length : Int)) then ((idx p0 s2).bind fun x1 => ((m_l_markText N s1).bind fun x2 => (if !seq x1.Name x2 then some (-1) else ((idx p0 s2).bind fun x3 => (if !decide (x3.V.K = i64.wrap (s1 + 1)) then some (-1) else ((idx p0 s2).bind fun x4 => (if !decide (x4.V.N = i64.wrap ((i64.wrap (s1 + 1)) + 1)) then some (-1) else ((idx p0 s2).bind fun x5 => ((m_l_markText N (i64.wrap ((i64.wrap ((i64.wrap (s1 + 1)) + 1)) + 1))).bind fun x6 => (if !seq x5.V.S x6 then some (-1) else ((m_l_heldBindS_l1 N p0 k) (i64.wrap ((i64.wrap ((i64.wrap ((i64.wrap (s1 + 1)) + 1)) + 1)) + 1)) (i64.wrap (s2 + 1))))))))))))) else some s1)
def m_l_heldBindS (N : Nat) (p0 : (List TBind)) (p1 : Int) : Option (Int) :=
  m_l_heldBindS_l1 N p0 N p1 0
def m_l_heldMatchS_l1 (N : Nat) (p0 : (List TMatch)) : Nat → Int → Int → Option (Int)
  | 0, _, _ => none
  | k + 1, s1, s2 =>
    (if decide (s2 < (p0.length : Int)) then ((idx p0 s2).bind fun x1 => (if !decide (x1.Rule = s1) then some (-1) else ((idx p0 s2).bind fun x2 => ((m_l_heldIntS N x2.Ids (i64.wrap (s1 + 1))).bind fun x3 => (if decide (x3 < 0) then some (-1) else ((idx p0 s2).bind fun x4 => ((m_l_heldBindS N x4.Binds x3).bind fun x5 => (if decide (x5 < 0) then some (-1) else ((m_l_heldMatchS_l1 N p0 k) x5 (i64.wrap (s2 + 1))))))))))) else some s1)
def m_l_heldMatchS (N : Nat) (p0 : (List TMatch)) (p1 : Int) : Option (Int) :=
  m_l_heldMatchS_l1 N p0 N p1 0
def m_l_FnExactSetOf (N : Nat) (p0 : TDef) (p1 : TMem) (p2 : TStore) : Option (Bool) :=
  ((m_l_szDef N p0 1048576).bind fun x1 => (if decide (x1 < 0) then some true else ((m_l_szMem N p1 x1).bind fun x2 => (if decide (x2 < 0) then some true else ((m_l_szStore N p2 x2).bind fun x3 => (if decide (x3 < 0) then some true else ((m_l_toDef N p0).bind fun x4 => ((m_l_toMem N p1).bind fun x5 => ((m_l_toStore N p2).bind fun x6 => ((m_s_SetOf N x4 x5 x6).bind fun x7 => ((m_l_toDef N p0).bind fun x9 => ((m_l_toMem N p1).bind fun x10 => ((m_l_toStore N p2).bind fun x11 => ((m_i_SetOf N x9 x10 x11).bind fun x12 => ((m_l_eqMatchS N x12 x7).bind fun x13 => (if !x13 then some false else ((m_l_toDef N p0).bind fun x14 => ((m_l_eqDef N x9 x14).bind fun x15 => (if !x15 then some false else ((m_l_toMem N p1).bind fun x16 => ((m_l_eqMem N x10 x16).bind fun x17 => (if !x17 then some false else ((m_l_toStore N p2).bind fun x18 => ((m_l_eqStore N x11 x18).bind fun x19 => (if !x19 then some false else ((m_l_markDef N x9 1).bind fun x20 => ((m_l_markMem N x10 x20.1).bind fun x21 => ((m_l_markStore N x11 x21.1).bind fun x22 => ((if decide (x22.1 < 0) then some true else ((m_l_eqMatchS N x12 x7).bind fun x23 => some (!x23))).bind fun b1 => (if b1 then some false else ((m_l_markMatchS N x12 1).bind fun x24 => ((m_l_heldMatchS N x24.2 1).bind fun x25 => (if decide (x25 < 0) then some false else (if !decide (x25 = x24.1) then some false else ((m_l_toDef N p0).bind fun x26 => ((m_l_toMem N p1).bind fun x27 => ((m_l_toStore N p2).bind fun x28 => ((m_i_SetOf N x26 x27 x28).bind fun x29 => ((m_l_eqMatchS N x29 x7).bind fun x30 => (if !x30 then some false else ((m_l_heldMatchS N x24.2 1).bind fun x31 => (if decide (x31 < 0) then some false else (if !decide (x31 = x24.1) then some false else some true)))))))))))))))))))))))))))))))))))))))))))
end Go.Proofs.YtjccaebpbieejaaGreat
