/- Printed by a program of ours: Lean functions of plain data for the Go functions. -/
import Derived.Test.YtdihjeeniojdmaaGreatEK
namespace Go.Proofs.YtdihjeeniojdmaaGreat
open Eng IntKind
set_option linter.unusedVariables false
set_option linter.unusedSimpArgs false

structure TVal where
  K : Int
  N : Int
  S : ByteArray
  deriving DecidableEq
def RTVal (Φ : Hp) (F : List Nat) (cs : List Value) (x : TVal) : Prop := cs = [.int .i64 x.K, .int .i64 x.N, .string x.S] ∧ F = []
theorem RTVal.lasts : Lasts RTVal := fun _ _ _ _ _ _ _ _ h => h
instance : LS RTVal := ⟨RTVal.lasts⟩
theorem RTVal.knows : Knows RTVal := fun _ _ _ _ h => h.2 ▸ Kw.nil
theorem RTVal.flat : Flat RTVal := fun _ _ _ _ h => h.2
theorem RTVal.one : Ones RTVal := fun _ _ _ _ h => by obtain ⟨rfl, -⟩ := h; exact One.all ⟨rfl, rfl, rfl, trivial⟩
structure TArg where
  K : Int
  S : ByteArray
  V : TVal
  deriving DecidableEq
def RTArg (Φ : Hp) (F : List Nat) (cs : List Value) (x : TArg) : Prop := cs = [.int .i64 x.K, .string x.S, .int .i64 x.V.K, .int .i64 x.V.N, .string x.V.S] ∧ F = []
theorem RTArg.lasts : Lasts RTArg := fun _ _ _ _ _ _ _ _ h => h
instance : LS RTArg := ⟨RTArg.lasts⟩
theorem RTArg.knows : Knows RTArg := fun _ _ _ _ h => h.2 ▸ Kw.nil
theorem RTArg.flat : Flat RTArg := fun _ _ _ _ h => h.2
theorem RTArg.one : Ones RTArg := fun _ _ _ _ h => by obtain ⟨rfl, -⟩ := h; exact One.all ⟨rfl, rfl, rfl, rfl, rfl, trivial⟩
structure TPat where
  Kind : ByteArray
  Args : (List TArg)
  Not : Bool
  deriving DecidableEq
def RTPat (Φ : Hp) (F : List Nat) (cs : List Value) (x : TPat) : Prop :=
  ∃ (s0 : Value) (F0 : List Nat), cs = [.string x.Kind, s0, .bool x.Not] ∧ F = F0 ∧ RSl RTArg 5 Φ F0 s0 x.Args
theorem RTPat.lasts : Lasts RTPat := fun X Φ Φ' F cs x hf hd ⟨s0, F0, hc, hF, h0⟩ => by
  rw [hF] at hd
  exact ⟨s0, F0, hc, hF, h0.frame RTArg.lasts hf (fun k hk => hd k (by simp [hk]))⟩
instance : LS RTPat := ⟨RTPat.lasts⟩
theorem RTPat.knows : Knows RTPat := fun Φ F cs x ⟨s0, F0, hc, hF, h0⟩ => hF ▸ h0.kn
theorem RTPat.one : Ones RTPat := fun _ _ _ _ h => by obtain ⟨s0, F0, rfl, -, h0⟩ := h; exact One.all ⟨rfl, h0.one, rfl, trivial⟩
def OTPat (Φ : Hp) (F : List Nat) (cs : List Value) (x : TPat) : Prop :=
  ∃ (s0 : Value), cs = [.string x.Kind, s0, .bool x.Not] ∧ F = (ob s0 ++ []) ∧ OSl RTArg 294 5 Φ [] s0 x.Args
theorem OTPat.lasts : Lasts OTPat := fun X Φ Φ' F cs x hf hd ⟨s0, hc, hF, h0⟩ => by
  rw [hF] at hd
  exact ⟨s0, hc, hF, h0.frame RTArg.lasts hf (fun k hk => hd k (by simp [hk])) (Dj.nil _)⟩
instance : LS OTPat := ⟨OTPat.lasts⟩
theorem OTPat.knows : Knows OTPat := fun Φ F cs x ⟨s0, hc, hF, h0⟩ => hF ▸ (h0.knO.app h0.kn)
theorem OTPat.one : Ones OTPat := fun _ _ _ _ h => by obtain ⟨s0, rfl, -, h0⟩ := h; exact One.all ⟨rfl, h0.one, rfl, trivial⟩
theorem OTPat.gives : Gives OTPat RTPat := fun Φ F cs x ⟨s0, hc, hF, h0⟩ => ⟨s0, ob s0 ++ [], hc, hF, h0.rslG (Gives.refl _)⟩
structure TCond where
  Op : Int
  L : TArg
  R : TArg
  deriving DecidableEq
def RTCond (Φ : Hp) (F : List Nat) (cs : List Value) (x : TCond) : Prop := cs = [.int .i64 x.Op, .int .i64 x.L.K, .string x.L.S, .int .i64 x.L.V.K, .int .i64 x.L.V.N, .string x.L.V.S, .int .i64 x.R.K, .string x.R.S, .int .i64 x.R.V.K, .int .i64 x.R.V.N, .string x.R.V.S] ∧ F = []
theorem RTCond.lasts : Lasts RTCond := fun _ _ _ _ _ _ _ _ h => h
instance : LS RTCond := ⟨RTCond.lasts⟩
theorem RTCond.knows : Knows RTCond := fun _ _ _ _ h => h.2 ▸ Kw.nil
theorem RTCond.flat : Flat RTCond := fun _ _ _ _ h => h.2
theorem RTCond.one : Ones RTCond := fun _ _ _ _ h => by obtain ⟨rfl, -⟩ := h; exact One.all ⟨rfl, rfl, rfl, rfl, rfl, rfl, rfl, rfl, rfl, rfl, rfl, trivial⟩
structure TExpr where
  Op : ByteArray
  L : TArg
  R : TArg
  deriving DecidableEq
def RTExpr (Φ : Hp) (F : List Nat) (cs : List Value) (x : TExpr) : Prop := cs = [.string x.Op, .int .i64 x.L.K, .string x.L.S, .int .i64 x.L.V.K, .int .i64 x.L.V.N, .string x.L.V.S, .int .i64 x.R.K, .string x.R.S, .int .i64 x.R.V.K, .int .i64 x.R.V.N, .string x.R.V.S] ∧ F = []
theorem RTExpr.lasts : Lasts RTExpr := fun _ _ _ _ _ _ _ _ h => h
instance : LS RTExpr := ⟨RTExpr.lasts⟩
theorem RTExpr.knows : Knows RTExpr := fun _ _ _ _ h => h.2 ▸ Kw.nil
theorem RTExpr.flat : Flat RTExpr := fun _ _ _ _ h => h.2
theorem RTExpr.one : Ones RTExpr := fun _ _ _ _ h => by obtain ⟨rfl, -⟩ := h; exact One.all ⟨rfl, rfl, rfl, rfl, rfl, rfl, rfl, rfl, rfl, rfl, rfl, trivial⟩
structure TAct where
  Kind : Int
  Name : ByteArray
  Args : (List TExpr)
  N : Int
  Undo : ByteArray
  deriving DecidableEq
def RTAct (Φ : Hp) (F : List Nat) (cs : List Value) (x : TAct) : Prop :=
  ∃ (s0 : Value) (F0 : List Nat), cs = [.int .i64 x.Kind, .string x.Name, s0, .int .i64 x.N, .string x.Undo] ∧ F = F0 ∧ RSl RTExpr 11 Φ F0 s0 x.Args
theorem RTAct.lasts : Lasts RTAct := fun X Φ Φ' F cs x hf hd ⟨s0, F0, hc, hF, h0⟩ => by
  rw [hF] at hd
  exact ⟨s0, F0, hc, hF, h0.frame RTExpr.lasts hf (fun k hk => hd k (by simp [hk]))⟩
instance : LS RTAct := ⟨RTAct.lasts⟩
theorem RTAct.knows : Knows RTAct := fun Φ F cs x ⟨s0, F0, hc, hF, h0⟩ => hF ▸ h0.kn
theorem RTAct.one : Ones RTAct := fun _ _ _ _ h => by obtain ⟨s0, F0, rfl, -, h0⟩ := h; exact One.all ⟨rfl, rfl, h0.one, rfl, rfl, trivial⟩
def OTAct (Φ : Hp) (F : List Nat) (cs : List Value) (x : TAct) : Prop :=
  ∃ (s0 : Value), cs = [.int .i64 x.Kind, .string x.Name, s0, .int .i64 x.N, .string x.Undo] ∧ F = (ob s0 ++ []) ∧ OSl RTExpr 367 11 Φ [] s0 x.Args
theorem OTAct.lasts : Lasts OTAct := fun X Φ Φ' F cs x hf hd ⟨s0, hc, hF, h0⟩ => by
  rw [hF] at hd
  exact ⟨s0, hc, hF, h0.frame RTExpr.lasts hf (fun k hk => hd k (by simp [hk])) (Dj.nil _)⟩
instance : LS OTAct := ⟨OTAct.lasts⟩
theorem OTAct.knows : Knows OTAct := fun Φ F cs x ⟨s0, hc, hF, h0⟩ => hF ▸ (h0.knO.app h0.kn)
theorem OTAct.one : Ones OTAct := fun _ _ _ _ h => by obtain ⟨s0, rfl, -, h0⟩ := h; exact One.all ⟨rfl, rfl, h0.one, rfl, rfl, trivial⟩
theorem OTAct.gives : Gives OTAct RTAct := fun Φ F cs x ⟨s0, hc, hF, h0⟩ => ⟨s0, ob s0 ++ [], hc, hF, h0.rslG (Gives.refl _)⟩
structure TRule where
  Name : ByteArray
  Sal : Int
  Pats : (List TPat)
  Conds : (List TCond)
  Acts : (List TAct)
  deriving DecidableEq
def RTRule (Φ : Hp) (F : List Nat) (cs : List Value) (x : TRule) : Prop :=
  ∃ (s0 : Value) (F0 : List Nat) (s1 : Value) (F1 : List Nat) (s2 : Value) (F2 : List Nat), cs = [.string x.Name, .int .i64 x.Sal, s0, s1, s2] ∧ F = F0 ++ (F1 ++ (F2)) ∧ RSl RTPat 3 Φ F0 s0 x.Pats ∧ RSl RTCond 11 Φ F1 s1 x.Conds ∧ RSl RTAct 5 Φ F2 s2 x.Acts
theorem RTRule.lasts : Lasts RTRule := fun X Φ Φ' F cs x hf hd ⟨s0, F0, s1, F1, s2, F2, hc, hF, h0, h1, h2⟩ => by
  rw [hF] at hd
  exact ⟨s0, F0, s1, F1, s2, F2, hc, hF, h0.frame RTPat.lasts hf (fun k hk => hd k (by simp [hk])), h1.frame RTCond.lasts hf (fun k hk => hd k (by simp [hk])), h2.frame RTAct.lasts hf (fun k hk => hd k (by simp [hk]))⟩
instance : LS RTRule := ⟨RTRule.lasts⟩
theorem RTRule.knows : Knows RTRule := fun Φ F cs x ⟨s0, F0, s1, F1, s2, F2, hc, hF, h0, h1, h2⟩ => hF ▸ (h0.kn.app (h1.kn.app h2.kn))
theorem RTRule.one : Ones RTRule := fun _ _ _ _ h => by obtain ⟨s0, F0, s1, F1, s2, F2, rfl, -, h0, h1, h2⟩ := h; exact One.all ⟨rfl, rfl, h0.one, h1.one, h2.one, trivial⟩
def OTRule (Φ : Hp) (F : List Nat) (cs : List Value) (x : TRule) : Prop :=
  ∃ (s0 : Value) (D0 : List Nat) (s1 : Value) (s2 : Value) (D2 : List Nat), cs = [.string x.Name, .int .i64 x.Sal, s0, s1, s2] ∧ F = (ob s0 ++ D0) ++ ((ob s1 ++ []) ++ ((ob s2 ++ D2))) ∧ OSl OTPat 265 3 Φ D0 s0 x.Pats ∧ OSl RTCond 296 11 Φ [] s1 x.Conds ∧ OSl OTAct 339 5 Φ D2 s2 x.Acts
theorem OTRule.lasts : Lasts OTRule := fun X Φ Φ' F cs x hf hd ⟨s0, D0, s1, s2, D2, hc, hF, h0, h1, h2⟩ => by
  rw [hF] at hd
  exact ⟨s0, D0, s1, s2, D2, hc, hF, h0.frame OTPat.lasts hf (fun k hk => hd k (by simp [hk])) (fun k hk => hd k (by simp [hk])), h1.frame RTCond.lasts hf (fun k hk => hd k (by simp [hk])) (Dj.nil _), h2.frame OTAct.lasts hf (fun k hk => hd k (by simp [hk])) (fun k hk => hd k (by simp [hk]))⟩
instance : LS OTRule := ⟨OTRule.lasts⟩
theorem OTRule.knows : Knows OTRule := fun Φ F cs x ⟨s0, D0, s1, s2, D2, hc, hF, h0, h1, h2⟩ => hF ▸ ((h0.knO.app h0.kn).app ((h1.knO.app h1.kn).app (h2.knO.app h2.kn)))
theorem OTRule.one : Ones OTRule := fun _ _ _ _ h => by obtain ⟨s0, D0, s1, s2, D2, rfl, -, h0, h1, h2⟩ := h; exact One.all ⟨rfl, rfl, h0.one, h1.one, h2.one, trivial⟩
theorem OTRule.gives : Gives OTRule RTRule := fun Φ F cs x ⟨s0, D0, s1, s2, D2, hc, hF, h0, h1, h2⟩ => ⟨s0, ob s0 ++ D0, s1, ob s1 ++ [], s2, ob s2 ++ D2, hc, hF, h0.rslG OTPat.gives, h1.rslG (Gives.refl _), h2.rslG OTAct.gives⟩
structure TDef where
  Name : ByteArray
  Rules : (List TRule)
  deriving DecidableEq
def RTDef (Φ : Hp) (F : List Nat) (cs : List Value) (x : TDef) : Prop :=
  ∃ (s0 : Value) (F0 : List Nat), cs = [.string x.Name, s0] ∧ F = F0 ∧ RSl RTRule 5 Φ F0 s0 x.Rules
theorem RTDef.lasts : Lasts RTDef := fun X Φ Φ' F cs x hf hd ⟨s0, F0, hc, hF, h0⟩ => by
  rw [hF] at hd
  exact ⟨s0, F0, hc, hF, h0.frame RTRule.lasts hf (fun k hk => hd k (by simp [hk]))⟩
instance : LS RTDef := ⟨RTDef.lasts⟩
theorem RTDef.knows : Knows RTDef := fun Φ F cs x ⟨s0, F0, hc, hF, h0⟩ => hF ▸ h0.kn
theorem RTDef.one : Ones RTDef := fun _ _ _ _ h => by obtain ⟨s0, F0, rfl, -, h0⟩ := h; exact One.all ⟨rfl, h0.one, trivial⟩
def OTDef (Φ : Hp) (F : List Nat) (cs : List Value) (x : TDef) : Prop :=
  ∃ (s0 : Value) (D0 : List Nat), cs = [.string x.Name, s0] ∧ F = (ob s0 ++ D0) ∧ OSl OTRule 183 5 Φ D0 s0 x.Rules
theorem OTDef.lasts : Lasts OTDef := fun X Φ Φ' F cs x hf hd ⟨s0, D0, hc, hF, h0⟩ => by
  rw [hF] at hd
  exact ⟨s0, D0, hc, hF, h0.frame OTRule.lasts hf (fun k hk => hd k (by simp [hk])) (fun k hk => hd k (by simp [hk]))⟩
instance : LS OTDef := ⟨OTDef.lasts⟩
theorem OTDef.knows : Knows OTDef := fun Φ F cs x ⟨s0, D0, hc, hF, h0⟩ => hF ▸ (h0.knO.app h0.kn)
theorem OTDef.one : Ones OTDef := fun _ _ _ _ h => by obtain ⟨s0, D0, rfl, -, h0⟩ := h; exact One.all ⟨rfl, h0.one, trivial⟩
theorem OTDef.gives : Gives OTDef RTDef := fun Φ F cs x ⟨s0, D0, hc, hF, h0⟩ => ⟨s0, ob s0 ++ D0, hc, hF, h0.rslG OTRule.gives⟩
structure TFact where
  Kind : ByteArray
  Fields : (List TVal)
  deriving DecidableEq
def RTFact (Φ : Hp) (F : List Nat) (cs : List Value) (x : TFact) : Prop :=
  ∃ (s0 : Value) (F0 : List Nat), cs = [.string x.Kind, s0] ∧ F = F0 ∧ RSl RTVal 3 Φ F0 s0 x.Fields
theorem RTFact.lasts : Lasts RTFact := fun X Φ Φ' F cs x hf hd ⟨s0, F0, hc, hF, h0⟩ => by
  rw [hF] at hd
  exact ⟨s0, F0, hc, hF, h0.frame RTVal.lasts hf (fun k hk => hd k (by simp [hk]))⟩
instance : LS RTFact := ⟨RTFact.lasts⟩
theorem RTFact.knows : Knows RTFact := fun Φ F cs x ⟨s0, F0, hc, hF, h0⟩ => hF ▸ h0.kn
theorem RTFact.one : Ones RTFact := fun _ _ _ _ h => by obtain ⟨s0, F0, rfl, -, h0⟩ := h; exact One.all ⟨rfl, h0.one, trivial⟩
def OTFact (Φ : Hp) (F : List Nat) (cs : List Value) (x : TFact) : Prop :=
  ∃ (s0 : Value), cs = [.string x.Kind, s0] ∧ F = (ob s0 ++ []) ∧ OSl RTVal 204 3 Φ [] s0 x.Fields
theorem OTFact.lasts : Lasts OTFact := fun X Φ Φ' F cs x hf hd ⟨s0, hc, hF, h0⟩ => by
  rw [hF] at hd
  exact ⟨s0, hc, hF, h0.frame RTVal.lasts hf (fun k hk => hd k (by simp [hk])) (Dj.nil _)⟩
instance : LS OTFact := ⟨OTFact.lasts⟩
theorem OTFact.knows : Knows OTFact := fun Φ F cs x ⟨s0, hc, hF, h0⟩ => hF ▸ (h0.knO.app h0.kn)
theorem OTFact.one : Ones OTFact := fun _ _ _ _ h => by obtain ⟨s0, rfl, -, h0⟩ := h; exact One.all ⟨rfl, h0.one, trivial⟩
theorem OTFact.gives : Gives OTFact RTFact := fun Φ F cs x ⟨s0, hc, hF, h0⟩ => ⟨s0, ob s0 ++ [], hc, hF, h0.rslG (Gives.refl _)⟩
structure TItem where
  Id : Int
  F : TFact
  deriving DecidableEq
def RTItem (Φ : Hp) (F : List Nat) (cs : List Value) (x : TItem) : Prop :=
  ∃ (s0 : Value) (F0 : List Nat), cs = [.int .i64 x.Id, .string x.F.Kind, s0] ∧ F = F0 ∧ RSl RTVal 3 Φ F0 s0 x.F.Fields
theorem RTItem.lasts : Lasts RTItem := fun X Φ Φ' F cs x hf hd ⟨s0, F0, hc, hF, h0⟩ => by
  rw [hF] at hd
  exact ⟨s0, F0, hc, hF, h0.frame RTVal.lasts hf (fun k hk => hd k (by simp [hk]))⟩
instance : LS RTItem := ⟨RTItem.lasts⟩
theorem RTItem.knows : Knows RTItem := fun Φ F cs x ⟨s0, F0, hc, hF, h0⟩ => hF ▸ h0.kn
theorem RTItem.one : Ones RTItem := fun _ _ _ _ h => by obtain ⟨s0, F0, rfl, -, h0⟩ := h; exact One.all ⟨rfl, rfl, h0.one, trivial⟩
def OTItem (Φ : Hp) (F : List Nat) (cs : List Value) (x : TItem) : Prop :=
  ∃ (s0 : Value), cs = [.int .i64 x.Id, .string x.F.Kind, s0] ∧ F = (ob s0 ++ []) ∧ OSl RTVal 204 3 Φ [] s0 x.F.Fields
theorem OTItem.lasts : Lasts OTItem := fun X Φ Φ' F cs x hf hd ⟨s0, hc, hF, h0⟩ => by
  rw [hF] at hd
  exact ⟨s0, hc, hF, h0.frame RTVal.lasts hf (fun k hk => hd k (by simp [hk])) (Dj.nil _)⟩
instance : LS OTItem := ⟨OTItem.lasts⟩
theorem OTItem.knows : Knows OTItem := fun Φ F cs x ⟨s0, hc, hF, h0⟩ => hF ▸ (h0.knO.app h0.kn)
theorem OTItem.one : Ones OTItem := fun _ _ _ _ h => by obtain ⟨s0, rfl, -, h0⟩ := h; exact One.all ⟨rfl, rfl, h0.one, trivial⟩
theorem OTItem.gives : Gives OTItem RTItem := fun Φ F cs x ⟨s0, hc, hF, h0⟩ => ⟨s0, ob s0 ++ [], hc, hF, h0.rslG (Gives.refl _)⟩
structure TStore where
  Items : (List TItem)
  Next : Int
  deriving DecidableEq
def RTStore (Φ : Hp) (F : List Nat) (cs : List Value) (x : TStore) : Prop :=
  ∃ (s0 : Value) (F0 : List Nat), cs = [s0, .int .i64 x.Next] ∧ F = F0 ∧ RSl RTItem 3 Φ F0 s0 x.Items
theorem RTStore.lasts : Lasts RTStore := fun X Φ Φ' F cs x hf hd ⟨s0, F0, hc, hF, h0⟩ => by
  rw [hF] at hd
  exact ⟨s0, F0, hc, hF, h0.frame RTItem.lasts hf (fun k hk => hd k (by simp [hk]))⟩
instance : LS RTStore := ⟨RTStore.lasts⟩
theorem RTStore.knows : Knows RTStore := fun Φ F cs x ⟨s0, F0, hc, hF, h0⟩ => hF ▸ h0.kn
theorem RTStore.one : Ones RTStore := fun _ _ _ _ h => by obtain ⟨s0, F0, rfl, -, h0⟩ := h; exact One.all ⟨h0.one, rfl, trivial⟩
def OTStore (Φ : Hp) (F : List Nat) (cs : List Value) (x : TStore) : Prop :=
  ∃ (s0 : Value) (D0 : List Nat), cs = [s0, .int .i64 x.Next] ∧ F = (ob s0 ++ D0) ∧ OSl OTItem 107 3 Φ D0 s0 x.Items
theorem OTStore.lasts : Lasts OTStore := fun X Φ Φ' F cs x hf hd ⟨s0, D0, hc, hF, h0⟩ => by
  rw [hF] at hd
  exact ⟨s0, D0, hc, hF, h0.frame OTItem.lasts hf (fun k hk => hd k (by simp [hk])) (fun k hk => hd k (by simp [hk]))⟩
instance : LS OTStore := ⟨OTStore.lasts⟩
theorem OTStore.knows : Knows OTStore := fun Φ F cs x ⟨s0, D0, hc, hF, h0⟩ => hF ▸ (h0.knO.app h0.kn)
theorem OTStore.one : Ones OTStore := fun _ _ _ _ h => by obtain ⟨s0, D0, rfl, -, h0⟩ := h; exact One.all ⟨h0.one, rfl, trivial⟩
theorem OTStore.gives : Gives OTStore RTStore := fun Φ F cs x ⟨s0, D0, hc, hF, h0⟩ => ⟨s0, ob s0 ++ D0, hc, hF, h0.rslG OTItem.gives⟩
structure TIds where
  L : (List Int)
  deriving DecidableEq
def RTIds (Φ : Hp) (F : List Nat) (cs : List Value) (x : TIds) : Prop :=
  ∃ (s0 : Value) (F0 : List Nat), cs = [s0] ∧ F = F0 ∧ RSl (RI .i64) 1 Φ F0 s0 x.L
theorem RTIds.lasts : Lasts RTIds := fun X Φ Φ' F cs x hf hd ⟨s0, F0, hc, hF, h0⟩ => by
  rw [hF] at hd
  exact ⟨s0, F0, hc, hF, h0.frame RI.lasts hf (fun k hk => hd k (by simp [hk]))⟩
instance : LS RTIds := ⟨RTIds.lasts⟩
theorem RTIds.knows : Knows RTIds := fun Φ F cs x ⟨s0, F0, hc, hF, h0⟩ => hF ▸ h0.kn
theorem RTIds.one : Ones RTIds := fun _ _ _ _ h => by obtain ⟨s0, F0, rfl, -, h0⟩ := h; exact One.all ⟨h0.one, trivial⟩
def OTIds (Φ : Hp) (F : List Nat) (cs : List Value) (x : TIds) : Prop :=
  ∃ (s0 : Value), cs = [s0] ∧ F = (ob s0 ++ []) ∧ OSl (RI .i64) 3 1 Φ [] s0 x.L
theorem OTIds.lasts : Lasts OTIds := fun X Φ Φ' F cs x hf hd ⟨s0, hc, hF, h0⟩ => by
  rw [hF] at hd
  exact ⟨s0, hc, hF, h0.frame RI.lasts hf (fun k hk => hd k (by simp [hk])) (Dj.nil _)⟩
instance : LS OTIds := ⟨OTIds.lasts⟩
theorem OTIds.knows : Knows OTIds := fun Φ F cs x ⟨s0, hc, hF, h0⟩ => hF ▸ (h0.knO.app h0.kn)
theorem OTIds.one : Ones OTIds := fun _ _ _ _ h => by obtain ⟨s0, rfl, -, h0⟩ := h; exact One.all ⟨h0.one, trivial⟩
theorem OTIds.gives : Gives OTIds RTIds := fun Φ F cs x ⟨s0, hc, hF, h0⟩ => ⟨s0, ob s0 ++ [], hc, hF, h0.rslG (Gives.refl _)⟩
structure TTok where
  Ids : (List Int)
  Hits : (List Int)
  deriving DecidableEq
def RTTok (Φ : Hp) (F : List Nat) (cs : List Value) (x : TTok) : Prop :=
  ∃ (s0 : Value) (F0 : List Nat) (s1 : Value) (F1 : List Nat), cs = [s0, s1] ∧ F = F0 ++ (F1) ∧ RSl (RI .i64) 1 Φ F0 s0 x.Ids ∧ RSl (RI .i64) 1 Φ F1 s1 x.Hits
theorem RTTok.lasts : Lasts RTTok := fun X Φ Φ' F cs x hf hd ⟨s0, F0, s1, F1, hc, hF, h0, h1⟩ => by
  rw [hF] at hd
  exact ⟨s0, F0, s1, F1, hc, hF, h0.frame RI.lasts hf (fun k hk => hd k (by simp [hk])), h1.frame RI.lasts hf (fun k hk => hd k (by simp [hk]))⟩
instance : LS RTTok := ⟨RTTok.lasts⟩
theorem RTTok.knows : Knows RTTok := fun Φ F cs x ⟨s0, F0, s1, F1, hc, hF, h0, h1⟩ => hF ▸ (h0.kn.app h1.kn)
theorem RTTok.one : Ones RTTok := fun _ _ _ _ h => by obtain ⟨s0, F0, s1, F1, rfl, -, h0, h1⟩ := h; exact One.all ⟨h0.one, h1.one, trivial⟩
def OTTok (Φ : Hp) (F : List Nat) (cs : List Value) (x : TTok) : Prop :=
  ∃ (s0 : Value) (s1 : Value), cs = [s0, s1] ∧ F = (ob s0 ++ []) ++ ((ob s1 ++ [])) ∧ OSl (RI .i64) 3 1 Φ [] s0 x.Ids ∧ OSl (RI .i64) 3 1 Φ [] s1 x.Hits
theorem OTTok.lasts : Lasts OTTok := fun X Φ Φ' F cs x hf hd ⟨s0, s1, hc, hF, h0, h1⟩ => by
  rw [hF] at hd
  exact ⟨s0, s1, hc, hF, h0.frame RI.lasts hf (fun k hk => hd k (by simp [hk])) (Dj.nil _), h1.frame RI.lasts hf (fun k hk => hd k (by simp [hk])) (Dj.nil _)⟩
instance : LS OTTok := ⟨OTTok.lasts⟩
theorem OTTok.knows : Knows OTTok := fun Φ F cs x ⟨s0, s1, hc, hF, h0, h1⟩ => hF ▸ ((h0.knO.app h0.kn).app (h1.knO.app h1.kn))
theorem OTTok.one : Ones OTTok := fun _ _ _ _ h => by obtain ⟨s0, s1, rfl, -, h0, h1⟩ := h; exact One.all ⟨h0.one, h1.one, trivial⟩
theorem OTTok.gives : Gives OTTok RTTok := fun Φ F cs x ⟨s0, s1, hc, hF, h0, h1⟩ => ⟨s0, ob s0 ++ [], s1, ob s1 ++ [], hc, hF, h0.rslG (Gives.refl _), h1.rslG (Gives.refl _)⟩
structure TLevel where
  Toks : (List TTok)
  deriving DecidableEq
def RTLevel (Φ : Hp) (F : List Nat) (cs : List Value) (x : TLevel) : Prop :=
  ∃ (s0 : Value) (F0 : List Nat), cs = [s0] ∧ F = F0 ∧ RSl RTTok 2 Φ F0 s0 x.Toks
theorem RTLevel.lasts : Lasts RTLevel := fun X Φ Φ' F cs x hf hd ⟨s0, F0, hc, hF, h0⟩ => by
  rw [hF] at hd
  exact ⟨s0, F0, hc, hF, h0.frame RTTok.lasts hf (fun k hk => hd k (by simp [hk]))⟩
instance : LS RTLevel := ⟨RTLevel.lasts⟩
theorem RTLevel.knows : Knows RTLevel := fun Φ F cs x ⟨s0, F0, hc, hF, h0⟩ => hF ▸ h0.kn
theorem RTLevel.one : Ones RTLevel := fun _ _ _ _ h => by obtain ⟨s0, F0, rfl, -, h0⟩ := h; exact One.all ⟨h0.one, trivial⟩
def OTLevel (Φ : Hp) (F : List Nat) (cs : List Value) (x : TLevel) : Prop :=
  ∃ (s0 : Value) (D0 : List Nat), cs = [s0] ∧ F = (ob s0 ++ D0) ∧ OSl OTTok 185 2 Φ D0 s0 x.Toks
theorem OTLevel.lasts : Lasts OTLevel := fun X Φ Φ' F cs x hf hd ⟨s0, D0, hc, hF, h0⟩ => by
  rw [hF] at hd
  exact ⟨s0, D0, hc, hF, h0.frame OTTok.lasts hf (fun k hk => hd k (by simp [hk])) (fun k hk => hd k (by simp [hk]))⟩
instance : LS OTLevel := ⟨OTLevel.lasts⟩
theorem OTLevel.knows : Knows OTLevel := fun Φ F cs x ⟨s0, D0, hc, hF, h0⟩ => hF ▸ (h0.knO.app h0.kn)
theorem OTLevel.one : Ones OTLevel := fun _ _ _ _ h => by obtain ⟨s0, D0, rfl, -, h0⟩ := h; exact One.all ⟨h0.one, trivial⟩
theorem OTLevel.gives : Gives OTLevel RTLevel := fun Φ F cs x ⟨s0, D0, hc, hF, h0⟩ => ⟨s0, ob s0 ++ D0, hc, hF, h0.rslG OTTok.gives⟩
structure TRow where
  Levels : (List TLevel)
  deriving DecidableEq
def RTRow (Φ : Hp) (F : List Nat) (cs : List Value) (x : TRow) : Prop :=
  ∃ (s0 : Value) (F0 : List Nat), cs = [s0] ∧ F = F0 ∧ RSl RTLevel 1 Φ F0 s0 x.Levels
theorem RTRow.lasts : Lasts RTRow := fun X Φ Φ' F cs x hf hd ⟨s0, F0, hc, hF, h0⟩ => by
  rw [hF] at hd
  exact ⟨s0, F0, hc, hF, h0.frame RTLevel.lasts hf (fun k hk => hd k (by simp [hk]))⟩
instance : LS RTRow := ⟨RTRow.lasts⟩
theorem RTRow.knows : Knows RTRow := fun Φ F cs x ⟨s0, F0, hc, hF, h0⟩ => hF ▸ h0.kn
theorem RTRow.one : Ones RTRow := fun _ _ _ _ h => by obtain ⟨s0, F0, rfl, -, h0⟩ := h; exact One.all ⟨h0.one, trivial⟩
def OTRow (Φ : Hp) (F : List Nat) (cs : List Value) (x : TRow) : Prop :=
  ∃ (s0 : Value) (D0 : List Nat), cs = [s0] ∧ F = (ob s0 ++ D0) ∧ OSl OTLevel 156 1 Φ D0 s0 x.Levels
theorem OTRow.lasts : Lasts OTRow := fun X Φ Φ' F cs x hf hd ⟨s0, D0, hc, hF, h0⟩ => by
  rw [hF] at hd
  exact ⟨s0, D0, hc, hF, h0.frame OTLevel.lasts hf (fun k hk => hd k (by simp [hk])) (fun k hk => hd k (by simp [hk]))⟩
instance : LS OTRow := ⟨OTRow.lasts⟩
theorem OTRow.knows : Knows OTRow := fun Φ F cs x ⟨s0, D0, hc, hF, h0⟩ => hF ▸ (h0.knO.app h0.kn)
theorem OTRow.one : Ones OTRow := fun _ _ _ _ h => by obtain ⟨s0, D0, rfl, -, h0⟩ := h; exact One.all ⟨h0.one, trivial⟩
theorem OTRow.gives : Gives OTRow RTRow := fun Φ F cs x ⟨s0, D0, hc, hF, h0⟩ => ⟨s0, ob s0 ++ D0, hc, hF, h0.rslG OTLevel.gives⟩
structure TMem where
  Alphas : (List TIds)
  Rules : (List TRow)
  deriving DecidableEq
def RTMem (Φ : Hp) (F : List Nat) (cs : List Value) (x : TMem) : Prop :=
  ∃ (s0 : Value) (F0 : List Nat) (s1 : Value) (F1 : List Nat), cs = [s0, s1] ∧ F = F0 ++ (F1) ∧ RSl RTIds 1 Φ F0 s0 x.Alphas ∧ RSl RTRow 1 Φ F1 s1 x.Rules
theorem RTMem.lasts : Lasts RTMem := fun X Φ Φ' F cs x hf hd ⟨s0, F0, s1, F1, hc, hF, h0, h1⟩ => by
  rw [hF] at hd
  exact ⟨s0, F0, s1, F1, hc, hF, h0.frame RTIds.lasts hf (fun k hk => hd k (by simp [hk])), h1.frame RTRow.lasts hf (fun k hk => hd k (by simp [hk]))⟩
instance : LS RTMem := ⟨RTMem.lasts⟩
theorem RTMem.knows : Knows RTMem := fun Φ F cs x ⟨s0, F0, s1, F1, hc, hF, h0, h1⟩ => hF ▸ (h0.kn.app h1.kn)
theorem RTMem.one : Ones RTMem := fun _ _ _ _ h => by obtain ⟨s0, F0, s1, F1, rfl, -, h0, h1⟩ := h; exact One.all ⟨h0.one, h1.one, trivial⟩
def OTMem (Φ : Hp) (F : List Nat) (cs : List Value) (x : TMem) : Prop :=
  ∃ (s0 : Value) (D0 : List Nat) (s1 : Value) (D1 : List Nat), cs = [s0, s1] ∧ F = (ob s0 ++ D0) ++ ((ob s1 ++ D1)) ∧ OSl OTIds 77 1 Φ D0 s0 x.Alphas ∧ OSl OTRow 152 1 Φ D1 s1 x.Rules
theorem OTMem.lasts : Lasts OTMem := fun X Φ Φ' F cs x hf hd ⟨s0, D0, s1, D1, hc, hF, h0, h1⟩ => by
  rw [hF] at hd
  exact ⟨s0, D0, s1, D1, hc, hF, h0.frame OTIds.lasts hf (fun k hk => hd k (by simp [hk])) (fun k hk => hd k (by simp [hk])), h1.frame OTRow.lasts hf (fun k hk => hd k (by simp [hk])) (fun k hk => hd k (by simp [hk]))⟩
instance : LS OTMem := ⟨OTMem.lasts⟩
theorem OTMem.knows : Knows OTMem := fun Φ F cs x ⟨s0, D0, s1, D1, hc, hF, h0, h1⟩ => hF ▸ ((h0.knO.app h0.kn).app (h1.knO.app h1.kn))
theorem OTMem.one : Ones OTMem := fun _ _ _ _ h => by obtain ⟨s0, D0, s1, D1, rfl, -, h0, h1⟩ := h; exact One.all ⟨h0.one, h1.one, trivial⟩
theorem OTMem.gives : Gives OTMem RTMem := fun Φ F cs x ⟨s0, D0, s1, D1, hc, hF, h0, h1⟩ => ⟨s0, ob s0 ++ D0, s1, ob s1 ++ D1, hc, hF, h0.rslG OTIds.gives, h1.rslG OTRow.gives⟩
def eqT_TVal (x y : TVal) : Bool := ((x.K == y.K) && ((x.N == y.N) && (seq x.S y.S && true)))
theorem seq_dec (a b : ByteArray) : seq a b = decide (a = b) := by
  unfold seq
  by_cases h : a = b
  · subst h; simp
  · have : ¬ a.toList = b.toList := fun e => h (by rw [ByteArray.toList_eq, ByteArray.toList_eq] at e; exact ByteArray.ext (Array.toList_inj.1 e))
    simp [h, this]
theorem eqT_TVal_eq (x y : TVal) : eqT_TVal x y = decide (x = y) := by
  obtain ⟨a0, a1, a2⟩ := x; obtain ⟨b0, b1, b2⟩ := y
  rw [Bool.eq_iff_iff]
  simp only [eqT_TVal, seq_dec, Bool.and_true, Bool.and_eq_true, beq_iff_eq, decide_eq_true_eq, TVal.mk.injEq, and_assoc]
def eqT_TArg (x y : TArg) : Bool := ((x.K == y.K) && (seq x.S y.S && ((x.V.K == y.V.K) && ((x.V.N == y.V.N) && (seq x.V.S y.V.S && true)))))

theorem eqT_TArg_eq (x y : TArg) : eqT_TArg x y = decide (x = y) := by
  obtain ⟨a0, a1, ⟨a20, a21, a22⟩⟩ := x; obtain ⟨b0, b1, ⟨b20, b21, b22⟩⟩ := y
  rw [Bool.eq_iff_iff]
  simp only [eqT_TArg, seq_dec, Bool.and_true, Bool.and_eq_true, beq_iff_eq, decide_eq_true_eq, TArg.mk.injEq, TVal.mk.injEq, and_assoc]
structure TAlpha where
  Kind : ByteArray
  N : Int
  Consts : (List TVal)
  At : (List Int)
  deriving DecidableEq
def RTAlpha (Φ : Hp) (F : List Nat) (cs : List Value) (x : TAlpha) : Prop :=
  ∃ (s0 : Value) (F0 : List Nat) (s1 : Value) (F1 : List Nat), cs = [.string x.Kind, .int .i64 x.N, s0, s1] ∧ F = F0 ++ (F1) ∧ RSl RTVal 3 Φ F0 s0 x.Consts ∧ RSl (RI .i64) 1 Φ F1 s1 x.At
theorem RTAlpha.lasts : Lasts RTAlpha := fun X Φ Φ' F cs x hf hd ⟨s0, F0, s1, F1, hc, hF, h0, h1⟩ => by
  rw [hF] at hd
  exact ⟨s0, F0, s1, F1, hc, hF, h0.frame RTVal.lasts hf (fun k hk => hd k (by simp [hk])), h1.frame RI.lasts hf (fun k hk => hd k (by simp [hk]))⟩
instance : LS RTAlpha := ⟨RTAlpha.lasts⟩
theorem RTAlpha.knows : Knows RTAlpha := fun Φ F cs x ⟨s0, F0, s1, F1, hc, hF, h0, h1⟩ => hF ▸ (h0.kn.app h1.kn)
theorem RTAlpha.one : Ones RTAlpha := fun _ _ _ _ h => by obtain ⟨s0, F0, s1, F1, rfl, -, h0, h1⟩ := h; exact One.all ⟨rfl, rfl, h0.one, h1.one, trivial⟩
def OTAlpha (Φ : Hp) (F : List Nat) (cs : List Value) (x : TAlpha) : Prop :=
  ∃ (s0 : Value) (s1 : Value), cs = [.string x.Kind, .int .i64 x.N, s0, s1] ∧ F = (ob s0 ++ []) ++ ((ob s1 ++ [])) ∧ OSl RTVal 204 3 Φ [] s0 x.Consts ∧ OSl (RI .i64) 3 1 Φ [] s1 x.At
theorem OTAlpha.lasts : Lasts OTAlpha := fun X Φ Φ' F cs x hf hd ⟨s0, s1, hc, hF, h0, h1⟩ => by
  rw [hF] at hd
  exact ⟨s0, s1, hc, hF, h0.frame RTVal.lasts hf (fun k hk => hd k (by simp [hk])) (Dj.nil _), h1.frame RI.lasts hf (fun k hk => hd k (by simp [hk])) (Dj.nil _)⟩
instance : LS OTAlpha := ⟨OTAlpha.lasts⟩
theorem OTAlpha.knows : Knows OTAlpha := fun Φ F cs x ⟨s0, s1, hc, hF, h0, h1⟩ => hF ▸ ((h0.knO.app h0.kn).app (h1.knO.app h1.kn))
theorem OTAlpha.one : Ones OTAlpha := fun _ _ _ _ h => by obtain ⟨s0, s1, rfl, -, h0, h1⟩ := h; exact One.all ⟨rfl, rfl, h0.one, h1.one, trivial⟩
theorem OTAlpha.gives : Gives OTAlpha RTAlpha := fun Φ F cs x ⟨s0, s1, hc, hF, h0, h1⟩ => ⟨s0, ob s0 ++ [], s1, ob s1 ++ [], hc, hF, h0.rslG (Gives.refl _), h1.rslG (Gives.refl _)⟩
structure TChain where
  Pos : (List Int)
  Neg : (List Int)
  deriving DecidableEq
def RTChain (Φ : Hp) (F : List Nat) (cs : List Value) (x : TChain) : Prop :=
  ∃ (s0 : Value) (F0 : List Nat) (s1 : Value) (F1 : List Nat), cs = [s0, s1] ∧ F = F0 ++ (F1) ∧ RSl (RI .i64) 1 Φ F0 s0 x.Pos ∧ RSl (RI .i64) 1 Φ F1 s1 x.Neg
theorem RTChain.lasts : Lasts RTChain := fun X Φ Φ' F cs x hf hd ⟨s0, F0, s1, F1, hc, hF, h0, h1⟩ => by
  rw [hF] at hd
  exact ⟨s0, F0, s1, F1, hc, hF, h0.frame RI.lasts hf (fun k hk => hd k (by simp [hk])), h1.frame RI.lasts hf (fun k hk => hd k (by simp [hk]))⟩
instance : LS RTChain := ⟨RTChain.lasts⟩
theorem RTChain.knows : Knows RTChain := fun Φ F cs x ⟨s0, F0, s1, F1, hc, hF, h0, h1⟩ => hF ▸ (h0.kn.app h1.kn)
theorem RTChain.one : Ones RTChain := fun _ _ _ _ h => by obtain ⟨s0, F0, s1, F1, rfl, -, h0, h1⟩ := h; exact One.all ⟨h0.one, h1.one, trivial⟩
def OTChain (Φ : Hp) (F : List Nat) (cs : List Value) (x : TChain) : Prop :=
  ∃ (s0 : Value) (s1 : Value), cs = [s0, s1] ∧ F = (ob s0 ++ []) ++ ((ob s1 ++ [])) ∧ OSl (RI .i64) 3 1 Φ [] s0 x.Pos ∧ OSl (RI .i64) 3 1 Φ [] s1 x.Neg
theorem OTChain.lasts : Lasts OTChain := fun X Φ Φ' F cs x hf hd ⟨s0, s1, hc, hF, h0, h1⟩ => by
  rw [hF] at hd
  exact ⟨s0, s1, hc, hF, h0.frame RI.lasts hf (fun k hk => hd k (by simp [hk])) (Dj.nil _), h1.frame RI.lasts hf (fun k hk => hd k (by simp [hk])) (Dj.nil _)⟩
instance : LS OTChain := ⟨OTChain.lasts⟩
theorem OTChain.knows : Knows OTChain := fun Φ F cs x ⟨s0, s1, hc, hF, h0, h1⟩ => hF ▸ ((h0.knO.app h0.kn).app (h1.knO.app h1.kn))
theorem OTChain.one : Ones OTChain := fun _ _ _ _ h => by obtain ⟨s0, s1, rfl, -, h0, h1⟩ := h; exact One.all ⟨h0.one, h1.one, trivial⟩
theorem OTChain.gives : Gives OTChain RTChain := fun Φ F cs x ⟨s0, s1, hc, hF, h0, h1⟩ => ⟨s0, ob s0 ++ [], s1, ob s1 ++ [], hc, hF, h0.rslG (Gives.refl _), h1.rslG (Gives.refl _)⟩
structure TNet where
  Alphas : (List TAlpha)
  Chains : (List TChain)
  deriving DecidableEq
def RTNet (Φ : Hp) (F : List Nat) (cs : List Value) (x : TNet) : Prop :=
  ∃ (s0 : Value) (F0 : List Nat) (s1 : Value) (F1 : List Nat), cs = [s0, s1] ∧ F = F0 ++ (F1) ∧ RSl RTAlpha 4 Φ F0 s0 x.Alphas ∧ RSl RTChain 2 Φ F1 s1 x.Chains
theorem RTNet.lasts : Lasts RTNet := fun X Φ Φ' F cs x hf hd ⟨s0, F0, s1, F1, hc, hF, h0, h1⟩ => by
  rw [hF] at hd
  exact ⟨s0, F0, s1, F1, hc, hF, h0.frame RTAlpha.lasts hf (fun k hk => hd k (by simp [hk])), h1.frame RTChain.lasts hf (fun k hk => hd k (by simp [hk]))⟩
instance : LS RTNet := ⟨RTNet.lasts⟩
theorem RTNet.knows : Knows RTNet := fun Φ F cs x ⟨s0, F0, s1, F1, hc, hF, h0, h1⟩ => hF ▸ (h0.kn.app h1.kn)
theorem RTNet.one : Ones RTNet := fun _ _ _ _ h => by obtain ⟨s0, F0, s1, F1, rfl, -, h0, h1⟩ := h; exact One.all ⟨h0.one, h1.one, trivial⟩
def OTNet (Φ : Hp) (F : List Nat) (cs : List Value) (x : TNet) : Prop :=
  ∃ (s0 : Value) (D0 : List Nat) (s1 : Value) (D1 : List Nat), cs = [s0, s1] ∧ F = (ob s0 ++ D0) ++ ((ob s1 ++ D1)) ∧ OSl OTAlpha 171 4 Φ D0 s0 x.Alphas ∧ OSl OTChain 175 2 Φ D1 s1 x.Chains
theorem OTNet.lasts : Lasts OTNet := fun X Φ Φ' F cs x hf hd ⟨s0, D0, s1, D1, hc, hF, h0, h1⟩ => by
  rw [hF] at hd
  exact ⟨s0, D0, s1, D1, hc, hF, h0.frame OTAlpha.lasts hf (fun k hk => hd k (by simp [hk])) (fun k hk => hd k (by simp [hk])), h1.frame OTChain.lasts hf (fun k hk => hd k (by simp [hk])) (fun k hk => hd k (by simp [hk]))⟩
instance : LS OTNet := ⟨OTNet.lasts⟩
theorem OTNet.knows : Knows OTNet := fun Φ F cs x ⟨s0, D0, s1, D1, hc, hF, h0, h1⟩ => hF ▸ ((h0.knO.app h0.kn).app (h1.knO.app h1.kn))
theorem OTNet.one : Ones OTNet := fun _ _ _ _ h => by obtain ⟨s0, D0, s1, D1, rfl, -, h0, h1⟩ := h; exact One.all ⟨h0.one, h1.one, trivial⟩
theorem OTNet.gives : Gives OTNet RTNet := fun Φ F cs x ⟨s0, D0, s1, D1, hc, hF, h0, h1⟩ => ⟨s0, ob s0 ++ D0, s1, ob s1 ++ D1, hc, hF, h0.rslG OTAlpha.gives, h1.rslG OTChain.gives⟩
structure Tgrower where
  pos : (List TPat)
  neg : (List TPat)
  chain : TChain
  alphas : (List TIds)
  s : TStore
  id : Int
  deriving DecidableEq
def RTgrower (Φ : Hp) (F : List Nat) (cs : List Value) (x : Tgrower) : Prop :=
  ∃ (s0 : Value) (F0 : List Nat) (s1 : Value) (F1 : List Nat) (s2 : Value) (F2 : List Nat) (s3 : Value) (F3 : List Nat) (s4 : Value) (F4 : List Nat) (s5 : Value) (F5 : List Nat), cs = [s0, s1, s2, s3, s4, s5, .int .i64 x.s.Next, .int .i64 x.id] ∧ F = F0 ++ (F1 ++ (F2 ++ (F3 ++ (F4 ++ (F5))))) ∧ RSl RTPat 3 Φ F0 s0 x.pos ∧ RSl RTPat 3 Φ F1 s1 x.neg ∧ RSl (RI .i64) 1 Φ F2 s2 x.chain.Pos ∧ RSl (RI .i64) 1 Φ F3 s3 x.chain.Neg ∧ RSl RTIds 1 Φ F4 s4 x.alphas ∧ RSl RTItem 3 Φ F5 s5 x.s.Items
theorem RTgrower.lasts : Lasts RTgrower := fun X Φ Φ' F cs x hf hd ⟨s0, F0, s1, F1, s2, F2, s3, F3, s4, F4, s5, F5, hc, hF, h0, h1, h2, h3, h4, h5⟩ => by
  rw [hF] at hd
  exact ⟨s0, F0, s1, F1, s2, F2, s3, F3, s4, F4, s5, F5, hc, hF, h0.frame RTPat.lasts hf (fun k hk => hd k (by simp [hk])), h1.frame RTPat.lasts hf (fun k hk => hd k (by simp [hk])), h2.frame RI.lasts hf (fun k hk => hd k (by simp [hk])), h3.frame RI.lasts hf (fun k hk => hd k (by simp [hk])), h4.frame RTIds.lasts hf (fun k hk => hd k (by simp [hk])), h5.frame RTItem.lasts hf (fun k hk => hd k (by simp [hk]))⟩
instance : LS RTgrower := ⟨RTgrower.lasts⟩
theorem RTgrower.knows : Knows RTgrower := fun Φ F cs x ⟨s0, F0, s1, F1, s2, F2, s3, F3, s4, F4, s5, F5, hc, hF, h0, h1, h2, h3, h4, h5⟩ => hF ▸ (h0.kn.app (h1.kn.app (h2.kn.app (h3.kn.app (h4.kn.app h5.kn)))))
theorem RTgrower.one : Ones RTgrower := fun _ _ _ _ h => by obtain ⟨s0, F0, s1, F1, s2, F2, s3, F3, s4, F4, s5, F5, rfl, -, h0, h1, h2, h3, h4, h5⟩ := h; exact One.all ⟨h0.one, h1.one, h2.one, h3.one, h4.one, h5.one, rfl, rfl, trivial⟩
def OTgrower (Φ : Hp) (F : List Nat) (cs : List Value) (x : Tgrower) : Prop :=
  ∃ (s0 : Value) (D0 : List Nat) (s1 : Value) (D1 : List Nat) (s2 : Value) (s3 : Value) (s4 : Value) (D4 : List Nat) (s5 : Value) (D5 : List Nat), cs = [s0, s1, s2, s3, s4, s5, .int .i64 x.s.Next, .int .i64 x.id] ∧ F = (ob s0 ++ D0) ++ ((ob s1 ++ D1) ++ ((ob s2 ++ []) ++ ((ob s3 ++ []) ++ ((ob s4 ++ D4) ++ ((ob s5 ++ D5)))))) ∧ OSl OTPat 265 3 Φ D0 s0 x.pos ∧ OSl OTPat 265 3 Φ D1 s1 x.neg ∧ OSl (RI .i64) 3 1 Φ [] s2 x.chain.Pos ∧ OSl (RI .i64) 3 1 Φ [] s3 x.chain.Neg ∧ OSl OTIds 77 1 Φ D4 s4 x.alphas ∧ OSl OTItem 107 3 Φ D5 s5 x.s.Items
theorem OTgrower.lasts : Lasts OTgrower := fun X Φ Φ' F cs x hf hd ⟨s0, D0, s1, D1, s2, s3, s4, D4, s5, D5, hc, hF, h0, h1, h2, h3, h4, h5⟩ => by
  rw [hF] at hd
  exact ⟨s0, D0, s1, D1, s2, s3, s4, D4, s5, D5, hc, hF, h0.frame OTPat.lasts hf (fun k hk => hd k (by simp [hk])) (fun k hk => hd k (by simp [hk])), h1.frame OTPat.lasts hf (fun k hk => hd k (by simp [hk])) (fun k hk => hd k (by simp [hk])), h2.frame RI.lasts hf (fun k hk => hd k (by simp [hk])) (Dj.nil _), h3.frame RI.lasts hf (fun k hk => hd k (by simp [hk])) (Dj.nil _), h4.frame OTIds.lasts hf (fun k hk => hd k (by simp [hk])) (fun k hk => hd k (by simp [hk])), h5.frame OTItem.lasts hf (fun k hk => hd k (by simp [hk])) (fun k hk => hd k (by simp [hk]))⟩
instance : LS OTgrower := ⟨OTgrower.lasts⟩
theorem OTgrower.knows : Knows OTgrower := fun Φ F cs x ⟨s0, D0, s1, D1, s2, s3, s4, D4, s5, D5, hc, hF, h0, h1, h2, h3, h4, h5⟩ => hF ▸ ((h0.knO.app h0.kn).app ((h1.knO.app h1.kn).app ((h2.knO.app h2.kn).app ((h3.knO.app h3.kn).app ((h4.knO.app h4.kn).app (h5.knO.app h5.kn))))))
theorem OTgrower.one : Ones OTgrower := fun _ _ _ _ h => by obtain ⟨s0, D0, s1, D1, s2, s3, s4, D4, s5, D5, rfl, -, h0, h1, h2, h3, h4, h5⟩ := h; exact One.all ⟨h0.one, h1.one, h2.one, h3.one, h4.one, h5.one, rfl, rfl, trivial⟩
theorem OTgrower.gives : Gives OTgrower RTgrower := fun Φ F cs x ⟨s0, D0, s1, D1, s2, s3, s4, D4, s5, D5, hc, hF, h0, h1, h2, h3, h4, h5⟩ => ⟨s0, ob s0 ++ D0, s1, ob s1 ++ D1, s2, ob s2 ++ [], s3, ob s3 ++ [], s4, ob s4 ++ D4, s5, ob s5 ++ D5, hc, hF, h0.rslG OTPat.gives, h1.rslG OTPat.gives, h2.rslG (Gives.refl _), h3.rslG (Gives.refl _), h4.rslG OTIds.gives, h5.rslG OTItem.gives⟩
structure TBind where
  Name : ByteArray
  V : TVal
  deriving DecidableEq
def RTBind (Φ : Hp) (F : List Nat) (cs : List Value) (x : TBind) : Prop := cs = [.string x.Name, .int .i64 x.V.K, .int .i64 x.V.N, .string x.V.S] ∧ F = []
theorem RTBind.lasts : Lasts RTBind := fun _ _ _ _ _ _ _ _ h => h
instance : LS RTBind := ⟨RTBind.lasts⟩
theorem RTBind.knows : Knows RTBind := fun _ _ _ _ h => h.2 ▸ Kw.nil
theorem RTBind.flat : Flat RTBind := fun _ _ _ _ h => h.2
theorem RTBind.one : Ones RTBind := fun _ _ _ _ h => by obtain ⟨rfl, -⟩ := h; exact One.all ⟨rfl, rfl, rfl, rfl, trivial⟩
def m_l_szVal (N : Nat) (p0 : TVal) (p1 : Int) : Option (Int) :=
  (if decide (i64.wrap (p1 - (p0.S.size : Int)) < 0) then some (-1) else some (i64.wrap (p1 - (p0.S.size : Int))))
def m_l_szArg (N : Nat) (p0 : TArg) (p1 : Int) : Option (Int) :=
  (if decide (i64.wrap (p1 - (p0.S.size : Int)) < 0) then some (-1) else ((m_l_szVal N p0.V (i64.wrap (p1 - (p0.S.size : Int)))).bind fun x1 => (if decide (x1 < 0) then some (-1) else some x1)))
def m_l_szArgS_l1 (N : Nat) (p0 : (List TArg)) : Nat → Int → Int → Option (Int)
  | 0, _, _ => none
  | k + 1, s1, s2 =>
    (if decide (s2 < (p0.length : Int)) then ((idx p0 s2).bind fun x1 => ((m_l_szArg N x1 s1).bind fun x2 => (if decide (x2 < 0) then some (-1) else ((m_l_szArgS_l1 N p0 k) x2 (i64.wrap (s2 + 1)))))) else some s1)
def m_l_szArgS (N : Nat) (p0 : (List TArg)) (p1 : Int) : Option (Int) :=
  (if decide (i64.wrap (p1 - (p0.length : Int)) < 0) then some (-1) else m_l_szArgS_l1 N p0 N (i64.wrap (p1 - (p0.length : Int))) 0)
def m_l_szPat (N : Nat) (p0 : TPat) (p1 : Int) : Option (Int) :=
  (if decide (i64.wrap (p1 - (p0.Kind.size : Int)) < 0) then some (-1) else ((m_l_szArgS N p0.Args (i64.wrap (p1 - (p0.Kind.size : Int)))).bind fun x1 => (if decide (x1 < 0) then some (-1) else some x1)))
def m_l_szPatS_l1 (N : Nat) (p0 : (List TPat)) : Nat → Int → Int → Option (Int)
  | 0, _, _ => none
  | k + 1, s1, s2 =>
    (if decide (s2 < (p0.length : Int)) then ((idx p0 s2).bind fun x1 => ((m_l_szPat N x1 s1).bind fun x2 => (if decide (x2 < 0) then some (-1) else ((m_l_szPatS_l1 N p0 k) x2 (i64.wrap (s2 + 1)))))) else some s1)
def m_l_szPatS (N : Nat) (p0 : (List TPat)) (p1 : Int) : Option (Int) :=
  (if decide (i64.wrap (p1 - (p0.length : Int)) < 0) then some (-1) else m_l_szPatS_l1 N p0 N (i64.wrap (p1 - (p0.length : Int))) 0)
def m_l_szCond (N : Nat) (p0 : TCond) (p1 : Int) : Option (Int) :=
  ((m_l_szArg N p0.L p1).bind fun x1 => (if decide (x1 < 0) then some (-1) else ((m_l_szArg N p0.R x1).bind fun x2 => (if decide (x2 < 0) then some (-1) else some x2))))
def m_l_szCondS_l1 (N : Nat) (p0 : (List TCond)) : Nat → Int → Int → Option (Int)
  | 0, _, _ => none
  | k + 1, s1, s2 =>
    (if decide (s2 < (p0.length : Int)) then ((idx p0 s2).bind fun x1 => ((m_l_szCond N x1 s1).bind fun x2 => (if decide (x2 < 0) then some (-1) else ((m_l_szCondS_l1 N p0 k) x2 (i64.wrap (s2 + 1)))))) else some s1)
def m_l_szCondS (N : Nat) (p0 : (List TCond)) (p1 : Int) : Option (Int) :=
  (if decide (i64.wrap (p1 - (p0.length : Int)) < 0) then some (-1) else m_l_szCondS_l1 N p0 N (i64.wrap (p1 - (p0.length : Int))) 0)
def m_l_szExpr (N : Nat) (p0 : TExpr) (p1 : Int) : Option (Int) :=
  (if decide (i64.wrap (p1 - (p0.Op.size : Int)) < 0) then some (-1) else ((m_l_szArg N p0.L (i64.wrap (p1 - (p0.Op.size : Int)))).bind fun x1 => (if decide (x1 < 0) then some (-1) else ((m_l_szArg N p0.R x1).bind fun x2 => (if decide (x2 < 0) then some (-1) else some x2)))))
def m_l_szExprS_l1 (N : Nat) (p0 : (List TExpr)) : Nat → Int → Int → Option (Int)
  | 0, _, _ => none
  | k + 1, s1, s2 =>
    (if decide (s2 < (p0.length : Int)) then ((idx p0 s2).bind fun x1 => ((m_l_szExpr N x1 s1).bind fun x2 => (if decide (x2 < 0) then some (-1) else ((m_l_szExprS_l1 N p0 k) x2 (i64.wrap (s2 + 1)))))) else some s1)
def m_l_szExprS (N : Nat) (p0 : (List TExpr)) (p1 : Int) : Option (Int) :=
  (if decide (i64.wrap (p1 - (p0.length : Int)) < 0) then some (-1) else m_l_szExprS_l1 N p0 N (i64.wrap (p1 - (p0.length : Int))) 0)
def m_l_szAct (N : Nat) (p0 : TAct) (p1 : Int) : Option (Int) :=
  (if decide (i64.wrap (p1 - (p0.Name.size : Int)) < 0) then some (-1) else ((m_l_szExprS N p0.Args (i64.wrap (p1 - (p0.Name.size : Int)))).bind fun x1 => (if decide (x1 < 0) then some (-1) else (if decide (i64.wrap (x1 - (p0.Undo.size : Int)) < 0) then some (-1) else some (i64.wrap (x1 - (p0.Undo.size : Int)))))))
def m_l_szActS_l1 (N : Nat) (p0 : (List TAct)) : Nat → Int → Int → Option (Int)
  | 0, _, _ => none
  | k + 1, s1, s2 =>
    (if decide (s2 < (p0.length : Int)) then ((idx p0 s2).bind fun x1 => ((m_l_szAct N x1 s1).bind fun x2 => (if decide (x2 < 0) then some (-1) else ((m_l_szActS_l1 N p0 k) x2 (i64.wrap (s2 + 1)))))) else some s1)
def m_l_szActS (N : Nat) (p0 : (List TAct)) (p1 : Int) : Option (Int) :=
  (if decide (i64.wrap (p1 - (p0.length : Int)) < 0) then some (-1) else m_l_szActS_l1 N p0 N (i64.wrap (p1 - (p0.length : Int))) 0)
def m_l_szRule (N : Nat) (p0 : TRule) (p1 : Int) : Option (Int) :=
  (if decide (i64.wrap (p1 - (p0.Name.size : Int)) < 0) then some (-1) else ((m_l_szPatS N p0.Pats (i64.wrap (p1 - (p0.Name.size : Int)))).bind fun x1 => (if decide (x1 < 0) then some (-1) else ((m_l_szCondS N p0.Conds x1).bind fun x2 => (if decide (x2 < 0) then some (-1) else ((m_l_szActS N p0.Acts x2).bind fun x3 => (if decide (x3 < 0) then some (-1) else some x3)))))))
def m_l_szRuleS_l1 (N : Nat) (p0 : (List TRule)) : Nat → Int → Int → Option (Int)
  | 0, _, _ => none
  | k + 1, s1, s2 =>
    (if decide (s2 < (p0.length : Int)) then ((idx p0 s2).bind fun x1 => ((m_l_szRule N x1 s1).bind fun x2 => (if decide (x2 < 0) then some (-1) else ((m_l_szRuleS_l1 N p0 k) x2 (i64.wrap (s2 + 1)))))) else some s1)
def m_l_szRuleS (N : Nat) (p0 : (List TRule)) (p1 : Int) : Option (Int) :=
  (if decide (i64.wrap (p1 - (p0.length : Int)) < 0) then some (-1) else m_l_szRuleS_l1 N p0 N (i64.wrap (p1 - (p0.length : Int))) 0)
def m_l_szDef (N : Nat) (p0 : TDef) (p1 : Int) : Option (Int) :=
  (if decide (i64.wrap (p1 - (p0.Name.size : Int)) < 0) then some (-1) else ((m_l_szRuleS N p0.Rules (i64.wrap (p1 - (p0.Name.size : Int)))).bind fun x1 => (if decide (x1 < 0) then some (-1) else some x1)))
def m_l_szValS_l1 (N : Nat) (p0 : (List TVal)) : Nat → Int → Int → Option (Int)
  | 0, _, _ => none
  | k + 1, s1, s2 =>
    (if decide (s2 < (p0.length : Int)) then ((idx p0 s2).bind fun x1 => ((m_l_szVal N x1 s1).bind fun x2 => (if decide (x2 < 0) then some (-1) else ((m_l_szValS_l1 N p0 k) x2 (i64.wrap (s2 + 1)))))) else some s1)
def m_l_szValS (N : Nat) (p0 : (List TVal)) (p1 : Int) : Option (Int) :=
  (if decide (i64.wrap (p1 - (p0.length : Int)) < 0) then some (-1) else m_l_szValS_l1 N p0 N (i64.wrap (p1 - (p0.length : Int))) 0)
def m_l_szFact (N : Nat) (p0 : TFact) (p1 : Int) : Option (Int) :=
  (if decide (i64.wrap (p1 - (p0.Kind.size : Int)) < 0) then some (-1) else ((m_l_szValS N p0.Fields (i64.wrap (p1 - (p0.Kind.size : Int)))).bind fun x1 => (if decide (x1 < 0) then some (-1) else some x1)))
def m_l_szItem (N : Nat) (p0 : TItem) (p1 : Int) : Option (Int) :=
  ((m_l_szFact N p0.F p1).bind fun x1 => (if decide (x1 < 0) then some (-1) else some x1))
def m_l_szItemS_l1 (N : Nat) (p0 : (List TItem)) : Nat → Int → Int → Option (Int)
  | 0, _, _ => none
  | k + 1, s1, s2 =>
    (if decide (s2 < (p0.length : Int)) then ((idx p0 s2).bind fun x1 => ((m_l_szItem N x1 s1).bind fun x2 => (if decide (x2 < 0) then some (-1) else ((m_l_szItemS_l1 N p0 k) x2 (i64.wrap (s2 + 1)))))) else some s1)
def m_l_szItemS (N : Nat) (p0 : (List TItem)) (p1 : Int) : Option (Int) :=
  (if decide (i64.wrap (p1 - (p0.length : Int)) < 0) then some (-1) else m_l_szItemS_l1 N p0 N (i64.wrap (p1 - (p0.length : Int))) 0)
def m_l_szStore (N : Nat) (p0 : TStore) (p1 : Int) : Option (Int) :=
  ((m_l_szItemS N p0.Items p1).bind fun x1 => (if decide (x1 < 0) then some (-1) else some x1))
def m_l_toVal (N : Nat) (p0 : TVal) : Option (TVal) :=
  some p0
def m_l_toArg (N : Nat) (p0 : TArg) : Option (TArg) :=
  ((m_l_toVal N p0.V).bind fun x1 => some (⟨p0.K, p0.S, x1⟩ : TArg))
def m_l_toArgS_l1 (N : Nat) (p0 : (List TArg)) : Nat → (List TArg) → Int → Option ((List TArg))
  | 0, _, _ => none
  | k + 1, s1, s2 =>
    (if decide (s2 < (p0.length : Int)) then ((idx p0 s2).bind fun x2 => ((m_l_toArg N x2).bind fun x3 => ((idx s1 s2).bind fun x4 => ((m_l_toArgS_l1 N p0 k) (s1.set s2.toNat x3) (i64.wrap (s2 + 1)))))) else some s1)
def m_l_toArgS (N : Nat) (p0 : (List TArg)) : Option ((List TArg)) :=
  ((mk (⟨0, (⟨#[]⟩ : ByteArray), (⟨0, 0, (⟨#[]⟩ : ByteArray)⟩ : TVal)⟩ : TArg) (p0.length : Int)).bind fun x1 => m_l_toArgS_l1 N p0 N x1 0)
def m_l_toPat (N : Nat) (p0 : TPat) : Option (TPat) :=
  ((m_l_toArgS N p0.Args).bind fun x1 => some (⟨p0.Kind, x1, p0.Not⟩ : TPat))
def m_l_toPatS_l1 (N : Nat) (p0 : (List TPat)) : Nat → (List TPat) → Int → Option ((List TPat))
  | 0, _, _ => none
  | k + 1, s1, s2 =>
    (if decide (s2 < (p0.length : Int)) then ((idx p0 s2).bind fun x2 => ((m_l_toPat N x2).bind fun x3 => ((idx s1 s2).bind fun x4 => ((m_l_toPatS_l1 N p0 k) (s1.set s2.toNat x3) (i64.wrap (s2 + 1)))))) else some s1)
def m_l_toPatS (N : Nat) (p0 : (List TPat)) : Option ((List TPat)) :=
  ((mk (⟨(⟨#[]⟩ : ByteArray), ([] : List TArg), false⟩ : TPat) (p0.length : Int)).bind fun x1 => m_l_toPatS_l1 N p0 N x1 0)
def m_l_toCond (N : Nat) (p0 : TCond) : Option (TCond) :=
  ((m_l_toArg N p0.L).bind fun x1 => ((m_l_toArg N p0.R).bind fun x2 => some (⟨p0.Op, x1, x2⟩ : TCond)))
def m_l_toCondS_l1 (N : Nat) (p0 : (List TCond)) : Nat → (List TCond) → Int → Option ((List TCond))
  | 0, _, _ => none
  | k + 1, s1, s2 =>
    (if decide (s2 < (p0.length : Int)) then ((idx p0 s2).bind fun x2 => ((m_l_toCond N x2).bind fun x3 => ((idx s1 s2).bind fun x4 => ((m_l_toCondS_l1 N p0 k) (s1.set s2.toNat x3) (i64.wrap (s2 + 1)))))) else some s1)
def m_l_toCondS (N : Nat) (p0 : (List TCond)) : Option ((List TCond)) :=
  ((mk (⟨0, (⟨0, (⟨#[]⟩ : ByteArray), (⟨0, 0, (⟨#[]⟩ : ByteArray)⟩ : TVal)⟩ : TArg), (⟨0, (⟨#[]⟩ : ByteArray), (⟨0, 0, (⟨#[]⟩ : ByteArray)⟩ : TVal)⟩ : TArg)⟩ : TCond) (p0.length : Int)).bind fun x1 => m_l_toCondS_l1 N p0 N x1 0)
def m_l_toExpr (N : Nat) (p0 : TExpr) : Option (TExpr) :=
  ((m_l_toArg N p0.L).bind fun x1 => ((m_l_toArg N p0.R).bind fun x2 => some (⟨p0.Op, x1, x2⟩ : TExpr)))
def m_l_toExprS_l1 (N : Nat) (p0 : (List TExpr)) : Nat → (List TExpr) → Int → Option ((List TExpr))
  | 0, _, _ => none
  | k + 1, s1, s2 =>
    (if decide (s2 < (p0.length : Int)) then ((idx p0 s2).bind fun x2 => ((m_l_toExpr N x2).bind fun x3 => ((idx s1 s2).bind fun x4 => ((m_l_toExprS_l1 N p0 k) (s1.set s2.toNat x3) (i64.wrap (s2 + 1)))))) else some s1)
def m_l_toExprS (N : Nat) (p0 : (List TExpr)) : Option ((List TExpr)) :=
  ((mk (⟨(⟨#[]⟩ : ByteArray), (⟨0, (⟨#[]⟩ : ByteArray), (⟨0, 0, (⟨#[]⟩ : ByteArray)⟩ : TVal)⟩ : TArg), (⟨0, (⟨#[]⟩ : ByteArray), (⟨0, 0, (⟨#[]⟩ : ByteArray)⟩ : TVal)⟩ : TArg)⟩ : TExpr) (p0.length : Int)).bind fun x1 => m_l_toExprS_l1 N p0 N x1 0)
def m_l_toAct (N : Nat) (p0 : TAct) : Option (TAct) :=
  ((m_l_toExprS N p0.Args).bind fun x1 => some (⟨p0.Kind, p0.Name, x1, p0.N, p0.Undo⟩ : TAct))
def m_l_toActS_l1 (N : Nat) (p0 : (List TAct)) : Nat → (List TAct) → Int → Option ((List TAct))
  | 0, _, _ => none
  | k + 1, s1, s2 =>
    (if decide (s2 < (p0.length : Int)) then ((idx p0 s2).bind fun x2 => ((m_l_toAct N x2).bind fun x3 => ((idx s1 s2).bind fun x4 => ((m_l_toActS_l1 N p0 k) (s1.set s2.toNat x3) (i64.wrap (s2 + 1)))))) else some s1)
def m_l_toActS (N : Nat) (p0 : (List TAct)) : Option ((List TAct)) :=
  ((mk (⟨0, (⟨#[]⟩ : ByteArray), ([] : List TExpr), 0, (⟨#[]⟩ : ByteArray)⟩ : TAct) (p0.length : Int)).bind fun x1 => m_l_toActS_l1 N p0 N x1 0)
def m_l_toRule (N : Nat) (p0 : TRule) : Option (TRule) :=
  ((m_l_toPatS N p0.Pats).bind fun x1 => ((m_l_toCondS N p0.Conds).bind fun x2 => ((m_l_toActS N p0.Acts).bind fun x3 => some (⟨p0.Name, p0.Sal, x1, x2, x3⟩ : TRule))))
def m_l_toRuleS_l1 (N : Nat) (p0 : (List TRule)) : Nat → (List TRule) → Int → Option ((List TRule))
  | 0, _, _ => none
  | k + 1, s1, s2 =>
    (if decide (s2 < (p0.length : Int)) then ((idx p0 s2).bind fun x2 => ((m_l_toRule N x2).bind fun x3 => ((idx s1 s2).bind fun x4 => ((m_l_toRuleS_l1 N p0 k) (s1.set s2.toNat x3) (i64.wrap (s2 + 1)))))) else some s1)
def m_l_toRuleS (N : Nat) (p0 : (List TRule)) : Option ((List TRule)) :=
  ((mk (⟨(⟨#[]⟩ : ByteArray), 0, ([] : List TPat), ([] : List TCond), ([] : List TAct)⟩ : TRule) (p0.length : Int)).bind fun x1 => m_l_toRuleS_l1 N p0 N x1 0)
def m_l_toDef (N : Nat) (p0 : TDef) : Option (TDef) :=
  ((m_l_toRuleS N p0.Rules).bind fun x1 => some (⟨p0.Name, x1⟩ : TDef))
def m_l_toValS_l1 (N : Nat) (p0 : (List TVal)) : Nat → (List TVal) → Int → Option ((List TVal))
  | 0, _, _ => none
  | k + 1, s1, s2 =>
    (if decide (s2 < (p0.length : Int)) then ((idx p0 s2).bind fun x2 => ((m_l_toVal N x2).bind fun x3 => ((idx s1 s2).bind fun x4 => ((m_l_toValS_l1 N p0 k) (s1.set s2.toNat x3) (i64.wrap (s2 + 1)))))) else some s1)
def m_l_toValS (N : Nat) (p0 : (List TVal)) : Option ((List TVal)) :=
  ((mk (⟨0, 0, (⟨#[]⟩ : ByteArray)⟩ : TVal) (p0.length : Int)).bind fun x1 => m_l_toValS_l1 N p0 N x1 0)
def m_l_toFact (N : Nat) (p0 : TFact) : Option (TFact) :=
  ((m_l_toValS N p0.Fields).bind fun x1 => some (⟨p0.Kind, x1⟩ : TFact))
def m_l_toItem (N : Nat) (p0 : TItem) : Option (TItem) :=
  ((m_l_toFact N p0.F).bind fun x1 => some (⟨p0.Id, x1⟩ : TItem))
def m_l_toItemS_l1 (N : Nat) (p0 : (List TItem)) : Nat → (List TItem) → Int → Option ((List TItem))
  | 0, _, _ => none
  | k + 1, s1, s2 =>
    (if decide (s2 < (p0.length : Int)) then ((idx p0 s2).bind fun x2 => ((m_l_toItem N x2).bind fun x3 => ((idx s1 s2).bind fun x4 => ((m_l_toItemS_l1 N p0 k) (s1.set s2.toNat x3) (i64.wrap (s2 + 1)))))) else some s1)
def m_l_toItemS (N : Nat) (p0 : (List TItem)) : Option ((List TItem)) :=
  ((mk (⟨0, (⟨(⟨#[]⟩ : ByteArray), ([] : List TVal)⟩ : TFact)⟩ : TItem) (p0.length : Int)).bind fun x1 => m_l_toItemS_l1 N p0 N x1 0)
def m_l_toStore (N : Nat) (p0 : TStore) : Option (TStore) :=
  ((m_l_toItemS N p0.Items).bind fun x1 => some (⟨x1, p0.Next⟩ : TStore))
def m_l_eqIntS_l1 (N : Nat) (p0 : (List Int)) (p1 : (List Int)) : Nat → Int → Option (Bool)
  | 0, _ => none
  | k + 1, s1 =>
    (if decide (s1 < (p0.length : Int)) then ((idx p0 s1).bind fun x1 => ((idx p1 s1).bind fun x2 => (if !decide (x1 = x2) then some false else ((m_l_eqIntS_l1 N p0 p1 k) (i64.wrap (s1 + 1)))))) else some true)
def m_l_eqIntS (N : Nat) (p0 : (List Int)) (p1 : (List Int)) : Option (Bool) :=
  (if !decide ((p0.length : Int) = (p1.length : Int)) then some false else m_l_eqIntS_l1 N p0 p1 N 0)
def m_l_eqIds (N : Nat) (p0 : TIds) (p1 : TIds) : Option (Bool) :=
  ((m_l_eqIntS N p0.L p1.L).bind fun x1 => (if !x1 then some false else some true))
def m_l_eqIdsS_l1 (N : Nat) (p0 : (List TIds)) (p1 : (List TIds)) : Nat → Int → Option (Bool)
  | 0, _ => none
  | k + 1, s1 =>
    (if decide (s1 < (p0.length : Int)) then ((idx p0 s1).bind fun x1 => ((idx p1 s1).bind fun x2 => ((m_l_eqIds N x1 x2).bind fun x3 => (if !x3 then some false else ((m_l_eqIdsS_l1 N p0 p1 k) (i64.wrap (s1 + 1))))))) else some true)
def m_l_eqIdsS (N : Nat) (p0 : (List TIds)) (p1 : (List TIds)) : Option (Bool) :=
  (if !decide ((p0.length : Int) = (p1.length : Int)) then some false else m_l_eqIdsS_l1 N p0 p1 N 0)
def m_l_eqTok (N : Nat) (p0 : TTok) (p1 : TTok) : Option (Bool) :=
  ((m_l_eqIntS N p0.Ids p1.Ids).bind fun x1 => (if !x1 then some false else ((m_l_eqIntS N p0.Hits p1.Hits).bind fun x2 => (if !x2 then some false else some true))))
def m_l_eqTokS_l1 (N : Nat) (p0 : (List TTok)) (p1 : (List TTok)) : Nat → Int → Option (Bool)
  | 0, _ => none
  | k + 1, s1 =>
    (if decide (s1 < (p0.length : Int)) then ((idx p0 s1).bind fun x1 => ((idx p1 s1).bind fun x2 => ((m_l_eqTok N x1 x2).bind fun x3 => (if !x3 then some false else ((m_l_eqTokS_l1 N p0 p1 k) (i64.wrap (s1 + 1))))))) else some true)
def m_l_eqTokS (N : Nat) (p0 : (List TTok)) (p1 : (List TTok)) : Option (Bool) :=
  (if !decide ((p0.length : Int) = (p1.length : Int)) then some false else m_l_eqTokS_l1 N p0 p1 N 0)
def m_l_eqLevel (N : Nat) (p0 : TLevel) (p1 : TLevel) : Option (Bool) :=
  ((m_l_eqTokS N p0.Toks p1.Toks).bind fun x1 => (if !x1 then some false else some true))
def m_l_eqLevelS_l1 (N : Nat) (p0 : (List TLevel)) (p1 : (List TLevel)) : Nat → Int → Option (Bool)
  | 0, _ => none
  | k + 1, s1 =>
    (if decide (s1 < (p0.length : Int)) then ((idx p0 s1).bind fun x1 => ((idx p1 s1).bind fun x2 => ((m_l_eqLevel N x1 x2).bind fun x3 => (if !x3 then some false else ((m_l_eqLevelS_l1 N p0 p1 k) (i64.wrap (s1 + 1))))))) else some true)
def m_l_eqLevelS (N : Nat) (p0 : (List TLevel)) (p1 : (List TLevel)) : Option (Bool) :=
  (if !decide ((p0.length : Int) = (p1.length : Int)) then some false else m_l_eqLevelS_l1 N p0 p1 N 0)
def m_l_eqRow (N : Nat) (p0 : TRow) (p1 : TRow) : Option (Bool) :=
  ((m_l_eqLevelS N p0.Levels p1.Levels).bind fun x1 => (if !x1 then some false else some true))
def m_l_eqRowS_l1 (N : Nat) (p0 : (List TRow)) (p1 : (List TRow)) : Nat → Int → Option (Bool)
  | 0, _ => none
  | k + 1, s1 =>
    (if decide (s1 < (p0.length : Int)) then ((idx p0 s1).bind fun x1 => ((idx p1 s1).bind fun x2 => ((m_l_eqRow N x1 x2).bind fun x3 => (if !x3 then some false else ((m_l_eqRowS_l1 N p0 p1 k) (i64.wrap (s1 + 1))))))) else some true)
def m_l_eqRowS (N : Nat) (p0 : (List TRow)) (p1 : (List TRow)) : Option (Bool) :=
  (if !decide ((p0.length : Int) = (p1.length : Int)) then some false else m_l_eqRowS_l1 N p0 p1 N 0)
def m_l_eqMem (N : Nat) (p0 : TMem) (p1 : TMem) : Option (Bool) :=
  ((m_l_eqIdsS N p0.Alphas p1.Alphas).bind fun x1 => (if !x1 then some false else ((m_l_eqRowS N p0.Rules p1.Rules).bind fun x2 => (if !x2 then some false else some true))))
def m_l_eqVal (N : Nat) (p0 : TVal) (p1 : TVal) : Option (Bool) :=
  (if !decide (p0.K = p1.K) then some false else (if !decide (p0.N = p1.N) then some false else (if !seq p0.S p1.S then some false else some true)))
def m_l_eqArg (N : Nat) (p0 : TArg) (p1 : TArg) : Option (Bool) :=
  (if !decide (p0.K = p1.K) then some false else (if !seq p0.S p1.S then some false else ((m_l_eqVal N p0.V p1.V).bind fun x1 => (if !x1 then some false else some true))))
def m_l_eqArgS_l1 (N : Nat) (p0 : (List TArg)) (p1 : (List TArg)) : Nat → Int → Option (Bool)
  | 0, _ => none
  | k + 1, s1 =>
    (if decide (s1 < (p0.length : Int)) then ((idx p0 s1).bind fun x1 => ((idx p1 s1).bind fun x2 => ((m_l_eqArg N x1 x2).bind fun x3 => (if !x3 then some false else ((m_l_eqArgS_l1 N p0 p1 k) (i64.wrap (s1 + 1))))))) else some true)
def m_l_eqArgS (N : Nat) (p0 : (List TArg)) (p1 : (List TArg)) : Option (Bool) :=
  (if !decide ((p0.length : Int) = (p1.length : Int)) then some false else m_l_eqArgS_l1 N p0 p1 N 0)
def m_l_eqPat (N : Nat) (p0 : TPat) (p1 : TPat) : Option (Bool) :=
  (if !seq p0.Kind p1.Kind then some false else ((m_l_eqArgS N p0.Args p1.Args).bind fun x1 => (if !x1 then some false else (if (p0.Not != p1.Not) then some false else some true))))
def m_l_eqPatS_l1 (N : Nat) (p0 : (List TPat)) (p1 : (List TPat)) : Nat → Int → Option (Bool)
  | 0, _ => none
  | k + 1, s1 =>
    (if decide (s1 < (p0.length : Int)) then ((idx p0 s1).bind fun x1 => ((idx p1 s1).bind fun x2 => ((m_l_eqPat N x1 x2).bind fun x3 => (if !x3 then some false else ((m_l_eqPatS_l1 N p0 p1 k) (i64.wrap (s1 + 1))))))) else some true)
def m_l_eqPatS (N : Nat) (p0 : (List TPat)) (p1 : (List TPat)) : Option (Bool) :=
  (if !decide ((p0.length : Int) = (p1.length : Int)) then some false else m_l_eqPatS_l1 N p0 p1 N 0)
def m_l_eqCond (N : Nat) (p0 : TCond) (p1 : TCond) : Option (Bool) :=
  (if !decide (p0.Op = p1.Op) then some false else ((m_l_eqArg N p0.L p1.L).bind fun x1 => (if !x1 then some false else ((m_l_eqArg N p0.R p1.R).bind fun x2 => (if !x2 then some false else some true)))))
def m_l_eqCondS_l1 (N : Nat) (p0 : (List TCond)) (p1 : (List TCond)) : Nat → Int → Option (Bool)
  | 0, _ => none
  | k + 1, s1 =>
    (if decide (s1 < (p0.length : Int)) then ((idx p0 s1).bind fun x1 => ((idx p1 s1).bind fun x2 => ((m_l_eqCond N x1 x2).bind fun x3 => (if !x3 then some false else ((m_l_eqCondS_l1 N p0 p1 k) (i64.wrap (s1 + 1))))))) else some true)
def m_l_eqCondS (N : Nat) (p0 : (List TCond)) (p1 : (List TCond)) : Option (Bool) :=
  (if !decide ((p0.length : Int) = (p1.length : Int)) then some false else m_l_eqCondS_l1 N p0 p1 N 0)
def m_l_eqExpr (N : Nat) (p0 : TExpr) (p1 : TExpr) : Option (Bool) :=
  (if !seq p0.Op p1.Op then some false else ((m_l_eqArg N p0.L p1.L).bind fun x1 => (if !x1 then some false else ((m_l_eqArg N p0.R p1.R).bind fun x2 => (if !x2 then some false else some true)))))
def m_l_eqExprS_l1 (N : Nat) (p0 : (List TExpr)) (p1 : (List TExpr)) : Nat → Int → Option (Bool)
  | 0, _ => none
  | k + 1, s1 =>
    (if decide (s1 < (p0.length : Int)) then ((idx p0 s1).bind fun x1 => ((idx p1 s1).bind fun x2 => ((m_l_eqExpr N x1 x2).bind fun x3 => (if !x3 then some false else ((m_l_eqExprS_l1 N p0 p1 k) (i64.wrap (s1 + 1))))))) else some true)
def m_l_eqExprS (N : Nat) (p0 : (List TExpr)) (p1 : (List TExpr)) : Option (Bool) :=
  (if !decide ((p0.length : Int) = (p1.length : Int)) then some false else m_l_eqExprS_l1 N p0 p1 N 0)
def m_l_eqAct (N : Nat) (p0 : TAct) (p1 : TAct) : Option (Bool) :=
  (if !decide (p0.Kind = p1.Kind) then some false else (if !seq p0.Name p1.Name then some false else ((m_l_eqExprS N p0.Args p1.Args).bind fun x1 => (if !x1 then some false else (if !decide (p0.N = p1.N) then some false else (if !seq p0.Undo p1.Undo then some false else some true))))))
def m_l_eqActS_l1 (N : Nat) (p0 : (List TAct)) (p1 : (List TAct)) : Nat → Int → Option (Bool)
  | 0, _ => none
  | k + 1, s1 =>
    (if decide (s1 < (p0.length : Int)) then ((idx p0 s1).bind fun x1 => ((idx p1 s1).bind fun x2 => ((m_l_eqAct N x1 x2).bind fun x3 => (if !x3 then some false else ((m_l_eqActS_l1 N p0 p1 k) (i64.wrap (s1 + 1))))))) else some true)
def m_l_eqActS (N : Nat) (p0 : (List TAct)) (p1 : (List TAct)) : Option (Bool) :=
  (if !decide ((p0.length : Int) = (p1.length : Int)) then some false else m_l_eqActS_l1 N p0 p1 N 0)
def m_l_eqRule (N : Nat) (p0 : TRule) (p1 : TRule) : Option (Bool) :=
  (if !seq p0.Name p1.Name then some false else (if !decide (p0.Sal = p1.Sal) then some false else ((m_l_eqPatS N p0.Pats p1.Pats).bind fun x1 => (if !x1 then some false else ((m_l_eqCondS N p0.Conds p1.Conds).bind fun x2 => (if !x2 then some false else ((m_l_eqActS N p0.Acts p1.Acts).bind fun x3 => (if !x3 then some false else some true))))))))
def m_l_eqRuleS_l1 (N : Nat) (p0 : (List TRule)) (p1 : (List TRule)) : Nat → Int → Option (Bool)
  | 0, _ => none
  | k + 1, s1 =>
    (if decide (s1 < (p0.length : Int)) then ((idx p0 s1).bind fun x1 => ((idx p1 s1).bind fun x2 => ((m_l_eqRule N x1 x2).bind fun x3 => (if !x3 then some false else ((m_l_eqRuleS_l1 N p0 p1 k) (i64.wrap (s1 + 1))))))) else some true)
def m_l_eqRuleS (N : Nat) (p0 : (List TRule)) (p1 : (List TRule)) : Option (Bool) :=
  (if !decide ((p0.length : Int) = (p1.length : Int)) then some false else m_l_eqRuleS_l1 N p0 p1 N 0)
def m_l_eqDef (N : Nat) (p0 : TDef) (p1 : TDef) : Option (Bool) :=
  (if !seq p0.Name p1.Name then some false else ((m_l_eqRuleS N p0.Rules p1.Rules).bind fun x1 => (if !x1 then some false else some true)))
def m_l_eqValS_l1 (N : Nat) (p0 : (List TVal)) (p1 : (List TVal)) : Nat → Int → Option (Bool)
  | 0, _ => none
  | k + 1, s1 =>
    (if decide (s1 < (p0.length : Int)) then ((idx p0 s1).bind fun x1 => ((idx p1 s1).bind fun x2 => ((m_l_eqVal N x1 x2).bind fun x3 => (if !x3 then some false else ((m_l_eqValS_l1 N p0 p1 k) (i64.wrap (s1 + 1))))))) else some true)
def m_l_eqValS (N : Nat) (p0 : (List TVal)) (p1 : (List TVal)) : Option (Bool) :=
  (if !decide ((p0.length : Int) = (p1.length : Int)) then some false else m_l_eqValS_l1 N p0 p1 N 0)
def m_l_eqFact (N : Nat) (p0 : TFact) (p1 : TFact) : Option (Bool) :=
  (if !seq p0.Kind p1.Kind then some false else ((m_l_eqValS N p0.Fields p1.Fields).bind fun x1 => (if !x1 then some false else some true)))
def m_l_eqItem (N : Nat) (p0 : TItem) (p1 : TItem) : Option (Bool) :=
  (if !decide (p0.Id = p1.Id) then some false else ((m_l_eqFact N p0.F p1.F).bind fun x1 => (if !x1 then some false else some true)))
def m_l_eqItemS_l1 (N : Nat) (p0 : (List TItem)) (p1 : (List TItem)) : Nat → Int → Option (Bool)
  | 0, _ => none
  | k + 1, s1 =>
    (if decide (s1 < (p0.length : Int)) then ((idx p0 s1).bind fun x1 => ((idx p1 s1).bind fun x2 => ((m_l_eqItem N x1 x2).bind fun x3 => (if !x3 then some false else ((m_l_eqItemS_l1 N p0 p1 k) (i64.wrap (s1 + 1))))))) else some true)
def m_l_eqItemS (N : Nat) (p0 : (List TItem)) (p1 : (List TItem)) : Option (Bool) :=
  (if !decide ((p0.length : Int) = (p1.length : Int)) then some false else m_l_eqItemS_l1 N p0 p1 N 0)
def m_l_eqStore (N : Nat) (p0 : TStore) (p1 : TStore) : Option (Bool) :=
  ((m_l_eqItemS N p0.Items p1.Items).bind fun x1 => (if !x1 then some false else (if !decide (p0.Next = p1.Next) then some false else some true)))
def m_l_markText_l1 (N : Nat) : Nat → Int → ByteArray → Option (ByteArray)
  | 0, _, _ => none
  | k + 1, s1, s2 =>
    (if decide (0 < s1) then ((cat (bstr ([(IntKind.u8.wrap (i64.wrap (48 + (s1.tmod 10))))] : List Int)) s2).bind fun z1 => ((m_l_markText_l1 N k) (i64.wrap (s1.tdiv 10)) z1)) else ((cat (⟨#[109]⟩ : ByteArray) s2).bind fun z2 => some z2))
def m_l_markText (N : Nat) (p0 : Int) : Option (ByteArray) :=
  (if decide (p0 ≤ 0) then some (⟨#[109, 48]⟩ : ByteArray) else m_l_markText_l1 N N p0 (⟨#[]⟩ : ByteArray))
def m_l_markArgS_l1 (N : Nat) : Nat → (List TArg) → Int → Int → Option (Int × (List TArg))
  | 0, _, _, _ => none
  | k + 1, s1, s2, s3 =>
    (if decide (s3 < (s1.length : Int)) then ((idx s1 s3).bind fun x1 => ((m_l_markText N (i64.wrap (s2 + 1))).bind fun x2 => ((m_l_markText N (i64.wrap ((i64.wrap ((i64.wrap ((i64.wrap (s2 + 1)) + 1)) + 1)) + 1))).bind fun x3 => ((m_l_markArgS_l1 N k) (s1.set s3.toNat (⟨s2, x2, (⟨i64.wrap ((i64.wrap (s2 + 1)) + 1), i64.wrap ((i64.wrap ((i64.wrap (s2 + 1)) + 1)) + 1), x3⟩ : TVal)⟩ : TArg)) (i64.wrap ((i64.wrap ((i64.wrap ((i64.wrap ((i64.wrap (s2 + 1)) + 1)) + 1)) + 1)) + 1)) (i64.wrap (s3 + 1)))))) else some (s2, s1))
def m_l_markArgS (N : Nat) (p0 : (List TArg)) (p1 : Int) : Option (Int × (List TArg)) :=
  m_l_markArgS_l1 N N p0 p1 0
def m_l_markPatS_l1 (N : Nat) : Nat → (List TPat) → Int → Int → Option (Int × (List TPat))
  | 0, _, _, _ => none
  | k + 1, s1, s2, s3 =>
    (if decide (s3 < (s1.length : Int)) then ((m_l_markText N s2).bind fun x1 => ((idx s1 s3).bind fun x2 => ((m_l_markArgS N x2.Args (i64.wrap (s2 + 1))).bind fun x3 => ((m_l_markPatS_l1 N k) (s1.set s3.toNat (⟨x1, x3.2, decide ((x3.1.tmod 3) = 0)⟩ : TPat)) (i64.wrap (x3.1 + 1)) (i64.wrap (s3 + 1)))))) else some (s2, s1))
def m_l_markPatS (N : Nat) (p0 : (List TPat)) (p1 : Int) : Option (Int × (List TPat)) :=
  m_l_markPatS_l1 N N p0 p1 0
def m_l_markCondS_l1 (N : Nat) : Nat → (List TCond) → Int → Int → Option (Int × (List TCond))
  | 0, _, _, _ => none
  | k + 1, s1, s2, s3 =>
    (if decide (s3 < (s1.length : Int)) then ((idx s1 s3).bind fun x1 => ((m_l_markText N (i64.wrap ((i64.wrap (s2 + 1)) + 1))).bind fun x2 => ((m_l_markText N (i64.wrap ((i64.wrap ((i64.wrap ((i64.wrap ((i64.wrap (s2 + 1)) + 1)) + 1)) + 1)) + 1))).bind fun x3 => ((m_l_markText N (i64.wrap ((i64.wrap ((i64.wrap ((i64.wrap ((i64.wrap ((i64.wrap ((i64.wrap (s2 + 1)) + 1)) + 1)) + 1)) + 1)) + 1)) + 1))).bind fun x4 => ((m_l_markText N (i64.wrap ((i64.wrap ((i64.wrap ((i64.wrap ((i64.wrap ((i64.wrap ((i64.wrap ((i64.wrap ((i64.wrap ((i64.wrap (s2 + 1)) + 1)) + 1)) + 1)) + 1)) + 1)) + 1)) + 1)) + 1)) + 1))).bind fun x5 => ((m_l_markCondS_l1 N k) (s1.set s3.toNat (⟨s2, (⟨i64.wrap (s2 + 1), x2, (⟨i64.wrap ((i64.wrap ((i64.wrap (s2 + 1)) + 1)) + 1), i64.wrap ((i64.wrap ((i64.wrap ((i64.wrap (s2 + 1)) + 1)) + 1)) + 1), x3⟩ : TVal)⟩ : TArg), (⟨i64.wrap ((i64.wrap ((i64.wrap ((i64.wrap ((i64.wrap ((i64.wrap (s2 + 1)) + 1)) + 1)) + 1)) + 1)) + 1), x4, (⟨i64.wrap ((i64.wrap ((i64.wrap ((i64.wrap ((i64.wrap ((i64.wrap ((i64.wrap ((i64.wrap (s2 + 1)) + 1)) + 1)) + 1)) + 1)) + 1)) + 1)) + 1), i64.wrap ((i64.wrap ((i64.wrap ((i64.wrap ((i64.wrap ((i64.wrap ((i64.wrap ((i64.wrap ((i64.wrap (s2 + 1)) + 1)) + 1)) + 1)) + 1)) + 1)) + 1)) + 1)) + 1), x5⟩ : TVal)⟩ : TArg)⟩ : TCond)) (i64.wrap ((i64.wrap ((i64.wrap ((i64.wrap ((i64.wrap ((i64.wrap ((i64.wrap ((i64.wrap ((i64.wrap ((i64.wrap ((i64.wrap (s2 + 1)) + 1)) + 1)) + 1)) + 1)) + 1)) + 1)) + 1)) + 1)) + 1)) + 1)) (i64.wrap (s3 + 1)))))))) else some (s2, s1))
def m_l_markCondS (N : Nat) (p0 : (List TCond)) (p1 : Int) : Option (Int × (List TCond)) :=
  m_l_markCondS_l1 N N p0 p1 0
def m_l_markExprS_l1 (N : Nat) : Nat → (List TExpr) → Int → Int → Option (Int × (List TExpr))
  | 0, _, _, _ => none
  | k + 1, s1, s2, s3 =>
    (if decide (s3 < (s1.length : Int)) then ((m_l_markText N s2).bind fun x1 => ((idx s1 s3).bind fun x2 => ((m_l_markText N (i64.wrap ((i64.wrap (s2 + 1)) + 1))).bind fun x3 => ((m_l_markText N (i64.wrap ((i64.wrap ((i64.wrap ((i64.wrap ((i64.wrap (s2 + 1)) + 1)) + 1)) + 1)) + 1))).bind fun x4 => ((m_l_markText N (i64.wrap ((i64.wrap ((i64.wrap ((i64.wrap ((i64.wrap ((i64.wrap ((i64.wrap (s2 + 1)) + 1)) + 1)) + 1)) + 1)) + 1)) + 1))).bind fun x5 => ((m_l_markText N (i64.wrap ((i64.wrap ((i64.wrap ((i64.wrap ((i64.wrap ((i64.wrap ((i64.wrap ((i64.wrap ((i64.wrap ((i64.wrap (s2 + 1)) + 1)) + 1)) + 1)) + 1)) + 1)) + 1)) + 1)) + 1)) + 1))).bind fun x6 => ((m_l_markExprS_l1 N k) (s1.set s3.toNat (⟨x1, (⟨i64.wrap (s2 + 1), x3, (⟨i64.wrap ((i64.wrap ((i64.wrap (s2 + 1)) + 1)) + 1), i64.wrap ((i64.wrap ((i64.wrap ((i64.wrap (s2 + 1)) + 1)) + 1)) + 1), x4⟩ : TVal)⟩ : TArg), (⟨i64.wrap ((i64.wrap ((i64.wrap ((i64.wrap ((i64.wrap ((i64.wrap (s2 + 1)) + 1)) + 1)) + 1)) + 1)) + 1), x5, (⟨i64.wrap ((i64.wrap ((i64.wrap ((i64.wrap ((i64.wrap ((i64.wrap ((i64.wrap ((i64.wrap (s2 + 1)) + 1)) + 1)) + 1)) + 1)) + 1)) + 1)) + 1), i64.wrap ((i64.wrap ((i64.wrap ((i64.wrap ((i64.wrap ((i64.wrap ((i64.wrap ((i64.wrap ((i64.wrap (s2 + 1)) + 1)) + 1)) + 1)) + 1)) + 1)) + 1)) + 1)) + 1), x6⟩ : TVal)⟩ : TArg)⟩ : TExpr)) (i64.wrap ((i64.wrap ((i64.wrap ((i64.wrap ((i64.wrap ((i64.wrap ((i64.wrap ((i64.wrap ((i64.wrap ((i64.wrap ((i64.wrap (s2 + 1)) + 1)) + 1)) + 1)) + 1)) + 1)) + 1)) + 1)) + 1)) + 1)) + 1)) (i64.wrap (s3 + 1))))))))) else some (s2, s1))
def m_l_markExprS (N : Nat) (p0 : (List TExpr)) (p1 : Int) : Option (Int × (List TExpr)) :=
  m_l_markExprS_l1 N N p0 p1 0
def m_l_markActS_l1 (N : Nat) : Nat → (List TAct) → Int → Int → Option (Int × (List TAct))
  | 0, _, _, _ => none
  | k + 1, s1, s2, s3 =>
    (if decide (s3 < (s1.length : Int)) then ((idx s1 s3).bind fun x1 => ((m_l_markText N (i64.wrap (s2 + 1))).bind fun x2 => ((m_l_markExprS N x1.Args (i64.wrap ((i64.wrap (s2 + 1)) + 1))).bind fun x3 => ((m_l_markText N (i64.wrap (x3.1 + 1))).bind fun x4 => ((m_l_markActS_l1 N k) (s1.set s3.toNat (⟨s2, x2, x3.2, x3.1, x4⟩ : TAct)) (i64.wrap ((i64.wrap (x3.1 + 1)) + 1)) (i64.wrap (s3 + 1))))))) else some (s2, s1))
def m_l_markActS (N : Nat) (p0 : (List TAct)) (p1 : Int) : Option (Int × (List TAct)) :=
  m_l_markActS_l1 N N p0 p1 0
def m_l_markRuleS_l1 (N : Nat) : Nat → (List TRule) → Int → Int → Option (Int × (List TRule))
  | 0, _, _, _ => none
  | k + 1, s1, s2, s3 =>
    (if decide (s3 < (s1.length : Int)) then ((m_l_markText N s2).bind fun x1 => ((idx s1 s3).bind fun x2 => ((m_l_markPatS N x2.Pats (i64.wrap ((i64.wrap (s2 + 1)) + 1))).bind fun x3 => ((m_l_markCondS N x2.Conds x3.1).bind fun x4 => ((m_l_markActS N x2.Acts x4.1).bind fun x5 => ((m_l_markRuleS_l1 N k) (s1.set s3.toNat (⟨x1, i64.wrap (s2 + 1), x3.2, x4.2, x5.2⟩ : TRule)) x5.1 (i64.wrap (s3 + 1)))))))) else some (s2, s1))
def m_l_markRuleS (N : Nat) (p0 : (List TRule)) (p1 : Int) : Option (Int × (List TRule)) :=
  m_l_markRuleS_l1 N N p0 p1 0
def m_l_markDef (N : Nat) (p0 : TDef) (p1 : Int) : Option (Int × (List TRule)) :=
  ((m_l_markRuleS N p0.Rules p1).bind fun x1 => some (x1.1, x1.2))
def m_l_markIntS_l1 (N : Nat) : Nat → (List Int) → Int → Int → Option (Int × (List Int))
  | 0, _, _, _ => none
  | k + 1, s1, s2, s3 =>
    (if decide (s3 < (s1.length : Int)) then ((idx s1 s3).bind fun x1 => ((m_l_markIntS_l1 N k) (s1.set s3.toNat s2) (i64.wrap (s2 + 1)) (i64.wrap (s3 + 1)))) else some (s2, s1))
def m_l_markIntS (N : Nat) (p0 : (List Int)) (p1 : Int) : Option (Int × (List Int)) :=
  m_l_markIntS_l1 N N p0 p1 0
def m_l_markIdsS_l1 (N : Nat) : Nat → (List TIds) → Int → Int → Option (Int × (List TIds))
  | 0, _, _, _ => none
  | k + 1, s1, s2, s3 =>
    (if decide (s3 < (s1.length : Int)) then ((idx s1 s3).bind fun x1 => ((m_l_markIntS N x1.L s2).bind fun x2 => ((m_l_markIdsS_l1 N k) (s1.set s3.toNat (⟨x2.2⟩ : TIds)) x2.1 (i64.wrap (s3 + 1))))) else some (s2, s1))
def m_l_markIdsS (N : Nat) (p0 : (List TIds)) (p1 : Int) : Option (Int × (List TIds)) :=
  m_l_markIdsS_l1 N N p0 p1 0
def m_l_markTokS_l1 (N : Nat) : Nat → (List TTok) → Int → Int → Option (Int × (List TTok))
  | 0, _, _, _ => none
  | k + 1, s1, s2, s3 =>
    (if decide (s3 < (s1.length : Int)) then ((idx s1 s3).bind fun x1 => ((m_l_markIntS N x1.Ids s2).bind fun x2 => ((m_l_markIntS N x1.Hits x2.1).bind fun x3 => ((m_l_markTokS_l1 N k) (s1.set s3.toNat (⟨x2.2, x3.2⟩ : TTok)) x3.1 (i64.wrap (s3 + 1)))))) else some (s2, s1))
def m_l_markTokS (N : Nat) (p0 : (List TTok)) (p1 : Int) : Option (Int × (List TTok)) :=
  m_l_markTokS_l1 N N p0 p1 0
def m_l_markLevelS_l1 (N : Nat) : Nat → (List TLevel) → Int → Int → Option (Int × (List TLevel))
  | 0, _, _, _ => none
  | k + 1, s1, s2, s3 =>
    (if decide (s3 < (s1.length : Int)) then ((idx s1 s3).bind fun x1 => ((m_l_markTokS N x1.Toks s2).bind fun x2 => ((m_l_markLevelS_l1 N k) (s1.set s3.toNat (⟨x2.2⟩ : TLevel)) x2.1 (i64.wrap (s3 + 1))))) else some (s2, s1))
def m_l_markLevelS (N : Nat) (p0 : (List TLevel)) (p1 : Int) : Option (Int × (List TLevel)) :=
  m_l_markLevelS_l1 N N p0 p1 0
def m_l_markRowS_l1 (N : Nat) : Nat → (List TRow) → Int → Int → Option (Int × (List TRow))
  | 0, _, _, _ => none
  | k + 1, s1, s2, s3 =>
    (if decide (s3 < (s1.length : Int)) then ((idx s1 s3).bind fun x1 => ((m_l_markLevelS N x1.Levels s2).bind fun x2 => ((m_l_markRowS_l1 N k) (s1.set s3.toNat (⟨x2.2⟩ : TRow)) x2.1 (i64.wrap (s3 + 1))))) else some (s2, s1))
def m_l_markRowS (N : Nat) (p0 : (List TRow)) (p1 : Int) : Option (Int × (List TRow)) :=
  m_l_markRowS_l1 N N p0 p1 0
def m_l_markMem (N : Nat) (p0 : TMem) (p1 : Int) : Option (Int × (List TIds) × (List TRow)) :=
  ((m_l_markIdsS N p0.Alphas p1).bind fun x1 => ((m_l_markRowS N p0.Rules x1.1).bind fun x2 => some (x2.1, x1.2, x2.2)))
def m_l_markValS_l1 (N : Nat) : Nat → (List TVal) → Int → Int → Option (Int × (List TVal))
  | 0, _, _, _ => none
  | k + 1, s1, s2, s3 =>
    (if decide (s3 < (s1.length : Int)) then ((idx s1 s3).bind fun x1 => ((m_l_markText N (i64.wrap ((i64.wrap (s2 + 1)) + 1))).bind fun x2 => ((m_l_markValS_l1 N k) (s1.set s3.toNat (⟨s2, i64.wrap (s2 + 1), x2⟩ : TVal)) (i64.wrap ((i64.wrap ((i64.wrap (s2 + 1)) + 1)) + 1)) (i64.wrap (s3 + 1))))) else some (s2, s1))
def m_l_markValS (N : Nat) (p0 : (List TVal)) (p1 : Int) : Option (Int × (List TVal)) :=
  m_l_markValS_l1 N N p0 p1 0
def m_l_markItemS_l1 (N : Nat) : Nat → (List TItem) → Int → Int → Option (Int × (List TItem))
  | 0, _, _, _ => none
  | k + 1, s1, s2, s3 =>
    (if decide (s3 < (s1.length : Int)) then ((idx s1 s3).bind fun x1 => ((m_l_markText N (i64.wrap (s2 + 1))).bind fun x2 => ((m_l_markValS N x1.F.Fields (i64.wrap ((i64.wrap (s2 + 1)) + 1))).bind fun x3 => ((m_l_markItemS_l1 N k) (s1.set s3.toNat (⟨s2, (⟨x2, x3.2⟩ : TFact)⟩ : TItem)) x3.1 (i64.wrap (s3 + 1)))))) else some (s2, s1))
def m_l_markItemS (N : Nat) (p0 : (List TItem)) (p1 : Int) : Option (Int × (List TItem)) :=
  m_l_markItemS_l1 N N p0 p1 0
def m_l_markStore (N : Nat) (p0 : TStore) (p1 : Int) : Option (Int × (List TItem)) :=
  ((m_l_markItemS N p0.Items p1).bind fun x1 => some (x1.1, x1.2))
def m_l_heldIntS_l1 (N : Nat) (p0 : (List Int)) : Nat → Int → Int → Option (Int)
  | 0, _, _ => none
  | k + 1, s1, s2 =>
    (if decide (s2 < (p0.length : Int)) then ((idx p0 s2).bind fun x1 => (if !decide (x1 = s1) then some (-1) else ((m_l_heldIntS_l1 N p0 k) (i64.wrap (s1 + 1)) (i64.wrap (s2 + 1))))) else some s1)
def m_l_heldIntS (N : Nat) (p0 : (List Int)) (p1 : Int) : Option (Int) :=
  m_l_heldIntS_l1 N p0 N p1 0
def m_l_heldIdsS_l1 (N : Nat) (p0 : (List TIds)) : Nat → Int → Int → Option (Int)
  | 0, _, _ => none
  | k + 1, s1, s2 =>
    (if decide (s2 < (p0.length : Int)) then ((idx p0 s2).bind fun x1 => ((m_l_heldIntS N x1.L s1).bind fun x2 => (if decide (x2 < 0) then some (-1) else ((m_l_heldIdsS_l1 N p0 k) x2 (i64.wrap (s2 + 1)))))) else some s1)
def m_l_heldIdsS (N : Nat) (p0 : (List TIds)) (p1 : Int) : Option (Int) :=
  m_l_heldIdsS_l1 N p0 N p1 0
def m_l_heldTokS_l1 (N : Nat) (p0 : (List TTok)) : Nat → Int → Int → Option (Int)
  | 0, _, _ => none
  | k + 1, s1, s2 =>
    (if decide (s2 < (p0.length : Int)) then ((idx p0 s2).bind fun x1 => ((m_l_heldIntS N x1.Ids s1).bind fun x2 => (if decide (x2 < 0) then some (-1) else ((idx p0 s2).bind fun x3 => ((m_l_heldIntS N x3.Hits x2).bind fun x4 => (if decide (x4 < 0) then some (-1) else ((m_l_heldTokS_l1 N p0 k) x4 (i64.wrap (s2 + 1))))))))) else some s1)
def m_l_heldTokS (N : Nat) (p0 : (List TTok)) (p1 : Int) : Option (Int) :=
  m_l_heldTokS_l1 N p0 N p1 0
def m_l_heldLevelS_l1 (N : Nat) (p0 : (List TLevel)) : Nat → Int → Int → Option (Int)
  | 0, _, _ => none
  | k + 1, s1, s2 =>
    (if decide (s2 < (p0.length : Int)) then ((idx p0 s2).bind fun x1 => ((m_l_heldTokS N x1.Toks s1).bind fun x2 => (if decide (x2 < 0) then some (-1) else ((m_l_heldLevelS_l1 N p0 k) x2 (i64.wrap (s2 + 1)))))) else some s1)
def m_l_heldLevelS (N : Nat) (p0 : (List TLevel)) (p1 : Int) : Option (Int) :=
  m_l_heldLevelS_l1 N p0 N p1 0
def m_l_heldRowS_l1 (N : Nat) (p0 : (List TRow)) : Nat → Int → Int → Option (Int)
  | 0, _, _ => none
  | k + 1, s1, s2 =>
    (if decide (s2 < (p0.length : Int)) then ((idx p0 s2).bind fun x1 => ((m_l_heldLevelS N x1.Levels s1).bind fun x2 => (if decide (x2 < 0) then some (-1) else ((m_l_heldRowS_l1 N p0 k) x2 (i64.wrap (s2 + 1)))))) else some s1)
def m_l_heldRowS (N : Nat) (p0 : (List TRow)) (p1 : Int) : Option (Int) :=
  m_l_heldRowS_l1 N p0 N p1 0
def m_l_heldMem (N : Nat) (p0 : TMem) (p1 : Int) : Option (Int) :=
  ((m_l_heldIdsS N p0.Alphas p1).bind fun x1 => (if decide (x1 < 0) then some (-1) else ((m_l_heldRowS N p0.Rules x1).bind fun x2 => (if decide (x2 < 0) then some (-1) else some x2))))
def m_i_isSmall (N : Nat) (p0 : Int) : Option (Bool) :=
  ((if decide (97 ≤ p0) then some (decide (p0 ≤ 122)) else some false).bind fun b1 => some b1)
def m_i_isDigit (N : Nat) (p0 : Int) : Option (Bool) :=
  ((if decide (48 ≤ p0) then some (decide (p0 ≤ 57)) else some false).bind fun b1 => some b1)
def m_i_isWordByte (N : Nat) (p0 : Int) : Option (Bool) :=
  ((m_i_isSmall N p0).bind fun x1 => ((if x1 then some true else ((m_i_isDigit N p0).bind fun x2 => some x2)).bind fun b1 => ((if b1 then some true else some (decide (p0 = 95))).bind fun b2 => some b2)))
def m_i_isWord_l1 (N : Nat) (p0 : ByteArray) : Nat → Int → Option (Bool)
  | 0, _ => none
  | k + 1, s1 =>
    (if decide (s1 < (p0.size : Int)) then ((idx p0.data.toList s1).bind fun y1 => ((m_i_isWordByte N (y1.toNat : Int)).bind fun x1 => (if !x1 then some false else ((m_i_isWord_l1 N p0 k) (i64.wrap (s1 + 1)))))) else some true)
def m_i_isWord (N : Nat) (p0 : ByteArray) (p1 : Int) : Option (Bool) :=
  (if decide (p1 < (p0.size : Int)) then some false else m_i_isWord_l1 N p0 N 0)
def m_i_NameOk (N : Nat) (p0 : ByteArray) : Option (Bool) :=
  ((if decide (0 < (p0.size : Int)) then ((idx p0.data.toList 0).bind fun y1 => ((m_i_isSmall N (y1.toNat : Int)).bind fun x1 => some x1)) else some false).bind fun b1 => ((if b1 then ((m_i_isWord N p0 12).bind fun x2 => some x2) else some false).bind fun b2 => some b2))
def m_i_inRange (N : Nat) (p0 : Int) (p1 : Int) (p2 : Int) : Option (Bool) :=
  ((if decide (p1 ≤ p0) then some (decide (p0 ≤ p2)) else some false).bind fun b1 => some b1)
def m_i_PosCount_l1 (N : Nat) (p0 : TRule) : Nat → Int → Int → Option (Int)
  | 0, _, _ => none
  | k + 1, s1, s2 =>
    (if decide (s2 < (p0.Pats.length : Int)) then ((idx p0.Pats s2).bind fun x1 => (if !x1.Not then ((m_i_PosCount_l1 N p0 k) (i64.wrap (s1 + 1)) (i64.wrap (s2 + 1))) else ((m_i_PosCount_l1 N p0 k) s1 (i64.wrap (s2 + 1))))) else some s1)
def m_i_PosCount (N : Nat) (p0 : TRule) : Option (Int) :=
  m_i_PosCount_l1 N p0 N 0 0
def m_i_ValOk (N : Nat) (p0 : TVal) : Option (Bool) :=
  (if decide (p0.K = 1) then ((m_i_inRange N p0.N (-1000000000) 1000000000).bind fun x1 => ((if x1 then some (seq p0.S (⟨#[]⟩ : ByteArray)) else some false).bind fun b1 => some b1)) else (if decide (p0.K = 2) then ((if decide (p0.N = 0) then ((m_i_isWord N p0.S 20).bind fun x2 => some x2) else some false).bind fun b2 => some b2) else some false))
def m_i_isLarge (N : Nat) (p0 : Int) : Option (Bool) :=
  ((if decide (65 ≤ p0) then some (decide (p0 ≤ 90)) else some false).bind fun b1 => some b1)
def m_i_isVar_l1 (N : Nat) (p0 : ByteArray) : Nat → Int → Option (Bool)
  | 0, _ => none
  | k + 1, s1 =>
    (if decide (s1 < (p0.size : Int)) then ((idx p0.data.toList s1).bind fun y2 => ((m_i_isWordByte N (y2.toNat : Int)).bind fun x2 => ((if !x2 then ((idx p0.data.toList s1).bind fun y3 => ((m_i_isLarge N (y3.toNat : Int)).bind fun x3 => some (!x3))) else some false).bind fun b3 => (if b3 then some false else ((m_i_isVar_l1 N p0 k) (i64.wrap (s1 + 1))))))) else some true)
def m_i_isVar (N : Nat) (p0 : ByteArray) : Option (Bool) :=
  ((if decide ((p0.size : Int) < 1) then some true else some (decide (12 < (p0.size : Int)))).bind fun b1 => ((if b1 then some true else ((idx p0.data.toList 0).bind fun y1 => ((m_i_isLarge N (y1.toNat : Int)).bind fun x1 => some (!x1)))).bind fun b2 => (if b2 then some false else m_i_isVar_l1 N p0 N 0)))
def m_i_ArgOk (N : Nat) (p0 : TArg) : Option (Bool) :=
  (if decide (p0.K = 1) then ((m_i_isVar N p0.S).bind fun x1 => ((if x1 then some (eqT_TVal p0.V (⟨0, 0, (⟨#[]⟩ : ByteArray)⟩ : TVal)) else some false).bind fun b1 => some b1)) else (if decide (p0.K = 2) then ((if seq p0.S (⟨#[]⟩ : ByteArray) then ((m_i_ValOk N p0.V).bind fun x2 => some x2) else some false).bind fun b2 => some b2) else (if decide (p0.K = 3) then ((if seq p0.S (⟨#[]⟩ : ByteArray) then some (eqT_TVal p0.V (⟨0, 0, (⟨#[]⟩ : ByteArray)⟩ : TVal)) else some false).bind fun b3 => some b3) else some false)))
def m_i_PatOk_l1 (N : Nat) (p0 : TPat) : Nat → Int → Option (Bool)
  | 0, _ => none
  | k + 1, s1 =>
    (if decide (s1 < (p0.Args.length : Int)) then ((idx p0.Args s1).bind fun x2 => ((m_i_ArgOk N x2).bind fun x3 => (if !x3 then some false else ((m_i_PatOk_l1 N p0 k) (i64.wrap (s1 + 1)))))) else some true)
def m_i_PatOk (N : Nat) (p0 : TPat) : Option (Bool) :=
  ((m_i_NameOk N p0.Kind).bind fun x1 => ((if !x1 then some true else some (decide (5 < (p0.Args.length : Int)))).bind fun b1 => (if b1 then some false else m_i_PatOk_l1 N p0 N 0)))
def m_i_patsOk_l1 (N : Nat) (p0 : TRule) : Nat → Int → Option (Bool)
  | 0, _ => none
  | k + 1, s1 =>
    (if decide (s1 < (p0.Pats.length : Int)) then ((idx p0.Pats s1).bind fun x4 => ((m_i_PatOk N x4).bind fun x5 => ((if !x5 then some true else ((m_i_PosCount N p0).bind fun x6 => some (x4.Not != (decide (x6 ≤ s1))))).bind fun b2 => (if b2 then some false else ((m_i_patsOk_l1 N p0 k) (i64.wrap (s1 + 1))))))) else some true)
def m_i_patsOk (N : Nat) (p0 : TRule) : Option (Bool) :=
  ((m_i_inRange N (p0.Pats.length : Int) 1 6).bind fun x1 => ((if !x1 then some true else ((m_i_PosCount N p0).bind fun x2 => ((m_i_inRange N x2 1 3).bind fun x3 => some (!x3)))).bind fun b1 => (if b1 then some false else m_i_patsOk_l1 N p0 N 0)))
def m_i_isTerm (N : Nat) (p0 : TArg) : Option (Bool) :=
  ((if !decide (p0.K = 3) then ((m_i_ArgOk N p0).bind fun x1 => some x1) else some false).bind fun b1 => some b1)
def m_i_CondOk (N : Nat) (p0 : TCond) : Option (Bool) :=
  ((m_i_inRange N p0.Op 1 3).bind fun x1 => ((if x1 then ((m_i_isTerm N p0.L).bind fun x2 => some x2) else some false).bind fun b1 => ((if b1 then ((m_i_isTerm N p0.R).bind fun x3 => some x3) else some false).bind fun b2 => some b2)))
def m_i_ExprOk_j1 (N : Nat) (p0 : TExpr) (s1 : Bool) : Option (Bool) :=
  (if s1 then ((m_i_isTerm N p0.L).bind fun x2 => ((if x2 then ((m_i_isTerm N p0.R).bind fun x3 => some x3) else some false).bind fun b2 => some b2)) else some false)
def m_i_ExprOk (N : Nat) (p0 : TExpr) : Option (Bool) :=
  (if seq p0.Op (⟨#[]⟩ : ByteArray) then ((m_i_isTerm N p0.L).bind fun x1 => ((if x1 then some (eqT_TArg p0.R (⟨0, (⟨#[]⟩ : ByteArray), (⟨0, 0, (⟨#[]⟩ : ByteArray)⟩ : TVal)⟩ : TArg)) else some false).bind fun b1 => some b1)) else (if seq p0.Op (⟨#[43]⟩ : ByteArray) then m_i_ExprOk_j1 N p0 (seq p0.Op (⟨#[43]⟩ : ByteArray)) else m_i_ExprOk_j1 N p0 (seq p0.Op (⟨#[45]⟩ : ByteArray))))
def m_i_argsOk_l1 (N : Nat) (p0 : TAct) : Nat → Int → Option (Bool)
  | 0, _ => none
  | k + 1, s1 =>
    (if decide (s1 < (p0.Args.length : Int)) then ((idx p0.Args s1).bind fun x2 => ((m_i_ExprOk N x2).bind fun x3 => (if !x3 then some false else ((m_i_argsOk_l1 N p0 k) (i64.wrap (s1 + 1)))))) else some true)
def m_i_argsOk (N : Nat) (p0 : TAct) : Option (Bool) :=
  ((m_i_NameOk N p0.Name).bind fun x1 => ((if !x1 then some true else some (decide (5 < (p0.Args.length : Int)))).bind fun b1 => (if b1 then some false else m_i_argsOk_l1 N p0 N 0)))
def m_i_isUndo (N : Nat) (p0 : ByteArray) : Option (Bool) :=
  ((if seq p0 (⟨#[]⟩ : ByteArray) then some true else ((m_i_NameOk N p0).bind fun x1 => some x1)).bind fun b1 => some b1)
def m_i_ActOk_j1 (N : Nat) (p0 : TAct) (b1 : Bool) (s1 : Bool) : Option (Bool) :=
  (if s1 then ((if b1 then some (decide (p0.N = 0)) else some false).bind fun b10 => ((if b10 then some (seq p0.Undo (⟨#[]⟩ : ByteArray)) else some false).bind fun b11 => some b11)) else some false)
def m_i_ActOk (N : Nat) (p0 : TAct) : Option (Bool) :=
  ((if seq p0.Name (⟨#[]⟩ : ByteArray) then some (decide ((p0.Args.length : Int) = 0)) else some false).bind fun b1 => (if decide (p0.Kind = 1) then ((m_i_argsOk N p0).bind fun x1 => ((if x1 then some (decide (p0.N = 0)) else some false).bind fun b2 => ((if b2 then some (seq p0.Undo (⟨#[]⟩ : ByteArray)) else some false).bind fun b3 => some b3))) else (if decide (p0.Kind = 2) then ((if b1 then ((m_i_inRange N p0.N 0 7).bind fun x2 => some x2) else some false).bind fun b4 => ((if b4 then some (seq p0.Undo (⟨#[]⟩ : ByteArray)) else some false).bind fun b5 => some b5)) else (if decide (p0.Kind = 3) then ((m_i_argsOk N p0).bind fun x3 => ((if x3 then some (decide (p0.N = 0)) else some false).bind fun b6 => ((if b6 then ((m_i_isUndo N p0.Undo).bind fun x4 => some x4) else some false).bind fun b7 => some b7))) else (if decide (p0.Kind = 4) then ((m_i_argsOk N p0).bind fun x5 => ((if x5 then ((m_i_inRange N p0.N 0 100000).bind fun x6 => some x6) else some false).bind fun b8 => ((if b8 then some (seq p0.Undo (⟨#[]⟩ : ByteArray)) else some false).bind fun b9 => some b9))) else (if decide (p0.Kind = 5) then m_i_ActOk_j1 N p0 b1 (decide (p0.Kind = 5)) else m_i_ActOk_j1 N p0 b1 (decide (p0.Kind = 6))))))))
def m_sl_Index_Sstring_string_l1 (N : Nat) (p0 : (List ByteArray)) (p1 : ByteArray) : Nat → Int → Option (Int)
  | 0, _ => none
  | k + 1, s1 =>
    (if decide (s1 < (p0.length : Int)) then ((idx p0 s1).bind fun x1 => (if seq p1 x1 then some s1 else ((m_sl_Index_Sstring_string_l1 N p0 p1 k) (i64.wrap (s1 + 1))))) else some (-1))
def m_sl_Index_Sstring_string (N : Nat) (p0 : (List ByteArray)) (p1 : ByteArray) : Option (Int) :=
  m_sl_Index_Sstring_string_l1 N p0 p1 N 0
def m_sl_Contains_Sstring_string (N : Nat) (p0 : (List ByteArray)) (p1 : ByteArray) : Option (Bool) :=
  ((m_sl_Index_Sstring_string N p0 p1).bind fun x1 => some (decide (0 ≤ x1)))
def m_i_addOnce (N : Nat) (p0 : (List ByteArray)) (p1 : ByteArray) : Option ((List ByteArray)) :=
  ((m_sl_Contains_Sstring_string N p0 p1).bind fun x1 => (if x1 then some p0 else ((app p0 ([p1] : List ByteArray)).bind fun x2 => some x2)))
def m_i_addVars_l1 (N : Nat) (p1 : (List TArg)) : Nat → (List ByteArray) → Int → Option ((List ByteArray))
  | 0, _, _ => none
  | k + 1, s1, s2 =>
    (if decide (s2 < (p1.length : Int)) then ((idx p1 s2).bind fun x1 => (if decide (x1.K = 1) then ((m_i_addOnce N s1 x1.S).bind fun x2 => ((m_i_addVars_l1 N p1 k) x2 (i64.wrap (s2 + 1)))) else ((m_i_addVars_l1 N p1 k) s1 (i64.wrap (s2 + 1))))) else some s1)
def m_i_addVars (N : Nat) (p0 : (List ByteArray)) (p1 : (List TArg)) : Option ((List ByteArray)) :=
  m_i_addVars_l1 N p1 N p0 0
def m_i_PosVars_l1 (N : Nat) (p0 : TRule) : Nat → (List ByteArray) → Int → Option ((List ByteArray))
  | 0, _, _ => none
  | k + 1, s1, s2 =>
    (if decide (s2 < (p0.Pats.length : Int)) then ((idx p0.Pats s2).bind fun x1 => (if !x1.Not then ((m_i_addVars N s1 x1.Args).bind fun x2 => ((m_i_PosVars_l1 N p0 k) x2 (i64.wrap (s2 + 1)))) else ((m_i_PosVars_l1 N p0 k) s1 (i64.wrap (s2 + 1))))) else some s1)
def m_i_PosVars (N : Nat) (p0 : TRule) : Option ((List ByteArray)) :=
  m_i_PosVars_l1 N p0 N ([] : List ByteArray) 0
def m_i_usedVars_l3 (N : Nat) (s4 : Int) (K2 : (List ByteArray) → Int → Option ((List ByteArray))) (x3 : TAct) : Nat → (List ByteArray) → Int → Option ((List ByteArray))
  | 0, _, _ => none
  | k + 1, s5, s6 =>
    (if decide (s6 < (x3.Args.length : Int)) then ((idx x3.Args s6).bind fun x4 => ((m_i_addVars N s5 ([x4.L, x4.R] : List TArg)).bind fun x5 => ((m_i_usedVars_l3 N s4 K2 x3 k) x5 (i64.wrap (s6 + 1))))) else (K2 s5 (i64.wrap (s4 + 1))))
def m_i_usedVars_l2 (N : Nat) (p0 : TRule) : Nat → (List ByteArray) → Int → Option ((List ByteArray))
  | 0, _, _ => none
  | k + 1, s3, s4 =>
    (if decide (s4 < (p0.Acts.length : Int)) then ((idx p0.Acts s4).bind fun x3 => m_i_usedVars_l3 N s4 (m_i_usedVars_l2 N p0 k) x3 N s3 0) else some s3)
def m_i_usedVars_l1 (N : Nat) (p0 : TRule) : Nat → (List ByteArray) → Int → Option ((List ByteArray))
  | 0, _, _ => none
  | k + 1, s1, s2 =>
    (if decide (s2 < (p0.Conds.length : Int)) then ((idx p0.Conds s2).bind fun x1 => ((m_i_addVars N s1 ([x1.L, x1.R] : List TArg)).bind fun x2 => ((m_i_usedVars_l1 N p0 k) x2 (i64.wrap (s2 + 1))))) else m_i_usedVars_l2 N p0 N s1 0)
def m_i_usedVars (N : Nat) (p0 : TRule) : Option ((List ByteArray)) :=
  m_i_usedVars_l1 N p0 N ([] : List ByteArray) 0
def m_i_RuleOk_l3 (N : Nat) (x10 : (List ByteArray)) (x11 : (List ByteArray)) : Nat → Int → Option (Bool)
  | 0, _ => none
  | k + 1, s3 =>
    (if decide (s3 < (x11.length : Int)) then ((idx x11 s3).bind fun x12 => ((m_sl_Contains_Sstring_string N x10 x12).bind fun x13 => (if !x13 then some false else ((m_i_RuleOk_l3 N x10 x11 k) (i64.wrap (s3 + 1)))))) else some true)
def m_i_RuleOk_l2 (N : Nat) (p0 : TRule) : Nat → Int → Option (Bool)
  | 0, _ => none
  | k + 1, s2 =>
    (if decide (s2 < (p0.Acts.length : Int)) then ((idx p0.Acts s2).bind fun x7 => ((m_i_ActOk N x7).bind fun x8 => ((if !x8 then some true else ((if decide (x7.Kind = 2) then ((m_i_PosCount N p0).bind fun x9 => some (decide (x9 ≤ x7.N))) else some false).bind fun b5 => some b5)).bind fun b4 => (if b4 then some false else ((m_i_RuleOk_l2 N p0 k) (i64.wrap (s2 + 1))))))) else ((m_i_PosVars N p0).bind fun x10 => ((m_i_usedVars N p0).bind fun x11 => m_i_RuleOk_l3 N x10 x11 N 0)))
def m_i_RuleOk_l1 (N : Nat) (p0 : TRule) : Nat → Int → Option (Bool)
  | 0, _ => none
  | k + 1, s1 =>
    (if decide (s1 < (p0.Conds.length : Int)) then ((idx p0.Conds s1).bind fun x5 => ((m_i_CondOk N x5).bind fun x6 => (if !x6 then some false else ((m_i_RuleOk_l1 N p0 k) (i64.wrap (s1 + 1)))))) else m_i_RuleOk_l2 N p0 N 0)
def m_i_RuleOk (N : Nat) (p0 : TRule) : Option (Bool) :=
  ((m_i_NameOk N p0.Name).bind fun x1 => ((if !x1 then some true else ((m_i_inRange N p0.Sal (-100) 100).bind fun x2 => some (!x2))).bind fun b1 => ((if b1 then some true else ((m_i_patsOk N p0).bind fun x3 => some (!x3))).bind fun b2 => (if b2 then some false else ((if decide (6 < (p0.Conds.length : Int)) then some true else ((m_i_inRange N (p0.Acts.length : Int) 1 6).bind fun x4 => some (!x4))).bind fun b3 => (if b3 then some false else m_i_RuleOk_l1 N p0 N 0))))))
def m_sl_IndexFunc_Si_Rule_i_Rule_l1 (N : Nat) (p0 : (List TRule)) (p1 : TRule → Option (Bool)) : Nat → Int → Option (Int)
  | 0, _ => none
  | k + 1, s1 =>
    (if decide (s1 < (p0.length : Int)) then ((idx p0 s1).bind fun x1 => ((p1 x1).bind fun x2 => (if x2 then some s1 else ((m_sl_IndexFunc_Si_Rule_i_Rule_l1 N p0 p1 k) (i64.wrap (s1 + 1)))))) else some (-1))
def m_sl_IndexFunc_Si_Rule_i_Rule (N : Nat) (p0 : (List TRule)) (p1 : TRule → Option (Bool)) : Option (Int) :=
  m_sl_IndexFunc_Si_Rule_i_Rule_l1 N p0 p1 N 0
def m_i_RuleAt_c1 (N : Nat) (p0 : TRule) (c0 : ByteArray) : Option (Bool) :=
  some (seq p0.Name c0)
def m_i_RuleAt (N : Nat) (p0 : TDef) (p1 : ByteArray) : Option (Int) :=
  ((m_sl_IndexFunc_Si_Rule_i_Rule N p0.Rules (fun a0 => m_i_RuleAt_c1 N a0 p1)).bind fun x1 => some x1)
def m_i_DefOk_l1 (N : Nat) (p0 : TDef) : Nat → Int → Option (Bool)
  | 0, _ => none
  | k + 1, s1 =>
    (if decide (s1 < (p0.Rules.length : Int)) then ((idx p0.Rules s1).bind fun x3 => ((m_i_RuleOk N x3).bind fun x4 => ((if !x4 then some true else ((m_i_RuleAt N p0 x3.Name).bind fun x5 => some (!decide (x5 = s1)))).bind fun b2 => (if b2 then some false else ((m_i_DefOk_l1 N p0 k) (i64.wrap (s1 + 1))))))) else some true)
def m_i_DefOk (N : Nat) (p0 : TDef) : Option (Bool) :=
  ((m_i_NameOk N p0.Name).bind fun x1 => ((if !x1 then some true else ((m_i_inRange N (p0.Rules.length : Int) 1 12).bind fun x2 => some (!x2))).bind fun b1 => (if b1 then some false else m_i_DefOk_l1 N p0 N 0)))
def m_i_FactOk_l1 (N : Nat) (p0 : TFact) : Nat → Int → Option (Bool)
  | 0, _ => none
  | k + 1, s1 =>
    (if decide (s1 < (p0.Fields.length : Int)) then ((idx p0.Fields s1).bind fun x2 => ((m_i_ValOk N x2).bind fun x3 => (if !x3 then some false else ((m_i_FactOk_l1 N p0 k) (i64.wrap (s1 + 1)))))) else some true)
def m_i_FactOk (N : Nat) (p0 : TFact) : Option (Bool) :=
  ((m_i_NameOk N p0.Kind).bind fun x1 => ((if !x1 then some true else some (decide (5 < (p0.Fields.length : Int)))).bind fun b1 => (if b1 then some false else m_i_FactOk_l1 N p0 N 0)))
def m_sl_Equal_Si_Val_i_Val_l1 (N : Nat) (p0 : (List TVal)) (p1 : (List TVal)) : Nat → Int → Option (Bool)
  | 0, _ => none
  | k + 1, s1 =>
    (if decide (s1 < (p0.length : Int)) then ((idx p0 s1).bind fun x1 => ((idx p1 s1).bind fun x2 => (if !(eqT_TVal x1 x2) then some false else ((m_sl_Equal_Si_Val_i_Val_l1 N p0 p1 k) (i64.wrap (s1 + 1)))))) else some true)
def m_sl_Equal_Si_Val_i_Val (N : Nat) (p0 : (List TVal)) (p1 : (List TVal)) : Option (Bool) :=
  (if !decide ((p0.length : Int) = (p1.length : Int)) then some false else m_sl_Equal_Si_Val_i_Val_l1 N p0 p1 N 0)
def m_i_SameFact (N : Nat) (p0 : TFact) (p1 : TFact) : Option (Bool) :=
  ((if seq p0.Kind p1.Kind then ((m_sl_Equal_Si_Val_i_Val N p0.Fields p1.Fields).bind fun x1 => some x1) else some false).bind fun b1 => some b1)
def m_i_StoreOk_l2 (N : Nat) (s1 : Int) (K1 : Int → Option (Bool)) (x2 : TItem) (x6 : (List TItem)) : Nat → Int → Option (Bool)
  | 0, _ => none
  | k + 1, s2 =>
    (if decide (s2 < (x6.length : Int)) then ((idx x6 s2).bind fun x7 => ((m_i_SameFact N x2.F x7.F).bind fun x8 => (if x8 then some false else ((m_i_StoreOk_l2 N s1 K1 x2 x6 k) (i64.wrap (s2 + 1)))))) else (K1 (i64.wrap (s1 + 1))))
def m_i_StoreOk_l1 (N : Nat) (p0 : TStore) : Nat → Int → Option (Bool)
  | 0, _ => none
  | k + 1, s1 =>
    (if decide (s1 < (p0.Items.length : Int)) then ((idx p0.Items s1).bind fun x2 => ((m_i_FactOk N x2.F).bind fun x3 => ((if !x3 then some true else ((m_i_inRange N x2.Id 1 (i64.wrap (p0.Next - 1))).bind fun x4 => some (!x4))).bind fun b2 => ((if b2 then some true else ((if decide (0 < s1) then ((idx p0.Items (i64.wrap (s1 - 1))).bind fun x5 => some (decide (x2.Id ≤ x5.Id))) else some false).bind fun b4 => some b4)).bind fun b3 => (if b3 then some false else ((ssl p0.Items 0 s1).bind fun x6 => m_i_StoreOk_l2 N s1 (m_i_StoreOk_l1 N p0 k) x2 x6 N 0)))))) else some true)
def m_i_StoreOk (N : Nat) (p0 : TStore) : Option (Bool) :=
  ((if decide (40 < (p0.Items.length : Int)) then some true else ((m_i_inRange N p0.Next 1 1000000).bind fun x1 => some (!x1))).bind fun b1 => (if b1 then some false else m_i_StoreOk_l1 N p0 N 0))
def m_sl_Clone_Si_Val_i_Val (N : Nat) (p0 : (List TVal)) : Option ((List TVal)) :=
  ((app ([] : List TVal) p0).bind fun x1 => some x1)
def m_i_copyFact (N : Nat) (p0 : TFact) : Option (TFact) :=
  ((m_sl_Clone_Si_Val_i_Val N p0.Fields).bind fun x1 => some (⟨p0.Kind, x1⟩ : TFact))
def m_i_FactOf_l1 (N : Nat) (p0 : TStore) (p1 : Int) : Nat → Int → Option (TFact × Bool)
  | 0, _ => none
  | k + 1, s1 =>
    (if decide (s1 < (p0.Items.length : Int)) then ((idx p0.Items s1).bind fun x1 => (if decide (x1.Id = p1) then ((m_i_copyFact N x1.F).bind fun x2 => some (x2, true)) else ((m_i_FactOf_l1 N p0 p1 k) (i64.wrap (s1 + 1))))) else some ((⟨(⟨#[]⟩ : ByteArray), []⟩ : TFact), false))
def m_i_FactOf (N : Nat) (p0 : TStore) (p1 : Int) : Option (TFact × Bool) :=
  m_i_FactOf_l1 N p0 p1 N 0
def m_i_pats_l1 (N : Nat) (p0 : TRule) (p1 : Bool) : Nat → (List TPat) → Int → Option ((List TPat))
  | 0, _, _ => none
  | k + 1, s1, s2 =>
    (if decide (s2 < (p0.Pats.length : Int)) then ((idx p0.Pats s2).bind fun x1 => (if (x1.Not == p1) then ((app s1 ([x1] : List TPat)).bind fun x2 => ((m_i_pats_l1 N p0 p1 k) x2 (i64.wrap (s2 + 1)))) else ((m_i_pats_l1 N p0 p1 k) s1 (i64.wrap (s2 + 1))))) else some s1)
def m_i_pats (N : Nat) (p0 : TRule) (p1 : Bool) : Option ((List TPat)) :=
  m_i_pats_l1 N p0 p1 N ([] : List TPat) 0
def m_i_growerOf (N : Nat) (p0 : TDef) (p1 : TNet) (p2 : TMem) (p3 : TStore) (p4 : Int) (p5 : Int) : Option (Tgrower) :=
  ((idx p0.Rules p5).bind fun x1 => ((idx p1.Chains p5).bind fun x2 => ((m_i_pats N x1 false).bind fun x3 => ((m_i_pats N x1 true).bind fun x4 => some (⟨x3, x4, x2, p2.Alphas, p3, p4⟩ : Tgrower)))))
def m_sl_Clone_Si_Bind_i_Bind (N : Nat) (p0 : (List TBind)) : Option ((List TBind)) :=
  ((app ([] : List TBind) p0).bind fun x1 => some x1)
def m_i_BindOf_l1 (N : Nat) (p0 : (List TBind)) (p1 : ByteArray) : Nat → Int → Option (TVal × Bool)
  | 0, _ => none
  | k + 1, s1 =>
    (if decide (s1 < (p0.length : Int)) then ((idx p0 s1).bind fun x1 => (if seq x1.Name p1 then some (x1.V, true) else ((m_i_BindOf_l1 N p0 p1 k) (i64.wrap (s1 + 1))))) else some ((⟨0, 0, (⟨#[]⟩ : ByteArray)⟩ : TVal), false))
def m_i_BindOf (N : Nat) (p0 : (List TBind)) (p1 : ByteArray) : Option (TVal × Bool) :=
  m_i_BindOf_l1 N p0 p1 N 0
def m_i_MatchPat_l1 (N : Nat) (p0 : TPat) (p1 : TFact) (p2 : (List TBind)) : Nat → (List TBind) → Int → Option ((List TBind) × Bool)
  | 0, _, _ => none
  | k + 1, s1, s2 =>
    (if decide (s2 < (p0.Args.length : Int)) then ((idx p0.Args s2).bind fun x3 => ((idx p1.Fields s2).bind fun x4 => (if decide (x3.K = 2) then (if !(eqT_TVal x3.V x4) then ((m_sl_Clone_Si_Bind_i_Bind N p2).bind fun x5 => some (x5, false)) else ((m_i_MatchPat_l1 N p0 p1 p2 k) s1 (i64.wrap (s2 + 1)))) else (if decide (x3.K = 1) then ((m_i_BindOf N s1 x3.S).bind fun x6 => ((if x6.2 then some (!(eqT_TVal x6.1 x4)) else some false).bind fun b2 => (if b2 then ((m_sl_Clone_Si_Bind_i_Bind N p2).bind fun x7 => some (x7, false)) else (if !x6.2 then ((app s1 ([(⟨x3.S, x4⟩ : TBind)] : List TBind)).bind fun x8 => ((m_i_MatchPat_l1 N p0 p1 p2 k) x8 (i64.wrap (s2 + 1)))) else ((m_i_MatchPat_l1 N p0 p1 p2 k) s1 (i64.wrap (s2 + 1))))))) else ((m_i_MatchPat_l1 N p0 p1 p2 k) s1 (i64.wrap (s2 + 1))))))) else some (s1, true))
def m_i_MatchPat (N : Nat) (p0 : TPat) (p1 : TFact) (p2 : (List TBind)) : Option ((List TBind) × Bool) :=
  ((if !seq p1.Kind p0.Kind then some true else some (!decide ((p1.Fields.length : Int) = (p0.Args.length : Int)))).bind fun b1 => (if b1 then ((m_sl_Clone_Si_Bind_i_Bind N p2).bind fun x1 => some (x1, false)) else ((m_sl_Clone_Si_Bind_i_Bind N p2).bind fun x2 => m_i_MatchPat_l1 N p0 p1 p2 N x2 0)))
def m_i_bindsOf_l1 (N : Nat) (p0 : (List TPat)) (p1 : TStore) (p2 : (List Int)) : Nat → (List TBind) → Int → Option ((List TBind) × Bool)
  | 0, _, _ => none
  | k + 1, s1, s2 =>
    (if decide (s2 < (p2.length : Int)) then ((idx p2 s2).bind fun x1 => ((m_i_FactOf N p1 x1).bind fun x2 => (if !x2.2 then some ([], false) else ((idx p0 s2).bind fun x3 => ((m_i_MatchPat N x3 x2.1 s1).bind fun x4 => (if !x4.2 then some ([], false) else ((m_i_bindsOf_l1 N p0 p1 p2 k) x4.1 (i64.wrap (s2 + 1))))))))) else some (s1, true))
def m_i_bindsOf (N : Nat) (p0 : (List TPat)) (p1 : TStore) (p2 : (List Int)) : Option ((List TBind) × Bool) :=
  m_i_bindsOf_l1 N p0 p1 p2 N ([] : List TBind) 0
def m_i_grower_count_l2 (N : Nat) (p0 : Tgrower) (p2 : Int) (x1 : TFact × Bool) (s1 : (List TTok)) (s2 : Int) (K1 : (List TTok) → Int → Option ((List TTok))) (x2 : TTok) (x3 : (List TBind) × Bool) : Nat → (List Int) → Int → Option ((List TTok))
  | 0, _, _ => none
  | k + 1, s3, s4 =>
    (if decide (s4 < (p0.neg.length : Int)) then ((idx p0.neg s4).bind fun x4 => ((m_i_MatchPat N x4 x1.1 x3.1).bind fun x5 => (if x5.2 then ((idx s3 s4).bind fun x6 => ((idx s3 s4).bind fun x7 => ((m_i_grower_count_l2 N p0 p2 x1 s1 s2 K1 x2 x3 k) (s3.set s4.toNat (i64.wrap (x6 + p2))) (i64.wrap (s4 + 1))))) else ((m_i_grower_count_l2 N p0 p2 x1 s1 s2 K1 x2 x3 k) s3 (i64.wrap (s4 + 1)))))) else (K1 (s1.set s2.toNat (⟨x2.Ids, s3⟩ : TTok)) (i64.wrap (s2 + 1))))
def m_i_grower_count_l1 (N : Nat) (p0 : Tgrower) (p1 : (List TTok)) (p2 : Int) (x1 : TFact × Bool) : Nat → (List TTok) → Int → Option ((List TTok))
  | 0, _, _ => none
  | k + 1, s1, s2 =>
    (if decide (s2 < (p1.length : Int)) then ((idx s1 s2).bind fun x2 => ((m_i_bindsOf N p0.pos p0.s x2.Ids).bind fun x3 => (if !x3.2 then ((m_i_grower_count_l1 N p0 p1 p2 x1 k) s1 (i64.wrap (s2 + 1))) else m_i_grower_count_l2 N p0 p2 x1 s1 s2 (m_i_grower_count_l1 N p0 p1 p2 x1 k) x2 x3 N x2.Hits 0))) else some s1)
def m_i_grower_count (N : Nat) (p0 : Tgrower) (p1 : (List TTok)) (p2 : Int) : Option ((List TTok)) :=
  ((m_i_FactOf N p0.s p0.id).bind fun x1 => m_i_grower_count_l1 N p0 p1 p2 x1 N p1 0)
def m_i_Passes_l1 (N : Nat) (p0 : TAlpha) (p1 : TFact) : Nat → Int → Option (Bool)
  | 0, _ => none
  | k + 1, s1 =>
    (if decide (s1 < (p0.At.length : Int)) then ((idx p0.At s1).bind fun x1 => ((if decide (x1 < 0) then some true else some (decide ((p1.Fields.length : Int) ≤ x1))).bind fun b2 => ((if b2 then some true else some (decide ((p0.Consts.length : Int) ≤ s1))).bind fun b3 => ((if b3 then some true else ((idx p1.Fields x1).bind fun x2 => ((idx p0.Consts s1).bind fun x3 => some (!(eqT_TVal x2 x3))))).bind fun b4 => (if b4 then some false else ((m_i_Passes_l1 N p0 p1 k) (i64.wrap (s1 + 1)))))))) else some true)
def m_i_Passes (N : Nat) (p0 : TAlpha) (p1 : TFact) : Option (Bool) :=
  ((if !seq p1.Kind p0.Kind then some true else some (!decide ((p1.Fields.length : Int) = p0.N))).bind fun b1 => (if b1 then some false else m_i_Passes_l1 N p0 p1 N 0))
def m_sl_Clone_Si_Tok_i_Tok (N : Nat) (p0 : (List TTok)) : Option ((List TTok)) :=
  ((app ([] : List TTok) p0).bind fun x1 => some x1)
def m_sl_Clone_Si_Tok_i_Tok_od (N : Nat) (p0 : (List TTok)) : Option ((List TTok)) :=
  ((app ([] : List TTok) p0).bind fun x1 => some x1)
def m_sl_Clone_Sint_int (N : Nat) (p0 : (List Int)) : Option ((List Int)) :=
  ((app ([] : List Int) p0).bind fun x1 => some x1)
def m_i_hitsIn_l1 (N : Nat) (p0 : TPat) (p1 : TStore) (p2 : (List TBind)) : Nat → Int → Int → Option (Int)
  | 0, _, _ => none
  | k + 1, s1, s2 =>
    (if decide (s2 < (p1.Items.length : Int)) then ((idx p1.Items s2).bind fun x1 => ((m_i_MatchPat N p0 x1.F p2).bind fun x2 => (if x2.2 then ((m_i_hitsIn_l1 N p0 p1 p2 k) (i64.wrap (s1 + 1)) (i64.wrap (s2 + 1))) else ((m_i_hitsIn_l1 N p0 p1 p2 k) s1 (i64.wrap (s2 + 1)))))) else some s1)
def m_i_hitsIn (N : Nat) (p0 : TPat) (p1 : TStore) (p2 : (List TBind)) : Option (Int) :=
  m_i_hitsIn_l1 N p0 p1 p2 N 0 0
def m_i_grower_longer_j2 (N : Nat) (s1 : (List TTok)) (s2 : Int) (K1 : (List TTok) → Int → Option ((List TTok))) (x3 : (List Int)) (s3 : (List Int)) : Option ((List TTok)) :=
  ((app s1 ([(⟨x3, s3⟩ : TTok)] : List TTok)).bind fun x5 => (K1 x5 (i64.wrap (s2 + 1))))
def m_i_grower_longer_l3 (N : Nat) (p0 : Tgrower) (s1 : (List TTok)) (s2 : Int) (K1 : (List TTok) → Int → Option ((List TTok))) (x3 : (List Int)) (x4 : (List TBind) × Bool) : Nat → (List Int) → Int → Option ((List TTok))
  | 0, _, _ => none
  | k + 1, s4, s5 =>
    (if decide (s5 < (p0.neg.length : Int)) then ((idx p0.neg s5).bind fun x6 => ((m_i_hitsIn N x6 p0.s x4.1).bind fun x7 => ((app s4 ([x7] : List Int)).bind fun x8 => ((m_i_grower_longer_l3 N p0 s1 s2 K1 x3 x4 k) x8 (i64.wrap (s5 + 1)))))) else m_i_grower_longer_j2 N s1 s2 K1 x3 s4)
def m_i_grower_longer_l1 (N : Nat) (p0 : Tgrower) (p1 : (List Int)) (p2 : (List Int)) : Nat → (List TTok) → Int → Option ((List TTok))
  | 0, _, _ => none
  | k + 1, s1, s2 =>
    (if decide (s2 < (p2.length : Int)) then ((idx p2 s2).bind fun x1 => ((m_sl_Clone_Sint_int N p1).bind fun x2 => ((app x2 ([x1] : List Int)).bind fun x3 => ((m_i_bindsOf N p0.pos p0.s x3).bind fun x4 => (if !x4.2 then ((m_i_grower_longer_l1 N p0 p1 p2 k) s1 (i64.wrap (s2 + 1))) else (if decide ((x3.length : Int) = (p0.pos.length : Int)) then m_i_grower_longer_l3 N p0 s1 s2 (m_i_grower_longer_l1 N p0 p1 p2 k) x3 x4 N ([] : List Int) 0 else m_i_grower_longer_j2 N s1 s2 (m_i_grower_longer_l1 N p0 p1 p2 k) x3 ([] : List Int))))))) else some s1)
def m_i_grower_longer (N : Nat) (p0 : Tgrower) (p1 : (List Int)) (p2 : (List Int)) : Option ((List TTok)) :=
  m_i_grower_longer_l1 N p0 p1 p2 N ([] : List TTok) 0
def m_i_grower_grow_j2 (N : Nat) (s1 : (List TLevel)) (s4 : Int) (K1 : (List TLevel) → (List TTok) → (List TTok) → Int → Option ((List TLevel))) (s5 : (List TTok)) : Option ((List TLevel)) :=
  ((idx s1 s4).bind fun x1 => ((m_sl_Clone_Si_Tok_i_Tok_od N x1.Toks).bind fun x2 => ((app x1.Toks s5).bind fun x3 => (K1 (s1.set s4.toNat (⟨x3⟩ : TLevel)) x2 s5 (i64.wrap (s4 + 1))))))
def m_i_grower_grow_l4 (N : Nat) (p0 : Tgrower) (s1 : (List TLevel)) (s3 : (List TTok)) (s4 : Int) (K1 : (List TLevel) → (List TTok) → (List TTok) → Int → Option ((List TLevel))) : Nat → (List TTok) → Int → Option ((List TLevel))
  | 0, _, _ => none
  | k + 1, s8, s9 =>
    (if decide (s9 < (s3.length : Int)) then ((idx s3 s9).bind fun x8 => ((idx p0.chain.Pos s4).bind fun x9 => ((idx p0.alphas x9).bind fun x10 => ((m_i_grower_longer N p0 x8.Ids x10.L).bind fun x11 => ((app s8 x11).bind fun x12 => ((m_i_grower_grow_l4 N p0 s1 s3 s4 K1 k) x12 (i64.wrap (s9 + 1)))))))) else m_i_grower_grow_j2 N s1 s4 K1 s8)
def m_i_grower_grow_l3 (N : Nat) (p0 : Tgrower) (s1 : (List TLevel)) (s2 : (List TTok)) (s3 : (List TTok)) (s4 : Int) (K1 : (List TLevel) → (List TTok) → (List TTok) → Int → Option ((List TLevel))) : Nat → (List TTok) → Int → Option ((List TLevel))
  | 0, _, _ => none
  | k + 1, s6, s7 =>
    (if decide (s7 < (s2.length : Int)) then ((idx s2 s7).bind fun x5 => ((m_i_grower_longer N p0 x5.Ids ([p0.id] : List Int)).bind fun x6 => ((app s6 x6).bind fun x7 => ((m_i_grower_grow_l3 N p0 s1 s2 s3 s4 K1 k) x7 (i64.wrap (s7 + 1)))))) else m_i_grower_grow_l4 N p0 s1 s3 s4 K1 N s6 0)
def m_i_grower_grow_l1 (N : Nat) (p0 : Tgrower) (p1 : (List TLevel)) : Nat → (List TLevel) → (List TTok) → (List TTok) → Int → Option ((List TLevel))
  | 0, _, _, _, _ => none
  | k + 1, s1, s2, s3, s4 =>
    (if decide (s4 < (p1.length : Int)) then (if decide (s4 = 0) then ((m_i_grower_longer N p0 [] ([p0.id] : List Int)).bind fun x4 => m_i_grower_grow_j2 N s1 s4 (m_i_grower_grow_l1 N p0 p1 k) x4) else m_i_grower_grow_l3 N p0 s1 s2 s3 s4 (m_i_grower_grow_l1 N p0 p1 k) N ([] : List TTok) 0) else some s1)
def m_i_grower_grow (N : Nat) (p0 : Tgrower) (p1 : (List TLevel)) : Option ((List TLevel)) :=
  m_i_grower_grow_l1 N p0 p1 N p1 ([] : List TTok) ([] : List TTok) 0
def m_i_addItem_l2 (N : Nat) (p0 : TDef) (p1 : TNet) (p2 : TMem) (p3 : TStore) (p4 : Int) (s1 : (List TIds)) : Nat → (List TRow) → Int → Option ((List TIds) × (List TRow))
  | 0, _, _ => none
  | k + 1, s3, s4 =>
    (if decide (s4 < (p2.Rules.length : Int)) then ((idx s3 s4).bind fun x6 => ((m_i_growerOf N p0 p1 (⟨s1, s3⟩ : TMem) p3 p4 s4).bind fun x7 => ((idx x6.Levels (i64.wrap ((x6.Levels.length : Int) - 1))).bind fun x8 => ((m_i_grower_count N x7 x8.Toks 1).bind fun x9 => ((m_i_grower_grow N x7 (x6.Levels.set (i64.wrap ((x6.Levels.length : Int) - 1)).toNat (⟨x9⟩ : TLevel))).bind fun x10 => ((m_i_addItem_l2 N p0 p1 p2 p3 p4 s1 k) (s3.set s4.toNat (⟨x10⟩ : TRow)) (i64.wrap (s4 + 1)))))))) else some (s1, s3))
def m_i_addItem_l1 (N : Nat) (p0 : TDef) (p1 : TNet) (p2 : TMem) (p3 : TStore) (p4 : Int) (x1 : TFact × Bool) : Nat → (List TIds) → Int → Option ((List TIds) × (List TRow))
  | 0, _, _ => none
  | k + 1, s1, s2 =>
    (if decide (s2 < (p1.Alphas.length : Int)) then ((idx p1.Alphas s2).bind fun x2 => ((m_i_Passes N x2 x1.1).bind fun x3 => (if x3 then ((idx s1 s2).bind fun x4 => ((app x4.L ([p4] : List Int)).bind fun x5 => ((m_i_addItem_l1 N p0 p1 p2 p3 p4 x1 k) (s1.set s2.toNat (⟨x5⟩ : TIds)) (i64.wrap (s2 + 1))))) else ((m_i_addItem_l1 N p0 p1 p2 p3 p4 x1 k) s1 (i64.wrap (s2 + 1)))))) else m_i_addItem_l2 N p0 p1 p2 p3 p4 s1 N p2.Rules 0)
def m_i_addItem (N : Nat) (p0 : TDef) (p1 : TNet) (p2 : TMem) (p3 : TStore) (p4 : Int) : Option ((List TIds) × (List TRow)) :=
  ((m_i_FactOf N p3 p4).bind fun x1 => m_i_addItem_l1 N p0 p1 p2 p3 p4 x1 N p2.Alphas 0)
def m_sl_Equal_Sint_int_l1 (N : Nat) (p0 : (List Int)) (p1 : (List Int)) : Nat → Int → Option (Bool)
  | 0, _ => none
  | k + 1, s1 =>
    (if decide (s1 < (p0.length : Int)) then ((idx p0 s1).bind fun x1 => ((idx p1 s1).bind fun x2 => (if !decide (x1 = x2) then some false else ((m_sl_Equal_Sint_int_l1 N p0 p1 k) (i64.wrap (s1 + 1)))))) else some true)
def m_sl_Equal_Sint_int (N : Nat) (p0 : (List Int)) (p1 : (List Int)) : Option (Bool) :=
  (if !decide ((p0.length : Int) = (p1.length : Int)) then some false else m_sl_Equal_Sint_int_l1 N p0 p1 N 0)
def m_i_SameAlpha (N : Nat) (p0 : TAlpha) (p1 : TAlpha) : Option (Bool) :=
  ((if seq p0.Kind p1.Kind then some (decide (p0.N = p1.N)) else some false).bind fun b1 => ((if b1 then ((m_sl_Equal_Si_Val_i_Val N p0.Consts p1.Consts).bind fun x1 => some x1) else some false).bind fun b2 => ((if b2 then ((m_sl_Equal_Sint_int N p0.At p1.At).bind fun x2 => some x2) else some false).bind fun b3 => some b3)))
def m_i_AlphaOf_l1 (N : Nat) (p0 : TPat) : Nat → (List TVal) → (List Int) → Int → Option (TAlpha)
  | 0, _, _, _ => none
  | k + 1, s1, s2, s3 =>
    (if decide (s3 < (p0.Args.length : Int)) then ((idx p0.Args s3).bind fun x1 => (if decide (x1.K = 2) then ((app s1 ([x1.V] : List TVal)).bind fun x2 => ((app s2 ([s3] : List Int)).bind fun x3 => ((m_i_AlphaOf_l1 N p0 k) x2 x3 (i64.wrap (s3 + 1))))) else ((m_i_AlphaOf_l1 N p0 k) s1 s2 (i64.wrap (s3 + 1))))) else some (⟨p0.Kind, (p0.Args.length : Int), s1, s2⟩ : TAlpha))
def m_i_AlphaOf (N : Nat) (p0 : TPat) : Option (TAlpha) :=
  m_i_AlphaOf_l1 N p0 N ([] : List TVal) ([] : List Int) 0
def m_i_Net_alphaAt_l1 (N : Nat) (p0 : TNet) (x1 : TAlpha) : Nat → Int → Option (Int × TNet)
  | 0, _ => none
  | k + 1, s1 =>
    (if decide (s1 < (p0.Alphas.length : Int)) then ((idx p0.Alphas s1).bind fun x2 => ((m_i_SameAlpha N x2 x1).bind fun x3 => (if x3 then some (s1, p0) else ((m_i_Net_alphaAt_l1 N p0 x1 k) (i64.wrap (s1 + 1)))))) else ((app p0.Alphas ([x1] : List TAlpha)).bind fun x4 => some (i64.wrap ((x4.length : Int) - 1), (⟨x4, p0.Chains⟩ : TNet))))
def m_i_Net_alphaAt (N : Nat) (p0 : TNet) (p1 : TPat) : Option (Int × TNet) :=
  ((m_i_AlphaOf N p1).bind fun x1 => m_i_Net_alphaAt_l1 N p0 x1 N 0)
def m_i_netIn_l2 (N : Nat) (s2 : (List TChain)) (s3 : Int) (K1 : (List TAlpha) → (List TChain) → Int → Option (TNet)) (x1 : TRule) : Nat → (List TAlpha) → (List Int) → (List Int) → Int → Option (TNet)
  | 0, _, _, _, _ => none
  | k + 1, s4, s5, s6, s7 =>
    (if decide (s7 < (x1.Pats.length : Int)) then ((idx x1.Pats s7).bind fun x2 => ((m_i_Net_alphaAt N (⟨s4, s2⟩ : TNet) x2).bind fun x3 => (if x2.Not then ((app s5 ([x3.1] : List Int)).bind fun x4 => ((m_i_netIn_l2 N s2 s3 K1 x1 k) x3.2.Alphas x4 s6 (i64.wrap (s7 + 1)))) else ((app s6 ([x3.1] : List Int)).bind fun x5 => ((m_i_netIn_l2 N s2 s3 K1 x1 k) x3.2.Alphas s5 x5 (i64.wrap (s7 + 1))))))) else ((app s2 ([(⟨s6, s5⟩ : TChain)] : List TChain)).bind fun x6 => (K1 s4 x6 (i64.wrap (s3 + 1)))))
def m_i_netIn_l1 (N : Nat) (p0 : TDef) : Nat → (List TAlpha) → (List TChain) → Int → Option (TNet)
  | 0, _, _, _ => none
  | k + 1, s1, s2, s3 =>
    (if decide (s3 < (p0.Rules.length : Int)) then ((idx p0.Rules s3).bind fun x1 => m_i_netIn_l2 N s2 s3 (m_i_netIn_l1 N p0 k) x1 N s1 ([] : List Int) ([] : List Int) 0) else some (⟨s1, s2⟩ : TNet))
def m_i_netIn (N : Nat) (p0 : TDef) : Option (TNet) :=
  m_i_netIn_l1 N p0 N ([] : List TAlpha) ([] : List TChain) 0
def m_i_MemNew_l1 (N : Nat) (p0 : TNet) (x1 : (List TIds)) : Nat → (List TRow) → Int → Option (TMem)
  | 0, _, _ => none
  | k + 1, s1, s2 =>
    (if decide (s2 < (p0.Chains.length : Int)) then ((idx p0.Chains s2).bind fun x2 => ((mk (⟨([] : List TTok)⟩ : TLevel) (x2.Pos.length : Int)).bind fun x3 => ((app s1 ([(⟨x3⟩ : TRow)] : List TRow)).bind fun x4 => ((m_i_MemNew_l1 N p0 x1 k) x4 (i64.wrap (s2 + 1)))))) else some (⟨x1, s1⟩ : TMem))
def m_i_MemNew (N : Nat) (p0 : TNet) : Option (TMem) :=
  ((mk (⟨([] : List Int)⟩ : TIds) (p0.Alphas.length : Int)).bind fun x1 => m_i_MemNew_l1 N p0 x1 N ([] : List TRow) 0)
def m_i_memIn_l1 (N : Nat) (p0 : TDef) (p1 : TStore) (x1 : TNet) : Nat → (List TIds) → (List TRow) → Int → Option (TMem)
  | 0, _, _, _ => none
  | k + 1, s1, s2, s3 =>
    (if decide (s3 < (p1.Items.length : Int)) then ((idx p1.Items s3).bind fun x3 => ((ssl p1.Items 0 (i64.wrap (s3 + 1))).bind fun x4 => ((m_i_addItem N p0 x1 (⟨s1, s2⟩ : TMem) (⟨x4, p1.Next⟩ : TStore) x3.Id).bind fun x5 => ((m_i_memIn_l1 N p0 p1 x1 k) x5.1 x5.2 (i64.wrap (s3 + 1)))))) else some (⟨s1, s2⟩ : TMem))
def m_i_memIn (N : Nat) (p0 : TDef) (p1 : TStore) : Option (TMem) :=
  ((m_i_netIn N p0).bind fun x1 => ((m_i_MemNew N x1).bind fun x2 => m_i_memIn_l1 N p0 p1 x1 N x2.Alphas x2.Rules 0))
def m_i_MemOf (N : Nat) (p0 : TDef) (p1 : TStore) : Option (TMem) :=
  ((m_i_DefOk N p0).bind fun x1 => ((if !x1 then some true else ((m_i_StoreOk N p1).bind fun x2 => some (!x2))).bind fun b1 => (if b1 then some (⟨[], []⟩ : TMem) else ((m_i_memIn N p0 p1).bind fun x3 => some x3))))
def m_s_l1In (N : Nat) (p0 : Int) (p1 : Int) (p2 : Int) : Option (Bool) :=
  ((if decide (p1 ≤ p0) then some (decide (p0 ≤ p2)) else some false).bind fun b1 => some b1)
def m_s_l1Letter (N : Nat) (p0 : Int) : Option (Bool) :=
  ((m_s_l1In N (i64.wrap p0) 97 122).bind fun x1 => ((if x1 then some true else ((m_s_l1In N (i64.wrap p0) 48 57).bind fun x2 => some x2)).bind fun b1 => ((if b1 then some true else some (decide (p0 = 95))).bind fun b2 => some b2)))
def m_s_NameOk_l1 (N : Nat) (p0 : ByteArray) : Nat → Int → Option (Bool)
  | 0, _ => none
  | k + 1, s1 =>
    (if decide (s1 < (p0.size : Int)) then ((idx p0.data.toList s1).bind fun y1 => ((m_s_l1Letter N (y1.toNat : Int)).bind fun x1 => ((if !x1 then some true else ((if decide (s1 = 0) then ((idx p0.data.toList s1).bind fun y2 => ((m_s_l1In N (i64.wrap (y2.toNat : Int)) 97 122).bind fun x2 => some (!x2))) else some false).bind fun b2 => some b2)).bind fun b1 => (if b1 then some false else ((m_s_NameOk_l1 N p0 k) (i64.wrap (s1 + 1))))))) else ((m_s_l1In N (p0.size : Int) 1 12).bind fun x3 => some x3))
def m_s_NameOk (N : Nat) (p0 : ByteArray) : Option (Bool) :=
  m_s_NameOk_l1 N p0 N 0
def m_s_l6Has_l1 (N : Nat) (p0 : (List ByteArray)) (p1 : ByteArray) : Nat → Int → Option (Bool)
  | 0, _ => none
  | k + 1, s1 =>
    (if decide (s1 < (p0.length : Int)) then ((idx p0 s1).bind fun x1 => (if seq x1 p1 then some true else ((m_s_l6Has_l1 N p0 p1 k) (i64.wrap (s1 + 1))))) else some false)
def m_s_l6Has (N : Nat) (p0 : (List ByteArray)) (p1 : ByteArray) : Option (Bool) :=
  m_s_l6Has_l1 N p0 p1 N 0
def m_s_VarsOf_l1 (N : Nat) (p0 : TPat) : Nat → (List ByteArray) → Int → Option ((List ByteArray))
  | 0, _, _ => none
  | k + 1, s1, s2 =>
    (if decide (s2 < (p0.Args.length : Int)) then ((idx p0.Args s2).bind fun x1 => ((if decide (x1.K = 1) then ((idx p0.Args s2).bind fun x2 => ((m_s_l6Has N s1 x2.S).bind fun x3 => some (!x3))) else some false).bind fun b1 => (if b1 then ((idx p0.Args s2).bind fun x4 => ((app s1 ([x4.S] : List ByteArray)).bind fun x5 => ((m_s_VarsOf_l1 N p0 k) x5 (i64.wrap (s2 + 1))))) else ((m_s_VarsOf_l1 N p0 k) s1 (i64.wrap (s2 + 1)))))) else some s1)
def m_s_VarsOf (N : Nat) (p0 : TPat) : Option ((List ByteArray)) :=
  m_s_VarsOf_l1 N p0 N ([] : List ByteArray) 0
def m_s_PosVars_l2 (N : Nat) (p0 : TRule) (s2 : Int) (K1 : (List ByteArray) → Int → Option ((List ByteArray))) (x2 : (List ByteArray)) : Nat → (List ByteArray) → Int → Option ((List ByteArray))
  | 0, _, _ => none
  | k + 1, s3, s4 =>
    ((if decide (s4 < (x2.length : Int)) then ((idx p0.Pats s2).bind fun x3 => some (!x3.Not)) else some false).bind fun b1 => (if b1 then ((idx x2 s4).bind fun x4 => ((m_s_l6Has N s3 x4).bind fun x5 => (if !x5 then ((idx x2 s4).bind fun x6 => ((app s3 ([x6] : List ByteArray)).bind fun x7 => ((m_s_PosVars_l2 N p0 s2 K1 x2 k) x7 (i64.wrap (s4 + 1))))) else ((m_s_PosVars_l2 N p0 s2 K1 x2 k) s3 (i64.wrap (s4 + 1)))))) else (K1 s3 (i64.wrap (s2 + 1)))))
def m_s_PosVars_l1 (N : Nat) (p0 : TRule) : Nat → (List ByteArray) → Int → Option ((List ByteArray))
  | 0, _, _ => none
  | k + 1, s1, s2 =>
    (if decide (s2 < (p0.Pats.length : Int)) then ((idx p0.Pats s2).bind fun x1 => ((m_s_VarsOf N x1).bind fun x2 => m_s_PosVars_l2 N p0 s2 (m_s_PosVars_l1 N p0 k) x2 N s1 0)) else some s1)
def m_s_PosVars (N : Nat) (p0 : TRule) : Option ((List ByteArray)) :=
  m_s_PosVars_l1 N p0 N ([] : List ByteArray) 0
def m_s_l2Plain_l1 (N : Nat) (p0 : ByteArray) : Nat → Int → Option (Bool)
  | 0, _ => none
  | k + 1, s1 =>
    (if decide (s1 < (p0.size : Int)) then ((idx p0.data.toList s1).bind fun y1 => ((m_s_l1Letter N (y1.toNat : Int)).bind fun x1 => (if !x1 then some false else ((m_s_l2Plain_l1 N p0 k) (i64.wrap (s1 + 1)))))) else some (decide ((p0.size : Int) ≤ 20)))
def m_s_l2Plain (N : Nat) (p0 : ByteArray) : Option (Bool) :=
  m_s_l2Plain_l1 N p0 N 0
def m_s_ValOk (N : Nat) (p0 : TVal) : Option (Bool) :=
  (if decide (p0.K = 1) then ((m_s_l1In N p0.N (-1000000000) 1000000000).bind fun x1 => ((if x1 then some (seq p0.S (⟨#[]⟩ : ByteArray)) else some false).bind fun b1 => some b1)) else (if decide (p0.K = 2) then ((m_s_l2Plain N p0.S).bind fun x2 => ((if x2 then some (decide (p0.N = 0)) else some false).bind fun b2 => some b2)) else some false))
def m_s_l5Large (N : Nat) (p0 : Int) : Option (Bool) :=
  ((m_s_l1In N (i64.wrap p0) 65 90).bind fun x1 => some x1)
def m_s_l5VarOk_l1 (N : Nat) (p0 : ByteArray) : Nat → Int → Option (Bool)
  | 0, _ => none
  | k + 1, s1 =>
    (if decide (s1 < (p0.size : Int)) then ((idx p0.data.toList s1).bind fun y1 => ((m_s_l5Large N (y1.toNat : Int)).bind fun x1 => ((if !x1 then ((if decide (s1 = 0) then some true else ((idx p0.data.toList s1).bind fun y2 => ((m_s_l1Letter N (y2.toNat : Int)).bind fun x2 => some (!x2)))).bind fun b2 => some b2) else some false).bind fun b1 => (if b1 then some false else ((m_s_l5VarOk_l1 N p0 k) (i64.wrap (s1 + 1))))))) else ((m_s_l1In N (p0.size : Int) 1 12).bind fun x3 => some x3))
def m_s_l5VarOk (N : Nat) (p0 : ByteArray) : Option (Bool) :=
  m_s_l5VarOk_l1 N p0 N 0
def m_s_ArgOk (N : Nat) (p0 : TArg) : Option (Bool) :=
  (if decide (p0.K = 1) then ((m_s_l5VarOk N p0.S).bind fun x1 => ((if x1 then some (eqT_TVal p0.V (⟨0, 0, (⟨#[]⟩ : ByteArray)⟩ : TVal)) else some false).bind fun b1 => some b1)) else (if decide (p0.K = 2) then ((m_s_ValOk N p0.V).bind fun x2 => ((if x2 then some (seq p0.S (⟨#[]⟩ : ByteArray)) else some false).bind fun b2 => some b2)) else (if decide (p0.K = 3) then ((if seq p0.S (⟨#[]⟩ : ByteArray) then some (eqT_TVal p0.V (⟨0, 0, (⟨#[]⟩ : ByteArray)⟩ : TVal)) else some false).bind fun b3 => some b3) else some false)))
def m_s_PatOk_l1 (N : Nat) (p0 : TPat) : Nat → Int → Option (Bool)
  | 0, _ => none
  | k + 1, s1 =>
    (if decide (s1 < (p0.Args.length : Int)) then ((idx p0.Args s1).bind fun x1 => ((m_s_ArgOk N x1).bind fun x2 => (if !x2 then some false else ((m_s_PatOk_l1 N p0 k) (i64.wrap (s1 + 1)))))) else ((m_s_NameOk N p0.Kind).bind fun x3 => ((if x3 then some (decide ((p0.Args.length : Int) ≤ 5)) else some false).bind fun b1 => some b1)))
def m_s_PatOk (N : Nat) (p0 : TPat) : Option (Bool) :=
  m_s_PatOk_l1 N p0 N 0
def m_s_l9Pats_l1 (N : Nat) (p0 : (List TPat)) : Nat → Int → Option (Bool)
  | 0, _ => none
  | k + 1, s1 =>
    (if decide (s1 < (p0.length : Int)) then ((if decide (2 < s1) then ((idx p0 s1).bind fun x1 => some (!x1.Not)) else some false).bind fun b1 => (if b1 then some false else ((idx p0 s1).bind fun x2 => ((m_s_PatOk N x2).bind fun x3 => ((if !x3 then some true else ((if decide (s1 = 0) then ((idx p0 s1).bind fun x4 => some x4.Not) else some false).bind fun b3 => some b3)).bind fun b2 => ((if b2 then some true else ((if decide (0 < s1) then ((idx p0 (i64.wrap (s1 - 1))).bind fun x5 => some x5.Not) else some false).bind fun b5 => ((if b5 then ((idx p0 s1).bind fun x6 => some (!x6.Not)) else some false).bind fun b6 => some b6))).bind fun b4 => (if b4 then some false else ((m_s_l9Pats_l1 N p0 k) (i64.wrap (s1 + 1)))))))))) else ((m_s_l1In N (p0.length : Int) 1 6).bind fun x7 => some x7))
def m_s_l9Pats (N : Nat) (p0 : (List TPat)) : Option (Bool) :=
  m_s_l9Pats_l1 N p0 N 0
def m_s_CondOk (N : Nat) (p0 : TCond) : Option (Bool) :=
  ((m_s_l1In N p0.Op 1 3).bind fun x1 => ((if x1 then ((m_s_ArgOk N p0.L).bind fun x2 => some x2) else some false).bind fun b1 => ((if b1 then ((m_s_ArgOk N p0.R).bind fun x3 => some x3) else some false).bind fun b2 => ((if b2 then some (!decide (p0.L.K = 3)) else some false).bind fun b3 => ((if b3 then some (!decide (p0.R.K = 3)) else some false).bind fun b4 => some b4)))))
def m_s_l9Known (N : Nat) (p0 : TArg) (p1 : (List ByteArray)) : Option (Bool) :=
  ((if !decide (p0.K = 1) then some true else ((m_s_l6Has N p1 p0.S).bind fun x1 => some x1)).bind fun b1 => some b1)
def m_s_l9Conds_l1 (N : Nat) (p0 : (List TCond)) (p1 : (List ByteArray)) : Nat → Int → Option (Bool)
  | 0, _ => none
  | k + 1, s1 =>
    (if decide (s1 < (p0.length : Int)) then ((idx p0 s1).bind fun x1 => ((m_s_CondOk N x1).bind fun x2 => ((if !x2 then some true else ((idx p0 s1).bind fun x3 => ((m_s_l9Known N x3.L p1).bind fun x4 => some (!x4)))).bind fun b1 => ((if b1 then some true else ((idx p0 s1).bind fun x5 => ((m_s_l9Known N x5.R p1).bind fun x6 => some (!x6)))).bind fun b2 => (if b2 then some false else ((m_s_l9Conds_l1 N p0 p1 k) (i64.wrap (s1 + 1)))))))) else some (decide ((p0.length : Int) ≤ 6)))
def m_s_l9Conds (N : Nat) (p0 : (List TCond)) (p1 : (List ByteArray)) : Option (Bool) :=
  m_s_l9Conds_l1 N p0 p1 N 0
def m_s_l8Given (N : Nat) (p0 : TArg) : Option (Bool) :=
  ((m_s_ArgOk N p0).bind fun x1 => ((if x1 then some (!decide (p0.K = 3)) else some false).bind fun b1 => some b1))
def m_s_ExprOk_j1 (N : Nat) (p0 : TExpr) (s1 : Bool) : Option (Bool) :=
  (if s1 then ((m_s_l8Given N p0.L).bind fun x2 => ((if x2 then ((m_s_l8Given N p0.R).bind fun x3 => some x3) else some false).bind fun b2 => some b2)) else some false)
def m_s_ExprOk (N : Nat) (p0 : TExpr) : Option (Bool) :=
  (if seq p0.Op (⟨#[]⟩ : ByteArray) then ((m_s_l8Given N p0.L).bind fun x1 => ((if x1 then some (eqT_TArg p0.R (⟨0, (⟨#[]⟩ : ByteArray), (⟨0, 0, (⟨#[]⟩ : ByteArray)⟩ : TVal)⟩ : TArg)) else some false).bind fun b1 => some b1)) else (if seq p0.Op (⟨#[43]⟩ : ByteArray) then m_s_ExprOk_j1 N p0 (seq p0.Op (⟨#[43]⟩ : ByteArray)) else m_s_ExprOk_j1 N p0 (seq p0.Op (⟨#[45]⟩ : ByteArray))))
def m_s_l8Args_l1 (N : Nat) (p0 : (List TExpr)) : Nat → Int → Option (Bool)
  | 0, _ => none
  | k + 1, s1 =>
    (if decide (s1 < (p0.length : Int)) then ((idx p0 s1).bind fun x1 => ((m_s_ExprOk N x1).bind fun x2 => (if !x2 then some false else ((m_s_l8Args_l1 N p0 k) (i64.wrap (s1 + 1)))))) else some (decide ((p0.length : Int) ≤ 5)))
def m_s_l8Args (N : Nat) (p0 : (List TExpr)) : Option (Bool) :=
  m_s_l8Args_l1 N p0 N 0
def m_s_ActOk_j1 (N : Nat) (p0 : TAct) (b2 : Bool) (s1 : Bool) : Option (Bool) :=
  (if s1 then ((if b2 then some (decide (p0.N = 0)) else some false).bind fun b14 => some b14) else some false)
def m_s_ActOk (N : Nat) (p0 : TAct) : Option (Bool) :=
  ((if seq p0.Name (⟨#[]⟩ : ByteArray) then some (decide ((p0.Args.length : Int) = 0)) else some false).bind fun b1 => ((if b1 then some (seq p0.Undo (⟨#[]⟩ : ByteArray)) else some false).bind fun b2 => (if decide (p0.Kind = 1) then ((m_s_NameOk N p0.Name).bind fun x1 => ((if x1 then ((m_s_l8Args N p0.Args).bind fun x2 => some x2) else some false).bind fun b3 => ((if b3 then some (decide (p0.N = 0)) else some false).bind fun b4 => ((if b4 then some (seq p0.Undo (⟨#[]⟩ : ByteArray)) else some false).bind fun b5 => some b5)))) else (if decide (p0.Kind = 3) then ((m_s_NameOk N p0.Name).bind fun x3 => ((if x3 then ((m_s_l8Args N p0.Args).bind fun x4 => some x4) else some false).bind fun b6 => ((if b6 then some (decide (p0.N = 0)) else some false).bind fun b7 => ((if b7 then ((if seq p0.Undo (⟨#[]⟩ : ByteArray) then some true else ((m_s_NameOk N p0.Undo).bind fun x5 => some x5)).bind fun b9 => some b9) else some false).bind fun b8 => some b8)))) else (if decide (p0.Kind = 4) then ((m_s_NameOk N p0.Name).bind fun x6 => ((if x6 then ((m_s_l8Args N p0.Args).bind fun x7 => some x7) else some false).bind fun b10 => ((if b10 then ((m_s_l1In N p0.N 0 100000).bind fun x8 => some x8) else some false).bind fun b11 => ((if b11 then some (seq p0.Undo (⟨#[]⟩ : ByteArray)) else some false).bind fun b12 => some b12)))) else (if decide (p0.Kind = 2) then ((if b2 then ((m_s_l1In N p0.N 0 7).bind fun x9 => some x9) else some false).bind fun b13 => some b13) else (if decide (p0.Kind = 5) then m_s_ActOk_j1 N p0 b2 (decide (p0.Kind = 5)) else m_s_ActOk_j1 N p0 b2 (decide (p0.Kind = 6)))))))))
def m_s_l9Acts_l2 (N : Nat) (p0 : (List TAct)) (p1 : (List ByteArray)) (s1 : Int) (K1 : Int → Option (Bool)) : Nat → Int → Option (Bool)
  | 0, _ => none
  | k + 1, s2 =>
    ((idx p0 s1).bind fun x5 => (if decide (s2 < (x5.Args.length : Int)) then ((idx p0 s1).bind fun x6 => ((idx x6.Args s2).bind fun x7 => ((m_s_l9Known N x7.L p1).bind fun x8 => ((if !x8 then some true else ((idx p0 s1).bind fun x9 => ((idx x9.Args s2).bind fun x10 => ((m_s_l9Known N x10.R p1).bind fun x11 => some (!x11))))).bind fun b3 => (if b3 then some false else ((m_s_l9Acts_l2 N p0 p1 s1 K1 k) (i64.wrap (s2 + 1)))))))) else (K1 (i64.wrap (s1 + 1)))))
def m_s_l9Acts_l1 (N : Nat) (p0 : (List TAct)) (p1 : (List ByteArray)) (p2 : Int) : Nat → Int → Option (Bool)
  | 0, _ => none
  | k + 1, s1 =>
    (if decide (s1 < (p0.length : Int)) then ((idx p0 s1).bind fun x1 => ((m_s_ActOk N x1).bind fun x2 => ((if !x2 then some true else ((idx p0 s1).bind fun x3 => ((if decide (x3.Kind = 2) then ((idx p0 s1).bind fun x4 => some (decide (p2 ≤ x4.N))) else some false).bind fun b2 => some b2))).bind fun b1 => (if b1 then some false else m_s_l9Acts_l2 N p0 p1 s1 (m_s_l9Acts_l1 N p0 p1 p2 k) N 0)))) else ((m_s_l1In N (p0.length : Int) 1 6).bind fun x12 => some x12))
def m_s_l9Acts (N : Nat) (p0 : (List TAct)) (p1 : (List ByteArray)) (p2 : Int) : Option (Bool) :=
  m_s_l9Acts_l1 N p0 p1 p2 N 0
def m_s_PosCount_l1 (N : Nat) (p0 : TRule) : Nat → Int → Int → Option (Int)
  | 0, _, _ => none
  | k + 1, s1, s2 =>
    (if decide (s2 < (p0.Pats.length : Int)) then ((idx p0.Pats s2).bind fun x1 => (if !x1.Not then ((m_s_PosCount_l1 N p0 k) (i64.wrap (s1 + 1)) (i64.wrap (s2 + 1))) else ((m_s_PosCount_l1 N p0 k) s1 (i64.wrap (s2 + 1))))) else some s1)
def m_s_PosCount (N : Nat) (p0 : TRule) : Option (Int) :=
  m_s_PosCount_l1 N p0 N 0 0
def m_s_RuleOk (N : Nat) (p0 : TRule) : Option (Bool) :=
  ((m_s_PosVars N p0).bind fun x1 => ((m_s_NameOk N p0.Name).bind fun x2 => ((if x2 then ((m_s_l1In N p0.Sal (-100) 100).bind fun x3 => some x3) else some false).bind fun b1 => ((if b1 then ((m_s_l9Pats N p0.Pats).bind fun x4 => some x4) else some false).bind fun b2 => ((if b2 then ((m_s_l9Conds N p0.Conds x1).bind fun x5 => some x5) else some false).bind fun b3 => ((if b3 then ((m_s_PosCount N p0).bind fun x6 => ((m_s_l9Acts N p0.Acts x1 x6).bind fun x7 => some x7)) else some false).bind fun b4 => some b4))))))
def m_s_RuleAt_l1 (N : Nat) (p0 : TDef) (p1 : ByteArray) : Nat → Int → Option (Int)
  | 0, _ => none
  | k + 1, s1 =>
    (if decide (s1 < (p0.Rules.length : Int)) then ((idx p0.Rules s1).bind fun x1 => (if seq x1.Name p1 then some s1 else ((m_s_RuleAt_l1 N p0 p1 k) (i64.wrap (s1 + 1))))) else some (-1))
def m_s_RuleAt (N : Nat) (p0 : TDef) (p1 : ByteArray) : Option (Int) :=
  m_s_RuleAt_l1 N p0 p1 N 0
def m_s_DefOk_l1 (N : Nat) (p0 : TDef) : Nat → Int → Option (Bool)
  | 0, _ => none
  | k + 1, s1 =>
    (if decide (s1 < (p0.Rules.length : Int)) then ((idx p0.Rules s1).bind fun x1 => ((m_s_RuleOk N x1).bind fun x2 => ((if !x2 then some true else ((idx p0.Rules s1).bind fun x3 => ((m_s_RuleAt N p0 x3.Name).bind fun x4 => some (!decide (x4 = s1))))).bind fun b1 => (if b1 then some false else ((m_s_DefOk_l1 N p0 k) (i64.wrap (s1 + 1))))))) else ((m_s_NameOk N p0.Name).bind fun x5 => ((if x5 then ((m_s_l1In N (p0.Rules.length : Int) 1 12).bind fun x6 => some x6) else some false).bind fun b2 => some b2)))
def m_s_DefOk (N : Nat) (p0 : TDef) : Option (Bool) :=
  m_s_DefOk_l1 N p0 N 0
def m_s_l3SameVals_l1 (N : Nat) (p0 : (List TVal)) (p1 : (List TVal)) : Nat → Int → Option (Bool)
  | 0, _ => none
  | k + 1, s1 =>
    (if decide (s1 < (p0.length : Int)) then ((idx p0 s1).bind fun x1 => ((idx p1 s1).bind fun x2 => (if !(eqT_TVal x1 x2) then some false else ((m_s_l3SameVals_l1 N p0 p1 k) (i64.wrap (s1 + 1)))))) else some true)
def m_s_l3SameVals (N : Nat) (p0 : (List TVal)) (p1 : (List TVal)) : Option (Bool) :=
  (if !decide ((p0.length : Int) = (p1.length : Int)) then some false else m_s_l3SameVals_l1 N p0 p1 N 0)
def m_s_SameFact (N : Nat) (p0 : TFact) (p1 : TFact) : Option (Bool) :=
  ((if seq p0.Kind p1.Kind then ((m_s_l3SameVals N p0.Fields p1.Fields).bind fun x1 => some x1) else some false).bind fun b1 => some b1)
def m_s_IdOf_l1 (N : Nat) (p0 : TStore) (p1 : TFact) : Nat → Int → Option (Int)
  | 0, _ => none
  | k + 1, s1 =>
    (if decide (s1 < (p0.Items.length : Int)) then ((idx p0.Items s1).bind fun x1 => ((m_s_SameFact N x1.F p1).bind fun x2 => (if x2 then ((idx p0.Items s1).bind fun x3 => some x3.Id) else ((m_s_IdOf_l1 N p0 p1 k) (i64.wrap (s1 + 1)))))) else some 0)
def m_s_IdOf (N : Nat) (p0 : TStore) (p1 : TFact) : Option (Int) :=
  m_s_IdOf_l1 N p0 p1 N 0
def m_s_l3Vals_l1 (N : Nat) (p0 : (List TVal)) : Nat → Int → Option (Bool)
  | 0, _ => none
  | k + 1, s1 =>
    (if decide (s1 < (p0.length : Int)) then ((idx p0 s1).bind fun x1 => ((m_s_ValOk N x1).bind fun x2 => (if !x2 then some false else ((m_s_l3Vals_l1 N p0 k) (i64.wrap (s1 + 1)))))) else some (decide ((p0.length : Int) ≤ 5)))
def m_s_l3Vals (N : Nat) (p0 : (List TVal)) : Option (Bool) :=
  m_s_l3Vals_l1 N p0 N 0
def m_s_FactOk (N : Nat) (p0 : TFact) : Option (Bool) :=
  ((m_s_NameOk N p0.Kind).bind fun x1 => ((if x1 then ((m_s_l3Vals N p0.Fields).bind fun x2 => some x2) else some false).bind fun b1 => some b1))
def m_s_StoreOk_l1 (N : Nat) (p0 : TStore) : Nat → Int → Option (Bool)
  | 0, _ => none
  | k + 1, s1 =>
    (if decide (s1 < (p0.Items.length : Int)) then ((idx p0.Items s1).bind fun x2 => ((m_s_FactOk N x2.F).bind fun x3 => ((if !x3 then some true else some (decide (x2.Id < 1))).bind fun b2 => ((if b2 then some true else some (decide (p0.Next ≤ x2.Id))).bind fun b3 => ((if b3 then some true else ((if decide (0 < s1) then ((idx p0.Items (i64.wrap (s1 - 1))).bind fun x4 => some (decide (x2.Id ≤ x4.Id))) else some false).bind fun b5 => some b5)).bind fun b4 => ((if b4 then some true else ((m_s_IdOf N p0 x2.F).bind fun x5 => some (!decide (x5 = x2.Id)))).bind fun b6 => (if b6 then some false else ((m_s_StoreOk_l1 N p0 k) (i64.wrap (s1 + 1)))))))))) else some true)
def m_s_StoreOk (N : Nat) (p0 : TStore) : Option (Bool) :=
  ((m_s_l1In N p0.Next 1 1000000).bind fun x1 => ((if !x1 then some true else some (decide (40 < (p0.Items.length : Int)))).bind fun b1 => (if b1 then some false else m_s_StoreOk_l1 N p0 N 0)))
def m_s_l11Same_l1 (N : Nat) (p0 : (List Int)) (p1 : (List Int)) : Nat → Int → Option (Bool)
  | 0, _ => none
  | k + 1, s1 =>
    (if decide (s1 < (p0.length : Int)) then ((idx p0 s1).bind fun x1 => ((idx p1 s1).bind fun x2 => (if !decide (x1 = x2) then some false else ((m_s_l11Same_l1 N p0 p1 k) (i64.wrap (s1 + 1)))))) else some true)
def m_s_l11Same (N : Nat) (p0 : (List Int)) (p1 : (List Int)) : Option (Bool) :=
  (if !decide ((p0.length : Int) = (p1.length : Int)) then some false else m_s_l11Same_l1 N p0 p1 N 0)
def m_s_SameAlpha (N : Nat) (p0 : TAlpha) (p1 : TAlpha) : Option (Bool) :=
  ((if seq p0.Kind p1.Kind then some (decide (p0.N = p1.N)) else some false).bind fun b1 => ((if b1 then ((m_s_l11Same N p0.At p1.At).bind fun x1 => some x1) else some false).bind fun b2 => ((if b2 then ((m_s_l3SameVals N p0.Consts p1.Consts).bind fun x2 => some x2) else some false).bind fun b3 => some b3)))
def m_s_l12Find_l1 (N : Nat) (p0 : TNet) (p1 : TAlpha) : Nat → Int → Option (Int × TNet)
  | 0, _ => none
  | k + 1, s1 =>
    (if decide (s1 < (p0.Alphas.length : Int)) then ((idx p0.Alphas s1).bind fun x1 => ((m_s_SameAlpha N x1 p1).bind fun x2 => (if x2 then some (s1, p0) else ((m_s_l12Find_l1 N p0 p1 k) (i64.wrap (s1 + 1)))))) else ((app p0.Alphas ([p1] : List TAlpha)).bind fun x3 => some (i64.wrap ((x3.length : Int) - 1), (⟨x3, p0.Chains⟩ : TNet))))
def m_s_l12Find (N : Nat) (p0 : TNet) (p1 : TAlpha) : Option (Int × TNet) :=
  m_s_l12Find_l1 N p0 p1 N 0
def m_s_AlphaOf_l1 (N : Nat) (p0 : TPat) : Nat → (List TVal) → (List Int) → Int → Option (TAlpha)
  | 0, _, _, _ => none
  | k + 1, s1, s2, s3 =>
    (if decide (s3 < (p0.Args.length : Int)) then ((idx p0.Args s3).bind fun x1 => (if decide (x1.K = 2) then ((idx p0.Args s3).bind fun x2 => ((app s1 ([x2.V] : List TVal)).bind fun x3 => ((app s2 ([s3] : List Int)).bind fun x4 => ((m_s_AlphaOf_l1 N p0 k) x3 x4 (i64.wrap (s3 + 1)))))) else ((m_s_AlphaOf_l1 N p0 k) s1 s2 (i64.wrap (s3 + 1))))) else some (⟨p0.Kind, (p0.Args.length : Int), s1, s2⟩ : TAlpha))
def m_s_AlphaOf (N : Nat) (p0 : TPat) : Option (TAlpha) :=
  m_s_AlphaOf_l1 N p0 N ([] : List TVal) ([] : List Int) 0
def m_s_l12Net_l2 (N : Nat) (p0 : TDef) (s2 : (List TChain)) (s3 : Int) (K1 : (List TAlpha) → (List TChain) → Int → Option (TNet)) : Nat → (List TAlpha) → (List Int) → (List Int) → Int → Option (TNet)
  | 0, _, _, _, _ => none
  | k + 1, s4, s5, s6, s7 =>
    ((idx p0.Rules s3).bind fun x1 => (if decide (s7 < (x1.Pats.length : Int)) then ((idx p0.Rules s3).bind fun x2 => ((idx x2.Pats s7).bind fun x3 => ((m_s_AlphaOf N x3).bind fun x4 => ((m_s_l12Find N (⟨s4, s2⟩ : TNet) x4).bind fun x5 => (if x3.Not then ((app s5 ([x5.1] : List Int)).bind fun x6 => ((m_s_l12Net_l2 N p0 s2 s3 K1 k) x5.2.Alphas x6 s6 (i64.wrap (s7 + 1)))) else ((app s6 ([x5.1] : List Int)).bind fun x7 => ((m_s_l12Net_l2 N p0 s2 s3 K1 k) x5.2.Alphas s5 x7 (i64.wrap (s7 + 1))))))))) else ((app s2 ([(⟨s6, s5⟩ : TChain)] : List TChain)).bind fun x8 => (K1 s4 x8 (i64.wrap (s3 + 1))))))
def m_s_l12Net_l1 (N : Nat) (p0 : TDef) : Nat → (List TAlpha) → (List TChain) → Int → Option (TNet)
  | 0, _, _, _ => none
  | k + 1, s1, s2, s3 =>
    (if decide (s3 < (p0.Rules.length : Int)) then m_s_l12Net_l2 N p0 s2 s3 (m_s_l12Net_l1 N p0 k) N s1 ([] : List Int) ([] : List Int) 0 else some (⟨s1, s2⟩ : TNet))
def m_s_l12Net (N : Nat) (p0 : TDef) : Option (TNet) :=
  m_s_l12Net_l1 N p0 N ([] : List TAlpha) ([] : List TChain) 0
def m_s_l3Copy (N : Nat) (p0 : TFact) : Option (TFact) :=
  ((app ([] : List TVal) p0.Fields).bind fun x1 => some (⟨p0.Kind, x1⟩ : TFact))
def m_s_FactOf_l1 (N : Nat) (p0 : TStore) (p1 : Int) : Nat → Int → Option (TFact × Bool)
  | 0, _ => none
  | k + 1, s1 =>
    (if decide (s1 < (p0.Items.length : Int)) then ((idx p0.Items s1).bind fun x1 => (if decide (x1.Id = p1) then ((idx p0.Items s1).bind fun x2 => ((m_s_l3Copy N x2.F).bind fun x3 => some (x3, true))) else ((m_s_FactOf_l1 N p0 p1 k) (i64.wrap (s1 + 1))))) else some ((⟨(⟨#[]⟩ : ByteArray), []⟩ : TFact), false))
def m_s_FactOf (N : Nat) (p0 : TStore) (p1 : Int) : Option (TFact × Bool) :=
  m_s_FactOf_l1 N p0 p1 N 0
def m_s_Passes_l1 (N : Nat) (p0 : TAlpha) (p1 : TFact) : Nat → Int → Option (Bool)
  | 0, _ => none
  | k + 1, s1 =>
    (if decide (s1 < (p0.At.length : Int)) then ((idx p0.At s1).bind fun x1 => ((if decide ((p0.Consts.length : Int) ≤ s1) then some true else ((m_s_l1In N x1 0 (i64.wrap ((p1.Fields.length : Int) - 1))).bind fun x2 => some (!x2))).bind fun b2 => ((if b2 then some true else ((idx p1.Fields x1).bind fun x3 => ((idx p0.Consts s1).bind fun x4 => some (!(eqT_TVal x3 x4))))).bind fun b3 => (if b3 then some false else ((m_s_Passes_l1 N p0 p1 k) (i64.wrap (s1 + 1))))))) else some true)
def m_s_Passes (N : Nat) (p0 : TAlpha) (p1 : TFact) : Option (Bool) :=
  ((if !seq p0.Kind p1.Kind then some true else some (!decide (p0.N = (p1.Fields.length : Int)))).bind fun b1 => (if b1 then some false else m_s_Passes_l1 N p0 p1 N 0))
def m_s_BindOf_l1 (N : Nat) (p0 : (List TBind)) (p1 : ByteArray) : Nat → Int → Option (TVal × Bool)
  | 0, _ => none
  | k + 1, s1 =>
    (if decide (s1 < (p0.length : Int)) then ((idx p0 s1).bind fun x1 => (if seq x1.Name p1 then ((idx p0 s1).bind fun x2 => some (x2.V, true)) else ((m_s_BindOf_l1 N p0 p1 k) (i64.wrap (s1 + 1))))) else some ((⟨0, 0, (⟨#[]⟩ : ByteArray)⟩ : TVal), false))
def m_s_BindOf (N : Nat) (p0 : (List TBind)) (p1 : ByteArray) : Option (TVal × Bool) :=
  m_s_BindOf_l1 N p0 p1 N 0
def m_s_MatchPat_l1 (N : Nat) (p0 : TPat) (p1 : TFact) (p2 : (List TBind)) : Nat → (List TBind) → Int → Option ((List TBind) × Bool)
  | 0, _, _ => none
  | k + 1, s1, s2 =>
    (if decide (s2 < (p0.Args.length : Int)) then ((idx p0.Args s2).bind fun x2 => ((m_s_BindOf N s1 x2.S).bind fun x3 => ((if decide (x2.K = 2) then ((idx p1.Fields s2).bind fun x4 => some (!(eqT_TVal x2.V x4))) else some false).bind fun b2 => ((if b2 then some true else ((if decide (x2.K = 1) then some x3.2 else some false).bind fun b4 => ((if b4 then ((idx p1.Fields s2).bind fun x5 => some (!(eqT_TVal x3.1 x5))) else some false).bind fun b5 => some b5))).bind fun b3 => (if b3 then ((app ([] : List TBind) p2).bind fun x6 => some (x6, false)) else ((if decide (x2.K = 1) then some (!x3.2) else some false).bind fun b6 => (if b6 then ((idx p1.Fields s2).bind fun x7 => ((app s1 ([(⟨x2.S, x7⟩ : TBind)] : List TBind)).bind fun x8 => ((m_s_MatchPat_l1 N p0 p1 p2 k) x8 (i64.wrap (s2 + 1))))) else ((m_s_MatchPat_l1 N p0 p1 p2 k) s1 (i64.wrap (s2 + 1)))))))))) else some (s1, true))
def m_s_MatchPat (N : Nat) (p0 : TPat) (p1 : TFact) (p2 : (List TBind)) : Option ((List TBind) × Bool) :=
  ((app ([] : List TBind) p2).bind fun x1 => ((if !seq p0.Kind p1.Kind then some true else some (!decide ((p0.Args.length : Int) = (p1.Fields.length : Int)))).bind fun b1 => (if b1 then some (x1, false) else m_s_MatchPat_l1 N p0 p1 p2 N x1 0)))
def m_s_l13Binds_j2 (N : Nat) (p0 : TRule) (s1 : (List TBind)) (s2 : Int) (K1 : (List TBind) → Int → Option ((List TBind) × Bool)) (s3 : (List TVal)) (s4 : Bool) (s5 : ByteArray) : Option ((List TBind) × Bool) :=
  ((idx p0.Pats s2).bind fun x3 => ((m_s_MatchPat N x3 (⟨s5, s3⟩ : TFact) s1).bind fun x4 => ((if !s4 then some true else some (!x4.2)).bind fun b1 => (if b1 then some (s1, false) else (K1 x4.1 (i64.wrap (s2 + 1)))))))
def m_s_l13Binds_l1 (N : Nat) (p0 : TRule) (p1 : TStore) (p2 : (List Int)) : Nat → (List TBind) → Int → Option ((List TBind) × Bool)
  | 0, _, _ => none
  | k + 1, s1, s2 =>
    (if decide (s2 < (p2.length : Int)) then ((idx p2 s2).bind fun x5 => ((m_s_FactOf N p1 x5).bind fun x6 => m_s_l13Binds_j2 N p0 s1 s2 (m_s_l13Binds_l1 N p0 p1 p2 k) x6.1.Fields x6.2 x6.1.Kind)) else some (s1, true))
def m_s_l13Binds (N : Nat) (p0 : TRule) (p1 : TStore) (p2 : (List Int)) : Option ((List TBind) × Bool) :=
  m_s_l13Binds_l1 N p0 p1 p2 N ([] : List TBind) 0
def m_s_l13Hit_j2 (N : Nat) (s1 : (List Int)) (s2 : Int) (K1 : (List Int) → Int → Option ((List Int))) (s3 : Int) : Option ((List Int)) :=
  ((app s1 ([s3] : List Int)).bind fun x4 => (K1 x4 (i64.wrap (s2 + 1))))
def m_s_l13Hit_l1 (N : Nat) (p0 : TRule) (p1 : TFact) (p2 : (List TBind)) : Nat → (List Int) → Int → Option ((List Int))
  | 0, _, _ => none
  | k + 1, s1, s2 =>
    (if decide (s2 < (p0.Pats.length : Int)) then ((idx p0.Pats s2).bind fun x1 => (if x1.Not then ((idx p0.Pats s2).bind fun x2 => ((m_s_MatchPat N x2 p1 p2).bind fun x3 => (if x3.2 then m_s_l13Hit_j2 N s1 s2 (m_s_l13Hit_l1 N p0 p1 p2 k) 1 else m_s_l13Hit_j2 N s1 s2 (m_s_l13Hit_l1 N p0 p1 p2 k) 0))) else ((m_s_l13Hit_l1 N p0 p1 p2 k) s1 (i64.wrap (s2 + 1))))) else some s1)
def m_s_l13Hit (N : Nat) (p0 : TRule) (p1 : TFact) (p2 : (List TBind)) : Option ((List Int)) :=
  m_s_l13Hit_l1 N p0 p1 p2 N ([] : List Int) 0
def m_s_l13Turn_l2 (N : Nat) (p4 : Int) (s2 : Int) (K1 : (List TTok) → Int → Option ((List TTok))) (x2 : (List TBind) × Bool) (x3 : (List Int)) : Nat → (List TTok) → Int → Option ((List TTok))
  | 0, _, _ => none
  | k + 1, s3, s4 =>
    ((if decide (s4 < (x3.length : Int)) then some x2.2 else some false).bind fun b1 => (if b1 then ((idx s3 s2).bind fun x4 => ((idx x4.Hits s4).bind fun x5 => ((idx x3 s4).bind fun x6 => ((idx x4.Hits s4).bind fun x7 => ((m_s_l13Turn_l2 N p4 s2 K1 x2 x3 k) (s3.set s2.toNat (⟨x4.Ids, (x4.Hits.set s4.toNat (i64.wrap (x5 + (i64.wrap (p4 * x6)))))⟩ : TTok)) (i64.wrap (s4 + 1))))))) else (K1 s3 (i64.wrap (s2 + 1)))))
def m_s_l13Turn_l1 (N : Nat) (p0 : TRule) (p1 : TStore) (p3 : TFact) (p4 : Int) : Nat → (List TTok) → Int → Option ((List TTok))
  | 0, _, _ => none
  | k + 1, s1, s2 =>
    (if decide (s2 < (s1.length : Int)) then ((idx s1 s2).bind fun x1 => ((m_s_l13Binds N p0 p1 x1.Ids).bind fun x2 => ((m_s_l13Hit N p0 p3 x2.1).bind fun x3 => m_s_l13Turn_l2 N p4 s2 (m_s_l13Turn_l1 N p0 p1 p3 p4 k) x2 x3 N s1 0))) else some s1)
def m_s_l13Turn (N : Nat) (p0 : TRule) (p1 : TStore) (p2 : (List TTok)) (p3 : TFact) (p4 : Int) : Option ((List TTok)) :=
  m_s_l13Turn_l1 N p0 p1 p3 p4 N p2 0
def m_s_l13Join (N : Nat) (p0 : (List TTok)) (p1 : TRule) (p2 : TStore) (p3 : (List Int)) (p4 : Int) : Option ((List TTok)) :=
  ((app ([] : List Int) p3).bind fun x1 => ((app x1 ([p4] : List Int)).bind fun x2 => ((m_s_l13Binds N p1 p2 x2).bind fun x3 => (if !x3.2 then some p0 else ((app p0 ([(⟨x2, ([] : List Int)⟩ : TTok)] : List TTok)).bind fun x4 => some x4)))))
def m_s_l13Count_l2 (N : Nat) (s2 : Int) (K1 : (List Int) → Int → Option (TTok)) (x5 : (List Int)) : Nat → (List Int) → Int → Option (TTok)
  | 0, _, _ => none
  | k + 1, s3, s4 =>
    (if decide (s4 < (x5.length : Int)) then ((idx s3 s4).bind fun x6 => ((idx x5 s4).bind fun x7 => ((idx s3 s4).bind fun x8 => ((m_s_l13Count_l2 N s2 K1 x5 k) (s3.set s4.toNat (i64.wrap (x6 + x7))) (i64.wrap (s4 + 1)))))) else (K1 s3 (i64.wrap (s2 + 1))))
def m_s_l13Count_l1 (N : Nat) (p0 : TRule) (p1 : TStore) (p2 : TTok) (x1 : (List TBind) × Bool) : Nat → (List Int) → Int → Option (TTok)
  | 0, _, _ => none
  | k + 1, s1, s2 =>
    (if decide (s2 < (p1.Items.length : Int)) then ((idx p1.Items s2).bind fun x4 => ((m_s_l13Hit N p0 x4.F x1.1).bind fun x5 => m_s_l13Count_l2 N s2 (m_s_l13Count_l1 N p0 p1 p2 x1 k) x5 N s1 0)) else some (⟨p2.Ids, s1⟩ : TTok))
def m_s_l13Count (N : Nat) (p0 : TRule) (p1 : TStore) (p2 : TTok) : Option (TTok) :=
  ((m_s_l13Binds N p0 p1 p2.Ids).bind fun x1 => ((m_s_PosCount N p0).bind fun x2 => ((mk 0 (i64.wrap ((p0.Pats.length : Int) - x2))).bind fun x3 => m_s_l13Count_l1 N p0 p1 p2 x1 N x3 0)))
def m_s_l13Rule_l6 (N : Nat) (p0 : TRule) (p4 : TStore) (s2 : (List TTok)) (x12 : TIds) (s9 : Int) (K5 : (List TTok) → Int → Option (TMem)) : Nat → (List TTok) → Int → Option (TMem)
  | 0, _, _ => none
  | k + 1, s10, s11 =>
    (if decide (s11 < (x12.L.length : Int)) then ((idx s2 s9).bind fun x13 => ((idx x12.L s11).bind fun x14 => ((m_s_l13Join N s10 p0 p4 x13.Ids x14).bind fun x15 => ((m_s_l13Rule_l6 N p0 p4 s2 x12 s9 K5 k) x15 (i64.wrap (s11 + 1)))))) else (K5 s10 (i64.wrap (s9 + 1))))
def m_s_l13Rule_l7 (N : Nat) (p0 : TRule) (p4 : TStore) (x1 : TRow) (s1 : (List TLevel)) (s3 : Int) (K1 : (List TLevel) → (List TTok) → Int → Option (TMem)) : Nat → (List TTok) → Int → Option (TMem)
  | 0, _, _ => none
  | k + 1, s12, s13 =>
    ((if decide (s13 < (s12.length : Int)) then some (decide (s3 = i64.wrap ((x1.Levels.length : Int) - 1))) else some false).bind fun b3 => (if b3 then ((idx s12 s13).bind fun x16 => ((m_s_l13Count N p0 p4 x16).bind fun x17 => ((m_s_l13Rule_l7 N p0 p4 x1 s1 s3 K1 k) (s12.set s13.toNat x17) (i64.wrap (s13 + 1))))) else ((idx s1 s3).bind fun x18 => ((app x18.Toks s12).bind fun x19 => (K1 (s1.set s3.toNat (⟨x19⟩ : TLevel)) s12 (i64.wrap (s3 + 1)))))))
def m_s_l13Rule_l5 (N : Nat) (p0 : TRule) (p4 : TStore) (x1 : TRow) (s1 : (List TLevel)) (s2 : (List TTok)) (s3 : Int) (K1 : (List TLevel) → (List TTok) → Int → Option (TMem)) (x12 : TIds) : Nat → (List TTok) → Int → Option (TMem)
  | 0, _, _ => none
  | k + 1, s8, s9 =>
    (if decide (s9 < (s2.length : Int)) then m_s_l13Rule_l6 N p0 p4 s2 x12 s9 (m_s_l13Rule_l5 N p0 p4 x1 s1 s2 s3 K1 x12 k) N s8 0 else m_s_l13Rule_l7 N p0 p4 x1 s1 s3 K1 N s8 0)
def m_s_l13Rule_l4 (N : Nat) (p0 : TRule) (p1 : TChain) (p2 : TMem) (p4 : TStore) (p5 : Int) (p7 : (List Bool)) (x1 : TRow) (s1 : (List TLevel)) (s2 : (List TTok)) (s3 : Int) (K1 : (List TLevel) → (List TTok) → Int → Option (TMem)) (s5 : Int) : Nat → (List TTok) → Int → Option (TMem)
  | 0, _, _ => none
  | k + 1, s6, s7 =>
    ((if decide (s7 < s5) then ((idx p1.Pos s3).bind fun x6 => ((idx p7 x6).bind fun x7 => some x7)) else some false).bind fun b2 => (if b2 then ((idx s1 (i64.wrap (s3 - 1))).bind fun x8 => ((idx x8.Toks s7).bind fun x9 => ((m_s_l13Join N s6 p0 p4 x9.Ids p5).bind fun x10 => ((m_s_l13Rule_l4 N p0 p1 p2 p4 p5 p7 x1 s1 s2 s3 K1 s5 k) x10 (i64.wrap (s7 + 1)))))) else ((idx p1.Pos s3).bind fun x11 => ((idx p2.Alphas x11).bind fun x12 => m_s_l13Rule_l5 N p0 p4 x1 s1 s2 s3 K1 x12 N s6 0))))
def m_s_l13Rule_j3 (N : Nat) (p0 : TRule) (p1 : TChain) (p2 : TMem) (p4 : TStore) (p5 : Int) (p7 : (List Bool)) (x1 : TRow) (s1 : (List TLevel)) (s2 : (List TTok)) (s3 : Int) (K1 : (List TLevel) → (List TTok) → Int → Option (TMem)) (s4 : (List TTok)) (s5 : Int) : Option (TMem) :=
  m_s_l13Rule_l4 N p0 p1 p2 p4 p5 p7 x1 s1 s2 s3 K1 s5 N s4 0
def m_s_l13Rule_j2 (N : Nat) (p0 : TRule) (p1 : TChain) (p2 : TMem) (p4 : TStore) (p5 : Int) (p7 : (List Bool)) (x1 : TRow) (s1 : (List TLevel)) (s2 : (List TTok)) (s3 : Int) (K1 : (List TLevel) → (List TTok) → Int → Option (TMem)) (s4 : (List TTok)) : Option (TMem) :=
  (if decide (0 < s3) then ((idx s1 (i64.wrap (s3 - 1))).bind fun x20 => m_s_l13Rule_j3 N p0 p1 p2 p4 p5 p7 x1 s1 s2 s3 K1 s4 (i64.wrap ((x20.Toks.length : Int) - (s2.length : Int)))) else m_s_l13Rule_j3 N p0 p1 p2 p4 p5 p7 x1 s1 s2 s3 K1 s4 0)
def m_s_l13Rule_l1 (N : Nat) (p0 : TRule) (p1 : TChain) (p2 : TMem) (p3 : Int) (p4 : TStore) (p5 : Int) (p7 : (List Bool)) (x1 : TRow) : Nat → (List TLevel) → (List TTok) → Int → Option (TMem)
  | 0, _, _, _ => none
  | k + 1, s1, s2, s3 =>
    (if decide (s3 ≤ i64.wrap ((x1.Levels.length : Int) - 1)) then ((if decide (s3 = 0) then ((idx p1.Pos 0).bind fun x4 => ((idx p7 x4).bind fun x5 => some x5)) else some false).bind fun b1 => (if b1 then ((m_s_l13Join N ([] : List TTok) p0 p4 ([] : List Int) p5).bind fun x21 => m_s_l13Rule_j2 N p0 p1 p2 p4 p5 p7 x1 s1 s2 s3 (m_s_l13Rule_l1 N p0 p1 p2 p3 p4 p5 p7 x1 k) x21) else m_s_l13Rule_j2 N p0 p1 p2 p4 p5 p7 x1 s1 s2 s3 (m_s_l13Rule_l1 N p0 p1 p2 p3 p4 p5 p7 x1 k) ([] : List TTok))) else some (⟨p2.Alphas, (p2.Rules.set p3.toNat (⟨s1⟩ : TRow))⟩ : TMem))
def m_s_l13Rule (N : Nat) (p0 : TRule) (p1 : TChain) (p2 : TMem) (p3 : Int) (p4 : TStore) (p5 : Int) (p6 : TFact) (p7 : (List Bool)) : Option (TMem) :=
  ((idx p2.Rules p3).bind fun x1 => ((idx x1.Levels (i64.wrap ((x1.Levels.length : Int) - 1))).bind fun x2 => ((m_s_l13Turn N p0 p4 x2.Toks p6 1).bind fun x3 => m_s_l13Rule_l1 N p0 p1 p2 p3 p4 p5 p7 x1 N (x1.Levels.set (i64.wrap ((x1.Levels.length : Int) - 1)).toNat (⟨x3⟩ : TLevel)) ([] : List TTok) 0)))
def m_s_l13Add_l2 (N : Nat) (p0 : TDef) (p1 : TNet) (p3 : TStore) (p4 : Int) (x1 : TFact × Bool) (s1 : (List TIds)) (s2 : (List Bool)) : Nat → (List TRow) → Int → Option (TMem)
  | 0, _, _ => none
  | k + 1, s4, s5 =>
    (if decide (s5 < (p0.Rules.length : Int)) then ((idx p0.Rules s5).bind fun x7 => ((idx p1.Chains s5).bind fun x8 => ((m_s_l13Rule N x7 x8 (⟨s1, s4⟩ : TMem) s5 p3 p4 x1.1 s2).bind fun x9 => ((m_s_l13Add_l2 N p0 p1 p3 p4 x1 s1 s2 k) x9.Rules (i64.wrap (s5 + 1)))))) else some (⟨s1, s4⟩ : TMem))
def m_s_l13Add_l1 (N : Nat) (p0 : TDef) (p1 : TNet) (p2 : TMem) (p3 : TStore) (p4 : Int) (x1 : TFact × Bool) : Nat → (List TIds) → (List Bool) → Int → Option (TMem)
  | 0, _, _, _ => none
  | k + 1, s1, s2, s3 =>
    (if decide (s3 < (p1.Alphas.length : Int)) then ((idx p1.Alphas s3).bind fun x2 => ((m_s_Passes N x2 x1.1).bind fun x3 => ((app s2 ([x3] : List Bool)).bind fun x4 => (if x3 then ((idx s1 s3).bind fun x5 => ((app x5.L ([p4] : List Int)).bind fun x6 => ((m_s_l13Add_l1 N p0 p1 p2 p3 p4 x1 k) (s1.set s3.toNat (⟨x6⟩ : TIds)) x4 (i64.wrap (s3 + 1))))) else ((m_s_l13Add_l1 N p0 p1 p2 p3 p4 x1 k) s1 x4 (i64.wrap (s3 + 1))))))) else m_s_l13Add_l2 N p0 p1 p3 p4 x1 s1 s2 N p2.Rules 0)
def m_s_l13Add (N : Nat) (p0 : TDef) (p1 : TNet) (p2 : TMem) (p3 : TStore) (p4 : Int) : Option (TMem) :=
  ((m_s_FactOf N p3 p4).bind fun x1 => m_s_l13Add_l1 N p0 p1 p2 p3 p4 x1 N p2.Alphas ([] : List Bool) 0)
def m_s_MemNew_l3 (N : Nat) (p0 : TNet) (s3 : (List TRow)) (s4 : Int) (K2 : (List TRow) → Int → Option (TMem)) : Nat → (List TLevel) → Int → Option (TMem)
  | 0, _, _ => none
  | k + 1, s5, s6 =>
    ((idx p0.Chains s4).bind fun x2 => (if decide (s6 < (x2.Pos.length : Int)) then ((app s5 ([(⟨[]⟩ : TLevel)] : List TLevel)).bind fun x3 => ((m_s_MemNew_l3 N p0 s3 s4 K2 k) x3 (i64.wrap (s6 + 1)))) else ((app s3 ([(⟨s5⟩ : TRow)] : List TRow)).bind fun x4 => (K2 x4 (i64.wrap (s4 + 1))))))
def m_s_MemNew_l2 (N : Nat) (p0 : TNet) (s1 : (List TIds)) : Nat → (List TRow) → Int → Option (TMem)
  | 0, _, _ => none
  | k + 1, s3, s4 =>
    (if decide (s4 < (p0.Chains.length : Int)) then m_s_MemNew_l3 N p0 s3 s4 (m_s_MemNew_l2 N p0 s1 k) N ([] : List TLevel) 0 else some (⟨s1, s3⟩ : TMem))
def m_s_MemNew_l1 (N : Nat) (p0 : TNet) : Nat → (List TIds) → Int → Option (TMem)
  | 0, _, _ => none
  | k + 1, s1, s2 =>
    (if decide (s2 < (p0.Alphas.length : Int)) then ((app s1 ([(⟨[]⟩ : TIds)] : List TIds)).bind fun x1 => ((m_s_MemNew_l1 N p0 k) x1 (i64.wrap (s2 + 1)))) else m_s_MemNew_l2 N p0 s1 N ([] : List TRow) 0)
def m_s_MemNew (N : Nat) (p0 : TNet) : Option (TMem) :=
  m_s_MemNew_l1 N p0 N ([] : List TIds) 0
def m_s_l13Of_l1 (N : Nat) (p0 : TDef) (p1 : TNet) (p2 : TStore) : Nat → (List TIds) → (List TRow) → Int → Option (TMem)
  | 0, _, _, _ => none
  | k + 1, s1, s2, s3 =>
    (if decide (s3 < (p2.Items.length : Int)) then ((ssl p2.Items 0 (i64.wrap (s3 + 1))).bind fun x2 => ((idx p2.Items s3).bind fun x3 => ((m_s_l13Add N p0 p1 (⟨s1, s2⟩ : TMem) (⟨x2, p2.Next⟩ : TStore) x3.Id).bind fun x4 => ((m_s_l13Of_l1 N p0 p1 p2 k) x4.Alphas x4.Rules (i64.wrap (s3 + 1)))))) else some (⟨s1, s2⟩ : TMem))
def m_s_l13Of (N : Nat) (p0 : TDef) (p1 : TNet) (p2 : TStore) : Option (TMem) :=
  ((m_s_MemNew N p1).bind fun x1 => m_s_l13Of_l1 N p0 p1 p2 N x1.Alphas x1.Rules 0)
def m_s_MemOf (N : Nat) (p0 : TDef) (p1 : TStore) : Option (TMem) :=
  ((m_s_DefOk N p0).bind fun x1 => ((if !x1 then some true else ((m_s_StoreOk N p1).bind fun x2 => some (!x2))).bind fun b1 => (if b1 then some (⟨[], []⟩ : TMem) else ((m_s_l12Net N p0).bind fun x3 => ((m_s_l13Of N p0 x3 p1).bind fun x5 => some x5)))))
def m_l_FnExactMemOf_j2 (N : Nat) (s1 : (List TIds)) (s2 : (List TRow)) (x17 : Int × (List TIds) × (List TRow)) (s3 : (List TIds)) (s4 : (List TRow)) : Option (Bool) :=
  ((m_l_eqMem N (⟨s3, s4⟩ : TMem) (⟨s1, s2⟩ : TMem)).bind fun x22 => (if !x22 then some false else ((m_l_heldMem N (⟨x17.2.1, x17.2.2⟩ : TMem) 1).bind fun x23 => (if decide (x23 < 0) then some false else (if !decide (x23 = x17.1) then some false else some true)))))
def m_l_FnExactMemOf_j1 (N : Nat) (p0 : TDef) (p1 : TStore) (s1 : (List TIds)) (s2 : (List TRow)) : Option (Bool) :=
  ((m_l_toDef N p0).bind fun x6 => ((m_l_toStore N p1).bind fun x7 => ((m_i_MemOf N x6 x7).bind fun x8 => ((m_l_eqMem N x8 (⟨s1, s2⟩ : TMem)).bind fun x9 => (if !x9 then some false else ((m_l_toDef N p0).bind fun x10 => ((m_l_eqDef N x6 x10).bind fun x11 => (if !x11 then some false else ((m_l_toStore N p1).bind fun x12 => ((m_l_eqStore N x7 x12).bind fun x13 => (if !x13 then some false else ((m_l_markDef N x6 1).bind fun x14 => ((m_l_markStore N x7 x14.1).bind fun x15 => ((if decide (x15.1 < 0) then some true else ((m_l_eqMem N x8 (⟨s1, s2⟩ : TMem)).bind fun x16 => some (!x16))).bind fun b1 => (if b1 then some false else ((m_l_markMem N x8 1).bind fun x17 => ((m_l_heldMem N (⟨x17.2.1, x17.2.2⟩ : TMem) 1).bind fun x18 => (if decide (x18 < 0) then some false else (if !decide (x18 = x17.1) then some false else ((m_l_toDef N p0).bind fun x24 => ((m_l_toStore N p1).bind fun x25 => ((m_i_MemOf N x24 x25).bind fun x26 => m_l_FnExactMemOf_j2 N s1 s2 x17 x26.Alphas x26.Rules))))))))))))))))))))))
def m_l_FnExactMemOf (N : Nat) (p0 : TDef) (p1 : TStore) : Option (Bool) :=
  ((m_l_szDef N p0 1048576).bind fun x1 => (if decide (x1 < 0) then some true else ((m_l_szStore N p1 x1).bind fun x2 => (if decide (x2 < 0) then some true else ((m_l_toDef N p0).bind fun x33 => ((m_l_toStore N p1).bind fun x34 => ((m_s_MemOf N x33 x34).bind fun x35 => m_l_FnExactMemOf_j1 N p0 p1 x35.Alphas x35.Rules)))))))
end Go.Proofs.YtdihjeeniojdmaaGreat
