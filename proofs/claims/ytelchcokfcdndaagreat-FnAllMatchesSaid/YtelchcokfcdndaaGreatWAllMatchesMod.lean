/- Printed by a program of ours: Lean functions of plain data for the Go functions. -/
import Derived.Test.YtelchcokfcdndaaGreatEK
namespace Go.Proofs.YtelchcokfcdndaaGreat
open Eng
set_option linter.unusedVariables false
set_option linter.unusedSimpArgs false

structure Tl1Cur where
  b : (List Int)
  i : Int
  h : Int
  deriving DecidableEq
def RTl1Cur (Φ : Hp) (F : List Nat) (cs : List Value) (x : Tl1Cur) : Prop :=
  ∃ (s0 : Value) (F0 : List Nat), cs = [s0, .int .i64 x.i, .int .i64 x.h] ∧ F = F0 ∧ RSl (RI .u8) 1 Φ F0 s0 x.b
theorem RTl1Cur.lasts : Lasts RTl1Cur := fun X Φ Φ' F cs x hf hd ⟨s0, F0, hc, hF, h0⟩ => by
  rw [hF] at hd
  exact ⟨s0, F0, hc, hF, h0.frame RI.lasts hf (fun k hk => hd k (by simp [hk]))⟩
theorem RTl1Cur.knows : Knows RTl1Cur := fun Φ F cs x ⟨s0, F0, hc, hF, h0⟩ => hF ▸ h0.kn
theorem RTl1Cur.one : Ones RTl1Cur := fun _ _ _ _ h => by obtain ⟨s0, F0, rfl, -, h0⟩ := h; exact One.all ⟨h0.one, rfl, rfl, trivial⟩
def OTl1Cur (Φ : Hp) (F : List Nat) (cs : List Value) (x : Tl1Cur) : Prop :=
  ∃ (s0 : Value), cs = [s0, .int .i64 x.i, .int .i64 x.h] ∧ F = (ob s0 ++ []) ∧ OSl (RI .u8) 5 1 Φ [] s0 x.b
theorem OTl1Cur.lasts : Lasts OTl1Cur := fun X Φ Φ' F cs x hf hd ⟨s0, hc, hF, h0⟩ => by
  rw [hF] at hd
  exact ⟨s0, hc, hF, h0.frame RI.lasts hf (fun k hk => hd k (by simp [hk])) (Dj.nil _)⟩
theorem OTl1Cur.knows : Knows OTl1Cur := fun Φ F cs x ⟨s0, hc, hF, h0⟩ => hF ▸ (h0.knO.app h0.kn)
theorem OTl1Cur.one : Ones OTl1Cur := fun _ _ _ _ h => by obtain ⟨s0, rfl, -, h0⟩ := h; exact One.all ⟨h0.one, rfl, rfl, trivial⟩
theorem OTl1Cur.gives : Gives OTl1Cur RTl1Cur := fun Φ F cs x ⟨s0, hc, hF, h0⟩ => ⟨s0, ob s0 ++ [], hc, hF, h0.rslG (Gives.refl _)⟩
structure TVal where
  K : Int
  N : Int
  S : ByteArray
  deriving DecidableEq
def RTVal (Φ : Hp) (F : List Nat) (cs : List Value) (x : TVal) : Prop := cs = [.int .i64 x.K, .int .i64 x.N, .string x.S] ∧ F = []
theorem RTVal.lasts : Lasts RTVal := fun _ _ _ _ _ _ _ _ h => h
theorem RTVal.knows : Knows RTVal := fun _ _ _ _ h => h.2 ▸ Kw.nil
theorem RTVal.flat : Flat RTVal := fun _ _ _ _ h => h.2
theorem RTVal.one : Ones RTVal := fun _ _ _ _ h => by obtain ⟨rfl, -⟩ := h; exact One.all ⟨rfl, rfl, rfl, trivial⟩
structure TArg where
  K : Int
  S : ByteArray
  V : TVal
  deriving DecidableEq
def RTArg (Φ : Hp) (F : List Nat) (cs : List Value) (x : TArg) : Prop := cs = [.int .i64 x.K, .string x.S, .int .i64 x.V.K, .int .i64 x.V.N, .string x.V.S] ∧ F = []
theorem RTArg.lasts : Lasts RTArg := fun _ _ _ _ _ _ _ _ h => h
theorem RTArg.knows : Knows RTArg := fun _ _ _ _ h => h.2 ▸ Kw.nil
theorem RTArg.flat : Flat RTArg := fun _ _ _ _ h => h.2
theorem RTArg.one : Ones RTArg := fun _ _ _ _ h => by obtain ⟨rfl, -⟩ := h; exact One.all ⟨rfl, rfl, rfl, rfl, rfl, trivial⟩
structure TPat where
  Kind : ByteArray
  Args : (List TArg)
  Not : Bool
  deriving DecidableEq
def RTPat (Φ : Hp) (F : List Nat) (cs : List Value) (x : TPat) : Prop :=
  ∃ (s0 : Value) (F0 : List Nat), cs = [.string x.Kind, s0, .bool x.Not] ∧ F = F0 ∧ RSl RTArg 5 Φ F0 s0 x.Args
theorem RTPat.lasts : Lasts RTPat := fun X Φ Φ' F cs x hf hd ⟨s0, F0, hc, hF, h0⟩ => by
  rw [hF] at hd
  exact ⟨s0, F0, hc, hF, h0.frame RTArg.lasts hf (fun k hk => hd k (by simp [hk]))⟩
theorem RTPat.knows : Knows RTPat := fun Φ F cs x ⟨s0, F0, hc, hF, h0⟩ => hF ▸ h0.kn
theorem RTPat.one : Ones RTPat := fun _ _ _ _ h => by obtain ⟨s0, F0, rfl, -, h0⟩ := h; exact One.all ⟨rfl, h0.one, rfl, trivial⟩
def OTPat (Φ : Hp) (F : List Nat) (cs : List Value) (x : TPat) : Prop :=
  ∃ (s0 : Value), cs = [.string x.Kind, s0, .bool x.Not] ∧ F = (ob s0 ++ []) ∧ OSl RTArg 137 5 Φ [] s0 x.Args
theorem OTPat.lasts : Lasts OTPat := fun X Φ Φ' F cs x hf hd ⟨s0, hc, hF, h0⟩ => by
  rw [hF] at hd
  exact ⟨s0, hc, hF, h0.frame RTArg.lasts hf (fun k hk => hd k (by simp [hk])) (Dj.nil _)⟩
theorem OTPat.knows : Knows OTPat := fun Φ F cs x ⟨s0, hc, hF, h0⟩ => hF ▸ (h0.knO.app h0.kn)
theorem OTPat.one : Ones OTPat := fun _ _ _ _ h => by obtain ⟨s0, rfl, -, h0⟩ := h; exact One.all ⟨rfl, h0.one, rfl, trivial⟩
theorem OTPat.gives : Gives OTPat RTPat := fun Φ F cs x ⟨s0, hc, hF, h0⟩ => ⟨s0, ob s0 ++ [], hc, hF, h0.rslG (Gives.refl _)⟩
structure TCond where
  Op : Int
  L : TArg
  R : TArg
  deriving DecidableEq
def RTCond (Φ : Hp) (F : List Nat) (cs : List Value) (x : TCond) : Prop := cs = [.int .i64 x.Op, .int .i64 x.L.K, .string x.L.S, .int .i64 x.L.V.K, .int .i64 x.L.V.N, .string x.L.V.S, .int .i64 x.R.K, .string x.R.S, .int .i64 x.R.V.K, .int .i64 x.R.V.N, .string x.R.V.S] ∧ F = []
theorem RTCond.lasts : Lasts RTCond := fun _ _ _ _ _ _ _ _ h => h
theorem RTCond.knows : Knows RTCond := fun _ _ _ _ h => h.2 ▸ Kw.nil
theorem RTCond.flat : Flat RTCond := fun _ _ _ _ h => h.2
theorem RTCond.one : Ones RTCond := fun _ _ _ _ h => by obtain ⟨rfl, -⟩ := h; exact One.all ⟨rfl, rfl, rfl, rfl, rfl, rfl, rfl, rfl, rfl, rfl, rfl, trivial⟩
structure TExpr where
  Op : ByteArray
  L : TArg
  R : TArg
  deriving DecidableEq
def RTExpr (Φ : Hp) (F : List Nat) (cs : List Value) (x : TExpr) : Prop := cs = [.string x.Op, .int .i64 x.L.K, .string x.L.S, .int .i64 x.L.V.K, .int .i64 x.L.V.N, .string x.L.V.S, .int .i64 x.R.K, .string x.R.S, .int .i64 x.R.V.K, .int .i64 x.R.V.N, .string x.R.V.S] ∧ F = []
theorem RTExpr.lasts : Lasts RTExpr := fun _ _ _ _ _ _ _ _ h => h
theorem RTExpr.knows : Knows RTExpr := fun _ _ _ _ h => h.2 ▸ Kw.nil
theorem RTExpr.flat : Flat RTExpr := fun _ _ _ _ h => h.2
theorem RTExpr.one : Ones RTExpr := fun _ _ _ _ h => by obtain ⟨rfl, -⟩ := h; exact One.all ⟨rfl, rfl, rfl, rfl, rfl, rfl, rfl, rfl, rfl, rfl, rfl, trivial⟩
structure TAct where
  Kind : Int
  Name : ByteArray
  Args : (List TExpr)
  N : Int
  Undo : ByteArray
  deriving DecidableEq
def RTAct (Φ : Hp) (F : List Nat) (cs : List Value) (x : TAct) : Prop :=
  ∃ (s0 : Value) (F0 : List Nat), cs = [.int .i64 x.Kind, .string x.Name, s0, .int .i64 x.N, .string x.Undo] ∧ F = F0 ∧ RSl RTExpr 11 Φ F0 s0 x.Args
theorem RTAct.lasts : Lasts RTAct := fun X Φ Φ' F cs x hf hd ⟨s0, F0, hc, hF, h0⟩ => by
  rw [hF] at hd
  exact ⟨s0, F0, hc, hF, h0.frame RTExpr.lasts hf (fun k hk => hd k (by simp [hk]))⟩
theorem RTAct.knows : Knows RTAct := fun Φ F cs x ⟨s0, F0, hc, hF, h0⟩ => hF ▸ h0.kn
theorem RTAct.one : Ones RTAct := fun _ _ _ _ h => by obtain ⟨s0, F0, rfl, -, h0⟩ := h; exact One.all ⟨rfl, rfl, h0.one, rfl, rfl, trivial⟩
def OTAct (Φ : Hp) (F : List Nat) (cs : List Value) (x : TAct) : Prop :=
  ∃ (s0 : Value), cs = [.int .i64 x.Kind, .string x.Name, s0, .int .i64 x.N, .string x.Undo] ∧ F = (ob s0 ++ []) ∧ OSl RTExpr 191 11 Φ [] s0 x.Args
theorem OTAct.lasts : Lasts OTAct := fun X Φ Φ' F cs x hf hd ⟨s0, hc, hF, h0⟩ => by
  rw [hF] at hd
  exact ⟨s0, hc, hF, h0.frame RTExpr.lasts hf (fun k hk => hd k (by simp [hk])) (Dj.nil _)⟩
theorem OTAct.knows : Knows OTAct := fun Φ F cs x ⟨s0, hc, hF, h0⟩ => hF ▸ (h0.knO.app h0.kn)
theorem OTAct.one : Ones OTAct := fun _ _ _ _ h => by obtain ⟨s0, rfl, -, h0⟩ := h; exact One.all ⟨rfl, rfl, h0.one, rfl, rfl, trivial⟩
theorem OTAct.gives : Gives OTAct RTAct := fun Φ F cs x ⟨s0, hc, hF, h0⟩ => ⟨s0, ob s0 ++ [], hc, hF, h0.rslG (Gives.refl _)⟩
structure TRule where
  Name : ByteArray
  Sal : Int
  Pats : (List TPat)
  Conds : (List TCond)
  Acts : (List TAct)
  deriving DecidableEq
def RTRule (Φ : Hp) (F : List Nat) (cs : List Value) (x : TRule) : Prop :=
  ∃ (s0 : Value) (F0 : List Nat) (s1 : Value) (F1 : List Nat) (s2 : Value) (F2 : List Nat), cs = [.string x.Name, .int .i64 x.Sal, s0, s1, s2] ∧ F = F0 ++ (F1 ++ (F2)) ∧ RSl RTPat 3 Φ F0 s0 x.Pats ∧ RSl RTCond 11 Φ F1 s1 x.Conds ∧ RSl RTAct 5 Φ F2 s2 x.Acts
theorem RTRule.lasts : Lasts RTRule := fun X Φ Φ' F cs x hf hd ⟨s0, F0, s1, F1, s2, F2, hc, hF, h0, h1, h2⟩ => by
  rw [hF] at hd
  exact ⟨s0, F0, s1, F1, s2, F2, hc, hF, h0.frame RTPat.lasts hf (fun k hk => hd k (by simp [hk])), h1.frame RTCond.lasts hf (fun k hk => hd k (by simp [hk])), h2.frame RTAct.lasts hf (fun k hk => hd k (by simp [hk]))⟩
theorem RTRule.knows : Knows RTRule := fun Φ F cs x ⟨s0, F0, s1, F1, s2, F2, hc, hF, h0, h1, h2⟩ => hF ▸ (h0.kn.app (h1.kn.app h2.kn))
theorem RTRule.one : Ones RTRule := fun _ _ _ _ h => by obtain ⟨s0, F0, s1, F1, s2, F2, rfl, -, h0, h1, h2⟩ := h; exact One.all ⟨rfl, rfl, h0.one, h1.one, h2.one, trivial⟩
def OTRule (Φ : Hp) (F : List Nat) (cs : List Value) (x : TRule) : Prop :=
  ∃ (s0 : Value) (D0 : List Nat) (s1 : Value) (s2 : Value) (D2 : List Nat), cs = [.string x.Name, .int .i64 x.Sal, s0, s1, s2] ∧ F = (ob s0 ++ D0) ++ ((ob s1 ++ []) ++ ((ob s2 ++ D2))) ∧ OSl OTPat 171 3 Φ D0 s0 x.Pats ∧ OSl RTCond 139 11 Φ [] s1 x.Conds ∧ OSl OTAct 143 5 Φ D2 s2 x.Acts
theorem OTRule.lasts : Lasts OTRule := fun X Φ Φ' F cs x hf hd ⟨s0, D0, s1, s2, D2, hc, hF, h0, h1, h2⟩ => by
  rw [hF] at hd
  exact ⟨s0, D0, s1, s2, D2, hc, hF, h0.frame OTPat.lasts hf (fun k hk => hd k (by simp [hk])) (fun k hk => hd k (by simp [hk])), h1.frame RTCond.lasts hf (fun k hk => hd k (by simp [hk])) (Dj.nil _), h2.frame OTAct.lasts hf (fun k hk => hd k (by simp [hk])) (fun k hk => hd k (by simp [hk]))⟩
theorem OTRule.knows : Knows OTRule := fun Φ F cs x ⟨s0, D0, s1, s2, D2, hc, hF, h0, h1, h2⟩ => hF ▸ ((h0.knO.app h0.kn).app ((h1.knO.app h1.kn).app (h2.knO.app h2.kn)))
theorem OTRule.one : Ones OTRule := fun _ _ _ _ h => by obtain ⟨s0, D0, s1, s2, D2, rfl, -, h0, h1, h2⟩ := h; exact One.all ⟨rfl, rfl, h0.one, h1.one, h2.one, trivial⟩
theorem OTRule.gives : Gives OTRule RTRule := fun Φ F cs x ⟨s0, D0, s1, s2, D2, hc, hF, h0, h1, h2⟩ => ⟨s0, ob s0 ++ D0, s1, ob s1 ++ [], s2, ob s2 ++ D2, hc, hF, h0.rslG OTPat.gives, h1.rslG (Gives.refl _), h2.rslG OTAct.gives⟩
structure TDef where
  Name : ByteArray
  Rules : (List TRule)
  deriving DecidableEq
def RTDef (Φ : Hp) (F : List Nat) (cs : List Value) (x : TDef) : Prop :=
  ∃ (s0 : Value) (F0 : List Nat), cs = [.string x.Name, s0] ∧ F = F0 ∧ RSl RTRule 5 Φ F0 s0 x.Rules
theorem RTDef.lasts : Lasts RTDef := fun X Φ Φ' F cs x hf hd ⟨s0, F0, hc, hF, h0⟩ => by
  rw [hF] at hd
  exact ⟨s0, F0, hc, hF, h0.frame RTRule.lasts hf (fun k hk => hd k (by simp [hk]))⟩
theorem RTDef.knows : Knows RTDef := fun Φ F cs x ⟨s0, F0, hc, hF, h0⟩ => hF ▸ h0.kn
theorem RTDef.one : Ones RTDef := fun _ _ _ _ h => by obtain ⟨s0, F0, rfl, -, h0⟩ := h; exact One.all ⟨rfl, h0.one, trivial⟩
def OTDef (Φ : Hp) (F : List Nat) (cs : List Value) (x : TDef) : Prop :=
  ∃ (s0 : Value) (D0 : List Nat), cs = [.string x.Name, s0] ∧ F = (ob s0 ++ D0) ∧ OSl OTRule 40 5 Φ D0 s0 x.Rules
theorem OTDef.lasts : Lasts OTDef := fun X Φ Φ' F cs x hf hd ⟨s0, D0, hc, hF, h0⟩ => by
  rw [hF] at hd
  exact ⟨s0, D0, hc, hF, h0.frame OTRule.lasts hf (fun k hk => hd k (by simp [hk])) (fun k hk => hd k (by simp [hk]))⟩
theorem OTDef.knows : Knows OTDef := fun Φ F cs x ⟨s0, D0, hc, hF, h0⟩ => hF ▸ (h0.knO.app h0.kn)
theorem OTDef.one : Ones OTDef := fun _ _ _ _ h => by obtain ⟨s0, D0, rfl, -, h0⟩ := h; exact One.all ⟨rfl, h0.one, trivial⟩
theorem OTDef.gives : Gives OTDef RTDef := fun Φ F cs x ⟨s0, D0, hc, hF, h0⟩ => ⟨s0, ob s0 ++ D0, hc, hF, h0.rslG OTRule.gives⟩
structure TFact where
  Kind : ByteArray
  Fields : (List TVal)
  deriving DecidableEq
def RTFact (Φ : Hp) (F : List Nat) (cs : List Value) (x : TFact) : Prop :=
  ∃ (s0 : Value) (F0 : List Nat), cs = [.string x.Kind, s0] ∧ F = F0 ∧ RSl RTVal 3 Φ F0 s0 x.Fields
theorem RTFact.lasts : Lasts RTFact := fun X Φ Φ' F cs x hf hd ⟨s0, F0, hc, hF, h0⟩ => by
  rw [hF] at hd
  exact ⟨s0, F0, hc, hF, h0.frame RTVal.lasts hf (fun k hk => hd k (by simp [hk]))⟩
theorem RTFact.knows : Knows RTFact := fun Φ F cs x ⟨s0, F0, hc, hF, h0⟩ => hF ▸ h0.kn
theorem RTFact.one : Ones RTFact := fun _ _ _ _ h => by obtain ⟨s0, F0, rfl, -, h0⟩ := h; exact One.all ⟨rfl, h0.one, trivial⟩
def OTFact (Φ : Hp) (F : List Nat) (cs : List Value) (x : TFact) : Prop :=
  ∃ (s0 : Value), cs = [.string x.Kind, s0] ∧ F = (ob s0 ++ []) ∧ OSl RTVal 85 3 Φ [] s0 x.Fields
theorem OTFact.lasts : Lasts OTFact := fun X Φ Φ' F cs x hf hd ⟨s0, hc, hF, h0⟩ => by
  rw [hF] at hd
  exact ⟨s0, hc, hF, h0.frame RTVal.lasts hf (fun k hk => hd k (by simp [hk])) (Dj.nil _)⟩
theorem OTFact.knows : Knows OTFact := fun Φ F cs x ⟨s0, hc, hF, h0⟩ => hF ▸ (h0.knO.app h0.kn)
theorem OTFact.one : Ones OTFact := fun _ _ _ _ h => by obtain ⟨s0, rfl, -, h0⟩ := h; exact One.all ⟨rfl, h0.one, trivial⟩
theorem OTFact.gives : Gives OTFact RTFact := fun Φ F cs x ⟨s0, hc, hF, h0⟩ => ⟨s0, ob s0 ++ [], hc, hF, h0.rslG (Gives.refl _)⟩
structure TItem where
  Id : Int
  F : TFact
  deriving DecidableEq
def RTItem (Φ : Hp) (F : List Nat) (cs : List Value) (x : TItem) : Prop :=
  ∃ (s0 : Value) (F0 : List Nat), cs = [.int .i64 x.Id, .string x.F.Kind, s0] ∧ F = F0 ∧ RSl RTVal 3 Φ F0 s0 x.F.Fields
theorem RTItem.lasts : Lasts RTItem := fun X Φ Φ' F cs x hf hd ⟨s0, F0, hc, hF, h0⟩ => by
  rw [hF] at hd
  exact ⟨s0, F0, hc, hF, h0.frame RTVal.lasts hf (fun k hk => hd k (by simp [hk]))⟩
theorem RTItem.knows : Knows RTItem := fun Φ F cs x ⟨s0, F0, hc, hF, h0⟩ => hF ▸ h0.kn
theorem RTItem.one : Ones RTItem := fun _ _ _ _ h => by obtain ⟨s0, F0, rfl, -, h0⟩ := h; exact One.all ⟨rfl, rfl, h0.one, trivial⟩
def OTItem (Φ : Hp) (F : List Nat) (cs : List Value) (x : TItem) : Prop :=
  ∃ (s0 : Value), cs = [.int .i64 x.Id, .string x.F.Kind, s0] ∧ F = (ob s0 ++ []) ∧ OSl RTVal 85 3 Φ [] s0 x.F.Fields
theorem OTItem.lasts : Lasts OTItem := fun X Φ Φ' F cs x hf hd ⟨s0, hc, hF, h0⟩ => by
  rw [hF] at hd
  exact ⟨s0, hc, hF, h0.frame RTVal.lasts hf (fun k hk => hd k (by simp [hk])) (Dj.nil _)⟩
theorem OTItem.knows : Knows OTItem := fun Φ F cs x ⟨s0, hc, hF, h0⟩ => hF ▸ (h0.knO.app h0.kn)
theorem OTItem.one : Ones OTItem := fun _ _ _ _ h => by obtain ⟨s0, rfl, -, h0⟩ := h; exact One.all ⟨rfl, rfl, h0.one, trivial⟩
theorem OTItem.gives : Gives OTItem RTItem := fun Φ F cs x ⟨s0, hc, hF, h0⟩ => ⟨s0, ob s0 ++ [], hc, hF, h0.rslG (Gives.refl _)⟩
structure TStore where
  Items : (List TItem)
  Next : Int
  deriving DecidableEq
def RTStore (Φ : Hp) (F : List Nat) (cs : List Value) (x : TStore) : Prop :=
  ∃ (s0 : Value) (F0 : List Nat), cs = [s0, .int .i64 x.Next] ∧ F = F0 ∧ RSl RTItem 3 Φ F0 s0 x.Items
theorem RTStore.lasts : Lasts RTStore := fun X Φ Φ' F cs x hf hd ⟨s0, F0, hc, hF, h0⟩ => by
  rw [hF] at hd
  exact ⟨s0, F0, hc, hF, h0.frame RTItem.lasts hf (fun k hk => hd k (by simp [hk]))⟩
theorem RTStore.knows : Knows RTStore := fun Φ F cs x ⟨s0, F0, hc, hF, h0⟩ => hF ▸ h0.kn
theorem RTStore.one : Ones RTStore := fun _ _ _ _ h => by obtain ⟨s0, F0, rfl, -, h0⟩ := h; exact One.all ⟨h0.one, rfl, trivial⟩
def OTStore (Φ : Hp) (F : List Nat) (cs : List Value) (x : TStore) : Prop :=
  ∃ (s0 : Value) (D0 : List Nat), cs = [s0, .int .i64 x.Next] ∧ F = (ob s0 ++ D0) ∧ OSl OTItem 125 3 Φ D0 s0 x.Items
theorem OTStore.lasts : Lasts OTStore := fun X Φ Φ' F cs x hf hd ⟨s0, D0, hc, hF, h0⟩ => by
  rw [hF] at hd
  exact ⟨s0, D0, hc, hF, h0.frame OTItem.lasts hf (fun k hk => hd k (by simp [hk])) (fun k hk => hd k (by simp [hk]))⟩
theorem OTStore.knows : Knows OTStore := fun Φ F cs x ⟨s0, D0, hc, hF, h0⟩ => hF ▸ (h0.knO.app h0.kn)
theorem OTStore.one : Ones OTStore := fun _ _ _ _ h => by obtain ⟨s0, D0, rfl, -, h0⟩ := h; exact One.all ⟨h0.one, rfl, trivial⟩
theorem OTStore.gives : Gives OTStore RTStore := fun Φ F cs x ⟨s0, D0, hc, hF, h0⟩ => ⟨s0, ob s0 ++ D0, hc, hF, h0.rslG OTItem.gives⟩
def eqT_TVal (x y : TVal) : Bool := ((x.K == y.K) && ((x.N == y.N) && (seq x.S y.S && true)))
theorem seq_dec (a b : ByteArray) : seq a b = decide (a = b) := by
  unfold seq
  by_cases h : a = b
  · subst h; simp
  · have : ¬ a.toList = b.toList := fun e => h (by rw [ByteArray.toList_eq, ByteArray.toList_eq] at e; exact ByteArray.ext (Array.toList_inj.1 e))
    simp [h, this]
theorem eqT_TVal_eq (x y : TVal) : eqT_TVal x y = decide (x = y) := by
  obtain ⟨a0, a1, a2⟩ := x; obtain ⟨b0, b1, b2⟩ := y
  rw [Bool.eq_iff_iff]
  simp only [eqT_TVal, seq_dec, Bool.and_true, Bool.and_eq_true, beq_iff_eq, decide_eq_true_eq, TVal.mk.injEq, and_assoc]
def eqT_TArg (x y : TArg) : Bool := ((x.K == y.K) && (seq x.S y.S && ((x.V.K == y.V.K) && ((x.V.N == y.V.N) && (seq x.V.S y.V.S && true)))))

theorem eqT_TArg_eq (x y : TArg) : eqT_TArg x y = decide (x = y) := by
  obtain ⟨a0, a1, ⟨a20, a21, a22⟩⟩ := x; obtain ⟨b0, b1, ⟨b20, b21, b22⟩⟩ := y
  rw [Bool.eq_iff_iff]
  simp only [eqT_TArg, seq_dec, Bool.and_true, Bool.and_eq_true, beq_iff_eq, decide_eq_true_eq, TArg.mk.injEq, TVal.mk.injEq, and_assoc]
structure TBind where
  Name : ByteArray
  V : TVal
  deriving DecidableEq
def RTBind (Φ : Hp) (F : List Nat) (cs : List Value) (x : TBind) : Prop := cs = [.string x.Name, .int .i64 x.V.K, .int .i64 x.V.N, .string x.V.S] ∧ F = []
theorem RTBind.lasts : Lasts RTBind := fun _ _ _ _ _ _ _ _ h => h
theorem RTBind.knows : Knows RTBind := fun _ _ _ _ h => h.2 ▸ Kw.nil
theorem RTBind.flat : Flat RTBind := fun _ _ _ _ h => h.2
theorem RTBind.one : Ones RTBind := fun _ _ _ _ h => by obtain ⟨rfl, -⟩ := h; exact One.all ⟨rfl, rfl, rfl, rfl, trivial⟩
structure TMatch where
  Rule : Int
  Ids : (List Int)
  Binds : (List TBind)
  deriving DecidableEq
def RTMatch (Φ : Hp) (F : List Nat) (cs : List Value) (x : TMatch) : Prop :=
  ∃ (s0 : Value) (F0 : List Nat) (s1 : Value) (F1 : List Nat), cs = [.int .i64 x.Rule, s0, s1] ∧ F = F0 ++ (F1) ∧ RSl (RI .i64) 1 Φ F0 s0 x.Ids ∧ RSl RTBind 4 Φ F1 s1 x.Binds
theorem RTMatch.lasts : Lasts RTMatch := fun X Φ Φ' F cs x hf hd ⟨s0, F0, s1, F1, hc, hF, h0, h1⟩ => by
  rw [hF] at hd
  exact ⟨s0, F0, s1, F1, hc, hF, h0.frame RI.lasts hf (fun k hk => hd k (by simp [hk])), h1.frame RTBind.lasts hf (fun k hk => hd k (by simp [hk]))⟩
theorem RTMatch.knows : Knows RTMatch := fun Φ F cs x ⟨s0, F0, s1, F1, hc, hF, h0, h1⟩ => hF ▸ (h0.kn.app h1.kn)
theorem RTMatch.one : Ones RTMatch := fun _ _ _ _ h => by obtain ⟨s0, F0, s1, F1, rfl, -, h0, h1⟩ := h; exact One.all ⟨rfl, h0.one, h1.one, trivial⟩
def OTMatch (Φ : Hp) (F : List Nat) (cs : List Value) (x : TMatch) : Prop :=
  ∃ (s0 : Value) (s1 : Value), cs = [.int .i64 x.Rule, s0, s1] ∧ F = (ob s0 ++ []) ++ ((ob s1 ++ [])) ∧ OSl (RI .i64) 3 1 Φ [] s0 x.Ids ∧ OSl RTBind 87 4 Φ [] s1 x.Binds
theorem OTMatch.lasts : Lasts OTMatch := fun X Φ Φ' F cs x hf hd ⟨s0, s1, hc, hF, h0, h1⟩ => by
  rw [hF] at hd
  exact ⟨s0, s1, hc, hF, h0.frame RI.lasts hf (fun k hk => hd k (by simp [hk])) (Dj.nil _), h1.frame RTBind.lasts hf (fun k hk => hd k (by simp [hk])) (Dj.nil _)⟩
theorem OTMatch.knows : Knows OTMatch := fun Φ F cs x ⟨s0, s1, hc, hF, h0, h1⟩ => hF ▸ ((h0.knO.app h0.kn).app (h1.knO.app h1.kn))
theorem OTMatch.one : Ones OTMatch := fun _ _ _ _ h => by obtain ⟨s0, s1, rfl, -, h0, h1⟩ := h; exact One.all ⟨rfl, h0.one, h1.one, trivial⟩
theorem OTMatch.gives : Gives OTMatch RTMatch := fun Φ F cs x ⟨s0, s1, hc, hF, h0, h1⟩ => ⟨s0, ob s0 ++ [], s1, ob s1 ++ [], hc, hF, h0.rslG (Gives.refl _), h1.rslG (Gives.refl _)⟩
def eqT_TBind (x y : TBind) : Bool := (seq x.Name y.Name && ((x.V.K == y.V.K) && ((x.V.N == y.V.N) && (seq x.V.S y.V.S && true))))

theorem eqT_TBind_eq (x y : TBind) : eqT_TBind x y = decide (x = y) := by
  obtain ⟨a0, ⟨a10, a11, a12⟩⟩ := x; obtain ⟨b0, ⟨b10, b11, b12⟩⟩ := y
  rw [Bool.eq_iff_iff]
  simp only [eqT_TBind, seq_dec, Bool.and_true, Bool.and_eq_true, beq_iff_eq, decide_eq_true_eq, TBind.mk.injEq, TVal.mk.injEq, and_assoc]
def m_l_big (N : Nat) (p0 : (List Int)) : Option (Bool) :=
  some (decide (1048576 < (p0.length : Int)))
def m_s_l1New_l1 (N : Nat) (p0 : (List Int)) : Nat → Int → Int → Option (Tl1Cur)
  | 0, _, _ => none
  | k + 1, s1, s2 =>
    ((if decide (s2 < (p0.length : Int)) then some (decide (s2 < 4000)) else some false).bind fun b1 => (if b1 then ((idx p0 s2).bind fun x1 => ((m_s_l1New_l1 N p0 k) (andI .i64 (IntKind.i64.wrap ((IntKind.i64.wrap ((IntKind.i64.wrap (s1 * 137)) + (IntKind.i64.wrap x1))) + 11)) 1073741823) (IntKind.i64.wrap (s2 + 1)))) else some (⟨p0, 0, s1⟩ : Tl1Cur)))
def m_s_l1New (N : Nat) (p0 : (List Int)) : Option (Tl1Cur) :=
  m_s_l1New_l1 N p0 N (IntKind.i64.wrap (354354 + (p0.length : Int))) 0
def m_s_l1Byte (N : Nat) (p0 : Tl1Cur) : Option (Int × Tl1Cur) :=
  (if decide (p0.i < (p0.b.length : Int)) then ((idx p0.b p0.i).bind fun x1 => some ((andI .i64 (IntKind.i64.wrap ((andI .i64 (xorI .i64 (shrI .i64 (IntKind.i64.wrap ((IntKind.i64.wrap (p0.h * 6364136223846793005)) + 1442695040888963407)) 33) (shrI .i64 (IntKind.i64.wrap ((IntKind.i64.wrap (p0.h * 6364136223846793005)) + 1442695040888963407)) 47)) 255) + (IntKind.i64.wrap x1))) 255), (⟨p0.b, IntKind.i64.wrap (p0.i + 1), IntKind.i64.wrap ((IntKind.i64.wrap (p0.h * 6364136223846793005)) + 1442695040888963407)⟩ : Tl1Cur))) else some ((andI .i64 (xorI .i64 (shrI .i64 (IntKind.i64.wrap ((IntKind.i64.wrap (p0.h * 6364136223846793005)) + 1442695040888963407)) 33) (shrI .i64 (IntKind.i64.wrap ((IntKind.i64.wrap (p0.h * 6364136223846793005)) + 1442695040888963407)) 47)) 255), (⟨p0.b, p0.i, IntKind.i64.wrap ((IntKind.i64.wrap (p0.h * 6364136223846793005)) + 1442695040888963407)⟩ : Tl1Cur)))
def m_s_l1Below (N : Nat) (p0 : Tl1Cur) (p1 : Int) : Option (Int × Tl1Cur) :=
  (if decide (p1 ≤ 0) then some (0, p0) else (if decide (p1 ≤ 256) then ((m_s_l1Byte N p0).bind fun x1 => ((remI x1.1 p1).bind fun x2 => some (x2, (⟨p0.b, x1.2.i, x1.2.h⟩ : Tl1Cur)))) else ((m_s_l1Byte N p0).bind fun x3 => ((m_s_l1Byte N (⟨p0.b, x3.2.i, x3.2.h⟩ : Tl1Cur)).bind fun x4 => ((m_s_l1Byte N (⟨p0.b, x4.2.i, x4.2.h⟩ : Tl1Cur)).bind fun x5 => ((remI (IntKind.i64.wrap ((IntKind.i64.wrap ((IntKind.i64.wrap (x3.1 * 65536)) + (IntKind.i64.wrap (x4.1 * 256)))) + x5.1)) p1).bind fun x6 => some (x6, (⟨p0.b, x5.2.i, x5.2.h⟩ : Tl1Cur))))))))
def m_s_l1Str (N : Nat) (p0 : Tl1Cur) (p1 : (List ByteArray)) : Option (ByteArray × Tl1Cur) :=
  ((m_s_l1Below N p0 (p1.length : Int)).bind fun x1 => ((idx p1 x1.1).bind fun x2 => some (x2, (⟨p0.b, x1.2.i, x1.2.h⟩ : Tl1Cur))))
def m_s_l1Once (N : Nat) (p0 : Tl1Cur) (p1 : Int) : Option (Bool × Tl1Cur) :=
  ((m_s_l1Below N p0 p1).bind fun x1 => some (decide (x1.1 = 0), (⟨p0.b, x1.2.i, x1.2.h⟩ : Tl1Cur)))
def m_s_l6Has_l1 (N : Nat) (p0 : (List ByteArray)) (p1 : ByteArray) : Nat → Int → Option (Bool)
  | 0, _ => none
  | k + 1, s1 =>
    (if decide (s1 < (p0.length : Int)) then ((idx p0 s1).bind fun x1 => (if seq x1 p1 then some true else ((m_s_l6Has_l1 N p0 p1 k) (IntKind.i64.wrap (s1 + 1))))) else some false)
def m_s_l6Has (N : Nat) (p0 : (List ByteArray)) (p1 : ByteArray) : Option (Bool) :=
  m_s_l6Has_l1 N p0 p1 N 0
def m_s_VarsOf_l1 (N : Nat) (p0 : TPat) : Nat → (List ByteArray) → Int → Option ((List ByteArray))
  | 0, _, _ => none
  | k + 1, s1, s2 =>
    (if decide (s2 < (p0.Args.length : Int)) then ((idx p0.Args s2).bind fun x1 => ((if decide (x1.K = 1) then ((idx p0.Args s2).bind fun x2 => ((m_s_l6Has N s1 x2.S).bind fun x3 => some (!x3))) else some false).bind fun b1 => (if b1 then ((idx p0.Args s2).bind fun x4 => ((app s1 ([x4.S] : List ByteArray)).bind fun x5 => ((m_s_VarsOf_l1 N p0 k) x5 (IntKind.i64.wrap (s2 + 1))))) else ((m_s_VarsOf_l1 N p0 k) s1 (IntKind.i64.wrap (s2 + 1)))))) else some s1)
def m_s_VarsOf (N : Nat) (p0 : TPat) : Option ((List ByteArray)) :=
  m_s_VarsOf_l1 N p0 N ([] : List ByteArray) 0
def m_s_PosVars_l2 (N : Nat) (p0 : TRule) (s2 : Int) (K1 : (List ByteArray) → Int → Option ((List ByteArray))) (x2 : (List ByteArray)) : Nat → (List ByteArray) → Int → Option ((List ByteArray))
  | 0, _, _ => none
  | k + 1, s3, s4 =>
    ((if decide (s4 < (x2.length : Int)) then ((idx p0.Pats s2).bind fun x3 => some (!x3.Not)) else some false).bind fun b1 => (if b1 then ((idx x2 s4).bind fun x4 => ((m_s_l6Has N s3 x4).bind fun x5 => (if !x5 then ((idx x2 s4).bind fun x6 => ((app s3 ([x6] : List ByteArray)).bind fun x7 => ((m_s_PosVars_l2 N p0 s2 K1 x2 k) x7 (IntKind.i64.wrap (s4 + 1))))) else ((m_s_PosVars_l2 N p0 s2 K1 x2 k) s3 (IntKind.i64.wrap (s4 + 1)))))) else (K1 s3 (IntKind.i64.wrap (s2 + 1)))))
def m_s_PosVars_l1 (N : Nat) (p0 : TRule) : Nat → (List ByteArray) → Int → Option ((List ByteArray))
  | 0, _, _ => none
  | k + 1, s1, s2 =>
    (if decide (s2 < (p0.Pats.length : Int)) then ((idx p0.Pats s2).bind fun x1 => ((m_s_VarsOf N x1).bind fun x2 => m_s_PosVars_l2 N p0 s2 (m_s_PosVars_l1 N p0 k) x2 N s1 0)) else some s1)
def m_s_PosVars (N : Nat) (p0 : TRule) : Option ((List ByteArray)) :=
  m_s_PosVars_l1 N p0 N ([] : List ByteArray) 0
def m_s_PosCount_l1 (N : Nat) (p0 : TRule) : Nat → Int → Int → Option (Int)
  | 0, _, _ => none
  | k + 1, s1, s2 =>
    (if decide (s2 < (p0.Pats.length : Int)) then ((idx p0.Pats s2).bind fun x1 => (if !x1.Not then ((m_s_PosCount_l1 N p0 k) (IntKind.i64.wrap (s1 + 1)) (IntKind.i64.wrap (s2 + 1))) else ((m_s_PosCount_l1 N p0 k) s1 (IntKind.i64.wrap (s2 + 1))))) else some s1)
def m_s_PosCount (N : Nat) (p0 : TRule) : Option (Int) :=
  m_s_PosCount_l1 N p0 N 0 0
def m_s_l1Int (N : Nat) (p0 : Tl1Cur) (p1 : (List Int)) : Option (Int × Tl1Cur) :=
  ((m_s_l1Below N p0 (p1.length : Int)).bind fun x1 => ((idx p1 x1.1).bind fun x2 => some (x2, (⟨p0.b, x1.2.i, x1.2.h⟩ : Tl1Cur))))
def m_s_l3Small (N : Nat) (p0 : Tl1Cur) : Option (TVal × Tl1Cur) :=
  ((m_s_l1Once N p0 2).bind fun x1 => (if x1.1 then ((m_s_l1Below N (⟨p0.b, x1.2.i, x1.2.h⟩ : Tl1Cur) 3).bind fun x2 => some ((⟨1, IntKind.i64.wrap (1 + x2.1), (⟨#[]⟩ : ByteArray)⟩ : TVal), (⟨p0.b, x2.2.i, x2.2.h⟩ : Tl1Cur))) else ((m_s_l1Str N (⟨p0.b, x1.2.i, x1.2.h⟩ : Tl1Cur) ([(⟨#[97]⟩ : ByteArray), (⟨#[98]⟩ : ByteArray)] : List ByteArray)).bind fun x3 => some ((⟨2, 0, x3.1⟩ : TVal), (⟨p0.b, x3.2.i, x3.2.h⟩ : Tl1Cur)))))
def m_s_l6Val (N : Nat) (p0 : TVal) : Option (TArg) :=
  some (⟨2, (⟨#[]⟩ : ByteArray), p0⟩ : TArg)
def m_s_l6Var (N : Nat) (p0 : ByteArray) : Option (TArg) :=
  some (⟨1, p0, (⟨0, 0, (⟨#[]⟩ : ByteArray)⟩ : TVal)⟩ : TArg)
def m_s_l6Arg (N : Nat) (p0 : Tl1Cur) : Option (TArg × Tl1Cur) :=
  ((m_s_l1Below N p0 6).bind fun x1 => (if decide (x1.1 = 0) then some ((⟨3, (⟨#[]⟩ : ByteArray), (⟨0, 0, (⟨#[]⟩ : ByteArray)⟩ : TVal)⟩ : TArg), (⟨p0.b, x1.2.i, x1.2.h⟩ : Tl1Cur)) else (if decide (x1.1 = 1) then ((m_s_l3Small N (⟨p0.b, x1.2.i, x1.2.h⟩ : Tl1Cur)).bind fun x2 => ((m_s_l6Val N x2.1).bind fun x3 => some (x3, (⟨p0.b, x2.2.i, x2.2.h⟩ : Tl1Cur)))) else ((m_s_l1Str N (⟨p0.b, x1.2.i, x1.2.h⟩ : Tl1Cur) ([(⟨#[88]⟩ : ByteArray), (⟨#[89]⟩ : ByteArray), (⟨#[90]⟩ : ByteArray), (⟨#[88]⟩ : ByteArray)] : List ByteArray)).bind fun x4 => ((m_s_l6Var N x4.1).bind fun x5 => some (x5, (⟨p0.b, x4.2.i, x4.2.h⟩ : Tl1Cur)))))))
def m_s_l6Draw_l2 (N : Nat) (p0 : Tl1Cur) (p1 : Bool) (x1 : ByteArray × Tl1Cur) (s1 : Int) : Nat → (List TArg) → Int → Int → Int → Option (TPat × Tl1Cur)
  | 0, _, _, _, _ => none
  | k + 1, s2, s3, s4, s5 =>
    (if decide (s3 < s1) then ((m_s_l6Arg N (⟨p0.b, s4, s5⟩ : Tl1Cur)).bind fun x2 => ((app s2 ([x2.1] : List TArg)).bind fun x3 => ((m_s_l6Draw_l2 N p0 p1 x1 s1 k) x3 (IntKind.i64.wrap (s3 + 1)) x2.2.i x2.2.h))) else some ((⟨x1.1, s2, p1⟩ : TPat), (⟨p0.b, s4, s5⟩ : Tl1Cur)))
def m_s_l6Draw_j1 (N : Nat) (p0 : Tl1Cur) (p1 : Bool) (x1 : ByteArray × Tl1Cur) (s1 : Int) : Option (TPat × Tl1Cur) :=
  m_s_l6Draw_l2 N p0 p1 x1 s1 N ([] : List TArg) 0 x1.2.i x1.2.h
def m_s_l6Draw (N : Nat) (p0 : Tl1Cur) (p1 : Bool) : Option (TPat × Tl1Cur) :=
  ((m_s_l1Str N p0 ([(⟨#[111, 114, 100, 101, 114]⟩ : ByteArray), (⟨#[112, 97, 105, 100]⟩ : ByteArray), (⟨#[105, 116, 101, 109]⟩ : ByteArray), (⟨#[111, 114, 100, 101, 114]⟩ : ByteArray)] : List ByteArray)).bind fun x1 => (if seq x1.1 (⟨#[105, 116, 101, 109]⟩ : ByteArray) then m_s_l6Draw_j1 N p0 p1 x1 2 else m_s_l6Draw_j1 N p0 p1 x1 1))
def m_s_l7Arg (N : Nat) (p0 : Tl1Cur) : Option (TArg × Tl1Cur) :=
  ((m_s_l1Once N p0 3).bind fun x1 => (if x1.1 then ((m_s_l3Small N (⟨p0.b, x1.2.i, x1.2.h⟩ : Tl1Cur)).bind fun x2 => ((m_s_l6Val N x2.1).bind fun x3 => some (x3, (⟨p0.b, x2.2.i, x2.2.h⟩ : Tl1Cur)))) else ((m_s_l1Str N (⟨p0.b, x1.2.i, x1.2.h⟩ : Tl1Cur) ([(⟨#[88]⟩ : ByteArray), (⟨#[89]⟩ : ByteArray)] : List ByteArray)).bind fun x4 => ((m_s_l6Var N x4.1).bind fun x5 => some (x5, (⟨p0.b, x4.2.i, x4.2.h⟩ : Tl1Cur))))))
def m_s_l7Draw (N : Nat) (p0 : Tl1Cur) : Option (TCond × Tl1Cur) :=
  ((m_s_l1Below N p0 3).bind fun x1 => ((m_s_l7Arg N (⟨p0.b, x1.2.i, x1.2.h⟩ : Tl1Cur)).bind fun x2 => ((m_s_l7Arg N (⟨p0.b, x2.2.i, x2.2.h⟩ : Tl1Cur)).bind fun x3 => some ((⟨IntKind.i64.wrap (1 + x1.1), x2.1, x3.1⟩ : TCond), (⟨p0.b, x3.2.i, x3.2.h⟩ : Tl1Cur)))))
def m_s_l9Known (N : Nat) (p0 : TArg) (p1 : (List ByteArray)) : Option (Bool) :=
  ((if !decide (p0.K = 1) then some true else ((m_s_l6Has N p1 p0.S).bind fun x1 => some x1)).bind fun b1 => some b1)
def m_s_l9Fit (N : Nat) (p0 : TArg) (p1 : (List ByteArray)) : Option (TArg) :=
  ((m_s_l9Known N p0 p1).bind fun x1 => (if x1 then some p0 else (if decide ((p1.length : Int) = 0) then ((m_s_l6Val N (⟨1, 1, (⟨#[]⟩ : ByteArray)⟩ : TVal)).bind fun x2 => some x2) else ((idx p1 0).bind fun x3 => ((m_s_l6Var N x3).bind fun x4 => some x4)))))
def m_s_l8Expr_j1 (N : Nat) (p0 : Tl1Cur) (x1 : TArg × Tl1Cur) (s1 : Int) (s2 : Int) (s3 : ByteArray) (s4 : Int) (s5 : ByteArray) (s6 : Int) (s7 : Int) (s8 : ByteArray) : Option (TExpr × Tl1Cur) :=
  some ((⟨s3, x1.1, (⟨s4, s5, (⟨s6, s7, s8⟩ : TVal)⟩ : TArg)⟩ : TExpr), (⟨p0.b, s1, s2⟩ : Tl1Cur))
def m_s_l8Expr (N : Nat) (p0 : Tl1Cur) : Option (TExpr × Tl1Cur) :=
  ((m_s_l7Arg N p0).bind fun x1 => ((m_s_l1Once N (⟨p0.b, x1.2.i, x1.2.h⟩ : Tl1Cur) 4).bind fun x2 => (if x2.1 then ((m_s_l1Str N (⟨p0.b, x2.2.i, x2.2.h⟩ : Tl1Cur) ([(⟨#[43]⟩ : ByteArray), (⟨#[45]⟩ : ByteArray)] : List ByteArray)).bind fun x3 => ((m_s_l7Arg N (⟨p0.b, x3.2.i, x3.2.h⟩ : Tl1Cur)).bind fun x4 => m_s_l8Expr_j1 N p0 x1 x4.2.i x4.2.h x3.1 x4.1.K x4.1.S x4.1.V.K x4.1.V.N x4.1.V.S)) else m_s_l8Expr_j1 N p0 x1 x2.2.i x2.2.h (⟨#[]⟩ : ByteArray) 0 (⟨#[]⟩ : ByteArray) 0 0 (⟨#[]⟩ : ByteArray))))
def m_s_l8Draw_j6 (N : Nat) (p0 : Tl1Cur) (x1 : Int × Tl1Cur) (x3 : ByteArray × Tl1Cur) (s3 : (List TExpr)) (s9 : Int) (s13 : Int) (s14 : Int) (s15 : ByteArray) : Option (TAct × Tl1Cur) :=
  some ((⟨x1.1, x3.1, s3, s9, s15⟩ : TAct), (⟨p0.b, s13, s14⟩ : Tl1Cur))
def m_s_l8Draw_j5 (N : Nat) (p0 : Tl1Cur) (x1 : Int × Tl1Cur) (x3 : ByteArray × Tl1Cur) (s3 : (List TExpr)) (s9 : Int) (s10 : Bool) (s11 : Int) (s12 : Int) : Option (TAct × Tl1Cur) :=
  (if s10 then ((m_s_l1Str N (⟨p0.b, s11, s12⟩ : Tl1Cur) ([(⟨#[114, 101, 102, 117, 110, 100]⟩ : ByteArray), (⟨#[99, 97, 110, 99, 101, 108]⟩ : ByteArray)] : List ByteArray)).bind fun x6 => m_s_l8Draw_j6 N p0 x1 x3 s3 s9 x6.2.i x6.2.h x6.1) else m_s_l8Draw_j6 N p0 x1 x3 s3 s9 s11 s12 (⟨#[]⟩ : ByteArray))
def m_s_l8Draw_j4 (N : Nat) (p0 : Tl1Cur) (x1 : Int × Tl1Cur) (x3 : ByteArray × Tl1Cur) (s3 : (List TExpr)) (s7 : Int) (s8 : Int) (s9 : Int) : Option (TAct × Tl1Cur) :=
  (if decide (x1.1 = 3) then ((m_s_l1Once N (⟨p0.b, s7, s8⟩ : Tl1Cur) 2).bind fun x7 => m_s_l8Draw_j5 N p0 x1 x3 s3 s9 x7.1 x7.2.i x7.2.h) else m_s_l8Draw_j5 N p0 x1 x3 s3 s9 false s7 s8)
def m_s_l8Draw_l3 (N : Nat) (p0 : Tl1Cur) (x1 : Int × Tl1Cur) (x3 : ByteArray × Tl1Cur) (s2 : Int) : Nat → (List TExpr) → Int → Int → Int → Option (TAct × Tl1Cur)
  | 0, _, _, _, _ => none
  | k + 1, s3, s4, s5, s6 =>
    (if decide (s4 < s2) then ((m_s_l8Expr N (⟨p0.b, s5, s6⟩ : Tl1Cur)).bind fun x4 => ((app s3 ([x4.1] : List TExpr)).bind fun x5 => ((m_s_l8Draw_l3 N p0 x1 x3 s2 k) x5 (IntKind.i64.wrap (s4 + 1)) x4.2.i x4.2.h))) else (if decide (x1.1 = 4) then ((m_s_l1Int N (⟨p0.b, s5, s6⟩ : Tl1Cur) ([0, 1, 5, 100000] : List Int)).bind fun x8 => m_s_l8Draw_j4 N p0 x1 x3 s3 x8.2.i x8.2.h x8.1) else m_s_l8Draw_j4 N p0 x1 x3 s3 s5 s6 0))
def m_s_l8Draw_j2 (N : Nat) (p0 : Tl1Cur) (x1 : Int × Tl1Cur) (x3 : ByteArray × Tl1Cur) (s2 : Int) : Option (TAct × Tl1Cur) :=
  m_s_l8Draw_l3 N p0 x1 x3 s2 N ([] : List TExpr) 0 x3.2.i x3.2.h
def m_s_l8Draw_j1 (N : Nat) (p0 : Tl1Cur) (x1 : Int × Tl1Cur) (s1 : Bool) : Option (TAct × Tl1Cur) :=
  (if s1 then some ((⟨x1.1, (⟨#[]⟩ : ByteArray), [], 0, (⟨#[]⟩ : ByteArray)⟩ : TAct), (⟨p0.b, x1.2.i, x1.2.h⟩ : Tl1Cur)) else ((m_s_l1Str N (⟨p0.b, x1.2.i, x1.2.h⟩ : Tl1Cur) ([(⟨#[111, 114, 100, 101, 114]⟩ : ByteArray), (⟨#[112, 97, 105, 100]⟩ : ByteArray), (⟨#[105, 116, 101, 109]⟩ : ByteArray), (⟨#[115, 104, 105, 112]⟩ : ByteArray), (⟨#[99, 104, 97, 114, 103, 101]⟩ : ByteArray)] : List ByteArray)).bind fun x3 => (if seq x3.1 (⟨#[105, 116, 101, 109]⟩ : ByteArray) then m_s_l8Draw_j2 N p0 x1 x3 2 else m_s_l8Draw_j2 N p0 x1 x3 1)))
def m_s_l8Draw (N : Nat) (p0 : Tl1Cur) (p1 : Int) : Option (TAct × Tl1Cur) :=
  ((m_s_l1Int N p0 ([1, 1, 2, 3, 3, 4, 5, 6] : List Int)).bind fun x1 => (if decide (x1.1 = 2) then ((m_s_l1Below N (⟨p0.b, x1.2.i, x1.2.h⟩ : Tl1Cur) p1).bind fun x2 => some ((⟨x1.1, (⟨#[]⟩ : ByteArray), [], x2.1, (⟨#[]⟩ : ByteArray)⟩ : TAct), (⟨p0.b, x2.2.i, x2.2.h⟩ : Tl1Cur))) else (if decide (x1.1 = 5) then m_s_l8Draw_j1 N p0 x1 (decide (x1.1 = 5)) else m_s_l8Draw_j1 N p0 x1 (decide (x1.1 = 6)))))
def m_s_l9Draw_l5 (N : Nat) (x6 : (List ByteArray)) (s11 : (List TAct)) (s12 : Int) (K4 : (List TAct) → Int → Int → Int → Option (TRule × Tl1Cur)) (x10 : TAct × Tl1Cur) : Nat → (List TExpr) → Int → Option (TRule × Tl1Cur)
  | 0, _, _ => none
  | k + 1, s15, s16 =>
    (if decide (s16 < (s15.length : Int)) then ((idx s15 s16).bind fun x11 => ((m_s_l9Fit N x11.L x6).bind fun x12 => (if !seq x11.Op (⟨#[]⟩ : ByteArray) then ((m_s_l9Fit N x11.R x6).bind fun x13 => ((m_s_l9Draw_l5 N x6 s11 s12 K4 x10 k) (s15.set s16.toNat (⟨x11.Op, x12, x13⟩ : TExpr)) (IntKind.i64.wrap (s16 + 1)))) else ((m_s_l9Draw_l5 N x6 s11 s12 K4 x10 k) (s15.set s16.toNat (⟨x11.Op, x12, x11.R⟩ : TExpr)) (IntKind.i64.wrap (s16 + 1)))))) else ((app s11 ([(⟨x10.1.Kind, x10.1.Name, s15, x10.1.N, x10.1.Undo⟩ : TAct)] : List TAct)).bind fun x14 => (K4 x14 (IntKind.i64.wrap (s12 - 1)) x10.2.i x10.2.h)))
def m_s_l9Draw_l4 (N : Nat) (p0 : Tl1Cur) (p1 : ByteArray) (x1 : Int × Tl1Cur) (s5 : (List TPat)) (x6 : (List ByteArray)) (s8 : (List TCond)) : Nat → (List TAct) → Int → Int → Int → Option (TRule × Tl1Cur)
  | 0, _, _, _, _ => none
  | k + 1, s11, s12, s13, s14 =>
    (if decide (0 < s12) then ((m_s_PosCount N (⟨p1, x1.1, s5, s8, s11⟩ : TRule)).bind fun x9 => ((m_s_l8Draw N (⟨p0.b, s13, s14⟩ : Tl1Cur) x9).bind fun x10 => m_s_l9Draw_l5 N x6 s11 s12 (m_s_l9Draw_l4 N p0 p1 x1 s5 x6 s8 k) x10 N x10.1.Args 0)) else some ((⟨p1, x1.1, s5, s8, s11⟩ : TRule), (⟨p0.b, s13, s14⟩ : Tl1Cur)))
def m_s_l9Draw_j3 (N : Nat) (p0 : Tl1Cur) (p1 : ByteArray) (x1 : Int × Tl1Cur) (s5 : (List TPat)) (x6 : (List ByteArray)) (s8 : (List TCond)) (s9 : Int) (s10 : Int) : Option (TRule × Tl1Cur) :=
  ((m_s_l1Below N (⟨p0.b, s9, s10⟩ : Tl1Cur) 3).bind fun x8 => m_s_l9Draw_l4 N p0 p1 x1 s5 x6 s8 N ([] : List TAct) (IntKind.i64.wrap (1 + x8.1)) x8.2.i x8.2.h)
def m_s_l9Draw_j2 (N : Nat) (p0 : Tl1Cur) (p1 : ByteArray) (x1 : Int × Tl1Cur) (s5 : (List TPat)) (s6 : Int) (s7 : Int) : Option (TRule × Tl1Cur) :=
  ((m_s_PosVars N (⟨p1, x1.1, s5, [], []⟩ : TRule)).bind fun x6 => ((m_s_l1Once N (⟨p0.b, s6, s7⟩ : Tl1Cur) 3).bind fun x7 => (if x7.1 then ((m_s_l7Draw N (⟨p0.b, x7.2.i, x7.2.h⟩ : Tl1Cur)).bind fun x15 => ((m_s_l9Fit N x15.1.L x6).bind fun x16 => ((m_s_l9Fit N x15.1.R x6).bind fun x17 => ((app ([] : List TCond) ([(⟨x15.1.Op, x16, x17⟩ : TCond)] : List TCond)).bind fun x18 => m_s_l9Draw_j3 N p0 p1 x1 s5 x6 x18 x15.2.i x15.2.h)))) else m_s_l9Draw_j3 N p0 p1 x1 s5 x6 ([] : List TCond) x7.2.i x7.2.h)))
def m_s_l9Draw_l1 (N : Nat) (p0 : Tl1Cur) (p1 : ByteArray) (x1 : Int × Tl1Cur) : Nat → (List TPat) → Int → Int → Int → Option (TRule × Tl1Cur)
  | 0, _, _, _, _ => none
  | k + 1, s1, s2, s3, s4 =>
    (if decide (0 < s2) then ((m_s_l6Draw N (⟨p0.b, s3, s4⟩ : Tl1Cur) false).bind fun x3 => ((app s1 ([x3.1] : List TPat)).bind fun x4 => ((m_s_l9Draw_l1 N p0 p1 x1 k) x4 (IntKind.i64.wrap (s2 - 1)) x3.2.i x3.2.h))) else ((m_s_l1Once N (⟨p0.b, s3, s4⟩ : Tl1Cur) 3).bind fun x5 => (if x5.1 then ((m_s_l6Draw N (⟨p0.b, x5.2.i, x5.2.h⟩ : Tl1Cur) true).bind fun x19 => ((app s1 ([x19.1] : List TPat)).bind fun x20 => m_s_l9Draw_j2 N p0 p1 x1 x20 x19.2.i x19.2.h)) else m_s_l9Draw_j2 N p0 p1 x1 s1 x5.2.i x5.2.h)))
def m_s_l9Draw (N : Nat) (p0 : Tl1Cur) (p1 : ByteArray) : Option (TRule × Tl1Cur) :=
  ((m_s_l1Int N p0 ([0, 0, 5, (-5), 100] : List Int)).bind fun x1 => ((m_s_l1Below N (⟨p0.b, x1.2.i, x1.2.h⟩ : Tl1Cur) 3).bind fun x2 => m_s_l9Draw_l1 N p0 p1 x1 N ([] : List TPat) (IntKind.i64.wrap (1 + x2.1)) x2.2.i x2.2.h))
def m_s_l10Draw_l1 (N : Nat) (p0 : Tl1Cur) (x1 : ByteArray × Tl1Cur) : Nat → (List TRule) → Int → Int → Int → Option (TDef × Tl1Cur)
  | 0, _, _, _, _ => none
  | k + 1, s1, s2, s3, s4 =>
    ((m_s_l1Below N (⟨p0.b, s3, s4⟩ : Tl1Cur) 4).bind fun x2 => ((if decide (s2 < IntKind.i64.wrap (1 + x2.1)) then some (decide (s2 < 4)) else some false).bind fun b3 => (if b3 then ((idx ([(⟨#[114, 49]⟩ : ByteArray), (⟨#[114, 50]⟩ : ByteArray), (⟨#[114, 51]⟩ : ByteArray), (⟨#[114, 52]⟩ : ByteArray)] : List ByteArray) s2).bind fun x3 => ((m_s_l9Draw N (⟨p0.b, x2.2.i, x2.2.h⟩ : Tl1Cur) x3).bind fun x4 => ((app s1 ([x4.1] : List TRule)).bind fun x5 => ((m_s_l10Draw_l1 N p0 x1 k) x5 (IntKind.i64.wrap (s2 + 1)) x4.2.i x4.2.h)))) else some ((⟨x1.1, s1⟩ : TDef), (⟨p0.b, x2.2.i, x2.2.h⟩ : Tl1Cur)))))
def m_s_l10Draw (N : Nat) (p0 : Tl1Cur) : Option (TDef × Tl1Cur) :=
  ((m_s_l1Str N p0 ([(⟨#[102, 108, 111, 119]⟩ : ByteArray), (⟨#[115, 104, 105, 112]⟩ : ByteArray), (⟨#[120]⟩ : ByteArray)] : List ByteArray)).bind fun x1 => m_s_l10Draw_l1 N p0 x1 N ([] : List TRule) 0 x1.2.i x1.2.h)
def m_s_l6Any_j1 (N : Nat) (p0 : Tl1Cur) (x2 : TPat × Tl1Cur) (s1 : (List TArg)) (s2 : Int) (s3 : Int) (s4 : ByteArray) : Option (TPat × Tl1Cur) :=
  some ((⟨s4, s1, x2.1.Not⟩ : TPat), (⟨p0.b, s2, s3⟩ : Tl1Cur))
def m_s_l6Any_j2 (N : Nat) (p0 : Tl1Cur) (x2 : TPat × Tl1Cur) (s5 : (List TArg)) (s6 : Int) (s7 : Int) : Option (TPat × Tl1Cur) :=
  m_s_l6Any_j1 N p0 x2 s5 s6 s7 x2.1.Kind
def m_s_l6Any_l3 (N : Nat) (p0 : Tl1Cur) (x2 : TPat × Tl1Cur) : Nat → (List TArg) → Int → Int → Option (TPat × Tl1Cur)
  | 0, _, _, _ => none
  | k + 1, s8, s9, s10 =>
    ((m_s_l1Below N (⟨p0.b, s9, s10⟩ : Tl1Cur) 2).bind fun x14 => (if decide ((s8.length : Int) < IntKind.i64.wrap (5 + x14.1)) then ((m_s_l6Arg N (⟨p0.b, x14.2.i, x14.2.h⟩ : Tl1Cur)).bind fun x15 => ((app s8 ([x15.1] : List TArg)).bind fun x16 => ((m_s_l6Any_l3 N p0 x2 k) x16 x15.2.i x15.2.h))) else m_s_l6Any_j1 N p0 x2 s8 x14.2.i x14.2.h x2.1.Kind))
def m_s_l6Any (N : Nat) (p0 : Tl1Cur) : Option (TPat × Tl1Cur) :=
  ((m_s_l1Once N p0 3).bind fun x1 => ((m_s_l6Draw N (⟨p0.b, x1.2.i, x1.2.h⟩ : Tl1Cur) x1.1).bind fun x2 => ((m_s_l1Below N (⟨p0.b, x2.2.i, x2.2.h⟩ : Tl1Cur) 10).bind fun x3 => (if decide (x3.1 = 0) then ((m_s_l1Str N (⟨p0.b, x3.2.i, x3.2.h⟩ : Tl1Cur) ([(⟨#[]⟩ : ByteArray), (⟨#[65]⟩ : ByteArray), (⟨#[120]⟩ : ByteArray)] : List ByteArray)).bind fun x4 => m_s_l6Any_j1 N p0 x2 x2.1.Args x4.2.i x4.2.h x4.1) else (if decide (x3.1 = 1) then ((m_s_l1Below N (⟨p0.b, x3.2.i, x3.2.h⟩ : Tl1Cur) 5).bind fun x8 => ((m_s_l1Str N (⟨p0.b, x8.2.i, x8.2.h⟩ : Tl1Cur) ([(⟨#[]⟩ : ByteArray), (⟨#[120]⟩ : ByteArray), (⟨#[88]⟩ : ByteArray)] : List ByteArray)).bind fun x9 => ((app x2.1.Args ([(⟨x8.1, x9.1, (⟨0, 0, (⟨#[]⟩ : ByteArray)⟩ : TVal)⟩ : TArg)] : List TArg)).bind fun x10 => m_s_l6Any_j2 N p0 x2 x10 x9.2.i x9.2.h))) else (if decide (x3.1 = 2) then m_s_l6Any_l3 N p0 x2 N x2.1.Args x3.2.i x3.2.h else m_s_l6Any_j1 N p0 x2 x2.1.Args x3.2.i x3.2.h x2.1.Kind))))))
def m_s_l7Any_j1 (N : Nat) (p0 : Tl1Cur) (s1 : Int) (s2 : Int) (s3 : Int) (s4 : Int) (s5 : ByteArray) (s6 : Int) (s7 : Int) (s8 : ByteArray) (s9 : Int) (s10 : ByteArray) (s11 : Int) (s12 : Int) (s13 : ByteArray) : Option (TCond × Tl1Cur) :=
  some ((⟨s3, (⟨s4, s5, (⟨s6, s7, s8⟩ : TVal)⟩ : TArg), (⟨s9, s10, (⟨s11, s12, s13⟩ : TVal)⟩ : TArg)⟩ : TCond), (⟨p0.b, s1, s2⟩ : Tl1Cur))
def m_s_l7Any (N : Nat) (p0 : Tl1Cur) : Option (TCond × Tl1Cur) :=
  ((m_s_l7Draw N p0).bind fun x1 => ((m_s_l1Below N (⟨p0.b, x1.2.i, x1.2.h⟩ : Tl1Cur) 8).bind fun x2 => (if decide (x2.1 = 0) then ((m_s_l1Below N (⟨p0.b, x2.2.i, x2.2.h⟩ : Tl1Cur) 6).bind fun x3 => m_s_l7Any_j1 N p0 x3.2.i x3.2.h x3.1 x1.1.L.K x1.1.L.S x1.1.L.V.K x1.1.L.V.N x1.1.L.V.S x1.1.R.K x1.1.R.S x1.1.R.V.K x1.1.R.V.N x1.1.R.V.S) else (if decide (x2.1 = 1) then ((m_s_l6Arg N (⟨p0.b, x2.2.i, x2.2.h⟩ : Tl1Cur)).bind fun x4 => m_s_l7Any_j1 N p0 x4.2.i x4.2.h x1.1.Op x4.1.K x4.1.S x4.1.V.K x4.1.V.N x4.1.V.S x1.1.R.K x1.1.R.S x1.1.R.V.K x1.1.R.V.N x1.1.R.V.S) else (if decide (x2.1 = 2) then ((m_s_l1Below N (⟨p0.b, x2.2.i, x2.2.h⟩ : Tl1Cur) 5).bind fun x5 => m_s_l7Any_j1 N p0 x5.2.i x5.2.h x1.1.Op x1.1.L.K x1.1.L.S x1.1.L.V.K x1.1.L.V.N x1.1.L.V.S x5.1 (⟨#[]⟩ : ByteArray) 0 0 (⟨#[]⟩ : ByteArray)) else m_s_l7Any_j1 N p0 x2.2.i x2.2.h x1.1.Op x1.1.L.K x1.1.L.S x1.1.L.V.K x1.1.L.V.N x1.1.L.V.S x1.1.R.K x1.1.R.S x1.1.R.V.K x1.1.R.V.N x1.1.R.V.S)))))
def m_s_l8Any_j1 (N : Nat) (p0 : Tl1Cur) (s1 : (List TExpr)) (s2 : Int) (s3 : Int) (s4 : Int) (s5 : ByteArray) (s6 : Int) (s7 : ByteArray) : Option (TAct × Tl1Cur) :=
  some ((⟨s4, s5, s1, s6, s7⟩ : TAct), (⟨p0.b, s2, s3⟩ : Tl1Cur))
def m_s_l8Any (N : Nat) (p0 : Tl1Cur) : Option (TAct × Tl1Cur) :=
  ((m_s_l8Draw N p0 2).bind fun x1 => ((m_s_l1Below N (⟨p0.b, x1.2.i, x1.2.h⟩ : Tl1Cur) 10).bind fun x2 => (if decide (x2.1 = 0) then ((m_s_l1Below N (⟨p0.b, x2.2.i, x2.2.h⟩ : Tl1Cur) 8).bind fun x3 => m_s_l8Any_j1 N p0 x1.1.Args x3.2.i x3.2.h x3.1 x1.1.Name x1.1.N x1.1.Undo) else (if decide (x2.1 = 1) then ((m_s_l1Str N (⟨p0.b, x2.2.i, x2.2.h⟩ : Tl1Cur) ([(⟨#[]⟩ : ByteArray), (⟨#[65]⟩ : ByteArray), (⟨#[120]⟩ : ByteArray)] : List ByteArray)).bind fun x4 => m_s_l8Any_j1 N p0 x1.1.Args x4.2.i x4.2.h x1.1.Kind x4.1 x1.1.N x1.1.Undo) else (if decide (x2.1 = 2) then ((m_s_l1Int N (⟨p0.b, x2.2.i, x2.2.h⟩ : Tl1Cur) ([(-1), 7, 8, 100001] : List Int)).bind fun x5 => m_s_l8Any_j1 N p0 x1.1.Args x5.2.i x5.2.h x1.1.Kind x1.1.Name x5.1 x1.1.Undo) else (if decide (x2.1 = 3) then ((m_s_l1Str N (⟨p0.b, x2.2.i, x2.2.h⟩ : Tl1Cur) ([(⟨#[]⟩ : ByteArray), (⟨#[65]⟩ : ByteArray), (⟨#[120]⟩ : ByteArray)] : List ByteArray)).bind fun x6 => m_s_l8Any_j1 N p0 x1.1.Args x6.2.i x6.2.h x1.1.Kind x1.1.Name x1.1.N x6.1) else (if decide (x2.1 = 4) then ((m_s_l1Str N (⟨p0.b, x2.2.i, x2.2.h⟩ : Tl1Cur) ([(⟨#[]⟩ : ByteArray), (⟨#[42]⟩ : ByteArray)] : List ByteArray)).bind fun x7 => ((m_s_l6Arg N (⟨p0.b, x7.2.i, x7.2.h⟩ : Tl1Cur)).bind fun x8 => ((m_s_l6Arg N (⟨p0.b, x8.2.i, x8.2.h⟩ : Tl1Cur)).bind fun x9 => ((app x1.1.Args ([(⟨x7.1, x8.1, x9.1⟩ : TExpr)] : List TExpr)).bind fun x10 => m_s_l8Any_j1 N p0 x10 x9.2.i x9.2.h x1.1.Kind x1.1.Name x1.1.N x1.1.Undo)))) else m_s_l8Any_j1 N p0 x1.1.Args x2.2.i x2.2.h x1.1.Kind x1.1.Name x1.1.N x1.1.Undo)))))))
def m_s_l9Bend_j1 (N : Nat) (p0 : Tl1Cur) (s1 : (List TPat)) (s2 : Int) (s3 : Int) (s4 : ByteArray) (s5 : Int) (s6 : (List TCond)) (s7 : (List TAct)) : Option (TRule × Tl1Cur) :=
  some ((⟨s4, s5, s1, s6, s7⟩ : TRule), (⟨p0.b, s2, s3⟩ : Tl1Cur))
def m_s_l9Bend (N : Nat) (p0 : Tl1Cur) (p1 : TRule) : Option (TRule × Tl1Cur) :=
  ((app ([] : List TPat) p1.Pats).bind fun x1 => ((m_s_l1Below N p0 10).bind fun x2 => (if decide (x2.1 = 0) then ((m_s_l1Str N (⟨p0.b, x2.2.i, x2.2.h⟩ : Tl1Cur) ([(⟨#[]⟩ : ByteArray), (⟨#[65]⟩ : ByteArray), (⟨#[120]⟩ : ByteArray)] : List ByteArray)).bind fun x3 => m_s_l9Bend_j1 N p0 x1 x3.2.i x3.2.h x3.1 p1.Sal p1.Conds p1.Acts) else (if decide (x2.1 = 1) then ((m_s_l1Int N (⟨p0.b, x2.2.i, x2.2.h⟩ : Tl1Cur) ([(-101), 101, 100] : List Int)).bind fun x4 => m_s_l9Bend_j1 N p0 x1 x4.2.i x4.2.h p1.Name x4.1 p1.Conds p1.Acts) else (if decide (x2.1 = 2) then ((m_s_l6Any N (⟨p0.b, x2.2.i, x2.2.h⟩ : Tl1Cur)).bind fun x5 => ((app x1 ([x5.1] : List TPat)).bind fun x6 => m_s_l9Bend_j1 N p0 x6 x5.2.i x5.2.h p1.Name p1.Sal p1.Conds p1.Acts)) else (if decide (x2.1 = 3) then ((app ([] : List TCond) p1.Conds).bind fun x7 => ((m_s_l7Any N (⟨p0.b, x2.2.i, x2.2.h⟩ : Tl1Cur)).bind fun x8 => ((app x7 ([x8.1] : List TCond)).bind fun x9 => m_s_l9Bend_j1 N p0 x1 x8.2.i x8.2.h p1.Name p1.Sal x9 p1.Acts))) else (if decide (x2.1 = 4) then ((app ([] : List TAct) p1.Acts).bind fun x10 => ((m_s_l8Any N (⟨p0.b, x2.2.i, x2.2.h⟩ : Tl1Cur)).bind fun x11 => ((app x10 ([x11.1] : List TAct)).bind fun x12 => m_s_l9Bend_j1 N p0 x1 x11.2.i x11.2.h p1.Name p1.Sal p1.Conds x12))) else (if decide (x2.1 = 5) then ((idx x1 0).bind fun x13 => m_s_l9Bend_j1 N p0 (x1.set (0 : Int).toNat (⟨x13.Kind, x13.Args, true⟩ : TPat)) x2.2.i x2.2.h p1.Name p1.Sal p1.Conds p1.Acts) else (if decide (x2.1 = 6) then ((ssl p1.Acts 0 0).bind fun x14 => m_s_l9Bend_j1 N p0 x1 x2.2.i x2.2.h p1.Name p1.Sal p1.Conds x14) else m_s_l9Bend_j1 N p0 x1 x2.2.i x2.2.h p1.Name p1.Sal p1.Conds p1.Acts)))))))))
def m_s_l9Any_j1 (N : Nat) (p0 : Tl1Cur) (s1 : (List TPat)) (s2 : Int) (s3 : Int) (s4 : ByteArray) (s5 : Int) (s6 : (List TCond)) (s7 : (List TAct)) : Option (TRule × Tl1Cur) :=
  some ((⟨s4, s5, s1, s6, s7⟩ : TRule), (⟨p0.b, s2, s3⟩ : Tl1Cur))
def m_s_l9Any (N : Nat) (p0 : Tl1Cur) : Option (TRule × Tl1Cur) :=
  ((m_s_l1Str N p0 ([(⟨#[114, 49]⟩ : ByteArray), (⟨#[114, 50]⟩ : ByteArray), (⟨#[115, 104, 105, 112]⟩ : ByteArray)] : List ByteArray)).bind fun x1 => ((m_s_l9Draw N (⟨p0.b, x1.2.i, x1.2.h⟩ : Tl1Cur) x1.1).bind fun x2 => ((m_s_l1Once N (⟨p0.b, x2.2.i, x2.2.h⟩ : Tl1Cur) 3).bind fun x3 => (if x3.1 then ((m_s_l9Bend N (⟨p0.b, x3.2.i, x3.2.h⟩ : Tl1Cur) x2.1).bind fun x4 => m_s_l9Any_j1 N p0 x4.1.Pats x4.2.i x4.2.h x4.1.Name x4.1.Sal x4.1.Conds x4.1.Acts) else m_s_l9Any_j1 N p0 x2.1.Pats x3.2.i x3.2.h x2.1.Name x2.1.Sal x2.1.Conds x2.1.Acts))))
def m_s_l10Any_j1 (N : Nat) (p0 : Tl1Cur) (s1 : (List TRule)) (s2 : Int) (s3 : Int) (s4 : ByteArray) : Option (TDef × Tl1Cur) :=
  some ((⟨s4, s1⟩ : TDef), (⟨p0.b, s2, s3⟩ : Tl1Cur))
def m_s_l10Any (N : Nat) (p0 : Tl1Cur) : Option (TDef × Tl1Cur) :=
  ((m_s_l10Draw N p0).bind fun x1 => ((m_s_l1Below N (⟨p0.b, x1.2.i, x1.2.h⟩ : Tl1Cur) 10).bind fun x2 => (if decide (x2.1 = 0) then ((m_s_l1Str N (⟨p0.b, x2.2.i, x2.2.h⟩ : Tl1Cur) ([(⟨#[]⟩ : ByteArray), (⟨#[65]⟩ : ByteArray)] : List ByteArray)).bind fun x3 => m_s_l10Any_j1 N p0 x1.1.Rules x3.2.i x3.2.h x3.1) else (if decide (x2.1 = 1) then ((m_s_l9Any N (⟨p0.b, x2.2.i, x2.2.h⟩ : Tl1Cur)).bind fun x4 => ((app x1.1.Rules ([x4.1] : List TRule)).bind fun x6 => m_s_l10Any_j1 N p0 x6 x4.2.i x4.2.h x1.1.Name)) else (if decide (x2.1 = 2) then ((idx x1.1.Rules 0).bind fun x7 => ((m_s_l9Bend N (⟨p0.b, x2.2.i, x2.2.h⟩ : Tl1Cur) x7).bind fun x8 => ((idx x1.1.Rules 0).bind fun x10 => m_s_l10Any_j1 N p0 (x1.1.Rules.set (0 : Int).toNat x8.1) x8.2.i x8.2.h x1.1.Name))) else (if decide (x2.1 = 3) then ((ssl x1.1.Rules 0 0).bind fun x11 => m_s_l10Any_j1 N p0 x11 x2.2.i x2.2.h x1.1.Name) else m_s_l10Any_j1 N p0 x1.1.Rules x2.2.i x2.2.h x1.1.Name))))))
def m_s_l4Drop_l1 (N : Nat) (p0 : TStore) (p1 : Int) : Nat → (List TItem) → Int → Option (Bool × TStore)
  | 0, _, _ => none
  | k + 1, s1, s2 =>
    (if decide (s2 < (p0.Items.length : Int)) then ((idx p0.Items s2).bind fun x1 => (if !decide (x1.Id = p1) then ((idx p0.Items s2).bind fun x2 => ((app s1 ([x2] : List TItem)).bind fun x3 => ((m_s_l4Drop_l1 N p0 p1 k) x3 (IntKind.i64.wrap (s2 + 1))))) else ((m_s_l4Drop_l1 N p0 p1 k) s1 (IntKind.i64.wrap (s2 + 1))))) else some (decide ((s1.length : Int) < (p0.Items.length : Int)), (⟨s1, p0.Next⟩ : TStore)))
def m_s_l4Drop (N : Nat) (p0 : TStore) (p1 : Int) : Option (Bool × TStore) :=
  m_s_l4Drop_l1 N p0 p1 N ([] : List TItem) 0
def m_s_l3SameVals_l1 (N : Nat) (p0 : (List TVal)) (p1 : (List TVal)) : Nat → Int → Option (Bool)
  | 0, _ => none
  | k + 1, s1 =>
    (if decide (s1 < (p0.length : Int)) then ((idx p0 s1).bind fun x1 => ((idx p1 s1).bind fun x2 => (if !(eqT_TVal x1 x2) then some false else ((m_s_l3SameVals_l1 N p0 p1 k) (IntKind.i64.wrap (s1 + 1)))))) else some true)
def m_s_l3SameVals (N : Nat) (p0 : (List TVal)) (p1 : (List TVal)) : Option (Bool) :=
  (if !decide ((p0.length : Int) = (p1.length : Int)) then some false else m_s_l3SameVals_l1 N p0 p1 N 0)
def m_s_SameFact (N : Nat) (p0 : TFact) (p1 : TFact) : Option (Bool) :=
  ((if seq p0.Kind p1.Kind then ((m_s_l3SameVals N p0.Fields p1.Fields).bind fun x1 => some x1) else some false).bind fun b1 => some b1)
def m_s_IdOf_l1 (N : Nat) (p0 : TStore) (p1 : TFact) : Nat → Int → Option (Int)
  | 0, _ => none
  | k + 1, s1 =>
    (if decide (s1 < (p0.Items.length : Int)) then ((idx p0.Items s1).bind fun x1 => ((m_s_SameFact N x1.F p1).bind fun x2 => (if x2 then ((idx p0.Items s1).bind fun x3 => some x3.Id) else ((m_s_IdOf_l1 N p0 p1 k) (IntKind.i64.wrap (s1 + 1)))))) else some 0)
def m_s_IdOf (N : Nat) (p0 : TStore) (p1 : TFact) : Option (Int) :=
  m_s_IdOf_l1 N p0 p1 N 0
def m_s_l3Copy (N : Nat) (p0 : TFact) : Option (TFact) :=
  ((app ([] : List TVal) p0.Fields).bind fun x1 => some (⟨p0.Kind, x1⟩ : TFact))
def m_s_l4Assert (N : Nat) (p0 : TStore) (p1 : TFact) : Option (Int × TStore) :=
  ((m_s_IdOf N p0 p1).bind fun x1 => (if decide (0 < x1) then some (x1, p0) else ((if decide (40 ≤ (p0.Items.length : Int)) then some true else some (decide (1000000 ≤ p0.Next))).bind fun b1 => (if b1 then some (0, p0) else ((m_s_l3Copy N p1).bind fun x2 => ((app p0.Items ([(⟨p0.Next, x2⟩ : TItem)] : List TItem)).bind fun x3 => some (IntKind.i64.wrap ((IntKind.i64.wrap (p0.Next + 1)) - 1), (⟨x3, IntKind.i64.wrap (p0.Next + 1)⟩ : TStore))))))))
def m_s_l3Draw_l3 (N : Nat) (p0 : Tl1Cur) (x1 : ByteArray × Tl1Cur) (s2 : Int) : Nat → (List TVal) → Int → Int → Int → Option (TFact × Tl1Cur)
  | 0, _, _, _, _ => none
  | k + 1, s5, s6, s7, s8 =>
    (if decide (s6 < s2) then ((m_s_l3Small N (⟨p0.b, s7, s8⟩ : Tl1Cur)).bind fun x3 => ((app s5 ([x3.1] : List TVal)).bind fun x4 => ((m_s_l3Draw_l3 N p0 x1 s2 k) x4 (IntKind.i64.wrap (s6 + 1)) x3.2.i x3.2.h))) else some ((⟨x1.1, s5⟩ : TFact), (⟨p0.b, s7, s8⟩ : Tl1Cur)))
def m_s_l3Draw_j2 (N : Nat) (p0 : Tl1Cur) (x1 : ByteArray × Tl1Cur) (s2 : Int) (s3 : Int) (s4 : Int) : Option (TFact × Tl1Cur) :=
  m_s_l3Draw_l3 N p0 x1 s2 N ([] : List TVal) 0 s3 s4
def m_s_l3Draw_j1 (N : Nat) (p0 : Tl1Cur) (x1 : ByteArray × Tl1Cur) (s1 : Int) : Option (TFact × Tl1Cur) :=
  ((m_s_l1Once N (⟨p0.b, x1.2.i, x1.2.h⟩ : Tl1Cur) 12).bind fun x2 => (if x2.1 then ((m_s_l1Below N (⟨p0.b, x2.2.i, x2.2.h⟩ : Tl1Cur) 6).bind fun x5 => m_s_l3Draw_j2 N p0 x1 x5.1 x5.2.i x5.2.h) else m_s_l3Draw_j2 N p0 x1 s1 x2.2.i x2.2.h))
def m_s_l3Draw (N : Nat) (p0 : Tl1Cur) : Option (TFact × Tl1Cur) :=
  ((m_s_l1Str N p0 ([(⟨#[111, 114, 100, 101, 114]⟩ : ByteArray), (⟨#[112, 97, 105, 100]⟩ : ByteArray), (⟨#[105, 116, 101, 109]⟩ : ByteArray), (⟨#[111, 114, 100, 101, 114]⟩ : ByteArray)] : List ByteArray)).bind fun x1 => (if seq x1.1 (⟨#[105, 116, 101, 109]⟩ : ByteArray) then m_s_l3Draw_j1 N p0 x1 2 else m_s_l3Draw_j1 N p0 x1 1))
def m_s_l4Draw_l1 (N : Nat) (p0 : Tl1Cur) : Nat → (List TItem) → Int → Int → Int → Int → Option (TStore × Tl1Cur)
  | 0, _, _, _, _, _ => none
  | k + 1, s1, s2, s3, s4, s5 =>
    (if decide (0 < s2) then ((m_s_l1Once N (⟨p0.b, s3, s4⟩ : Tl1Cur) 5).bind fun x2 => ((if x2.1 then some (decide (0 < (s1.length : Int))) else some false).bind fun b3 => (if b3 then ((m_s_l1Below N (⟨p0.b, x2.2.i, x2.2.h⟩ : Tl1Cur) (s1.length : Int)).bind fun x3 => ((idx s1 x3.1).bind fun x4 => ((m_s_l4Drop N (⟨s1, s5⟩ : TStore) x4.Id).bind fun x5 => ((m_s_l4Draw_l1 N p0 k) x5.2.Items (IntKind.i64.wrap (s2 - 1)) x3.2.i x3.2.h x5.2.Next)))) else ((m_s_l3Draw N (⟨p0.b, x2.2.i, x2.2.h⟩ : Tl1Cur)).bind fun x6 => ((m_s_l4Assert N (⟨s1, s5⟩ : TStore) x6.1).bind fun x7 => ((m_s_l4Draw_l1 N p0 k) x7.2.Items (IntKind.i64.wrap (s2 - 1)) x6.2.i x6.2.h x7.2.Next)))))) else some ((⟨s1, s5⟩ : TStore), (⟨p0.b, s3, s4⟩ : Tl1Cur)))
def m_s_l4Draw (N : Nat) (p0 : Tl1Cur) : Option (TStore × Tl1Cur) :=
  ((m_s_l1Below N p0 9).bind fun x1 => m_s_l4Draw_l1 N p0 N ([] : List TItem) x1.1 x1.2.i x1.2.h 1)
def m_s_DrawAllMatches_j1 (N : Nat) (x1 : Tl1Cur) (s1 : (List TRule)) (s2 : Int) (s3 : Int) (s4 : ByteArray) : Option (TDef × TStore) :=
  ((m_s_l4Draw N (⟨x1.b, s2, s3⟩ : Tl1Cur)).bind fun x4 => some ((⟨s4, s1⟩ : TDef), x4.1))
def m_s_DrawAllMatches (N : Nat) (p0 : (List Int)) : Option (TDef × TStore) :=
  ((m_s_l1New N p0).bind fun x1 => ((m_s_l10Draw N x1).bind fun x2 => ((m_s_l1Once N (⟨x1.b, x2.2.i, x2.2.h⟩ : Tl1Cur) 8).bind fun x3 => (if x3.1 then ((m_s_l10Any N (⟨x1.b, x3.2.i, x3.2.h⟩ : Tl1Cur)).bind fun x6 => m_s_DrawAllMatches_j1 N x1 x6.1.Rules x6.2.i x6.2.h x6.1.Name) else m_s_DrawAllMatches_j1 N x1 x2.1.Rules x3.2.i x3.2.h x2.1.Name))))
def m_i_isSmall (N : Nat) (p0 : Int) : Option (Bool) :=
  ((if decide (97 ≤ p0) then some (decide (p0 ≤ 122)) else some false).bind fun b1 => some b1)
def m_i_isDigit (N : Nat) (p0 : Int) : Option (Bool) :=
  ((if decide (48 ≤ p0) then some (decide (p0 ≤ 57)) else some false).bind fun b1 => some b1)
def m_i_isWordByte (N : Nat) (p0 : Int) : Option (Bool) :=
  ((m_i_isSmall N p0).bind fun x1 => ((if x1 then some true else ((m_i_isDigit N p0).bind fun x2 => some x2)).bind fun b1 => ((if b1 then some true else some (decide (p0 = 95))).bind fun b2 => some b2)))
def m_i_isWord_l1 (N : Nat) (p0 : ByteArray) : Nat → Int → Option (Bool)
  | 0, _ => none
  | k + 1, s1 =>
    (if decide (s1 < (p0.size : Int)) then ((idx p0.data.toList s1).bind fun y1 => ((m_i_isWordByte N (y1.toNat : Int)).bind fun x1 => (if !x1 then some false else ((m_i_isWord_l1 N p0 k) (IntKind.i64.wrap (s1 + 1)))))) else some true)
def m_i_isWord (N : Nat) (p0 : ByteArray) (p1 : Int) : Option (Bool) :=
  (if decide (p1 < (p0.size : Int)) then some false else m_i_isWord_l1 N p0 N 0)
def m_i_NameOk (N : Nat) (p0 : ByteArray) : Option (Bool) :=
  ((if decide (0 < (p0.size : Int)) then ((idx p0.data.toList 0).bind fun y1 => ((m_i_isSmall N (y1.toNat : Int)).bind fun x1 => some x1)) else some false).bind fun b1 => ((if b1 then ((m_i_isWord N p0 12).bind fun x2 => some x2) else some false).bind fun b2 => some b2))
def m_i_inRange (N : Nat) (p0 : Int) (p1 : Int) (p2 : Int) : Option (Bool) :=
  ((if decide (p1 ≤ p0) then some (decide (p0 ≤ p2)) else some false).bind fun b1 => some b1)
def m_i_PosCount_l1 (N : Nat) (p0 : TRule) : Nat → Int → Int → Option (Int)
  | 0, _, _ => none
  | k + 1, s1, s2 =>
    (if decide (s2 < (p0.Pats.length : Int)) then ((idx p0.Pats s2).bind fun x1 => (if !x1.Not then ((m_i_PosCount_l1 N p0 k) (IntKind.i64.wrap (s1 + 1)) (IntKind.i64.wrap (s2 + 1))) else ((m_i_PosCount_l1 N p0 k) s1 (IntKind.i64.wrap (s2 + 1))))) else some s1)
def m_i_PosCount (N : Nat) (p0 : TRule) : Option (Int) :=
  m_i_PosCount_l1 N p0 N 0 0
def m_i_ValOk (N : Nat) (p0 : TVal) : Option (Bool) :=
  (if decide (p0.K = 1) then ((m_i_inRange N p0.N (-1000000000) 1000000000).bind fun x1 => ((if x1 then some (seq p0.S (⟨#[]⟩ : ByteArray)) else some false).bind fun b1 => some b1)) else (if decide (p0.K = 2) then ((if decide (p0.N = 0) then ((m_i_isWord N p0.S 20).bind fun x2 => some x2) else some false).bind fun b2 => some b2) else some false))
def m_i_isLarge (N : Nat) (p0 : Int) : Option (Bool) :=
  ((if decide (65 ≤ p0) then some (decide (p0 ≤ 90)) else some false).bind fun b1 => some b1)
def m_i_isVar_l1 (N : Nat) (p0 : ByteArray) : Nat → Int → Option (Bool)
  | 0, _ => none
  | k + 1, s1 =>
    (if decide (s1 < (p0.size : Int)) then ((idx p0.data.toList s1).bind fun y2 => ((m_i_isWordByte N (y2.toNat : Int)).bind fun x2 => ((if !x2 then ((idx p0.data.toList s1).bind fun y3 => ((m_i_isLarge N (y3.toNat : Int)).bind fun x3 => some (!x3))) else some false).bind fun b3 => (if b3 then some false else ((m_i_isVar_l1 N p0 k) (IntKind.i64.wrap (s1 + 1))))))) else some true)
def m_i_isVar (N : Nat) (p0 : ByteArray) : Option (Bool) :=
  ((if decide ((p0.size : Int) < 1) then some true else some (decide (12 < (p0.size : Int)))).bind fun b1 => ((if b1 then some true else ((idx p0.data.toList 0).bind fun y1 => ((m_i_isLarge N (y1.toNat : Int)).bind fun x1 => some (!x1)))).bind fun b2 => (if b2 then some false else m_i_isVar_l1 N p0 N 0)))
def m_i_ArgOk (N : Nat) (p0 : TArg) : Option (Bool) :=
  (if decide (p0.K = 1) then ((m_i_isVar N p0.S).bind fun x1 => ((if x1 then some (eqT_TVal p0.V (⟨0, 0, (⟨#[]⟩ : ByteArray)⟩ : TVal)) else some false).bind fun b1 => some b1)) else (if decide (p0.K = 2) then ((if seq p0.S (⟨#[]⟩ : ByteArray) then ((m_i_ValOk N p0.V).bind fun x2 => some x2) else some false).bind fun b2 => some b2) else (if decide (p0.K = 3) then ((if seq p0.S (⟨#[]⟩ : ByteArray) then some (eqT_TVal p0.V (⟨0, 0, (⟨#[]⟩ : ByteArray)⟩ : TVal)) else some false).bind fun b3 => some b3) else some false)))
def m_i_PatOk_l1 (N : Nat) (p0 : TPat) : Nat → Int → Option (Bool)
  | 0, _ => none
  | k + 1, s1 =>
    (if decide (s1 < (p0.Args.length : Int)) then ((idx p0.Args s1).bind fun x2 => ((m_i_ArgOk N x2).bind fun x3 => (if !x3 then some false else ((m_i_PatOk_l1 N p0 k) (IntKind.i64.wrap (s1 + 1)))))) else some true)
def m_i_PatOk (N : Nat) (p0 : TPat) : Option (Bool) :=
  ((m_i_NameOk N p0.Kind).bind fun x1 => ((if !x1 then some true else some (decide (5 < (p0.Args.length : Int)))).bind fun b1 => (if b1 then some false else m_i_PatOk_l1 N p0 N 0)))
def m_i_patsOk_l1 (N : Nat) (p0 : TRule) : Nat → Int → Option (Bool)
  | 0, _ => none
  | k + 1, s1 =>
    (if decide (s1 < (p0.Pats.length : Int)) then ((idx p0.Pats s1).bind fun x4 => ((m_i_PatOk N x4).bind fun x5 => ((if !x5 then some true else ((m_i_PosCount N p0).bind fun x6 => some (x4.Not != decide (x6 ≤ s1)))).bind fun b2 => (if b2 then some false else ((m_i_patsOk_l1 N p0 k) (IntKind.i64.wrap (s1 + 1))))))) else some true)
def m_i_patsOk (N : Nat) (p0 : TRule) : Option (Bool) :=
  ((m_i_inRange N (p0.Pats.length : Int) 1 6).bind fun x1 => ((if !x1 then some true else ((m_i_PosCount N p0).bind fun x2 => ((m_i_inRange N x2 1 3).bind fun x3 => some (!x3)))).bind fun b1 => (if b1 then some false else m_i_patsOk_l1 N p0 N 0)))
def m_i_isTerm (N : Nat) (p0 : TArg) : Option (Bool) :=
  ((if !decide (p0.K = 3) then ((m_i_ArgOk N p0).bind fun x1 => some x1) else some false).bind fun b1 => some b1)
def m_i_CondOk (N : Nat) (p0 : TCond) : Option (Bool) :=
  ((m_i_inRange N p0.Op 1 3).bind fun x1 => ((if x1 then ((m_i_isTerm N p0.L).bind fun x2 => some x2) else some false).bind fun b1 => ((if b1 then ((m_i_isTerm N p0.R).bind fun x3 => some x3) else some false).bind fun b2 => some b2)))
def m_i_ExprOk_j1 (N : Nat) (p0 : TExpr) (s1 : Bool) : Option (Bool) :=
  (if s1 then ((m_i_isTerm N p0.L).bind fun x2 => ((if x2 then ((m_i_isTerm N p0.R).bind fun x3 => some x3) else some false).bind fun b2 => some b2)) else some false)
def m_i_ExprOk (N : Nat) (p0 : TExpr) : Option (Bool) :=
  (if seq p0.Op (⟨#[]⟩ : ByteArray) then ((m_i_isTerm N p0.L).bind fun x1 => ((if x1 then some (eqT_TArg p0.R (⟨0, (⟨#[]⟩ : ByteArray), (⟨0, 0, (⟨#[]⟩ : ByteArray)⟩ : TVal)⟩ : TArg)) else some false).bind fun b1 => some b1)) else (if seq p0.Op (⟨#[43]⟩ : ByteArray) then m_i_ExprOk_j1 N p0 (seq p0.Op (⟨#[43]⟩ : ByteArray)) else m_i_ExprOk_j1 N p0 (seq p0.Op (⟨#[45]⟩ : ByteArray))))
def m_i_argsOk_l1 (N : Nat) (p0 : TAct) : Nat → Int → Option (Bool)
  | 0, _ => none
  | k + 1, s1 =>
    (if decide (s1 < (p0.Args.length : Int)) then ((idx p0.Args s1).bind fun x2 => ((m_i_ExprOk N x2).bind fun x3 => (if !x3 then some false else ((m_i_argsOk_l1 N p0 k) (IntKind.i64.wrap (s1 + 1)))))) else some true)
def m_i_argsOk (N : Nat) (p0 : TAct) : Option (Bool) :=
  ((m_i_NameOk N p0.Name).bind fun x1 => ((if !x1 then some true else some (decide (5 < (p0.Args.length : Int)))).bind fun b1 => (if b1 then some false else m_i_argsOk_l1 N p0 N 0)))
def m_i_isUndo (N : Nat) (p0 : ByteArray) : Option (Bool) :=
  ((if seq p0 (⟨#[]⟩ : ByteArray) then some true else ((m_i_NameOk N p0).bind fun x1 => some x1)).bind fun b1 => some b1)
def m_i_ActOk_j1 (N : Nat) (p0 : TAct) (b1 : Bool) (s1 : Bool) : Option (Bool) :=
  (if s1 then ((if b1 then some (decide (p0.N = 0)) else some false).bind fun b10 => ((if b10 then some (seq p0.Undo (⟨#[]⟩ : ByteArray)) else some false).bind fun b11 => some b11)) else some false)
def m_i_ActOk (N : Nat) (p0 : TAct) : Option (Bool) :=
  ((if seq p0.Name (⟨#[]⟩ : ByteArray) then some (decide ((p0.Args.length : Int) = 0)) else some false).bind fun b1 => (if decide (p0.Kind = 1) then ((m_i_argsOk N p0).bind fun x1 => ((if x1 then some (decide (p0.N = 0)) else some false).bind fun b2 => ((if b2 then some (seq p0.Undo (⟨#[]⟩ : ByteArray)) else some false).bind fun b3 => some b3))) else (if decide (p0.Kind = 2) then ((if b1 then ((m_i_inRange N p0.N 0 7).bind fun x2 => some x2) else some false).bind fun b4 => ((if b4 then some (seq p0.Undo (⟨#[]⟩ : ByteArray)) else some false).bind fun b5 => some b5)) else (if decide (p0.Kind = 3) then ((m_i_argsOk N p0).bind fun x3 => ((if x3 then some (decide (p0.N = 0)) else some false).bind fun b6 => ((if b6 then ((m_i_isUndo N p0.Undo).bind fun x4 => some x4) else some false).bind fun b7 => some b7))) else (if decide (p0.Kind = 4) then ((m_i_argsOk N p0).bind fun x5 => ((if x5 then ((m_i_inRange N p0.N 0 100000).bind fun x6 => some x6) else some false).bind fun b8 => ((if b8 then some (seq p0.Undo (⟨#[]⟩ : ByteArray)) else some false).bind fun b9 => some b9))) else (if decide (p0.Kind = 5) then m_i_ActOk_j1 N p0 b1 (decide (p0.Kind = 5)) else m_i_ActOk_j1 N p0 b1 (decide (p0.Kind = 6))))))))
def m_sl_Index_Sstring_string_l1 (N : Nat) (p0 : (List ByteArray)) (p1 : ByteArray) : Nat → Int → Option (Int)
  | 0, _ => none
  | k + 1, s1 =>
    (if decide (s1 < (p0.length : Int)) then ((idx p0 s1).bind fun x1 => (if seq p1 x1 then some s1 else ((m_sl_Index_Sstring_string_l1 N p0 p1 k) (IntKind.i64.wrap (s1 + 1))))) else some (-1))
def m_sl_Index_Sstring_string (N : Nat) (p0 : (List ByteArray)) (p1 : ByteArray) : Option (Int) :=
  m_sl_Index_Sstring_string_l1 N p0 p1 N 0
def m_sl_Contains_Sstring_string (N : Nat) (p0 : (List ByteArray)) (p1 : ByteArray) : Option (Bool) :=
  ((m_sl_Index_Sstring_string N p0 p1).bind fun x1 => some (decide (0 ≤ x1)))
def m_i_addOnce (N : Nat) (p0 : (List ByteArray)) (p1 : ByteArray) : Option ((List ByteArray)) :=
  ((m_sl_Contains_Sstring_string N p0 p1).bind fun x1 => (if x1 then some p0 else ((app p0 ([p1] : List ByteArray)).bind fun x2 => some x2)))
def m_i_addVars_l1 (N : Nat) (p1 : (List TArg)) : Nat → (List ByteArray) → Int → Option ((List ByteArray))
  | 0, _, _ => none
  | k + 1, s1, s2 =>
    (if decide (s2 < (p1.length : Int)) then ((idx p1 s2).bind fun x1 => (if decide (x1.K = 1) then ((m_i_addOnce N s1 x1.S).bind fun x2 => ((m_i_addVars_l1 N p1 k) x2 (IntKind.i64.wrap (s2 + 1)))) else ((m_i_addVars_l1 N p1 k) s1 (IntKind.i64.wrap (s2 + 1))))) else some s1)
def m_i_addVars (N : Nat) (p0 : (List ByteArray)) (p1 : (List TArg)) : Option ((List ByteArray)) :=
  m_i_addVars_l1 N p1 N p0 0
def m_i_PosVars_l1 (N : Nat) (p0 : TRule) : Nat → (List ByteArray) → Int → Option ((List ByteArray))
  | 0, _, _ => none
  | k + 1, s1, s2 =>
    (if decide (s2 < (p0.Pats.length : Int)) then ((idx p0.Pats s2).bind fun x1 => (if !x1.Not then ((m_i_addVars N s1 x1.Args).bind fun x2 => ((m_i_PosVars_l1 N p0 k) x2 (IntKind.i64.wrap (s2 + 1)))) else ((m_i_PosVars_l1 N p0 k) s1 (IntKind.i64.wrap (s2 + 1))))) else some s1)
def m_i_PosVars (N : Nat) (p0 : TRule) : Option ((List ByteArray)) :=
  m_i_PosVars_l1 N p0 N ([] : List ByteArray) 0
def m_i_usedVars_l3 (N : Nat) (s4 : Int) (K2 : (List ByteArray) → Int → Option ((List ByteArray))) (x3 : TAct) : Nat → (List ByteArray) → Int → Option ((List ByteArray))
  | 0, _, _ => none
  | k + 1, s5, s6 =>
    (if decide (s6 < (x3.Args.length : Int)) then ((idx x3.Args s6).bind fun x4 => ((m_i_addVars N s5 ([x4.L, x4.R] : List TArg)).bind fun x5 => ((m_i_usedVars_l3 N s4 K2 x3 k) x5 (IntKind.i64.wrap (s6 + 1))))) else (K2 s5 (IntKind.i64.wrap (s4 + 1))))
def m_i_usedVars_l2 (N : Nat) (p0 : TRule) : Nat → (List ByteArray) → Int → Option ((List ByteArray))
  | 0, _, _ => none
  | k + 1, s3, s4 =>
    (if decide (s4 < (p0.Acts.length : Int)) then ((idx p0.Acts s4).bind fun x3 => m_i_usedVars_l3 N s4 (m_i_usedVars_l2 N p0 k) x3 N s3 0) else some s3)
def m_i_usedVars_l1 (N : Nat) (p0 : TRule) : Nat → (List ByteArray) → Int → Option ((List ByteArray))
  | 0, _, _ => none
  | k + 1, s1, s2 =>
    (if decide (s2 < (p0.Conds.length : Int)) then ((idx p0.Conds s2).bind fun x1 => ((m_i_addVars N s1 ([x1.L, x1.R] : List TArg)).bind fun x2 => ((m_i_usedVars_l1 N p0 k) x2 (IntKind.i64.wrap (s2 + 1))))) else m_i_usedVars_l2 N p0 N s1 0)
def m_i_usedVars (N : Nat) (p0 : TRule) : Option ((List ByteArray)) :=
  m_i_usedVars_l1 N p0 N ([] : List ByteArray) 0
def m_i_RuleOk_l3 (N : Nat) (x10 : (List ByteArray)) (x11 : (List ByteArray)) : Nat → Int → Option (Bool)
  | 0, _ => none
  | k + 1, s3 =>
    (if decide (s3 < (x11.length : Int)) then ((idx x11 s3).bind fun x12 => ((m_sl_Contains_Sstring_string N x10 x12).bind fun x13 => (if !x13 then some false else ((m_i_RuleOk_l3 N x10 x11 k) (IntKind.i64.wrap (s3 + 1)))))) else some true)
def m_i_RuleOk_l2 (N : Nat) (p0 : TRule) : Nat → Int → Option (Bool)
  | 0, _ => none
  | k + 1, s2 =>
    (if decide (s2 < (p0.Acts.length : Int)) then ((idx p0.Acts s2).bind fun x7 => ((m_i_ActOk N x7).bind fun x8 => ((if !x8 then some true else ((if decide (x7.Kind = 2) then ((m_i_PosCount N p0).bind fun x9 => some (decide (x9 ≤ x7.N))) else some false).bind fun b5 => some b5)).bind fun b4 => (if b4 then some false else ((m_i_RuleOk_l2 N p0 k) (IntKind.i64.wrap (s2 + 1))))))) else ((m_i_PosVars N p0).bind fun x10 => ((m_i_usedVars N p0).bind fun x11 => m_i_RuleOk_l3 N x10 x11 N 0)))
def m_i_RuleOk_l1 (N : Nat) (p0 : TRule) : Nat → Int → Option (Bool)
  | 0, _ => none
  | k + 1, s1 =>
    (if decide (s1 < (p0.Conds.length : Int)) then ((idx p0.Conds s1).bind fun x5 => ((m_i_CondOk N x5).bind fun x6 => (if !x6 then some false else ((m_i_RuleOk_l1 N p0 k) (IntKind.i64.wrap (s1 + 1)))))) else m_i_RuleOk_l2 N p0 N 0)
def m_i_RuleOk (N : Nat) (p0 : TRule) : Option (Bool) :=
  ((m_i_NameOk N p0.Name).bind fun x1 => ((if !x1 then some true else ((m_i_inRange N p0.Sal (-100) 100).bind fun x2 => some (!x2))).bind fun b1 => ((if b1 then some true else ((m_i_patsOk N p0).bind fun x3 => some (!x3))).bind fun b2 => (if b2 then some false else ((if decide (6 < (p0.Conds.length : Int)) then some true else ((m_i_inRange N (p0.Acts.length : Int) 1 6).bind fun x4 => some (!x4))).bind fun b3 => (if b3 then some false else m_i_RuleOk_l1 N p0 N 0))))))
def m_sl_IndexFunc_Si_Rule_i_Rule_l1 (N : Nat) (p0 : (List TRule)) (p1 : TRule → Option (Bool)) : Nat → Int → Option (Int)
  | 0, _ => none
  | k + 1, s1 =>
    (if decide (s1 < (p0.length : Int)) then ((idx p0 s1).bind fun x1 => ((p1 x1).bind fun x2 => (if x2 then some s1 else ((m_sl_IndexFunc_Si_Rule_i_Rule_l1 N p0 p1 k) (IntKind.i64.wrap (s1 + 1)))))) else some (-1))
def m_sl_IndexFunc_Si_Rule_i_Rule (N : Nat) (p0 : (List TRule)) (p1 : TRule → Option (Bool)) : Option (Int) :=
  m_sl_IndexFunc_Si_Rule_i_Rule_l1 N p0 p1 N 0
def m_i_RuleAt_c1 (N : Nat) (p0 : TRule) (c0 : ByteArray) : Option (Bool) :=
  some (seq p0.Name c0)
def m_i_RuleAt (N : Nat) (p0 : TDef) (p1 : ByteArray) : Option (Int) :=
  ((m_sl_IndexFunc_Si_Rule_i_Rule N p0.Rules (fun a0 => m_i_RuleAt_c1 N a0 p1)).bind fun x1 => some x1)
def m_i_DefOk_l1 (N : Nat) (p0 : TDef) : Nat → Int → Option (Bool)
  | 0, _ => none
  | k + 1, s1 =>
    (if decide (s1 < (p0.Rules.length : Int)) then ((idx p0.Rules s1).bind fun x3 => ((m_i_RuleOk N x3).bind fun x4 => ((if !x4 then some true else ((m_i_RuleAt N p0 x3.Name).bind fun x5 => some (!decide (x5 = s1)))).bind fun b2 => (if b2 then some false else ((m_i_DefOk_l1 N p0 k) (IntKind.i64.wrap (s1 + 1))))))) else some true)
def m_i_DefOk (N : Nat) (p0 : TDef) : Option (Bool) :=
  ((m_i_NameOk N p0.Name).bind fun x1 => ((if !x1 then some true else ((m_i_inRange N (p0.Rules.length : Int) 1 12).bind fun x2 => some (!x2))).bind fun b1 => (if b1 then some false else m_i_DefOk_l1 N p0 N 0)))
def m_i_FactOk_l1 (N : Nat) (p0 : TFact) : Nat → Int → Option (Bool)
  | 0, _ => none
  | k + 1, s1 =>
    (if decide (s1 < (p0.Fields.length : Int)) then ((idx p0.Fields s1).bind fun x2 => ((m_i_ValOk N x2).bind fun x3 => (if !x3 then some false else ((m_i_FactOk_l1 N p0 k) (IntKind.i64.wrap (s1 + 1)))))) else some true)
def m_i_FactOk (N : Nat) (p0 : TFact) : Option (Bool) :=
  ((m_i_NameOk N p0.Kind).bind fun x1 => ((if !x1 then some true else some (decide (5 < (p0.Fields.length : Int)))).bind fun b1 => (if b1 then some false else m_i_FactOk_l1 N p0 N 0)))
def m_sl_Equal_Si_Val_i_Val_l1 (N : Nat) (p0 : (List TVal)) (p1 : (List TVal)) : Nat → Int → Option (Bool)
  | 0, _ => none
  | k + 1, s1 =>
    (if decide (s1 < (p0.length : Int)) then ((idx p0 s1).bind fun x1 => ((idx p1 s1).bind fun x2 => (if !(eqT_TVal x1 x2) then some false else ((m_sl_Equal_Si_Val_i_Val_l1 N p0 p1 k) (IntKind.i64.wrap (s1 + 1)))))) else some true)
def m_sl_Equal_Si_Val_i_Val (N : Nat) (p0 : (List TVal)) (p1 : (List TVal)) : Option (Bool) :=
  (if !decide ((p0.length : Int) = (p1.length : Int)) then some false else m_sl_Equal_Si_Val_i_Val_l1 N p0 p1 N 0)
def m_i_SameFact (N : Nat) (p0 : TFact) (p1 : TFact) : Option (Bool) :=
  ((if seq p0.Kind p1.Kind then ((m_sl_Equal_Si_Val_i_Val N p0.Fields p1.Fields).bind fun x1 => some x1) else some false).bind fun b1 => some b1)
def m_i_StoreOk_l2 (N : Nat) (s1 : Int) (K1 : Int → Option (Bool)) (x2 : TItem) (x6 : (List TItem)) : Nat → Int → Option (Bool)
  | 0, _ => none
  | k + 1, s2 =>
    (if decide (s2 < (x6.length : Int)) then ((idx x6 s2).bind fun x7 => ((m_i_SameFact N x2.F x7.F).bind fun x8 => (if x8 then some false else ((m_i_StoreOk_l2 N s1 K1 x2 x6 k) (IntKind.i64.wrap (s2 + 1)))))) else (K1 (IntKind.i64.wrap (s1 + 1))))
def m_i_StoreOk_l1 (N : Nat) (p0 : TStore) : Nat → Int → Option (Bool)
  | 0, _ => none
  | k + 1, s1 =>
    (if decide (s1 < (p0.Items.length : Int)) then ((idx p0.Items s1).bind fun x2 => ((m_i_FactOk N x2.F).bind fun x3 => ((if !x3 then some true else ((m_i_inRange N x2.Id 1 (IntKind.i64.wrap (p0.Next - 1))).bind fun x4 => some (!x4))).bind fun b2 => ((if b2 then some true else ((if decide (0 < s1) then ((idx p0.Items (IntKind.i64.wrap (s1 - 1))).bind fun x5 => some (decide (x2.Id ≤ x5.Id))) else some false).bind fun b4 => some b4)).bind fun b3 => (if b3 then some false else ((ssl p0.Items 0 s1).bind fun x6 => m_i_StoreOk_l2 N s1 (m_i_StoreOk_l1 N p0 k) x2 x6 N 0)))))) else some true)
def m_i_StoreOk (N : Nat) (p0 : TStore) : Option (Bool) :=
  ((if decide (40 < (p0.Items.length : Int)) then some true else ((m_i_inRange N p0.Next 1 1000000).bind fun x1 => some (!x1))).bind fun b1 => (if b1 then some false else m_i_StoreOk_l1 N p0 N 0))
def m_i_pats_l1 (N : Nat) (p0 : TRule) (p1 : Bool) : Nat → (List TPat) → Int → Option ((List TPat))
  | 0, _, _ => none
  | k + 1, s1, s2 =>
    (if decide (s2 < (p0.Pats.length : Int)) then ((idx p0.Pats s2).bind fun x1 => (if (x1.Not == p1) then ((app s1 ([x1] : List TPat)).bind fun x2 => ((m_i_pats_l1 N p0 p1 k) x2 (IntKind.i64.wrap (s2 + 1)))) else ((m_i_pats_l1 N p0 p1 k) s1 (IntKind.i64.wrap (s2 + 1))))) else some s1)
def m_i_pats (N : Nat) (p0 : TRule) (p1 : Bool) : Option ((List TPat)) :=
  m_i_pats_l1 N p0 p1 N ([] : List TPat) 0
def m_sl_Clone_Si_Bind_i_Bind (N : Nat) (p0 : (List TBind)) : Option ((List TBind)) :=
  ((app ([] : List TBind) p0).bind fun x1 => some x1)
def m_i_BindOf_l1 (N : Nat) (p0 : (List TBind)) (p1 : ByteArray) : Nat → Int → Option (TVal × Bool)
  | 0, _ => none
  | k + 1, s1 =>
    (if decide (s1 < (p0.length : Int)) then ((idx p0 s1).bind fun x1 => (if seq x1.Name p1 then some (x1.V, true) else ((m_i_BindOf_l1 N p0 p1 k) (IntKind.i64.wrap (s1 + 1))))) else some ((⟨0, 0, (⟨#[]⟩ : ByteArray)⟩ : TVal), false))
def m_i_BindOf (N : Nat) (p0 : (List TBind)) (p1 : ByteArray) : Option (TVal × Bool) :=
  m_i_BindOf_l1 N p0 p1 N 0
def m_i_MatchPat_l1 (N : Nat) (p0 : TPat) (p1 : TFact) (p2 : (List TBind)) : Nat → (List TBind) → Int → Option ((List TBind) × Bool)
  | 0, _, _ => none
  | k + 1, s1, s2 =>
    (if decide (s2 < (p0.Args.length : Int)) then ((idx p0.Args s2).bind fun x3 => ((idx p1.Fields s2).bind fun x4 => (if decide (x3.K = 2) then (if !(eqT_TVal x3.V x4) then ((m_sl_Clone_Si_Bind_i_Bind N p2).bind fun x5 => some (x5, false)) else ((m_i_MatchPat_l1 N p0 p1 p2 k) s1 (IntKind.i64.wrap (s2 + 1)))) else (if decide (x3.K = 1) then ((m_i_BindOf N s1 x3.S).bind fun x6 => ((if x6.2 then some (!(eqT_TVal x6.1 x4)) else some false).bind fun b2 => (if b2 then ((m_sl_Clone_Si_Bind_i_Bind N p2).bind fun x7 => some (x7, false)) else (if !x6.2 then ((app s1 ([(⟨x3.S, x4⟩ : TBind)] : List TBind)).bind fun x8 => ((m_i_MatchPat_l1 N p0 p1 p2 k) x8 (IntKind.i64.wrap (s2 + 1)))) else ((m_i_MatchPat_l1 N p0 p1 p2 k) s1 (IntKind.i64.wrap (s2 + 1))))))) else ((m_i_MatchPat_l1 N p0 p1 p2 k) s1 (IntKind.i64.wrap (s2 + 1))))))) else some (s1, true))
def m_i_MatchPat (N : Nat) (p0 : TPat) (p1 : TFact) (p2 : (List TBind)) : Option ((List TBind) × Bool) :=
  ((if !seq p1.Kind p0.Kind then some true else some (!decide ((p1.Fields.length : Int) = (p0.Args.length : Int)))).bind fun b1 => (if b1 then ((m_sl_Clone_Si_Bind_i_Bind N p2).bind fun x1 => some (x1, false)) else ((m_sl_Clone_Si_Bind_i_Bind N p2).bind fun x2 => m_i_MatchPat_l1 N p0 p1 p2 N x2 0)))
def m_i_hitsIn_l1 (N : Nat) (p0 : TPat) (p1 : TStore) (p2 : (List TBind)) : Nat → Int → Int → Option (Int)
  | 0, _, _ => none
  | k + 1, s1, s2 =>
    (if decide (s2 < (p1.Items.length : Int)) then ((idx p1.Items s2).bind fun x1 => ((m_i_MatchPat N p0 x1.F p2).bind fun x2 => (if x2.2 then ((m_i_hitsIn_l1 N p0 p1 p2 k) (IntKind.i64.wrap (s1 + 1)) (IntKind.i64.wrap (s2 + 1))) else ((m_i_hitsIn_l1 N p0 p1 p2 k) s1 (IntKind.i64.wrap (s2 + 1)))))) else some s1)
def m_i_hitsIn (N : Nat) (p0 : TPat) (p1 : TStore) (p2 : (List TBind)) : Option (Int) :=
  m_i_hitsIn_l1 N p0 p1 p2 N 0 0
def m_i_Blocked_l1 (N : Nat) (p0 : TRule) (p1 : TStore) (p2 : (List TBind)) : Nat → Int → Option (Bool)
  | 0, _ => none
  | k + 1, s1 =>
    (if decide (s1 < (p0.Pats.length : Int)) then ((idx p0.Pats s1).bind fun x1 => ((if x1.Not then ((m_i_hitsIn N x1 p1 p2).bind fun x2 => some (decide (0 < x2))) else some false).bind fun b1 => (if b1 then some true else ((m_i_Blocked_l1 N p0 p1 p2 k) (IntKind.i64.wrap (s1 + 1)))))) else some false)
def m_i_Blocked (N : Nat) (p0 : TRule) (p1 : TStore) (p2 : (List TBind)) : Option (Bool) :=
  m_i_Blocked_l1 N p0 p1 p2 N 0
def m_i_ArgVal (N : Nat) (p0 : TArg) (p1 : (List TBind)) : Option (TVal × Bool) :=
  (if decide (p0.K = 2) then some (p0.V, true) else (if decide (p0.K = 1) then ((m_i_BindOf N p1 p0.S).bind fun x1 => some (x1.1, x1.2)) else some ((⟨0, 0, (⟨#[]⟩ : ByteArray)⟩ : TVal), false)))
def m_cmp_Or_int_l1 (N : Nat) (p0 : (List Int)) : Nat → Int → Option (Int)
  | 0, _ => none
  | k + 1, s1 =>
    (if decide (s1 < (p0.length : Int)) then ((idx p0 s1).bind fun x1 => (if !decide (x1 = 0) then some x1 else ((m_cmp_Or_int_l1 N p0 k) (IntKind.i64.wrap (s1 + 1))))) else some 0)
def m_cmp_Or_int (N : Nat) (p0 : (List Int)) : Option (Int) :=
  m_cmp_Or_int_l1 N p0 N 0
def m_cmp_isNaN_int (N : Nat) (p0 : Int) : Option (Bool) :=
  some (!decide (p0 = p0))
def m_cmp_Compare_int (N : Nat) (p0 : Int) (p1 : Int) : Option (Int) :=
  ((m_cmp_isNaN_int N p0).bind fun x1 => ((m_cmp_isNaN_int N p1).bind fun x2 => (if x1 then (if x2 then some 0 else some (-1)) else (if x2 then some 1 else (if decide (p0 < p1) then some (-1) else (if decide (p1 < p0) then some 1 else some 0))))))
def m_cmp_isNaN_string (N : Nat) (p0 : ByteArray) : Option (Bool) :=
  some (!seq p0 p0)
def m_cmp_Compare_string (N : Nat) (p0 : ByteArray) (p1 : ByteArray) : Option (Int) :=
  ((m_cmp_isNaN_string N p0).bind fun x1 => ((m_cmp_isNaN_string N p1).bind fun x2 => (if x1 then (if x2 then some 0 else some (-1)) else (if x2 then some 1 else (if slt p0 p1 then some (-1) else (if (!slt p0 p1 && !seq p0 p1) then some 1 else some 0))))))
def m_i_compareVals (N : Nat) (p0 : TVal) (p1 : TVal) : Option (Int) :=
  ((m_cmp_Compare_int N p0.K p1.K).bind fun x1 => ((m_cmp_Compare_int N p0.N p1.N).bind fun x2 => ((m_cmp_Compare_string N p0.S p1.S).bind fun x3 => ((m_cmp_Or_int N ([x1, x2, x3] : List Int)).bind fun x4 => some x4))))
def m_i_LessVal (N : Nat) (p0 : TVal) (p1 : TVal) : Option (Bool) :=
  ((m_i_compareVals N p0 p1).bind fun x1 => some (decide (x1 < 0)))
def m_i_Holds (N : Nat) (p0 : TCond) (p1 : (List TBind)) : Option (Bool) :=
  ((m_i_ArgVal N p0.L p1).bind fun x1 => ((m_i_ArgVal N p0.R p1).bind fun x2 => ((if !x1.2 then some true else some (!x2.2)).bind fun b1 => (if b1 then some false else (if decide (p0.Op = 1) then some (eqT_TVal x1.1 x2.1) else (if decide (p0.Op = 2) then some (!(eqT_TVal x1.1 x2.1)) else (if decide (p0.Op = 3) then ((m_i_LessVal N x1.1 x2.1).bind fun x3 => some x3) else some false)))))))
def m_i_HoldAll_l1 (N : Nat) (p0 : (List TCond)) (p1 : (List TBind)) : Nat → Int → Option (Bool)
  | 0, _ => none
  | k + 1, s1 =>
    (if decide (s1 < (p0.length : Int)) then ((idx p0 s1).bind fun x1 => ((m_i_Holds N x1 p1).bind fun x2 => (if !x2 then some false else ((m_i_HoldAll_l1 N p0 p1 k) (IntKind.i64.wrap (s1 + 1)))))) else some true)
def m_i_HoldAll (N : Nat) (p0 : (List TCond)) (p1 : (List TBind)) : Option (Bool) :=
  m_i_HoldAll_l1 N p0 p1 N 0
def m_sl_Clone_Sint_int (N : Nat) (p0 : (List Int)) : Option ((List Int)) :=
  ((app ([] : List Int) p0).bind fun x1 => some x1)
def m_i_addRows_j2 (N : Nat) (s2 : Int) (K1 : (List TMatch) → Int → Option ((List TMatch))) (s3 : (List TMatch)) : Option ((List TMatch)) :=
  (K1 s3 (IntKind.i64.wrap (s2 + 1)))
def m_i_addRows_l1 (N : Nat) (p1 : TRule) (p2 : TStore) (p3 : (List Int)) (p4 : (List TBind)) (RF0 : (List TMatch) → TRule → TStore → (List Int) → (List TBind) → Option ((List TMatch))) (x1 : (List TPat)) : Nat → (List TMatch) → Int → Option ((List TMatch))
  | 0, _, _ => none
  | k + 1, s1, s2 =>
    (if decide (s2 < (p2.Items.length : Int)) then ((idx p2.Items s2).bind fun x7 => ((idx x1 (p3.length : Int)).bind fun x8 => ((m_i_MatchPat N x8 x7.F p4).bind fun x9 => (if x9.2 then ((m_sl_Clone_Sint_int N p3).bind fun x13 => ((app x13 ([x7.Id] : List Int)).bind fun x14 => ((RF0 s1 p1 p2 x14 x9.1).bind fun x15 => m_i_addRows_j2 N s2 (m_i_addRows_l1 N p1 p2 p3 p4 RF0 x1 k) x15))) else ((m_i_addRows_l1 N p1 p2 p3 p4 RF0 x1 k) s1 (IntKind.i64.wrap (s2 + 1))))))) else some s1)
def m_i_addRows : Nat → (List TMatch) → TRule → TStore → (List Int) → (List TBind) → Option ((List TMatch))
  | 0, _, _, _, _, _ => none
  | N + 1, p0, p1, p2, p3, p4 =>
    ((m_i_pats N p1 false).bind fun x1 => (if decide ((p3.length : Int) = (x1.length : Int)) then ((m_i_Blocked N p1 p2 p4).bind fun x2 => ((if !x2 then ((m_i_HoldAll N p1.Conds p4).bind fun x3 => some x3) else some false).bind fun b1 => (if b1 then ((m_sl_Clone_Sint_int N p3).bind fun x4 => ((m_sl_Clone_Si_Bind_i_Bind N p4).bind fun x5 => ((app p0 ([(⟨0, x4, x5⟩ : TMatch)] : List TMatch)).bind fun x6 => some x6))) else some p0))) else m_i_addRows_l1 N p1 p2 p3 p4 (m_i_addRows N) x1 N p0 0))
def m_i_matchesIn (N : Nat) (p0 : TRule) (p1 : TStore) : Option ((List TMatch)) :=
  ((m_i_addRows N ([] : List TMatch) p0 p1 [] []).bind fun x1 => some x1)
def m_i_allIn_l2 (N : Nat) (s2 : Int) (K1 : (List TMatch) → Int → Option ((List TMatch))) (x2 : (List TMatch)) : Nat → (List TMatch) → Int → Option ((List TMatch))
  | 0, _, _ => none
  | k + 1, s3, s4 =>
    (if decide (s4 < (x2.length : Int)) then ((idx x2 s4).bind fun x3 => ((app s3 ([(⟨s2, x3.Ids, x3.Binds⟩ : TMatch)] : List TMatch)).bind fun x4 => ((m_i_allIn_l2 N s2 K1 x2 k) x4 (IntKind.i64.wrap (s4 + 1))))) else (K1 s3 (IntKind.i64.wrap (s2 + 1))))
def m_i_allIn_l1 (N : Nat) (p0 : TDef) (p1 : TStore) : Nat → (List TMatch) → Int → Option ((List TMatch))
  | 0, _, _ => none
  | k + 1, s1, s2 =>
    (if decide (s2 < (p0.Rules.length : Int)) then ((idx p0.Rules s2).bind fun x1 => ((m_i_matchesIn N x1 p1).bind fun x2 => m_i_allIn_l2 N s2 (m_i_allIn_l1 N p0 p1 k) x2 N s1 0)) else some s1)
def m_i_allIn (N : Nat) (p0 : TDef) (p1 : TStore) : Option ((List TMatch)) :=
  m_i_allIn_l1 N p0 p1 N ([] : List TMatch) 0
def m_i_AllMatches (N : Nat) (p0 : TDef) (p1 : TStore) : Option ((List TMatch)) :=
  ((m_i_DefOk N p0).bind fun x1 => ((if !x1 then some true else ((m_i_StoreOk N p1).bind fun x2 => some (!x2))).bind fun b1 => (if b1 then some [] else ((m_i_allIn N p0 p1).bind fun x3 => some x3))))
def m_s_l1In (N : Nat) (p0 : Int) (p1 : Int) (p2 : Int) : Option (Bool) :=
  ((if decide (p1 ≤ p0) then some (decide (p0 ≤ p2)) else some false).bind fun b1 => some b1)
def m_s_l1Letter (N : Nat) (p0 : Int) : Option (Bool) :=
  ((m_s_l1In N (IntKind.i64.wrap p0) 97 122).bind fun x1 => ((if x1 then some true else ((m_s_l1In N (IntKind.i64.wrap p0) 48 57).bind fun x2 => some x2)).bind fun b1 => ((if b1 then some true else some (decide (p0 = 95))).bind fun b2 => some b2)))
def m_s_NameOk_l1 (N : Nat) (p0 : ByteArray) : Nat → Int → Option (Bool)
  | 0, _ => none
  | k + 1, s1 =>
    (if decide (s1 < (p0.size : Int)) then ((idx p0.data.toList s1).bind fun y1 => ((m_s_l1Letter N (y1.toNat : Int)).bind fun x1 => ((if !x1 then some true else ((if decide (s1 = 0) then ((idx p0.data.toList s1).bind fun y2 => ((m_s_l1In N (IntKind.i64.wrap (y2.toNat : Int)) 97 122).bind fun x2 => some (!x2))) else some false).bind fun b2 => some b2)).bind fun b1 => (if b1 then some false else ((m_s_NameOk_l1 N p0 k) (IntKind.i64.wrap (s1 + 1))))))) else ((m_s_l1In N (p0.size : Int) 1 12).bind fun x3 => some x3))
def m_s_NameOk (N : Nat) (p0 : ByteArray) : Option (Bool) :=
  m_s_NameOk_l1 N p0 N 0
def m_s_l2Plain_l1 (N : Nat) (p0 : ByteArray) : Nat → Int → Option (Bool)
  | 0, _ => none
  | k + 1, s1 =>
    (if decide (s1 < (p0.size : Int)) then ((idx p0.data.toList s1).bind fun y1 => ((m_s_l1Letter N (y1.toNat : Int)).bind fun x1 => (if !x1 then some false else ((m_s_l2Plain_l1 N p0 k) (IntKind.i64.wrap (s1 + 1)))))) else some (decide ((p0.size : Int) ≤ 20)))
def m_s_l2Plain (N : Nat) (p0 : ByteArray) : Option (Bool) :=
  m_s_l2Plain_l1 N p0 N 0
def m_s_ValOk (N : Nat) (p0 : TVal) : Option (Bool) :=
  (if decide (p0.K = 1) then ((m_s_l1In N p0.N (-1000000000) 1000000000).bind fun x1 => ((if x1 then some (seq p0.S (⟨#[]⟩ : ByteArray)) else some false).bind fun b1 => some b1)) else (if decide (p0.K = 2) then ((m_s_l2Plain N p0.S).bind fun x2 => ((if x2 then some (decide (p0.N = 0)) else some false).bind fun b2 => some b2)) else some false))
def m_s_l5Large (N : Nat) (p0 : Int) : Option (Bool) :=
  ((m_s_l1In N (IntKind.i64.wrap p0) 65 90).bind fun x1 => some x1)
def m_s_l5VarOk_l1 (N : Nat) (p0 : ByteArray) : Nat → Int → Option (Bool)
  | 0, _ => none
  | k + 1, s1 =>
    (if decide (s1 < (p0.size : Int)) then ((idx p0.data.toList s1).bind fun y1 => ((m_s_l5Large N (y1.toNat : Int)).bind fun x1 => ((if !x1 then ((if decide (s1 = 0) then some true else ((idx p0.data.toList s1).bind fun y2 => ((m_s_l1Letter N (y2.toNat : Int)).bind fun x2 => some (!x2)))).bind fun b2 => some b2) else some false).bind fun b1 => (if b1 then some false else ((m_s_l5VarOk_l1 N p0 k) (IntKind.i64.wrap (s1 + 1))))))) else ((m_s_l1In N (p0.size : Int) 1 12).bind fun x3 => some x3))
def m_s_l5VarOk (N : Nat) (p0 : ByteArray) : Option (Bool) :=
  m_s_l5VarOk_l1 N p0 N 0
def m_s_ArgOk (N : Nat) (p0 : TArg) : Option (Bool) :=
  (if decide (p0.K = 1) then ((m_s_l5VarOk N p0.S).bind fun x1 => ((if x1 then some (eqT_TVal p0.V (⟨0, 0, (⟨#[]⟩ : ByteArray)⟩ : TVal)) else some false).bind fun b1 => some b1)) else (if decide (p0.K = 2) then ((m_s_ValOk N p0.V).bind fun x2 => ((if x2 then some (seq p0.S (⟨#[]⟩ : ByteArray)) else some false).bind fun b2 => some b2)) else (if decide (p0.K = 3) then ((if seq p0.S (⟨#[]⟩ : ByteArray) then some (eqT_TVal p0.V (⟨0, 0, (⟨#[]⟩ : ByteArray)⟩ : TVal)) else some false).bind fun b3 => some b3) else some false)))
def m_s_PatOk_l1 (N : Nat) (p0 : TPat) : Nat → Int → Option (Bool)
  | 0, _ => none
  | k + 1, s1 =>
    (if decide (s1 < (p0.Args.length : Int)) then ((idx p0.Args s1).bind fun x1 => ((m_s_ArgOk N x1).bind fun x2 => (if !x2 then some false else ((m_s_PatOk_l1 N p0 k) (IntKind.i64.wrap (s1 + 1)))))) else ((m_s_NameOk N p0.Kind).bind fun x3 => ((if x3 then some (decide ((p0.Args.length : Int) ≤ 5)) else some false).bind fun b1 => some b1)))
def m_s_PatOk (N : Nat) (p0 : TPat) : Option (Bool) :=
  m_s_PatOk_l1 N p0 N 0
def m_s_l9Pats_l1 (N : Nat) (p0 : (List TPat)) : Nat → Int → Option (Bool)
  | 0, _ => none
  | k + 1, s1 =>
    (if decide (s1 < (p0.length : Int)) then ((if decide (2 < s1) then ((idx p0 s1).bind fun x1 => some (!x1.Not)) else some false).bind fun b1 => (if b1 then some false else ((idx p0 s1).bind fun x2 => ((m_s_PatOk N x2).bind fun x3 => ((if !x3 then some true else ((if decide (s1 = 0) then ((idx p0 s1).bind fun x4 => some x4.Not) else some false).bind fun b3 => some b3)).bind fun b2 => ((if b2 then some true else ((if decide (0 < s1) then ((idx p0 (IntKind.i64.wrap (s1 - 1))).bind fun x5 => some x5.Not) else some false).bind fun b5 => ((if b5 then ((idx p0 s1).bind fun x6 => some (!x6.Not)) else some false).bind fun b6 => some b6))).bind fun b4 => (if b4 then some false else ((m_s_l9Pats_l1 N p0 k) (IntKind.i64.wrap (s1 + 1)))))))))) else ((m_s_l1In N (p0.length : Int) 1 6).bind fun x7 => some x7))
def m_s_l9Pats (N : Nat) (p0 : (List TPat)) : Option (Bool) :=
  m_s_l9Pats_l1 N p0 N 0
def m_s_CondOk (N : Nat) (p0 : TCond) : Option (Bool) :=
  ((m_s_l1In N p0.Op 1 3).bind fun x1 => ((if x1 then ((m_s_ArgOk N p0.L).bind fun x2 => some x2) else some false).bind fun b1 => ((if b1 then ((m_s_ArgOk N p0.R).bind fun x3 => some x3) else some false).bind fun b2 => ((if b2 then some (!decide (p0.L.K = 3)) else some false).bind fun b3 => ((if b3 then some (!decide (p0.R.K = 3)) else some false).bind fun b4 => some b4)))))
def m_s_l9Conds_l1 (N : Nat) (p0 : (List TCond)) (p1 : (List ByteArray)) : Nat → Int → Option (Bool)
  | 0, _ => none
  | k + 1, s1 =>
    (if decide (s1 < (p0.length : Int)) then ((idx p0 s1).bind fun x1 => ((m_s_CondOk N x1).bind fun x2 => ((if !x2 then some true else ((idx p0 s1).bind fun x3 => ((m_s_l9Known N x3.L p1).bind fun x4 => some (!x4)))).bind fun b1 => ((if b1 then some true else ((idx p0 s1).bind fun x5 => ((m_s_l9Known N x5.R p1).bind fun x6 => some (!x6)))).bind fun b2 => (if b2 then some false else ((m_s_l9Conds_l1 N p0 p1 k) (IntKind.i64.wrap (s1 + 1)))))))) else some (decide ((p0.length : Int) ≤ 6)))
def m_s_l9Conds (N : Nat) (p0 : (List TCond)) (p1 : (List ByteArray)) : Option (Bool) :=
  m_s_l9Conds_l1 N p0 p1 N 0
def m_s_l8Given (N : Nat) (p0 : TArg) : Option (Bool) :=
  ((m_s_ArgOk N p0).bind fun x1 => ((if x1 then some (!decide (p0.K = 3)) else some false).bind fun b1 => some b1))
def m_s_ExprOk_j1 (N : Nat) (p0 : TExpr) (s1 : Bool) : Option (Bool) :=
  (if s1 then ((m_s_l8Given N p0.L).bind fun x2 => ((if x2 then ((m_s_l8Given N p0.R).bind fun x3 => some x3) else some false).bind fun b2 => some b2)) else some false)
def m_s_ExprOk (N : Nat) (p0 : TExpr) : Option (Bool) :=
  (if seq p0.Op (⟨#[]⟩ : ByteArray) then ((m_s_l8Given N p0.L).bind fun x1 => ((if x1 then some (eqT_TArg p0.R (⟨0, (⟨#[]⟩ : ByteArray), (⟨0, 0, (⟨#[]⟩ : ByteArray)⟩ : TVal)⟩ : TArg)) else some false).bind fun b1 => some b1)) else (if seq p0.Op (⟨#[43]⟩ : ByteArray) then m_s_ExprOk_j1 N p0 (seq p0.Op (⟨#[43]⟩ : ByteArray)) else m_s_ExprOk_j1 N p0 (seq p0.Op (⟨#[45]⟩ : ByteArray))))
def m_s_l8Args_l1 (N : Nat) (p0 : (List TExpr)) : Nat → Int → Option (Bool)
  | 0, _ => none
  | k + 1, s1 =>
    (if decide (s1 < (p0.length : Int)) then ((idx p0 s1).bind fun x1 => ((m_s_ExprOk N x1).bind fun x2 => (if !x2 then some false else ((m_s_l8Args_l1 N p0 k) (IntKind.i64.wrap (s1 + 1)))))) else some (decide ((p0.length : Int) ≤ 5)))
def m_s_l8Args (N : Nat) (p0 : (List TExpr)) : Option (Bool) :=
  m_s_l8Args_l1 N p0 N 0
def m_s_ActOk_j1 (N : Nat) (p0 : TAct) (b2 : Bool) (s1 : Bool) : Option (Bool) :=
  (if s1 then ((if b2 then some (decide (p0.N = 0)) else some false).bind fun b14 => some b14) else some false)
def m_s_ActOk (N : Nat) (p0 : TAct) : Option (Bool) :=
  ((if seq p0.Name (⟨#[]⟩ : ByteArray) then some (decide ((p0.Args.length : Int) = 0)) else some false).bind fun b1 => ((if b1 then some (seq p0.Undo (⟨#[]⟩ : ByteArray)) else some false).bind fun b2 => (if decide (p0.Kind = 1) then ((m_s_NameOk N p0.Name).bind fun x1 => ((if x1 then ((m_s_l8Args N p0.Args).bind fun x2 => some x2) else some false).bind fun b3 => ((if b3 then some (decide (p0.N = 0)) else some false).bind fun b4 => ((if b4 then some (seq p0.Undo (⟨#[]⟩ : ByteArray)) else some false).bind fun b5 => some b5)))) else (if decide (p0.Kind = 3) then ((m_s_NameOk N p0.Name).bind fun x3 => ((if x3 then ((m_s_l8Args N p0.Args).bind fun x4 => some x4) else some false).bind fun b6 => ((if b6 then some (decide (p0.N = 0)) else some false).bind fun b7 => ((if b7 then ((if seq p0.Undo (⟨#[]⟩ : ByteArray) then some true else ((m_s_NameOk N p0.Undo).bind fun x5 => some x5)).bind fun b9 => some b9) else some false).bind fun b8 => some b8)))) else (if decide (p0.Kind = 4) then ((m_s_NameOk N p0.Name).bind fun x6 => ((if x6 then ((m_s_l8Args N p0.Args).bind fun x7 => some x7) else some false).bind fun b10 => ((if b10 then ((m_s_l1In N p0.N 0 100000).bind fun x8 => some x8) else some false).bind fun b11 => ((if b11 then some (seq p0.Undo (⟨#[]⟩ : ByteArray)) else some false).bind fun b12 => some b12)))) else (if decide (p0.Kind = 2) then ((if b2 then ((m_s_l1In N p0.N 0 7).bind fun x9 => some x9) else some false).bind fun b13 => some b13) else (if decide (p0.Kind = 5) then m_s_ActOk_j1 N p0 b2 (decide (p0.Kind = 5)) else m_s_ActOk_j1 N p0 b2 (decide (p0.Kind = 6)))))))))
def m_s_l9Acts_l2 (N : Nat) (p0 : (List TAct)) (p1 : (List ByteArray)) (s1 : Int) (K1 : Int → Option (Bool)) : Nat → Int → Option (Bool)
  | 0, _ => none
  | k + 1, s2 =>
    ((idx p0 s1).bind fun x5 => (if decide (s2 < (x5.Args.length : Int)) then ((idx p0 s1).bind fun x6 => ((idx x6.Args s2).bind fun x7 => ((m_s_l9Known N x7.L p1).bind fun x8 => ((if !x8 then some true else ((idx p0 s1).bind fun x9 => ((idx x9.Args s2).bind fun x10 => ((m_s_l9Known N x10.R p1).bind fun x11 => some (!x11))))).bind fun b3 => (if b3 then some false else ((m_s_l9Acts_l2 N p0 p1 s1 K1 k) (IntKind.i64.wrap (s2 + 1)))))))) else (K1 (IntKind.i64.wrap (s1 + 1)))))
def m_s_l9Acts_l1 (N : Nat) (p0 : (List TAct)) (p1 : (List ByteArray)) (p2 : Int) : Nat → Int → Option (Bool)
  | 0, _ => none
  | k + 1, s1 =>
    (if decide (s1 < (p0.length : Int)) then ((idx p0 s1).bind fun x1 => ((m_s_ActOk N x1).bind fun x2 => ((if !x2 then some true else ((idx p0 s1).bind fun x3 => ((if decide (x3.Kind = 2) then ((idx p0 s1).bind fun x4 => some (decide (p2 ≤ x4.N))) else some false).bind fun b2 => some b2))).bind fun b1 => (if b1 then some false else m_s_l9Acts_l2 N p0 p1 s1 (m_s_l9Acts_l1 N p0 p1 p2 k) N 0)))) else ((m_s_l1In N (p0.length : Int) 1 6).bind fun x12 => some x12))
def m_s_l9Acts (N : Nat) (p0 : (List TAct)) (p1 : (List ByteArray)) (p2 : Int) : Option (Bool) :=
  m_s_l9Acts_l1 N p0 p1 p2 N 0
def m_s_RuleOk (N : Nat) (p0 : TRule) : Option (Bool) :=
  ((m_s_PosVars N p0).bind fun x1 => ((m_s_NameOk N p0.Name).bind fun x2 => ((if x2 then ((m_s_l1In N p0.Sal (-100) 100).bind fun x3 => some x3) else some false).bind fun b1 => ((if b1 then ((m_s_l9Pats N p0.Pats).bind fun x4 => some x4) else some false).bind fun b2 => ((if b2 then ((m_s_l9Conds N p0.Conds x1).bind fun x5 => some x5) else some false).bind fun b3 => ((if b3 then ((m_s_PosCount N p0).bind fun x6 => ((m_s_l9Acts N p0.Acts x1 x6).bind fun x7 => some x7)) else some false).bind fun b4 => some b4))))))
def m_s_RuleAt_l1 (N : Nat) (p0 : TDef) (p1 : ByteArray) : Nat → Int → Option (Int)
  | 0, _ => none
  | k + 1, s1 =>
    (if decide (s1 < (p0.Rules.length : Int)) then ((idx p0.Rules s1).bind fun x1 => (if seq x1.Name p1 then some s1 else ((m_s_RuleAt_l1 N p0 p1 k) (IntKind.i64.wrap (s1 + 1))))) else some (-1))
def m_s_RuleAt (N : Nat) (p0 : TDef) (p1 : ByteArray) : Option (Int) :=
  m_s_RuleAt_l1 N p0 p1 N 0
def m_s_DefOk_l1 (N : Nat) (p0 : TDef) : Nat → Int → Option (Bool)
  | 0, _ => none
  | k + 1, s1 =>
    (if decide (s1 < (p0.Rules.length : Int)) then ((idx p0.Rules s1).bind fun x1 => ((m_s_RuleOk N x1).bind fun x2 => ((if !x2 then some true else ((idx p0.Rules s1).bind fun x3 => ((m_s_RuleAt N p0 x3.Name).bind fun x4 => some (!decide (x4 = s1))))).bind fun b1 => (if b1 then some false else ((m_s_DefOk_l1 N p0 k) (IntKind.i64.wrap (s1 + 1))))))) else ((m_s_NameOk N p0.Name).bind fun x5 => ((if x5 then ((m_s_l1In N (p0.Rules.length : Int) 1 12).bind fun x6 => some x6) else some false).bind fun b2 => some b2)))
def m_s_DefOk (N : Nat) (p0 : TDef) : Option (Bool) :=
  m_s_DefOk_l1 N p0 N 0
def m_i_MatchesOf (N : Nat) (p0 : TRule) (p1 : TStore) : Option ((List TMatch)) :=
  ((m_i_RuleOk N p0).bind fun x1 => ((if !x1 then some true else ((m_i_StoreOk N p1).bind fun x2 => some (!x2))).bind fun b1 => (if b1 then some [] else ((m_i_matchesIn N p0 p1).bind fun x3 => some x3))))
def m_l_sameInts_l1 (N : Nat) (p0 : (List Int)) (p1 : (List Int)) : Nat → Int → Option (Bool)
  | 0, _ => none
  | k + 1, s1 =>
    (if decide (s1 < (p0.length : Int)) then ((idx p0 s1).bind fun x1 => ((idx p1 s1).bind fun x2 => (if !decide (x1 = x2) then some false else ((m_l_sameInts_l1 N p0 p1 k) (IntKind.i64.wrap (s1 + 1)))))) else some true)
def m_l_sameInts (N : Nat) (p0 : (List Int)) (p1 : (List Int)) : Option (Bool) :=
  (if !decide ((p0.length : Int) = (p1.length : Int)) then some false else m_l_sameInts_l1 N p0 p1 N 0)
def m_l_sameBinds_l1 (N : Nat) (p0 : (List TBind)) (p1 : (List TBind)) : Nat → Int → Option (Bool)
  | 0, _ => none
  | k + 1, s1 =>
    (if decide (s1 < (p0.length : Int)) then ((idx p0 s1).bind fun x1 => ((idx p1 s1).bind fun x2 => (if !(eqT_TBind x1 x2) then some false else ((m_l_sameBinds_l1 N p0 p1 k) (IntKind.i64.wrap (s1 + 1)))))) else some true)
def m_l_sameBinds (N : Nat) (p0 : (List TBind)) (p1 : (List TBind)) : Option (Bool) :=
  (if !decide ((p0.length : Int) = (p1.length : Int)) then some false else m_l_sameBinds_l1 N p0 p1 N 0)
def m_s_l3Vals_l1 (N : Nat) (p0 : (List TVal)) : Nat → Int → Option (Bool)
  | 0, _ => none
  | k + 1, s1 =>
    (if decide (s1 < (p0.length : Int)) then ((idx p0 s1).bind fun x1 => ((m_s_ValOk N x1).bind fun x2 => (if !x2 then some false else ((m_s_l3Vals_l1 N p0 k) (IntKind.i64.wrap (s1 + 1)))))) else some (decide ((p0.length : Int) ≤ 5)))
def m_s_l3Vals (N : Nat) (p0 : (List TVal)) : Option (Bool) :=
  m_s_l3Vals_l1 N p0 N 0
def m_s_FactOk (N : Nat) (p0 : TFact) : Option (Bool) :=
  ((m_s_NameOk N p0.Kind).bind fun x1 => ((if x1 then ((m_s_l3Vals N p0.Fields).bind fun x2 => some x2) else some false).bind fun b1 => some b1))
def m_s_StoreOk_l1 (N : Nat) (p0 : TStore) : Nat → Int → Option (Bool)
  | 0, _ => none
  | k + 1, s1 =>
    (if decide (s1 < (p0.Items.length : Int)) then ((idx p0.Items s1).bind fun x2 => ((m_s_FactOk N x2.F).bind fun x3 => ((if !x3 then some true else some (decide (x2.Id < 1))).bind fun b2 => ((if b2 then some true else some (decide (p0.Next ≤ x2.Id))).bind fun b3 => ((if b3 then some true else ((if decide (0 < s1) then ((idx p0.Items (IntKind.i64.wrap (s1 - 1))).bind fun x4 => some (decide (x2.Id ≤ x4.Id))) else some false).bind fun b5 => some b5)).bind fun b4 => ((if b4 then some true else ((m_s_IdOf N p0 x2.F).bind fun x5 => some (!decide (x5 = x2.Id)))).bind fun b6 => (if b6 then some false else ((m_s_StoreOk_l1 N p0 k) (IntKind.i64.wrap (s1 + 1)))))))))) else some true)
def m_s_StoreOk (N : Nat) (p0 : TStore) : Option (Bool) :=
  ((m_s_l1In N p0.Next 1 1000000).bind fun x1 => ((if !x1 then some true else some (decide (40 < (p0.Items.length : Int)))).bind fun b1 => (if b1 then some false else m_s_StoreOk_l1 N p0 N 0)))
def m_s_BindOf_l1 (N : Nat) (p0 : (List TBind)) (p1 : ByteArray) : Nat → Int → Option (TVal × Bool)
  | 0, _ => none
  | k + 1, s1 =>
    (if decide (s1 < (p0.length : Int)) then ((idx p0 s1).bind fun x1 => (if seq x1.Name p1 then ((idx p0 s1).bind fun x2 => some (x2.V, true)) else ((m_s_BindOf_l1 N p0 p1 k) (IntKind.i64.wrap (s1 + 1))))) else some ((⟨0, 0, (⟨#[]⟩ : ByteArray)⟩ : TVal), false))
def m_s_BindOf (N : Nat) (p0 : (List TBind)) (p1 : ByteArray) : Option (TVal × Bool) :=
  m_s_BindOf_l1 N p0 p1 N 0
def m_s_MatchPat_l1 (N : Nat) (p0 : TPat) (p1 : TFact) (p2 : (List TBind)) : Nat → (List TBind) → Int → Option ((List TBind) × Bool)
  | 0, _, _ => none
  | k + 1, s1, s2 =>
    (if decide (s2 < (p0.Args.length : Int)) then ((idx p0.Args s2).bind fun x2 => ((m_s_BindOf N s1 x2.S).bind fun x3 => ((if decide (x2.K = 2) then ((idx p1.Fields s2).bind fun x4 => some (!(eqT_TVal x2.V x4))) else some false).bind fun b2 => ((if b2 then some true else ((if decide (x2.K = 1) then some x3.2 else some false).bind fun b4 => ((if b4 then ((idx p1.Fields s2).bind fun x5 => some (!(eqT_TVal x3.1 x5))) else some false).bind fun b5 => some b5))).bind fun b3 => (if b3 then ((app ([] : List TBind) p2).bind fun x6 => some (x6, false)) else ((if decide (x2.K = 1) then some (!x3.2) else some false).bind fun b6 => (if b6 then ((idx p1.Fields s2).bind fun x7 => ((app s1 ([(⟨x2.S, x7⟩ : TBind)] : List TBind)).bind fun x8 => ((m_s_MatchPat_l1 N p0 p1 p2 k) x8 (IntKind.i64.wrap (s2 + 1))))) else ((m_s_MatchPat_l1 N p0 p1 p2 k) s1 (IntKind.i64.wrap (s2 + 1)))))))))) else some (s1, true))
def m_s_MatchPat (N : Nat) (p0 : TPat) (p1 : TFact) (p2 : (List TBind)) : Option ((List TBind) × Bool) :=
  ((app ([] : List TBind) p2).bind fun x1 => ((if !seq p0.Kind p1.Kind then some true else some (!decide ((p0.Args.length : Int) = (p1.Fields.length : Int)))).bind fun b1 => (if b1 then some (x1, false) else m_s_MatchPat_l1 N p0 p1 p2 N x1 0)))
def m_s_Blocked_l2 (N : Nat) (p0 : TRule) (p1 : TStore) (p2 : (List TBind)) (s1 : Int) (K1 : Int → Option (Bool)) : Nat → Int → Option (Bool)
  | 0, _ => none
  | k + 1, s2 =>
    ((if decide (s2 < (p1.Items.length : Int)) then ((idx p0.Pats s1).bind fun x1 => some x1.Not) else some false).bind fun b1 => (if b1 then ((idx p0.Pats s1).bind fun x2 => ((idx p1.Items s2).bind fun x3 => ((m_s_MatchPat N x2 x3.F p2).bind fun x4 => (if x4.2 then some true else ((m_s_Blocked_l2 N p0 p1 p2 s1 K1 k) (IntKind.i64.wrap (s2 + 1))))))) else (K1 (IntKind.i64.wrap (s1 + 1)))))
def m_s_Blocked_l1 (N : Nat) (p0 : TRule) (p1 : TStore) (p2 : (List TBind)) : Nat → Int → Option (Bool)
  | 0, _ => none
  | k + 1, s1 =>
    (if decide (s1 < (p0.Pats.length : Int)) then m_s_Blocked_l2 N p0 p1 p2 s1 (m_s_Blocked_l1 N p0 p1 p2 k) N 0 else some false)
def m_s_Blocked (N : Nat) (p0 : TRule) (p1 : TStore) (p2 : (List TBind)) : Option (Bool) :=
  m_s_Blocked_l1 N p0 p1 p2 N 0
def m_s_ArgVal (N : Nat) (p0 : TArg) (p1 : (List TBind)) : Option (TVal × Bool) :=
  (if decide (p0.K = 2) then some (p0.V, true) else (if decide (p0.K = 1) then ((m_s_BindOf N p1 p0.S).bind fun x1 => some (x1.1, x1.2)) else some ((⟨0, 0, (⟨#[]⟩ : ByteArray)⟩ : TVal), false)))
def m_s_LessVal (N : Nat) (p0 : TVal) (p1 : TVal) : Option (Bool) :=
  (if !decide (p0.K = p1.K) then some (decide (p0.K < p1.K)) else (if !decide (p0.N = p1.N) then some (decide (p0.N < p1.N)) else some (slt p0.S p1.S)))
def m_s_Holds (N : Nat) (p0 : TCond) (p1 : (List TBind)) : Option (Bool) :=
  ((m_s_ArgVal N p0.L p1).bind fun x1 => ((m_s_ArgVal N p0.R p1).bind fun x2 => ((if !x1.2 then some true else some (!x2.2)).bind fun b1 => (if b1 then some false else (if decide (p0.Op = 1) then some (eqT_TVal x1.1 x2.1) else (if decide (p0.Op = 2) then some (!(eqT_TVal x1.1 x2.1)) else (if decide (p0.Op = 3) then ((m_s_LessVal N x1.1 x2.1).bind fun x3 => some x3) else some false)))))))
def m_s_HoldAll_l1 (N : Nat) (p0 : (List TCond)) (p1 : (List TBind)) : Nat → Int → Option (Bool)
  | 0, _ => none
  | k + 1, s1 =>
    (if decide (s1 < (p0.length : Int)) then ((idx p0 s1).bind fun x1 => ((m_s_Holds N x1 p1).bind fun x2 => (if !x2 then some false else ((m_s_HoldAll_l1 N p0 p1 k) (IntKind.i64.wrap (s1 + 1)))))) else some true)
def m_s_HoldAll (N : Nat) (p0 : (List TCond)) (p1 : (List TBind)) : Option (Bool) :=
  m_s_HoldAll_l1 N p0 p1 N 0
def m_s_l11Rows_j1 (N : Nat) (s1 : (List TMatch)) : Option ((List TMatch)) :=
  some s1
def m_s_l11Rows_j3 (N : Nat) (s3 : Int) (K2 : (List TMatch) → Int → Option ((List TMatch))) (s4 : (List TMatch)) : Option ((List TMatch)) :=
  (K2 s4 (IntKind.i64.wrap (s3 + 1)))
def m_s_l11Rows_l2 (N : Nat) (p1 : TRule) (p2 : TStore) (p3 : (List Int)) (p4 : (List TBind)) (RF0 : (List TMatch) → TRule → TStore → (List Int) → (List TBind) → Option ((List TMatch))) : Nat → (List TMatch) → Int → Option ((List TMatch))
  | 0, _, _ => none
  | k + 1, s2, s3 =>
    (if decide (s3 < (p2.Items.length : Int)) then ((idx p1.Pats (p3.length : Int)).bind fun x16 => ((idx p2.Items s3).bind fun x17 => ((m_s_MatchPat N x16 x17.F p4).bind fun x18 => (if x18.2 then ((idx p2.Items s3).bind fun x23 => ((app ([] : List Int) p3).bind fun x24 => ((app x24 ([x23.Id] : List Int)).bind fun x25 => ((RF0 s2 p1 p2 x25 x18.1).bind fun x26 => m_s_l11Rows_j3 N s3 (m_s_l11Rows_l2 N p1 p2 p3 p4 RF0 k) x26)))) else ((m_s_l11Rows_l2 N p1 p2 p3 p4 RF0 k) s2 (IntKind.i64.wrap (s3 + 1))))))) else some s2)
def m_s_l11Rows : Nat → (List TMatch) → TRule → TStore → (List Int) → (List TBind) → Option ((List TMatch))
  | 0, _, _, _, _, _ => none
  | N + 1, p0, p1, p2, p3, p4 =>
    ((m_s_PosCount N p1).bind fun x1 => (if decide ((p3.length : Int) = x1) then ((m_s_Blocked N p1 p2 p4).bind fun x2 => ((if !x2 then ((m_s_HoldAll N p1.Conds p4).bind fun x3 => some x3) else some false).bind fun b1 => (if b1 then ((app ([] : List Int) p3).bind fun x7 => ((app ([] : List TBind) p4).bind fun x8 => ((app p0 ([(⟨0, x7, x8⟩ : TMatch)] : List TMatch)).bind fun x9 => m_s_l11Rows_j1 N x9))) else some p0))) else m_s_l11Rows_l2 N p1 p2 p3 p4 (m_s_l11Rows N) N p0 0))
def m_s_l11Of (N : Nat) (p0 : TRule) (p1 : TStore) : Option ((List TMatch)) :=
  ((m_s_l11Rows N ([] : List TMatch) p0 p1 ([] : List Int) ([] : List TBind)).bind fun x1 => some x1)
def m_s_l11All_l2 (N : Nat) (s2 : Int) (K1 : (List TMatch) → Int → Option ((List TMatch))) : Nat → (List TMatch) → (List TMatch) → Int → Option ((List TMatch))
  | 0, _, _, _ => none
  | k + 1, s3, s4, s5 =>
    (if decide (s5 < (s4.length : Int)) then ((idx s4 s5).bind fun x3 => ((app s3 ([(⟨s2, x3.Ids, x3.Binds⟩ : TMatch)] : List TMatch)).bind fun x4 => ((m_s_l11All_l2 N s2 K1 k) x4 (s4.set s5.toNat (⟨s2, x3.Ids, x3.Binds⟩ : TMatch)) (IntKind.i64.wrap (s5 + 1))))) else (K1 s3 (IntKind.i64.wrap (s2 + 1))))
def m_s_l11All_l1 (N : Nat) (p0 : TDef) (p1 : TStore) : Nat → (List TMatch) → Int → Option ((List TMatch))
  | 0, _, _ => none
  | k + 1, s1, s2 =>
    (if decide (s2 < (p0.Rules.length : Int)) then ((idx p0.Rules s2).bind fun x1 => ((m_s_l11Of N x1 p1).bind fun x2 => m_s_l11All_l2 N s2 (m_s_l11All_l1 N p0 p1 k) N s1 x2 0)) else some s1)
def m_s_l11All (N : Nat) (p0 : TDef) (p1 : TStore) : Option ((List TMatch)) :=
  m_s_l11All_l1 N p0 p1 N ([] : List TMatch) 0
def m_s_AllMatches (N : Nat) (p0 : TDef) (p1 : TStore) : Option ((List TMatch)) :=
  ((m_s_DefOk N p0).bind fun x1 => ((if !x1 then some true else ((m_s_StoreOk N p1).bind fun x2 => some (!x2))).bind fun b1 => (if b1 then some ([] : List TMatch) else ((m_s_l11All N p0 p1).bind fun x3 => some x3))))
def m_l_FnAllMatches_l2 (N : Nat) (x4 : (List TMatch)) (s2 : Int) (K1 : Int → Int → Option (Bool)) (x8 : (List TMatch)) : Nat → Int → Int → Option (Bool)
  | 0, _, _ => none
  | k + 1, s3, s4 =>
    (if decide (s4 < (x8.length : Int)) then ((if decide ((x4.length : Int) ≤ s3) then some true else ((idx x4 s3).bind fun x9 => some (!decide (x9.Rule = s2)))).bind fun b1 => ((if b1 then some true else ((idx x4 s3).bind fun x10 => ((idx x8 s4).bind fun x11 => ((m_l_sameInts N x10.Ids x11.Ids).bind fun x12 => some (!x12))))).bind fun b2 => ((if b2 then some true else ((idx x4 s3).bind fun x13 => ((idx x8 s4).bind fun x14 => ((m_l_sameBinds N x13.Binds x14.Binds).bind fun x15 => some (!x15))))).bind fun b3 => (if b3 then some false else ((m_l_FnAllMatches_l2 N x4 s2 K1 x8 k) (IntKind.i64.wrap (s3 + 1)) (IntKind.i64.wrap (s4 + 1))))))) else (K1 s3 (IntKind.i64.wrap (s2 + 1))))
def m_l_FnAllMatches_j3 (N : Nat) (s5 : Bool) : Option (Bool) :=
  some s5
def m_l_FnAllMatches_l1 (N : Nat) (x2 : TDef × TStore) (x4 : (List TMatch)) : Nat → Int → Int → Option (Bool)
  | 0, _, _ => none
  | k + 1, s1, s2 =>
    (if decide (s2 < (x2.1.Rules.length : Int)) then ((idx x2.1.Rules s2).bind fun x7 => ((m_i_MatchesOf N x7 x2.2).bind fun x8 => m_l_FnAllMatches_l2 N x4 s2 (m_l_FnAllMatches_l1 N x2 x4 k) x8 N s1 0)) else (if decide (s1 = (x4.length : Int)) then ((m_s_AllMatches N x2.1 x2.2).bind fun x16 => m_l_FnAllMatches_j3 N (decide (s1 = (x16.length : Int)))) else m_l_FnAllMatches_j3 N false))
def m_l_FnAllMatches (N : Nat) (p0 : (List Int)) : Option (Bool) :=
  ((m_l_big N p0).bind fun x1 => (if x1 then some true else ((m_s_DrawAllMatches N p0).bind fun x2 => ((m_i_AllMatches N x2.1 x2.2).bind fun x4 => ((m_s_DefOk N x2.1).bind fun x6 => (if !x6 then some (decide ((x4.length : Int) = 0)) else m_l_FnAllMatches_l1 N x2 x4 N 0 0))))))
end Go.Proofs.YtelchcokfcdndaaGreat
