/- Printed by a program of ours: Lean functions of plain data for the Go functions. -/
import Derived.Test.YtmhckcoabhahpaaEJ
namespace Go.Proofs.Ytmhckcoabhahpaa
open Eng
set_option linter.unusedVariables false
set_option linter.unusedSimpArgs false

structure Tl1Cur where
  b : (List Int)
  i : Int
  h : Int
  deriving DecidableEq
def RTl1Cur (Φ : Hp) (F : List Nat) (cs : List Value) (x : Tl1Cur) : Prop :=
  ∃ (s0 : Value) (F0 : List Nat), cs = [s0, .int .i64 x.i, .int .i64 x.h] ∧ F = F0 ∧ RSl (RI .u8) 1 Φ F0 s0 x.b
theorem RTl1Cur.lasts : Lasts RTl1Cur := fun X Φ Φ' F cs x hf hd ⟨s0, F0, hc, hF, h0⟩ => by
  rw [hF] at hd
  exact ⟨s0, F0, hc, hF, h0.frame RI.lasts hf (fun k hk => hd k (by simp [hk]))⟩
theorem RTl1Cur.knows : Knows RTl1Cur := fun Φ F cs x ⟨s0, F0, hc, hF, h0⟩ => hF ▸ h0.kn
theorem RTl1Cur.one : Ones RTl1Cur := fun _ _ _ _ h => by obtain ⟨s0, F0, rfl, -, h0⟩ := h; exact One.all ⟨h0.one, rfl, rfl, trivial⟩
def OTl1Cur (Φ : Hp) (F : List Nat) (cs : List Value) (x : Tl1Cur) : Prop :=
  ∃ (s0 : Value), cs = [s0, .int .i64 x.i, .int .i64 x.h] ∧ F = (ob s0 ++ []) ∧ OSl (RI .u8) 5 1 Φ [] s0 x.b
theorem OTl1Cur.lasts : Lasts OTl1Cur := fun X Φ Φ' F cs x hf hd ⟨s0, hc, hF, h0⟩ => by
  rw [hF] at hd
  exact ⟨s0, hc, hF, h0.frame RI.lasts hf (fun k hk => hd k (by simp [hk])) (Dj.nil _)⟩
theorem OTl1Cur.knows : Knows OTl1Cur := fun Φ F cs x ⟨s0, hc, hF, h0⟩ => hF ▸ (h0.knO.app h0.kn)
theorem OTl1Cur.one : Ones OTl1Cur := fun _ _ _ _ h => by obtain ⟨s0, rfl, -, h0⟩ := h; exact One.all ⟨h0.one, rfl, rfl, trivial⟩
theorem OTl1Cur.gives : Gives OTl1Cur RTl1Cur := fun Φ F cs x ⟨s0, hc, hF, h0⟩ => ⟨s0, ob s0 ++ [], hc, hF, h0.rslG (Gives.refl _)⟩
structure TVal where
  K : Int
  N : Int
  S : ByteArray
  deriving DecidableEq
def RTVal (Φ : Hp) (F : List Nat) (cs : List Value) (x : TVal) : Prop := cs = [.int .i64 x.K, .int .i64 x.N, .string x.S] ∧ F = []
theorem RTVal.lasts : Lasts RTVal := fun _ _ _ _ _ _ _ _ h => h
theorem RTVal.knows : Knows RTVal := fun _ _ _ _ h => h.2 ▸ Kw.nil
theorem RTVal.flat : Flat RTVal := fun _ _ _ _ h => h.2
theorem RTVal.one : Ones RTVal := fun _ _ _ _ h => by obtain ⟨rfl, -⟩ := h; exact One.all ⟨rfl, rfl, rfl, trivial⟩
structure TArg where
  K : Int
  S : ByteArray
  V : TVal
  deriving DecidableEq
def RTArg (Φ : Hp) (F : List Nat) (cs : List Value) (x : TArg) : Prop := cs = [.int .i64 x.K, .string x.S, .int .i64 x.V.K, .int .i64 x.V.N, .string x.V.S] ∧ F = []
theorem RTArg.lasts : Lasts RTArg := fun _ _ _ _ _ _ _ _ h => h
theorem RTArg.knows : Knows RTArg := fun _ _ _ _ h => h.2 ▸ Kw.nil
theorem RTArg.flat : Flat RTArg := fun _ _ _ _ h => h.2
theorem RTArg.one : Ones RTArg := fun _ _ _ _ h => by obtain ⟨rfl, -⟩ := h; exact One.all ⟨rfl, rfl, rfl, rfl, rfl, trivial⟩
structure TPat where
  Kind : ByteArray
  Args : (List TArg)
  Not : Bool
  deriving DecidableEq
def RTPat (Φ : Hp) (F : List Nat) (cs : List Value) (x : TPat) : Prop :=
  ∃ (s0 : Value) (F0 : List Nat), cs = [.string x.Kind, s0, .bool x.Not] ∧ F = F0 ∧ RSl RTArg 5 Φ F0 s0 x.Args
theorem RTPat.lasts : Lasts RTPat := fun X Φ Φ' F cs x hf hd ⟨s0, F0, hc, hF, h0⟩ => by
  rw [hF] at hd
  exact ⟨s0, F0, hc, hF, h0.frame RTArg.lasts hf (fun k hk => hd k (by simp [hk]))⟩
theorem RTPat.knows : Knows RTPat := fun Φ F cs x ⟨s0, F0, hc, hF, h0⟩ => hF ▸ h0.kn
theorem RTPat.one : Ones RTPat := fun _ _ _ _ h => by obtain ⟨s0, F0, rfl, -, h0⟩ := h; exact One.all ⟨rfl, h0.one, rfl, trivial⟩
def OTPat (Φ : Hp) (F : List Nat) (cs : List Value) (x : TPat) : Prop :=
  ∃ (s0 : Value), cs = [.string x.Kind, s0, .bool x.Not] ∧ F = (ob s0 ++ []) ∧ OSl RTArg 83 5 Φ [] s0 x.Args
theorem OTPat.lasts : Lasts OTPat := fun X Φ Φ' F cs x hf hd ⟨s0, hc, hF, h0⟩ => by
  rw [hF] at hd
  exact ⟨s0, hc, hF, h0.frame RTArg.lasts hf (fun k hk => hd k (by simp [hk])) (Dj.nil _)⟩
theorem OTPat.knows : Knows OTPat := fun Φ F cs x ⟨s0, hc, hF, h0⟩ => hF ▸ (h0.knO.app h0.kn)
theorem OTPat.one : Ones OTPat := fun _ _ _ _ h => by obtain ⟨s0, rfl, -, h0⟩ := h; exact One.all ⟨rfl, h0.one, rfl, trivial⟩
theorem OTPat.gives : Gives OTPat RTPat := fun Φ F cs x ⟨s0, hc, hF, h0⟩ => ⟨s0, ob s0 ++ [], hc, hF, h0.rslG (Gives.refl _)⟩
structure TBind where
  Name : ByteArray
  V : TVal
  deriving DecidableEq
def RTBind (Φ : Hp) (F : List Nat) (cs : List Value) (x : TBind) : Prop := cs = [.string x.Name, .int .i64 x.V.K, .int .i64 x.V.N, .string x.V.S] ∧ F = []
theorem RTBind.lasts : Lasts RTBind := fun _ _ _ _ _ _ _ _ h => h
theorem RTBind.knows : Knows RTBind := fun _ _ _ _ h => h.2 ▸ Kw.nil
theorem RTBind.flat : Flat RTBind := fun _ _ _ _ h => h.2
theorem RTBind.one : Ones RTBind := fun _ _ _ _ h => by obtain ⟨rfl, -⟩ := h; exact One.all ⟨rfl, rfl, rfl, rfl, trivial⟩
structure TCond where
  Op : Int
  L : TArg
  R : TArg
  deriving DecidableEq
def RTCond (Φ : Hp) (F : List Nat) (cs : List Value) (x : TCond) : Prop := cs = [.int .i64 x.Op, .int .i64 x.L.K, .string x.L.S, .int .i64 x.L.V.K, .int .i64 x.L.V.N, .string x.L.V.S, .int .i64 x.R.K, .string x.R.S, .int .i64 x.R.V.K, .int .i64 x.R.V.N, .string x.R.V.S] ∧ F = []
theorem RTCond.lasts : Lasts RTCond := fun _ _ _ _ _ _ _ _ h => h
theorem RTCond.knows : Knows RTCond := fun _ _ _ _ h => h.2 ▸ Kw.nil
theorem RTCond.flat : Flat RTCond := fun _ _ _ _ h => h.2
theorem RTCond.one : Ones RTCond := fun _ _ _ _ h => by obtain ⟨rfl, -⟩ := h; exact One.all ⟨rfl, rfl, rfl, rfl, rfl, rfl, rfl, rfl, rfl, rfl, rfl, trivial⟩
structure TExpr where
  Op : ByteArray
  L : TArg
  R : TArg
  deriving DecidableEq
def RTExpr (Φ : Hp) (F : List Nat) (cs : List Value) (x : TExpr) : Prop := cs = [.string x.Op, .int .i64 x.L.K, .string x.L.S, .int .i64 x.L.V.K, .int .i64 x.L.V.N, .string x.L.V.S, .int .i64 x.R.K, .string x.R.S, .int .i64 x.R.V.K, .int .i64 x.R.V.N, .string x.R.V.S] ∧ F = []
theorem RTExpr.lasts : Lasts RTExpr := fun _ _ _ _ _ _ _ _ h => h
theorem RTExpr.knows : Knows RTExpr := fun _ _ _ _ h => h.2 ▸ Kw.nil
theorem RTExpr.flat : Flat RTExpr := fun _ _ _ _ h => h.2
theorem RTExpr.one : Ones RTExpr := fun _ _ _ _ h => by obtain ⟨rfl, -⟩ := h; exact One.all ⟨rfl, rfl, rfl, rfl, rfl, rfl, rfl, rfl, rfl, rfl, rfl, trivial⟩
structure TAct where
  Kind : Int
  Name : ByteArray
  Args : (List TExpr)
  N : Int
  Undo : ByteArray
  deriving DecidableEq
def RTAct (Φ : Hp) (F : List Nat) (cs : List Value) (x : TAct) : Prop :=
  ∃ (s0 : Value) (F0 : List Nat), cs = [.int .i64 x.Kind, .string x.Name, s0, .int .i64 x.N, .string x.Undo] ∧ F = F0 ∧ RSl RTExpr 11 Φ F0 s0 x.Args
theorem RTAct.lasts : Lasts RTAct := fun X Φ Φ' F cs x hf hd ⟨s0, F0, hc, hF, h0⟩ => by
  rw [hF] at hd
  exact ⟨s0, F0, hc, hF, h0.frame RTExpr.lasts hf (fun k hk => hd k (by simp [hk]))⟩
theorem RTAct.knows : Knows RTAct := fun Φ F cs x ⟨s0, F0, hc, hF, h0⟩ => hF ▸ h0.kn
theorem RTAct.one : Ones RTAct := fun _ _ _ _ h => by obtain ⟨s0, F0, rfl, -, h0⟩ := h; exact One.all ⟨rfl, rfl, h0.one, rfl, rfl, trivial⟩
def OTAct (Φ : Hp) (F : List Nat) (cs : List Value) (x : TAct) : Prop :=
  ∃ (s0 : Value), cs = [.int .i64 x.Kind, .string x.Name, s0, .int .i64 x.N, .string x.Undo] ∧ F = (ob s0 ++ []) ∧ OSl RTExpr 85 11 Φ [] s0 x.Args
theorem OTAct.lasts : Lasts OTAct := fun X Φ Φ' F cs x hf hd ⟨s0, hc, hF, h0⟩ => by
  rw [hF] at hd
  exact ⟨s0, hc, hF, h0.frame RTExpr.lasts hf (fun k hk => hd k (by simp [hk])) (Dj.nil _)⟩
theorem OTAct.knows : Knows OTAct := fun Φ F cs x ⟨s0, hc, hF, h0⟩ => hF ▸ (h0.knO.app h0.kn)
theorem OTAct.one : Ones OTAct := fun _ _ _ _ h => by obtain ⟨s0, rfl, -, h0⟩ := h; exact One.all ⟨rfl, rfl, h0.one, rfl, rfl, trivial⟩
theorem OTAct.gives : Gives OTAct RTAct := fun Φ F cs x ⟨s0, hc, hF, h0⟩ => ⟨s0, ob s0 ++ [], hc, hF, h0.rslG (Gives.refl _)⟩
structure TRule where
  Name : ByteArray
  Sal : Int
  Pats : (List TPat)
  Conds : (List TCond)
  Acts : (List TAct)
  deriving DecidableEq
def RTRule (Φ : Hp) (F : List Nat) (cs : List Value) (x : TRule) : Prop :=
  ∃ (s0 : Value) (F0 : List Nat) (s1 : Value) (F1 : List Nat) (s2 : Value) (F2 : List Nat), cs = [.string x.Name, .int .i64 x.Sal, s0, s1, s2] ∧ F = F0 ++ (F1 ++ (F2)) ∧ RSl RTPat 3 Φ F0 s0 x.Pats ∧ RSl RTCond 11 Φ F1 s1 x.Conds ∧ RSl RTAct 5 Φ F2 s2 x.Acts
theorem RTRule.lasts : Lasts RTRule := fun X Φ Φ' F cs x hf hd ⟨s0, F0, s1, F1, s2, F2, hc, hF, h0, h1, h2⟩ => by
  rw [hF] at hd
  exact ⟨s0, F0, s1, F1, s2, F2, hc, hF, h0.frame RTPat.lasts hf (fun k hk => hd k (by simp [hk])), h1.frame RTCond.lasts hf (fun k hk => hd k (by simp [hk])), h2.frame RTAct.lasts hf (fun k hk => hd k (by simp [hk]))⟩
theorem RTRule.knows : Knows RTRule := fun Φ F cs x ⟨s0, F0, s1, F1, s2, F2, hc, hF, h0, h1, h2⟩ => hF ▸ (h0.kn.app (h1.kn.app h2.kn))
theorem RTRule.one : Ones RTRule := fun _ _ _ _ h => by obtain ⟨s0, F0, s1, F1, s2, F2, rfl, -, h0, h1, h2⟩ := h; exact One.all ⟨rfl, rfl, h0.one, h1.one, h2.one, trivial⟩
def OTRule (Φ : Hp) (F : List Nat) (cs : List Value) (x : TRule) : Prop :=
  ∃ (s0 : Value) (D0 : List Nat) (s1 : Value) (s2 : Value) (D2 : List Nat), cs = [.string x.Name, .int .i64 x.Sal, s0, s1, s2] ∧ F = (ob s0 ++ D0) ++ ((ob s1 ++ []) ++ ((ob s2 ++ D2))) ∧ OSl OTPat 37 3 Φ D0 s0 x.Pats ∧ OSl RTCond 206 11 Φ [] s1 x.Conds ∧ OSl OTAct 96 5 Φ D2 s2 x.Acts
theorem OTRule.lasts : Lasts OTRule := fun X Φ Φ' F cs x hf hd ⟨s0, D0, s1, s2, D2, hc, hF, h0, h1, h2⟩ => by
  rw [hF] at hd
  exact ⟨s0, D0, s1, s2, D2, hc, hF, h0.frame OTPat.lasts hf (fun k hk => hd k (by simp [hk])) (fun k hk => hd k (by simp [hk])), h1.frame RTCond.lasts hf (fun k hk => hd k (by simp [hk])) (Dj.nil _), h2.frame OTAct.lasts hf (fun k hk => hd k (by simp [hk])) (fun k hk => hd k (by simp [hk]))⟩
theorem OTRule.knows : Knows OTRule := fun Φ F cs x ⟨s0, D0, s1, s2, D2, hc, hF, h0, h1, h2⟩ => hF ▸ ((h0.knO.app h0.kn).app ((h1.knO.app h1.kn).app (h2.knO.app h2.kn)))
theorem OTRule.one : Ones OTRule := fun _ _ _ _ h => by obtain ⟨s0, D0, s1, s2, D2, rfl, -, h0, h1, h2⟩ := h; exact One.all ⟨rfl, rfl, h0.one, h1.one, h2.one, trivial⟩
theorem OTRule.gives : Gives OTRule RTRule := fun Φ F cs x ⟨s0, D0, s1, s2, D2, hc, hF, h0, h1, h2⟩ => ⟨s0, ob s0 ++ D0, s1, ob s1 ++ [], s2, ob s2 ++ D2, hc, hF, h0.rslG OTPat.gives, h1.rslG (Gives.refl _), h2.rslG OTAct.gives⟩
structure TFact where
  Kind : ByteArray
  Fields : (List TVal)
  deriving DecidableEq
def RTFact (Φ : Hp) (F : List Nat) (cs : List Value) (x : TFact) : Prop :=
  ∃ (s0 : Value) (F0 : List Nat), cs = [.string x.Kind, s0] ∧ F = F0 ∧ RSl RTVal 3 Φ F0 s0 x.Fields
theorem RTFact.lasts : Lasts RTFact := fun X Φ Φ' F cs x hf hd ⟨s0, F0, hc, hF, h0⟩ => by
  rw [hF] at hd
  exact ⟨s0, F0, hc, hF, h0.frame RTVal.lasts hf (fun k hk => hd k (by simp [hk]))⟩
theorem RTFact.knows : Knows RTFact := fun Φ F cs x ⟨s0, F0, hc, hF, h0⟩ => hF ▸ h0.kn
theorem RTFact.one : Ones RTFact := fun _ _ _ _ h => by obtain ⟨s0, F0, rfl, -, h0⟩ := h; exact One.all ⟨rfl, h0.one, trivial⟩
def OTFact (Φ : Hp) (F : List Nat) (cs : List Value) (x : TFact) : Prop :=
  ∃ (s0 : Value), cs = [.string x.Kind, s0] ∧ F = (ob s0 ++ []) ∧ OSl RTVal 79 3 Φ [] s0 x.Fields
theorem OTFact.lasts : Lasts OTFact := fun X Φ Φ' F cs x hf hd ⟨s0, hc, hF, h0⟩ => by
  rw [hF] at hd
  exact ⟨s0, hc, hF, h0.frame RTVal.lasts hf (fun k hk => hd k (by simp [hk])) (Dj.nil _)⟩
theorem OTFact.knows : Knows OTFact := fun Φ F cs x ⟨s0, hc, hF, h0⟩ => hF ▸ (h0.knO.app h0.kn)
theorem OTFact.one : Ones OTFact := fun _ _ _ _ h => by obtain ⟨s0, rfl, -, h0⟩ := h; exact One.all ⟨rfl, h0.one, trivial⟩
theorem OTFact.gives : Gives OTFact RTFact := fun Φ F cs x ⟨s0, hc, hF, h0⟩ => ⟨s0, ob s0 ++ [], hc, hF, h0.rslG (Gives.refl _)⟩
structure TItem where
  Id : Int
  F : TFact
  deriving DecidableEq
def RTItem (Φ : Hp) (F : List Nat) (cs : List Value) (x : TItem) : Prop :=
  ∃ (s0 : Value) (F0 : List Nat), cs = [.int .i64 x.Id, .string x.F.Kind, s0] ∧ F = F0 ∧ RSl RTVal 3 Φ F0 s0 x.F.Fields
theorem RTItem.lasts : Lasts RTItem := fun X Φ Φ' F cs x hf hd ⟨s0, F0, hc, hF, h0⟩ => by
  rw [hF] at hd
  exact ⟨s0, F0, hc, hF, h0.frame RTVal.lasts hf (fun k hk => hd k (by simp [hk]))⟩
theorem RTItem.knows : Knows RTItem := fun Φ F cs x ⟨s0, F0, hc, hF, h0⟩ => hF ▸ h0.kn
theorem RTItem.one : Ones RTItem := fun _ _ _ _ h => by obtain ⟨s0, F0, rfl, -, h0⟩ := h; exact One.all ⟨rfl, rfl, h0.one, trivial⟩
def OTItem (Φ : Hp) (F : List Nat) (cs : List Value) (x : TItem) : Prop :=
  ∃ (s0 : Value), cs = [.int .i64 x.Id, .string x.F.Kind, s0] ∧ F = (ob s0 ++ []) ∧ OSl RTVal 79 3 Φ [] s0 x.F.Fields
theorem OTItem.lasts : Lasts OTItem := fun X Φ Φ' F cs x hf hd ⟨s0, hc, hF, h0⟩ => by
  rw [hF] at hd
  exact ⟨s0, hc, hF, h0.frame RTVal.lasts hf (fun k hk => hd k (by simp [hk])) (Dj.nil _)⟩
theorem OTItem.knows : Knows OTItem := fun Φ F cs x ⟨s0, hc, hF, h0⟩ => hF ▸ (h0.knO.app h0.kn)
theorem OTItem.one : Ones OTItem := fun _ _ _ _ h => by obtain ⟨s0, rfl, -, h0⟩ := h; exact One.all ⟨rfl, rfl, h0.one, trivial⟩
theorem OTItem.gives : Gives OTItem RTItem := fun Φ F cs x ⟨s0, hc, hF, h0⟩ => ⟨s0, ob s0 ++ [], hc, hF, h0.rslG (Gives.refl _)⟩
structure TStore where
  Items : (List TItem)
  Next : Int
  deriving DecidableEq
def RTStore (Φ : Hp) (F : List Nat) (cs : List Value) (x : TStore) : Prop :=
  ∃ (s0 : Value) (F0 : List Nat), cs = [s0, .int .i64 x.Next] ∧ F = F0 ∧ RSl RTItem 3 Φ F0 s0 x.Items
theorem RTStore.lasts : Lasts RTStore := fun X Φ Φ' F cs x hf hd ⟨s0, F0, hc, hF, h0⟩ => by
  rw [hF] at hd
  exact ⟨s0, F0, hc, hF, h0.frame RTItem.lasts hf (fun k hk => hd k (by simp [hk]))⟩
theorem RTStore.knows : Knows RTStore := fun Φ F cs x ⟨s0, F0, hc, hF, h0⟩ => hF ▸ h0.kn
theorem RTStore.one : Ones RTStore := fun _ _ _ _ h => by obtain ⟨s0, F0, rfl, -, h0⟩ := h; exact One.all ⟨h0.one, rfl, trivial⟩
def OTStore (Φ : Hp) (F : List Nat) (cs : List Value) (x : TStore) : Prop :=
  ∃ (s0 : Value) (D0 : List Nat), cs = [s0, .int .i64 x.Next] ∧ F = (ob s0 ++ D0) ∧ OSl OTItem 169 3 Φ D0 s0 x.Items
theorem OTStore.lasts : Lasts OTStore := fun X Φ Φ' F cs x hf hd ⟨s0, D0, hc, hF, h0⟩ => by
  rw [hF] at hd
  exact ⟨s0, D0, hc, hF, h0.frame OTItem.lasts hf (fun k hk => hd k (by simp [hk])) (fun k hk => hd k (by simp [hk]))⟩
theorem OTStore.knows : Knows OTStore := fun Φ F cs x ⟨s0, D0, hc, hF, h0⟩ => hF ▸ (h0.knO.app h0.kn)
theorem OTStore.one : Ones OTStore := fun _ _ _ _ h => by obtain ⟨s0, D0, rfl, -, h0⟩ := h; exact One.all ⟨h0.one, rfl, trivial⟩
theorem OTStore.gives : Gives OTStore RTStore := fun Φ F cs x ⟨s0, D0, hc, hF, h0⟩ => ⟨s0, ob s0 ++ D0, hc, hF, h0.rslG OTItem.gives⟩
def eqT_TVal (x y : TVal) : Bool := ((x.K == y.K) && ((x.N == y.N) && (seq x.S y.S && true)))
theorem seq_dec (a b : ByteArray) : seq a b = decide (a = b) := by
  unfold seq
  by_cases h : a = b
  · subst h; simp
  · have : ¬ a.toList = b.toList := fun e => h (by rw [ByteArray.toList_eq, ByteArray.toList_eq] at e; exact ByteArray.ext (Array.toList_inj.1 e))
    simp [h, this]
theorem eqT_TVal_eq (x y : TVal) : eqT_TVal x y = decide (x = y) := by
  obtain ⟨a0, a1, a2⟩ := x; obtain ⟨b0, b1, b2⟩ := y
  rw [Bool.eq_iff_iff]
  simp only [eqT_TVal, seq_dec, Bool.and_true, Bool.and_eq_true, beq_iff_eq, decide_eq_true_eq, TVal.mk.injEq, and_assoc]
/-! laws.big -/
def m_l_big (N : Nat) (p0 : (List Int)) : Option (Bool) :=
  some (decide (1048576 < (p0.length : Int)))
/-! spec.l1New -/
def m_s_l1New_l1 (N : Nat) (p0 : (List Int)) : Nat → Int → Int → Option (Tl1Cur)
  | 0, _, _ => none
  | k + 1, s1, s2 =>
    ((if decide (s2 < (p0.length : Int)) then some (decide (s2 < 4000)) else some false).bind fun b1 => (if b1 then ((idx p0 s2).bind fun x1 => ((m_s_l1New_l1 N p0 k) (andI .i64 (IntKind.i64.wrap ((IntKind.i64.wrap ((IntKind.i64.wrap (s1 * 137)) + (IntKind.i64.wrap x1))) + 11)) 1073741823) (IntKind.i64.wrap (s2 + 1)))) else some (⟨p0, 0, s1⟩ : Tl1Cur)))
def m_s_l1New (N : Nat) (p0 : (List Int)) : Option (Tl1Cur) :=
  m_s_l1New_l1 N p0 N (IntKind.i64.wrap (354354 + (p0.length : Int))) 0
/-! spec.l1Byte -/
def m_s_l1Byte (N : Nat) (p0 : Tl1Cur) : Option (Int × Tl1Cur) :=
  (if decide (p0.i < (p0.b.length : Int)) then ((idx p0.b p0.i).bind fun x1 => some ((andI .i64 (IntKind.i64.wrap ((andI .i64 (xorI .i64 (shrI .i64 (IntKind.i64.wrap ((IntKind.i64.wrap (p0.h * 6364136223846793005)) + 1442695040888963407)) 33) (shrI .i64 (IntKind.i64.wrap ((IntKind.i64.wrap (p0.h * 6364136223846793005)) + 1442695040888963407)) 47)) 255) + (IntKind.i64.wrap x1))) 255), (⟨p0.b, IntKind.i64.wrap (p0.i + 1), IntKind.i64.wrap ((IntKind.i64.wrap (p0.h * 6364136223846793005)) + 1442695040888963407)⟩ : Tl1Cur))) else some ((andI .i64 (xorI .i64 (shrI .i64 (IntKind.i64.wrap ((IntKind.i64.wrap (p0.h * 6364136223846793005)) + 1442695040888963407)) 33) (shrI .i64 (IntKind.i64.wrap ((IntKind.i64.wrap (p0.h * 6364136223846793005)) + 1442695040888963407)) 47)) 255), (⟨p0.b, p0.i, IntKind.i64.wrap ((IntKind.i64.wrap (p0.h * 6364136223846793005)) + 1442695040888963407)⟩ : Tl1Cur)))
/-! spec.l1Below -/
def m_s_l1Below (N : Nat) (p0 : Tl1Cur) (p1 : Int) : Option (Int × Tl1Cur) :=
  (if decide (p1 ≤ 0) then some (0, p0) else (if decide (p1 ≤ 256) then ((m_s_l1Byte N p0).bind fun x1 => ((remI x1.1 p1).bind fun x2 => some (x2, (⟨p0.b, x1.2.i, x1.2.h⟩ : Tl1Cur)))) else ((m_s_l1Byte N p0).bind fun x3 => ((m_s_l1Byte N (⟨p0.b, x3.2.i, x3.2.h⟩ : Tl1Cur)).bind fun x4 => ((m_s_l1Byte N (⟨p0.b, x4.2.i, x4.2.h⟩ : Tl1Cur)).bind fun x5 => ((remI (IntKind.i64.wrap ((IntKind.i64.wrap ((IntKind.i64.wrap (x3.1 * 65536)) + (IntKind.i64.wrap (x4.1 * 256)))) + x5.1)) p1).bind fun x6 => some (x6, (⟨p0.b, x5.2.i, x5.2.h⟩ : Tl1Cur))))))))
/-! spec.l1Str -/
def m_s_l1Str (N : Nat) (p0 : Tl1Cur) (p1 : (List ByteArray)) : Option (ByteArray × Tl1Cur) :=
  ((m_s_l1Below N p0 (p1.length : Int)).bind fun x1 => ((idx p1 x1.1).bind fun x2 => some (x2, (⟨p0.b, x1.2.i, x1.2.h⟩ : Tl1Cur))))
/-! spec.l1Once -/
def m_s_l1Once (N : Nat) (p0 : Tl1Cur) (p1 : Int) : Option (Bool × Tl1Cur) :=
  ((m_s_l1Below N p0 p1).bind fun x1 => some (decide (x1.1 = 0), (⟨p0.b, x1.2.i, x1.2.h⟩ : Tl1Cur)))
/-! spec.l3Small -/
def m_s_l3Small (N : Nat) (p0 : Tl1Cur) : Option (TVal × Tl1Cur) :=
  ((m_s_l1Once N p0 2).bind fun x1 => (if x1.1 then ((m_s_l1Below N (⟨p0.b, x1.2.i, x1.2.h⟩ : Tl1Cur) 3).bind fun x2 => some ((⟨1, IntKind.i64.wrap (1 + x2.1), (⟨#[]⟩ : ByteArray)⟩ : TVal), (⟨p0.b, x2.2.i, x2.2.h⟩ : Tl1Cur))) else ((m_s_l1Str N (⟨p0.b, x1.2.i, x1.2.h⟩ : Tl1Cur) ([(⟨#[97]⟩ : ByteArray), (⟨#[98]⟩ : ByteArray)] : List ByteArray)).bind fun x3 => some ((⟨2, 0, x3.1⟩ : TVal), (⟨p0.b, x3.2.i, x3.2.h⟩ : Tl1Cur)))))
/-! spec.l6Val -/
def m_s_l6Val (N : Nat) (p0 : TVal) : Option (TArg) :=
  some (⟨2, (⟨#[]⟩ : ByteArray), p0⟩ : TArg)
/-! spec.l6Var -/
def m_s_l6Var (N : Nat) (p0 : ByteArray) : Option (TArg) :=
  some (⟨1, p0, (⟨0, 0, (⟨#[]⟩ : ByteArray)⟩ : TVal)⟩ : TArg)
/-! spec.l6Arg -/
def m_s_l6Arg (N : Nat) (p0 : Tl1Cur) : Option (TArg × Tl1Cur) :=
  ((m_s_l1Below N p0 6).bind fun x1 => (if decide (x1.1 = 0) then some ((⟨3, (⟨#[]⟩ : ByteArray), (⟨0, 0, (⟨#[]⟩ : ByteArray)⟩ : TVal)⟩ : TArg), (⟨p0.b, x1.2.i, x1.2.h⟩ : Tl1Cur)) else (if decide (x1.1 = 1) then ((m_s_l3Small N (⟨p0.b, x1.2.i, x1.2.h⟩ : Tl1Cur)).bind fun x2 => ((m_s_l6Val N x2.1).bind fun x3 => some (x3, (⟨p0.b, x2.2.i, x2.2.h⟩ : Tl1Cur)))) else ((m_s_l1Str N (⟨p0.b, x1.2.i, x1.2.h⟩ : Tl1Cur) ([(⟨#[88]⟩ : ByteArray), (⟨#[89]⟩ : ByteArray), (⟨#[90]⟩ : ByteArray), (⟨#[88]⟩ : ByteArray)] : List ByteArray)).bind fun x4 => ((m_s_l6Var N x4.1).bind fun x5 => some (x5, (⟨p0.b, x4.2.i, x4.2.h⟩ : Tl1Cur)))))))
/-! spec.l6Draw -/
def m_s_l6Draw_l2 (N : Nat) (p0 : Tl1Cur) (p1 : Bool) (x1 : ByteArray × Tl1Cur) (s1 : Int) : Nat → (List TArg) → Int → Int → Int → Option (TPat × Tl1Cur)
  | 0, _, _, _, _ => none
  | k + 1, s2, s3, s4, s5 =>
    (if decide (s3 < s1) then ((m_s_l6Arg N (⟨p0.b, s4, s5⟩ : Tl1Cur)).bind fun x2 => ((app s2 ([x2.1] : List TArg)).bind fun x3 => ((m_s_l6Draw_l2 N p0 p1 x1 s1 k) x3 (IntKind.i64.wrap (s3 + 1)) x2.2.i x2.2.h))) else some ((⟨x1.1, s2, p1⟩ : TPat), (⟨p0.b, s4, s5⟩ : Tl1Cur)))
def m_s_l6Draw_j1 (N : Nat) (p0 : Tl1Cur) (p1 : Bool) (x1 : ByteArray × Tl1Cur) (s1 : Int) : Option (TPat × Tl1Cur) :=
  m_s_l6Draw_l2 N p0 p1 x1 s1 N ([] : List TArg) 0 x1.2.i x1.2.h
def m_s_l6Draw (N : Nat) (p0 : Tl1Cur) (p1 : Bool) : Option (TPat × Tl1Cur) :=
  ((m_s_l1Str N p0 ([(⟨#[111, 114, 100, 101, 114]⟩ : ByteArray), (⟨#[112, 97, 105, 100]⟩ : ByteArray), (⟨#[105, 116, 101, 109]⟩ : ByteArray), (⟨#[111, 114, 100, 101, 114]⟩ : ByteArray)] : List ByteArray)).bind fun x1 => (if seq x1.1 (⟨#[105, 116, 101, 109]⟩ : ByteArray) then m_s_l6Draw_j1 N p0 p1 x1 2 else m_s_l6Draw_j1 N p0 p1 x1 1))
/-! spec.l6Binds -/
def m_s_l6Binds_l1 (N : Nat) (p0 : Tl1Cur) : Nat → (List TBind) → Int → Int → Int → Option ((List TBind) × Tl1Cur)
  | 0, _, _, _, _ => none
  | k + 1, s1, s2, s3, s4 =>
    (if decide (0 < s2) then ((m_s_l1Str N (⟨p0.b, s3, s4⟩ : Tl1Cur) ([(⟨#[88]⟩ : ByteArray), (⟨#[89]⟩ : ByteArray), (⟨#[87]⟩ : ByteArray)] : List ByteArray)).bind fun x2 => ((m_s_l3Small N (⟨p0.b, x2.2.i, x2.2.h⟩ : Tl1Cur)).bind fun x3 => ((app s1 ([(⟨x2.1, x3.1⟩ : TBind)] : List TBind)).bind fun x4 => ((m_s_l6Binds_l1 N p0 k) x4 (IntKind.i64.wrap (s2 - 1)) x3.2.i x3.2.h)))) else some (s1, (⟨p0.b, s3, s4⟩ : Tl1Cur)))
def m_s_l6Binds (N : Nat) (p0 : Tl1Cur) : Option ((List TBind) × Tl1Cur) :=
  ((m_s_l1Below N p0 3).bind fun x1 => m_s_l6Binds_l1 N p0 N ([] : List TBind) x1.1 x1.2.i x1.2.h)
/-! spec.l6Has -/
def m_s_l6Has_l1 (N : Nat) (p0 : (List ByteArray)) (p1 : ByteArray) : Nat → Int → Option (Bool)
  | 0, _ => none
  | k + 1, s1 =>
    (if decide (s1 < (p0.length : Int)) then ((idx p0 s1).bind fun x1 => (if seq x1 p1 then some true else ((m_s_l6Has_l1 N p0 p1 k) (IntKind.i64.wrap (s1 + 1))))) else some false)
def m_s_l6Has (N : Nat) (p0 : (List ByteArray)) (p1 : ByteArray) : Option (Bool) :=
  m_s_l6Has_l1 N p0 p1 N 0
/-! spec.VarsOf -/
def m_s_VarsOf_l1 (N : Nat) (p0 : TPat) : Nat → (List ByteArray) → Int → Option ((List ByteArray))
  | 0, _, _ => none
  | k + 1, s1, s2 =>
    (if decide (s2 < (p0.Args.length : Int)) then ((idx p0.Args s2).bind fun x1 => ((if decide (x1.K = 1) then ((idx p0.Args s2).bind fun x2 => ((m_s_l6Has N s1 x2.S).bind fun x3 => some (!x3))) else some false).bind fun b1 => (if b1 then ((idx p0.Args s2).bind fun x4 => ((app s1 ([x4.S] : List ByteArray)).bind fun x5 => ((m_s_VarsOf_l1 N p0 k) x5 (IntKind.i64.wrap (s2 + 1))))) else ((m_s_VarsOf_l1 N p0 k) s1 (IntKind.i64.wrap (s2 + 1)))))) else some s1)
def m_s_VarsOf (N : Nat) (p0 : TPat) : Option ((List ByteArray)) :=
  m_s_VarsOf_l1 N p0 N ([] : List ByteArray) 0
/-! spec.PosVars -/
def m_s_PosVars_l2 (N : Nat) (p0 : TRule) (s2 : Int) (K1 : (List ByteArray) → Int → Option ((List ByteArray))) (x2 : (List ByteArray)) : Nat → (List ByteArray) → Int → Option ((List ByteArray))
  | 0, _, _ => none
  | k + 1, s3, s4 =>
    ((if decide (s4 < (x2.length : Int)) then ((idx p0.Pats s2).bind fun x3 => some (!x3.Not)) else some false).bind fun b1 => (if b1 then ((idx x2 s4).bind fun x4 => ((m_s_l6Has N s3 x4).bind fun x5 => (if !x5 then ((idx x2 s4).bind fun x6 => ((app s3 ([x6] : List ByteArray)).bind fun x7 => ((m_s_PosVars_l2 N p0 s2 K1 x2 k) x7 (IntKind.i64.wrap (s4 + 1))))) else ((m_s_PosVars_l2 N p0 s2 K1 x2 k) s3 (IntKind.i64.wrap (s4 + 1)))))) else (K1 s3 (IntKind.i64.wrap (s2 + 1)))))
def m_s_PosVars_l1 (N : Nat) (p0 : TRule) : Nat → (List ByteArray) → Int → Option ((List ByteArray))
  | 0, _, _ => none
  | k + 1, s1, s2 =>
    (if decide (s2 < (p0.Pats.length : Int)) then ((idx p0.Pats s2).bind fun x1 => ((m_s_VarsOf N x1).bind fun x2 => m_s_PosVars_l2 N p0 s2 (m_s_PosVars_l1 N p0 k) x2 N s1 0)) else some s1)
def m_s_PosVars (N : Nat) (p0 : TRule) : Option ((List ByteArray)) :=
  m_s_PosVars_l1 N p0 N ([] : List ByteArray) 0
/-! spec.PosCount -/
def m_s_PosCount_l1 (N : Nat) (p0 : TRule) : Nat → Int → Int → Option (Int)
  | 0, _, _ => none
  | k + 1, s1, s2 =>
    (if decide (s2 < (p0.Pats.length : Int)) then ((idx p0.Pats s2).bind fun x1 => (if !x1.Not then ((m_s_PosCount_l1 N p0 k) (IntKind.i64.wrap (s1 + 1)) (IntKind.i64.wrap (s2 + 1))) else ((m_s_PosCount_l1 N p0 k) s1 (IntKind.i64.wrap (s2 + 1))))) else some s1)
def m_s_PosCount (N : Nat) (p0 : TRule) : Option (Int) :=
  m_s_PosCount_l1 N p0 N 0 0
/-! spec.l1Int -/
def m_s_l1Int (N : Nat) (p0 : Tl1Cur) (p1 : (List Int)) : Option (Int × Tl1Cur) :=
  ((m_s_l1Below N p0 (p1.length : Int)).bind fun x1 => ((idx p1 x1.1).bind fun x2 => some (x2, (⟨p0.b, x1.2.i, x1.2.h⟩ : Tl1Cur))))
/-! spec.l7Arg -/
def m_s_l7Arg (N : Nat) (p0 : Tl1Cur) : Option (TArg × Tl1Cur) :=
  ((m_s_l1Once N p0 3).bind fun x1 => (if x1.1 then ((m_s_l3Small N (⟨p0.b, x1.2.i, x1.2.h⟩ : Tl1Cur)).bind fun x2 => ((m_s_l6Val N x2.1).bind fun x3 => some (x3, (⟨p0.b, x2.2.i, x2.2.h⟩ : Tl1Cur)))) else ((m_s_l1Str N (⟨p0.b, x1.2.i, x1.2.h⟩ : Tl1Cur) ([(⟨#[88]⟩ : ByteArray), (⟨#[89]⟩ : ByteArray)] : List ByteArray)).bind fun x4 => ((m_s_l6Var N x4.1).bind fun x5 => some (x5, (⟨p0.b, x4.2.i, x4.2.h⟩ : Tl1Cur))))))
/-! spec.l7Draw -/
def m_s_l7Draw (N : Nat) (p0 : Tl1Cur) : Option (TCond × Tl1Cur) :=
  ((m_s_l1Below N p0 3).bind fun x1 => ((m_s_l7Arg N (⟨p0.b, x1.2.i, x1.2.h⟩ : Tl1Cur)).bind fun x2 => ((m_s_l7Arg N (⟨p0.b, x2.2.i, x2.2.h⟩ : Tl1Cur)).bind fun x3 => some ((⟨IntKind.i64.wrap (1 + x1.1), x2.1, x3.1⟩ : TCond), (⟨p0.b, x3.2.i, x3.2.h⟩ : Tl1Cur)))))
/-! spec.l9Known -/
def m_s_l9Known (N : Nat) (p0 : TArg) (p1 : (List ByteArray)) : Option (Bool) :=
  ((if !decide (p0.K = 1) then some true else ((m_s_l6Has N p1 p0.S).bind fun x1 => some x1)).bind fun b1 => some b1)
/-! spec.l9Fit -/
def m_s_l9Fit (N : Nat) (p0 : TArg) (p1 : (List ByteArray)) : Option (TArg) :=
  ((m_s_l9Known N p0 p1).bind fun x1 => (if x1 then some p0 else (if decide ((p1.length : Int) = 0) then ((m_s_l6Val N (⟨1, 1, (⟨#[]⟩ : ByteArray)⟩ : TVal)).bind fun x2 => some x2) else ((idx p1 0).bind fun x3 => ((m_s_l6Var N x3).bind fun x4 => some x4)))))
/-! spec.l8Expr -/
def m_s_l8Expr_j1 (N : Nat) (p0 : Tl1Cur) (x1 : TArg × Tl1Cur) (s1 : Int) (s2 : Int) (s3 : ByteArray) (s4 : Int) (s5 : ByteArray) (s6 : Int) (s7 : Int) (s8 : ByteArray) : Option (TExpr × Tl1Cur) :=
  some ((⟨s3, x1.1, (⟨s4, s5, (⟨s6, s7, s8⟩ : TVal)⟩ : TArg)⟩ : TExpr), (⟨p0.b, s1, s2⟩ : Tl1Cur))
def m_s_l8Expr (N : Nat) (p0 : Tl1Cur) : Option (TExpr × Tl1Cur) :=
  ((m_s_l7Arg N p0).bind fun x1 => ((m_s_l1Once N (⟨p0.b, x1.2.i, x1.2.h⟩ : Tl1Cur) 4).bind fun x2 => (if x2.1 then ((m_s_l1Str N (⟨p0.b, x2.2.i, x2.2.h⟩ : Tl1Cur) ([(⟨#[43]⟩ : ByteArray), (⟨#[45]⟩ : ByteArray)] : List ByteArray)).bind fun x3 => ((m_s_l7Arg N (⟨p0.b, x3.2.i, x3.2.h⟩ : Tl1Cur)).bind fun x4 => m_s_l8Expr_j1 N p0 x1 x4.2.i x4.2.h x3.1 x4.1.K x4.1.S x4.1.V.K x4.1.V.N x4.1.V.S)) else m_s_l8Expr_j1 N p0 x1 x2.2.i x2.2.h (⟨#[]⟩ : ByteArray) 0 (⟨#[]⟩ : ByteArray) 0 0 (⟨#[]⟩ : ByteArray))))
/-! spec.l8Draw -/
def m_s_l8Draw_j6 (N : Nat) (p0 : Tl1Cur) (x1 : Int × Tl1Cur) (x3 : ByteArray × Tl1Cur) (s3 : (List TExpr)) (s9 : Int) (s13 : Int) (s14 : Int) (s15 : ByteArray) : Option (TAct × Tl1Cur) :=
  some ((⟨x1.1, x3.1, s3, s9, s15⟩ : TAct), (⟨p0.b, s13, s14⟩ : Tl1Cur))
def m_s_l8Draw_j5 (N : Nat) (p0 : Tl1Cur) (x1 : Int × Tl1Cur) (x3 : ByteArray × Tl1Cur) (s3 : (List TExpr)) (s9 : Int) (s10 : Bool) (s11 : Int) (s12 : Int) : Option (TAct × Tl1Cur) :=
  (if s10 then ((m_s_l1Str N (⟨p0.b, s11, s12⟩ : Tl1Cur) ([(⟨#[114, 101, 102, 117, 110, 100]⟩ : ByteArray), (⟨#[99, 97, 110, 99, 101, 108]⟩ : ByteArray)] : List ByteArray)).bind fun x6 => m_s_l8Draw_j6 N p0 x1 x3 s3 s9 x6.2.i x6.2.h x6.1) else m_s_l8Draw_j6 N p0 x1 x3 s3 s9 s11 s12 (⟨#[]⟩ : ByteArray))
def m_s_l8Draw_j4 (N : Nat) (p0 : Tl1Cur) (x1 : Int × Tl1Cur) (x3 : ByteArray × Tl1Cur) (s3 : (List TExpr)) (s7 : Int) (s8 : Int) (s9 : Int) : Option (TAct × Tl1Cur) :=
  (if decide (x1.1 = 3) then ((m_s_l1Once N (⟨p0.b, s7, s8⟩ : Tl1Cur) 2).bind fun x7 => m_s_l8Draw_j5 N p0 x1 x3 s3 s9 x7.1 x7.2.i x7.2.h) else m_s_l8Draw_j5 N p0 x1 x3 s3 s9 false s7 s8)
def m_s_l8Draw_l3 (N : Nat) (p0 : Tl1Cur) (x1 : Int × Tl1Cur) (x3 : ByteArray × Tl1Cur) (s2 : Int) : Nat → (List TExpr) → Int → Int → Int → Option (TAct × Tl1Cur)
  | 0, _, _, _, _ => none
  | k + 1, s3, s4, s5, s6 =>
    (if decide (s4 < s2) then ((m_s_l8Expr N (⟨p0.b, s5, s6⟩ : Tl1Cur)).bind fun x4 => ((app s3 ([x4.1] : List TExpr)).bind fun x5 => ((m_s_l8Draw_l3 N p0 x1 x3 s2 k) x5 (IntKind.i64.wrap (s4 + 1)) x4.2.i x4.2.h))) else (if decide (x1.1 = 4) then ((m_s_l1Int N (⟨p0.b, s5, s6⟩ : Tl1Cur) ([0, 1, 5, 100000] : List Int)).bind fun x8 => m_s_l8Draw_j4 N p0 x1 x3 s3 x8.2.i x8.2.h x8.1) else m_s_l8Draw_j4 N p0 x1 x3 s3 s5 s6 0))
def m_s_l8Draw_j2 (N : Nat) (p0 : Tl1Cur) (x1 : Int × Tl1Cur) (x3 : ByteArray × Tl1Cur) (s2 : Int) : Option (TAct × Tl1Cur) :=
  m_s_l8Draw_l3 N p0 x1 x3 s2 N ([] : List TExpr) 0 x3.2.i x3.2.h
def m_s_l8Draw_j1 (N : Nat) (p0 : Tl1Cur) (x1 : Int × Tl1Cur) (s1 : Bool) : Option (TAct × Tl1Cur) :=
  (if s1 then some ((⟨x1.1, (⟨#[]⟩ : ByteArray), [], 0, (⟨#[]⟩ : ByteArray)⟩ : TAct), (⟨p0.b, x1.2.i, x1.2.h⟩ : Tl1Cur)) else ((m_s_l1Str N (⟨p0.b, x1.2.i, x1.2.h⟩ : Tl1Cur) ([(⟨#[111, 114, 100, 101, 114]⟩ : ByteArray), (⟨#[112, 97, 105, 100]⟩ : ByteArray), (⟨#[105, 116, 101, 109]⟩ : ByteArray), (⟨#[115, 104, 105, 112]⟩ : ByteArray), (⟨#[99, 104, 97, 114, 103, 101]⟩ : ByteArray)] : List ByteArray)).bind fun x3 => (if seq x3.1 (⟨#[105, 116, 101, 109]⟩ : ByteArray) then m_s_l8Draw_j2 N p0 x1 x3 2 else m_s_l8Draw_j2 N p0 x1 x3 1)))
def m_s_l8Draw (N : Nat) (p0 : Tl1Cur) (p1 : Int) : Option (TAct × Tl1Cur) :=
  ((m_s_l1Int N p0 ([1, 1, 2, 3, 3, 4, 5, 6] : List Int)).bind fun x1 => (if decide (x1.1 = 2) then ((m_s_l1Below N (⟨p0.b, x1.2.i, x1.2.h⟩ : Tl1Cur) p1).bind fun x2 => some ((⟨x1.1, (⟨#[]⟩ : ByteArray), [], x2.1, (⟨#[]⟩ : ByteArray)⟩ : TAct), (⟨p0.b, x2.2.i, x2.2.h⟩ : Tl1Cur))) else (if decide (x1.1 = 5) then m_s_l8Draw_j1 N p0 x1 (decide (x1.1 = 5)) else m_s_l8Draw_j1 N p0 x1 (decide (x1.1 = 6)))))
/-! spec.l9Draw -/
def m_s_l9Draw_l5 (N : Nat) (x6 : (List ByteArray)) (s11 : (List TAct)) (s12 : Int) (K4 : (List TAct) → Int → Int → Int → Option (TRule × Tl1Cur)) (x10 : TAct × Tl1Cur) : Nat → (List TExpr) → Int → Option (TRule × Tl1Cur)
  | 0, _, _ => none
  | k + 1, s15, s16 =>
    (if decide (s16 < (s15.length : Int)) then ((idx s15 s16).bind fun x11 => ((m_s_l9Fit N x11.L x6).bind fun x12 => (if !seq x11.Op (⟨#[]⟩ : ByteArray) then ((m_s_l9Fit N x11.R x6).bind fun x13 => ((m_s_l9Draw_l5 N x6 s11 s12 K4 x10 k) (s15.set s16.toNat (⟨x11.Op, x12, x13⟩ : TExpr)) (IntKind.i64.wrap (s16 + 1)))) else ((m_s_l9Draw_l5 N x6 s11 s12 K4 x10 k) (s15.set s16.toNat (⟨x11.Op, x12, x11.R⟩ : TExpr)) (IntKind.i64.wrap (s16 + 1)))))) else ((app s11 ([(⟨x10.1.Kind, x10.1.Name, s15, x10.1.N, x10.1.Undo⟩ : TAct)] : List TAct)).bind fun x14 => (K4 x14 (IntKind.i64.wrap (s12 - 1)) x10.2.i x10.2.h)))
def m_s_l9Draw_l4 (N : Nat) (p0 : Tl1Cur) (p1 : ByteArray) (x1 : Int × Tl1Cur) (s5 : (List TPat)) (x6 : (List ByteArray)) (s8 : (List TCond)) : Nat → (List TAct) → Int → Int → Int → Option (TRule × Tl1Cur)
  | 0, _, _, _, _ => none
  | k + 1, s11, s12, s13, s14 =>
    (if decide (0 < s12) then ((m_s_PosCount N (⟨p1, x1.1, s5, s8, s11⟩ : TRule)).bind fun x9 => ((m_s_l8Draw N (⟨p0.b, s13, s14⟩ : Tl1Cur) x9).bind fun x10 => m_s_l9Draw_l5 N x6 s11 s12 (m_s_l9Draw_l4 N p0 p1 x1 s5 x6 s8 k) x10 N x10.1.Args 0)) else some ((⟨p1, x1.1, s5, s8, s11⟩ : TRule), (⟨p0.b, s13, s14⟩ : Tl1Cur)))
def m_s_l9Draw_j3 (N : Nat) (p0 : Tl1Cur) (p1 : ByteArray) (x1 : Int × Tl1Cur) (s5 : (List TPat)) (x6 : (List ByteArray)) (s8 : (List TCond)) (s9 : Int) (s10 : Int) : Option (TRule × Tl1Cur) :=
  ((m_s_l1Below N (⟨p0.b, s9, s10⟩ : Tl1Cur) 3).bind fun x8 => m_s_l9Draw_l4 N p0 p1 x1 s5 x6 s8 N ([] : List TAct) (IntKind.i64.wrap (1 + x8.1)) x8.2.i x8.2.h)
def m_s_l9Draw_j2 (N : Nat) (p0 : Tl1Cur) (p1 : ByteArray) (x1 : Int × Tl1Cur) (s5 : (List TPat)) (s6 : Int) (s7 : Int) : Option (TRule × Tl1Cur) :=
  ((m_s_PosVars N (⟨p1, x1.1, s5, [], []⟩ : TRule)).bind fun x6 => ((m_s_l1Once N (⟨p0.b, s6, s7⟩ : Tl1Cur) 3).bind fun x7 => (if x7.1 then ((m_s_l7Draw N (⟨p0.b, x7.2.i, x7.2.h⟩ : Tl1Cur)).bind fun x15 => ((m_s_l9Fit N x15.1.L x6).bind fun x16 => ((m_s_l9Fit N x15.1.R x6).bind fun x17 => ((app ([] : List TCond) ([(⟨x15.1.Op, x16, x17⟩ : TCond)] : List TCond)).bind fun x18 => m_s_l9Draw_j3 N p0 p1 x1 s5 x6 x18 x15.2.i x15.2.h)))) else m_s_l9Draw_j3 N p0 p1 x1 s5 x6 ([] : List TCond) x7.2.i x7.2.h)))
def m_s_l9Draw_l1 (N : Nat) (p0 : Tl1Cur) (p1 : ByteArray) (x1 : Int × Tl1Cur) : Nat → (List TPat) → Int → Int → Int → Option (TRule × Tl1Cur)
  | 0, _, _, _, _ => none
  | k + 1, s1, s2, s3, s4 =>
    (if decide (0 < s2) then ((m_s_l6Draw N (⟨p0.b, s3, s4⟩ : Tl1Cur) false).bind fun x3 => ((app s1 ([x3.1] : List TPat)).bind fun x4 => ((m_s_l9Draw_l1 N p0 p1 x1 k) x4 (IntKind.i64.wrap (s2 - 1)) x3.2.i x3.2.h))) else ((m_s_l1Once N (⟨p0.b, s3, s4⟩ : Tl1Cur) 3).bind fun x5 => (if x5.1 then ((m_s_l6Draw N (⟨p0.b, x5.2.i, x5.2.h⟩ : Tl1Cur) true).bind fun x19 => ((app s1 ([x19.1] : List TPat)).bind fun x20 => m_s_l9Draw_j2 N p0 p1 x1 x20 x19.2.i x19.2.h)) else m_s_l9Draw_j2 N p0 p1 x1 s1 x5.2.i x5.2.h)))
def m_s_l9Draw (N : Nat) (p0 : Tl1Cur) (p1 : ByteArray) : Option (TRule × Tl1Cur) :=
  ((m_s_l1Int N p0 ([0, 0, 5, (-5), 100] : List Int)).bind fun x1 => ((m_s_l1Below N (⟨p0.b, x1.2.i, x1.2.h⟩ : Tl1Cur) 3).bind fun x2 => m_s_l9Draw_l1 N p0 p1 x1 N ([] : List TPat) (IntKind.i64.wrap (1 + x2.1)) x2.2.i x2.2.h))
/-! spec.l3Draw -/
def m_s_l3Draw_l3 (N : Nat) (p0 : Tl1Cur) (x1 : ByteArray × Tl1Cur) (s2 : Int) : Nat → (List TVal) → Int → Int → Int → Option (TFact × Tl1Cur)
  | 0, _, _, _, _ => none
  | k + 1, s5, s6, s7, s8 =>
    (if decide (s6 < s2) then ((m_s_l3Small N (⟨p0.b, s7, s8⟩ : Tl1Cur)).bind fun x3 => ((app s5 ([x3.1] : List TVal)).bind fun x4 => ((m_s_l3Draw_l3 N p0 x1 s2 k) x4 (IntKind.i64.wrap (s6 + 1)) x3.2.i x3.2.h))) else some ((⟨x1.1, s5⟩ : TFact), (⟨p0.b, s7, s8⟩ : Tl1Cur)))
def m_s_l3Draw_j2 (N : Nat) (p0 : Tl1Cur) (x1 : ByteArray × Tl1Cur) (s2 : Int) (s3 : Int) (s4 : Int) : Option (TFact × Tl1Cur) :=
  m_s_l3Draw_l3 N p0 x1 s2 N ([] : List TVal) 0 s3 s4
def m_s_l3Draw_j1 (N : Nat) (p0 : Tl1Cur) (x1 : ByteArray × Tl1Cur) (s1 : Int) : Option (TFact × Tl1Cur) :=
  ((m_s_l1Once N (⟨p0.b, x1.2.i, x1.2.h⟩ : Tl1Cur) 12).bind fun x2 => (if x2.1 then ((m_s_l1Below N (⟨p0.b, x2.2.i, x2.2.h⟩ : Tl1Cur) 6).bind fun x5 => m_s_l3Draw_j2 N p0 x1 x5.1 x5.2.i x5.2.h) else m_s_l3Draw_j2 N p0 x1 s1 x2.2.i x2.2.h))
def m_s_l3Draw (N : Nat) (p0 : Tl1Cur) : Option (TFact × Tl1Cur) :=
  ((m_s_l1Str N p0 ([(⟨#[111, 114, 100, 101, 114]⟩ : ByteArray), (⟨#[112, 97, 105, 100]⟩ : ByteArray), (⟨#[105, 116, 101, 109]⟩ : ByteArray), (⟨#[111, 114, 100, 101, 114]⟩ : ByteArray)] : List ByteArray)).bind fun x1 => (if seq x1.1 (⟨#[105, 116, 101, 109]⟩ : ByteArray) then m_s_l3Draw_j1 N p0 x1 2 else m_s_l3Draw_j1 N p0 x1 1))
/-! spec.l4Drop -/
def m_s_l4Drop_l1 (N : Nat) (p0 : TStore) (p1 : Int) : Nat → (List TItem) → Int → Option (Bool × TStore)
  | 0, _, _ => none
  | k + 1, s1, s2 =>
    (if decide (s2 < (p0.Items.length : Int)) then ((idx p0.Items s2).bind fun x1 => (if !decide (x1.Id = p1) then ((idx p0.Items s2).bind fun x2 => ((app s1 ([x2] : List TItem)).bind fun x3 => ((m_s_l4Drop_l1 N p0 p1 k) x3 (IntKind.i64.wrap (s2 + 1))))) else ((m_s_l4Drop_l1 N p0 p1 k) s1 (IntKind.i64.wrap (s2 + 1))))) else some (decide ((s1.length : Int) < (p0.Items.length : Int)), (⟨s1, p0.Next⟩ : TStore)))
def m_s_l4Drop (N : Nat) (p0 : TStore) (p1 : Int) : Option (Bool × TStore) :=
  m_s_l4Drop_l1 N p0 p1 N ([] : List TItem) 0
/-! spec.l3SameVals -/
def m_s_l3SameVals_l1 (N : Nat) (p0 : (List TVal)) (p1 : (List TVal)) : Nat → Int → Option (Bool)
  | 0, _ => none
  | k + 1, s1 =>
    (if decide (s1 < (p0.length : Int)) then ((idx p0 s1).bind fun x1 => ((idx p1 s1).bind fun x2 => (if !(eqT_TVal x1 x2) then some false else ((m_s_l3SameVals_l1 N p0 p1 k) (IntKind.i64.wrap (s1 + 1)))))) else some true)
def m_s_l3SameVals (N : Nat) (p0 : (List TVal)) (p1 : (List TVal)) : Option (Bool) :=
  (if !decide ((p0.length : Int) = (p1.length : Int)) then some false else m_s_l3SameVals_l1 N p0 p1 N 0)
/-! spec.SameFact -/
def m_s_SameFact (N : Nat) (p0 : TFact) (p1 : TFact) : Option (Bool) :=
  ((if seq p0.Kind p1.Kind then ((m_s_l3SameVals N p0.Fields p1.Fields).bind fun x1 => some x1) else some false).bind fun b1 => some b1)
/-! spec.IdOf -/
def m_s_IdOf_l1 (N : Nat) (p0 : TStore) (p1 : TFact) : Nat → Int → Option (Int)
  | 0, _ => none
  | k + 1, s1 =>
    (if decide (s1 < (p0.Items.length : Int)) then ((idx p0.Items s1).bind fun x1 => ((m_s_SameFact N x1.F p1).bind fun x2 => (if x2 then ((idx p0.Items s1).bind fun x3 => some x3.Id) else ((m_s_IdOf_l1 N p0 p1 k) (IntKind.i64.wrap (s1 + 1)))))) else some 0)
def m_s_IdOf (N : Nat) (p0 : TStore) (p1 : TFact) : Option (Int) :=
  m_s_IdOf_l1 N p0 p1 N 0
/-! spec.l3Copy -/
def m_s_l3Copy (N : Nat) (p0 : TFact) : Option (TFact) :=
  ((app ([] : List TVal) p0.Fields).bind fun x1 => some (⟨p0.Kind, x1⟩ : TFact))
/-! spec.l4Assert -/
def m_s_l4Assert (N : Nat) (p0 : TStore) (p1 : TFact) : Option (Int × TStore) :=
  ((m_s_IdOf N p0 p1).bind fun x1 => (if decide (0 < x1) then some (x1, p0) else ((if decide (40 ≤ (p0.Items.length : Int)) then some true else some (decide (1000000 ≤ p0.Next))).bind fun b1 => (if b1 then some (0, p0) else ((m_s_l3Copy N p1).bind fun x2 => ((app p0.Items ([(⟨p0.Next, x2⟩ : TItem)] : List TItem)).bind fun x3 => some (IntKind.i64.wrap ((IntKind.i64.wrap (p0.Next + 1)) - 1), (⟨x3, IntKind.i64.wrap (p0.Next + 1)⟩ : TStore))))))))
/-! spec.l4Draw -/
def m_s_l4Draw_l1 (N : Nat) (p0 : Tl1Cur) : Nat → (List TItem) → Int → Int → Int → Int → Option (TStore × Tl1Cur)
  | 0, _, _, _, _, _ => none
  | k + 1, s1, s2, s3, s4, s5 =>
    (if decide (0 < s2) then ((m_s_l1Once N (⟨p0.b, s3, s4⟩ : Tl1Cur) 5).bind fun x2 => ((if x2.1 then some (decide (0 < (s1.length : Int))) else some false).bind fun b3 => (if b3 then ((m_s_l1Below N (⟨p0.b, x2.2.i, x2.2.h⟩ : Tl1Cur) (s1.length : Int)).bind fun x3 => ((idx s1 x3.1).bind fun x4 => ((m_s_l4Drop N (⟨s1, s5⟩ : TStore) x4.Id).bind fun x5 => ((m_s_l4Draw_l1 N p0 k) x5.2.Items (IntKind.i64.wrap (s2 - 1)) x3.2.i x3.2.h x5.2.Next)))) else ((m_s_l3Draw N (⟨p0.b, x2.2.i, x2.2.h⟩ : Tl1Cur)).bind fun x6 => ((m_s_l4Assert N (⟨s1, s5⟩ : TStore) x6.1).bind fun x7 => ((m_s_l4Draw_l1 N p0 k) x7.2.Items (IntKind.i64.wrap (s2 - 1)) x6.2.i x6.2.h x7.2.Next)))))) else some ((⟨s1, s5⟩ : TStore), (⟨p0.b, s3, s4⟩ : Tl1Cur)))
def m_s_l4Draw (N : Nat) (p0 : Tl1Cur) : Option (TStore × Tl1Cur) :=
  ((m_s_l1Below N p0 9).bind fun x1 => m_s_l4Draw_l1 N p0 N ([] : List TItem) x1.1 x1.2.i x1.2.h 1)
/-! spec.DrawBlocked -/
def m_s_DrawBlocked (N : Nat) (p0 : (List Int)) : Option (TRule × TStore × (List TBind)) :=
  ((m_s_l1New N p0).bind fun x1 => ((m_s_l9Draw N x1 (⟨#[114, 49]⟩ : ByteArray)).bind fun x2 => ((m_s_l6Draw N (⟨x1.b, x2.2.i, x2.2.h⟩ : Tl1Cur) true).bind fun x3 => ((app x2.1.Pats ([x3.1] : List TPat)).bind fun x4 => ((m_s_l4Draw N (⟨x1.b, x3.2.i, x3.2.h⟩ : Tl1Cur)).bind fun x5 => ((m_s_l6Binds N (⟨x1.b, x5.2.i, x5.2.h⟩ : Tl1Cur)).bind fun x7 => some ((⟨x2.1.Name, x2.1.Sal, x4, x2.1.Conds, x2.1.Acts⟩ : TRule), x5.1, x7.1)))))))
/-! slices.Clone[[]impl.Bind,impl.Bind] -/
def m_sl_Clone_Si_Bind_i_Bind (N : Nat) (p0 : (List TBind)) : Option ((List TBind)) :=
  ((app ([] : List TBind) p0).bind fun x1 => some x1)
/-! impl.BindOf -/
def m_i_BindOf_l1 (N : Nat) (p0 : (List TBind)) (p1 : ByteArray) : Nat → Int → Option (TVal × Bool)
  | 0, _ => none
  | k + 1, s1 =>
    (if decide (s1 < (p0.length : Int)) then ((idx p0 s1).bind fun x1 => (if seq x1.Name p1 then some (x1.V, true) else ((m_i_BindOf_l1 N p0 p1 k) (IntKind.i64.wrap (s1 + 1))))) else some ((⟨0, 0, (⟨#[]⟩ : ByteArray)⟩ : TVal), false))
def m_i_BindOf (N : Nat) (p0 : (List TBind)) (p1 : ByteArray) : Option (TVal × Bool) :=
  m_i_BindOf_l1 N p0 p1 N 0
/-! impl.MatchPat -/
def m_i_MatchPat_l1 (N : Nat) (p0 : TPat) (p1 : TFact) (p2 : (List TBind)) : Nat → (List TBind) → Int → Option ((List TBind) × Bool)
  | 0, _, _ => none
  | k + 1, s1, s2 =>
    (if decide (s2 < (p0.Args.length : Int)) then ((idx p0.Args s2).bind fun x3 => ((idx p1.Fields s2).bind fun x4 => (if decide (x3.K = 2) then (if !(eqT_TVal x3.V x4) then ((m_sl_Clone_Si_Bind_i_Bind N p2).bind fun x5 => some (x5, false)) else ((m_i_MatchPat_l1 N p0 p1 p2 k) s1 (IntKind.i64.wrap (s2 + 1)))) else (if decide (x3.K = 1) then ((m_i_BindOf N s1 x3.S).bind fun x6 => ((if x6.2 then some (!(eqT_TVal x6.1 x4)) else some false).bind fun b2 => (if b2 then ((m_sl_Clone_Si_Bind_i_Bind N p2).bind fun x7 => some (x7, false)) else (if !x6.2 then ((app s1 ([(⟨x3.S, x4⟩ : TBind)] : List TBind)).bind fun x8 => ((m_i_MatchPat_l1 N p0 p1 p2 k) x8 (IntKind.i64.wrap (s2 + 1)))) else ((m_i_MatchPat_l1 N p0 p1 p2 k) s1 (IntKind.i64.wrap (s2 + 1))))))) else ((m_i_MatchPat_l1 N p0 p1 p2 k) s1 (IntKind.i64.wrap (s2 + 1))))))) else some (s1, true))
def m_i_MatchPat (N : Nat) (p0 : TPat) (p1 : TFact) (p2 : (List TBind)) : Option ((List TBind) × Bool) :=
  ((if !seq p1.Kind p0.Kind then some true else some (!decide ((p1.Fields.length : Int) = (p0.Args.length : Int)))).bind fun b1 => (if b1 then ((m_sl_Clone_Si_Bind_i_Bind N p2).bind fun x1 => some (x1, false)) else ((m_sl_Clone_Si_Bind_i_Bind N p2).bind fun x2 => m_i_MatchPat_l1 N p0 p1 p2 N x2 0)))
/-! impl.hitsIn -/
def m_i_hitsIn_l1 (N : Nat) (p0 : TPat) (p1 : TStore) (p2 : (List TBind)) : Nat → Int → Int → Option (Int)
  | 0, _, _ => none
  | k + 1, s1, s2 =>
    (if decide (s2 < (p1.Items.length : Int)) then ((idx p1.Items s2).bind fun x1 => ((m_i_MatchPat N p0 x1.F p2).bind fun x2 => (if x2.2 then ((m_i_hitsIn_l1 N p0 p1 p2 k) (IntKind.i64.wrap (s1 + 1)) (IntKind.i64.wrap (s2 + 1))) else ((m_i_hitsIn_l1 N p0 p1 p2 k) s1 (IntKind.i64.wrap (s2 + 1)))))) else some s1)
def m_i_hitsIn (N : Nat) (p0 : TPat) (p1 : TStore) (p2 : (List TBind)) : Option (Int) :=
  m_i_hitsIn_l1 N p0 p1 p2 N 0 0
/-! impl.Blocked -/
def m_i_Blocked_l1 (N : Nat) (p0 : TRule) (p1 : TStore) (p2 : (List TBind)) : Nat → Int → Option (Bool)
  | 0, _ => none
  | k + 1, s1 =>
    (if decide (s1 < (p0.Pats.length : Int)) then ((idx p0.Pats s1).bind fun x1 => ((if x1.Not then ((m_i_hitsIn N x1 p1 p2).bind fun x2 => some (decide (0 < x2))) else some false).bind fun b1 => (if b1 then some true else ((m_i_Blocked_l1 N p0 p1 p2 k) (IntKind.i64.wrap (s1 + 1)))))) else some false)
def m_i_Blocked (N : Nat) (p0 : TRule) (p1 : TStore) (p2 : (List TBind)) : Option (Bool) :=
  m_i_Blocked_l1 N p0 p1 p2 N 0
/-! spec.BindOf -/
def m_s_BindOf_l1 (N : Nat) (p0 : (List TBind)) (p1 : ByteArray) : Nat → Int → Option (TVal × Bool)
  | 0, _ => none
  | k + 1, s1 =>
    (if decide (s1 < (p0.length : Int)) then ((idx p0 s1).bind fun x1 => (if seq x1.Name p1 then ((idx p0 s1).bind fun x2 => some (x2.V, true)) else ((m_s_BindOf_l1 N p0 p1 k) (IntKind.i64.wrap (s1 + 1))))) else some ((⟨0, 0, (⟨#[]⟩ : ByteArray)⟩ : TVal), false))
def m_s_BindOf (N : Nat) (p0 : (List TBind)) (p1 : ByteArray) : Option (TVal × Bool) :=
  m_s_BindOf_l1 N p0 p1 N 0
/-! spec.MatchPat -/
def m_s_MatchPat_l1 (N : Nat) (p0 : TPat) (p1 : TFact) (p2 : (List TBind)) : Nat → (List TBind) → Int → Option ((List TBind) × Bool)
  | 0, _, _ => none
  | k + 1, s1, s2 =>
    (if decide (s2 < (p0.Args.length : Int)) then ((idx p0.Args s2).bind fun x2 => ((m_s_BindOf N s1 x2.S).bind fun x3 => ((if decide (x2.K = 2) then ((idx p1.Fields s2).bind fun x4 => some (!(eqT_TVal x2.V x4))) else some false).bind fun b2 => ((if b2 then some true else ((if decide (x2.K = 1) then some x3.2 else some false).bind fun b4 => ((if b4 then ((idx p1.Fields s2).bind fun x5 => some (!(eqT_TVal x3.1 x5))) else some false).bind fun b5 => some b5))).bind fun b3 => (if b3 then ((app ([] : List TBind) p2).bind fun x6 => some (x6, false)) else ((if decide (x2.K = 1) then some (!x3.2) else some false).bind fun b6 => (if b6 then ((idx p1.Fields s2).bind fun x7 => ((app s1 ([(⟨x2.S, x7⟩ : TBind)] : List TBind)).bind fun x8 => ((m_s_MatchPat_l1 N p0 p1 p2 k) x8 (IntKind.i64.wrap (s2 + 1))))) else ((m_s_MatchPat_l1 N p0 p1 p2 k) s1 (IntKind.i64.wrap (s2 + 1)))))))))) else some (s1, true))
def m_s_MatchPat (N : Nat) (p0 : TPat) (p1 : TFact) (p2 : (List TBind)) : Option ((List TBind) × Bool) :=
  ((app ([] : List TBind) p2).bind fun x1 => ((if !seq p0.Kind p1.Kind then some true else some (!decide ((p0.Args.length : Int) = (p1.Fields.length : Int)))).bind fun b1 => (if b1 then some (x1, false) else m_s_MatchPat_l1 N p0 p1 p2 N x1 0)))
/-! spec.Blocked -/
def m_s_Blocked_l2 (N : Nat) (p0 : TRule) (p1 : TStore) (p2 : (List TBind)) (s1 : Int) (K1 : Int → Option (Bool)) : Nat → Int → Option (Bool)
  | 0, _ => none
  | k + 1, s2 =>
    ((if decide (s2 < (p1.Items.length : Int)) then ((idx p0.Pats s1).bind fun x1 => some x1.Not) else some false).bind fun b1 => (if b1 then ((idx p0.Pats s1).bind fun x2 => ((idx p1.Items s2).bind fun x3 => ((m_s_MatchPat N x2 x3.F p2).bind fun x4 => (if x4.2 then some true else ((m_s_Blocked_l2 N p0 p1 p2 s1 K1 k) (IntKind.i64.wrap (s2 + 1))))))) else (K1 (IntKind.i64.wrap (s1 + 1)))))
def m_s_Blocked_l1 (N : Nat) (p0 : TRule) (p1 : TStore) (p2 : (List TBind)) : Nat → Int → Option (Bool)
  | 0, _ => none
  | k + 1, s1 =>
    (if decide (s1 < (p0.Pats.length : Int)) then m_s_Blocked_l2 N p0 p1 p2 s1 (m_s_Blocked_l1 N p0 p1 p2 k) N 0 else some false)
def m_s_Blocked (N : Nat) (p0 : TRule) (p1 : TStore) (p2 : (List TBind)) : Option (Bool) :=
  m_s_Blocked_l1 N p0 p1 p2 N 0
/-! laws.FnBlocked -/
def m_l_FnBlocked_l1 (N : Nat) (x2 : TRule × TStore × (List TBind)) (x4 : Bool) : Nat → Int → Option (Bool)
  | 0, _ => none
  | k + 1, s1 =>
    (if decide (s1 < (x2.2.1.Items.length : Int)) then ((ssl x2.2.1.Items 0 s1).bind fun x6 => ((m_i_Blocked N x2.1 (⟨x6, x2.2.1.Next⟩ : TStore) x2.2.2).bind fun x7 => ((if x7 then some (!x4) else some false).bind fun b1 => (if b1 then some false else ((m_l_FnBlocked_l1 N x2 x4 k) (IntKind.i64.wrap (s1 + 1))))))) else ((m_i_Blocked N x2.1 (⟨[], 1⟩ : TStore) x2.2.2).bind fun x8 => some (!x8)))
def m_l_FnBlocked (N : Nat) (p0 : (List Int)) : Option (Bool) :=
  ((m_l_big N p0).bind fun x1 => (if x1 then some true else ((m_s_DrawBlocked N p0).bind fun x2 => ((m_i_Blocked N x2.1 x2.2.1 x2.2.2).bind fun x4 => ((m_s_Blocked N x2.1 x2.2.1 x2.2.2).bind fun x5 => (if (x4 != x5) then some false else m_l_FnBlocked_l1 N x2 x4 N 0))))))
end Go.Proofs.Ytmhckcoabhahpaa
