/- Printed by a program of ours: Lean functions of plain data for the Go functions. -/
import Derived.Test.YtjangilipfjcmaaEJ
namespace Go.Proofs.Ytjangilipfjcmaa
open Eng
set_option linter.unusedVariables false
set_option linter.unusedSimpArgs false

structure TVal where
  K : Int
  N : Int
  S : ByteArray
  deriving DecidableEq
def RTVal (Φ : Hp) (F : List Nat) (cs : List Value) (x : TVal) : Prop := cs = [.int .i64 x.K, .int .i64 x.N, .string x.S] ∧ F = []
theorem RTVal.lasts : Lasts RTVal := fun _ _ _ _ _ _ _ _ h => h
theorem RTVal.knows : Knows RTVal := fun _ _ _ _ h => h.2 ▸ Kw.nil
theorem RTVal.flat : Flat RTVal := fun _ _ _ _ h => h.2
theorem RTVal.one : Ones RTVal := fun _ _ _ _ h => by obtain ⟨rfl, -⟩ := h; exact One.all ⟨rfl, rfl, rfl, trivial⟩
structure TArg where
  K : Int
  S : ByteArray
  V : TVal
  deriving DecidableEq
def RTArg (Φ : Hp) (F : List Nat) (cs : List Value) (x : TArg) : Prop := cs = [.int .i64 x.K, .string x.S, .int .i64 x.V.K, .int .i64 x.V.N, .string x.V.S] ∧ F = []
theorem RTArg.lasts : Lasts RTArg := fun _ _ _ _ _ _ _ _ h => h
theorem RTArg.knows : Knows RTArg := fun _ _ _ _ h => h.2 ▸ Kw.nil
theorem RTArg.flat : Flat RTArg := fun _ _ _ _ h => h.2
theorem RTArg.one : Ones RTArg := fun _ _ _ _ h => by obtain ⟨rfl, -⟩ := h; exact One.all ⟨rfl, rfl, rfl, rfl, rfl, trivial⟩
structure TPat where
  Kind : ByteArray
  Args : (List TArg)
  Not : Bool
  deriving DecidableEq
def RTPat (Φ : Hp) (F : List Nat) (cs : List Value) (x : TPat) : Prop :=
  ∃ (s0 : Value) (F0 : List Nat), cs = [.string x.Kind, s0, .bool x.Not] ∧ F = F0 ∧ RSl RTArg 5 Φ F0 s0 x.Args
theorem RTPat.lasts : Lasts RTPat := fun X Φ Φ' F cs x hf hd ⟨s0, F0, hc, hF, h0⟩ => by
  rw [hF] at hd
  exact ⟨s0, F0, hc, hF, h0.frame RTArg.lasts hf (fun k hk => hd k (by simp [hk]))⟩
theorem RTPat.knows : Knows RTPat := fun Φ F cs x ⟨s0, F0, hc, hF, h0⟩ => hF ▸ h0.kn
theorem RTPat.one : Ones RTPat := fun _ _ _ _ h => by obtain ⟨s0, F0, rfl, -, h0⟩ := h; exact One.all ⟨rfl, h0.one, rfl, trivial⟩
def OTPat (Φ : Hp) (F : List Nat) (cs : List Value) (x : TPat) : Prop :=
  ∃ (s0 : Value), cs = [.string x.Kind, s0, .bool x.Not] ∧ F = (ob s0 ++ []) ∧ OSl RTArg 140 5 Φ [] s0 x.Args
theorem OTPat.lasts : Lasts OTPat := fun X Φ Φ' F cs x hf hd ⟨s0, hc, hF, h0⟩ => by
  rw [hF] at hd
  exact ⟨s0, hc, hF, h0.frame RTArg.lasts hf (fun k hk => hd k (by simp [hk])) (Dj.nil _)⟩
theorem OTPat.knows : Knows OTPat := fun Φ F cs x ⟨s0, hc, hF, h0⟩ => hF ▸ (h0.knO.app h0.kn)
theorem OTPat.one : Ones OTPat := fun _ _ _ _ h => by obtain ⟨s0, rfl, -, h0⟩ := h; exact One.all ⟨rfl, h0.one, rfl, trivial⟩
theorem OTPat.gives : Gives OTPat RTPat := fun Φ F cs x ⟨s0, hc, hF, h0⟩ => ⟨s0, ob s0 ++ [], hc, hF, h0.rslG (Gives.refl _)⟩
structure TCond where
  Op : Int
  L : TArg
  R : TArg
  deriving DecidableEq
def RTCond (Φ : Hp) (F : List Nat) (cs : List Value) (x : TCond) : Prop := cs = [.int .i64 x.Op, .int .i64 x.L.K, .string x.L.S, .int .i64 x.L.V.K, .int .i64 x.L.V.N, .string x.L.V.S, .int .i64 x.R.K, .string x.R.S, .int .i64 x.R.V.K, .int .i64 x.R.V.N, .string x.R.V.S] ∧ F = []
theorem RTCond.lasts : Lasts RTCond := fun _ _ _ _ _ _ _ _ h => h
theorem RTCond.knows : Knows RTCond := fun _ _ _ _ h => h.2 ▸ Kw.nil
theorem RTCond.flat : Flat RTCond := fun _ _ _ _ h => h.2
theorem RTCond.one : Ones RTCond := fun _ _ _ _ h => by obtain ⟨rfl, -⟩ := h; exact One.all ⟨rfl, rfl, rfl, rfl, rfl, rfl, rfl, rfl, rfl, rfl, rfl, trivial⟩
structure TExpr where
  Op : ByteArray
  L : TArg
  R : TArg
  deriving DecidableEq
def RTExpr (Φ : Hp) (F : List Nat) (cs : List Value) (x : TExpr) : Prop := cs = [.string x.Op, .int .i64 x.L.K, .string x.L.S, .int .i64 x.L.V.K, .int .i64 x.L.V.N, .string x.L.V.S, .int .i64 x.R.K, .string x.R.S, .int .i64 x.R.V.K, .int .i64 x.R.V.N, .string x.R.V.S] ∧ F = []
theorem RTExpr.lasts : Lasts RTExpr := fun _ _ _ _ _ _ _ _ h => h
theorem RTExpr.knows : Knows RTExpr := fun _ _ _ _ h => h.2 ▸ Kw.nil
theorem RTExpr.flat : Flat RTExpr := fun _ _ _ _ h => h.2
theorem RTExpr.one : Ones RTExpr := fun _ _ _ _ h => by obtain ⟨rfl, -⟩ := h; exact One.all ⟨rfl, rfl, rfl, rfl, rfl, rfl, rfl, rfl, rfl, rfl, rfl, trivial⟩
structure TAct where
  Kind : Int
  Name : ByteArray
  Args : (List TExpr)
  N : Int
  Undo : ByteArray
  deriving DecidableEq
def RTAct (Φ : Hp) (F : List Nat) (cs : List Value) (x : TAct) : Prop :=
  ∃ (s0 : Value) (F0 : List Nat), cs = [.int .i64 x.Kind, .string x.Name, s0, .int .i64 x.N, .string x.Undo] ∧ F = F0 ∧ RSl RTExpr 11 Φ F0 s0 x.Args
theorem RTAct.lasts : Lasts RTAct := fun X Φ Φ' F cs x hf hd ⟨s0, F0, hc, hF, h0⟩ => by
  rw [hF] at hd
  exact ⟨s0, F0, hc, hF, h0.frame RTExpr.lasts hf (fun k hk => hd k (by simp [hk]))⟩
theorem RTAct.knows : Knows RTAct := fun Φ F cs x ⟨s0, F0, hc, hF, h0⟩ => hF ▸ h0.kn
theorem RTAct.one : Ones RTAct := fun _ _ _ _ h => by obtain ⟨s0, F0, rfl, -, h0⟩ := h; exact One.all ⟨rfl, rfl, h0.one, rfl, rfl, trivial⟩
def OTAct (Φ : Hp) (F : List Nat) (cs : List Value) (x : TAct) : Prop :=
  ∃ (s0 : Value), cs = [.int .i64 x.Kind, .string x.Name, s0, .int .i64 x.N, .string x.Undo] ∧ F = (ob s0 ++ []) ∧ OSl RTExpr 197 11 Φ [] s0 x.Args
theorem OTAct.lasts : Lasts OTAct := fun X Φ Φ' F cs x hf hd ⟨s0, hc, hF, h0⟩ => by
  rw [hF] at hd
  exact ⟨s0, hc, hF, h0.frame RTExpr.lasts hf (fun k hk => hd k (by simp [hk])) (Dj.nil _)⟩
theorem OTAct.knows : Knows OTAct := fun Φ F cs x ⟨s0, hc, hF, h0⟩ => hF ▸ (h0.knO.app h0.kn)
theorem OTAct.one : Ones OTAct := fun _ _ _ _ h => by obtain ⟨s0, rfl, -, h0⟩ := h; exact One.all ⟨rfl, rfl, h0.one, rfl, rfl, trivial⟩
theorem OTAct.gives : Gives OTAct RTAct := fun Φ F cs x ⟨s0, hc, hF, h0⟩ => ⟨s0, ob s0 ++ [], hc, hF, h0.rslG (Gives.refl _)⟩
structure TRule where
  Name : ByteArray
  Sal : Int
  Pats : (List TPat)
  Conds : (List TCond)
  Acts : (List TAct)
  deriving DecidableEq
def RTRule (Φ : Hp) (F : List Nat) (cs : List Value) (x : TRule) : Prop :=
  ∃ (s0 : Value) (F0 : List Nat) (s1 : Value) (F1 : List Nat) (s2 : Value) (F2 : List Nat), cs = [.string x.Name, .int .i64 x.Sal, s0, s1, s2] ∧ F = F0 ++ (F1 ++ (F2)) ∧ RSl RTPat 3 Φ F0 s0 x.Pats ∧ RSl RTCond 11 Φ F1 s1 x.Conds ∧ RSl RTAct 5 Φ F2 s2 x.Acts
theorem RTRule.lasts : Lasts RTRule := fun X Φ Φ' F cs x hf hd ⟨s0, F0, s1, F1, s2, F2, hc, hF, h0, h1, h2⟩ => by
  rw [hF] at hd
  exact ⟨s0, F0, s1, F1, s2, F2, hc, hF, h0.frame RTPat.lasts hf (fun k hk => hd k (by simp [hk])), h1.frame RTCond.lasts hf (fun k hk => hd k (by simp [hk])), h2.frame RTAct.lasts hf (fun k hk => hd k (by simp [hk]))⟩
theorem RTRule.knows : Knows RTRule := fun Φ F cs x ⟨s0, F0, s1, F1, s2, F2, hc, hF, h0, h1, h2⟩ => hF ▸ (h0.kn.app (h1.kn.app h2.kn))
theorem RTRule.one : Ones RTRule := fun _ _ _ _ h => by obtain ⟨s0, F0, s1, F1, s2, F2, rfl, -, h0, h1, h2⟩ := h; exact One.all ⟨rfl, rfl, h0.one, h1.one, h2.one, trivial⟩
def OTRule (Φ : Hp) (F : List Nat) (cs : List Value) (x : TRule) : Prop :=
  ∃ (s0 : Value) (D0 : List Nat) (s1 : Value) (s2 : Value) (D2 : List Nat), cs = [.string x.Name, .int .i64 x.Sal, s0, s1, s2] ∧ F = (ob s0 ++ D0) ++ ((ob s1 ++ []) ++ ((ob s2 ++ D2))) ∧ OSl OTPat 94 3 Φ D0 s0 x.Pats ∧ OSl RTCond 142 11 Φ [] s1 x.Conds ∧ OSl OTAct 146 5 Φ D2 s2 x.Acts
theorem OTRule.lasts : Lasts OTRule := fun X Φ Φ' F cs x hf hd ⟨s0, D0, s1, s2, D2, hc, hF, h0, h1, h2⟩ => by
  rw [hF] at hd
  exact ⟨s0, D0, s1, s2, D2, hc, hF, h0.frame OTPat.lasts hf (fun k hk => hd k (by simp [hk])) (fun k hk => hd k (by simp [hk])), h1.frame RTCond.lasts hf (fun k hk => hd k (by simp [hk])) (Dj.nil _), h2.frame OTAct.lasts hf (fun k hk => hd k (by simp [hk])) (fun k hk => hd k (by simp [hk]))⟩
theorem OTRule.knows : Knows OTRule := fun Φ F cs x ⟨s0, D0, s1, s2, D2, hc, hF, h0, h1, h2⟩ => hF ▸ ((h0.knO.app h0.kn).app ((h1.knO.app h1.kn).app (h2.knO.app h2.kn)))
theorem OTRule.one : Ones OTRule := fun _ _ _ _ h => by obtain ⟨s0, D0, s1, s2, D2, rfl, -, h0, h1, h2⟩ := h; exact One.all ⟨rfl, rfl, h0.one, h1.one, h2.one, trivial⟩
theorem OTRule.gives : Gives OTRule RTRule := fun Φ F cs x ⟨s0, D0, s1, s2, D2, hc, hF, h0, h1, h2⟩ => ⟨s0, ob s0 ++ D0, s1, ob s1 ++ [], s2, ob s2 ++ D2, hc, hF, h0.rslG OTPat.gives, h1.rslG (Gives.refl _), h2.rslG OTAct.gives⟩
structure TFact where
  Kind : ByteArray
  Fields : (List TVal)
  deriving DecidableEq
def RTFact (Φ : Hp) (F : List Nat) (cs : List Value) (x : TFact) : Prop :=
  ∃ (s0 : Value) (F0 : List Nat), cs = [.string x.Kind, s0] ∧ F = F0 ∧ RSl RTVal 3 Φ F0 s0 x.Fields
theorem RTFact.lasts : Lasts RTFact := fun X Φ Φ' F cs x hf hd ⟨s0, F0, hc, hF, h0⟩ => by
  rw [hF] at hd
  exact ⟨s0, F0, hc, hF, h0.frame RTVal.lasts hf (fun k hk => hd k (by simp [hk]))⟩
theorem RTFact.knows : Knows RTFact := fun Φ F cs x ⟨s0, F0, hc, hF, h0⟩ => hF ▸ h0.kn
theorem RTFact.one : Ones RTFact := fun _ _ _ _ h => by obtain ⟨s0, F0, rfl, -, h0⟩ := h; exact One.all ⟨rfl, h0.one, trivial⟩
def OTFact (Φ : Hp) (F : List Nat) (cs : List Value) (x : TFact) : Prop :=
  ∃ (s0 : Value), cs = [.string x.Kind, s0] ∧ F = (ob s0 ++ []) ∧ OSl RTVal 109 3 Φ [] s0 x.Fields
theorem OTFact.lasts : Lasts OTFact := fun X Φ Φ' F cs x hf hd ⟨s0, hc, hF, h0⟩ => by
  rw [hF] at hd
  exact ⟨s0, hc, hF, h0.frame RTVal.lasts hf (fun k hk => hd k (by simp [hk])) (Dj.nil _)⟩
theorem OTFact.knows : Knows OTFact := fun Φ F cs x ⟨s0, hc, hF, h0⟩ => hF ▸ (h0.knO.app h0.kn)
theorem OTFact.one : Ones OTFact := fun _ _ _ _ h => by obtain ⟨s0, rfl, -, h0⟩ := h; exact One.all ⟨rfl, h0.one, trivial⟩
theorem OTFact.gives : Gives OTFact RTFact := fun Φ F cs x ⟨s0, hc, hF, h0⟩ => ⟨s0, ob s0 ++ [], hc, hF, h0.rslG (Gives.refl _)⟩
structure TItem where
  Id : Int
  F : TFact
  deriving DecidableEq
def RTItem (Φ : Hp) (F : List Nat) (cs : List Value) (x : TItem) : Prop :=
  ∃ (s0 : Value) (F0 : List Nat), cs = [.int .i64 x.Id, .string x.F.Kind, s0] ∧ F = F0 ∧ RSl RTVal 3 Φ F0 s0 x.F.Fields
theorem RTItem.lasts : Lasts RTItem := fun X Φ Φ' F cs x hf hd ⟨s0, F0, hc, hF, h0⟩ => by
  rw [hF] at hd
  exact ⟨s0, F0, hc, hF, h0.frame RTVal.lasts hf (fun k hk => hd k (by simp [hk]))⟩
theorem RTItem.knows : Knows RTItem := fun Φ F cs x ⟨s0, F0, hc, hF, h0⟩ => hF ▸ h0.kn
theorem RTItem.one : Ones RTItem := fun _ _ _ _ h => by obtain ⟨s0, F0, rfl, -, h0⟩ := h; exact One.all ⟨rfl, rfl, h0.one, trivial⟩
def OTItem (Φ : Hp) (F : List Nat) (cs : List Value) (x : TItem) : Prop :=
  ∃ (s0 : Value), cs = [.int .i64 x.Id, .string x.F.Kind, s0] ∧ F = (ob s0 ++ []) ∧ OSl RTVal 109 3 Φ [] s0 x.F.Fields
theorem OTItem.lasts : Lasts OTItem := fun X Φ Φ' F cs x hf hd ⟨s0, hc, hF, h0⟩ => by
  rw [hF] at hd
  exact ⟨s0, hc, hF, h0.frame RTVal.lasts hf (fun k hk => hd k (by simp [hk])) (Dj.nil _)⟩
theorem OTItem.knows : Knows OTItem := fun Φ F cs x ⟨s0, hc, hF, h0⟩ => hF ▸ (h0.knO.app h0.kn)
theorem OTItem.one : Ones OTItem := fun _ _ _ _ h => by obtain ⟨s0, rfl, -, h0⟩ := h; exact One.all ⟨rfl, rfl, h0.one, trivial⟩
theorem OTItem.gives : Gives OTItem RTItem := fun Φ F cs x ⟨s0, hc, hF, h0⟩ => ⟨s0, ob s0 ++ [], hc, hF, h0.rslG (Gives.refl _)⟩
structure TStore where
  Items : (List TItem)
  Next : Int
  deriving DecidableEq
def RTStore (Φ : Hp) (F : List Nat) (cs : List Value) (x : TStore) : Prop :=
  ∃ (s0 : Value) (F0 : List Nat), cs = [s0, .int .i64 x.Next] ∧ F = F0 ∧ RSl RTItem 3 Φ F0 s0 x.Items
theorem RTStore.lasts : Lasts RTStore := fun X Φ Φ' F cs x hf hd ⟨s0, F0, hc, hF, h0⟩ => by
  rw [hF] at hd
  exact ⟨s0, F0, hc, hF, h0.frame RTItem.lasts hf (fun k hk => hd k (by simp [hk]))⟩
theorem RTStore.knows : Knows RTStore := fun Φ F cs x ⟨s0, F0, hc, hF, h0⟩ => hF ▸ h0.kn
theorem RTStore.one : Ones RTStore := fun _ _ _ _ h => by obtain ⟨s0, F0, rfl, -, h0⟩ := h; exact One.all ⟨h0.one, rfl, trivial⟩
def OTStore (Φ : Hp) (F : List Nat) (cs : List Value) (x : TStore) : Prop :=
  ∃ (s0 : Value) (D0 : List Nat), cs = [s0, .int .i64 x.Next] ∧ F = (ob s0 ++ D0) ∧ OSl OTItem 171 3 Φ D0 s0 x.Items
theorem OTStore.lasts : Lasts OTStore := fun X Φ Φ' F cs x hf hd ⟨s0, D0, hc, hF, h0⟩ => by
  rw [hF] at hd
  exact ⟨s0, D0, hc, hF, h0.frame OTItem.lasts hf (fun k hk => hd k (by simp [hk])) (fun k hk => hd k (by simp [hk]))⟩
theorem OTStore.knows : Knows OTStore := fun Φ F cs x ⟨s0, D0, hc, hF, h0⟩ => hF ▸ (h0.knO.app h0.kn)
theorem OTStore.one : Ones OTStore := fun _ _ _ _ h => by obtain ⟨s0, D0, rfl, -, h0⟩ := h; exact One.all ⟨h0.one, rfl, trivial⟩
theorem OTStore.gives : Gives OTStore RTStore := fun Φ F cs x ⟨s0, D0, hc, hF, h0⟩ => ⟨s0, ob s0 ++ D0, hc, hF, h0.rslG OTItem.gives⟩
structure TBind where
  Name : ByteArray
  V : TVal
  deriving DecidableEq
def RTBind (Φ : Hp) (F : List Nat) (cs : List Value) (x : TBind) : Prop := cs = [.string x.Name, .int .i64 x.V.K, .int .i64 x.V.N, .string x.V.S] ∧ F = []
theorem RTBind.lasts : Lasts RTBind := fun _ _ _ _ _ _ _ _ h => h
theorem RTBind.knows : Knows RTBind := fun _ _ _ _ h => h.2 ▸ Kw.nil
theorem RTBind.flat : Flat RTBind := fun _ _ _ _ h => h.2
theorem RTBind.one : Ones RTBind := fun _ _ _ _ h => by obtain ⟨rfl, -⟩ := h; exact One.all ⟨rfl, rfl, rfl, rfl, trivial⟩
def eqT_TVal (x y : TVal) : Bool := ((x.K == y.K) && ((x.N == y.N) && (seq x.S y.S && true)))
theorem seq_dec (a b : ByteArray) : seq a b = decide (a = b) := by
  unfold seq
  by_cases h : a = b
  · subst h; simp
  · have : ¬ a.toList = b.toList := fun e => h (by rw [ByteArray.toList_eq, ByteArray.toList_eq] at e; exact ByteArray.ext (Array.toList_inj.1 e))
    simp [h, this]
theorem eqT_TVal_eq (x y : TVal) : eqT_TVal x y = decide (x = y) := by
  obtain ⟨a0, a1, a2⟩ := x; obtain ⟨b0, b1, b2⟩ := y
  rw [Bool.eq_iff_iff]
  simp only [eqT_TVal, seq_dec, Bool.and_true, Bool.and_eq_true, beq_iff_eq, decide_eq_true_eq, TVal.mk.injEq, and_assoc]
/-! laws.szVal -/
def m_l_szVal (N : Nat) (p0 : TVal) (p1 : Int) : Option (Int) :=
  (if decide (IntKind.i64.wrap (p1 - (p0.S.size : Int)) < 0) then some (-1) else some (IntKind.i64.wrap (p1 - (p0.S.size : Int))))
/-! laws.szArg -/
def m_l_szArg (N : Nat) (p0 : TArg) (p1 : Int) : Option (Int) :=
  (if decide (IntKind.i64.wrap (p1 - (p0.S.size : Int)) < 0) then some (-1) else ((m_l_szVal N p0.V (IntKind.i64.wrap (p1 - (p0.S.size : Int)))).bind fun x1 => (if decide (x1 < 0) then some (-1) else some x1)))
/-! laws.szArgS -/
def m_l_szArgS_l1 (N : Nat) (p0 : (List TArg)) : Nat → Int → Int → Option (Int)
  | 0, _, _ => none
  | k + 1, s1, s2 =>
    (if decide (s2 < (p0.length : Int)) then ((idx p0 s2).bind fun x1 => ((m_l_szArg N x1 s1).bind fun x2 => (if decide (x2 < 0) then some (-1) else ((m_l_szArgS_l1 N p0 k) x2 (IntKind.i64.wrap (s2 + 1)))))) else some s1)
def m_l_szArgS (N : Nat) (p0 : (List TArg)) (p1 : Int) : Option (Int) :=
  (if decide (IntKind.i64.wrap (p1 - (p0.length : Int)) < 0) then some (-1) else m_l_szArgS_l1 N p0 N (IntKind.i64.wrap (p1 - (p0.length : Int))) 0)
/-! laws.szPat -/
def m_l_szPat (N : Nat) (p0 : TPat) (p1 : Int) : Option (Int) :=
  (if decide (IntKind.i64.wrap (p1 - (p0.Kind.size : Int)) < 0) then some (-1) else ((m_l_szArgS N p0.Args (IntKind.i64.wrap (p1 - (p0.Kind.size : Int)))).bind fun x1 => (if decide (x1 < 0) then some (-1) else some x1)))
/-! laws.szPatS -/
def m_l_szPatS_l1 (N : Nat) (p0 : (List TPat)) : Nat → Int → Int → Option (Int)
  | 0, _, _ => none
  | k + 1, s1, s2 =>
    (if decide (s2 < (p0.length : Int)) then ((idx p0 s2).bind fun x1 => ((m_l_szPat N x1 s1).bind fun x2 => (if decide (x2 < 0) then some (-1) else ((m_l_szPatS_l1 N p0 k) x2 (IntKind.i64.wrap (s2 + 1)))))) else some s1)
def m_l_szPatS (N : Nat) (p0 : (List TPat)) (p1 : Int) : Option (Int) :=
  (if decide (IntKind.i64.wrap (p1 - (p0.length : Int)) < 0) then some (-1) else m_l_szPatS_l1 N p0 N (IntKind.i64.wrap (p1 - (p0.length : Int))) 0)
/-! laws.szCond -/
def m_l_szCond (N : Nat) (p0 : TCond) (p1 : Int) : Option (Int) :=
  ((m_l_szArg N p0.L p1).bind fun x1 => (if decide (x1 < 0) then some (-1) else ((m_l_szArg N p0.R x1).bind fun x2 => (if decide (x2 < 0) then some (-1) else some x2))))
/-! laws.szCondS -/
def m_l_szCondS_l1 (N : Nat) (p0 : (List TCond)) : Nat → Int → Int → Option (Int)
  | 0, _, _ => none
  | k + 1, s1, s2 =>
    (if decide (s2 < (p0.length : Int)) then ((idx p0 s2).bind fun x1 => ((m_l_szCond N x1 s1).bind fun x2 => (if decide (x2 < 0) then some (-1) else ((m_l_szCondS_l1 N p0 k) x2 (IntKind.i64.wrap (s2 + 1)))))) else some s1)
def m_l_szCondS (N : Nat) (p0 : (List TCond)) (p1 : Int) : Option (Int) :=
  (if decide (IntKind.i64.wrap (p1 - (p0.length : Int)) < 0) then some (-1) else m_l_szCondS_l1 N p0 N (IntKind.i64.wrap (p1 - (p0.length : Int))) 0)
/-! laws.szExpr -/
def m_l_szExpr (N : Nat) (p0 : TExpr) (p1 : Int) : Option (Int) :=
  (if decide (IntKind.i64.wrap (p1 - (p0.Op.size : Int)) < 0) then some (-1) else ((m_l_szArg N p0.L (IntKind.i64.wrap (p1 - (p0.Op.size : Int)))).bind fun x1 => (if decide (x1 < 0) then some (-1) else ((m_l_szArg N p0.R x1).bind fun x2 => (if decide (x2 < 0) then some (-1) else some x2)))))
/-! laws.szExprS -/
def m_l_szExprS_l1 (N : Nat) (p0 : (List TExpr)) : Nat → Int → Int → Option (Int)
  | 0, _, _ => none
  | k + 1, s1, s2 =>
    (if decide (s2 < (p0.length : Int)) then ((idx p0 s2).bind fun x1 => ((m_l_szExpr N x1 s1).bind fun x2 => (if decide (x2 < 0) then some (-1) else ((m_l_szExprS_l1 N p0 k) x2 (IntKind.i64.wrap (s2 + 1)))))) else some s1)
def m_l_szExprS (N : Nat) (p0 : (List TExpr)) (p1 : Int) : Option (Int) :=
  (if decide (IntKind.i64.wrap (p1 - (p0.length : Int)) < 0) then some (-1) else m_l_szExprS_l1 N p0 N (IntKind.i64.wrap (p1 - (p0.length : Int))) 0)
/-! laws.szAct -/
def m_l_szAct (N : Nat) (p0 : TAct) (p1 : Int) : Option (Int) :=
  (if decide (IntKind.i64.wrap (p1 - (p0.Name.size : Int)) < 0) then some (-1) else ((m_l_szExprS N p0.Args (IntKind.i64.wrap (p1 - (p0.Name.size : Int)))).bind fun x1 => (if decide (x1 < 0) then some (-1) else (if decide (IntKind.i64.wrap (x1 - (p0.Undo.size : Int)) < 0) then some (-1) else some (IntKind.i64.wrap (x1 - (p0.Undo.size : Int)))))))
/-! laws.szActS -/
def m_l_szActS_l1 (N : Nat) (p0 : (List TAct)) : Nat → Int → Int → Option (Int)
  | 0, _, _ => none
  | k + 1, s1, s2 =>
    (if decide (s2 < (p0.length : Int)) then ((idx p0 s2).bind fun x1 => ((m_l_szAct N x1 s1).bind fun x2 => (if decide (x2 < 0) then some (-1) else ((m_l_szActS_l1 N p0 k) x2 (IntKind.i64.wrap (s2 + 1)))))) else some s1)
def m_l_szActS (N : Nat) (p0 : (List TAct)) (p1 : Int) : Option (Int) :=
  (if decide (IntKind.i64.wrap (p1 - (p0.length : Int)) < 0) then some (-1) else m_l_szActS_l1 N p0 N (IntKind.i64.wrap (p1 - (p0.length : Int))) 0)
/-! laws.szRule -/
def m_l_szRule (N : Nat) (p0 : TRule) (p1 : Int) : Option (Int) :=
  (if decide (IntKind.i64.wrap (p1 - (p0.Name.size : Int)) < 0) then some (-1) else ((m_l_szPatS N p0.Pats (IntKind.i64.wrap (p1 - (p0.Name.size : Int)))).bind fun x1 => (if decide (x1 < 0) then some (-1) else ((m_l_szCondS N p0.Conds x1).bind fun x2 => (if decide (x2 < 0) then some (-1) else ((m_l_szActS N p0.Acts x2).bind fun x3 => (if decide (x3 < 0) then some (-1) else some x3)))))))
/-! laws.szValS -/
def m_l_szValS_l1 (N : Nat) (p0 : (List TVal)) : Nat → Int → Int → Option (Int)
  | 0, _, _ => none
  | k + 1, s1, s2 =>
    (if decide (s2 < (p0.length : Int)) then ((idx p0 s2).bind fun x1 => ((m_l_szVal N x1 s1).bind fun x2 => (if decide (x2 < 0) then some (-1) else ((m_l_szValS_l1 N p0 k) x2 (IntKind.i64.wrap (s2 + 1)))))) else some s1)
def m_l_szValS (N : Nat) (p0 : (List TVal)) (p1 : Int) : Option (Int) :=
  (if decide (IntKind.i64.wrap (p1 - (p0.length : Int)) < 0) then some (-1) else m_l_szValS_l1 N p0 N (IntKind.i64.wrap (p1 - (p0.length : Int))) 0)
/-! laws.szFact -/
def m_l_szFact (N : Nat) (p0 : TFact) (p1 : Int) : Option (Int) :=
  (if decide (IntKind.i64.wrap (p1 - (p0.Kind.size : Int)) < 0) then some (-1) else ((m_l_szValS N p0.Fields (IntKind.i64.wrap (p1 - (p0.Kind.size : Int)))).bind fun x1 => (if decide (x1 < 0) then some (-1) else some x1)))
/-! laws.szItem -/
def m_l_szItem (N : Nat) (p0 : TItem) (p1 : Int) : Option (Int) :=
  ((m_l_szFact N p0.F p1).bind fun x1 => (if decide (x1 < 0) then some (-1) else some x1))
/-! laws.szItemS -/
def m_l_szItemS_l1 (N : Nat) (p0 : (List TItem)) : Nat → Int → Int → Option (Int)
  | 0, _, _ => none
  | k + 1, s1, s2 =>
    (if decide (s2 < (p0.length : Int)) then ((idx p0 s2).bind fun x1 => ((m_l_szItem N x1 s1).bind fun x2 => (if decide (x2 < 0) then some (-1) else ((m_l_szItemS_l1 N p0 k) x2 (IntKind.i64.wrap (s2 + 1)))))) else some s1)
def m_l_szItemS (N : Nat) (p0 : (List TItem)) (p1 : Int) : Option (Int) :=
  (if decide (IntKind.i64.wrap (p1 - (p0.length : Int)) < 0) then some (-1) else m_l_szItemS_l1 N p0 N (IntKind.i64.wrap (p1 - (p0.length : Int))) 0)
/-! laws.szStore -/
def m_l_szStore (N : Nat) (p0 : TStore) (p1 : Int) : Option (Int) :=
  ((m_l_szItemS N p0.Items p1).bind fun x1 => (if decide (x1 < 0) then some (-1) else some x1))
/-! spec.l3Copy -/
def m_s_l3Copy (N : Nat) (p0 : TFact) : Option (TFact) :=
  ((app ([] : List TVal) p0.Fields).bind fun x1 => some (⟨p0.Kind, x1⟩ : TFact))
/-! spec.FactOf -/
def m_s_FactOf_l1 (N : Nat) (p0 : TStore) (p1 : Int) : Nat → Int → Option (TFact × Bool)
  | 0, _ => none
  | k + 1, s1 =>
    (if decide (s1 < (p0.Items.length : Int)) then ((idx p0.Items s1).bind fun x1 => (if decide (x1.Id = p1) then ((idx p0.Items s1).bind fun x2 => ((m_s_l3Copy N x2.F).bind fun x3 => some (x3, true))) else ((m_s_FactOf_l1 N p0 p1 k) (IntKind.i64.wrap (s1 + 1))))) else some ((⟨(⟨#[]⟩ : ByteArray), []⟩ : TFact), false))
def m_s_FactOf (N : Nat) (p0 : TStore) (p1 : Int) : Option (TFact × Bool) :=
  m_s_FactOf_l1 N p0 p1 N 0
/-! spec.BindOf -/
def m_s_BindOf_l1 (N : Nat) (p0 : (List TBind)) (p1 : ByteArray) : Nat → Int → Option (TVal × Bool)
  | 0, _ => none
  | k + 1, s1 =>
    (if decide (s1 < (p0.length : Int)) then ((idx p0 s1).bind fun x1 => (if seq x1.Name p1 then ((idx p0 s1).bind fun x2 => some (x2.V, true)) else ((m_s_BindOf_l1 N p0 p1 k) (IntKind.i64.wrap (s1 + 1))))) else some ((⟨0, 0, (⟨#[]⟩ : ByteArray)⟩ : TVal), false))
def m_s_BindOf (N : Nat) (p0 : (List TBind)) (p1 : ByteArray) : Option (TVal × Bool) :=
  m_s_BindOf_l1 N p0 p1 N 0
/-! spec.MatchPat -/
def m_s_MatchPat_l1 (N : Nat) (p0 : TPat) (p1 : TFact) (p2 : (List TBind)) : Nat → (List TBind) → Int → Option ((List TBind) × Bool)
  | 0, _, _ => none
  | k + 1, s1, s2 =>
    (if decide (s2 < (p0.Args.length : Int)) then ((idx p0.Args s2).bind fun x2 => ((m_s_BindOf N s1 x2.S).bind fun x3 => ((if decide (x2.K = 2) then ((idx p1.Fields s2).bind fun x4 => some (!(eqT_TVal x2.V x4))) else some false).bind fun b2 => ((if b2 then some true else ((if decide (x2.K = 1) then some x3.2 else some false).bind fun b4 => ((if b4 then ((idx p1.Fields s2).bind fun x5 => some (!(eqT_TVal x3.1 x5))) else some false).bind fun b5 => some b5))).bind fun b3 => (if b3 then ((app ([] : List TBind) p2).bind fun x6 => some (x6, false)) else ((if decide (x2.K = 1) then some (!x3.2) else some false).bind fun b6 => (if b6 then ((idx p1.Fields s2).bind fun x7 => ((app s1 ([(⟨x2.S, x7⟩ : TBind)] : List TBind)).bind fun x8 => ((m_s_MatchPat_l1 N p0 p1 p2 k) x8 (IntKind.i64.wrap (s2 + 1))))) else ((m_s_MatchPat_l1 N p0 p1 p2 k) s1 (IntKind.i64.wrap (s2 + 1)))))))))) else some (s1, true))
def m_s_MatchPat (N : Nat) (p0 : TPat) (p1 : TFact) (p2 : (List TBind)) : Option ((List TBind) × Bool) :=
  ((app ([] : List TBind) p2).bind fun x1 => ((if !seq p0.Kind p1.Kind then some true else some (!decide ((p0.Args.length : Int) = (p1.Fields.length : Int)))).bind fun b1 => (if b1 then some (x1, false) else m_s_MatchPat_l1 N p0 p1 p2 N x1 0)))
/-! spec.BindsFor -/
def m_s_BindsFor_j2 (N : Nat) (p0 : TRule) (s1 : (List TBind)) (s2 : Int) (s3 : Int) (K1 : (List TBind) → Int → Int → Option ((List TBind) × Bool)) (s4 : (List TVal)) (s5 : Bool) (s6 : ByteArray) : Option ((List TBind) × Bool) :=
  ((idx p0.Pats s3).bind fun x4 => ((m_s_MatchPat N x4 (⟨s6, s4⟩ : TFact) s1).bind fun x5 => ((if !s5 then some true else some (!x5.2)).bind fun b1 => (if b1 then some (([] : List TBind), false) else (K1 x5.1 (IntKind.i64.wrap (s2 + 1)) (IntKind.i64.wrap (s3 + 1)))))))
def m_s_BindsFor_l1 (N : Nat) (p0 : TRule) (p1 : TStore) (p2 : (List Int)) : Nat → (List TBind) → Int → Int → Option ((List TBind) × Bool)
  | 0, _, _, _ => none
  | k + 1, s1, s2, s3 =>
    (if decide (s3 < (p0.Pats.length : Int)) then ((idx p0.Pats s3).bind fun x1 => (if x1.Not then ((m_s_BindsFor_l1 N p0 p1 p2 k) s1 s2 (IntKind.i64.wrap (s3 + 1))) else (if decide ((p2.length : Int) ≤ s2) then some (([] : List TBind), false) else ((idx p2 s2).bind fun x6 => ((m_s_FactOf N p1 x6).bind fun x7 => m_s_BindsFor_j2 N p0 s1 s2 s3 (m_s_BindsFor_l1 N p0 p1 p2 k) x7.1.Fields x7.2 x7.1.Kind))))) else (if !decide (s2 = (p2.length : Int)) then some (([] : List TBind), false) else some (s1, true)))
def m_s_BindsFor (N : Nat) (p0 : TRule) (p1 : TStore) (p2 : (List Int)) : Option ((List TBind) × Bool) :=
  m_s_BindsFor_l1 N p0 p1 p2 N ([] : List TBind) 0 0
/-! laws.toVal -/
def m_l_toVal (N : Nat) (p0 : TVal) : Option (TVal) :=
  some p0
/-! laws.toArg -/
def m_l_toArg (N : Nat) (p0 : TArg) : Option (TArg) :=
  ((m_l_toVal N p0.V).bind fun x1 => some (⟨p0.K, p0.S, x1⟩ : TArg))
/-! laws.toArgS -/
def m_l_toArgS_l1 (N : Nat) (p0 : (List TArg)) : Nat → (List TArg) → Int → Option ((List TArg))
  | 0, _, _ => none
  | k + 1, s1, s2 =>
    (if decide (s2 < (p0.length : Int)) then ((idx p0 s2).bind fun x2 => ((m_l_toArg N x2).bind fun x3 => ((idx s1 s2).bind fun x4 => ((m_l_toArgS_l1 N p0 k) (s1.set s2.toNat x3) (IntKind.i64.wrap (s2 + 1)))))) else some s1)
def m_l_toArgS (N : Nat) (p0 : (List TArg)) : Option ((List TArg)) :=
  ((mk (⟨0, (⟨#[]⟩ : ByteArray), (⟨0, 0, (⟨#[]⟩ : ByteArray)⟩ : TVal)⟩ : TArg) (p0.length : Int)).bind fun x1 => m_l_toArgS_l1 N p0 N x1 0)
/-! laws.toPat -/
def m_l_toPat (N : Nat) (p0 : TPat) : Option (TPat) :=
  ((m_l_toArgS N p0.Args).bind fun x1 => some (⟨p0.Kind, x1, p0.Not⟩ : TPat))
/-! laws.toPatS -/
def m_l_toPatS_l1 (N : Nat) (p0 : (List TPat)) : Nat → (List TPat) → Int → Option ((List TPat))
  | 0, _, _ => none
  | k + 1, s1, s2 =>
    (if decide (s2 < (p0.length : Int)) then ((idx p0 s2).bind fun x2 => ((m_l_toPat N x2).bind fun x3 => ((idx s1 s2).bind fun x4 => ((m_l_toPatS_l1 N p0 k) (s1.set s2.toNat x3) (IntKind.i64.wrap (s2 + 1)))))) else some s1)
def m_l_toPatS (N : Nat) (p0 : (List TPat)) : Option ((List TPat)) :=
  ((mk (⟨(⟨#[]⟩ : ByteArray), ([] : List TArg), false⟩ : TPat) (p0.length : Int)).bind fun x1 => m_l_toPatS_l1 N p0 N x1 0)
/-! laws.toCond -/
def m_l_toCond (N : Nat) (p0 : TCond) : Option (TCond) :=
  ((m_l_toArg N p0.L).bind fun x1 => ((m_l_toArg N p0.R).bind fun x2 => some (⟨p0.Op, x1, x2⟩ : TCond)))
/-! laws.toCondS -/
def m_l_toCondS_l1 (N : Nat) (p0 : (List TCond)) : Nat → (List TCond) → Int → Option ((List TCond))
  | 0, _, _ => none
  | k + 1, s1, s2 =>
    (if decide (s2 < (p0.length : Int)) then ((idx p0 s2).bind fun x2 => ((m_l_toCond N x2).bind fun x3 => ((idx s1 s2).bind fun x4 => ((m_l_toCondS_l1 N p0 k) (s1.set s2.toNat x3) (IntKind.i64.wrap (s2 + 1)))))) else some s1)
def m_l_toCondS (N : Nat) (p0 : (List TCond)) : Option ((List TCond)) :=
  ((mk (⟨0, (⟨0, (⟨#[]⟩ : ByteArray), (⟨0, 0, (⟨#[]⟩ : ByteArray)⟩ : TVal)⟩ : TArg), (⟨0, (⟨#[]⟩ : ByteArray), (⟨0, 0, (⟨#[]⟩ : ByteArray)⟩ : TVal)⟩ : TArg)⟩ : TCond) (p0.length : Int)).bind fun x1 => m_l_toCondS_l1 N p0 N x1 0)
/-! laws.toExpr -/
def m_l_toExpr (N : Nat) (p0 : TExpr) : Option (TExpr) :=
  ((m_l_toArg N p0.L).bind fun x1 => ((m_l_toArg N p0.R).bind fun x2 => some (⟨p0.Op, x1, x2⟩ : TExpr)))
/-! laws.toExprS -/
def m_l_toExprS_l1 (N : Nat) (p0 : (List TExpr)) : Nat → (List TExpr) → Int → Option ((List TExpr))
  | 0, _, _ => none
  | k + 1, s1, s2 =>
    (if decide (s2 < (p0.length : Int)) then ((idx p0 s2).bind fun x2 => ((m_l_toExpr N x2).bind fun x3 => ((idx s1 s2).bind fun x4 => ((m_l_toExprS_l1 N p0 k) (s1.set s2.toNat x3) (IntKind.i64.wrap (s2 + 1)))))) else some s1)
def m_l_toExprS (N : Nat) (p0 : (List TExpr)) : Option ((List TExpr)) :=
  ((mk (⟨(⟨#[]⟩ : ByteArray), (⟨0, (⟨#[]⟩ : ByteArray), (⟨0, 0, (⟨#[]⟩ : ByteArray)⟩ : TVal)⟩ : TArg), (⟨0, (⟨#[]⟩ : ByteArray), (⟨0, 0, (⟨#[]⟩ : ByteArray)⟩ : TVal)⟩ : TArg)⟩ : TExpr) (p0.length : Int)).bind fun x1 => m_l_toExprS_l1 N p0 N x1 0)
/-! laws.toAct -/
def m_l_toAct (N : Nat) (p0 : TAct) : Option (TAct) :=
  ((m_l_toExprS N p0.Args).bind fun x1 => some (⟨p0.Kind, p0.Name, x1, p0.N, p0.Undo⟩ : TAct))
/-! laws.toActS -/
def m_l_toActS_l1 (N : Nat) (p0 : (List TAct)) : Nat → (List TAct) → Int → Option ((List TAct))
  | 0, _, _ => none
  | k + 1, s1, s2 =>
    (if decide (s2 < (p0.length : Int)) then ((idx p0 s2).bind fun x2 => ((m_l_toAct N x2).bind fun x3 => ((idx s1 s2).bind fun x4 => ((m_l_toActS_l1 N p0 k) (s1.set s2.toNat x3) (IntKind.i64.wrap (s2 + 1)))))) else some s1)
def m_l_toActS (N : Nat) (p0 : (List TAct)) : Option ((List TAct)) :=
  ((mk (⟨0, (⟨#[]⟩ : ByteArray), ([] : List TExpr), 0, (⟨#[]⟩ : ByteArray)⟩ : TAct) (p0.length : Int)).bind fun x1 => m_l_toActS_l1 N p0 N x1 0)
/-! laws.toRule -/
def m_l_toRule (N : Nat) (p0 : TRule) : Option (TRule) :=
  ((m_l_toPatS N p0.Pats).bind fun x1 => ((m_l_toCondS N p0.Conds).bind fun x2 => ((m_l_toActS N p0.Acts).bind fun x3 => some (⟨p0.Name, p0.Sal, x1, x2, x3⟩ : TRule))))
/-! laws.toValS -/
def m_l_toValS_l1 (N : Nat) (p0 : (List TVal)) : Nat → (List TVal) → Int → Option ((List TVal))
  | 0, _, _ => none
  | k + 1, s1, s2 =>
    (if decide (s2 < (p0.length : Int)) then ((idx p0 s2).bind fun x2 => ((m_l_toVal N x2).bind fun x3 => ((idx s1 s2).bind fun x4 => ((m_l_toValS_l1 N p0 k) (s1.set s2.toNat x3) (IntKind.i64.wrap (s2 + 1)))))) else some s1)
def m_l_toValS (N : Nat) (p0 : (List TVal)) : Option ((List TVal)) :=
  ((mk (⟨0, 0, (⟨#[]⟩ : ByteArray)⟩ : TVal) (p0.length : Int)).bind fun x1 => m_l_toValS_l1 N p0 N x1 0)
/-! laws.toFact -/
def m_l_toFact (N : Nat) (p0 : TFact) : Option (TFact) :=
  ((m_l_toValS N p0.Fields).bind fun x1 => some (⟨p0.Kind, x1⟩ : TFact))
/-! laws.toItem -/
def m_l_toItem (N : Nat) (p0 : TItem) : Option (TItem) :=
  ((m_l_toFact N p0.F).bind fun x1 => some (⟨p0.Id, x1⟩ : TItem))
/-! laws.toItemS -/
def m_l_toItemS_l1 (N : Nat) (p0 : (List TItem)) : Nat → (List TItem) → Int → Option ((List TItem))
  | 0, _, _ => none
  | k + 1, s1, s2 =>
    (if decide (s2 < (p0.length : Int)) then ((idx p0 s2).bind fun x2 => ((m_l_toItem N x2).bind fun x3 => ((idx s1 s2).bind fun x4 => ((m_l_toItemS_l1 N p0 k) (s1.set s2.toNat x3) (IntKind.i64.wrap (s2 + 1)))))) else some s1)
def m_l_toItemS (N : Nat) (p0 : (List TItem)) : Option ((List TItem)) :=
  ((mk (⟨0, (⟨(⟨#[]⟩ : ByteArray), ([] : List TVal)⟩ : TFact)⟩ : TItem) (p0.length : Int)).bind fun x1 => m_l_toItemS_l1 N p0 N x1 0)
/-! laws.toStore -/
def m_l_toStore (N : Nat) (p0 : TStore) : Option (TStore) :=
  ((m_l_toItemS N p0.Items).bind fun x1 => some (⟨x1, p0.Next⟩ : TStore))
/-! laws.toIntS -/
def m_l_toIntS_l1 (N : Nat) (p0 : (List Int)) : Nat → (List Int) → Int → Option ((List Int))
  | 0, _, _ => none
  | k + 1, s1, s2 =>
    (if decide (s2 < (p0.length : Int)) then ((idx p0 s2).bind fun x2 => ((idx s1 s2).bind fun x3 => ((m_l_toIntS_l1 N p0 k) (s1.set s2.toNat x2) (IntKind.i64.wrap (s2 + 1))))) else some s1)
def m_l_toIntS (N : Nat) (p0 : (List Int)) : Option ((List Int)) :=
  ((mk 0 (p0.length : Int)).bind fun x1 => m_l_toIntS_l1 N p0 N x1 0)
/-! impl.pats -/
def m_i_pats_l1 (N : Nat) (p0 : TRule) (p1 : Bool) : Nat → (List TPat) → Int → Option ((List TPat))
  | 0, _, _ => none
  | k + 1, s1, s2 =>
    (if decide (s2 < (p0.Pats.length : Int)) then ((idx p0.Pats s2).bind fun x1 => (if (x1.Not == p1) then ((app s1 ([x1] : List TPat)).bind fun x2 => ((m_i_pats_l1 N p0 p1 k) x2 (IntKind.i64.wrap (s2 + 1)))) else ((m_i_pats_l1 N p0 p1 k) s1 (IntKind.i64.wrap (s2 + 1))))) else some s1)
def m_i_pats (N : Nat) (p0 : TRule) (p1 : Bool) : Option ((List TPat)) :=
  m_i_pats_l1 N p0 p1 N ([] : List TPat) 0
/-! slices.Clone[[]impl.Val,impl.Val] -/
def m_sl_Clone_Si_Val_i_Val (N : Nat) (p0 : (List TVal)) : Option ((List TVal)) :=
  ((app ([] : List TVal) p0).bind fun x1 => some x1)
/-! impl.copyFact -/
def m_i_copyFact (N : Nat) (p0 : TFact) : Option (TFact) :=
  ((m_sl_Clone_Si_Val_i_Val N p0.Fields).bind fun x1 => some (⟨p0.Kind, x1⟩ : TFact))
/-! impl.FactOf -/
def m_i_FactOf_l1 (N : Nat) (p0 : TStore) (p1 : Int) : Nat → Int → Option (TFact × Bool)
  | 0, _ => none
  | k + 1, s1 =>
    (if decide (s1 < (p0.Items.length : Int)) then ((idx p0.Items s1).bind fun x1 => (if decide (x1.Id = p1) then ((m_i_copyFact N x1.F).bind fun x2 => some (x2, true)) else ((m_i_FactOf_l1 N p0 p1 k) (IntKind.i64.wrap (s1 + 1))))) else some ((⟨(⟨#[]⟩ : ByteArray), []⟩ : TFact), false))
def m_i_FactOf (N : Nat) (p0 : TStore) (p1 : Int) : Option (TFact × Bool) :=
  m_i_FactOf_l1 N p0 p1 N 0
/-! slices.Clone[[]impl.Bind,impl.Bind] -/
def m_sl_Clone_Si_Bind_i_Bind (N : Nat) (p0 : (List TBind)) : Option ((List TBind)) :=
  ((app ([] : List TBind) p0).bind fun x1 => some x1)
/-! impl.BindOf -/
def m_i_BindOf_l1 (N : Nat) (p0 : (List TBind)) (p1 : ByteArray) : Nat → Int → Option (TVal × Bool)
  | 0, _ => none
  | k + 1, s1 =>
    (if decide (s1 < (p0.length : Int)) then ((idx p0 s1).bind fun x1 => (if seq x1.Name p1 then some (x1.V, true) else ((m_i_BindOf_l1 N p0 p1 k) (IntKind.i64.wrap (s1 + 1))))) else some ((⟨0, 0, (⟨#[]⟩ : ByteArray)⟩ : TVal), false))
def m_i_BindOf (N : Nat) (p0 : (List TBind)) (p1 : ByteArray) : Option (TVal × Bool) :=
  m_i_BindOf_l1 N p0 p1 N 0
/-! impl.MatchPat -/
def m_i_MatchPat_l1 (N : Nat) (p0 : TPat) (p1 : TFact) (p2 : (List TBind)) : Nat → (List TBind) → Int → Option ((List TBind) × Bool)
  | 0, _, _ => none
  | k + 1, s1, s2 =>
    (if decide (s2 < (p0.Args.length : Int)) then ((idx p0.Args s2).bind fun x3 => ((idx p1.Fields s2).bind fun x4 => (if decide (x3.K = 2) then (if !(eqT_TVal x3.V x4) then ((m_sl_Clone_Si_Bind_i_Bind N p2).bind fun x5 => some (x5, false)) else ((m_i_MatchPat_l1 N p0 p1 p2 k) s1 (IntKind.i64.wrap (s2 + 1)))) else (if decide (x3.K = 1) then ((m_i_BindOf N s1 x3.S).bind fun x6 => ((if x6.2 then some (!(eqT_TVal x6.1 x4)) else some false).bind fun b2 => (if b2 then ((m_sl_Clone_Si_Bind_i_Bind N p2).bind fun x7 => some (x7, false)) else (if !x6.2 then ((app s1 ([(⟨x3.S, x4⟩ : TBind)] : List TBind)).bind fun x8 => ((m_i_MatchPat_l1 N p0 p1 p2 k) x8 (IntKind.i64.wrap (s2 + 1)))) else ((m_i_MatchPat_l1 N p0 p1 p2 k) s1 (IntKind.i64.wrap (s2 + 1))))))) else ((m_i_MatchPat_l1 N p0 p1 p2 k) s1 (IntKind.i64.wrap (s2 + 1))))))) else some (s1, true))
def m_i_MatchPat (N : Nat) (p0 : TPat) (p1 : TFact) (p2 : (List TBind)) : Option ((List TBind) × Bool) :=
  ((if !seq p1.Kind p0.Kind then some true else some (!decide ((p1.Fields.length : Int) = (p0.Args.length : Int)))).bind fun b1 => (if b1 then ((m_sl_Clone_Si_Bind_i_Bind N p2).bind fun x1 => some (x1, false)) else ((m_sl_Clone_Si_Bind_i_Bind N p2).bind fun x2 => m_i_MatchPat_l1 N p0 p1 p2 N x2 0)))
/-! impl.bindsOf -/
def m_i_bindsOf_l1 (N : Nat) (p0 : (List TPat)) (p1 : TStore) (p2 : (List Int)) : Nat → (List TBind) → Int → Option ((List TBind) × Bool)
  | 0, _, _ => none
  | k + 1, s1, s2 =>
    (if decide (s2 < (p2.length : Int)) then ((idx p2 s2).bind fun x1 => ((m_i_FactOf N p1 x1).bind fun x2 => (if !x2.2 then some ([], false) else ((idx p0 s2).bind fun x3 => ((m_i_MatchPat N x3 x2.1 s1).bind fun x4 => (if !x4.2 then some ([], false) else ((m_i_bindsOf_l1 N p0 p1 p2 k) x4.1 (IntKind.i64.wrap (s2 + 1))))))))) else some (s1, true))
def m_i_bindsOf (N : Nat) (p0 : (List TPat)) (p1 : TStore) (p2 : (List Int)) : Option ((List TBind) × Bool) :=
  m_i_bindsOf_l1 N p0 p1 p2 N ([] : List TBind) 0
/-! impl.BindsFor -/
def m_i_BindsFor (N : Nat) (p0 : TRule) (p1 : TStore) (p2 : (List Int)) : Option ((List TBind) × Bool) :=
  ((m_i_pats N p0 false).bind fun x1 => (if !decide ((p2.length : Int) = (x1.length : Int)) then some ([], false) else ((m_i_bindsOf N x1 p1 p2).bind fun x2 => some (x2.1, x2.2))))
/-! laws.eqVal -/
def m_l_eqVal (N : Nat) (p0 : TVal) (p1 : TVal) : Option (Bool) :=
  (if !decide (p0.K = p1.K) then some false else (if !decide (p0.N = p1.N) then some false else (if !seq p0.S p1.S then some false else some true)))
/-! laws.eqBind -/
def m_l_eqBind (N : Nat) (p0 : TBind) (p1 : TBind) : Option (Bool) :=
  (if !seq p0.Name p1.Name then some false else ((m_l_eqVal N p0.V p1.V).bind fun x1 => (if !x1 then some false else some true)))
/-! laws.eqBindS -/
def m_l_eqBindS_l1 (N : Nat) (p0 : (List TBind)) (p1 : (List TBind)) : Nat → Int → Option (Bool)
  | 0, _ => none
  | k + 1, s1 =>
    (if decide (s1 < (p0.length : Int)) then ((idx p0 s1).bind fun x1 => ((idx p1 s1).bind fun x2 => ((m_l_eqBind N x1 x2).bind fun x3 => (if !x3 then some false else ((m_l_eqBindS_l1 N p0 p1 k) (IntKind.i64.wrap (s1 + 1))))))) else some true)
def m_l_eqBindS (N : Nat) (p0 : (List TBind)) (p1 : (List TBind)) : Option (Bool) :=
  (if !decide ((p0.length : Int) = (p1.length : Int)) then some false else m_l_eqBindS_l1 N p0 p1 N 0)
/-! laws.eqArg -/
def m_l_eqArg (N : Nat) (p0 : TArg) (p1 : TArg) : Option (Bool) :=
  (if !decide (p0.K = p1.K) then some false else (if !seq p0.S p1.S then some false else ((m_l_eqVal N p0.V p1.V).bind fun x1 => (if !x1 then some false else some true))))
/-! laws.eqArgS -/
def m_l_eqArgS_l1 (N : Nat) (p0 : (List TArg)) (p1 : (List TArg)) : Nat → Int → Option (Bool)
  | 0, _ => none
  | k + 1, s1 =>
    (if decide (s1 < (p0.length : Int)) then ((idx p0 s1).bind fun x1 => ((idx p1 s1).bind fun x2 => ((m_l_eqArg N x1 x2).bind fun x3 => (if !x3 then some false else ((m_l_eqArgS_l1 N p0 p1 k) (IntKind.i64.wrap (s1 + 1))))))) else some true)
def m_l_eqArgS (N : Nat) (p0 : (List TArg)) (p1 : (List TArg)) : Option (Bool) :=
  (if !decide ((p0.length : Int) = (p1.length : Int)) then some false else m_l_eqArgS_l1 N p0 p1 N 0)
/-! laws.eqPat -/
def m_l_eqPat (N : Nat) (p0 : TPat) (p1 : TPat) : Option (Bool) :=
  (if !seq p0.Kind p1.Kind then some false else ((m_l_eqArgS N p0.Args p1.Args).bind fun x1 => (if !x1 then some false else (if (p0.Not != p1.Not) then some false else some true))))
/-! laws.eqPatS -/
def m_l_eqPatS_l1 (N : Nat) (p0 : (List TPat)) (p1 : (List TPat)) : Nat → Int → Option (Bool)
  | 0, _ => none
  | k + 1, s1 =>
    (if decide (s1 < (p0.length : Int)) then ((idx p0 s1).bind fun x1 => ((idx p1 s1).bind fun x2 => ((m_l_eqPat N x1 x2).bind fun x3 => (if !x3 then some false else ((m_l_eqPatS_l1 N p0 p1 k) (IntKind.i64.wrap (s1 + 1))))))) else some true)
def m_l_eqPatS (N : Nat) (p0 : (List TPat)) (p1 : (List TPat)) : Option (Bool) :=
  (if !decide ((p0.length : Int) = (p1.length : Int)) then some false else m_l_eqPatS_l1 N p0 p1 N 0)
/-! laws.eqCond -/
def m_l_eqCond (N : Nat) (p0 : TCond) (p1 : TCond) : Option (Bool) :=
  (if !decide (p0.Op = p1.Op) then some false else ((m_l_eqArg N p0.L p1.L).bind fun x1 => (if !x1 then some false else ((m_l_eqArg N p0.R p1.R).bind fun x2 => (if !x2 then some false else some true)))))
/-! laws.eqCondS -/
def m_l_eqCondS_l1 (N : Nat) (p0 : (List TCond)) (p1 : (List TCond)) : Nat → Int → Option (Bool)
  | 0, _ => none
  | k + 1, s1 =>
    (if decide (s1 < (p0.length : Int)) then ((idx p0 s1).bind fun x1 => ((idx p1 s1).bind fun x2 => ((m_l_eqCond N x1 x2).bind fun x3 => (if !x3 then some false else ((m_l_eqCondS_l1 N p0 p1 k) (IntKind.i64.wrap (s1 + 1))))))) else some true)
def m_l_eqCondS (N : Nat) (p0 : (List TCond)) (p1 : (List TCond)) : Option (Bool) :=
  (if !decide ((p0.length : Int) = (p1.length : Int)) then some false else m_l_eqCondS_l1 N p0 p1 N 0)
/-! laws.eqExpr -/
def m_l_eqExpr (N : Nat) (p0 : TExpr) (p1 : TExpr) : Option (Bool) :=
  (if !seq p0.Op p1.Op then some false else ((m_l_eqArg N p0.L p1.L).bind fun x1 => (if !x1 then some false else ((m_l_eqArg N p0.R p1.R).bind fun x2 => (if !x2 then some false else some true)))))
/-! laws.eqExprS -/
def m_l_eqExprS_l1 (N : Nat) (p0 : (List TExpr)) (p1 : (List TExpr)) : Nat → Int → Option (Bool)
  | 0, _ => none
  | k + 1, s1 =>
    (if decide (s1 < (p0.length : Int)) then ((idx p0 s1).bind fun x1 => ((idx p1 s1).bind fun x2 => ((m_l_eqExpr N x1 x2).bind fun x3 => (if !x3 then some false else ((m_l_eqExprS_l1 N p0 p1 k) (IntKind.i64.wrap (s1 + 1))))))) else some true)
def m_l_eqExprS (N : Nat) (p0 : (List TExpr)) (p1 : (List TExpr)) : Option (Bool) :=
  (if !decide ((p0.length : Int) = (p1.length : Int)) then some false else m_l_eqExprS_l1 N p0 p1 N 0)
/-! laws.eqAct -/
def m_l_eqAct (N : Nat) (p0 : TAct) (p1 : TAct) : Option (Bool) :=
  (if !decide (p0.Kind = p1.Kind) then some false else (if !seq p0.Name p1.Name then some false else ((m_l_eqExprS N p0.Args p1.Args).bind fun x1 => (if !x1 then some false else (if !decide (p0.N = p1.N) then some false else (if !seq p0.Undo p1.Undo then some false else some true))))))
/-! laws.eqActS -/
def m_l_eqActS_l1 (N : Nat) (p0 : (List TAct)) (p1 : (List TAct)) : Nat → Int → Option (Bool)
  | 0, _ => none
  | k + 1, s1 =>
    (if decide (s1 < (p0.length : Int)) then ((idx p0 s1).bind fun x1 => ((idx p1 s1).bind fun x2 => ((m_l_eqAct N x1 x2).bind fun x3 => (if !x3 then some false else ((m_l_eqActS_l1 N p0 p1 k) (IntKind.i64.wrap (s1 + 1))))))) else some true)
def m_l_eqActS (N : Nat) (p0 : (List TAct)) (p1 : (List TAct)) : Option (Bool) :=
  (if !decide ((p0.length : Int) = (p1.length : Int)) then some false else m_l_eqActS_l1 N p0 p1 N 0)
/-! laws.eqRule -/
def m_l_eqRule (N : Nat) (p0 : TRule) (p1 : TRule) : Option (Bool) :=
  (if !seq p0.Name p1.Name then some false else (if !decide (p0.Sal = p1.Sal) then some false else ((m_l_eqPatS N p0.Pats p1.Pats).bind fun x1 => (if !x1 then some false else ((m_l_eqCondS N p0.Conds p1.Conds).bind fun x2 => (if !x2 then some false else ((m_l_eqActS N p0.Acts p1.Acts).bind fun x3 => (if !x3 then some false else some true))))))))
/-! laws.eqValS -/
def m_l_eqValS_l1 (N : Nat) (p0 : (List TVal)) (p1 : (List TVal)) : Nat → Int → Option (Bool)
  | 0, _ => none
  | k + 1, s1 =>
    (if decide (s1 < (p0.length : Int)) then ((idx p0 s1).bind fun x1 => ((idx p1 s1).bind fun x2 => ((m_l_eqVal N x1 x2).bind fun x3 => (if !x3 then some false else ((m_l_eqValS_l1 N p0 p1 k) (IntKind.i64.wrap (s1 + 1))))))) else some true)
def m_l_eqValS (N : Nat) (p0 : (List TVal)) (p1 : (List TVal)) : Option (Bool) :=
  (if !decide ((p0.length : Int) = (p1.length : Int)) then some false else m_l_eqValS_l1 N p0 p1 N 0)
/-! laws.eqFact -/
def m_l_eqFact (N : Nat) (p0 : TFact) (p1 : TFact) : Option (Bool) :=
  (if !seq p0.Kind p1.Kind then some false else ((m_l_eqValS N p0.Fields p1.Fields).bind fun x1 => (if !x1 then some false else some true)))
/-! laws.eqItem -/
def m_l_eqItem (N : Nat) (p0 : TItem) (p1 : TItem) : Option (Bool) :=
  (if !decide (p0.Id = p1.Id) then some false else ((m_l_eqFact N p0.F p1.F).bind fun x1 => (if !x1 then some false else some true)))
/-! laws.eqItemS -/
def m_l_eqItemS_l1 (N : Nat) (p0 : (List TItem)) (p1 : (List TItem)) : Nat → Int → Option (Bool)
  | 0, _ => none
  | k + 1, s1 =>
    (if decide (s1 < (p0.length : Int)) then ((idx p0 s1).bind fun x1 => ((idx p1 s1).bind fun x2 => ((m_l_eqItem N x1 x2).bind fun x3 => (if !x3 then some false else ((m_l_eqItemS_l1 N p0 p1 k) (IntKind.i64.wrap (s1 + 1))))))) else some true)
def m_l_eqItemS (N : Nat) (p0 : (List TItem)) (p1 : (List TItem)) : Option (Bool) :=
  (if !decide ((p0.length : Int) = (p1.length : Int)) then some false else m_l_eqItemS_l1 N p0 p1 N 0)
/-! laws.eqStore -/
def m_l_eqStore (N : Nat) (p0 : TStore) (p1 : TStore) : Option (Bool) :=
  ((m_l_eqItemS N p0.Items p1.Items).bind fun x1 => (if !x1 then some false else (if !decide (p0.Next = p1.Next) then some false else some true)))
/-! laws.eqIntS -/
def m_l_eqIntS_l1 (N : Nat) (p0 : (List Int)) (p1 : (List Int)) : Nat → Int → Option (Bool)
  | 0, _ => none
  | k + 1, s1 =>
    (if decide (s1 < (p0.length : Int)) then ((idx p0 s1).bind fun x1 => ((idx p1 s1).bind fun x2 => (if !decide (x1 = x2) then some false else ((m_l_eqIntS_l1 N p0 p1 k) (IntKind.i64.wrap (s1 + 1)))))) else some true)
def m_l_eqIntS (N : Nat) (p0 : (List Int)) (p1 : (List Int)) : Option (Bool) :=
  (if !decide ((p0.length : Int) = (p1.length : Int)) then some false else m_l_eqIntS_l1 N p0 p1 N 0)
/-! laws.markText -/
def m_l_markText_l1 (N : Nat) : Nat → Int → ByteArray → Option (ByteArray)
  | 0, _, _ => none
  | k + 1, s1, s2 =>
    (if decide (0 < s1) then ((cat (bstr ([(IntKind.u8.wrap (IntKind.i64.wrap (48 + (s1.tmod 10))))] : List Int)) s2).bind fun z1 => ((m_l_markText_l1 N k) (IntKind.i64.wrap (s1.tdiv 10)) z1)) else ((cat (⟨#[109]⟩ : ByteArray) s2).bind fun z2 => some z2))
def m_l_markText (N : Nat) (p0 : Int) : Option (ByteArray) :=
  (if decide (p0 ≤ 0) then some (⟨#[109, 48]⟩ : ByteArray) else m_l_markText_l1 N N p0 (⟨#[]⟩ : ByteArray))
/-! laws.markArgS -/
def m_l_markArgS_l1 (N : Nat) : Nat → (List TArg) → Int → Int → Option (Int × (List TArg))
  | 0, _, _, _ => none
  | k + 1, s1, s2, s3 =>
    (if decide (s3 < (s1.length : Int)) then ((idx s1 s3).bind fun x1 => ((m_l_markText N (IntKind.i64.wrap (s2 + 1))).bind fun x2 => ((m_l_markText N (IntKind.i64.wrap ((IntKind.i64.wrap ((IntKind.i64.wrap ((IntKind.i64.wrap (s2 + 1)) + 1)) + 1)) + 1))).bind fun x3 => ((m_l_markArgS_l1 N k) (s1.set s3.toNat (⟨s2, x2, (⟨IntKind.i64.wrap ((IntKind.i64.wrap (s2 + 1)) + 1), IntKind.i64.wrap ((IntKind.i64.wrap ((IntKind.i64.wrap (s2 + 1)) + 1)) + 1), x3⟩ : TVal)⟩ : TArg)) (IntKind.i64.wrap ((IntKind.i64.wrap ((IntKind.i64.wrap ((IntKind.i64.wrap ((IntKind.i64.wrap (s2 + 1)) + 1)) + 1)) + 1)) + 1)) (IntKind.i64.wrap (s3 + 1)))))) else some (s2, s1))
def m_l_markArgS (N : Nat) (p0 : (List TArg)) (p1 : Int) : Option (Int × (List TArg)) :=
  m_l_markArgS_l1 N N p0 p1 0
/-! laws.markPatS -/
def m_l_markPatS_l1 (N : Nat) : Nat → (List TPat) → Int → Int → Option (Int × (List TPat))
  | 0, _, _, _ => none
  | k + 1, s1, s2, s3 =>
    (if decide (s3 < (s1.length : Int)) then ((m_l_markText N s2).bind fun x1 => ((idx s1 s3).bind fun x2 => ((m_l_markArgS N x2.Args (IntKind.i64.wrap (s2 + 1))).bind fun x3 => ((m_l_markPatS_l1 N k) (s1.set s3.toNat (⟨x1, x3.2, decide ((x3.1.tmod 3) = 0)⟩ : TPat)) (IntKind.i64.wrap (x3.1 + 1)) (IntKind.i64.wrap (s3 + 1)))))) else some (s2, s1))
def m_l_markPatS (N : Nat) (p0 : (List TPat)) (p1 : Int) : Option (Int × (List TPat)) :=
  m_l_markPatS_l1 N N p0 p1 0
/-! laws.markCondS -/
def m_l_markCondS_l1 (N : Nat) : Nat → (List TCond) → Int → Int → Option (Int × (List TCond))
  | 0, _, _, _ => none
  | k + 1, s1, s2, s3 =>
    (if decide (s3 < (s1.length : Int)) then ((idx s1 s3).bind fun x1 => ((m_l_markText N (IntKind.i64.wrap ((IntKind.i64.wrap (s2 + 1)) + 1))).bind fun x2 => ((m_l_markText N (IntKind.i64.wrap ((IntKind.i64.wrap ((IntKind.i64.wrap ((IntKind.i64.wrap ((IntKind.i64.wrap (s2 + 1)) + 1)) + 1)) + 1)) + 1))).bind fun x3 => ((m_l_markText N (IntKind.i64.wrap ((IntKind.i64.wrap ((IntKind.i64.wrap ((IntKind.i64.wrap ((IntKind.i64.wrap ((IntKind.i64.wrap ((IntKind.i64.wrap (s2 + 1)) + 1)) + 1)) + 1)) + 1)) + 1)) + 1))).bind fun x4 => ((m_l_markText N (IntKind.i64.wrap ((IntKind.i64.wrap ((IntKind.i64.wrap ((IntKind.i64.wrap ((IntKind.i64.wrap ((IntKind.i64.wrap ((IntKind.i64.wrap ((IntKind.i64.wrap ((IntKind.i64.wrap ((IntKind.i64.wrap (s2 + 1)) + 1)) + 1)) + 1)) + 1)) + 1)) + 1)) + 1)) + 1)) + 1))).bind fun x5 => ((m_l_markCondS_l1 N k) (s1.set s3.toNat (⟨s2, (⟨IntKind.i64.wrap (s2 + 1), x2, (⟨IntKind.i64.wrap ((IntKind.i64.wrap ((IntKind.i64.wrap (s2 + 1)) + 1)) + 1), IntKind.i64.wrap ((IntKind.i64.wrap ((IntKind.i64.wrap ((IntKind.i64.wrap (s2 + 1)) + 1)) + 1)) + 1), x3⟩ : TVal)⟩ : TArg), (⟨IntKind.i64.wrap ((IntKind.i64.wrap ((IntKind.i64.wrap ((IntKind.i64.wrap ((IntKind.i64.wrap ((IntKind.i64.wrap (s2 + 1)) + 1)) + 1)) + 1)) + 1)) + 1), x4, (⟨IntKind.i64.wrap ((IntKind.i64.wrap ((IntKind.i64.wrap ((IntKind.i64.wrap ((IntKind.i64.wrap ((IntKind.i64.wrap ((IntKind.i64.wrap ((IntKind.i64.wrap (s2 + 1)) + 1)) + 1)) + 1)) + 1)) + 1)) + 1)) + 1), IntKind.i64.wrap ((IntKind.i64.wrap ((IntKind.i64.wrap ((IntKind.i64.wrap ((IntKind.i64.wrap ((IntKind.i64.wrap ((IntKind.i64.wrap ((IntKind.i64.wrap ((IntKind.i64.wrap (s2 + 1)) + 1)) + 1)) + 1)) + 1)) + 1)) + 1)) + 1)) + 1), x5⟩ : TVal)⟩ : TArg)⟩ : TCond)) (IntKind.i64.wrap ((IntKind.i64.wrap ((IntKind.i64.wrap ((IntKind.i64.wrap ((IntKind.i64.wrap ((IntKind.i64.wrap ((IntKind.i64.wrap ((IntKind.i64.wrap ((IntKind.i64.wrap ((IntKind.i64.wrap ((IntKind.i64.wrap (s2 + 1)) + 1)) + 1)) + 1)) + 1)) + 1)) + 1)) + 1)) + 1)) + 1)) + 1)) (IntKind.i64.wrap (s3 + 1)))))))) else some (s2, s1))
def m_l_markCondS (N : Nat) (p0 : (List TCond)) (p1 : Int) : Option (Int × (List TCond)) :=
  m_l_markCondS_l1 N N p0 p1 0
/-! laws.markExprS -/
def m_l_markExprS_l1 (N : Nat) : Nat → (List TExpr) → Int → Int → Option (Int × (List TExpr))
  | 0, _, _, _ => none
  | k + 1, s1, s2, s3 =>
    (if decide (s3 < (s1.length : Int)) then ((m_l_markText N s2).bind fun x1 => ((idx s1 s3).bind fun x2 => ((m_l_markText N (IntKind.i64.wrap ((IntKind.i64.wrap (s2 + 1)) + 1))).bind fun x3 => ((m_l_markText N (IntKind.i64.wrap ((IntKind.i64.wrap ((IntKind.i64.wrap ((IntKind.i64.wrap ((IntKind.i64.wrap (s2 + 1)) + 1)) + 1)) + 1)) + 1))).bind fun x4 => ((m_l_markText N (IntKind.i64.wrap ((IntKind.i64.wrap ((IntKind.i64.wrap ((IntKind.i64.wrap ((IntKind.i64.wrap ((IntKind.i64.wrap ((IntKind.i64.wrap (s2 + 1)) + 1)) + 1)) + 1)) + 1)) + 1)) + 1))).bind fun x5 => ((m_l_markText N (IntKind.i64.wrap ((IntKind.i64.wrap ((IntKind.i64.wrap ((IntKind.i64.wrap ((IntKind.i64.wrap ((IntKind.i64.wrap ((IntKind.i64.wrap ((IntKind.i64.wrap ((IntKind.i64.wrap ((IntKind.i64.wrap (s2 + 1)) + 1)) + 1)) + 1)) + 1)) + 1)) + 1)) + 1)) + 1)) + 1))).bind fun x6 => ((m_l_markExprS_l1 N k) (s1.set s3.toNat (⟨x1, (⟨IntKind.i64.wrap (s2 + 1), x3, (⟨IntKind.i64.wrap ((IntKind.i64.wrap ((IntKind.i64.wrap (s2 + 1)) + 1)) + 1), IntKind.i64.wrap ((IntKind.i64.wrap ((IntKind.i64.wrap ((IntKind.i64.wrap (s2 + 1)) + 1)) + 1)) + 1), x4⟩ : TVal)⟩ : TArg), (⟨IntKind.i64.wrap ((IntKind.i64.wrap ((IntKind.i64.wrap ((IntKind.i64.wrap ((IntKind.i64.wrap ((IntKind.i64.wrap (s2 + 1)) + 1)) + 1)) + 1)) + 1)) + 1), x5, (⟨IntKind.i64.wrap ((IntKind.i64.wrap ((IntKind.i64.wrap ((IntKind.i64.wrap ((IntKind.i64.wrap ((IntKind.i64.wrap ((IntKind.i64.wrap ((IntKind.i64.wrap (s2 + 1)) + 1)) + 1)) + 1)) + 1)) + 1)) + 1)) + 1), IntKind.i64.wrap ((IntKind.i64.wrap ((IntKind.i64.wrap ((IntKind.i64.wrap ((IntKind.i64.wrap ((IntKind.i64.wrap ((IntKind.i64.wrap ((IntKind.i64.wrap ((IntKind.i64.wrap (s2 + 1)) + 1)) + 1)) + 1)) + 1)) + 1)) + 1)) + 1)) + 1), x6⟩ : TVal)⟩ : TArg)⟩ : TExpr)) (IntKind.i64.wrap ((IntKind.i64.wrap ((IntKind.i64.wrap ((IntKind.i64.wrap ((IntKind.i64.wrap ((IntKind.i64.wrap ((IntKind.i64.wrap ((IntKind.i64.wrap ((IntKind.i64.wrap ((IntKind.i64.wrap ((IntKind.i64.wrap (s2 + 1)) + 1)) + 1)) + 1)) + 1)) + 1)) + 1)) + 1)) + 1)) + 1)) + 1)) (IntKind.i64.wrap (s3 + 1))))))))) else some (s2, s1))
def m_l_markExprS (N : Nat) (p0 : (List TExpr)) (p1 : Int) : Option (Int × (List TExpr)) :=
  m_l_markExprS_l1 N N p0 p1 0
/-! laws.markActS -/
def m_l_markActS_l1 (N : Nat) : Nat → (List TAct) → Int → Int → Option (Int × (List TAct))
  | 0, _, _, _ => none
  | k + 1, s1, s2, s3 =>
    (if decide (s3 < (s1.length : Int)) then ((idx s1 s3).bind fun x1 => ((m_l_markText N (IntKind.i64.wrap (s2 + 1))).bind fun x2 => ((m_l_markExprS N x1.Args (IntKind.i64.wrap ((IntKind.i64.wrap (s2 + 1)) + 1))).bind fun x3 => ((m_l_markText N (IntKind.i64.wrap (x3.1 + 1))).bind fun x4 => ((m_l_markActS_l1 N k) (s1.set s3.toNat (⟨s2, x2, x3.2, x3.1, x4⟩ : TAct)) (IntKind.i64.wrap ((IntKind.i64.wrap (x3.1 + 1)) + 1)) (IntKind.i64.wrap (s3 + 1))))))) else some (s2, s1))
def m_l_markActS (N : Nat) (p0 : (List TAct)) (p1 : Int) : Option (Int × (List TAct)) :=
  m_l_markActS_l1 N N p0 p1 0
/-! laws.markRule -/
def m_l_markRule (N : Nat) (p0 : TRule) (p1 : Int) : Option (Int × (List TPat) × (List TCond) × (List TAct)) :=
  ((m_l_markPatS N p0.Pats p1).bind fun x1 => ((m_l_markCondS N p0.Conds x1.1).bind fun x2 => ((m_l_markActS N p0.Acts x2.1).bind fun x3 => some (x3.1, x1.2, x2.2, x3.2))))
/-! laws.markValS -/
def m_l_markValS_l1 (N : Nat) : Nat → (List TVal) → Int → Int → Option (Int × (List TVal))
  | 0, _, _, _ => none
  | k + 1, s1, s2, s3 =>
    (if decide (s3 < (s1.length : Int)) then ((idx s1 s3).bind fun x1 => ((m_l_markText N (IntKind.i64.wrap ((IntKind.i64.wrap (s2 + 1)) + 1))).bind fun x2 => ((m_l_markValS_l1 N k) (s1.set s3.toNat (⟨s2, IntKind.i64.wrap (s2 + 1), x2⟩ : TVal)) (IntKind.i64.wrap ((IntKind.i64.wrap ((IntKind.i64.wrap (s2 + 1)) + 1)) + 1)) (IntKind.i64.wrap (s3 + 1))))) else some (s2, s1))
def m_l_markValS (N : Nat) (p0 : (List TVal)) (p1 : Int) : Option (Int × (List TVal)) :=
  m_l_markValS_l1 N N p0 p1 0
/-! laws.markItemS -/
def m_l_markItemS_l1 (N : Nat) : Nat → (List TItem) → Int → Int → Option (Int × (List TItem))
  | 0, _, _, _ => none
  | k + 1, s1, s2, s3 =>
    (if decide (s3 < (s1.length : Int)) then ((idx s1 s3).bind fun x1 => ((m_l_markText N (IntKind.i64.wrap (s2 + 1))).bind fun x2 => ((m_l_markValS N x1.F.Fields (IntKind.i64.wrap ((IntKind.i64.wrap (s2 + 1)) + 1))).bind fun x3 => ((m_l_markItemS_l1 N k) (s1.set s3.toNat (⟨s2, (⟨x2, x3.2⟩ : TFact)⟩ : TItem)) x3.1 (IntKind.i64.wrap (s3 + 1)))))) else some (s2, s1))
def m_l_markItemS (N : Nat) (p0 : (List TItem)) (p1 : Int) : Option (Int × (List TItem)) :=
  m_l_markItemS_l1 N N p0 p1 0
/-! laws.markStore -/
def m_l_markStore (N : Nat) (p0 : TStore) (p1 : Int) : Option (Int × (List TItem)) :=
  ((m_l_markItemS N p0.Items p1).bind fun x1 => some (x1.1, x1.2))
/-! laws.markIntS -/
def m_l_markIntS_l1 (N : Nat) : Nat → (List Int) → Int → Int → Option (Int × (List Int))
  | 0, _, _, _ => none
  | k + 1, s1, s2, s3 =>
    (if decide (s3 < (s1.length : Int)) then ((idx s1 s3).bind fun x1 => ((m_l_markIntS_l1 N k) (s1.set s3.toNat s2) (IntKind.i64.wrap (s2 + 1)) (IntKind.i64.wrap (s3 + 1)))) else some (s2, s1))
def m_l_markIntS (N : Nat) (p0 : (List Int)) (p1 : Int) : Option (Int × (List Int)) :=
  m_l_markIntS_l1 N N p0 p1 0
/-! laws.markBindS -/
def m_l_markBindS_l1 (N : Nat) : Nat → (List TBind) → Int → Int → Option (Int × (List TBind))
  | 0, _, _, _ => none
  | k + 1, s1, s2, s3 =>
    (if decide (s3 < (s1.length : Int)) then ((m_l_markText N s2).bind fun x1 => ((idx s1 s3).bind fun x2 => ((m_l_markText N (IntKind.i64.wrap ((IntKind.i64.wrap ((IntKind.i64.wrap (s2 + 1)) + 1)) + 1))).bind fun x3 => ((m_l_markBindS_l1 N k) (s1.set s3.toNat (⟨x1, (⟨IntKind.i64.wrap (s2 + 1), IntKind.i64.wrap ((IntKind.i64.wrap (s2 + 1)) + 1), x3⟩ : TVal)⟩ : TBind)) (IntKind.i64.wrap ((IntKind.i64.wrap ((IntKind.i64.wrap ((IntKind.i64.wrap (s2 + 1)) + 1)) + 1)) + 1)) (IntKind.i64.wrap (s3 + 1)))))) else some (s2, s1))
def m_l_markBindS (N : Nat) (p0 : (List TBind)) (p1 : Int) : Option (Int × (List TBind)) :=
  m_l_markBindS_l1 N N p0 p1 0
/-! laws.heldBindS -/
def m_l_heldBindS_l1 (N : Nat) (p0 : (List TBind)) : Nat → Int → Int → Option (Int)
  | 0, _, _ => none
  | k + 1, s1, s2 =>
    (if decide (s2 < (p0.length : Int)) then ((idx p0 s2).bind fun x1 => ((m_l_markText N s1).bind fun x2 => (if !seq x1.Name x2 then some (-1) else ((idx p0 s2).bind fun x3 => (if !decide (x3.V.K = IntKind.i64.wrap (s1 + 1)) then some (-1) else ((idx p0 s2).bind fun x4 => (if !decide (x4.V.N = IntKind.i64.wrap ((IntKind.i64.wrap (s1 + 1)) + 1)) then some (-1) else ((idx p0 s2).bind fun x5 => ((m_l_markText N (IntKind.i64.wrap ((IntKind.i64.wrap ((IntKind.i64.wrap (s1 + 1)) + 1)) + 1))).bind fun x6 => (if !seq x5.V.S x6 then some (-1) else ((m_l_heldBindS_l1 N p0 k) (IntKind.i64.wrap ((IntKind.i64.wrap ((IntKind.i64.wrap ((IntKind.i64.wrap (s1 + 1)) + 1)) + 1)) + 1)) (IntKind.i64.wrap (s2 + 1))))))))))))) else some s1)
def m_l_heldBindS (N : Nat) (p0 : (List TBind)) (p1 : Int) : Option (Int) :=
  m_l_heldBindS_l1 N p0 N p1 0
/-! laws.FnExactBindsFor -/
def m_l_FnExactBindsFor (N : Nat) (p0 : TRule) (p1 : TStore) (p2 : (List Int)) : Option (Bool) :=
  (if decide (1048576 < (p2.length : Int)) then some true else ((m_l_szRule N p0 1048576).bind fun x1 => (if decide (x1 < 0) then some true else ((m_l_szStore N p1 x1).bind fun x2 => (if decide (x2 < 0) then some true else ((m_l_toRule N p0).bind fun x3 => ((m_l_toStore N p1).bind fun x4 => ((m_l_toIntS N p2).bind fun x5 => ((m_s_BindsFor N x3 x4 x5).bind fun x6 => ((m_l_toRule N p0).bind fun x7 => ((m_l_toStore N p1).bind fun x8 => ((m_l_toIntS N p2).bind fun x9 => ((m_i_BindsFor N x7 x8 x9).bind fun x10 => ((m_l_eqBindS N x10.1 x6.1).bind fun x11 => ((if !x11 then some true else some (x10.2 != x6.2)).bind fun b1 => (if b1 then some false else ((m_l_toRule N p0).bind fun x12 => ((m_l_eqRule N x7 x12).bind fun x13 => (if !x13 then some false else ((m_l_toStore N p1).bind fun x14 => ((m_l_eqStore N x8 x14).bind fun x15 => (if !x15 then some false else ((m_l_toIntS N p2).bind fun x16 => ((m_l_eqIntS N x9 x16).bind fun x17 => (if !x17 then some false else ((m_l_markRule N x7 1).bind fun x18 => ((m_l_markStore N x8 x18.1).bind fun x19 => ((m_l_markIntS N x9 x19.1).bind fun x20 => ((if decide (x20.1 < 0) then some true else ((m_l_eqBindS N x10.1 x6.1).bind fun x21 => some (!x21))).bind fun b2 => ((if b2 then some true else some (x10.2 != x6.2)).bind fun b3 => (if b3 then some false else ((m_l_markBindS N x10.1 1).bind fun x22 => ((m_l_heldBindS N x22.2 1).bind fun x23 => (if decide (x23 < 0) then some false else (if !decide (x23 = x22.1) then some false else ((m_l_toRule N p0).bind fun x24 => ((m_l_toStore N p1).bind fun x25 => ((m_l_toIntS N p2).bind fun x26 => ((m_i_BindsFor N x24 x25 x26).bind fun x27 => ((m_l_eqBindS N x27.1 x6.1).bind fun x28 => ((if !x28 then some true else some (x27.2 != x6.2)).bind fun b4 => (if b4 then some false else ((m_l_heldBindS N x22.2 1).bind fun x29 => (if decide (x29 < 0) then some false else (if !decide (x29 = x22.1) then some false else some true)))))))))))))))))))))))))))))))))))))))))))))
end Go.Proofs.Ytjangilipfjcmaa
