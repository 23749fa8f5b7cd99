/- Printed by a program of ours: Lean functions of plain data for the Go functions. -/
import Derived.Test.YteipbimepilcfaaGreatDoorEM
namespace Go.Proofs.YteipbimepilcfaaGreatDoor
open Eng IntKind
set_option linter.unusedVariables false
set_option linter.unusedSimpArgs false

structure Tl1Cur where
  b : (List Int)
  i : Int
  h : Int
  deriving DecidableEq
def RTl1Cur (Φ : Hp) (F : List Nat) (cs : List Value) (x : Tl1Cur) : Prop :=
  ∃ (s0 : Value) (F0 : List Nat), cs = [s0, .int .i64 x.i, .int .i64 x.h] ∧ F = F0 ∧ RSl (RI .u8) 1 Φ F0 s0 x.b
theorem RTl1Cur.lasts : Lasts RTl1Cur := fun X Φ Φ' F cs x hf hd ⟨s0, F0, hc, hF, h0⟩ => by
  rw [hF] at hd
  exact ⟨s0, F0, hc, hF, h0.frame RI.lasts hf (fun k hk => hd k (by simp [hk]))⟩
instance : LS RTl1Cur := ⟨RTl1Cur.lasts⟩
theorem RTl1Cur.knows : Knows RTl1Cur := fun Φ F cs x ⟨s0, F0, hc, hF, h0⟩ => hF ▸ h0.kn
theorem RTl1Cur.one : Ones RTl1Cur := fun _ _ _ _ h => by obtain ⟨s0, F0, rfl, -, h0⟩ := h; exact One.all ⟨h0.one, rfl, rfl, trivial⟩
def OTl1Cur (Φ : Hp) (F : List Nat) (cs : List Value) (x : Tl1Cur) : Prop :=
  ∃ (s0 : Value), cs = [s0, .int .i64 x.i, .int .i64 x.h] ∧ F = (ob s0 ++ []) ∧ OSl (RI .u8) 5 1 Φ [] s0 x.b
theorem OTl1Cur.lasts : Lasts OTl1Cur := fun X Φ Φ' F cs x hf hd ⟨s0, hc, hF, h0⟩ => by
  rw [hF] at hd
  exact ⟨s0, hc, hF, h0.frame RI.lasts hf (fun k hk => hd k (by simp [hk])) (Dj.nil _)⟩
instance : LS OTl1Cur := ⟨OTl1Cur.lasts⟩
theorem OTl1Cur.knows : Knows OTl1Cur := fun Φ F cs x ⟨s0, hc, hF, h0⟩ => hF ▸ (h0.knO.app h0.kn)
theorem OTl1Cur.one : Ones OTl1Cur := fun _ _ _ _ h => by obtain ⟨s0, rfl, -, h0⟩ := h; exact One.all ⟨h0.one, rfl, rfl, trivial⟩
theorem OTl1Cur.gives : Gives OTl1Cur RTl1Cur := fun Φ F cs x ⟨s0, hc, hF, h0⟩ => ⟨s0, ob s0 ++ [], hc, hF, h0.rslG (Gives.refl _)⟩
structure TVal where
  K : Int
  N : Int
  S : ByteArray
  deriving DecidableEq
def RTVal (Φ : Hp) (F : List Nat) (cs : List Value) (x : TVal) : Prop := cs = [.int .i64 x.K, .int .i64 x.N, .string x.S] ∧ F = []
theorem RTVal.lasts : Lasts RTVal := fun _ _ _ _ _ _ _ _ h => h
instance : LS RTVal := ⟨RTVal.lasts⟩
theorem RTVal.knows : Knows RTVal := fun _ _ _ _ h => h.2 ▸ Kw.nil
theorem RTVal.flat : Flat RTVal := fun _ _ _ _ h => h.2
theorem RTVal.one : Ones RTVal := fun _ _ _ _ h => by obtain ⟨rfl, -⟩ := h; exact One.all ⟨rfl, rfl, rfl, trivial⟩
structure TArg where
  K : Int
  S : ByteArray
  V : TVal
  deriving DecidableEq
def RTArg (Φ : Hp) (F : List Nat) (cs : List Value) (x : TArg) : Prop := cs = [.int .i64 x.K, .string x.S, .int .i64 x.V.K, .int .i64 x.V.N, .string x.V.S] ∧ F = []
theorem RTArg.lasts : Lasts RTArg := fun _ _ _ _ _ _ _ _ h => h
instance : LS RTArg := ⟨RTArg.lasts⟩
theorem RTArg.knows : Knows RTArg := fun _ _ _ _ h => h.2 ▸ Kw.nil
theorem RTArg.flat : Flat RTArg := fun _ _ _ _ h => h.2
theorem RTArg.one : Ones RTArg := fun _ _ _ _ h => by obtain ⟨rfl, -⟩ := h; exact One.all ⟨rfl, rfl, rfl, rfl, rfl, trivial⟩
structure TPat where
  Kind : ByteArray
  Args : (List TArg)
  Not : Bool
  deriving DecidableEq
def RTPat (Φ : Hp) (F : List Nat) (cs : List Value) (x : TPat) : Prop :=
  ∃ (s0 : Value) (F0 : List Nat), cs = [.string x.Kind, s0, .bool x.Not] ∧ F = F0 ∧ RSl RTArg 5 Φ F0 s0 x.Args
theorem RTPat.lasts : Lasts RTPat := fun X Φ Φ' F cs x hf hd ⟨s0, F0, hc, hF, h0⟩ => by
  rw [hF] at hd
  exact ⟨s0, F0, hc, hF, h0.frame RTArg.lasts hf (fun k hk => hd k (by simp [hk]))⟩
instance : LS RTPat := ⟨RTPat.lasts⟩
theorem RTPat.knows : Knows RTPat := fun Φ F cs x ⟨s0, F0, hc, hF, h0⟩ => hF ▸ h0.kn
theorem RTPat.one : Ones RTPat := fun _ _ _ _ h => by obtain ⟨s0, F0, rfl, -, h0⟩ := h; exact One.all ⟨rfl, h0.one, rfl, trivial⟩
def OTPat (Φ : Hp) (F : List Nat) (cs : List Value) (x : TPat) : Prop :=
  ∃ (s0 : Value), cs = [.string x.Kind, s0, .bool x.Not] ∧ F = (ob s0 ++ []) ∧ OSl RTArg 60 5 Φ [] s0 x.Args
theorem OTPat.lasts : Lasts OTPat := fun X Φ Φ' F cs x hf hd ⟨s0, hc, hF, h0⟩ => by
  rw [hF] at hd
  exact ⟨s0, hc, hF, h0.frame RTArg.lasts hf (fun k hk => hd k (by simp [hk])) (Dj.nil _)⟩
instance : LS OTPat := ⟨OTPat.lasts⟩
theorem OTPat.knows : Knows OTPat := fun Φ F cs x ⟨s0, hc, hF, h0⟩ => hF ▸ (h0.knO.app h0.kn)
theorem OTPat.one : Ones OTPat := fun _ _ _ _ h => by obtain ⟨s0, rfl, -, h0⟩ := h; exact One.all ⟨rfl, h0.one, rfl, trivial⟩
theorem OTPat.gives : Gives OTPat RTPat := fun Φ F cs x ⟨s0, hc, hF, h0⟩ => ⟨s0, ob s0 ++ [], hc, hF, h0.rslG (Gives.refl _)⟩
structure TCond where
  Op : Int
  L : TArg
  R : TArg
  deriving DecidableEq
def RTCond (Φ : Hp) (F : List Nat) (cs : List Value) (x : TCond) : Prop := cs = [.int .i64 x.Op, .int .i64 x.L.K, .string x.L.S, .int .i64 x.L.V.K, .int .i64 x.L.V.N, .string x.L.V.S, .int .i64 x.R.K, .string x.R.S, .int .i64 x.R.V.K, .int .i64 x.R.V.N, .string x.R.V.S] ∧ F = []
theorem RTCond.lasts : Lasts RTCond := fun _ _ _ _ _ _ _ _ h => h
instance : LS RTCond := ⟨RTCond.lasts⟩
theorem RTCond.knows : Knows RTCond := fun _ _ _ _ h => h.2 ▸ Kw.nil
theorem RTCond.flat : Flat RTCond := fun _ _ _ _ h => h.2
theorem RTCond.one : Ones RTCond := fun _ _ _ _ h => by obtain ⟨rfl, -⟩ := h; exact One.all ⟨rfl, rfl, rfl, rfl, rfl, rfl, rfl, rfl, rfl, rfl, rfl, trivial⟩
structure TExpr where
  Op : ByteArray
  L : TArg
  R : TArg
  deriving DecidableEq
def RTExpr (Φ : Hp) (F : List Nat) (cs : List Value) (x : TExpr) : Prop := cs = [.string x.Op, .int .i64 x.L.K, .string x.L.S, .int .i64 x.L.V.K, .int .i64 x.L.V.N, .string x.L.V.S, .int .i64 x.R.K, .string x.R.S, .int .i64 x.R.V.K, .int .i64 x.R.V.N, .string x.R.V.S] ∧ F = []
theorem RTExpr.lasts : Lasts RTExpr := fun _ _ _ _ _ _ _ _ h => h
instance : LS RTExpr := ⟨RTExpr.lasts⟩
theorem RTExpr.knows : Knows RTExpr := fun _ _ _ _ h => h.2 ▸ Kw.nil
theorem RTExpr.flat : Flat RTExpr := fun _ _ _ _ h => h.2
theorem RTExpr.one : Ones RTExpr := fun _ _ _ _ h => by obtain ⟨rfl, -⟩ := h; exact One.all ⟨rfl, rfl, rfl, rfl, rfl, rfl, rfl, rfl, rfl, rfl, rfl, trivial⟩
structure TAct where
  Kind : Int
  Name : ByteArray
  Args : (List TExpr)
  N : Int
  Undo : ByteArray
  deriving DecidableEq
def RTAct (Φ : Hp) (F : List Nat) (cs : List Value) (x : TAct) : Prop :=
  ∃ (s0 : Value) (F0 : List Nat), cs = [.int .i64 x.Kind, .string x.Name, s0, .int .i64 x.N, .string x.Undo] ∧ F = F0 ∧ RSl RTExpr 11 Φ F0 s0 x.Args
theorem RTAct.lasts : Lasts RTAct := fun X Φ Φ' F cs x hf hd ⟨s0, F0, hc, hF, h0⟩ => by
  rw [hF] at hd
  exact ⟨s0, F0, hc, hF, h0.frame RTExpr.lasts hf (fun k hk => hd k (by simp [hk]))⟩
instance : LS RTAct := ⟨RTAct.lasts⟩
theorem RTAct.knows : Knows RTAct := fun Φ F cs x ⟨s0, F0, hc, hF, h0⟩ => hF ▸ h0.kn
theorem RTAct.one : Ones RTAct := fun _ _ _ _ h => by obtain ⟨s0, F0, rfl, -, h0⟩ := h; exact One.all ⟨rfl, rfl, h0.one, rfl, rfl, trivial⟩
def OTAct (Φ : Hp) (F : List Nat) (cs : List Value) (x : TAct) : Prop :=
  ∃ (s0 : Value), cs = [.int .i64 x.Kind, .string x.Name, s0, .int .i64 x.N, .string x.Undo] ∧ F = (ob s0 ++ []) ∧ OSl RTExpr 116 11 Φ [] s0 x.Args
theorem OTAct.lasts : Lasts OTAct := fun X Φ Φ' F cs x hf hd ⟨s0, hc, hF, h0⟩ => by
  rw [hF] at hd
  exact ⟨s0, hc, hF, h0.frame RTExpr.lasts hf (fun k hk => hd k (by simp [hk])) (Dj.nil _)⟩
instance : LS OTAct := ⟨OTAct.lasts⟩
theorem OTAct.knows : Knows OTAct := fun Φ F cs x ⟨s0, hc, hF, h0⟩ => hF ▸ (h0.knO.app h0.kn)
theorem OTAct.one : Ones OTAct := fun _ _ _ _ h => by obtain ⟨s0, rfl, -, h0⟩ := h; exact One.all ⟨rfl, rfl, h0.one, rfl, rfl, trivial⟩
theorem OTAct.gives : Gives OTAct RTAct := fun Φ F cs x ⟨s0, hc, hF, h0⟩ => ⟨s0, ob s0 ++ [], hc, hF, h0.rslG (Gives.refl _)⟩
structure TRule where
  Name : ByteArray
  Sal : Int
  Pats : (List TPat)
  Conds : (List TCond)
  Acts : (List TAct)
  deriving DecidableEq
def RTRule (Φ : Hp) (F : List Nat) (cs : List Value) (x : TRule) : Prop :=
  ∃ (s0 : Value) (F0 : List Nat) (s1 : Value) (F1 : List Nat) (s2 : Value) (F2 : List Nat), cs = [.string x.Name, .int .i64 x.Sal, s0, s1, s2] ∧ F = F0 ++ (F1 ++ (F2)) ∧ RSl RTPat 3 Φ F0 s0 x.Pats ∧ RSl RTCond 11 Φ F1 s1 x.Conds ∧ RSl RTAct 5 Φ F2 s2 x.Acts
theorem RTRule.lasts : Lasts RTRule := fun X Φ Φ' F cs x hf hd ⟨s0, F0, s1, F1, s2, F2, hc, hF, h0, h1, h2⟩ => by
  rw [hF] at hd
  exact ⟨s0, F0, s1, F1, s2, F2, hc, hF, h0.frame RTPat.lasts hf (fun k hk => hd k (by simp [hk])), h1.frame RTCond.lasts hf (fun k hk => hd k (by simp [hk])), h2.frame RTAct.lasts hf (fun k hk => hd k (by simp [hk]))⟩
instance : LS RTRule := ⟨RTRule.lasts⟩
theorem RTRule.knows : Knows RTRule := fun Φ F cs x ⟨s0, F0, s1, F1, s2, F2, hc, hF, h0, h1, h2⟩ => hF ▸ (h0.kn.app (h1.kn.app h2.kn))
theorem RTRule.one : Ones RTRule := fun _ _ _ _ h => by obtain ⟨s0, F0, s1, F1, s2, F2, rfl, -, h0, h1, h2⟩ := h; exact One.all ⟨rfl, rfl, h0.one, h1.one, h2.one, trivial⟩
def OTRule (Φ : Hp) (F : List Nat) (cs : List Value) (x : TRule) : Prop :=
  ∃ (s0 : Value) (D0 : List Nat) (s1 : Value) (s2 : Value) (D2 : List Nat), cs = [.string x.Name, .int .i64 x.Sal, s0, s1, s2] ∧ F = (ob s0 ++ D0) ++ ((ob s1 ++ []) ++ ((ob s2 ++ D2))) ∧ OSl OTPat 35 3 Φ D0 s0 x.Pats ∧ OSl RTCond 62 11 Φ [] s1 x.Conds ∧ OSl OTAct 66 5 Φ D2 s2 x.Acts
theorem OTRule.lasts : Lasts OTRule := fun X Φ Φ' F cs x hf hd ⟨s0, D0, s1, s2, D2, hc, hF, h0, h1, h2⟩ => by
  rw [hF] at hd
  exact ⟨s0, D0, s1, s2, D2, hc, hF, h0.frame OTPat.lasts hf (fun k hk => hd k (by simp [hk])) (fun k hk => hd k (by simp [hk])), h1.frame RTCond.lasts hf (fun k hk => hd k (by simp [hk])) (Dj.nil _), h2.frame OTAct.lasts hf (fun k hk => hd k (by simp [hk])) (fun k hk => hd k (by simp [hk]))⟩
instance : LS OTRule := ⟨OTRule.lasts⟩
theorem OTRule.knows : Knows OTRule := fun Φ F cs x ⟨s0, D0, s1, s2, D2, hc, hF, h0, h1, h2⟩ => hF ▸ ((h0.knO.app h0.kn).app ((h1.knO.app h1.kn).app (h2.knO.app h2.kn)))
theorem OTRule.one : Ones OTRule := fun _ _ _ _ h => by obtain ⟨s0, D0, s1, s2, D2, rfl, -, h0, h1, h2⟩ := h; exact One.all ⟨rfl, rfl, h0.one, h1.one, h2.one, trivial⟩
theorem OTRule.gives : Gives OTRule RTRule := fun Φ F cs x ⟨s0, D0, s1, s2, D2, hc, hF, h0, h1, h2⟩ => ⟨s0, ob s0 ++ D0, s1, ob s1 ++ [], s2, ob s2 ++ D2, hc, hF, h0.rslG OTPat.gives, h1.rslG (Gives.refl _), h2.rslG OTAct.gives⟩
def eqT_TVal (x y : TVal) : Bool := ((x.K == y.K) && ((x.N == y.N) && (seq x.S y.S && true)))
theorem seq_dec (a b : ByteArray) : seq a b = decide (a = b) := by
  unfold seq
  by_cases h : a = b
  · subst h; simp
  · have : ¬ a.toList = b.toList := fun e => h (by rw [ByteArray.toList_eq, ByteArray.toList_eq] at e; exact ByteArray.ext (Array.toList_inj.1 e))
    simp [h, this]
theorem eqT_TVal_eq (x y : TVal) : eqT_TVal x y = decide (x = y) := by
  obtain ⟨a0, a1, a2⟩ := x; obtain ⟨b0, b1, b2⟩ := y
  rw [Bool.eq_iff_iff]
  simp only [eqT_TVal, seq_dec, Bool.and_true, Bool.and_eq_true, beq_iff_eq, decide_eq_true_eq, TVal.mk.injEq, and_assoc]
def eqT_TArg (x y : TArg) : Bool := ((x.K == y.K) && (seq x.S y.S && ((x.V.K == y.V.K) && ((x.V.N == y.V.N) && (seq x.V.S y.V.S && true)))))

theorem eqT_TArg_eq (x y : TArg) : eqT_TArg x y = decide (x = y) := by
  obtain ⟨a0, a1, ⟨a20, a21, a22⟩⟩ := x; obtain ⟨b0, b1, ⟨b20, b21, b22⟩⟩ := y
  rw [Bool.eq_iff_iff]
  simp only [eqT_TArg, seq_dec, Bool.and_true, Bool.and_eq_true, beq_iff_eq, decide_eq_true_eq, TArg.mk.injEq, TVal.mk.injEq, and_assoc]
structure TDef where
  Name : ByteArray
  Rules : (List TRule)
  deriving DecidableEq
def RTDef (Φ : Hp) (F : List Nat) (cs : List Value) (x : TDef) : Prop :=
  ∃ (s0 : Value) (F0 : List Nat), cs = [.string x.Name, s0] ∧ F = F0 ∧ RSl RTRule 5 Φ F0 s0 x.Rules
theorem RTDef.lasts : Lasts RTDef := fun X Φ Φ' F cs x hf hd ⟨s0, F0, hc, hF, h0⟩ => by
  rw [hF] at hd
  exact ⟨s0, F0, hc, hF, h0.frame RTRule.lasts hf (fun k hk => hd k (by simp [hk]))⟩
instance : LS RTDef := ⟨RTDef.lasts⟩
theorem RTDef.knows : Knows RTDef := fun Φ F cs x ⟨s0, F0, hc, hF, h0⟩ => hF ▸ h0.kn
theorem RTDef.one : Ones RTDef := fun _ _ _ _ h => by obtain ⟨s0, F0, rfl, -, h0⟩ := h; exact One.all ⟨rfl, h0.one, trivial⟩
def OTDef (Φ : Hp) (F : List Nat) (cs : List Value) (x : TDef) : Prop :=
  ∃ (s0 : Value) (D0 : List Nat), cs = [.string x.Name, s0] ∧ F = (ob s0 ++ D0) ∧ OSl OTRule 28 5 Φ D0 s0 x.Rules
theorem OTDef.lasts : Lasts OTDef := fun X Φ Φ' F cs x hf hd ⟨s0, D0, hc, hF, h0⟩ => by
  rw [hF] at hd
  exact ⟨s0, D0, hc, hF, h0.frame OTRule.lasts hf (fun k hk => hd k (by simp [hk])) (fun k hk => hd k (by simp [hk]))⟩
instance : LS OTDef := ⟨OTDef.lasts⟩
theorem OTDef.knows : Knows OTDef := fun Φ F cs x ⟨s0, D0, hc, hF, h0⟩ => hF ▸ (h0.knO.app h0.kn)
theorem OTDef.one : Ones OTDef := fun _ _ _ _ h => by obtain ⟨s0, D0, rfl, -, h0⟩ := h; exact One.all ⟨rfl, h0.one, trivial⟩
theorem OTDef.gives : Gives OTDef RTDef := fun Φ F cs x ⟨s0, D0, hc, hF, h0⟩ => ⟨s0, ob s0 ++ D0, hc, hF, h0.rslG OTRule.gives⟩
structure TToken where
  K : Int
  N : Int
  S : ByteArray
  deriving DecidableEq
def RTToken (Φ : Hp) (F : List Nat) (cs : List Value) (x : TToken) : Prop := cs = [.int .i64 x.K, .int .i64 x.N, .string x.S] ∧ F = []
theorem RTToken.lasts : Lasts RTToken := fun _ _ _ _ _ _ _ _ h => h
instance : LS RTToken := ⟨RTToken.lasts⟩
theorem RTToken.knows : Knows RTToken := fun _ _ _ _ h => h.2 ▸ Kw.nil
theorem RTToken.flat : Flat RTToken := fun _ _ _ _ h => h.2
theorem RTToken.one : Ones RTToken := fun _ _ _ _ h => by obtain ⟨rfl, -⟩ := h; exact One.all ⟨rfl, rfl, rfl, trivial⟩
structure Tparser where
  tokens : (List TToken)
  at_ : Int
  bad : Bool
  deriving DecidableEq
def RTparser (Φ : Hp) (F : List Nat) (cs : List Value) (x : Tparser) : Prop :=
  ∃ (s0 : Value) (F0 : List Nat), cs = [s0, .int .i64 x.at_, .bool x.bad] ∧ F = F0 ∧ RSl RTToken 3 Φ F0 s0 x.tokens
theorem RTparser.lasts : Lasts RTparser := fun X Φ Φ' F cs x hf hd ⟨s0, F0, hc, hF, h0⟩ => by
  rw [hF] at hd
  exact ⟨s0, F0, hc, hF, h0.frame RTToken.lasts hf (fun k hk => hd k (by simp [hk]))⟩
instance : LS RTparser := ⟨RTparser.lasts⟩
theorem RTparser.knows : Knows RTparser := fun Φ F cs x ⟨s0, F0, hc, hF, h0⟩ => hF ▸ h0.kn
theorem RTparser.one : Ones RTparser := fun _ _ _ _ h => by obtain ⟨s0, F0, rfl, -, h0⟩ := h; exact One.all ⟨h0.one, rfl, rfl, trivial⟩
def OTparser (Φ : Hp) (F : List Nat) (cs : List Value) (x : Tparser) : Prop :=
  ∃ (s0 : Value), cs = [s0, .int .i64 x.at_, .bool x.bad] ∧ F = (ob s0 ++ []) ∧ OSl RTToken 77 3 Φ [] s0 x.tokens
theorem OTparser.lasts : Lasts OTparser := fun X Φ Φ' F cs x hf hd ⟨s0, hc, hF, h0⟩ => by
  rw [hF] at hd
  exact ⟨s0, hc, hF, h0.frame RTToken.lasts hf (fun k hk => hd k (by simp [hk])) (Dj.nil _)⟩
instance : LS OTparser := ⟨OTparser.lasts⟩
theorem OTparser.knows : Knows OTparser := fun Φ F cs x ⟨s0, hc, hF, h0⟩ => hF ▸ (h0.knO.app h0.kn)
theorem OTparser.one : Ones OTparser := fun _ _ _ _ h => by obtain ⟨s0, rfl, -, h0⟩ := h; exact One.all ⟨h0.one, rfl, rfl, trivial⟩
theorem OTparser.gives : Gives OTparser RTparser := fun Φ F cs x ⟨s0, hc, hF, h0⟩ => ⟨s0, ob s0 ++ [], hc, hF, h0.rslG (Gives.refl _)⟩
def eqT_TToken (x y : TToken) : Bool := ((x.K == y.K) && ((x.N == y.N) && (seq x.S y.S && true)))

theorem eqT_TToken_eq (x y : TToken) : eqT_TToken x y = decide (x = y) := by
  obtain ⟨a0, a1, a2⟩ := x; obtain ⟨b0, b1, b2⟩ := y
  rw [Bool.eq_iff_iff]
  simp only [eqT_TToken, seq_dec, Bool.and_true, Bool.and_eq_true, beq_iff_eq, decide_eq_true_eq, TToken.mk.injEq, and_assoc]
abbrev Tab := TabAt 1
def m_l_big (N : Nat) (p0 : (List Int)) : Option (Bool) :=
  some (decide (1048576 < (p0.length : Int)))
def m_s_l1New_l1 (N : Nat) (p0 : (List Int)) : Nat → Int → Int → Option (Tl1Cur)
  | 0, _, _ => none
  | k + 1, s1, s2 =>
    ((if decide (s2 < (p0.length : Int)) then some (decide (s2 < 4000)) else some false).bind fun b1 => (if b1 then ((idx p0 s2).bind fun x1 => ((m_s_l1New_l1 N p0 k) (andI .i64 (i64.wrap ((i64.wrap ((i64.wrap (s1 * 137)) + (i64.wrap x1))) + 11)) 1073741823) (i64.wrap (s2 + 1)))) else some (⟨p0, 0, s1⟩ : Tl1Cur)))
def m_s_l1New (N : Nat) (p0 : (List Int)) : Option (Tl1Cur) :=
  m_s_l1New_l1 N p0 N (i64.wrap (354354 + (p0.length : Int))) 0
def m_s_l1Byte (N : Nat) (p0 : Tl1Cur) : Option (Int × Tl1Cur) :=
  (if decide (p0.i < (p0.b.length : Int)) then ((idx p0.b p0.i).bind fun x1 => some ((andI .i64 (i64.wrap ((andI .i64 (xorI .i64 (shrI .i64 (i64.wrap ((i64.wrap (p0.h * 6364136223846793005)) + 1442695040888963407)) 33) (shrI .i64 (i64.wrap ((i64.wrap (p0.h * 6364136223846793005)) + 1442695040888963407)) 47)) 255) + (i64.wrap x1))) 255), (⟨p0.b, i64.wrap (p0.i + 1), i64.wrap ((i64.wrap (p0.h * 6364136223846793005)) + 1442695040888963407)⟩ : Tl1Cur))) else some ((andI .i64 (xorI .i64 (shrI .i64 (i64.wrap ((i64.wrap (p0.h * 6364136223846793005)) + 1442695040888963407)) 33) (shrI .i64 (i64.wrap ((i64.wrap (p0.h * 6364136223846793005)) + 1442695040888963407)) 47)) 255), (⟨p0.b, p0.i, i64.wrap ((i64.wrap (p0.h * 6364136223846793005)) + 1442695040888963407)⟩ : Tl1Cur)))
def m_s_l1Below (N : Nat) (p0 : Tl1Cur) (p1 : Int) : Option (Int × Tl1Cur) :=
  (if decide (p1 ≤ 0) then some (0, p0) else (if decide (p1 ≤ 256) then ((m_s_l1Byte N p0).bind fun x1 => ((remI x1.1 p1).bind fun x2 => some (x2, (⟨p0.b, x1.2.i, x1.2.h⟩ : Tl1Cur)))) else ((m_s_l1Byte N p0).bind fun x3 => ((m_s_l1Byte N (⟨p0.b, x3.2.i, x3.2.h⟩ : Tl1Cur)).bind fun x4 => ((m_s_l1Byte N (⟨p0.b, x4.2.i, x4.2.h⟩ : Tl1Cur)).bind fun x5 => ((remI (i64.wrap ((i64.wrap ((i64.wrap (x3.1 * 65536)) + (i64.wrap (x4.1 * 256)))) + x5.1)) p1).bind fun x6 => some (x6, (⟨p0.b, x5.2.i, x5.2.h⟩ : Tl1Cur))))))))
def m_s_l1Str (N : Nat) (p0 : Tl1Cur) (p1 : (List ByteArray)) : Option (ByteArray × Tl1Cur) :=
  ((m_s_l1Below N p0 (p1.length : Int)).bind fun x1 => ((idx p1 x1.1).bind fun x2 => some (x2, (⟨p0.b, x1.2.i, x1.2.h⟩ : Tl1Cur))))
def m_s_l6Has_l1 (N : Nat) (p0 : (List ByteArray)) (p1 : ByteArray) : Nat → Int → Option (Bool)
  | 0, _ => none
  | k + 1, s1 =>
    (if decide (s1 < (p0.length : Int)) then ((idx p0 s1).bind fun x1 => (if seq x1 p1 then some true else ((m_s_l6Has_l1 N p0 p1 k) (i64.wrap (s1 + 1))))) else some false)
def m_s_l6Has (N : Nat) (p0 : (List ByteArray)) (p1 : ByteArray) : Option (Bool) :=
  m_s_l6Has_l1 N p0 p1 N 0
def m_s_VarsOf_l1 (N : Nat) (p0 : TPat) : Nat → (List ByteArray) → Int → Option ((List ByteArray))
  | 0, _, _ => none
  | k + 1, s1, s2 =>
    (if decide (s2 < (p0.Args.length : Int)) then ((idx p0.Args s2).bind fun x1 => ((if decide (x1.K = 1) then ((idx p0.Args s2).bind fun x2 => ((m_s_l6Has N s1 x2.S).bind fun x3 => some (!x3))) else some false).bind fun b1 => (if b1 then ((idx p0.Args s2).bind fun x4 => ((app s1 ([x4.S] : List ByteArray)).bind fun x5 => ((m_s_VarsOf_l1 N p0 k) x5 (i64.wrap (s2 + 1))))) else ((m_s_VarsOf_l1 N p0 k) s1 (i64.wrap (s2 + 1)))))) else some s1)
def m_s_VarsOf (N : Nat) (p0 : TPat) : Option ((List ByteArray)) :=
  m_s_VarsOf_l1 N p0 N ([] : List ByteArray) 0
def m_s_PosVars_l2 (N : Nat) (p0 : TRule) (s2 : Int) (K1 : (List ByteArray) → Int → Option ((List ByteArray))) (x2 : (List ByteArray)) : Nat → (List ByteArray) → Int → Option ((List ByteArray))
  | 0, _, _ => none
  | k + 1, s3, s4 =>
    ((if decide (s4 < (x2.length : Int)) then ((idx p0.Pats s2).bind fun x3 => some (!x3.Not)) else some false).bind fun b1 => (if b1 then ((idx x2 s4).bind fun x4 => ((m_s_l6Has N s3 x4).bind fun x5 => (if !x5 then ((idx x2 s4).bind fun x6 => ((app s3 ([x6] : List ByteArray)).bind fun x7 => ((m_s_PosVars_l2 N p0 s2 K1 x2 k) x7 (i64.wrap (s4 + 1))))) else ((m_s_PosVars_l2 N p0 s2 K1 x2 k) s3 (i64.wrap (s4 + 1)))))) else (K1 s3 (i64.wrap (s2 + 1)))))
def m_s_PosVars_l1 (N : Nat) (p0 : TRule) : Nat → (List ByteArray) → Int → Option ((List ByteArray))
  | 0, _, _ => none
  | k + 1, s1, s2 =>
    (if decide (s2 < (p0.Pats.length : Int)) then ((idx p0.Pats s2).bind fun x1 => ((m_s_VarsOf N x1).bind fun x2 => m_s_PosVars_l2 N p0 s2 (m_s_PosVars_l1 N p0 k) x2 N s1 0)) else some s1)
def m_s_PosVars (N : Nat) (p0 : TRule) : Option ((List ByteArray)) :=
  m_s_PosVars_l1 N p0 N ([] : List ByteArray) 0
def m_s_PosCount_l1 (N : Nat) (p0 : TRule) : Nat → Int → Int → Option (Int)
  | 0, _, _ => none
  | k + 1, s1, s2 =>
    (if decide (s2 < (p0.Pats.length : Int)) then ((idx p0.Pats s2).bind fun x1 => (if !x1.Not then ((m_s_PosCount_l1 N p0 k) (i64.wrap (s1 + 1)) (i64.wrap (s2 + 1))) else ((m_s_PosCount_l1 N p0 k) s1 (i64.wrap (s2 + 1))))) else some s1)
def m_s_PosCount (N : Nat) (p0 : TRule) : Option (Int) :=
  m_s_PosCount_l1 N p0 N 0 0
def m_s_l1Once (N : Nat) (p0 : Tl1Cur) (p1 : Int) : Option (Bool × Tl1Cur) :=
  ((m_s_l1Below N p0 p1).bind fun x1 => some (decide (x1.1 = 0), (⟨p0.b, x1.2.i, x1.2.h⟩ : Tl1Cur)))
def m_s_l1Int (N : Nat) (p0 : Tl1Cur) (p1 : (List Int)) : Option (Int × Tl1Cur) :=
  ((m_s_l1Below N p0 (p1.length : Int)).bind fun x1 => ((idx p1 x1.1).bind fun x2 => some (x2, (⟨p0.b, x1.2.i, x1.2.h⟩ : Tl1Cur))))
def m_s_l6Val (N : Nat) (p0 : TVal) : Option (TArg) :=
  some (⟨2, (⟨#[]⟩ : ByteArray), p0⟩ : TArg)
def m_s_l6Var (N : Nat) (p0 : ByteArray) : Option (TArg) :=
  some (⟨1, p0, (⟨0, 0, (⟨#[]⟩ : ByteArray)⟩ : TVal)⟩ : TArg)
def m_s_l3Small (N : Nat) (p0 : Tl1Cur) : Option (TVal × Tl1Cur) :=
  ((m_s_l1Once N p0 2).bind fun x1 => (if x1.1 then ((m_s_l1Below N (⟨p0.b, x1.2.i, x1.2.h⟩ : Tl1Cur) 3).bind fun x2 => some ((⟨1, i64.wrap (1 + x2.1), (⟨#[]⟩ : ByteArray)⟩ : TVal), (⟨p0.b, x2.2.i, x2.2.h⟩ : Tl1Cur))) else ((m_s_l1Str N (⟨p0.b, x1.2.i, x1.2.h⟩ : Tl1Cur) ([(⟨#[97]⟩ : ByteArray), (⟨#[98]⟩ : ByteArray)] : List ByteArray)).bind fun x3 => some ((⟨2, 0, x3.1⟩ : TVal), (⟨p0.b, x3.2.i, x3.2.h⟩ : Tl1Cur)))))
def m_s_l6Arg (N : Nat) (p0 : Tl1Cur) : Option (TArg × Tl1Cur) :=
  ((m_s_l1Below N p0 6).bind fun x1 => (if decide (x1.1 = 0) then some ((⟨3, (⟨#[]⟩ : ByteArray), (⟨0, 0, (⟨#[]⟩ : ByteArray)⟩ : TVal)⟩ : TArg), (⟨p0.b, x1.2.i, x1.2.h⟩ : Tl1Cur)) else (if decide (x1.1 = 1) then ((m_s_l3Small N (⟨p0.b, x1.2.i, x1.2.h⟩ : Tl1Cur)).bind fun x2 => ((m_s_l6Val N x2.1).bind fun x3 => some (x3, (⟨p0.b, x2.2.i, x2.2.h⟩ : Tl1Cur)))) else ((m_s_l1Str N (⟨p0.b, x1.2.i, x1.2.h⟩ : Tl1Cur) ([(⟨#[88]⟩ : ByteArray), (⟨#[89]⟩ : ByteArray), (⟨#[90]⟩ : ByteArray), (⟨#[88]⟩ : ByteArray)] : List ByteArray)).bind fun x4 => ((m_s_l6Var N x4.1).bind fun x5 => some (x5, (⟨p0.b, x4.2.i, x4.2.h⟩ : Tl1Cur)))))))
def m_s_l6Draw_l2 (N : Nat) (p0 : Tl1Cur) (p1 : Bool) (x1 : ByteArray × Tl1Cur) (s1 : Int) : Nat → (List TArg) → Int → Int → Int → Option (TPat × Tl1Cur)
  | 0, _, _, _, _ => none
  | k + 1, s2, s3, s4, s5 =>
    (if decide (s3 < s1) then ((m_s_l6Arg N (⟨p0.b, s4, s5⟩ : Tl1Cur)).bind fun x2 => ((app s2 ([x2.1] : List TArg)).bind fun x3 => ((m_s_l6Draw_l2 N p0 p1 x1 s1 k) x3 (i64.wrap (s3 + 1)) x2.2.i x2.2.h))) else some ((⟨x1.1, s2, p1⟩ : TPat), (⟨p0.b, s4, s5⟩ : Tl1Cur)))
def m_s_l6Draw_j1 (N : Nat) (p0 : Tl1Cur) (p1 : Bool) (x1 : ByteArray × Tl1Cur) (s1 : Int) : Option (TPat × Tl1Cur) :=
  m_s_l6Draw_l2 N p0 p1 x1 s1 N ([] : List TArg) 0 x1.2.i x1.2.h
def m_s_l6Draw (N : Nat) (p0 : Tl1Cur) (p1 : Bool) : Option (TPat × Tl1Cur) :=
  ((m_s_l1Str N p0 ([(⟨#[111, 114, 100, 101, 114]⟩ : ByteArray), (⟨#[112, 97, 105, 100]⟩ : ByteArray), (⟨#[105, 116, 101, 109]⟩ : ByteArray), (⟨#[111, 114, 100, 101, 114]⟩ : ByteArray)] : List ByteArray)).bind fun x1 => (if seq x1.1 (⟨#[105, 116, 101, 109]⟩ : ByteArray) then m_s_l6Draw_j1 N p0 p1 x1 2 else m_s_l6Draw_j1 N p0 p1 x1 1))
def m_s_l7Arg (N : Nat) (p0 : Tl1Cur) : Option (TArg × Tl1Cur) :=
  ((m_s_l1Once N p0 3).bind fun x1 => (if x1.1 then ((m_s_l3Small N (⟨p0.b, x1.2.i, x1.2.h⟩ : Tl1Cur)).bind fun x2 => ((m_s_l6Val N x2.1).bind fun x3 => some (x3, (⟨p0.b, x2.2.i, x2.2.h⟩ : Tl1Cur)))) else ((m_s_l1Str N (⟨p0.b, x1.2.i, x1.2.h⟩ : Tl1Cur) ([(⟨#[88]⟩ : ByteArray), (⟨#[89]⟩ : ByteArray)] : List ByteArray)).bind fun x4 => ((m_s_l6Var N x4.1).bind fun x5 => some (x5, (⟨p0.b, x4.2.i, x4.2.h⟩ : Tl1Cur))))))
def m_s_l7Draw (N : Nat) (p0 : Tl1Cur) : Option (TCond × Tl1Cur) :=
  ((m_s_l1Below N p0 3).bind fun x1 => ((m_s_l7Arg N (⟨p0.b, x1.2.i, x1.2.h⟩ : Tl1Cur)).bind fun x2 => ((m_s_l7Arg N (⟨p0.b, x2.2.i, x2.2.h⟩ : Tl1Cur)).bind fun x3 => some ((⟨i64.wrap (1 + x1.1), x2.1, x3.1⟩ : TCond), (⟨p0.b, x3.2.i, x3.2.h⟩ : Tl1Cur)))))
def m_s_l9Known (N : Nat) (p0 : TArg) (p1 : (List ByteArray)) : Option (Bool) :=
  ((if !decide (p0.K = 1) then some true else ((m_s_l6Has N p1 p0.S).bind fun x1 => some x1)).bind fun b1 => some b1)
def m_s_l9Fit (N : Nat) (p0 : TArg) (p1 : (List ByteArray)) : Option (TArg) :=
  ((m_s_l9Known N p0 p1).bind fun x1 => (if x1 then some p0 else (if decide ((p1.length : Int) = 0) then ((m_s_l6Val N (⟨1, 1, (⟨#[]⟩ : ByteArray)⟩ : TVal)).bind fun x2 => some x2) else ((idx p1 0).bind fun x3 => ((m_s_l6Var N x3).bind fun x4 => some x4)))))
def m_s_l8Expr_j1 (N : Nat) (p0 : Tl1Cur) (x1 : TArg × Tl1Cur) (s1 : Int) (s2 : Int) (s3 : ByteArray) (s4 : Int) (s5 : ByteArray) (s6 : Int) (s7 : Int) (s8 : ByteArray) : Option (TExpr × Tl1Cur) :=
  some ((⟨s3, x1.1, (⟨s4, s5, (⟨s6, s7, s8⟩ : TVal)⟩ : TArg)⟩ : TExpr), (⟨p0.b, s1, s2⟩ : Tl1Cur))
def m_s_l8Expr (N : Nat) (p0 : Tl1Cur) : Option (TExpr × Tl1Cur) :=
  ((m_s_l7Arg N p0).bind fun x1 => ((m_s_l1Once N (⟨p0.b, x1.2.i, x1.2.h⟩ : Tl1Cur) 4).bind fun x2 => (if x2.1 then ((m_s_l1Str N (⟨p0.b, x2.2.i, x2.2.h⟩ : Tl1Cur) ([(⟨#[43]⟩ : ByteArray), (⟨#[45]⟩ : ByteArray)] : List ByteArray)).bind fun x3 => ((m_s_l7Arg N (⟨p0.b, x3.2.i, x3.2.h⟩ : Tl1Cur)).bind fun x4 => m_s_l8Expr_j1 N p0 x1 x4.2.i x4.2.h x3.1 x4.1.K x4.1.S x4.1.V.K x4.1.V.N x4.1.V.S)) else m_s_l8Expr_j1 N p0 x1 x2.2.i x2.2.h (⟨#[]⟩ : ByteArray) 0 (⟨#[]⟩ : ByteArray) 0 0 (⟨#[]⟩ : ByteArray))))
def m_s_l8Draw_j6 (N : Nat) (p0 : Tl1Cur) (x1 : Int × Tl1Cur) (x3 : ByteArray × Tl1Cur) (s3 : (List TExpr)) (s9 : Int) (s13 : Int) (s14 : Int) (s15 : ByteArray) : Option (TAct × Tl1Cur) :=
  some ((⟨x1.1, x3.1, s3, s9, s15⟩ : TAct), (⟨p0.b, s13, s14⟩ : Tl1Cur))
def m_s_l8Draw_j5 (N : Nat) (p0 : Tl1Cur) (x1 : Int × Tl1Cur) (x3 : ByteArray × Tl1Cur) (s3 : (List TExpr)) (s9 : Int) (s10 : Bool) (s11 : Int) (s12 : Int) : Option (TAct × Tl1Cur) :=
  (if s10 then ((m_s_l1Str N (⟨p0.b, s11, s12⟩ : Tl1Cur) ([(⟨#[114, 101, 102, 117, 110, 100]⟩ : ByteArray), (⟨#[99, 97, 110, 99, 101, 108]⟩ : ByteArray)] : List ByteArray)).bind fun x6 => m_s_l8Draw_j6 N p0 x1 x3 s3 s9 x6.2.i x6.2.h x6.1) else m_s_l8Draw_j6 N p0 x1 x3 s3 s9 s11 s12 (⟨#[]⟩ : ByteArray))
def m_s_l8Draw_j4 (N : Nat) (p0 : Tl1Cur) (x1 : Int × Tl1Cur) (x3 : ByteArray × Tl1Cur) (s3 : (List TExpr)) (s7 : Int) (s8 : Int) (s9 : Int) : Option (TAct × Tl1Cur) :=
  (if decide (x1.1 = 3) then ((m_s_l1Once N (⟨p0.b, s7, s8⟩ : Tl1Cur) 2).bind fun x7 => m_s_l8Draw_j5 N p0 x1 x3 s3 s9 x7.1 x7.2.i x7.2.h) else m_s_l8Draw_j5 N p0 x1 x3 s3 s9 false s7 s8)
def m_s_l8Draw_l3 (N : Nat) (p0 : Tl1Cur) (x1 : Int × Tl1Cur) (x3 : ByteArray × Tl1Cur) (s2 : Int) : Nat → (List TExpr) → Int → Int → Int → Option (TAct × Tl1Cur)
  | 0, _, _, _, _ => none
  | k + 1, s3, s4, s5, s6 =>
    (if decide (s4 < s2) then ((m_s_l8Expr N (⟨p0.b, s5, s6⟩ : Tl1Cur)).bind fun x4 => ((app s3 ([x4.1] : List TExpr)).bind fun x5 => ((m_s_l8Draw_l3 N p0 x1 x3 s2 k) x5 (i64.wrap (s4 + 1)) x4.2.i x4.2.h))) else (if decide (x1.1 = 4) then ((m_s_l1Int N (⟨p0.b, s5, s6⟩ : Tl1Cur) ([0, 1, 5, 100000] : List Int)).bind fun x8 => m_s_l8Draw_j4 N p0 x1 x3 s3 x8.2.i x8.2.h x8.1) else m_s_l8Draw_j4 N p0 x1 x3 s3 s5 s6 0))
def m_s_l8Draw_j2 (N : Nat) (p0 : Tl1Cur) (x1 : Int × Tl1Cur) (x3 : ByteArray × Tl1Cur) (s2 : Int) : Option (TAct × Tl1Cur) :=
  m_s_l8Draw_l3 N p0 x1 x3 s2 N ([] : List TExpr) 0 x3.2.i x3.2.h
def m_s_l8Draw_j1 (N : Nat) (p0 : Tl1Cur) (x1 : Int × Tl1Cur) (s1 : Bool) : Option (TAct × Tl1Cur) :=
  (if s1 then some ((⟨x1.1, (⟨#[]⟩ : ByteArray), [], 0, (⟨#[]⟩ : ByteArray)⟩ : TAct), (⟨p0.b, x1.2.i, x1.2.h⟩ : Tl1Cur)) else ((m_s_l1Str N (⟨p0.b, x1.2.i, x1.2.h⟩ : Tl1Cur) ([(⟨#[111, 114, 100, 101, 114]⟩ : ByteArray), (⟨#[112, 97, 105, 100]⟩ : ByteArray), (⟨#[105, 116, 101, 109]⟩ : ByteArray), (⟨#[115, 104, 105, 112]⟩ : ByteArray), (⟨#[99, 104, 97, 114, 103, 101]⟩ : ByteArray)] : List ByteArray)).bind fun x3 => (if seq x3.1 (⟨#[105, 116, 101, 109]⟩ : ByteArray) then m_s_l8Draw_j2 N p0 x1 x3 2 else m_s_l8Draw_j2 N p0 x1 x3 1)))
def m_s_l8Draw (N : Nat) (p0 : Tl1Cur) (p1 : Int) : Option (TAct × Tl1Cur) :=
  ((m_s_l1Int N p0 ([1, 1, 2, 3, 3, 4, 5, 6] : List Int)).bind fun x1 => (if decide (x1.1 = 2) then ((m_s_l1Below N (⟨p0.b, x1.2.i, x1.2.h⟩ : Tl1Cur) p1).bind fun x2 => some ((⟨x1.1, (⟨#[]⟩ : ByteArray), [], x2.1, (⟨#[]⟩ : ByteArray)⟩ : TAct), (⟨p0.b, x2.2.i, x2.2.h⟩ : Tl1Cur))) else (if decide (x1.1 = 5) then m_s_l8Draw_j1 N p0 x1 (decide (x1.1 = 5)) else m_s_l8Draw_j1 N p0 x1 (decide (x1.1 = 6)))))
def m_s_l9Draw_l5 (N : Nat) (x6 : (List ByteArray)) (s11 : (List TAct)) (s12 : Int) (K4 : (List TAct) → Int → Int → Int → Option (TRule × Tl1Cur)) (x10 : TAct × Tl1Cur) : Nat → (List TExpr) → Int → Option (TRule × Tl1Cur)
  | 0, _, _ => none
  | k + 1, s15, s16 =>
    (if decide (s16 < (s15.length : Int)) then ((idx s15 s16).bind fun x11 => ((m_s_l9Fit N x11.L x6).bind fun x12 => (if !seq x11.Op (⟨#[]⟩ : ByteArray) then ((m_s_l9Fit N x11.R x6).bind fun x13 => ((m_s_l9Draw_l5 N x6 s11 s12 K4 x10 k) (s15.set s16.toNat (⟨x11.Op, x12, x13⟩ : TExpr)) (i64.wrap (s16 + 1)))) else ((m_s_l9Draw_l5 N x6 s11 s12 K4 x10 k) (s15.set s16.toNat (⟨x11.Op, x12, x11.R⟩ : TExpr)) (i64.wrap (s16 + 1)))))) else ((app s11 ([(⟨x10.1.Kind, x10.1.Name, s15, x10.1.N, x10.1.Undo⟩ : TAct)] : List TAct)).bind fun x14 => (K4 x14 (i64.wrap (s12 - 1)) x10.2.i x10.2.h)))
def m_s_l9Draw_l4 (N : Nat) (p0 : Tl1Cur) (p1 : ByteArray) (x1 : Int × Tl1Cur) (s5 : (List TPat)) (x6 : (List ByteArray)) (s8 : (List TCond)) : Nat → (List TAct) → Int → Int → Int → Option (TRule × Tl1Cur)
  | 0, _, _, _, _ => none
  | k + 1, s11, s12, s13, s14 =>
    (if decide (0 < s12) then ((m_s_PosCount N (⟨p1, x1.1, s5, s8, s11⟩ : TRule)).bind fun x9 => ((m_s_l8Draw N (⟨p0.b, s13, s14⟩ : Tl1Cur) x9).bind fun x10 => m_s_l9Draw_l5 N x6 s11 s12 (m_s_l9Draw_l4 N p0 p1 x1 s5 x6 s8 k) x10 N x10.1.Args 0)) else some ((⟨p1, x1.1, s5, s8, s11⟩ : TRule), (⟨p0.b, s13, s14⟩ : Tl1Cur)))
def m_s_l9Draw_j3 (N : Nat) (p0 : Tl1Cur) (p1 : ByteArray) (x1 : Int × Tl1Cur) (s5 : (List TPat)) (x6 : (List ByteArray)) (s8 : (List TCond)) (s9 : Int) (s10 : Int) : Option (TRule × Tl1Cur) :=
  ((m_s_l1Below N (⟨p0.b, s9, s10⟩ : Tl1Cur) 3).bind fun x8 => m_s_l9Draw_l4 N p0 p1 x1 s5 x6 s8 N ([] : List TAct) (i64.wrap (1 + x8.1)) x8.2.i x8.2.h)
def m_s_l9Draw_j2 (N : Nat) (p0 : Tl1Cur) (p1 : ByteArray) (x1 : Int × Tl1Cur) (s5 : (List TPat)) (s6 : Int) (s7 : Int) : Option (TRule × Tl1Cur) :=
  ((m_s_PosVars N (⟨p1, x1.1, s5, [], []⟩ : TRule)).bind fun x6 => ((m_s_l1Once N (⟨p0.b, s6, s7⟩ : Tl1Cur) 3).bind fun x7 => (if x7.1 then ((m_s_l7Draw N (⟨p0.b, x7.2.i, x7.2.h⟩ : Tl1Cur)).bind fun x15 => ((m_s_l9Fit N x15.1.L x6).bind fun x16 => ((m_s_l9Fit N x15.1.R x6).bind fun x17 => ((app ([] : List TCond) ([(⟨x15.1.Op, x16, x17⟩ : TCond)] : List TCond)).bind fun x18 => m_s_l9Draw_j3 N p0 p1 x1 s5 x6 x18 x15.2.i x15.2.h)))) else m_s_l9Draw_j3 N p0 p1 x1 s5 x6 ([] : List TCond) x7.2.i x7.2.h)))
def m_s_l9Draw_l1 (N : Nat) (p0 : Tl1Cur) (p1 : ByteArray) (x1 : Int × Tl1Cur) : Nat → (List TPat) → Int → Int → Int → Option (TRule × Tl1Cur)
  | 0, _, _, _, _ => none
  | k + 1, s1, s2, s3, s4 =>
    (if decide (0 < s2) then ((m_s_l6Draw N (⟨p0.b, s3, s4⟩ : Tl1Cur) false).bind fun x3 => ((app s1 ([x3.1] : List TPat)).bind fun x4 => ((m_s_l9Draw_l1 N p0 p1 x1 k) x4 (i64.wrap (s2 - 1)) x3.2.i x3.2.h))) else ((m_s_l1Once N (⟨p0.b, s3, s4⟩ : Tl1Cur) 3).bind fun x5 => (if x5.1 then ((m_s_l6Draw N (⟨p0.b, x5.2.i, x5.2.h⟩ : Tl1Cur) true).bind fun x19 => ((app s1 ([x19.1] : List TPat)).bind fun x20 => m_s_l9Draw_j2 N p0 p1 x1 x20 x19.2.i x19.2.h)) else m_s_l9Draw_j2 N p0 p1 x1 s1 x5.2.i x5.2.h)))
def m_s_l9Draw (N : Nat) (p0 : Tl1Cur) (p1 : ByteArray) : Option (TRule × Tl1Cur) :=
  ((m_s_l1Int N p0 ([0, 0, 5, (-5), 100] : List Int)).bind fun x1 => ((m_s_l1Below N (⟨p0.b, x1.2.i, x1.2.h⟩ : Tl1Cur) 3).bind fun x2 => m_s_l9Draw_l1 N p0 p1 x1 N ([] : List TPat) (i64.wrap (1 + x2.1)) x2.2.i x2.2.h))
def m_s_l6Any_j1 (N : Nat) (p0 : Tl1Cur) (x2 : TPat × Tl1Cur) (s1 : (List TArg)) (s2 : Int) (s3 : Int) (s4 : ByteArray) : Option (TPat × Tl1Cur) :=
  some ((⟨s4, s1, x2.1.Not⟩ : TPat), (⟨p0.b, s2, s3⟩ : Tl1Cur))
def m_s_l6Any_j2 (N : Nat) (p0 : Tl1Cur) (x2 : TPat × Tl1Cur) (s5 : (List TArg)) (s6 : Int) (s7 : Int) : Option (TPat × Tl1Cur) :=
  m_s_l6Any_j1 N p0 x2 s5 s6 s7 x2.1.Kind
def m_s_l6Any_l3 (N : Nat) (p0 : Tl1Cur) (x2 : TPat × Tl1Cur) : Nat → (List TArg) → Int → Int → Option (TPat × Tl1Cur)
  | 0, _, _, _ => none
  | k + 1, s8, s9, s10 =>
    ((m_s_l1Below N (⟨p0.b, s9, s10⟩ : Tl1Cur) 2).bind fun x14 => (if decide ((s8.length : Int) < i64.wrap (5 + x14.1)) then ((m_s_l6Arg N (⟨p0.b, x14.2.i, x14.2.h⟩ : Tl1Cur)).bind fun x15 => ((app s8 ([x15.1] : List TArg)).bind fun x16 => ((m_s_l6Any_l3 N p0 x2 k) x16 x15.2.i x15.2.h))) else m_s_l6Any_j1 N p0 x2 s8 x14.2.i x14.2.h x2.1.Kind))
def m_s_l6Any (N : Nat) (p0 : Tl1Cur) : Option (TPat × Tl1Cur) :=
  ((m_s_l1Once N p0 3).bind fun x1 => ((m_s_l6Draw N (⟨p0.b, x1.2.i, x1.2.h⟩ : Tl1Cur) x1.1).bind fun x2 => ((m_s_l1Below N (⟨p0.b, x2.2.i, x2.2.h⟩ : Tl1Cur) 10).bind fun x3 => (if decide (x3.1 = 0) then ((m_s_l1Str N (⟨p0.b, x3.2.i, x3.2.h⟩ : Tl1Cur) ([(⟨#[]⟩ : ByteArray), (⟨#[65]⟩ : ByteArray), (⟨#[120]⟩ : ByteArray)] : List ByteArray)).bind fun x4 => m_s_l6Any_j1 N p0 x2 x2.1.Args x4.2.i x4.2.h x4.1) else (if decide (x3.1 = 1) then ((m_s_l1Below N (⟨p0.b, x3.2.i, x3.2.h⟩ : Tl1Cur) 5).bind fun x8 => ((m_s_l1Str N (⟨p0.b, x8.2.i, x8.2.h⟩ : Tl1Cur) ([(⟨#[]⟩ : ByteArray), (⟨#[120]⟩ : ByteArray), (⟨#[88]⟩ : ByteArray)] : List ByteArray)).bind fun x9 => ((app x2.1.Args ([(⟨x8.1, x9.1, (⟨0, 0, (⟨#[]⟩ : ByteArray)⟩ : TVal)⟩ : TArg)] : List TArg)).bind fun x10 => m_s_l6Any_j2 N p0 x2 x10 x9.2.i x9.2.h))) else (if decide (x3.1 = 2) then m_s_l6Any_l3 N p0 x2 N x2.1.Args x3.2.i x3.2.h else m_s_l6Any_j1 N p0 x2 x2.1.Args x3.2.i x3.2.h x2.1.Kind))))))
def m_s_l7Any_j1 (N : Nat) (p0 : Tl1Cur) (s1 : Int) (s2 : Int) (s3 : Int) (s4 : Int) (s5 : ByteArray) (s6 : Int) (s7 : Int) (s8 : ByteArray) (s9 : Int) (s10 : ByteArray) (s11 : Int) (s12 : Int) (s13 : ByteArray) : Option (TCond × Tl1Cur) :=
  some ((⟨s3, (⟨s4, s5, (⟨s6, s7, s8⟩ : TVal)⟩ : TArg), (⟨s9, s10, (⟨s11, s12, s13⟩ : TVal)⟩ : TArg)⟩ : TCond), (⟨p0.b, s1, s2⟩ : Tl1Cur))
def m_s_l7Any (N : Nat) (p0 : Tl1Cur) : Option (TCond × Tl1Cur) :=
  ((m_s_l7Draw N p0).bind fun x1 => ((m_s_l1Below N (⟨p0.b, x1.2.i, x1.2.h⟩ : Tl1Cur) 8).bind fun x2 => (if decide (x2.1 = 0) then ((m_s_l1Below N (⟨p0.b, x2.2.i, x2.2.h⟩ : Tl1Cur) 6).bind fun x3 => m_s_l7Any_j1 N p0 x3.2.i x3.2.h x3.1 x1.1.L.K x1.1.L.S x1.1.L.V.K x1.1.L.V.N x1.1.L.V.S x1.1.R.K x1.1.R.S x1.1.R.V.K x1.1.R.V.N x1.1.R.V.S) else (if decide (x2.1 = 1) then ((m_s_l6Arg N (⟨p0.b, x2.2.i, x2.2.h⟩ : Tl1Cur)).bind fun x4 => m_s_l7Any_j1 N p0 x4.2.i x4.2.h x1.1.Op x4.1.K x4.1.S x4.1.V.K x4.1.V.N x4.1.V.S x1.1.R.K x1.1.R.S x1.1.R.V.K x1.1.R.V.N x1.1.R.V.S) else (if decide (x2.1 = 2) then ((m_s_l1Below N (⟨p0.b, x2.2.i, x2.2.h⟩ : Tl1Cur) 5).bind fun x5 => m_s_l7Any_j1 N p0 x5.2.i x5.2.h x1.1.Op x1.1.L.K x1.1.L.S x1.1.L.V.K x1.1.L.V.N x1.1.L.V.S x5.1 (⟨#[]⟩ : ByteArray) 0 0 (⟨#[]⟩ : ByteArray)) else m_s_l7Any_j1 N p0 x2.2.i x2.2.h x1.1.Op x1.1.L.K x1.1.L.S x1.1.L.V.K x1.1.L.V.N x1.1.L.V.S x1.1.R.K x1.1.R.S x1.1.R.V.K x1.1.R.V.N x1.1.R.V.S)))))
def m_s_l8Any_j1 (N : Nat) (p0 : Tl1Cur) (s1 : (List TExpr)) (s2 : Int) (s3 : Int) (s4 : Int) (s5 : ByteArray) (s6 : Int) (s7 : ByteArray) : Option (TAct × Tl1Cur) :=
  some ((⟨s4, s5, s1, s6, s7⟩ : TAct), (⟨p0.b, s2, s3⟩ : Tl1Cur))
def m_s_l8Any (N : Nat) (p0 : Tl1Cur) : Option (TAct × Tl1Cur) :=
  ((m_s_l8Draw N p0 2).bind fun x1 => ((m_s_l1Below N (⟨p0.b, x1.2.i, x1.2.h⟩ : Tl1Cur) 10).bind fun x2 => (if decide (x2.1 = 0) then ((m_s_l1Below N (⟨p0.b, x2.2.i, x2.2.h⟩ : Tl1Cur) 8).bind fun x3 => m_s_l8Any_j1 N p0 x1.1.Args x3.2.i x3.2.h x3.1 x1.1.Name x1.1.N x1.1.Undo) else (if decide (x2.1 = 1) then ((m_s_l1Str N (⟨p0.b, x2.2.i, x2.2.h⟩ : Tl1Cur) ([(⟨#[]⟩ : ByteArray), (⟨#[65]⟩ : ByteArray), (⟨#[120]⟩ : ByteArray)] : List ByteArray)).bind fun x4 => m_s_l8Any_j1 N p0 x1.1.Args x4.2.i x4.2.h x1.1.Kind x4.1 x1.1.N x1.1.Undo) else (if decide (x2.1 = 2) then ((m_s_l1Int N (⟨p0.b, x2.2.i, x2.2.h⟩ : Tl1Cur) ([(-1), 7, 8, 100001] : List Int)).bind fun x5 => m_s_l8Any_j1 N p0 x1.1.Args x5.2.i x5.2.h x1.1.Kind x1.1.Name x5.1 x1.1.Undo) else (if decide (x2.1 = 3) then ((m_s_l1Str N (⟨p0.b, x2.2.i, x2.2.h⟩ : Tl1Cur) ([(⟨#[]⟩ : ByteArray), (⟨#[65]⟩ : ByteArray), (⟨#[120]⟩ : ByteArray)] : List ByteArray)).bind fun x6 => m_s_l8Any_j1 N p0 x1.1.Args x6.2.i x6.2.h x1.1.Kind x1.1.Name x1.1.N x6.1) else (if decide (x2.1 = 4) then ((m_s_l1Str N (⟨p0.b, x2.2.i, x2.2.h⟩ : Tl1Cur) ([(⟨#[]⟩ : ByteArray), (⟨#[42]⟩ : ByteArray)] : List ByteArray)).bind fun x7 => ((m_s_l6Arg N (⟨p0.b, x7.2.i, x7.2.h⟩ : Tl1Cur)).bind fun x8 => ((m_s_l6Arg N (⟨p0.b, x8.2.i, x8.2.h⟩ : Tl1Cur)).bind fun x9 => ((app x1.1.Args ([(⟨x7.1, x8.1, x9.1⟩ : TExpr)] : List TExpr)).bind fun x10 => m_s_l8Any_j1 N p0 x10 x9.2.i x9.2.h x1.1.Kind x1.1.Name x1.1.N x1.1.Undo)))) else m_s_l8Any_j1 N p0 x1.1.Args x2.2.i x2.2.h x1.1.Kind x1.1.Name x1.1.N x1.1.Undo)))))))
def m_s_l9Bend_j1 (N : Nat) (p0 : Tl1Cur) (s1 : (List TPat)) (s2 : Int) (s3 : Int) (s4 : ByteArray) (s5 : Int) (s6 : (List TCond)) (s7 : (List TAct)) : Option (TRule × Tl1Cur) :=
  some ((⟨s4, s5, s1, s6, s7⟩ : TRule), (⟨p0.b, s2, s3⟩ : Tl1Cur))
def m_s_l9Bend (N : Nat) (p0 : Tl1Cur) (p1 : TRule) : Option (TRule × Tl1Cur) :=
  ((app ([] : List TPat) p1.Pats).bind fun x1 => ((m_s_l1Below N p0 10).bind fun x2 => (if decide (x2.1 = 0) then ((m_s_l1Str N (⟨p0.b, x2.2.i, x2.2.h⟩ : Tl1Cur) ([(⟨#[]⟩ : ByteArray), (⟨#[65]⟩ : ByteArray), (⟨#[120]⟩ : ByteArray)] : List ByteArray)).bind fun x3 => m_s_l9Bend_j1 N p0 x1 x3.2.i x3.2.h x3.1 p1.Sal p1.Conds p1.Acts) else (if decide (x2.1 = 1) then ((m_s_l1Int N (⟨p0.b, x2.2.i, x2.2.h⟩ : Tl1Cur) ([(-101), 101, 100] : List Int)).bind fun x4 => m_s_l9Bend_j1 N p0 x1 x4.2.i x4.2.h p1.Name x4.1 p1.Conds p1.Acts) else (if decide (x2.1 = 2) then ((m_s_l6Any N (⟨p0.b, x2.2.i, x2.2.h⟩ : Tl1Cur)).bind fun x5 => ((app x1 ([x5.1] : List TPat)).bind fun x6 => m_s_l9Bend_j1 N p0 x6 x5.2.i x5.2.h p1.Name p1.Sal p1.Conds p1.Acts)) else (if decide (x2.1 = 3) then ((app ([] : List TCond) p1.Conds).bind fun x7 => ((m_s_l7Any N (⟨p0.b, x2.2.i, x2.2.h⟩ : Tl1Cur)).bind fun x8 => ((app x7 ([x8.1] : List TCond)).bind fun x9 => m_s_l9Bend_j1 N p0 x1 x8.2.i x8.2.h p1.Name p1.Sal x9 p1.Acts))) else (if decide (x2.1 = 4) then ((app ([] : List TAct) p1.Acts).bind fun x10 => ((m_s_l8Any N (⟨p0.b, x2.2.i, x2.2.h⟩ : Tl1Cur)).bind fun x11 => ((app x10 ([x11.1] : List TAct)).bind fun x12 => m_s_l9Bend_j1 N p0 x1 x11.2.i x11.2.h p1.Name p1.Sal p1.Conds x12))) else (if decide (x2.1 = 5) then ((idx x1 0).bind fun x13 => m_s_l9Bend_j1 N p0 (x1.set (0 : Int).toNat (⟨x13.Kind, x13.Args, true⟩ : TPat)) x2.2.i x2.2.h p1.Name p1.Sal p1.Conds p1.Acts) else (if decide (x2.1 = 6) then ((ssl p1.Acts 0 0).bind fun x14 => m_s_l9Bend_j1 N p0 x1 x2.2.i x2.2.h p1.Name p1.Sal p1.Conds x14) else m_s_l9Bend_j1 N p0 x1 x2.2.i x2.2.h p1.Name p1.Sal p1.Conds p1.Acts)))))))))
def m_s_l9Any_j1 (N : Nat) (p0 : Tl1Cur) (s1 : (List TPat)) (s2 : Int) (s3 : Int) (s4 : ByteArray) (s5 : Int) (s6 : (List TCond)) (s7 : (List TAct)) : Option (TRule × Tl1Cur) :=
  some ((⟨s4, s5, s1, s6, s7⟩ : TRule), (⟨p0.b, s2, s3⟩ : Tl1Cur))
def m_s_l9Any (N : Nat) (p0 : Tl1Cur) : Option (TRule × Tl1Cur) :=
  ((m_s_l1Str N p0 ([(⟨#[114, 49]⟩ : ByteArray), (⟨#[114, 50]⟩ : ByteArray), (⟨#[115, 104, 105, 112]⟩ : ByteArray)] : List ByteArray)).bind fun x1 => ((m_s_l9Draw N (⟨p0.b, x1.2.i, x1.2.h⟩ : Tl1Cur) x1.1).bind fun x2 => ((m_s_l1Once N (⟨p0.b, x2.2.i, x2.2.h⟩ : Tl1Cur) 3).bind fun x3 => (if x3.1 then ((m_s_l9Bend N (⟨p0.b, x3.2.i, x3.2.h⟩ : Tl1Cur) x2.1).bind fun x4 => m_s_l9Any_j1 N p0 x4.1.Pats x4.2.i x4.2.h x4.1.Name x4.1.Sal x4.1.Conds x4.1.Acts) else m_s_l9Any_j1 N p0 x2.1.Pats x3.2.i x3.2.h x2.1.Name x2.1.Sal x2.1.Conds x2.1.Acts))))
def m_s_DrawRuleOk (N : Nat) (p0 : (List Int)) : Option (TRule) :=
  ((m_s_l1New N p0).bind fun x1 => ((m_s_l9Any N x1).bind fun x2 => some x2.1))
def m_i_PosCount_l1 (N : Nat) (p0 : TRule) : Nat → Int → Int → Option (Int)
  | 0, _, _ => none
  | k + 1, s1, s2 =>
    (if decide (s2 < (p0.Pats.length : Int)) then ((idx p0.Pats s2).bind fun x1 => (if !x1.Not then ((m_i_PosCount_l1 N p0 k) (i64.wrap (s1 + 1)) (i64.wrap (s2 + 1))) else ((m_i_PosCount_l1 N p0 k) s1 (i64.wrap (s2 + 1))))) else some s1)
def m_i_PosCount (N : Nat) (p0 : TRule) : Option (Int) :=
  m_i_PosCount_l1 N p0 N 0 0
def m_i_isSmall (N : Nat) (p0 : Int) : Option (Bool) :=
  ((if decide (97 ≤ p0) then some (decide (p0 ≤ 122)) else some false).bind fun b1 => some b1)
def m_i_isDigit (N : Nat) (p0 : Int) : Option (Bool) :=
  ((if decide (48 ≤ p0) then some (decide (p0 ≤ 57)) else some false).bind fun b1 => some b1)
def m_i_isWordByte (N : Nat) (p0 : Int) : Option (Bool) :=
  ((m_i_isSmall N p0).bind fun x1 => ((if x1 then some true else ((m_i_isDigit N p0).bind fun x2 => some x2)).bind fun b1 => ((if b1 then some true else some (decide (p0 = 95))).bind fun b2 => some b2)))
def m_i_isWord_l1 (N : Nat) (p0 : ByteArray) : Nat → Int → Option (Bool)
  | 0, _ => none
  | k + 1, s1 =>
    (if decide (s1 < (p0.size : Int)) then ((idx p0.data.toList s1).bind fun y1 => ((m_i_isWordByte N (y1.toNat : Int)).bind fun x1 => (if !x1 then some false else ((m_i_isWord_l1 N p0 k) (i64.wrap (s1 + 1)))))) else some true)
def m_i_isWord (N : Nat) (p0 : ByteArray) (p1 : Int) : Option (Bool) :=
  (if decide (p1 < (p0.size : Int)) then some false else m_i_isWord_l1 N p0 N 0)
def m_i_NameOk (N : Nat) (p0 : ByteArray) : Option (Bool) :=
  ((if decide (0 < (p0.size : Int)) then ((idx p0.data.toList 0).bind fun y1 => ((m_i_isSmall N (y1.toNat : Int)).bind fun x1 => some x1)) else some false).bind fun b1 => ((if b1 then ((m_i_isWord N p0 12).bind fun x2 => some x2) else some false).bind fun b2 => some b2))
def m_i_inRange (N : Nat) (p0 : Int) (p1 : Int) (p2 : Int) : Option (Bool) :=
  ((if decide (p1 ≤ p0) then some (decide (p0 ≤ p2)) else some false).bind fun b1 => some b1)
def m_i_isLarge (N : Nat) (p0 : Int) : Option (Bool) :=
  ((if decide (65 ≤ p0) then some (decide (p0 ≤ 90)) else some false).bind fun b1 => some b1)
def m_i_isVar_l1 (N : Nat) (p0 : ByteArray) : Nat → Int → Option (Bool)
  | 0, _ => none
  | k + 1, s1 =>
    (if decide (s1 < (p0.size : Int)) then ((idx p0.data.toList s1).bind fun y2 => ((m_i_isWordByte N (y2.toNat : Int)).bind fun x2 => ((if !x2 then ((idx p0.data.toList s1).bind fun y3 => ((m_i_isLarge N (y3.toNat : Int)).bind fun x3 => some (!x3))) else some false).bind fun b3 => (if b3 then some false else ((m_i_isVar_l1 N p0 k) (i64.wrap (s1 + 1))))))) else some true)
def m_i_isVar (N : Nat) (p0 : ByteArray) : Option (Bool) :=
  ((if decide ((p0.size : Int) < 1) then some true else some (decide (12 < (p0.size : Int)))).bind fun b1 => ((if b1 then some true else ((idx p0.data.toList 0).bind fun y1 => ((m_i_isLarge N (y1.toNat : Int)).bind fun x1 => some (!x1)))).bind fun b2 => (if b2 then some false else m_i_isVar_l1 N p0 N 0)))
def m_i_ValOk (N : Nat) (p0 : TVal) : Option (Bool) :=
  (if decide (p0.K = 1) then ((m_i_inRange N p0.N (-1000000000) 1000000000).bind fun x1 => ((if x1 then some (seq p0.S (⟨#[]⟩ : ByteArray)) else some false).bind fun b1 => some b1)) else (if decide (p0.K = 2) then ((if decide (p0.N = 0) then ((m_i_isWord N p0.S 20).bind fun x2 => some x2) else some false).bind fun b2 => some b2) else some false))
def m_i_ArgOk (N : Nat) (p0 : TArg) : Option (Bool) :=
  (if decide (p0.K = 1) then ((m_i_isVar N p0.S).bind fun x1 => ((if x1 then some (eqT_TVal p0.V (⟨0, 0, (⟨#[]⟩ : ByteArray)⟩ : TVal)) else some false).bind fun b1 => some b1)) else (if decide (p0.K = 2) then ((if seq p0.S (⟨#[]⟩ : ByteArray) then ((m_i_ValOk N p0.V).bind fun x2 => some x2) else some false).bind fun b2 => some b2) else (if decide (p0.K = 3) then ((if seq p0.S (⟨#[]⟩ : ByteArray) then some (eqT_TVal p0.V (⟨0, 0, (⟨#[]⟩ : ByteArray)⟩ : TVal)) else some false).bind fun b3 => some b3) else some false)))
def m_i_PatOk_l1 (N : Nat) (p0 : TPat) : Nat → Int → Option (Bool)
  | 0, _ => none
  | k + 1, s1 =>
    (if decide (s1 < (p0.Args.length : Int)) then ((idx p0.Args s1).bind fun x2 => ((m_i_ArgOk N x2).bind fun x3 => (if !x3 then some false else ((m_i_PatOk_l1 N p0 k) (i64.wrap (s1 + 1)))))) else some true)
def m_i_PatOk (N : Nat) (p0 : TPat) : Option (Bool) :=
  ((m_i_NameOk N p0.Kind).bind fun x1 => ((if !x1 then some true else some (decide (5 < (p0.Args.length : Int)))).bind fun b1 => (if b1 then some false else m_i_PatOk_l1 N p0 N 0)))
def m_i_patsOk_l1 (N : Nat) (p0 : TRule) : Nat → Int → Option (Bool)
  | 0, _ => none
  | k + 1, s1 =>
    (if decide (s1 < (p0.Pats.length : Int)) then ((idx p0.Pats s1).bind fun x4 => ((m_i_PatOk N x4).bind fun x5 => ((if !x5 then some true else ((m_i_PosCount N p0).bind fun x6 => some (x4.Not != (decide (x6 ≤ s1))))).bind fun b2 => (if b2 then some false else ((m_i_patsOk_l1 N p0 k) (i64.wrap (s1 + 1))))))) else some true)
def m_i_patsOk (N : Nat) (p0 : TRule) : Option (Bool) :=
  ((m_i_inRange N (p0.Pats.length : Int) 1 6).bind fun x1 => ((if !x1 then some true else ((m_i_PosCount N p0).bind fun x2 => ((m_i_inRange N x2 1 3).bind fun x3 => some (!x3)))).bind fun b1 => (if b1 then some false else m_i_patsOk_l1 N p0 N 0)))
def m_i_isTerm (N : Nat) (p0 : TArg) : Option (Bool) :=
  ((if !decide (p0.K = 3) then ((m_i_ArgOk N p0).bind fun x1 => some x1) else some false).bind fun b1 => some b1)
def m_i_CondOk (N : Nat) (p0 : TCond) : Option (Bool) :=
  ((m_i_inRange N p0.Op 1 3).bind fun x1 => ((if x1 then ((m_i_isTerm N p0.L).bind fun x2 => some x2) else some false).bind fun b1 => ((if b1 then ((m_i_isTerm N p0.R).bind fun x3 => some x3) else some false).bind fun b2 => some b2)))
def m_i_ExprOk_j1 (N : Nat) (p0 : TExpr) (s1 : Bool) : Option (Bool) :=
  (if s1 then ((m_i_isTerm N p0.L).bind fun x2 => ((if x2 then ((m_i_isTerm N p0.R).bind fun x3 => some x3) else some false).bind fun b2 => some b2)) else some false)
def m_i_ExprOk (N : Nat) (p0 : TExpr) : Option (Bool) :=
  (if seq p0.Op (⟨#[]⟩ : ByteArray) then ((m_i_isTerm N p0.L).bind fun x1 => ((if x1 then some (eqT_TArg p0.R (⟨0, (⟨#[]⟩ : ByteArray), (⟨0, 0, (⟨#[]⟩ : ByteArray)⟩ : TVal)⟩ : TArg)) else some false).bind fun b1 => some b1)) else (if seq p0.Op (⟨#[43]⟩ : ByteArray) then m_i_ExprOk_j1 N p0 (seq p0.Op (⟨#[43]⟩ : ByteArray)) else m_i_ExprOk_j1 N p0 (seq p0.Op (⟨#[45]⟩ : ByteArray))))
def m_i_argsOk_l1 (N : Nat) (p0 : TAct) : Nat → Int → Option (Bool)
  | 0, _ => none
  | k + 1, s1 =>
    (if decide (s1 < (p0.Args.length : Int)) then ((idx p0.Args s1).bind fun x2 => ((m_i_ExprOk N x2).bind fun x3 => (if !x3 then some false else ((m_i_argsOk_l1 N p0 k) (i64.wrap (s1 + 1)))))) else some true)
def m_i_argsOk (N : Nat) (p0 : TAct) : Option (Bool) :=
  ((m_i_NameOk N p0.Name).bind fun x1 => ((if !x1 then some true else some (decide (5 < (p0.Args.length : Int)))).bind fun b1 => (if b1 then some false else m_i_argsOk_l1 N p0 N 0)))
def m_i_isUndo (N : Nat) (p0 : ByteArray) : Option (Bool) :=
  ((if seq p0 (⟨#[]⟩ : ByteArray) then some true else ((m_i_NameOk N p0).bind fun x1 => some x1)).bind fun b1 => some b1)
def m_i_ActOk_j1 (N : Nat) (p0 : TAct) (b1 : Bool) (s1 : Bool) : Option (Bool) :=
  (if s1 then ((if b1 then some (decide (p0.N = 0)) else some false).bind fun b10 => ((if b10 then some (seq p0.Undo (⟨#[]⟩ : ByteArray)) else some false).bind fun b11 => some b11)) else some false)
def m_i_ActOk (N : Nat) (p0 : TAct) : Option (Bool) :=
  ((if seq p0.Name (⟨#[]⟩ : ByteArray) then some (decide ((p0.Args.length : Int) = 0)) else some false).bind fun b1 => (if decide (p0.Kind = 1) then ((m_i_argsOk N p0).bind fun x1 => ((if x1 then some (decide (p0.N = 0)) else some false).bind fun b2 => ((if b2 then some (seq p0.Undo (⟨#[]⟩ : ByteArray)) else some false).bind fun b3 => some b3))) else (if decide (p0.Kind = 2) then ((if b1 then ((m_i_inRange N p0.N 0 7).bind fun x2 => some x2) else some false).bind fun b4 => ((if b4 then some (seq p0.Undo (⟨#[]⟩ : ByteArray)) else some false).bind fun b5 => some b5)) else (if decide (p0.Kind = 3) then ((m_i_argsOk N p0).bind fun x3 => ((if x3 then some (decide (p0.N = 0)) else some false).bind fun b6 => ((if b6 then ((m_i_isUndo N p0.Undo).bind fun x4 => some x4) else some false).bind fun b7 => some b7))) else (if decide (p0.Kind = 4) then ((m_i_argsOk N p0).bind fun x5 => ((if x5 then ((m_i_inRange N p0.N 0 100000).bind fun x6 => some x6) else some false).bind fun b8 => ((if b8 then some (seq p0.Undo (⟨#[]⟩ : ByteArray)) else some false).bind fun b9 => some b9))) else (if decide (p0.Kind = 5) then m_i_ActOk_j1 N p0 b1 (decide (p0.Kind = 5)) else m_i_ActOk_j1 N p0 b1 (decide (p0.Kind = 6))))))))
def m_sl_Index_Sstring_string_l1 (N : Nat) (p0 : (List ByteArray)) (p1 : ByteArray) : Nat → Int → Option (Int)
  | 0, _ => none
  | k + 1, s1 =>
    (if decide (s1 < (p0.length : Int)) then ((idx p0 s1).bind fun x1 => (if seq p1 x1 then some s1 else ((m_sl_Index_Sstring_string_l1 N p0 p1 k) (i64.wrap (s1 + 1))))) else some (-1))
def m_sl_Index_Sstring_string (N : Nat) (p0 : (List ByteArray)) (p1 : ByteArray) : Option (Int) :=
  m_sl_Index_Sstring_string_l1 N p0 p1 N 0
def m_sl_Contains_Sstring_string (N : Nat) (p0 : (List ByteArray)) (p1 : ByteArray) : Option (Bool) :=
  ((m_sl_Index_Sstring_string N p0 p1).bind fun x1 => some (decide (0 ≤ x1)))
def m_i_addOnce (N : Nat) (p0 : (List ByteArray)) (p1 : ByteArray) : Option ((List ByteArray)) :=
  ((m_sl_Contains_Sstring_string N p0 p1).bind fun x1 => (if x1 then some p0 else ((app p0 ([p1] : List ByteArray)).bind fun x2 => some x2)))
def m_i_addVars_l1 (N : Nat) (p1 : (List TArg)) : Nat → (List ByteArray) → Int → Option ((List ByteArray))
  | 0, _, _ => none
  | k + 1, s1, s2 =>
    (if decide (s2 < (p1.length : Int)) then ((idx p1 s2).bind fun x1 => (if decide (x1.K = 1) then ((m_i_addOnce N s1 x1.S).bind fun x2 => ((m_i_addVars_l1 N p1 k) x2 (i64.wrap (s2 + 1)))) else ((m_i_addVars_l1 N p1 k) s1 (i64.wrap (s2 + 1))))) else some s1)
def m_i_addVars (N : Nat) (p0 : (List ByteArray)) (p1 : (List TArg)) : Option ((List ByteArray)) :=
  m_i_addVars_l1 N p1 N p0 0
def m_i_PosVars_l1 (N : Nat) (p0 : TRule) : Nat → (List ByteArray) → Int → Option ((List ByteArray))
  | 0, _, _ => none
  | k + 1, s1, s2 =>
    (if decide (s2 < (p0.Pats.length : Int)) then ((idx p0.Pats s2).bind fun x1 => (if !x1.Not then ((m_i_addVars N s1 x1.Args).bind fun x2 => ((m_i_PosVars_l1 N p0 k) x2 (i64.wrap (s2 + 1)))) else ((m_i_PosVars_l1 N p0 k) s1 (i64.wrap (s2 + 1))))) else some s1)
def m_i_PosVars (N : Nat) (p0 : TRule) : Option ((List ByteArray)) :=
  m_i_PosVars_l1 N p0 N ([] : List ByteArray) 0
def m_i_usedVars_l3 (N : Nat) (s4 : Int) (K2 : (List ByteArray) → Int → Option ((List ByteArray))) (x3 : TAct) : Nat → (List ByteArray) → Int → Option ((List ByteArray))
  | 0, _, _ => none
  | k + 1, s5, s6 =>
    (if decide (s6 < (x3.Args.length : Int)) then ((idx x3.Args s6).bind fun x4 => ((m_i_addVars N s5 ([x4.L, x4.R] : List TArg)).bind fun x5 => ((m_i_usedVars_l3 N s4 K2 x3 k) x5 (i64.wrap (s6 + 1))))) else (K2 s5 (i64.wrap (s4 + 1))))
def m_i_usedVars_l2 (N : Nat) (p0 : TRule) : Nat → (List ByteArray) → Int → Option ((List ByteArray))
  | 0, _, _ => none
  | k + 1, s3, s4 =>
    (if decide (s4 < (p0.Acts.length : Int)) then ((idx p0.Acts s4).bind fun x3 => m_i_usedVars_l3 N s4 (m_i_usedVars_l2 N p0 k) x3 N s3 0) else some s3)
def m_i_usedVars_l1 (N : Nat) (p0 : TRule) : Nat → (List ByteArray) → Int → Option ((List ByteArray))
  | 0, _, _ => none
  | k + 1, s1, s2 =>
    (if decide (s2 < (p0.Conds.length : Int)) then ((idx p0.Conds s2).bind fun x1 => ((m_i_addVars N s1 ([x1.L, x1.R] : List TArg)).bind fun x2 => ((m_i_usedVars_l1 N p0 k) x2 (i64.wrap (s2 + 1))))) else m_i_usedVars_l2 N p0 N s1 0)
def m_i_usedVars (N : Nat) (p0 : TRule) : Option ((List ByteArray)) :=
  m_i_usedVars_l1 N p0 N ([] : List ByteArray) 0
def m_i_RuleOk_l3 (N : Nat) (x10 : (List ByteArray)) (x11 : (List ByteArray)) : Nat → Int → Option (Bool)
  | 0, _ => none
  | k + 1, s3 =>
    (if decide (s3 < (x11.length : Int)) then ((idx x11 s3).bind fun x12 => ((m_sl_Contains_Sstring_string N x10 x12).bind fun x13 => (if !x13 then some false else ((m_i_RuleOk_l3 N x10 x11 k) (i64.wrap (s3 + 1)))))) else some true)
def m_i_RuleOk_l2 (N : Nat) (p0 : TRule) : Nat → Int → Option (Bool)
  | 0, _ => none
  | k + 1, s2 =>
    (if decide (s2 < (p0.Acts.length : Int)) then ((idx p0.Acts s2).bind fun x7 => ((m_i_ActOk N x7).bind fun x8 => ((if !x8 then some true else ((if decide (x7.Kind = 2) then ((m_i_PosCount N p0).bind fun x9 => some (decide (x9 ≤ x7.N))) else some false).bind fun b5 => some b5)).bind fun b4 => (if b4 then some false else ((m_i_RuleOk_l2 N p0 k) (i64.wrap (s2 + 1))))))) else ((m_i_PosVars N p0).bind fun x10 => ((m_i_usedVars N p0).bind fun x11 => m_i_RuleOk_l3 N x10 x11 N 0)))
def m_i_RuleOk_l1 (N : Nat) (p0 : TRule) : Nat → Int → Option (Bool)
  | 0, _ => none
  | k + 1, s1 =>
    (if decide (s1 < (p0.Conds.length : Int)) then ((idx p0.Conds s1).bind fun x5 => ((m_i_CondOk N x5).bind fun x6 => (if !x6 then some false else ((m_i_RuleOk_l1 N p0 k) (i64.wrap (s1 + 1)))))) else m_i_RuleOk_l2 N p0 N 0)
def m_i_RuleOk (N : Nat) (p0 : TRule) : Option (Bool) :=
  ((m_i_NameOk N p0.Name).bind fun x1 => ((if !x1 then some true else ((m_i_inRange N p0.Sal (-100) 100).bind fun x2 => some (!x2))).bind fun b1 => ((if b1 then some true else ((m_i_patsOk N p0).bind fun x3 => some (!x3))).bind fun b2 => (if b2 then some false else ((if decide (6 < (p0.Conds.length : Int)) then some true else ((m_i_inRange N (p0.Acts.length : Int) 1 6).bind fun x4 => some (!x4))).bind fun b3 => (if b3 then some false else m_i_RuleOk_l1 N p0 N 0))))))
def m_i_ValText (N : Nat) (p0 : TVal) : Option (ByteArray) :=
  ((m_i_ValOk N p0).bind fun x1 => (if !x1 then some (⟨#[]⟩ : ByteArray) else (if decide (p0.K = 1) then ((m_strconv_Itoa N p0.N).bind fun x2 => some x2) else ((cat (⟨#[39]⟩ : ByteArray) p0.S).bind fun z1 => ((cat z1 (⟨#[39]⟩ : ByteArray)).bind fun z2 => some z2)))))
def m_i_argText (N : Nat) (p0 : TArg) : Option (ByteArray) :=
  (if decide (p0.K = 1) then some p0.S else (if decide (p0.K = 2) then ((m_i_ValText N p0.V).bind fun x1 => some x1) else some (⟨#[95]⟩ : ByteArray)))
def m_i_PatText_l1 (N : Nat) (p0 : TPat) : Nat → (List ByteArray) → Int → Option (ByteArray)
  | 0, _, _ => none
  | k + 1, s1, s2 =>
    (if decide (s2 < (p0.Args.length : Int)) then ((idx p0.Args s2).bind fun x2 => ((m_i_argText N x2).bind fun x3 => ((app s1 ([x3] : List ByteArray)).bind fun x4 => ((m_i_PatText_l1 N p0 k) x4 (i64.wrap (s2 + 1)))))) else ((cat p0.Kind (⟨#[40]⟩ : ByteArray)).bind fun z1 => ((m_strings_Join N s1 (⟨#[44, 32]⟩ : ByteArray)).bind fun x5 => ((cat z1 x5).bind fun z2 => ((cat z2 (⟨#[41]⟩ : ByteArray)).bind fun z3 => (if p0.Not then ((cat (⟨#[33]⟩ : ByteArray) z3).bind fun z4 => some z4) else some z3))))))
def m_i_PatText (N : Nat) (p0 : TPat) : Option (ByteArray) :=
  ((m_i_PatOk N p0).bind fun x1 => (if !x1 then some (⟨#[]⟩ : ByteArray) else m_i_PatText_l1 N p0 N ([] : List ByteArray) 0))
def m_i_CondText_j1 (N : Nat) (p0 : TCond) (s1 : ByteArray) : Option (ByteArray) :=
  ((m_i_argText N p0.L).bind fun x2 => ((cat x2 s1).bind fun z1 => ((m_i_argText N p0.R).bind fun x3 => ((cat z1 x3).bind fun z2 => some z2))))
def m_i_CondText (N : Nat) (p0 : TCond) : Option (ByteArray) :=
  ((m_i_CondOk N p0).bind fun x1 => (if !x1 then some (⟨#[]⟩ : ByteArray) else (if decide (p0.Op = 2) then m_i_CondText_j1 N p0 (⟨#[32, 35, 32]⟩ : ByteArray) else (if decide (p0.Op = 3) then m_i_CondText_j1 N p0 (⟨#[32, 60, 32]⟩ : ByteArray) else m_i_CondText_j1 N p0 (⟨#[32, 61, 32]⟩ : ByteArray)))))
def m_i_ExprText (N : Nat) (p0 : TExpr) : Option (ByteArray) :=
  ((m_i_ExprOk N p0).bind fun x1 => (if !x1 then some (⟨#[]⟩ : ByteArray) else (if seq p0.Op (⟨#[]⟩ : ByteArray) then ((m_i_argText N p0.L).bind fun x2 => some x2) else ((m_i_argText N p0.L).bind fun x3 => ((cat x3 (⟨#[32]⟩ : ByteArray)).bind fun z1 => ((cat z1 p0.Op).bind fun z2 => ((cat z2 (⟨#[32]⟩ : ByteArray)).bind fun z3 => ((m_i_argText N p0.R).bind fun x4 => ((cat z3 x4).bind fun z4 => some z4)))))))))
def m_i_callText_l1 (N : Nat) (p0 : TAct) : Nat → (List ByteArray) → Int → Option (ByteArray)
  | 0, _, _ => none
  | k + 1, s1, s2 =>
    (if decide (s2 < (p0.Args.length : Int)) then ((idx p0.Args s2).bind fun x1 => ((m_i_ExprText N x1).bind fun x2 => ((app s1 ([x2] : List ByteArray)).bind fun x3 => ((m_i_callText_l1 N p0 k) x3 (i64.wrap (s2 + 1)))))) else ((cat p0.Name (⟨#[40]⟩ : ByteArray)).bind fun z1 => ((m_strings_Join N s1 (⟨#[44, 32]⟩ : ByteArray)).bind fun x4 => ((cat z1 x4).bind fun z2 => ((cat z2 (⟨#[41]⟩ : ByteArray)).bind fun z3 => some z3)))))
def m_i_callText (N : Nat) (p0 : TAct) : Option (ByteArray) :=
  m_i_callText_l1 N p0 N ([] : List ByteArray) 0
def m_i_ActText (N : Nat) (p0 : TAct) : Option (ByteArray) :=
  ((m_i_ActOk N p0).bind fun x1 => (if !x1 then some (⟨#[]⟩ : ByteArray) else (if decide (p0.Kind = 1) then ((m_i_callText N p0).bind fun x2 => ((cat (⟨#[97, 115, 115, 101, 114, 116, 32]⟩ : ByteArray) x2).bind fun z1 => some z1)) else (if decide (p0.Kind = 2) then ((m_strconv_Itoa N p0.N).bind fun x3 => ((cat (⟨#[100, 114, 111, 112, 32]⟩ : ByteArray) x3).bind fun z2 => some z2)) else (if decide (p0.Kind = 3) then (if !seq p0.Undo (⟨#[]⟩ : ByteArray) then ((m_i_callText N p0).bind fun x4 => ((cat (⟨#[116, 97, 115, 107, 32]⟩ : ByteArray) x4).bind fun z3 => ((cat z3 (⟨#[32, 117, 110, 100, 111, 32]⟩ : ByteArray)).bind fun z4 => ((cat z4 p0.Undo).bind fun z5 => some z5)))) else ((m_i_callText N p0).bind fun x5 => ((cat (⟨#[116, 97, 115, 107, 32]⟩ : ByteArray) x5).bind fun z6 => some z6))) else (if decide (p0.Kind = 4) then ((m_strconv_Itoa N p0.N).bind fun x6 => ((cat (⟨#[116, 105, 109, 101, 114, 32]⟩ : ByteArray) x6).bind fun z7 => ((cat z7 (⟨#[32]⟩ : ByteArray)).bind fun z8 => ((m_i_callText N p0).bind fun x7 => ((cat z8 x7).bind fun z9 => some z9))))) else (if decide (p0.Kind = 5) then some (⟨#[100, 111, 110, 101]⟩ : ByteArray) else some (⟨#[102, 97, 105, 108]⟩ : ByteArray))))))))
def m_i_ruleText_j4 (N : Nat) (s5 : (List ByteArray)) (s7 : ByteArray) : Option (ByteArray) :=
  ((cat s7 (⟨#[32, 45, 62, 32]⟩ : ByteArray)).bind fun z6 => ((m_strings_Join N s5 (⟨#[44, 32]⟩ : ByteArray)).bind fun x12 => ((cat z6 x12).bind fun z7 => ((cat z7 (⟨#[46, 10]⟩ : ByteArray)).bind fun z8 => some z8))))
def m_i_ruleText_l3 (N : Nat) (p0 : TRule) (s1 : (List ByteArray)) (s3 : (List ByteArray)) : Nat → (List ByteArray) → Int → Option (ByteArray)
  | 0, _, _ => none
  | k + 1, s5, s6 =>
    (if decide (s6 < (p0.Acts.length : Int)) then ((idx p0.Acts s6).bind fun x7 => ((m_i_ActText N x7).bind fun x8 => ((app s5 ([x8] : List ByteArray)).bind fun x9 => ((m_i_ruleText_l3 N p0 s1 s3 k) x9 (i64.wrap (s6 + 1)))))) else ((cat (⟨#[114, 117, 108, 101, 32]⟩ : ByteArray) p0.Name).bind fun z1 => ((cat z1 (⟨#[32]⟩ : ByteArray)).bind fun z2 => ((m_strconv_Itoa N p0.Sal).bind fun x10 => ((cat z2 x10).bind fun z3 => ((cat z3 (⟨#[58, 32]⟩ : ByteArray)).bind fun z4 => ((m_strings_Join N s1 (⟨#[44, 32]⟩ : ByteArray)).bind fun x11 => ((cat z4 x11).bind fun z5 => (if decide (0 < (s3.length : Int)) then ((m_strings_Join N s3 (⟨#[44, 32]⟩ : ByteArray)).bind fun x13 => ((cat (⟨#[32, 43, 32]⟩ : ByteArray) x13).bind fun z9 => ((cat z5 z9).bind fun z10 => m_i_ruleText_j4 N s5 z10))) else m_i_ruleText_j4 N s5 z5)))))))))
def m_i_ruleText_l2 (N : Nat) (p0 : TRule) (s1 : (List ByteArray)) : Nat → (List ByteArray) → Int → Option (ByteArray)
  | 0, _, _ => none
  | k + 1, s3, s4 =>
    (if decide (s4 < (p0.Conds.length : Int)) then ((idx p0.Conds s4).bind fun x4 => ((m_i_CondText N x4).bind fun x5 => ((app s3 ([x5] : List ByteArray)).bind fun x6 => ((m_i_ruleText_l2 N p0 s1 k) x6 (i64.wrap (s4 + 1)))))) else m_i_ruleText_l3 N p0 s1 s3 N ([] : List ByteArray) 0)
def m_i_ruleText_l1 (N : Nat) (p0 : TRule) : Nat → (List ByteArray) → Int → Option (ByteArray)
  | 0, _, _ => none
  | k + 1, s1, s2 =>
    (if decide (s2 < (p0.Pats.length : Int)) then ((idx p0.Pats s2).bind fun x1 => ((m_i_PatText N x1).bind fun x2 => ((app s1 ([x2] : List ByteArray)).bind fun x3 => ((m_i_ruleText_l1 N p0 k) x3 (i64.wrap (s2 + 1)))))) else m_i_ruleText_l2 N p0 s1 N ([] : List ByteArray) 0)
def m_i_ruleText (N : Nat) (p0 : TRule) : Option (ByteArray) :=
  m_i_ruleText_l1 N p0 N ([] : List ByteArray) 0
def m_i_RuleText (N : Nat) (p0 : TRule) : Option (ByteArray) :=
  ((m_i_RuleOk N p0).bind fun x1 => (if !x1 then some (⟨#[]⟩ : ByteArray) else ((m_i_ruleText N p0).bind fun x2 => some x2)))
def m_s_l1In (N : Nat) (p0 : Int) (p1 : Int) (p2 : Int) : Option (Bool) :=
  ((if decide (p1 ≤ p0) then some (decide (p0 ≤ p2)) else some false).bind fun b1 => some b1)
def m_s_l1Letter (N : Nat) (p0 : Int) : Option (Bool) :=
  ((m_s_l1In N (i64.wrap p0) 97 122).bind fun x1 => ((if x1 then some true else ((m_s_l1In N (i64.wrap p0) 48 57).bind fun x2 => some x2)).bind fun b1 => ((if b1 then some true else some (decide (p0 = 95))).bind fun b2 => some b2)))
def m_s_NameOk_l1 (N : Nat) (p0 : ByteArray) : Nat → Int → Option (Bool)
  | 0, _ => none
  | k + 1, s1 =>
    (if decide (s1 < (p0.size : Int)) then ((idx p0.data.toList s1).bind fun y1 => ((m_s_l1Letter N (y1.toNat : Int)).bind fun x1 => ((if !x1 then some true else ((if decide (s1 = 0) then ((idx p0.data.toList s1).bind fun y2 => ((m_s_l1In N (i64.wrap (y2.toNat : Int)) 97 122).bind fun x2 => some (!x2))) else some false).bind fun b2 => some b2)).bind fun b1 => (if b1 then some false else ((m_s_NameOk_l1 N p0 k) (i64.wrap (s1 + 1))))))) else ((m_s_l1In N (p0.size : Int) 1 12).bind fun x3 => some x3))
def m_s_NameOk (N : Nat) (p0 : ByteArray) : Option (Bool) :=
  m_s_NameOk_l1 N p0 N 0
def m_s_l5Large (N : Nat) (p0 : Int) : Option (Bool) :=
  ((m_s_l1In N (i64.wrap p0) 65 90).bind fun x1 => some x1)
def m_s_l5VarOk_l1 (N : Nat) (p0 : ByteArray) : Nat → Int → Option (Bool)
  | 0, _ => none
  | k + 1, s1 =>
    (if decide (s1 < (p0.size : Int)) then ((idx p0.data.toList s1).bind fun y1 => ((m_s_l5Large N (y1.toNat : Int)).bind fun x1 => ((if !x1 then ((if decide (s1 = 0) then some true else ((idx p0.data.toList s1).bind fun y2 => ((m_s_l1Letter N (y2.toNat : Int)).bind fun x2 => some (!x2)))).bind fun b2 => some b2) else some false).bind fun b1 => (if b1 then some false else ((m_s_l5VarOk_l1 N p0 k) (i64.wrap (s1 + 1))))))) else ((m_s_l1In N (p0.size : Int) 1 12).bind fun x3 => some x3))
def m_s_l5VarOk (N : Nat) (p0 : ByteArray) : Option (Bool) :=
  m_s_l5VarOk_l1 N p0 N 0
def m_s_l2Plain_l1 (N : Nat) (p0 : ByteArray) : Nat → Int → Option (Bool)
  | 0, _ => none
  | k + 1, s1 =>
    (if decide (s1 < (p0.size : Int)) then ((idx p0.data.toList s1).bind fun y1 => ((m_s_l1Letter N (y1.toNat : Int)).bind fun x1 => (if !x1 then some false else ((m_s_l2Plain_l1 N p0 k) (i64.wrap (s1 + 1)))))) else some (decide ((p0.size : Int) ≤ 20)))
def m_s_l2Plain (N : Nat) (p0 : ByteArray) : Option (Bool) :=
  m_s_l2Plain_l1 N p0 N 0
def m_s_ValOk (N : Nat) (p0 : TVal) : Option (Bool) :=
  (if decide (p0.K = 1) then ((m_s_l1In N p0.N (-1000000000) 1000000000).bind fun x1 => ((if x1 then some (seq p0.S (⟨#[]⟩ : ByteArray)) else some false).bind fun b1 => some b1)) else (if decide (p0.K = 2) then ((m_s_l2Plain N p0.S).bind fun x2 => ((if x2 then some (decide (p0.N = 0)) else some false).bind fun b2 => some b2)) else some false))
def m_s_ArgOk (N : Nat) (p0 : TArg) : Option (Bool) :=
  (if decide (p0.K = 1) then ((m_s_l5VarOk N p0.S).bind fun x1 => ((if x1 then some (eqT_TVal p0.V (⟨0, 0, (⟨#[]⟩ : ByteArray)⟩ : TVal)) else some false).bind fun b1 => some b1)) else (if decide (p0.K = 2) then ((m_s_ValOk N p0.V).bind fun x2 => ((if x2 then some (seq p0.S (⟨#[]⟩ : ByteArray)) else some false).bind fun b2 => some b2)) else (if decide (p0.K = 3) then ((if seq p0.S (⟨#[]⟩ : ByteArray) then some (eqT_TVal p0.V (⟨0, 0, (⟨#[]⟩ : ByteArray)⟩ : TVal)) else some false).bind fun b3 => some b3) else some false)))
def m_s_PatOk_l1 (N : Nat) (p0 : TPat) : Nat → Int → Option (Bool)
  | 0, _ => none
  | k + 1, s1 =>
    (if decide (s1 < (p0.Args.length : Int)) then ((idx p0.Args s1).bind fun x1 => ((m_s_ArgOk N x1).bind fun x2 => (if !x2 then some false else ((m_s_PatOk_l1 N p0 k) (i64.wrap (s1 + 1)))))) else ((m_s_NameOk N p0.Kind).bind fun x3 => ((if x3 then some (decide ((p0.Args.length : Int) ≤ 5)) else some false).bind fun b1 => some b1)))
def m_s_PatOk (N : Nat) (p0 : TPat) : Option (Bool) :=
  m_s_PatOk_l1 N p0 N 0
def m_s_l9Pats_l1 (N : Nat) (p0 : (List TPat)) : Nat → Int → Option (Bool)
  | 0, _ => none
  | k + 1, s1 =>
    (if decide (s1 < (p0.length : Int)) then ((if decide (2 < s1) then ((idx p0 s1).bind fun x1 => some (!x1.Not)) else some false).bind fun b1 => (if b1 then some false else ((idx p0 s1).bind fun x2 => ((m_s_PatOk N x2).bind fun x3 => ((if !x3 then some true else ((if decide (s1 = 0) then ((idx p0 s1).bind fun x4 => some x4.Not) else some false).bind fun b3 => some b3)).bind fun b2 => ((if b2 then some true else ((if decide (0 < s1) then ((idx p0 (i64.wrap (s1 - 1))).bind fun x5 => some x5.Not) else some false).bind fun b5 => ((if b5 then ((idx p0 s1).bind fun x6 => some (!x6.Not)) else some false).bind fun b6 => some b6))).bind fun b4 => (if b4 then some false else ((m_s_l9Pats_l1 N p0 k) (i64.wrap (s1 + 1)))))))))) else ((m_s_l1In N (p0.length : Int) 1 6).bind fun x7 => some x7))
def m_s_l9Pats (N : Nat) (p0 : (List TPat)) : Option (Bool) :=
  m_s_l9Pats_l1 N p0 N 0
def m_s_CondOk (N : Nat) (p0 : TCond) : Option (Bool) :=
  ((m_s_l1In N p0.Op 1 3).bind fun x1 => ((if x1 then ((m_s_ArgOk N p0.L).bind fun x2 => some x2) else some false).bind fun b1 => ((if b1 then ((m_s_ArgOk N p0.R).bind fun x3 => some x3) else some false).bind fun b2 => ((if b2 then some (!decide (p0.L.K = 3)) else some false).bind fun b3 => ((if b3 then some (!decide (p0.R.K = 3)) else some false).bind fun b4 => some b4)))))
def m_s_l9Conds_l1 (N : Nat) (p0 : (List TCond)) (p1 : (List ByteArray)) : Nat → Int → Option (Bool)
  | 0, _ => none
  | k + 1, s1 =>
    (if decide (s1 < (p0.length : Int)) then ((idx p0 s1).bind fun x1 => ((m_s_CondOk N x1).bind fun x2 => ((if !x2 then some true else ((idx p0 s1).bind fun x3 => ((m_s_l9Known N x3.L p1).bind fun x4 => some (!x4)))).bind fun b1 => ((if b1 then some true else ((idx p0 s1).bind fun x5 => ((m_s_l9Known N x5.R p1).bind fun x6 => some (!x6)))).bind fun b2 => (if b2 then some false else ((m_s_l9Conds_l1 N p0 p1 k) (i64.wrap (s1 + 1)))))))) else some (decide ((p0.length : Int) ≤ 6)))
def m_s_l9Conds (N : Nat) (p0 : (List TCond)) (p1 : (List ByteArray)) : Option (Bool) :=
  m_s_l9Conds_l1 N p0 p1 N 0
def m_s_l8Given (N : Nat) (p0 : TArg) : Option (Bool) :=
  ((m_s_ArgOk N p0).bind fun x1 => ((if x1 then some (!decide (p0.K = 3)) else some false).bind fun b1 => some b1))
def m_s_ExprOk_j1 (N : Nat) (p0 : TExpr) (s1 : Bool) : Option (Bool) :=
  (if s1 then ((m_s_l8Given N p0.L).bind fun x2 => ((if x2 then ((m_s_l8Given N p0.R).bind fun x3 => some x3) else some false).bind fun b2 => some b2)) else some false)
def m_s_ExprOk (N : Nat) (p0 : TExpr) : Option (Bool) :=
  (if seq p0.Op (⟨#[]⟩ : ByteArray) then ((m_s_l8Given N p0.L).bind fun x1 => ((if x1 then some (eqT_TArg p0.R (⟨0, (⟨#[]⟩ : ByteArray), (⟨0, 0, (⟨#[]⟩ : ByteArray)⟩ : TVal)⟩ : TArg)) else some false).bind fun b1 => some b1)) else (if seq p0.Op (⟨#[43]⟩ : ByteArray) then m_s_ExprOk_j1 N p0 (seq p0.Op (⟨#[43]⟩ : ByteArray)) else m_s_ExprOk_j1 N p0 (seq p0.Op (⟨#[45]⟩ : ByteArray))))
def m_s_l8Args_l1 (N : Nat) (p0 : (List TExpr)) : Nat → Int → Option (Bool)
  | 0, _ => none
  | k + 1, s1 =>
    (if decide (s1 < (p0.length : Int)) then ((idx p0 s1).bind fun x1 => ((m_s_ExprOk N x1).bind fun x2 => (if !x2 then some false else ((m_s_l8Args_l1 N p0 k) (i64.wrap (s1 + 1)))))) else some (decide ((p0.length : Int) ≤ 5)))
def m_s_l8Args (N : Nat) (p0 : (List TExpr)) : Option (Bool) :=
  m_s_l8Args_l1 N p0 N 0
def m_s_ActOk_j1 (N : Nat) (p0 : TAct) (b2 : Bool) (s1 : Bool) : Option (Bool) :=
  (if s1 then ((if b2 then some (decide (p0.N = 0)) else some false).bind fun b14 => some b14) else some false)
def m_s_ActOk (N : Nat) (p0 : TAct) : Option (Bool) :=
  ((if seq p0.Name (⟨#[]⟩ : ByteArray) then some (decide ((p0.Args.length : Int) = 0)) else some false).bind fun b1 => ((if b1 then some (seq p0.Undo (⟨#[]⟩ : ByteArray)) else some false).bind fun b2 => (if decide (p0.Kind = 1) then ((m_s_NameOk N p0.Name).bind fun x1 => ((if x1 then ((m_s_l8Args N p0.Args).bind fun x2 => some x2) else some false).bind fun b3 => ((if b3 then some (decide (p0.N = 0)) else some false).bind fun b4 => ((if b4 then some (seq p0.Undo (⟨#[]⟩ : ByteArray)) else some false).bind fun b5 => some b5)))) else (if decide (p0.Kind = 3) then ((m_s_NameOk N p0.Name).bind fun x3 => ((if x3 then ((m_s_l8Args N p0.Args).bind fun x4 => some x4) else some false).bind fun b6 => ((if b6 then some (decide (p0.N = 0)) else some false).bind fun b7 => ((if b7 then ((if seq p0.Undo (⟨#[]⟩ : ByteArray) then some true else ((m_s_NameOk N p0.Undo).bind fun x5 => some x5)).bind fun b9 => some b9) else some false).bind fun b8 => some b8)))) else (if decide (p0.Kind = 4) then ((m_s_NameOk N p0.Name).bind fun x6 => ((if x6 then ((m_s_l8Args N p0.Args).bind fun x7 => some x7) else some false).bind fun b10 => ((if b10 then ((m_s_l1In N p0.N 0 100000).bind fun x8 => some x8) else some false).bind fun b11 => ((if b11 then some (seq p0.Undo (⟨#[]⟩ : ByteArray)) else some false).bind fun b12 => some b12)))) else (if decide (p0.Kind = 2) then ((if b2 then ((m_s_l1In N p0.N 0 7).bind fun x9 => some x9) else some false).bind fun b13 => some b13) else (if decide (p0.Kind = 5) then m_s_ActOk_j1 N p0 b2 (decide (p0.Kind = 5)) else m_s_ActOk_j1 N p0 b2 (decide (p0.Kind = 6)))))))))
def m_s_l9Acts_l2 (N : Nat) (p0 : (List TAct)) (p1 : (List ByteArray)) (s1 : Int) (K1 : Int → Option (Bool)) : Nat → Int → Option (Bool)
  | 0, _ => none
  | k + 1, s2 =>
    ((idx p0 s1).bind fun x5 => (if decide (s2 < (x5.Args.length : Int)) then ((idx p0 s1).bind fun x6 => ((idx x6.Args s2).bind fun x7 => ((m_s_l9Known N x7.L p1).bind fun x8 => ((if !x8 then some true else ((idx p0 s1).bind fun x9 => ((idx x9.Args s2).bind fun x10 => ((m_s_l9Known N x10.R p1).bind fun x11 => some (!x11))))).bind fun b3 => (if b3 then some false else ((m_s_l9Acts_l2 N p0 p1 s1 K1 k) (i64.wrap (s2 + 1)))))))) else (K1 (i64.wrap (s1 + 1)))))
def m_s_l9Acts_l1 (N : Nat) (p0 : (List TAct)) (p1 : (List ByteArray)) (p2 : Int) : Nat → Int → Option (Bool)
  | 0, _ => none
  | k + 1, s1 =>
    (if decide (s1 < (p0.length : Int)) then ((idx p0 s1).bind fun x1 => ((m_s_ActOk N x1).bind fun x2 => ((if !x2 then some true else ((idx p0 s1).bind fun x3 => ((if decide (x3.Kind = 2) then ((idx p0 s1).bind fun x4 => some (decide (p2 ≤ x4.N))) else some false).bind fun b2 => some b2))).bind fun b1 => (if b1 then some false else m_s_l9Acts_l2 N p0 p1 s1 (m_s_l9Acts_l1 N p0 p1 p2 k) N 0)))) else ((m_s_l1In N (p0.length : Int) 1 6).bind fun x12 => some x12))
def m_s_l9Acts (N : Nat) (p0 : (List TAct)) (p1 : (List ByteArray)) (p2 : Int) : Option (Bool) :=
  m_s_l9Acts_l1 N p0 p1 p2 N 0
def m_s_RuleOk (N : Nat) (p0 : TRule) : Option (Bool) :=
  ((m_s_PosVars N p0).bind fun x1 => ((m_s_NameOk N p0.Name).bind fun x2 => ((if x2 then ((m_s_l1In N p0.Sal (-100) 100).bind fun x3 => some x3) else some false).bind fun b1 => ((if b1 then ((m_s_l9Pats N p0.Pats).bind fun x4 => some x4) else some false).bind fun b2 => ((if b2 then ((m_s_l9Conds N p0.Conds x1).bind fun x5 => some x5) else some false).bind fun b3 => ((if b3 then ((m_s_PosCount N p0).bind fun x6 => ((m_s_l9Acts N p0.Acts x1 x6).bind fun x7 => some x7)) else some false).bind fun b4 => some b4))))))
def m_sl_IndexFunc_Si_Rule_i_Rule_l1 (N : Nat) (p0 : (List TRule)) (p1 : TRule → Option (Bool)) : Nat → Int → Option (Int)
  | 0, _ => none
  | k + 1, s1 =>
    (if decide (s1 < (p0.length : Int)) then ((idx p0 s1).bind fun x1 => ((p1 x1).bind fun x2 => (if x2 then some s1 else ((m_sl_IndexFunc_Si_Rule_i_Rule_l1 N p0 p1 k) (i64.wrap (s1 + 1)))))) else some (-1))
def m_sl_IndexFunc_Si_Rule_i_Rule (N : Nat) (p0 : (List TRule)) (p1 : TRule → Option (Bool)) : Option (Int) :=
  m_sl_IndexFunc_Si_Rule_i_Rule_l1 N p0 p1 N 0
def m_i_RuleAt_c1 (N : Nat) (p0 : TRule) (c0 : ByteArray) : Option (Bool) :=
  some (seq p0.Name c0)
def m_i_RuleAt (N : Nat) (p0 : TDef) (p1 : ByteArray) : Option (Int) :=
  ((m_sl_IndexFunc_Si_Rule_i_Rule N p0.Rules (fun a0 => m_i_RuleAt_c1 N a0 p1)).bind fun x1 => some x1)
def m_i_DefOk_l1 (N : Nat) (p0 : TDef) : Nat → Int → Option (Bool)
  | 0, _ => none
  | k + 1, s1 =>
    (if decide (s1 < (p0.Rules.length : Int)) then ((idx p0.Rules s1).bind fun x3 => ((m_i_RuleOk N x3).bind fun x4 => ((if !x4 then some true else ((m_i_RuleAt N p0 x3.Name).bind fun x5 => some (!decide (x5 = s1)))).bind fun b2 => (if b2 then some false else ((m_i_DefOk_l1 N p0 k) (i64.wrap (s1 + 1))))))) else some true)
def m_i_DefOk (N : Nat) (p0 : TDef) : Option (Bool) :=
  ((m_i_NameOk N p0.Name).bind fun x1 => ((if !x1 then some true else ((m_i_inRange N (p0.Rules.length : Int) 1 12).bind fun x2 => some (!x2))).bind fun b1 => (if b1 then some false else m_i_DefOk_l1 N p0 N 0)))
def m_i_DefText_l1 (N : Nat) (p0 : TDef) : Nat → ByteArray → Int → Option (ByteArray)
  | 0, _, _ => none
  | k + 1, s1, s2 =>
    (if decide (s2 < (p0.Rules.length : Int)) then ((idx p0.Rules s2).bind fun x3 => ((m_i_ruleText N x3).bind fun x4 => ((wrt s1 x4).bind fun x5 => ((m_i_DefText_l1 N p0 k) x5 (i64.wrap (s2 + 1)))))) else some s1)
def m_i_DefText (N : Nat) (p0 : TDef) : Option (ByteArray) :=
  ((m_i_DefOk N p0).bind fun x1 => (if !x1 then some (⟨#[]⟩ : ByteArray) else ((cat (⟨#[100, 101, 102, 32]⟩ : ByteArray) p0.Name).bind fun z1 => ((cat z1 (⟨#[46, 10]⟩ : ByteArray)).bind fun z2 => ((wrt (⟨#[]⟩ : ByteArray) z2).bind fun x2 => m_i_DefText_l1 N p0 N x2 0)))))
def m_i_runEnd_l1 (N : Nat) (p0 : ByteArray) (p2 : Int → Option (Bool)) : Nat → Int → Option (Int)
  | 0, _ => none
  | k + 1, s1 =>
    ((if decide (s1 < (p0.size : Int)) then ((idx p0.data.toList s1).bind fun y1 => ((p2 (y1.toNat : Int)).bind fun x1 => some x1)) else some false).bind fun b1 => (if b1 then ((m_i_runEnd_l1 N p0 p2 k) (i64.wrap (s1 + 1))) else some s1))
def m_i_runEnd (N : Nat) (p0 : ByteArray) (p1 : Int) (p2 : Int → Option (Bool)) : Option (Int) :=
  m_i_runEnd_l1 N p0 p2 N p1
def m_i_Lex_c1 (N : Nat) (p0 : Int) : Option (Bool) :=
  some (!decide (p0 = 10))
def m_internal_stringslite_HasPrefix (N : Nat) (p0 : ByteArray) (p1 : ByteArray) : Option (Bool) :=
  ((if decide ((p1.size : Int) ≤ (p0.size : Int)) then ((sst p0 0 (p1.size : Int)).bind fun z1 => some (seq z1 p1)) else some false).bind fun b1 => some b1)
def m_internal_stringslite_TrimPrefix (N : Nat) (p0 : ByteArray) (p1 : ByteArray) : Option (ByteArray) :=
  ((m_internal_stringslite_HasPrefix N p0 p1).bind fun x1 => (if x1 then ((sst p0 (p1.size : Int) (p0.size : Int)).bind fun z1 => some z1) else some p0))
def m_strings_TrimPrefix (N : Nat) (p0 : ByteArray) (p1 : ByteArray) : Option (ByteArray) :=
  ((m_internal_stringslite_TrimPrefix N p0 p1).bind fun x1 => some x1)
def m_i_parseNumber (N : Nat) (p0 : ByteArray) (p1 : Int) : Option (Int × Bool) :=
  ((m_strings_TrimPrefix N p0 (⟨#[45]⟩ : ByteArray)).bind fun x1 => ((if decide ((x1.size : Int) < 1) then some true else some (decide (p1 < (x1.size : Int)))).bind fun b1 => (if b1 then some (0, false) else ((m_strconv_Atoi N p0).bind fun x2 => ((if true then ((m_strconv_Itoa N x2).bind fun x3 => some (seq x3 p0)) else some false).bind fun b2 => some (x2, b2))))))
def m_i_isMark_j1 (N : Nat) (s1 : Bool) : Option (Bool) :=
  (if s1 then some true else some false)
def m_i_isMark (N : Nat) (p0 : ByteArray) : Option (Bool) :=
  (if seq p0 (⟨#[40]⟩ : ByteArray) then m_i_isMark_j1 N (seq p0 (⟨#[40]⟩ : ByteArray)) else (if seq p0 (⟨#[41]⟩ : ByteArray) then m_i_isMark_j1 N (seq p0 (⟨#[41]⟩ : ByteArray)) else (if seq p0 (⟨#[44]⟩ : ByteArray) then m_i_isMark_j1 N (seq p0 (⟨#[44]⟩ : ByteArray)) else (if seq p0 (⟨#[46]⟩ : ByteArray) then m_i_isMark_j1 N (seq p0 (⟨#[46]⟩ : ByteArray)) else (if seq p0 (⟨#[58]⟩ : ByteArray) then m_i_isMark_j1 N (seq p0 (⟨#[58]⟩ : ByteArray)) else (if seq p0 (⟨#[45, 62]⟩ : ByteArray) then m_i_isMark_j1 N (seq p0 (⟨#[45, 62]⟩ : ByteArray)) else (if seq p0 (⟨#[45]⟩ : ByteArray) then m_i_isMark_j1 N (seq p0 (⟨#[45]⟩ : ByteArray)) else (if seq p0 (⟨#[43]⟩ : ByteArray) then m_i_isMark_j1 N (seq p0 (⟨#[43]⟩ : ByteArray)) else (if seq p0 (⟨#[61]⟩ : ByteArray) then m_i_isMark_j1 N (seq p0 (⟨#[61]⟩ : ByteArray)) else (if seq p0 (⟨#[35]⟩ : ByteArray) then m_i_isMark_j1 N (seq p0 (⟨#[35]⟩ : ByteArray)) else (if seq p0 (⟨#[60]⟩ : ByteArray) then m_i_isMark_j1 N (seq p0 (⟨#[60]⟩ : ByteArray)) else (if seq p0 (⟨#[33]⟩ : ByteArray) then m_i_isMark_j1 N (seq p0 (⟨#[33]⟩ : ByteArray)) else m_i_isMark_j1 N (seq p0 (⟨#[95]⟩ : ByteArray))))))))))))))
def m_i_TokenOk (N : Nat) (p0 : TToken) : Option (Bool) :=
  (if decide (p0.K = 1) then ((m_i_inRange N p0.N 0 1000000000).bind fun x1 => ((if x1 then some (seq p0.S (⟨#[]⟩ : ByteArray)) else some false).bind fun b1 => some b1)) else (if decide (p0.K = 2) then ((if decide (p0.N = 0) then ((m_i_NameOk N p0.S).bind fun x2 => some x2) else some false).bind fun b2 => some b2) else (if decide (p0.K = 3) then ((if decide (p0.N = 0) then ((m_i_isVar N p0.S).bind fun x3 => some x3) else some false).bind fun b3 => some b3) else (if decide (p0.K = 4) then ((if decide (p0.N = 0) then ((m_i_isWord N p0.S 20).bind fun x4 => some x4) else some false).bind fun b4 => some b4) else (if decide (p0.K = 5) then ((if decide (p0.N = 0) then ((m_i_isMark N p0.S).bind fun x5 => some x5) else some false).bind fun b5 => some b5) else some false)))))
def m_i_tokenAt_c1 (N : Nat) (p0 : Int) : Option (Bool) :=
  ((m_i_isWordByte N p0).bind fun x1 => ((if x1 then some true else ((m_i_isLarge N p0).bind fun x2 => some x2)).bind fun b1 => some b1))
def m_strings_HasPrefix (N : Nat) (p0 : ByteArray) (p1 : ByteArray) : Option (Bool) :=
  ((m_internal_stringslite_HasPrefix N p0 p1).bind fun x1 => some x1)
def m_i_tokenAt_j1 (N : Nat) (p0 : ByteArray) (p1 : Int) (s1 : Int) : Option (TToken × Int × Bool) :=
  ((sst p0 p1 s1).bind fun z7 => ((m_i_TokenOk N (⟨5, 0, z7⟩ : TToken)).bind fun x14 => some ((⟨5, 0, z7⟩ : TToken), s1, x14)))
def m_i_tokenAt (N : Nat) (p0 : ByteArray) (p1 : Int) : Option (TToken × Int × Bool) :=
  ((idx p0.data.toList p1).bind fun y1 => ((m_i_isDigit N (y1.toNat : Int)).bind fun x1 => (if x1 then ((m_i_runEnd N p0 p1 (m_i_isDigit N)).bind fun x2 => ((sst p0 p1 x2).bind fun z1 => ((m_i_parseNumber N z1 10).bind fun x3 => (if x3.2 then ((m_i_TokenOk N (⟨1, x3.1, (⟨#[]⟩ : ByteArray)⟩ : TToken)).bind fun x4 => some ((⟨1, x3.1, (⟨#[]⟩ : ByteArray)⟩ : TToken), x2, x4)) else some ((⟨1, x3.1, (⟨#[]⟩ : ByteArray)⟩ : TToken), x2, false))))) else ((m_i_isSmall N (y1.toNat : Int)).bind fun x5 => (if x5 then ((m_i_runEnd N p0 p1 (m_i_isWordByte N)).bind fun x6 => ((sst p0 p1 x6).bind fun z2 => ((m_i_TokenOk N (⟨2, 0, z2⟩ : TToken)).bind fun x7 => some ((⟨2, 0, z2⟩ : TToken), x6, x7)))) else ((m_i_isLarge N (y1.toNat : Int)).bind fun x8 => (if x8 then ((m_i_runEnd N p0 p1 (m_i_tokenAt_c1 N)).bind fun x9 => ((sst p0 p1 x9).bind fun z3 => ((m_i_TokenOk N (⟨3, 0, z3⟩ : TToken)).bind fun x10 => some ((⟨3, 0, z3⟩ : TToken), x9, x10)))) else (if decide ((y1.toNat : Int) = 39) then ((sst p0 (i64.wrap (p1 + 1)) (p0.size : Int)).bind fun z4 => ((m_strings_IndexByte N z4 39).bind fun x11 => (if decide (x11 < 0) then some ((⟨0, 0, (⟨#[]⟩ : ByteArray)⟩ : TToken), 0, false) else ((sst p0 (i64.wrap (p1 + 1)) (i64.wrap ((i64.wrap (p1 + 1)) + x11))).bind fun z5 => ((m_i_TokenOk N (⟨4, 0, z5⟩ : TToken)).bind fun x12 => some ((⟨4, 0, z5⟩ : TToken), i64.wrap ((i64.wrap (p1 + x11)) + 2), x12)))))) else ((sst p0 p1 (p0.size : Int)).bind fun z6 => ((m_strings_HasPrefix N z6 (⟨#[45, 62]⟩ : ByteArray)).bind fun x13 => (if x13 then m_i_tokenAt_j1 N p0 p1 (i64.wrap (p1 + 2)) else m_i_tokenAt_j1 N p0 p1 (i64.wrap (p1 + 1)))))))))))))
def m_i_Lex_j2 (N : Nat) (p0 : ByteArray) (s1 : (List TToken)) (s2 : Int) (K1 : (List TToken) → Int → Option ((List TToken) × Int)) (y1 : UInt8) (s3 : Bool) : Option ((List TToken) × Int) :=
  (if s3 then (K1 s1 (i64.wrap (s2 + 1))) else (if decide ((y1.toNat : Int) = 37) then ((m_i_runEnd N p0 s2 (m_i_Lex_c1 N)).bind fun x1 => (K1 s1 x1)) else ((m_i_tokenAt N p0 s2).bind fun x2 => ((if !x2.2.2 then some true else some (decide ((s1.length : Int) = 3000))).bind fun b1 => (if b1 then some ([], s2) else ((app s1 ([x2.1] : List TToken)).bind fun x3 => (K1 x3 x2.2.1)))))))
def m_i_Lex_l1 (N : Nat) (p0 : ByteArray) : Nat → (List TToken) → Int → Option ((List TToken) × Int)
  | 0, _, _ => none
  | k + 1, s1, s2 =>
    (if decide (s2 < (p0.size : Int)) then ((idx p0.data.toList s2).bind fun y1 => (if decide ((y1.toNat : Int) = 32) then m_i_Lex_j2 N p0 s1 s2 (m_i_Lex_l1 N p0 k) y1 (decide ((y1.toNat : Int) = 32)) else (if decide ((y1.toNat : Int) = 9) then m_i_Lex_j2 N p0 s1 s2 (m_i_Lex_l1 N p0 k) y1 (decide ((y1.toNat : Int) = 9)) else (if decide ((y1.toNat : Int) = 10) then m_i_Lex_j2 N p0 s1 s2 (m_i_Lex_l1 N p0 k) y1 (decide ((y1.toNat : Int) = 10)) else m_i_Lex_j2 N p0 s1 s2 (m_i_Lex_l1 N p0 k) y1 (decide ((y1.toNat : Int) = 13)))))) else some (s1, (-1)))
def m_i_Lex (N : Nat) (p0 : ByteArray) : Option ((List TToken) × Int) :=
  m_i_Lex_l1 N p0 N ([] : List TToken) 0
def m_i_parser_next (N : Nat) (p0 : Tparser) : Option (TToken) :=
  ((if p0.bad then some true else some (decide ((p0.tokens.length : Int) ≤ p0.at_))).bind fun b1 => (if b1 then some (⟨0, 0, (⟨#[]⟩ : ByteArray)⟩ : TToken) else ((idx p0.tokens p0.at_).bind fun x1 => some x1)))
def m_i_parser_is (N : Nat) (p0 : Tparser) (p1 : Int) (p2 : ByteArray) : Option (Bool) :=
  ((m_i_parser_next N p0).bind fun x1 => some (eqT_TToken x1 (⟨p1, 0, p2⟩ : TToken)))
def m_i_parser_skip (N : Nat) (p0 : Tparser) (p1 : Int) (p2 : ByteArray) : Option (Bool × Tparser) :=
  ((m_i_parser_is N p0 p1 p2).bind fun x1 => (if !x1 then some (false, p0) else some (true, (⟨p0.tokens, i64.wrap (p0.at_ + 1), p0.bad⟩ : Tparser))))
def m_i_parser_take (N : Nat) (p0 : Tparser) (p1 : Int) (p2 : ByteArray) : Option (Tparser) :=
  ((m_i_parser_skip N p0 p1 p2).bind fun x1 => (if !x1.1 then some (⟨p0.tokens, x1.2.at_, true⟩ : Tparser) else some (⟨p0.tokens, x1.2.at_, x1.2.bad⟩ : Tparser)))
def m_i_parser_word (N : Nat) (p0 : Tparser) (p1 : Int) : Option (TToken × Tparser) :=
  ((m_i_parser_next N p0).bind fun x1 => (if !decide (x1.K = p1) then some ((⟨0, 0, (⟨#[]⟩ : ByteArray)⟩ : TToken), (⟨p0.tokens, p0.at_, true⟩ : Tparser)) else some (x1, (⟨p0.tokens, i64.wrap (p0.at_ + 1), p0.bad⟩ : Tparser))))
def m_i_parser_number (N : Nat) (p0 : Tparser) : Option (Int × Tparser) :=
  ((m_i_parser_skip N p0 5 (⟨#[45]⟩ : ByteArray)).bind fun x1 => (if x1.1 then ((m_i_parser_word N (⟨p0.tokens, x1.2.at_, x1.2.bad⟩ : Tparser) 1).bind fun x2 => some (i64.wrap (0 - x2.1.N), (⟨p0.tokens, x2.2.at_, x2.2.bad⟩ : Tparser))) else ((m_i_parser_word N (⟨p0.tokens, x1.2.at_, x1.2.bad⟩ : Tparser) 1).bind fun x3 => some (x3.1.N, (⟨p0.tokens, x3.2.at_, x3.2.bad⟩ : Tparser)))))
def m_i_parser_arg (N : Nat) (p0 : Tparser) : Option (TArg × Tparser) :=
  ((m_i_parser_next N p0).bind fun x1 => (if decide (x1.K = 3) then some ((⟨1, x1.S, (⟨0, 0, (⟨#[]⟩ : ByteArray)⟩ : TVal)⟩ : TArg), (⟨p0.tokens, i64.wrap (p0.at_ + 1), p0.bad⟩ : Tparser)) else (if decide (x1.K = 4) then some ((⟨2, (⟨#[]⟩ : ByteArray), (⟨2, 0, x1.S⟩ : TVal)⟩ : TArg), (⟨p0.tokens, i64.wrap (p0.at_ + 1), p0.bad⟩ : Tparser)) else ((m_i_parser_skip N p0 5 (⟨#[95]⟩ : ByteArray)).bind fun x2 => (if x2.1 then some ((⟨3, (⟨#[]⟩ : ByteArray), (⟨0, 0, (⟨#[]⟩ : ByteArray)⟩ : TVal)⟩ : TArg), (⟨p0.tokens, x2.2.at_, x2.2.bad⟩ : Tparser)) else ((m_i_parser_number N (⟨p0.tokens, x2.2.at_, x2.2.bad⟩ : Tparser)).bind fun x3 => some ((⟨2, (⟨#[]⟩ : ByteArray), (⟨1, x3.1, (⟨#[]⟩ : ByteArray)⟩ : TVal)⟩ : TArg), (⟨p0.tokens, x3.2.at_, x3.2.bad⟩ : Tparser))))))))
def m_i_parser_pat_c1 (N : Nat) (c0 : TPat) (c1 : Tparser) : Option (TPat × Tparser) :=
  ((m_i_parser_arg N c1).bind fun x1 => ((app c0.Args ([x1.1] : List TArg)).bind fun x2 => some ((⟨c0.Kind, x2, c0.Not⟩ : TPat), (⟨c1.tokens, x1.2.at_, x1.2.bad⟩ : Tparser))))
def m_i_parser_listOf_parser_pat_c1_l1 (N : Nat) (p0 : Tparser) : Nat → (List TArg) → Bool → Int → Bool → ByteArray → Bool → Option (Tparser × TPat)
  | 0, _, _, _, _, _, _ => none
  | k + 1, s1, s2, s3, s4, s5, s6 =>
    ((if s2 then some (!s4) else some false).bind fun b3 => (if b3 then ((m_i_parser_pat_c1 N (⟨s5, s1, s6⟩ : TPat) (⟨p0.tokens, s3, s4⟩ : Tparser)).bind fun x3 => ((m_i_parser_skip N (⟨p0.tokens, x3.2.at_, x3.2.bad⟩ : Tparser) 5 (⟨#[44]⟩ : ByteArray)).bind fun x4 => ((m_i_parser_listOf_parser_pat_c1_l1 N p0 k) x3.1.Args x4.1 x4.2.at_ x4.2.bad x3.1.Kind x3.1.Not))) else ((m_i_parser_take N (⟨p0.tokens, s3, s4⟩ : Tparser) 5 (⟨#[41]⟩ : ByteArray)).bind fun x5 => some ((⟨p0.tokens, x5.at_, x5.bad⟩ : Tparser), (⟨s5, s1, s6⟩ : TPat)))))
def m_i_parser_listOf_parser_pat_c1 (N : Nat) (p0 : Tparser) (c0 : TPat) : Option (Tparser × TPat) :=
  ((m_i_parser_take N p0 5 (⟨#[40]⟩ : ByteArray)).bind fun x1 => ((m_i_parser_skip N (⟨p0.tokens, x1.at_, x1.bad⟩ : Tparser) 5 (⟨#[41]⟩ : ByteArray)).bind fun x2 => (if x2.1 then some ((⟨p0.tokens, x2.2.at_, x2.2.bad⟩ : Tparser), c0) else m_i_parser_listOf_parser_pat_c1_l1 N p0 N c0.Args true x2.2.at_ x2.2.bad c0.Kind c0.Not)))
def m_i_parser_pat (N : Nat) (p0 : Tparser) : Option (TPat × Tparser) :=
  ((m_i_parser_skip N p0 5 (⟨#[33]⟩ : ByteArray)).bind fun x1 => ((m_i_parser_word N (⟨p0.tokens, x1.2.at_, x1.2.bad⟩ : Tparser) 2).bind fun x2 => ((m_i_parser_listOf_parser_pat_c1 N (⟨p0.tokens, x2.2.at_, x2.2.bad⟩ : Tparser) (⟨x2.1.S, ([] : List TArg), x1.1⟩ : TPat)).bind fun x3 => some (x3.2, (⟨p0.tokens, x3.1.at_, x3.1.bad⟩ : Tparser)))))
def m_i_parser_cond_j1 (N : Nat) (p0 : Tparser) (x1 : TArg × Tparser) (s1 : Int) (s2 : Bool) (s3 : Int) : Option (TCond × Tparser) :=
  ((m_i_parser_arg N (⟨p0.tokens, s1, s2⟩ : Tparser)).bind fun x3 => some ((⟨s3, x1.1, x3.1⟩ : TCond), (⟨p0.tokens, x3.2.at_, x3.2.bad⟩ : Tparser)))
def m_i_parser_cond (N : Nat) (p0 : Tparser) : Option (TCond × Tparser) :=
  ((m_i_parser_arg N p0).bind fun x1 => ((m_i_parser_skip N (⟨p0.tokens, x1.2.at_, x1.2.bad⟩ : Tparser) 5 (⟨#[61]⟩ : ByteArray)).bind fun x2 => (if x2.1 then m_i_parser_cond_j1 N p0 x1 x2.2.at_ x2.2.bad 1 else ((m_i_parser_skip N (⟨p0.tokens, x2.2.at_, x2.2.bad⟩ : Tparser) 5 (⟨#[35]⟩ : ByteArray)).bind fun x4 => (if x4.1 then m_i_parser_cond_j1 N p0 x1 x4.2.at_ x4.2.bad 2 else ((m_i_parser_skip N (⟨p0.tokens, x4.2.at_, x4.2.bad⟩ : Tparser) 5 (⟨#[60]⟩ : ByteArray)).bind fun x5 => (if x5.1 then m_i_parser_cond_j1 N p0 x1 x5.2.at_ x5.2.bad 3 else m_i_parser_cond_j1 N p0 x1 x5.2.at_ true 0)))))))
def m_i_parser_expr_l1 (N : Nat) (p0 : Tparser) (x1 : TArg × Tparser) : Nat → Int → Int → Bool → Option (TExpr × Tparser)
  | 0, _, _, _ => none
  | k + 1, s1, s2, s3 =>
    (if decide (s1 < (([(⟨#[43]⟩ : ByteArray), (⟨#[45]⟩ : ByteArray)] : List ByteArray).length : Int)) then ((idx ([(⟨#[43]⟩ : ByteArray), (⟨#[45]⟩ : ByteArray)] : List ByteArray) s1).bind fun x2 => ((m_i_parser_skip N (⟨p0.tokens, s2, s3⟩ : Tparser) 5 x2).bind fun x3 => (if x3.1 then ((m_i_parser_arg N (⟨p0.tokens, x3.2.at_, x3.2.bad⟩ : Tparser)).bind fun x4 => some ((⟨x2, x1.1, x4.1⟩ : TExpr), (⟨p0.tokens, x4.2.at_, x4.2.bad⟩ : Tparser))) else ((m_i_parser_expr_l1 N p0 x1 k) (i64.wrap (s1 + 1)) x3.2.at_ x3.2.bad)))) else some ((⟨(⟨#[]⟩ : ByteArray), x1.1, (⟨0, (⟨#[]⟩ : ByteArray), (⟨0, 0, (⟨#[]⟩ : ByteArray)⟩ : TVal)⟩ : TArg)⟩ : TExpr), (⟨p0.tokens, s2, s3⟩ : Tparser)))
def m_i_parser_expr (N : Nat) (p0 : Tparser) : Option (TExpr × Tparser) :=
  ((m_i_parser_arg N p0).bind fun x1 => m_i_parser_expr_l1 N p0 x1 N 0 x1.2.at_ x1.2.bad)
def m_i_parser_call_c1 (N : Nat) (c0 : TAct) (c1 : Tparser) : Option (TAct × Tparser) :=
  ((m_i_parser_expr N c1).bind fun x1 => ((app c0.Args ([x1.1] : List TExpr)).bind fun x2 => some ((⟨c0.Kind, c0.Name, x2, c0.N, c0.Undo⟩ : TAct), (⟨c1.tokens, x1.2.at_, x1.2.bad⟩ : Tparser))))
def m_i_parser_listOf_parser_call_c1_l1 (N : Nat) (p0 : Tparser) : Nat → (List TExpr) → Bool → Int → Bool → Int → ByteArray → Int → ByteArray → Option (Tparser × TAct)
  | 0, _, _, _, _, _, _, _, _ => none
  | k + 1, s1, s2, s3, s4, s5, s6, s7, s8 =>
    ((if s2 then some (!s4) else some false).bind fun b3 => (if b3 then ((m_i_parser_call_c1 N (⟨s5, s6, s1, s7, s8⟩ : TAct) (⟨p0.tokens, s3, s4⟩ : Tparser)).bind fun x3 => ((m_i_parser_skip N (⟨p0.tokens, x3.2.at_, x3.2.bad⟩ : Tparser) 5 (⟨#[44]⟩ : ByteArray)).bind fun x4 => ((m_i_parser_listOf_parser_call_c1_l1 N p0 k) x3.1.Args x4.1 x4.2.at_ x4.2.bad x3.1.Kind x3.1.Name x3.1.N x3.1.Undo))) else ((m_i_parser_take N (⟨p0.tokens, s3, s4⟩ : Tparser) 5 (⟨#[41]⟩ : ByteArray)).bind fun x5 => some ((⟨p0.tokens, x5.at_, x5.bad⟩ : Tparser), (⟨s5, s6, s1, s7, s8⟩ : TAct)))))
def m_i_parser_listOf_parser_call_c1 (N : Nat) (p0 : Tparser) (c0 : TAct) : Option (Tparser × TAct) :=
  ((m_i_parser_take N p0 5 (⟨#[40]⟩ : ByteArray)).bind fun x1 => ((m_i_parser_skip N (⟨p0.tokens, x1.at_, x1.bad⟩ : Tparser) 5 (⟨#[41]⟩ : ByteArray)).bind fun x2 => (if x2.1 then some ((⟨p0.tokens, x2.2.at_, x2.2.bad⟩ : Tparser), c0) else m_i_parser_listOf_parser_call_c1_l1 N p0 N c0.Args true x2.2.at_ x2.2.bad c0.Kind c0.Name c0.N c0.Undo)))
def m_i_parser_call (N : Nat) (p0 : Tparser) (p1 : TAct) : Option (Tparser × TAct) :=
  ((m_i_parser_word N p0 2).bind fun x1 => ((m_i_parser_listOf_parser_call_c1 N (⟨p0.tokens, x1.2.at_, x1.2.bad⟩ : Tparser) (⟨p1.Kind, x1.1.S, p1.Args, p1.N, p1.Undo⟩ : TAct)).bind fun x2 => some ((⟨p0.tokens, x2.1.at_, x2.1.bad⟩ : Tparser), x2.2)))
def m_i_parser_act_j1 (N : Nat) (p0 : Tparser) (s1 : (List TExpr)) (s2 : Int) (s3 : Bool) (s4 : Int) (s5 : ByteArray) (s6 : Int) (s7 : ByteArray) : Option (TAct × Tparser) :=
  some ((⟨s4, s5, s1, s6, s7⟩ : TAct), (⟨p0.tokens, s2, s3⟩ : Tparser))
def m_i_parser_act (N : Nat) (p0 : Tparser) : Option (TAct × Tparser) :=
  ((m_i_parser_word N p0 2).bind fun x1 => (if seq x1.1.S (⟨#[97, 115, 115, 101, 114, 116]⟩ : ByteArray) then ((m_i_parser_call N (⟨p0.tokens, x1.2.at_, x1.2.bad⟩ : Tparser) (⟨1, (⟨#[]⟩ : ByteArray), ([] : List TExpr), 0, (⟨#[]⟩ : ByteArray)⟩ : TAct)).bind fun x2 => m_i_parser_act_j1 N p0 x2.2.Args x2.1.at_ x2.1.bad x2.2.Kind x2.2.Name x2.2.N x2.2.Undo) else (if seq x1.1.S (⟨#[100, 114, 111, 112]⟩ : ByteArray) then ((m_i_parser_word N (⟨p0.tokens, x1.2.at_, x1.2.bad⟩ : Tparser) 1).bind fun x3 => m_i_parser_act_j1 N p0 ([] : List TExpr) x3.2.at_ x3.2.bad 2 (⟨#[]⟩ : ByteArray) x3.1.N (⟨#[]⟩ : ByteArray)) else (if seq x1.1.S (⟨#[116, 97, 115, 107]⟩ : ByteArray) then ((m_i_parser_call N (⟨p0.tokens, x1.2.at_, x1.2.bad⟩ : Tparser) (⟨3, (⟨#[]⟩ : ByteArray), ([] : List TExpr), 0, (⟨#[]⟩ : ByteArray)⟩ : TAct)).bind fun x4 => ((m_i_parser_skip N (⟨p0.tokens, x4.1.at_, x4.1.bad⟩ : Tparser) 2 (⟨#[117, 110, 100, 111]⟩ : ByteArray)).bind fun x5 => (if x5.1 then ((m_i_parser_word N (⟨p0.tokens, x5.2.at_, x5.2.bad⟩ : Tparser) 2).bind fun x6 => m_i_parser_act_j1 N p0 x4.2.Args x6.2.at_ x6.2.bad x4.2.Kind x4.2.Name x4.2.N x6.1.S) else m_i_parser_act_j1 N p0 x4.2.Args x5.2.at_ x5.2.bad x4.2.Kind x4.2.Name x4.2.N x4.2.Undo))) else (if seq x1.1.S (⟨#[116, 105, 109, 101, 114]⟩ : ByteArray) then ((m_i_parser_word N (⟨p0.tokens, x1.2.at_, x1.2.bad⟩ : Tparser) 1).bind fun x7 => ((m_i_parser_call N (⟨p0.tokens, x7.2.at_, x7.2.bad⟩ : Tparser) (⟨4, (⟨#[]⟩ : ByteArray), ([] : List TExpr), x7.1.N, (⟨#[]⟩ : ByteArray)⟩ : TAct)).bind fun x8 => m_i_parser_act_j1 N p0 x8.2.Args x8.1.at_ x8.1.bad x8.2.Kind x8.2.Name x8.2.N x8.2.Undo)) else (if seq x1.1.S (⟨#[100, 111, 110, 101]⟩ : ByteArray) then m_i_parser_act_j1 N p0 ([] : List TExpr) x1.2.at_ x1.2.bad 5 (⟨#[]⟩ : ByteArray) 0 (⟨#[]⟩ : ByteArray) else (if seq x1.1.S (⟨#[102, 97, 105, 108]⟩ : ByteArray) then m_i_parser_act_j1 N p0 ([] : List TExpr) x1.2.at_ x1.2.bad 6 (⟨#[]⟩ : ByteArray) 0 (⟨#[]⟩ : ByteArray) else m_i_parser_act_j1 N p0 ([] : List TExpr) x1.2.at_ true 0 (⟨#[]⟩ : ByteArray) 0 (⟨#[]⟩ : ByteArray))))))))
def m_i_parser_rule_l3 (N : Nat) (p0 : Tparser) (x2 : TToken × Tparser) (x3 : Int × Tparser) (s1 : (List TPat)) (s5 : (List TCond)) : Nat → (List TAct) → Bool → Int → Bool → Option (TRule × Tparser)
  | 0, _, _, _, _ => none
  | k + 1, s8, s9, s10, s11 =>
    ((if s9 then some (!s11) else some false).bind fun b10 => (if b10 then ((m_i_parser_act N (⟨p0.tokens, s10, s11⟩ : Tparser)).bind fun x10 => ((app s8 ([x10.1] : List TAct)).bind fun x11 => ((m_i_parser_skip N (⟨p0.tokens, x10.2.at_, x10.2.bad⟩ : Tparser) 5 (⟨#[44]⟩ : ByteArray)).bind fun x12 => ((m_i_parser_rule_l3 N p0 x2 x3 s1 s5 k) x11 x12.1 x12.2.at_ x12.2.bad)))) else ((m_i_parser_take N (⟨p0.tokens, s10, s11⟩ : Tparser) 5 (⟨#[46]⟩ : ByteArray)).bind fun x13 => some ((⟨x2.1.S, x3.1, s1, s5, s8⟩ : TRule), (⟨p0.tokens, x13.at_, x13.bad⟩ : Tparser)))))
def m_i_parser_rule_j2 (N : Nat) (p0 : Tparser) (x2 : TToken × Tparser) (x3 : Int × Tparser) (s1 : (List TPat)) (s5 : (List TCond)) (s6 : Int) (s7 : Bool) : Option (TRule × Tparser) :=
  ((m_i_parser_take N (⟨p0.tokens, s6, s7⟩ : Tparser) 5 (⟨#[45, 62]⟩ : ByteArray)).bind fun x9 => m_i_parser_rule_l3 N p0 x2 x3 s1 s5 N ([] : List TAct) true x9.at_ x9.bad)
def m_i_parser_rule_l4 (N : Nat) (p0 : Tparser) (x2 : TToken × Tparser) (x3 : Int × Tparser) (s1 : (List TPat)) : Nat → (List TCond) → Bool → Int → Bool → Option (TRule × Tparser)
  | 0, _, _, _, _ => none
  | k + 1, s12, s13, s14, s15 =>
    ((if s13 then some (!s15) else some false).bind fun b14 => (if b14 then ((m_i_parser_cond N (⟨p0.tokens, s14, s15⟩ : Tparser)).bind fun x14 => ((app s12 ([x14.1] : List TCond)).bind fun x15 => ((m_i_parser_skip N (⟨p0.tokens, x14.2.at_, x14.2.bad⟩ : Tparser) 5 (⟨#[44]⟩ : ByteArray)).bind fun x16 => ((m_i_parser_rule_l4 N p0 x2 x3 s1 k) x15 x16.1 x16.2.at_ x16.2.bad)))) else m_i_parser_rule_j2 N p0 x2 x3 s1 s12 s14 s15))
def m_i_parser_rule_l1 (N : Nat) (p0 : Tparser) (x2 : TToken × Tparser) (x3 : Int × Tparser) : Nat → (List TPat) → Bool → Int → Bool → Option (TRule × Tparser)
  | 0, _, _, _, _ => none
  | k + 1, s1, s2, s3, s4 =>
    ((if s2 then some (!s4) else some false).bind fun b5 => (if b5 then ((m_i_parser_pat N (⟨p0.tokens, s3, s4⟩ : Tparser)).bind fun x5 => ((app s1 ([x5.1] : List TPat)).bind fun x6 => ((m_i_parser_skip N (⟨p0.tokens, x5.2.at_, x5.2.bad⟩ : Tparser) 5 (⟨#[44]⟩ : ByteArray)).bind fun x7 => ((m_i_parser_rule_l1 N p0 x2 x3 k) x6 x7.1 x7.2.at_ x7.2.bad)))) else ((m_i_parser_skip N (⟨p0.tokens, s3, s4⟩ : Tparser) 5 (⟨#[43]⟩ : ByteArray)).bind fun x8 => (if x8.1 then m_i_parser_rule_l4 N p0 x2 x3 s1 N ([] : List TCond) true x8.2.at_ x8.2.bad else m_i_parser_rule_j2 N p0 x2 x3 s1 ([] : List TCond) x8.2.at_ x8.2.bad))))
def m_i_parser_rule (N : Nat) (p0 : Tparser) : Option (TRule × Tparser) :=
  ((m_i_parser_take N p0 2 (⟨#[114, 117, 108, 101]⟩ : ByteArray)).bind fun x1 => ((m_i_parser_word N (⟨p0.tokens, x1.at_, x1.bad⟩ : Tparser) 2).bind fun x2 => ((m_i_parser_number N (⟨p0.tokens, x2.2.at_, x2.2.bad⟩ : Tparser)).bind fun x3 => ((m_i_parser_take N (⟨p0.tokens, x3.2.at_, x3.2.bad⟩ : Tparser) 5 (⟨#[58]⟩ : ByteArray)).bind fun x4 => m_i_parser_rule_l1 N p0 x2 x3 N ([] : List TPat) true x4.at_ x4.bad))))
def m_sl_Equal_Si_Token_i_Token_l1 (N : Nat) (p0 : (List TToken)) (p1 : (List TToken)) : Nat → Int → Option (Bool)
  | 0, _ => none
  | k + 1, s1 =>
    (if decide (s1 < (p0.length : Int)) then ((idx p0 s1).bind fun x1 => ((idx p1 s1).bind fun x2 => (if !(eqT_TToken x1 x2) then some false else ((m_sl_Equal_Si_Token_i_Token_l1 N p0 p1 k) (i64.wrap (s1 + 1)))))) else some true)
def m_sl_Equal_Si_Token_i_Token (N : Nat) (p0 : (List TToken)) (p1 : (List TToken)) : Option (Bool) :=
  (if !decide ((p0.length : Int) = (p1.length : Int)) then some false else m_sl_Equal_Si_Token_i_Token_l1 N p0 p1 N 0)
def m_i_ParseDef_l1 (N : Nat) (x1 : (List TToken) × Int) (x3 : TToken × Tparser) : Nat → (List TRule) → Int → Bool → Option (TDef × Bool)
  | 0, _, _, _ => none
  | k + 1, s1, s2, s3 =>
    ((if !s3 then some (decide (s2 < (x1.1.length : Int))) else some false).bind fun b5 => (if b5 then ((m_i_parser_rule N (⟨x1.1, s2, s3⟩ : Tparser)).bind fun x5 => ((app s1 ([x5.1] : List TRule)).bind fun x6 => ((m_i_ParseDef_l1 N x1 x3 k) x6 x5.2.at_ x5.2.bad))) else ((if s3 then some true else ((m_i_DefOk N (⟨x3.1.S, s1⟩ : TDef)).bind fun x7 => some (!x7))).bind fun b7 => (if b7 then some ((⟨(⟨#[]⟩ : ByteArray), []⟩ : TDef), false) else ((m_i_DefText N (⟨x3.1.S, s1⟩ : TDef)).bind fun x8 => ((m_i_Lex N x8).bind fun x9 => ((m_sl_Equal_Si_Token_i_Token N x9.1 x1.1).bind fun x10 => (if !x10 then some ((⟨(⟨#[]⟩ : ByteArray), []⟩ : TDef), false) else some ((⟨x3.1.S, s1⟩ : TDef), true)))))))))
def m_i_ParseDef (N : Nat) (p0 : ByteArray) : Option (TDef × Bool) :=
  ((m_i_Lex N p0).bind fun x1 => (if !decide (x1.2 = (-1)) then some ((⟨(⟨#[]⟩ : ByteArray), []⟩ : TDef), false) else ((m_i_parser_take N (⟨x1.1, 0, false⟩ : Tparser) 2 (⟨#[100, 101, 102]⟩ : ByteArray)).bind fun x2 => ((m_i_parser_word N (⟨x1.1, x2.at_, x2.bad⟩ : Tparser) 2).bind fun x3 => ((m_i_parser_take N (⟨x1.1, x3.2.at_, x3.2.bad⟩ : Tparser) 5 (⟨#[46]⟩ : ByteArray)).bind fun x4 => m_i_ParseDef_l1 N x1 x3 N ([] : List TRule) x4.at_ x4.bad)))))
def m_l_FnRules_l1 (N : Nat) (x2 : TRule) (x4 : Bool) (x5 : ByteArray) (x7 : Int) : Nat → Int → Option (Bool)
  | 0, _ => none
  | k + 1, s1 =>
    ((if decide (s1 < (x2.Pats.length : Int)) then some x4 else some false).bind fun b2 => (if b2 then ((idx x2.Pats s1).bind fun x8 => (if (x8.Not != (decide (x7 ≤ s1))) then some false else ((m_l_FnRules_l1 N x2 x4 x5 x7 k) (i64.wrap (s1 + 1))))) else ((cat (⟨#[100, 101, 102, 32, 120, 46, 32]⟩ : ByteArray) x5).bind fun z1 => ((m_i_ParseDef N z1).bind fun x9 => ((if !x4 then some true else ((if x9.2 then some (decide ((x9.1.Rules.length : Int) = 1)) else some false).bind fun b4 => ((if b4 then ((idx x9.1.Rules 0).bind fun x10 => ((m_i_RuleText N x10).bind fun x11 => some (seq x11 x5))) else some false).bind fun b5 => ((if b5 then some (decide (1 ≤ x7)) else some false).bind fun b6 => ((if b6 then some (decide (x7 ≤ 3)) else some false).bind fun b7 => some b7))))).bind fun b3 => some b3)))))
def m_l_FnRules (N : Nat) (p0 : (List Int)) : Option (Bool) :=
  ((m_l_big N p0).bind fun x1 => (if x1 then some true else ((m_s_DrawRuleOk N p0).bind fun x2 => ((m_i_RuleOk N x2).bind fun x4 => ((m_i_RuleText N x2).bind fun x5 => ((m_s_RuleOk N x2).bind fun x6 => ((if (x4 != x6) then some true else some ((!seq x5 (⟨#[]⟩ : ByteArray)) != x4)).bind fun b1 => (if b1 then some false else ((m_i_PosCount N x2).bind fun x7 => m_l_FnRules_l1 N x2 x4 x5 x7 N 0)))))))))
end Go.Proofs.YteipbimepilcfaaGreatDoor
