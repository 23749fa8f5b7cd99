/- Printed by a program of ours: Lean functions of plain data for the Go functions. -/
import Derived.Test.YtmhckcoabhahpaaEJ
namespace Go.Proofs.Ytmhckcoabhahpaa
open Eng
set_option linter.unusedVariables false
set_option linter.unusedSimpArgs false

structure Tl1Cur where
  b : (List Int)
  i : Int
  h : Int
  deriving DecidableEq
def RTl1Cur (Φ : Hp) (F : List Nat) (cs : List Value) (x : Tl1Cur) : Prop :=
  ∃ (s0 : Value) (F0 : List Nat), cs = [s0, .int .i64 x.i, .int .i64 x.h] ∧ F = F0 ∧ RSl (RI .u8) 1 Φ F0 s0 x.b
theorem RTl1Cur.lasts : Lasts RTl1Cur := fun X Φ Φ' F cs x hf hd ⟨s0, F0, hc, hF, h0⟩ => by
  rw [hF] at hd
  exact ⟨s0, F0, hc, hF, h0.frame RI.lasts hf (fun k hk => hd k (by simp [hk]))⟩
theorem RTl1Cur.knows : Knows RTl1Cur := fun Φ F cs x ⟨s0, F0, hc, hF, h0⟩ => hF ▸ h0.kn
theorem RTl1Cur.one : Ones RTl1Cur := fun _ _ _ _ h => by obtain ⟨s0, F0, rfl, -, h0⟩ := h; exact One.all ⟨h0.one, rfl, rfl, trivial⟩
def OTl1Cur (Φ : Hp) (F : List Nat) (cs : List Value) (x : Tl1Cur) : Prop :=
  ∃ (s0 : Value), cs = [s0, .int .i64 x.i, .int .i64 x.h] ∧ F = (ob s0 ++ []) ∧ OSl (RI .u8) 5 1 Φ [] s0 x.b
theorem OTl1Cur.lasts : Lasts OTl1Cur := fun X Φ Φ' F cs x hf hd ⟨s0, hc, hF, h0⟩ => by
  rw [hF] at hd
  exact ⟨s0, hc, hF, h0.frame RI.lasts hf (fun k hk => hd k (by simp [hk])) (Dj.nil _)⟩
theorem OTl1Cur.knows : Knows OTl1Cur := fun Φ F cs x ⟨s0, hc, hF, h0⟩ => hF ▸ (h0.knO.app h0.kn)
theorem OTl1Cur.one : Ones OTl1Cur := fun _ _ _ _ h => by obtain ⟨s0, rfl, -, h0⟩ := h; exact One.all ⟨h0.one, rfl, rfl, trivial⟩
theorem OTl1Cur.gives : Gives OTl1Cur RTl1Cur := fun Φ F cs x ⟨s0, hc, hF, h0⟩ => ⟨s0, ob s0 ++ [], hc, hF, h0.rslG (Gives.refl _)⟩
structure TVal where
  K : Int
  N : Int
  S : ByteArray
  deriving DecidableEq
def RTVal (Φ : Hp) (F : List Nat) (cs : List Value) (x : TVal) : Prop := cs = [.int .i64 x.K, .int .i64 x.N, .string x.S] ∧ F = []
theorem RTVal.lasts : Lasts RTVal := fun _ _ _ _ _ _ _ _ h => h
theorem RTVal.knows : Knows RTVal := fun _ _ _ _ h => h.2 ▸ Kw.nil
theorem RTVal.flat : Flat RTVal := fun _ _ _ _ h => h.2
theorem RTVal.one : Ones RTVal := fun _ _ _ _ h => by obtain ⟨rfl, -⟩ := h; exact One.all ⟨rfl, rfl, rfl, trivial⟩
structure TArg where
  K : Int
  S : ByteArray
  V : TVal
  deriving DecidableEq
def RTArg (Φ : Hp) (F : List Nat) (cs : List Value) (x : TArg) : Prop := cs = [.int .i64 x.K, .string x.S, .int .i64 x.V.K, .int .i64 x.V.N, .string x.V.S] ∧ F = []
theorem RTArg.lasts : Lasts RTArg := fun _ _ _ _ _ _ _ _ h => h
theorem RTArg.knows : Knows RTArg := fun _ _ _ _ h => h.2 ▸ Kw.nil
theorem RTArg.flat : Flat RTArg := fun _ _ _ _ h => h.2
theorem RTArg.one : Ones RTArg := fun _ _ _ _ h => by obtain ⟨rfl, -⟩ := h; exact One.all ⟨rfl, rfl, rfl, rfl, rfl, trivial⟩
structure TPat where
  Kind : ByteArray
  Args : (List TArg)
  Not : Bool
  deriving DecidableEq
def RTPat (Φ : Hp) (F : List Nat) (cs : List Value) (x : TPat) : Prop :=
  ∃ (s0 : Value) (F0 : List Nat), cs = [.string x.Kind, s0, .bool x.Not] ∧ F = F0 ∧ RSl RTArg 5 Φ F0 s0 x.Args
theorem RTPat.lasts : Lasts RTPat := fun X Φ Φ' F cs x hf hd ⟨s0, F0, hc, hF, h0⟩ => by
  rw [hF] at hd
  exact ⟨s0, F0, hc, hF, h0.frame RTArg.lasts hf (fun k hk => hd k (by simp [hk]))⟩
theorem RTPat.knows : Knows RTPat := fun Φ F cs x ⟨s0, F0, hc, hF, h0⟩ => hF ▸ h0.kn
theorem RTPat.one : Ones RTPat := fun _ _ _ _ h => by obtain ⟨s0, F0, rfl, -, h0⟩ := h; exact One.all ⟨rfl, h0.one, rfl, trivial⟩
def OTPat (Φ : Hp) (F : List Nat) (cs : List Value) (x : TPat) : Prop :=
  ∃ (s0 : Value), cs = [.string x.Kind, s0, .bool x.Not] ∧ F = (ob s0 ++ []) ∧ OSl RTArg 83 5 Φ [] s0 x.Args
theorem OTPat.lasts : Lasts OTPat := fun X Φ Φ' F cs x hf hd ⟨s0, hc, hF, h0⟩ => by
  rw [hF] at hd
  exact ⟨s0, hc, hF, h0.frame RTArg.lasts hf (fun k hk => hd k (by simp [hk])) (Dj.nil _)⟩
theorem OTPat.knows : Knows OTPat := fun Φ F cs x ⟨s0, hc, hF, h0⟩ => hF ▸ (h0.knO.app h0.kn)
theorem OTPat.one : Ones OTPat := fun _ _ _ _ h => by obtain ⟨s0, rfl, -, h0⟩ := h; exact One.all ⟨rfl, h0.one, rfl, trivial⟩
theorem OTPat.gives : Gives OTPat RTPat := fun Φ F cs x ⟨s0, hc, hF, h0⟩ => ⟨s0, ob s0 ++ [], hc, hF, h0.rslG (Gives.refl _)⟩
structure TCond where
  Op : Int
  L : TArg
  R : TArg
  deriving DecidableEq
def RTCond (Φ : Hp) (F : List Nat) (cs : List Value) (x : TCond) : Prop := cs = [.int .i64 x.Op, .int .i64 x.L.K, .string x.L.S, .int .i64 x.L.V.K, .int .i64 x.L.V.N, .string x.L.V.S, .int .i64 x.R.K, .string x.R.S, .int .i64 x.R.V.K, .int .i64 x.R.V.N, .string x.R.V.S] ∧ F = []
theorem RTCond.lasts : Lasts RTCond := fun _ _ _ _ _ _ _ _ h => h
theorem RTCond.knows : Knows RTCond := fun _ _ _ _ h => h.2 ▸ Kw.nil
theorem RTCond.flat : Flat RTCond := fun _ _ _ _ h => h.2
theorem RTCond.one : Ones RTCond := fun _ _ _ _ h => by obtain ⟨rfl, -⟩ := h; exact One.all ⟨rfl, rfl, rfl, rfl, rfl, rfl, rfl, rfl, rfl, rfl, rfl, trivial⟩
structure TExpr where
  Op : ByteArray
  L : TArg
  R : TArg
  deriving DecidableEq
def RTExpr (Φ : Hp) (F : List Nat) (cs : List Value) (x : TExpr) : Prop := cs = [.string x.Op, .int .i64 x.L.K, .string x.L.S, .int .i64 x.L.V.K, .int .i64 x.L.V.N, .string x.L.V.S, .int .i64 x.R.K, .string x.R.S, .int .i64 x.R.V.K, .int .i64 x.R.V.N, .string x.R.V.S] ∧ F = []
theorem RTExpr.lasts : Lasts RTExpr := fun _ _ _ _ _ _ _ _ h => h
theorem RTExpr.knows : Knows RTExpr := fun _ _ _ _ h => h.2 ▸ Kw.nil
theorem RTExpr.flat : Flat RTExpr := fun _ _ _ _ h => h.2
theorem RTExpr.one : Ones RTExpr := fun _ _ _ _ h => by obtain ⟨rfl, -⟩ := h; exact One.all ⟨rfl, rfl, rfl, rfl, rfl, rfl, rfl, rfl, rfl, rfl, rfl, trivial⟩
structure TAct where
  Kind : Int
  Name : ByteArray
  Args : (List TExpr)
  N : Int
  Undo : ByteArray
  deriving DecidableEq
def RTAct (Φ : Hp) (F : List Nat) (cs : List Value) (x : TAct) : Prop :=
  ∃ (s0 : Value) (F0 : List Nat), cs = [.int .i64 x.Kind, .string x.Name, s0, .int .i64 x.N, .string x.Undo] ∧ F = F0 ∧ RSl RTExpr 11 Φ F0 s0 x.Args
theorem RTAct.lasts : Lasts RTAct := fun X Φ Φ' F cs x hf hd ⟨s0, F0, hc, hF, h0⟩ => by
  rw [hF] at hd
  exact ⟨s0, F0, hc, hF, h0.frame RTExpr.lasts hf (fun k hk => hd k (by simp [hk]))⟩
theorem RTAct.knows : Knows RTAct := fun Φ F cs x ⟨s0, F0, hc, hF, h0⟩ => hF ▸ h0.kn
theorem RTAct.one : Ones RTAct := fun _ _ _ _ h => by obtain ⟨s0, F0, rfl, -, h0⟩ := h; exact One.all ⟨rfl, rfl, h0.one, rfl, rfl, trivial⟩
def OTAct (Φ : Hp) (F : List Nat) (cs : List Value) (x : TAct) : Prop :=
  ∃ (s0 : Value), cs = [.int .i64 x.Kind, .string x.Name, s0, .int .i64 x.N, .string x.Undo] ∧ F = (ob s0 ++ []) ∧ OSl RTExpr 85 11 Φ [] s0 x.Args
theorem OTAct.lasts : Lasts OTAct := fun X Φ Φ' F cs x hf hd ⟨s0, hc, hF, h0⟩ => by
  rw [hF] at hd
  exact ⟨s0, hc, hF, h0.frame RTExpr.lasts hf (fun k hk => hd k (by simp [hk])) (Dj.nil _)⟩
theorem OTAct.knows : Knows OTAct := fun Φ F cs x ⟨s0, hc, hF, h0⟩ => hF ▸ (h0.knO.app h0.kn)
theorem OTAct.one : Ones OTAct := fun _ _ _ _ h => by obtain ⟨s0, rfl, -, h0⟩ := h; exact One.all ⟨rfl, rfl, h0.one, rfl, rfl, trivial⟩
theorem OTAct.gives : Gives OTAct RTAct := fun Φ F cs x ⟨s0, hc, hF, h0⟩ => ⟨s0, ob s0 ++ [], hc, hF, h0.rslG (Gives.refl _)⟩
structure TRule where
  Name : ByteArray
  Sal : Int
  Pats : (List TPat)
  Conds : (List TCond)
  Acts : (List TAct)
  deriving DecidableEq
def RTRule (Φ : Hp) (F : List Nat) (cs : List Value) (x : TRule) : Prop :=
  ∃ (s0 : Value) (F0 : List Nat) (s1 : Value) (F1 : List Nat) (s2 : Value) (F2 : List Nat), cs = [.string x.Name, .int .i64 x.Sal, s0, s1, s2] ∧ F = F0 ++ (F1 ++ (F2)) ∧ RSl RTPat 3 Φ F0 s0 x.Pats ∧ RSl RTCond 11 Φ F1 s1 x.Conds ∧ RSl RTAct 5 Φ F2 s2 x.Acts
theorem RTRule.lasts : Lasts RTRule := fun X Φ Φ' F cs x hf hd ⟨s0, F0, s1, F1, s2, F2, hc, hF, h0, h1, h2⟩ => by
  rw [hF] at hd
  exact ⟨s0, F0, s1, F1, s2, F2, hc, hF, h0.frame RTPat.lasts hf (fun k hk => hd k (by simp [hk])), h1.frame RTCond.lasts hf (fun k hk => hd k (by simp [hk])), h2.frame RTAct.lasts hf (fun k hk => hd k (by simp [hk]))⟩
theorem RTRule.knows : Knows RTRule := fun Φ F cs x ⟨s0, F0, s1, F1, s2, F2, hc, hF, h0, h1, h2⟩ => hF ▸ (h0.kn.app (h1.kn.app h2.kn))
theorem RTRule.one : Ones RTRule := fun _ _ _ _ h => by obtain ⟨s0, F0, s1, F1, s2, F2, rfl, -, h0, h1, h2⟩ := h; exact One.all ⟨rfl, rfl, h0.one, h1.one, h2.one, trivial⟩
def OTRule (Φ : Hp) (F : List Nat) (cs : List Value) (x : TRule) : Prop :=
  ∃ (s0 : Value) (D0 : List Nat) (s1 : Value) (s2 : Value) (D2 : List Nat), cs = [.string x.Name, .int .i64 x.Sal, s0, s1, s2] ∧ F = (ob s0 ++ D0) ++ ((ob s1 ++ []) ++ ((ob s2 ++ D2))) ∧ OSl OTPat 37 3 Φ D0 s0 x.Pats ∧ OSl RTCond 206 11 Φ [] s1 x.Conds ∧ OSl OTAct 96 5 Φ D2 s2 x.Acts
theorem OTRule.lasts : Lasts OTRule := fun X Φ Φ' F cs x hf hd ⟨s0, D0, s1, s2, D2, hc, hF, h0, h1, h2⟩ => by
  rw [hF] at hd
  exact ⟨s0, D0, s1, s2, D2, hc, hF, h0.frame OTPat.lasts hf (fun k hk => hd k (by simp [hk])) (fun k hk => hd k (by simp [hk])), h1.frame RTCond.lasts hf (fun k hk => hd k (by simp [hk])) (Dj.nil _), h2.frame OTAct.lasts hf (fun k hk => hd k (by simp [hk])) (fun k hk => hd k (by simp [hk]))⟩
theorem OTRule.knows : Knows OTRule := fun Φ F cs x ⟨s0, D0, s1, s2, D2, hc, hF, h0, h1, h2⟩ => hF ▸ ((h0.knO.app h0.kn).app ((h1.knO.app h1.kn).app (h2.knO.app h2.kn)))
theorem OTRule.one : Ones OTRule := fun _ _ _ _ h => by obtain ⟨s0, D0, s1, s2, D2, rfl, -, h0, h1, h2⟩ := h; exact One.all ⟨rfl, rfl, h0.one, h1.one, h2.one, trivial⟩
theorem OTRule.gives : Gives OTRule RTRule := fun Φ F cs x ⟨s0, D0, s1, s2, D2, hc, hF, h0, h1, h2⟩ => ⟨s0, ob s0 ++ D0, s1, ob s1 ++ [], s2, ob s2 ++ D2, hc, hF, h0.rslG OTPat.gives, h1.rslG (Gives.refl _), h2.rslG OTAct.gives⟩
/-! laws.big -/
def m_l_big (N : Nat) (p0 : (List Int)) : Option (Bool) :=
  some (decide (1048576 < (p0.length : Int)))
/-! spec.l1New -/
def m_s_l1New_l1 (N : Nat) (p0 : (List Int)) : Nat → Int → Int → Option (Tl1Cur)
  | 0, _, _ => none
  | k + 1, s1, s2 =>
    ((if decide (s2 < (p0.length : Int)) then some (decide (s2 < 4000)) else some false).bind fun b1 => (if b1 then ((idx p0 s2).bind fun x1 => ((m_s_l1New_l1 N p0 k) (andI .i64 (IntKind.i64.wrap ((IntKind.i64.wrap ((IntKind.i64.wrap (s1 * 137)) + (IntKind.i64.wrap x1))) + 11)) 1073741823) (IntKind.i64.wrap (s2 + 1)))) else some (⟨p0, 0, s1⟩ : Tl1Cur)))
def m_s_l1New (N : Nat) (p0 : (List Int)) : Option (Tl1Cur) :=
  m_s_l1New_l1 N p0 N (IntKind.i64.wrap (354354 + (p0.length : Int))) 0
/-! spec.l1Byte -/
def m_s_l1Byte (N : Nat) (p0 : Tl1Cur) : Option (Int × Tl1Cur) :=
  (if decide (p0.i < (p0.b.length : Int)) then ((idx p0.b p0.i).bind fun x1 => some ((andI .i64 (IntKind.i64.wrap ((andI .i64 (xorI .i64 (shrI .i64 (IntKind.i64.wrap ((IntKind.i64.wrap (p0.h * 6364136223846793005)) + 1442695040888963407)) 33) (shrI .i64 (IntKind.i64.wrap ((IntKind.i64.wrap (p0.h * 6364136223846793005)) + 1442695040888963407)) 47)) 255) + (IntKind.i64.wrap x1))) 255), (⟨p0.b, IntKind.i64.wrap (p0.i + 1), IntKind.i64.wrap ((IntKind.i64.wrap (p0.h * 6364136223846793005)) + 1442695040888963407)⟩ : Tl1Cur))) else some ((andI .i64 (xorI .i64 (shrI .i64 (IntKind.i64.wrap ((IntKind.i64.wrap (p0.h * 6364136223846793005)) + 1442695040888963407)) 33) (shrI .i64 (IntKind.i64.wrap ((IntKind.i64.wrap (p0.h * 6364136223846793005)) + 1442695040888963407)) 47)) 255), (⟨p0.b, p0.i, IntKind.i64.wrap ((IntKind.i64.wrap (p0.h * 6364136223846793005)) + 1442695040888963407)⟩ : Tl1Cur)))
/-! spec.l1Below -/
def m_s_l1Below (N : Nat) (p0 : Tl1Cur) (p1 : Int) : Option (Int × Tl1Cur) :=
  (if decide (p1 ≤ 0) then some (0, p0) else (if decide (p1 ≤ 256) then ((m_s_l1Byte N p0).bind fun x1 => ((remI x1.1 p1).bind fun x2 => some (x2, (⟨p0.b, x1.2.i, x1.2.h⟩ : Tl1Cur)))) else ((m_s_l1Byte N p0).bind fun x3 => ((m_s_l1Byte N (⟨p0.b, x3.2.i, x3.2.h⟩ : Tl1Cur)).bind fun x4 => ((m_s_l1Byte N (⟨p0.b, x4.2.i, x4.2.h⟩ : Tl1Cur)).bind fun x5 => ((remI (IntKind.i64.wrap ((IntKind.i64.wrap ((IntKind.i64.wrap (x3.1 * 65536)) + (IntKind.i64.wrap (x4.1 * 256)))) + x5.1)) p1).bind fun x6 => some (x6, (⟨p0.b, x5.2.i, x5.2.h⟩ : Tl1Cur))))))))
/-! spec.l1Once -/
def m_s_l1Once (N : Nat) (p0 : Tl1Cur) (p1 : Int) : Option (Bool × Tl1Cur) :=
  ((m_s_l1Below N p0 p1).bind fun x1 => some (decide (x1.1 = 0), (⟨p0.b, x1.2.i, x1.2.h⟩ : Tl1Cur)))
/-! spec.l6Has -/
def m_s_l6Has_l1 (N : Nat) (p0 : (List ByteArray)) (p1 : ByteArray) : Nat → Int → Option (Bool)
  | 0, _ => none
  | k + 1, s1 =>
    (if decide (s1 < (p0.length : Int)) then ((idx p0 s1).bind fun x1 => (if seq x1 p1 then some true else ((m_s_l6Has_l1 N p0 p1 k) (IntKind.i64.wrap (s1 + 1))))) else some false)
def m_s_l6Has (N : Nat) (p0 : (List ByteArray)) (p1 : ByteArray) : Option (Bool) :=
  m_s_l6Has_l1 N p0 p1 N 0
/-! spec.VarsOf -/
def m_s_VarsOf_l1 (N : Nat) (p0 : TPat) : Nat → (List ByteArray) → Int → Option ((List ByteArray))
  | 0, _, _ => none
  | k + 1, s1, s2 =>
    (if decide (s2 < (p0.Args.length : Int)) then ((idx p0.Args s2).bind fun x1 => ((if decide (x1.K = 1) then ((idx p0.Args s2).bind fun x2 => ((m_s_l6Has N s1 x2.S).bind fun x3 => some (!x3))) else some false).bind fun b1 => (if b1 then ((idx p0.Args s2).bind fun x4 => ((app s1 ([x4.S] : List ByteArray)).bind fun x5 => ((m_s_VarsOf_l1 N p0 k) x5 (IntKind.i64.wrap (s2 + 1))))) else ((m_s_VarsOf_l1 N p0 k) s1 (IntKind.i64.wrap (s2 + 1)))))) else some s1)
def m_s_VarsOf (N : Nat) (p0 : TPat) : Option ((List ByteArray)) :=
  m_s_VarsOf_l1 N p0 N ([] : List ByteArray) 0
/-! spec.PosVars -/
def m_s_PosVars_l2 (N : Nat) (p0 : TRule) (s2 : Int) (K1 : (List ByteArray) → Int → Option ((List ByteArray))) (x2 : (List ByteArray)) : Nat → (List ByteArray) → Int → Option ((List ByteArray))
  | 0, _, _ => none
  | k + 1, s3, s4 =>
    ((if decide (s4 < (x2.length : Int)) then ((idx p0.Pats s2).bind fun x3 => some (!x3.Not)) else some false).bind fun b1 => (if b1 then ((idx x2 s4).bind fun x4 => ((m_s_l6Has N s3 x4).bind fun x5 => (if !x5 then ((idx x2 s4).bind fun x6 => ((app s3 ([x6] : List ByteArray)).bind fun x7 => ((m_s_PosVars_l2 N p0 s2 K1 x2 k) x7 (IntKind.i64.wrap (s4 + 1))))) else ((m_s_PosVars_l2 N p0 s2 K1 x2 k) s3 (IntKind.i64.wrap (s4 + 1)))))) else (K1 s3 (IntKind.i64.wrap (s2 + 1)))))
def m_s_PosVars_l1 (N : Nat) (p0 : TRule) : Nat → (List ByteArray) → Int → Option ((List ByteArray))
  | 0, _, _ => none
  | k + 1, s1, s2 =>
    (if decide (s2 < (p0.Pats.length : Int)) then ((idx p0.Pats s2).bind fun x1 => ((m_s_VarsOf N x1).bind fun x2 => m_s_PosVars_l2 N p0 s2 (m_s_PosVars_l1 N p0 k) x2 N s1 0)) else some s1)
def m_s_PosVars (N : Nat) (p0 : TRule) : Option ((List ByteArray)) :=
  m_s_PosVars_l1 N p0 N ([] : List ByteArray) 0
/-! spec.PosCount -/
def m_s_PosCount_l1 (N : Nat) (p0 : TRule) : Nat → Int → Int → Option (Int)
  | 0, _, _ => none
  | k + 1, s1, s2 =>
    (if decide (s2 < (p0.Pats.length : Int)) then ((idx p0.Pats s2).bind fun x1 => (if !x1.Not then ((m_s_PosCount_l1 N p0 k) (IntKind.i64.wrap (s1 + 1)) (IntKind.i64.wrap (s2 + 1))) else ((m_s_PosCount_l1 N p0 k) s1 (IntKind.i64.wrap (s2 + 1))))) else some s1)
def m_s_PosCount (N : Nat) (p0 : TRule) : Option (Int) :=
  m_s_PosCount_l1 N p0 N 0 0
/-! spec.l1Str -/
def m_s_l1Str (N : Nat) (p0 : Tl1Cur) (p1 : (List ByteArray)) : Option (ByteArray × Tl1Cur) :=
  ((m_s_l1Below N p0 (p1.length : Int)).bind fun x1 => ((idx p1 x1.1).bind fun x2 => some (x2, (⟨p0.b, x1.2.i, x1.2.h⟩ : Tl1Cur))))
/-! spec.l3Small -/
def m_s_l3Small (N : Nat) (p0 : Tl1Cur) : Option (TVal × Tl1Cur) :=
  ((m_s_l1Once N p0 2).bind fun x1 => (if x1.1 then ((m_s_l1Below N (⟨p0.b, x1.2.i, x1.2.h⟩ : Tl1Cur) 3).bind fun x2 => some ((⟨1, IntKind.i64.wrap (1 + x2.1), (⟨#[]⟩ : ByteArray)⟩ : TVal), (⟨p0.b, x2.2.i, x2.2.h⟩ : Tl1Cur))) else ((m_s_l1Str N (⟨p0.b, x1.2.i, x1.2.h⟩ : Tl1Cur) ([(⟨#[97]⟩ : ByteArray), (⟨#[98]⟩ : ByteArray)] : List ByteArray)).bind fun x3 => some ((⟨2, 0, x3.1⟩ : TVal), (⟨p0.b, x3.2.i, x3.2.h⟩ : Tl1Cur)))))
/-! spec.l6Val -/
def m_s_l6Val (N : Nat) (p0 : TVal) : Option (TArg) :=
  some (⟨2, (⟨#[]⟩ : ByteArray), p0⟩ : TArg)
/-! spec.l6Var -/
def m_s_l6Var (N : Nat) (p0 : ByteArray) : Option (TArg) :=
  some (⟨1, p0, (⟨0, 0, (⟨#[]⟩ : ByteArray)⟩ : TVal)⟩ : TArg)
/-! spec.l6Arg -/
def m_s_l6Arg (N : Nat) (p0 : Tl1Cur) : Option (TArg × Tl1Cur) :=
  ((m_s_l1Below N p0 6).bind fun x1 => (if decide (x1.1 = 0) then some ((⟨3, (⟨#[]⟩ : ByteArray), (⟨0, 0, (⟨#[]⟩ : ByteArray)⟩ : TVal)⟩ : TArg), (⟨p0.b, x1.2.i, x1.2.h⟩ : Tl1Cur)) else (if decide (x1.1 = 1) then ((m_s_l3Small N (⟨p0.b, x1.2.i, x1.2.h⟩ : Tl1Cur)).bind fun x2 => ((m_s_l6Val N x2.1).bind fun x3 => some (x3, (⟨p0.b, x2.2.i, x2.2.h⟩ : Tl1Cur)))) else ((m_s_l1Str N (⟨p0.b, x1.2.i, x1.2.h⟩ : Tl1Cur) ([(⟨#[88]⟩ : ByteArray), (⟨#[89]⟩ : ByteArray), (⟨#[90]⟩ : ByteArray), (⟨#[88]⟩ : ByteArray)] : List ByteArray)).bind fun x4 => ((m_s_l6Var N x4.1).bind fun x5 => some (x5, (⟨p0.b, x4.2.i, x4.2.h⟩ : Tl1Cur)))))))
/-! spec.l6Draw -/
def m_s_l6Draw_l2 (N : Nat) (p0 : Tl1Cur) (p1 : Bool) (x1 : ByteArray × Tl1Cur) (s1 : Int) : Nat → (List TArg) → Int → Int → Int → Option (TPat × Tl1Cur)
  | 0, _, _, _, _ => none
  | k + 1, s2, s3, s4, s5 =>
    (if decide (s3 < s1) then ((m_s_l6Arg N (⟨p0.b, s4, s5⟩ : Tl1Cur)).bind fun x2 => ((app s2 ([x2.1] : List TArg)).bind fun x3 => ((m_s_l6Draw_l2 N p0 p1 x1 s1 k) x3 (IntKind.i64.wrap (s3 + 1)) x2.2.i x2.2.h))) else some ((⟨x1.1, s2, p1⟩ : TPat), (⟨p0.b, s4, s5⟩ : Tl1Cur)))
def m_s_l6Draw_j1 (N : Nat) (p0 : Tl1Cur) (p1 : Bool) (x1 : ByteArray × Tl1Cur) (s1 : Int) : Option (TPat × Tl1Cur) :=
  m_s_l6Draw_l2 N p0 p1 x1 s1 N ([] : List TArg) 0 x1.2.i x1.2.h
def m_s_l6Draw (N : Nat) (p0 : Tl1Cur) (p1 : Bool) : Option (TPat × Tl1Cur) :=
  ((m_s_l1Str N p0 ([(⟨#[111, 114, 100, 101, 114]⟩ : ByteArray), (⟨#[112, 97, 105, 100]⟩ : ByteArray), (⟨#[105, 116, 101, 109]⟩ : ByteArray), (⟨#[111, 114, 100, 101, 114]⟩ : ByteArray)] : List ByteArray)).bind fun x1 => (if seq x1.1 (⟨#[105, 116, 101, 109]⟩ : ByteArray) then m_s_l6Draw_j1 N p0 p1 x1 2 else m_s_l6Draw_j1 N p0 p1 x1 1))
/-! spec.l1Int -/
def m_s_l1Int (N : Nat) (p0 : Tl1Cur) (p1 : (List Int)) : Option (Int × Tl1Cur) :=
  ((m_s_l1Below N p0 (p1.length : Int)).bind fun x1 => ((idx p1 x1.1).bind fun x2 => some (x2, (⟨p0.b, x1.2.i, x1.2.h⟩ : Tl1Cur))))
/-! spec.l7Arg -/
def m_s_l7Arg (N : Nat) (p0 : Tl1Cur) : Option (TArg × Tl1Cur) :=
  ((m_s_l1Once N p0 3).bind fun x1 => (if x1.1 then ((m_s_l3Small N (⟨p0.b, x1.2.i, x1.2.h⟩ : Tl1Cur)).bind fun x2 => ((m_s_l6Val N x2.1).bind fun x3 => some (x3, (⟨p0.b, x2.2.i, x2.2.h⟩ : Tl1Cur)))) else ((m_s_l1Str N (⟨p0.b, x1.2.i, x1.2.h⟩ : Tl1Cur) ([(⟨#[88]⟩ : ByteArray), (⟨#[89]⟩ : ByteArray)] : List ByteArray)).bind fun x4 => ((m_s_l6Var N x4.1).bind fun x5 => some (x5, (⟨p0.b, x4.2.i, x4.2.h⟩ : Tl1Cur))))))
/-! spec.l7Draw -/
def m_s_l7Draw (N : Nat) (p0 : Tl1Cur) : Option (TCond × Tl1Cur) :=
  ((m_s_l1Below N p0 3).bind fun x1 => ((m_s_l7Arg N (⟨p0.b, x1.2.i, x1.2.h⟩ : Tl1Cur)).bind fun x2 => ((m_s_l7Arg N (⟨p0.b, x2.2.i, x2.2.h⟩ : Tl1Cur)).bind fun x3 => some ((⟨IntKind.i64.wrap (1 + x1.1), x2.1, x3.1⟩ : TCond), (⟨p0.b, x3.2.i, x3.2.h⟩ : Tl1Cur)))))
/-! spec.l9Known -/
def m_s_l9Known (N : Nat) (p0 : TArg) (p1 : (List ByteArray)) : Option (Bool) :=
  ((if !decide (p0.K = 1) then some true else ((m_s_l6Has N p1 p0.S).bind fun x1 => some x1)).bind fun b1 => some b1)
/-! spec.l9Fit -/
def m_s_l9Fit (N : Nat) (p0 : TArg) (p1 : (List ByteArray)) : Option (TArg) :=
  ((m_s_l9Known N p0 p1).bind fun x1 => (if x1 then some p0 else (if decide ((p1.length : Int) = 0) then ((m_s_l6Val N (⟨1, 1, (⟨#[]⟩ : ByteArray)⟩ : TVal)).bind fun x2 => some x2) else ((idx p1 0).bind fun x3 => ((m_s_l6Var N x3).bind fun x4 => some x4)))))
/-! spec.l8Expr -/
def m_s_l8Expr_j1 (N : Nat) (p0 : Tl1Cur) (x1 : TArg × Tl1Cur) (s1 : Int) (s2 : Int) (s3 : ByteArray) (s4 : Int) (s5 : ByteArray) (s6 : Int) (s7 : Int) (s8 : ByteArray) : Option (TExpr × Tl1Cur) :=
  some ((⟨s3, x1.1, (⟨s4, s5, (⟨s6, s7, s8⟩ : TVal)⟩ : TArg)⟩ : TExpr), (⟨p0.b, s1, s2⟩ : Tl1Cur))
def m_s_l8Expr (N : Nat) (p0 : Tl1Cur) : Option (TExpr × Tl1Cur) :=
  ((m_s_l7Arg N p0).bind fun x1 => ((m_s_l1Once N (⟨p0.b, x1.2.i, x1.2.h⟩ : Tl1Cur) 4).bind fun x2 => (if x2.1 then ((m_s_l1Str N (⟨p0.b, x2.2.i, x2.2.h⟩ : Tl1Cur) ([(⟨#[43]⟩ : ByteArray), (⟨#[45]⟩ : ByteArray)] : List ByteArray)).bind fun x3 => ((m_s_l7Arg N (⟨p0.b, x3.2.i, x3.2.h⟩ : Tl1Cur)).bind fun x4 => m_s_l8Expr_j1 N p0 x1 x4.2.i x4.2.h x3.1 x4.1.K x4.1.S x4.1.V.K x4.1.V.N x4.1.V.S)) else m_s_l8Expr_j1 N p0 x1 x2.2.i x2.2.h (⟨#[]⟩ : ByteArray) 0 (⟨#[]⟩ : ByteArray) 0 0 (⟨#[]⟩ : ByteArray))))
/-! spec.l8Draw -/
def m_s_l8Draw_j6 (N : Nat) (p0 : Tl1Cur) (x1 : Int × Tl1Cur) (x3 : ByteArray × Tl1Cur) (s3 : (List TExpr)) (s9 : Int) (s13 : Int) (s14 : Int) (s15 : ByteArray) : Option (TAct × Tl1Cur) :=
  some ((⟨x1.1, x3.1, s3, s9, s15⟩ : TAct), (⟨p0.b, s13, s14⟩ : Tl1Cur))
def m_s_l8Draw_j5 (N : Nat) (p0 : Tl1Cur) (x1 : Int × Tl1Cur) (x3 : ByteArray × Tl1Cur) (s3 : (List TExpr)) (s9 : Int) (s10 : Bool) (s11 : Int) (s12 : Int) : Option (TAct × Tl1Cur) :=
  (if s10 then ((m_s_l1Str N (⟨p0.b, s11, s12⟩ : Tl1Cur) ([(⟨#[114, 101, 102, 117, 110, 100]⟩ : ByteArray), (⟨#[99, 97, 110, 99, 101, 108]⟩ : ByteArray)] : List ByteArray)).bind fun x6 => m_s_l8Draw_j6 N p0 x1 x3 s3 s9 x6.2.i x6.2.h x6.1) else m_s_l8Draw_j6 N p0 x1 x3 s3 s9 s11 s12 (⟨#[]⟩ : ByteArray))
def m_s_l8Draw_j4 (N : Nat) (p0 : Tl1Cur) (x1 : Int × Tl1Cur) (x3 : ByteArray × Tl1Cur) (s3 : (List TExpr)) (s7 : Int) (s8 : Int) (s9 : Int) : Option (TAct × Tl1Cur) :=
  (if decide (x1.1 = 3) then ((m_s_l1Once N (⟨p0.b, s7, s8⟩ : Tl1Cur) 2).bind fun x7 => m_s_l8Draw_j5 N p0 x1 x3 s3 s9 x7.1 x7.2.i x7.2.h) else m_s_l8Draw_j5 N p0 x1 x3 s3 s9 false s7 s8)
def m_s_l8Draw_l3 (N : Nat) (p0 : Tl1Cur) (x1 : Int × Tl1Cur) (x3 : ByteArray × Tl1Cur) (s2 : Int) : Nat → (List TExpr) → Int → Int → Int → Option (TAct × Tl1Cur)
  | 0, _, _, _, _ => none
  | k + 1, s3, s4, s5, s6 =>
    (if decide (s4 < s2) then ((m_s_l8Expr N (⟨p0.b, s5, s6⟩ : Tl1Cur)).bind fun x4 => ((app s3 ([x4.1] : List TExpr)).bind fun x5 => ((m_s_l8Draw_l3 N p0 x1 x3 s2 k) x5 (IntKind.i64.wrap (s4 + 1)) x4.2.i x4.2.h))) else (if decide (x1.1 = 4) then ((m_s_l1Int N (⟨p0.b, s5, s6⟩ : Tl1Cur) ([0, 1, 5, 100000] : List Int)).bind fun x8 => m_s_l8Draw_j4 N p0 x1 x3 s3 x8.2.i x8.2.h x8.1) else m_s_l8Draw_j4 N p0 x1 x3 s3 s5 s6 0))
def m_s_l8Draw_j2 (N : Nat) (p0 : Tl1Cur) (x1 : Int × Tl1Cur) (x3 : ByteArray × Tl1Cur) (s2 : Int) : Option (TAct × Tl1Cur) :=
  m_s_l8Draw_l3 N p0 x1 x3 s2 N ([] : List TExpr) 0 x3.2.i x3.2.h
def m_s_l8Draw_j1 (N : Nat) (p0 : Tl1Cur) (x1 : Int × Tl1Cur) (s1 : Bool) : Option (TAct × Tl1Cur) :=
  (if s1 then some ((⟨x1.1, (⟨#[]⟩ : ByteArray), [], 0, (⟨#[]⟩ : ByteArray)⟩ : TAct), (⟨p0.b, x1.2.i, x1.2.h⟩ : Tl1Cur)) else ((m_s_l1Str N (⟨p0.b, x1.2.i, x1.2.h⟩ : Tl1Cur) ([(⟨#[111, 114, 100, 101, 114]⟩ : ByteArray), (⟨#[112, 97, 105, 100]⟩ : ByteArray), (⟨#[105, 116, 101, 109]⟩ : ByteArray), (⟨#[115, 104, 105, 112]⟩ : ByteArray), (⟨#[99, 104, 97, 114, 103, 101]⟩ : ByteArray)] : List ByteArray)).bind fun x3 => (if seq x3.1 (⟨#[105, 116, 101, 109]⟩ : ByteArray) then m_s_l8Draw_j2 N p0 x1 x3 2 else m_s_l8Draw_j2 N p0 x1 x3 1)))
def m_s_l8Draw (N : Nat) (p0 : Tl1Cur) (p1 : Int) : Option (TAct × Tl1Cur) :=
  ((m_s_l1Int N p0 ([1, 1, 2, 3, 3, 4, 5, 6] : List Int)).bind fun x1 => (if decide (x1.1 = 2) then ((m_s_l1Below N (⟨p0.b, x1.2.i, x1.2.h⟩ : Tl1Cur) p1).bind fun x2 => some ((⟨x1.1, (⟨#[]⟩ : ByteArray), [], x2.1, (⟨#[]⟩ : ByteArray)⟩ : TAct), (⟨p0.b, x2.2.i, x2.2.h⟩ : Tl1Cur))) else (if decide (x1.1 = 5) then m_s_l8Draw_j1 N p0 x1 (decide (x1.1 = 5)) else m_s_l8Draw_j1 N p0 x1 (decide (x1.1 = 6)))))
/-! spec.l9Draw -/
def m_s_l9Draw_l5 (N : Nat) (x6 : (List ByteArray)) (s11 : (List TAct)) (s12 : Int) (K4 : (List TAct) → Int → Int → Int → Option (TRule × Tl1Cur)) (x10 : TAct × Tl1Cur) : Nat → (List TExpr) → Int → Option (TRule × Tl1Cur)
  | 0, _, _ => none
  | k + 1, s15, s16 =>
    (if decide (s16 < (s15.length : Int)) then ((idx s15 s16).bind fun x11 => ((m_s_l9Fit N x11.L x6).bind fun x12 => (if !seq x11.Op (⟨#[]⟩ : ByteArray) then ((m_s_l9Fit N x11.R x6).bind fun x13 => ((m_s_l9Draw_l5 N x6 s11 s12 K4 x10 k) (s15.set s16.toNat (⟨x11.Op, x12, x13⟩ : TExpr)) (IntKind.i64.wrap (s16 + 1)))) else ((m_s_l9Draw_l5 N x6 s11 s12 K4 x10 k) (s15.set s16.toNat (⟨x11.Op, x12, x11.R⟩ : TExpr)) (IntKind.i64.wrap (s16 + 1)))))) else ((app s11 ([(⟨x10.1.Kind, x10.1.Name, s15, x10.1.N, x10.1.Undo⟩ : TAct)] : List TAct)).bind fun x14 => (K4 x14 (IntKind.i64.wrap (s12 - 1)) x10.2.i x10.2.h)))
def m_s_l9Draw_l4 (N : Nat) (p0 : Tl1Cur) (p1 : ByteArray) (x1 : Int × Tl1Cur) (s5 : (List TPat)) (x6 : (List ByteArray)) (s8 : (List TCond)) : Nat → (List TAct) → Int → Int → Int → Option (TRule × Tl1Cur)
  | 0, _, _, _, _ => none
  | k + 1, s11, s12, s13, s14 =>
    (if decide (0 < s12) then ((m_s_PosCount N (⟨p1, x1.1, s5, s8, s11⟩ : TRule)).bind fun x9 => ((m_s_l8Draw N (⟨p0.b, s13, s14⟩ : Tl1Cur) x9).bind fun x10 => m_s_l9Draw_l5 N x6 s11 s12 (m_s_l9Draw_l4 N p0 p1 x1 s5 x6 s8 k) x10 N x10.1.Args 0)) else some ((⟨p1, x1.1, s5, s8, s11⟩ : TRule), (⟨p0.b, s13, s14⟩ : Tl1Cur)))
def m_s_l9Draw_j3 (N : Nat) (p0 : Tl1Cur) (p1 : ByteArray) (x1 : Int × Tl1Cur) (s5 : (List TPat)) (x6 : (List ByteArray)) (s8 : (List TCond)) (s9 : Int) (s10 : Int) : Option (TRule × Tl1Cur) :=
  ((m_s_l1Below N (⟨p0.b, s9, s10⟩ : Tl1Cur) 3).bind fun x8 => m_s_l9Draw_l4 N p0 p1 x1 s5 x6 s8 N ([] : List TAct) (IntKind.i64.wrap (1 + x8.1)) x8.2.i x8.2.h)
def m_s_l9Draw_j2 (N : Nat) (p0 : Tl1Cur) (p1 : ByteArray) (x1 : Int × Tl1Cur) (s5 : (List TPat)) (s6 : Int) (s7 : Int) : Option (TRule × Tl1Cur) :=
  ((m_s_PosVars N (⟨p1, x1.1, s5, [], []⟩ : TRule)).bind fun x6 => ((m_s_l1Once N (⟨p0.b, s6, s7⟩ : Tl1Cur) 3).bind fun x7 => (if x7.1 then ((m_s_l7Draw N (⟨p0.b, x7.2.i, x7.2.h⟩ : Tl1Cur)).bind fun x15 => ((m_s_l9Fit N x15.1.L x6).bind fun x16 => ((m_s_l9Fit N x15.1.R x6).bind fun x17 => ((app ([] : List TCond) ([(⟨x15.1.Op, x16, x17⟩ : TCond)] : List TCond)).bind fun x18 => m_s_l9Draw_j3 N p0 p1 x1 s5 x6 x18 x15.2.i x15.2.h)))) else m_s_l9Draw_j3 N p0 p1 x1 s5 x6 ([] : List TCond) x7.2.i x7.2.h)))
def m_s_l9Draw_l1 (N : Nat) (p0 : Tl1Cur) (p1 : ByteArray) (x1 : Int × Tl1Cur) : Nat → (List TPat) → Int → Int → Int → Option (TRule × Tl1Cur)
  | 0, _, _, _, _ => none
  | k + 1, s1, s2, s3, s4 =>
    (if decide (0 < s2) then ((m_s_l6Draw N (⟨p0.b, s3, s4⟩ : Tl1Cur) false).bind fun x3 => ((app s1 ([x3.1] : List TPat)).bind fun x4 => ((m_s_l9Draw_l1 N p0 p1 x1 k) x4 (IntKind.i64.wrap (s2 - 1)) x3.2.i x3.2.h))) else ((m_s_l1Once N (⟨p0.b, s3, s4⟩ : Tl1Cur) 3).bind fun x5 => (if x5.1 then ((m_s_l6Draw N (⟨p0.b, x5.2.i, x5.2.h⟩ : Tl1Cur) true).bind fun x19 => ((app s1 ([x19.1] : List TPat)).bind fun x20 => m_s_l9Draw_j2 N p0 p1 x1 x20 x19.2.i x19.2.h)) else m_s_l9Draw_j2 N p0 p1 x1 s1 x5.2.i x5.2.h)))
def m_s_l9Draw (N : Nat) (p0 : Tl1Cur) (p1 : ByteArray) : Option (TRule × Tl1Cur) :=
  ((m_s_l1Int N p0 ([0, 0, 5, (-5), 100] : List Int)).bind fun x1 => ((m_s_l1Below N (⟨p0.b, x1.2.i, x1.2.h⟩ : Tl1Cur) 3).bind fun x2 => m_s_l9Draw_l1 N p0 p1 x1 N ([] : List TPat) (IntKind.i64.wrap (1 + x2.1)) x2.2.i x2.2.h))
/-! spec.l6Any -/
def m_s_l6Any_j1 (N : Nat) (p0 : Tl1Cur) (x2 : TPat × Tl1Cur) (s1 : (List TArg)) (s2 : Int) (s3 : Int) (s4 : ByteArray) : Option (TPat × Tl1Cur) :=
  some ((⟨s4, s1, x2.1.Not⟩ : TPat), (⟨p0.b, s2, s3⟩ : Tl1Cur))
def m_s_l6Any_j2 (N : Nat) (p0 : Tl1Cur) (x2 : TPat × Tl1Cur) (s5 : (List TArg)) (s6 : Int) (s7 : Int) : Option (TPat × Tl1Cur) :=
  m_s_l6Any_j1 N p0 x2 s5 s6 s7 x2.1.Kind
def m_s_l6Any_l3 (N : Nat) (p0 : Tl1Cur) (x2 : TPat × Tl1Cur) : Nat → (List TArg) → Int → Int → Option (TPat × Tl1Cur)
  | 0, _, _, _ => none
  | k + 1, s8, s9, s10 =>
    ((m_s_l1Below N (⟨p0.b, s9, s10⟩ : Tl1Cur) 2).bind fun x14 => (if decide ((s8.length : Int) < IntKind.i64.wrap (5 + x14.1)) then ((m_s_l6Arg N (⟨p0.b, x14.2.i, x14.2.h⟩ : Tl1Cur)).bind fun x15 => ((app s8 ([x15.1] : List TArg)).bind fun x16 => ((m_s_l6Any_l3 N p0 x2 k) x16 x15.2.i x15.2.h))) else m_s_l6Any_j1 N p0 x2 s8 x14.2.i x14.2.h x2.1.Kind))
def m_s_l6Any (N : Nat) (p0 : Tl1Cur) : Option (TPat × Tl1Cur) :=
  ((m_s_l1Once N p0 3).bind fun x1 => ((m_s_l6Draw N (⟨p0.b, x1.2.i, x1.2.h⟩ : Tl1Cur) x1.1).bind fun x2 => ((m_s_l1Below N (⟨p0.b, x2.2.i, x2.2.h⟩ : Tl1Cur) 10).bind fun x3 => (if decide (x3.1 = 0) then ((m_s_l1Str N (⟨p0.b, x3.2.i, x3.2.h⟩ : Tl1Cur) ([(⟨#[]⟩ : ByteArray), (⟨#[65]⟩ : ByteArray), (⟨#[120]⟩ : ByteArray)] : List ByteArray)).bind fun x4 => m_s_l6Any_j1 N p0 x2 x2.1.Args x4.2.i x4.2.h x4.1) else (if decide (x3.1 = 1) then ((m_s_l1Below N (⟨p0.b, x3.2.i, x3.2.h⟩ : Tl1Cur) 5).bind fun x8 => ((m_s_l1Str N (⟨p0.b, x8.2.i, x8.2.h⟩ : Tl1Cur) ([(⟨#[]⟩ : ByteArray), (⟨#[120]⟩ : ByteArray), (⟨#[88]⟩ : ByteArray)] : List ByteArray)).bind fun x9 => ((app x2.1.Args ([(⟨x8.1, x9.1, (⟨0, 0, (⟨#[]⟩ : ByteArray)⟩ : TVal)⟩ : TArg)] : List TArg)).bind fun x10 => m_s_l6Any_j2 N p0 x2 x10 x9.2.i x9.2.h))) else (if decide (x3.1 = 2) then m_s_l6Any_l3 N p0 x2 N x2.1.Args x3.2.i x3.2.h else m_s_l6Any_j1 N p0 x2 x2.1.Args x3.2.i x3.2.h x2.1.Kind))))))
/-! spec.l7Any -/
def m_s_l7Any_j1 (N : Nat) (p0 : Tl1Cur) (s1 : Int) (s2 : Int) (s3 : Int) (s4 : Int) (s5 : ByteArray) (s6 : Int) (s7 : Int) (s8 : ByteArray) (s9 : Int) (s10 : ByteArray) (s11 : Int) (s12 : Int) (s13 : ByteArray) : Option (TCond × Tl1Cur) :=
  some ((⟨s3, (⟨s4, s5, (⟨s6, s7, s8⟩ : TVal)⟩ : TArg), (⟨s9, s10, (⟨s11, s12, s13⟩ : TVal)⟩ : TArg)⟩ : TCond), (⟨p0.b, s1, s2⟩ : Tl1Cur))
def m_s_l7Any (N : Nat) (p0 : Tl1Cur) : Option (TCond × Tl1Cur) :=
  ((m_s_l7Draw N p0).bind fun x1 => ((m_s_l1Below N (⟨p0.b, x1.2.i, x1.2.h⟩ : Tl1Cur) 8).bind fun x2 => (if decide (x2.1 = 0) then ((m_s_l1Below N (⟨p0.b, x2.2.i, x2.2.h⟩ : Tl1Cur) 6).bind fun x3 => m_s_l7Any_j1 N p0 x3.2.i x3.2.h x3.1 x1.1.L.K x1.1.L.S x1.1.L.V.K x1.1.L.V.N x1.1.L.V.S x1.1.R.K x1.1.R.S x1.1.R.V.K x1.1.R.V.N x1.1.R.V.S) else (if decide (x2.1 = 1) then ((m_s_l6Arg N (⟨p0.b, x2.2.i, x2.2.h⟩ : Tl1Cur)).bind fun x4 => m_s_l7Any_j1 N p0 x4.2.i x4.2.h x1.1.Op x4.1.K x4.1.S x4.1.V.K x4.1.V.N x4.1.V.S x1.1.R.K x1.1.R.S x1.1.R.V.K x1.1.R.V.N x1.1.R.V.S) else (if decide (x2.1 = 2) then ((m_s_l1Below N (⟨p0.b, x2.2.i, x2.2.h⟩ : Tl1Cur) 5).bind fun x5 => m_s_l7Any_j1 N p0 x5.2.i x5.2.h x1.1.Op x1.1.L.K x1.1.L.S x1.1.L.V.K x1.1.L.V.N x1.1.L.V.S x5.1 (⟨#[]⟩ : ByteArray) 0 0 (⟨#[]⟩ : ByteArray)) else m_s_l7Any_j1 N p0 x2.2.i x2.2.h x1.1.Op x1.1.L.K x1.1.L.S x1.1.L.V.K x1.1.L.V.N x1.1.L.V.S x1.1.R.K x1.1.R.S x1.1.R.V.K x1.1.R.V.N x1.1.R.V.S)))))
/-! spec.l8Any -/
def m_s_l8Any_j1 (N : Nat) (p0 : Tl1Cur) (s1 : (List TExpr)) (s2 : Int) (s3 : Int) (s4 : Int) (s5 : ByteArray) (s6 : Int) (s7 : ByteArray) : Option (TAct × Tl1Cur) :=
  some ((⟨s4, s5, s1, s6, s7⟩ : TAct), (⟨p0.b, s2, s3⟩ : Tl1Cur))
def m_s_l8Any (N : Nat) (p0 : Tl1Cur) : Option (TAct × Tl1Cur) :=
  ((m_s_l8Draw N p0 2).bind fun x1 => ((m_s_l1Below N (⟨p0.b, x1.2.i, x1.2.h⟩ : Tl1Cur) 10).bind fun x2 => (if decide (x2.1 = 0) then ((m_s_l1Below N (⟨p0.b, x2.2.i, x2.2.h⟩ : Tl1Cur) 8).bind fun x3 => m_s_l8Any_j1 N p0 x1.1.Args x3.2.i x3.2.h x3.1 x1.1.Name x1.1.N x1.1.Undo) else (if decide (x2.1 = 1) then ((m_s_l1Str N (⟨p0.b, x2.2.i, x2.2.h⟩ : Tl1Cur) ([(⟨#[]⟩ : ByteArray), (⟨#[65]⟩ : ByteArray), (⟨#[120]⟩ : ByteArray)] : List ByteArray)).bind fun x4 => m_s_l8Any_j1 N p0 x1.1.Args x4.2.i x4.2.h x1.1.Kind x4.1 x1.1.N x1.1.Undo) else (if decide (x2.1 = 2) then ((m_s_l1Int N (⟨p0.b, x2.2.i, x2.2.h⟩ : Tl1Cur) ([(-1), 7, 8, 100001] : List Int)).bind fun x5 => m_s_l8Any_j1 N p0 x1.1.Args x5.2.i x5.2.h x1.1.Kind x1.1.Name x5.1 x1.1.Undo) else (if decide (x2.1 = 3) then ((m_s_l1Str N (⟨p0.b, x2.2.i, x2.2.h⟩ : Tl1Cur) ([(⟨#[]⟩ : ByteArray), (⟨#[65]⟩ : ByteArray), (⟨#[120]⟩ : ByteArray)] : List ByteArray)).bind fun x6 => m_s_l8Any_j1 N p0 x1.1.Args x6.2.i x6.2.h x1.1.Kind x1.1.Name x1.1.N x6.1) else (if decide (x2.1 = 4) then ((m_s_l1Str N (⟨p0.b, x2.2.i, x2.2.h⟩ : Tl1Cur) ([(⟨#[]⟩ : ByteArray), (⟨#[42]⟩ : ByteArray)] : List ByteArray)).bind fun x7 => ((m_s_l6Arg N (⟨p0.b, x7.2.i, x7.2.h⟩ : Tl1Cur)).bind fun x8 => ((m_s_l6Arg N (⟨p0.b, x8.2.i, x8.2.h⟩ : Tl1Cur)).bind fun x9 => ((app x1.1.Args ([(⟨x7.1, x8.1, x9.1⟩ : TExpr)] : List TExpr)).bind fun x10 => m_s_l8Any_j1 N p0 x10 x9.2.i x9.2.h x1.1.Kind x1.1.Name x1.1.N x1.1.Undo)))) else m_s_l8Any_j1 N p0 x1.1.Args x2.2.i x2.2.h x1.1.Kind x1.1.Name x1.1.N x1.1.Undo)))))))
/-! spec.l9Bend -/
def m_s_l9Bend_j1 (N : Nat) (p0 : Tl1Cur) (s1 : (List TPat)) (s2 : Int) (s3 : Int) (s4 : ByteArray) (s5 : Int) (s6 : (List TCond)) (s7 : (List TAct)) : Option (TRule × Tl1Cur) :=
  some ((⟨s4, s5, s1, s6, s7⟩ : TRule), (⟨p0.b, s2, s3⟩ : Tl1Cur))
def m_s_l9Bend (N : Nat) (p0 : Tl1Cur) (p1 : TRule) : Option (TRule × Tl1Cur) :=
  ((app ([] : List TPat) p1.Pats).bind fun x1 => ((m_s_l1Below N p0 10).bind fun x2 => (if decide (x2.1 = 0) then ((m_s_l1Str N (⟨p0.b, x2.2.i, x2.2.h⟩ : Tl1Cur) ([(⟨#[]⟩ : ByteArray), (⟨#[65]⟩ : ByteArray), (⟨#[120]⟩ : ByteArray)] : List ByteArray)).bind fun x3 => m_s_l9Bend_j1 N p0 x1 x3.2.i x3.2.h x3.1 p1.Sal p1.Conds p1.Acts) else (if decide (x2.1 = 1) then ((m_s_l1Int N (⟨p0.b, x2.2.i, x2.2.h⟩ : Tl1Cur) ([(-101), 101, 100] : List Int)).bind fun x4 => m_s_l9Bend_j1 N p0 x1 x4.2.i x4.2.h p1.Name x4.1 p1.Conds p1.Acts) else (if decide (x2.1 = 2) then ((m_s_l6Any N (⟨p0.b, x2.2.i, x2.2.h⟩ : Tl1Cur)).bind fun x5 => ((app x1 ([x5.1] : List TPat)).bind fun x6 => m_s_l9Bend_j1 N p0 x6 x5.2.i x5.2.h p1.Name p1.Sal p1.Conds p1.Acts)) else (if decide (x2.1 = 3) then ((app ([] : List TCond) p1.Conds).bind fun x7 => ((m_s_l7Any N (⟨p0.b, x2.2.i, x2.2.h⟩ : Tl1Cur)).bind fun x8 => ((app x7 ([x8.1] : List TCond)).bind fun x9 => m_s_l9Bend_j1 N p0 x1 x8.2.i x8.2.h p1.Name p1.Sal x9 p1.Acts))) else (if decide (x2.1 = 4) then ((app ([] : List TAct) p1.Acts).bind fun x10 => ((m_s_l8Any N (⟨p0.b, x2.2.i, x2.2.h⟩ : Tl1Cur)).bind fun x11 => ((app x10 ([x11.1] : List TAct)).bind fun x12 => m_s_l9Bend_j1 N p0 x1 x11.2.i x11.2.h p1.Name p1.Sal p1.Conds x12))) else (if decide (x2.1 = 5) then ((idx x1 0).bind fun x13 => m_s_l9Bend_j1 N p0 (x1.set (0 : Int).toNat (⟨x13.Kind, x13.Args, true⟩ : TPat)) x2.2.i x2.2.h p1.Name p1.Sal p1.Conds p1.Acts) else (if decide (x2.1 = 6) then ((ssl p1.Acts 0 0).bind fun x14 => m_s_l9Bend_j1 N p0 x1 x2.2.i x2.2.h p1.Name p1.Sal p1.Conds x14) else m_s_l9Bend_j1 N p0 x1 x2.2.i x2.2.h p1.Name p1.Sal p1.Conds p1.Acts)))))))))
/-! spec.l9Any -/
def m_s_l9Any_j1 (N : Nat) (p0 : Tl1Cur) (s1 : (List TPat)) (s2 : Int) (s3 : Int) (s4 : ByteArray) (s5 : Int) (s6 : (List TCond)) (s7 : (List TAct)) : Option (TRule × Tl1Cur) :=
  some ((⟨s4, s5, s1, s6, s7⟩ : TRule), (⟨p0.b, s2, s3⟩ : Tl1Cur))
def m_s_l9Any (N : Nat) (p0 : Tl1Cur) : Option (TRule × Tl1Cur) :=
  ((m_s_l1Str N p0 ([(⟨#[114, 49]⟩ : ByteArray), (⟨#[114, 50]⟩ : ByteArray), (⟨#[115, 104, 105, 112]⟩ : ByteArray)] : List ByteArray)).bind fun x1 => ((m_s_l9Draw N (⟨p0.b, x1.2.i, x1.2.h⟩ : Tl1Cur) x1.1).bind fun x2 => ((m_s_l1Once N (⟨p0.b, x2.2.i, x2.2.h⟩ : Tl1Cur) 3).bind fun x3 => (if x3.1 then ((m_s_l9Bend N (⟨p0.b, x3.2.i, x3.2.h⟩ : Tl1Cur) x2.1).bind fun x4 => m_s_l9Any_j1 N p0 x4.1.Pats x4.2.i x4.2.h x4.1.Name x4.1.Sal x4.1.Conds x4.1.Acts) else m_s_l9Any_j1 N p0 x2.1.Pats x3.2.i x3.2.h x2.1.Name x2.1.Sal x2.1.Conds x2.1.Acts))))
/-! spec.DrawPosVars -/
def m_s_DrawPosVars (N : Nat) (p0 : (List Int)) : Option (TRule) :=
  ((m_s_l1New N p0).bind fun x1 => ((m_s_l9Any N x1).bind fun x2 => some x2.1))
/-! slices.Index[[]string,string] -/
def m_sl_Index_Sstring_string_l1 (N : Nat) (p0 : (List ByteArray)) (p1 : ByteArray) : Nat → Int → Option (Int)
  | 0, _ => none
  | k + 1, s1 =>
    (if decide (s1 < (p0.length : Int)) then ((idx p0 s1).bind fun x1 => (if seq p1 x1 then some s1 else ((m_sl_Index_Sstring_string_l1 N p0 p1 k) (IntKind.i64.wrap (s1 + 1))))) else some (-1))
def m_sl_Index_Sstring_string (N : Nat) (p0 : (List ByteArray)) (p1 : ByteArray) : Option (Int) :=
  m_sl_Index_Sstring_string_l1 N p0 p1 N 0
/-! slices.Contains[[]string,string] -/
def m_sl_Contains_Sstring_string (N : Nat) (p0 : (List ByteArray)) (p1 : ByteArray) : Option (Bool) :=
  ((m_sl_Index_Sstring_string N p0 p1).bind fun x1 => some (decide (0 ≤ x1)))
/-! impl.addOnce -/
def m_i_addOnce (N : Nat) (p0 : (List ByteArray)) (p1 : ByteArray) : Option ((List ByteArray)) :=
  ((m_sl_Contains_Sstring_string N p0 p1).bind fun x1 => (if x1 then some p0 else ((app p0 ([p1] : List ByteArray)).bind fun x2 => some x2)))
/-! impl.addVars -/
def m_i_addVars_l1 (N : Nat) (p1 : (List TArg)) : Nat → (List ByteArray) → Int → Option ((List ByteArray))
  | 0, _, _ => none
  | k + 1, s1, s2 =>
    (if decide (s2 < (p1.length : Int)) then ((idx p1 s2).bind fun x1 => (if decide (x1.K = 1) then ((m_i_addOnce N s1 x1.S).bind fun x2 => ((m_i_addVars_l1 N p1 k) x2 (IntKind.i64.wrap (s2 + 1)))) else ((m_i_addVars_l1 N p1 k) s1 (IntKind.i64.wrap (s2 + 1))))) else some s1)
def m_i_addVars (N : Nat) (p0 : (List ByteArray)) (p1 : (List TArg)) : Option ((List ByteArray)) :=
  m_i_addVars_l1 N p1 N p0 0
/-! impl.PosVars -/
def m_i_PosVars_l1 (N : Nat) (p0 : TRule) : Nat → (List ByteArray) → Int → Option ((List ByteArray))
  | 0, _, _ => none
  | k + 1, s1, s2 =>
    (if decide (s2 < (p0.Pats.length : Int)) then ((idx p0.Pats s2).bind fun x1 => (if !x1.Not then ((m_i_addVars N s1 x1.Args).bind fun x2 => ((m_i_PosVars_l1 N p0 k) x2 (IntKind.i64.wrap (s2 + 1)))) else ((m_i_PosVars_l1 N p0 k) s1 (IntKind.i64.wrap (s2 + 1))))) else some s1)
def m_i_PosVars (N : Nat) (p0 : TRule) : Option ((List ByteArray)) :=
  m_i_PosVars_l1 N p0 N ([] : List ByteArray) 0
/-! impl.KindsOf -/
def m_i_KindsOf_l1 (N : Nat) (p0 : TRule) : Nat → (List ByteArray) → Int → Option ((List ByteArray))
  | 0, _, _ => none
  | k + 1, s1, s2 =>
    (if decide (s2 < (p0.Pats.length : Int)) then ((idx p0.Pats s2).bind fun x1 => ((m_i_addOnce N s1 x1.Kind).bind fun x2 => ((m_i_KindsOf_l1 N p0 k) x2 (IntKind.i64.wrap (s2 + 1))))) else some s1)
def m_i_KindsOf (N : Nat) (p0 : TRule) : Option ((List ByteArray)) :=
  m_i_KindsOf_l1 N p0 N ([] : List ByteArray) 0
/-! impl.VarsOf -/
def m_i_VarsOf (N : Nat) (p0 : TPat) : Option ((List ByteArray)) :=
  ((m_i_addVars N ([] : List ByteArray) p0.Args).bind fun x1 => some x1)
/-! laws.hasText -/
def m_l_hasText_l1 (N : Nat) (p0 : (List ByteArray)) (p1 : ByteArray) : Nat → Int → Option (Bool)
  | 0, _ => none
  | k + 1, s1 =>
    (if decide (s1 < (p0.length : Int)) then ((idx p0 s1).bind fun x1 => (if seq x1 p1 then some true else ((m_l_hasText_l1 N p0 p1 k) (IntKind.i64.wrap (s1 + 1))))) else some false)
def m_l_hasText (N : Nat) (p0 : (List ByteArray)) (p1 : ByteArray) : Option (Bool) :=
  m_l_hasText_l1 N p0 p1 N 0
/-! laws.sameTexts -/
def m_l_sameTexts_l1 (N : Nat) (p0 : (List ByteArray)) (p1 : (List ByteArray)) : Nat → Int → Option (Bool)
  | 0, _ => none
  | k + 1, s1 =>
    (if decide (s1 < (p0.length : Int)) then ((idx p0 s1).bind fun x1 => ((idx p1 s1).bind fun x2 => (if !seq x1 x2 then some false else ((m_l_sameTexts_l1 N p0 p1 k) (IntKind.i64.wrap (s1 + 1)))))) else some true)
def m_l_sameTexts (N : Nat) (p0 : (List ByteArray)) (p1 : (List ByteArray)) : Option (Bool) :=
  (if !decide ((p0.length : Int) = (p1.length : Int)) then some false else m_l_sameTexts_l1 N p0 p1 N 0)
/-! spec.KindsOf -/
def m_s_KindsOf_l1 (N : Nat) (p0 : TRule) : Nat → (List ByteArray) → Int → Option ((List ByteArray))
  | 0, _, _ => none
  | k + 1, s1, s2 =>
    (if decide (s2 < (p0.Pats.length : Int)) then ((idx p0.Pats s2).bind fun x1 => ((m_s_l6Has N s1 x1.Kind).bind fun x2 => (if !x2 then ((idx p0.Pats s2).bind fun x3 => ((app s1 ([x3.Kind] : List ByteArray)).bind fun x4 => ((m_s_KindsOf_l1 N p0 k) x4 (IntKind.i64.wrap (s2 + 1))))) else ((m_s_KindsOf_l1 N p0 k) s1 (IntKind.i64.wrap (s2 + 1)))))) else some s1)
def m_s_KindsOf (N : Nat) (p0 : TRule) : Option ((List ByteArray)) :=
  m_s_KindsOf_l1 N p0 N ([] : List ByteArray) 0
/-! laws.FnRuleVars -/
def m_l_FnRuleVars_l2 (N : Nat) (x2 : TRule) (x4 : (List ByteArray)) (x5 : (List ByteArray)) (s1 : Int) (K1 : Int → Option (Bool)) (x7 : (List ByteArray)) : Nat → Int → Option (Bool)
  | 0, _ => none
  | k + 1, s2 =>
    ((if decide (s2 < (x7.length : Int)) then ((idx x2.Pats s1).bind fun x8 => some (!x8.Not)) else some false).bind fun b1 => (if b1 then ((idx x7 s2).bind fun x9 => ((m_l_hasText N x4 x9).bind fun x10 => (if !x10 then some false else ((m_l_FnRuleVars_l2 N x2 x4 x5 s1 K1 x7 k) (IntKind.i64.wrap (s2 + 1)))))) else ((idx x2.Pats s1).bind fun x11 => ((m_l_hasText N x5 x11.Kind).bind fun x12 => (if !x12 then some false else (K1 (IntKind.i64.wrap (s1 + 1))))))))
def m_l_FnRuleVars_j4 (N : Nat) (s4 : Bool) : Option (Bool) :=
  some s4
def m_l_FnRuleVars_l3 (N : Nat) (x2 : TRule) (x4 : (List ByteArray)) (x5 : (List ByteArray)) : Nat → Int → Option (Bool)
  | 0, _ => none
  | k + 1, s3 =>
    (if decide (s3 < (x4.length : Int)) then ((ssl x4 0 s3).bind fun x13 => ((idx x4 s3).bind fun x14 => ((m_l_hasText N x13 x14).bind fun x15 => (if x15 then some false else ((m_l_FnRuleVars_l3 N x2 x4 x5 k) (IntKind.i64.wrap (s3 + 1))))))) else ((m_s_PosVars N x2).bind fun x16 => ((m_l_sameTexts N x4 x16).bind fun x17 => (if x17 then ((m_s_KindsOf N x2).bind fun x18 => ((m_l_sameTexts N x5 x18).bind fun x19 => m_l_FnRuleVars_j4 N x19)) else m_l_FnRuleVars_j4 N false))))
def m_l_FnRuleVars_l1 (N : Nat) (x2 : TRule) (x4 : (List ByteArray)) (x5 : (List ByteArray)) : Nat → Int → Option (Bool)
  | 0, _ => none
  | k + 1, s1 =>
    (if decide (s1 < (x2.Pats.length : Int)) then ((idx x2.Pats s1).bind fun x6 => ((m_i_VarsOf N x6).bind fun x7 => m_l_FnRuleVars_l2 N x2 x4 x5 s1 (m_l_FnRuleVars_l1 N x2 x4 x5 k) x7 N 0)) else m_l_FnRuleVars_l3 N x2 x4 x5 N 0)
def m_l_FnRuleVars (N : Nat) (p0 : (List Int)) : Option (Bool) :=
  ((m_l_big N p0).bind fun x1 => (if x1 then some true else ((m_s_DrawPosVars N p0).bind fun x2 => ((m_i_PosVars N x2).bind fun x4 => ((m_i_KindsOf N x2).bind fun x5 => m_l_FnRuleVars_l1 N x2 x4 x5 N 0)))))
end Go.Proofs.Ytmhckcoabhahpaa
