/- Printed by a program of ours: Lean functions of plain data for the Go functions. -/
import Derived.Test.YtmhckcoabhahpaaEI
namespace Go.Proofs.Ytmhckcoabhahpaa
open Eng
set_option linter.unusedVariables false
set_option linter.unusedSimpArgs false

structure TVal where
  K : Int
  N : Int
  S : ByteArray
  deriving DecidableEq
def RTVal (Φ : Hp) (F : List Nat) (cs : List Value) (x : TVal) : Prop := cs = [.int .i64 x.K, .int .i64 x.N, .string x.S] ∧ F = []
theorem RTVal.lasts : Lasts RTVal := fun _ _ _ _ _ _ _ _ h => h
theorem RTVal.knows : Knows RTVal := fun _ _ _ _ h => h.2 ▸ Kw.nil
theorem RTVal.flat : Flat RTVal := fun _ _ _ _ h => h.2
theorem RTVal.one : Ones RTVal := fun _ _ _ _ h => by obtain ⟨rfl, -⟩ := h; exact One.all ⟨rfl, rfl, rfl, trivial⟩
structure TBind where
  Name : ByteArray
  V : TVal
  deriving DecidableEq
def RTBind (Φ : Hp) (F : List Nat) (cs : List Value) (x : TBind) : Prop := cs = [.string x.Name, .int .i64 x.V.K, .int .i64 x.V.N, .string x.V.S] ∧ F = []
theorem RTBind.lasts : Lasts RTBind := fun _ _ _ _ _ _ _ _ h => h
theorem RTBind.knows : Knows RTBind := fun _ _ _ _ h => h.2 ▸ Kw.nil
theorem RTBind.flat : Flat RTBind := fun _ _ _ _ h => h.2
theorem RTBind.one : Ones RTBind := fun _ _ _ _ h => by obtain ⟨rfl, -⟩ := h; exact One.all ⟨rfl, rfl, rfl, rfl, trivial⟩
structure TMatch where
  Rule : Int
  Ids : (List Int)
  Binds : (List TBind)
  deriving DecidableEq
def RTMatch (Φ : Hp) (F : List Nat) (cs : List Value) (x : TMatch) : Prop :=
  ∃ (s0 : Value) (F0 : List Nat) (s1 : Value) (F1 : List Nat), cs = [.int .i64 x.Rule, s0, s1] ∧ F = F0 ++ (F1) ∧ RSl (RI .i64) 1 Φ F0 s0 x.Ids ∧ RSl RTBind 4 Φ F1 s1 x.Binds
theorem RTMatch.lasts : Lasts RTMatch := fun X Φ Φ' F cs x hf hd ⟨s0, F0, s1, F1, hc, hF, h0, h1⟩ => by
  rw [hF] at hd
  exact ⟨s0, F0, s1, F1, hc, hF, h0.frame RI.lasts hf (fun k hk => hd k (by simp [hk])), h1.frame RTBind.lasts hf (fun k hk => hd k (by simp [hk]))⟩
theorem RTMatch.knows : Knows RTMatch := fun Φ F cs x ⟨s0, F0, s1, F1, hc, hF, h0, h1⟩ => hF ▸ (h0.kn.app h1.kn)
theorem RTMatch.one : Ones RTMatch := fun _ _ _ _ h => by obtain ⟨s0, F0, s1, F1, rfl, -, h0, h1⟩ := h; exact One.all ⟨rfl, h0.one, h1.one, trivial⟩
def OTMatch (Φ : Hp) (F : List Nat) (cs : List Value) (x : TMatch) : Prop :=
  ∃ (s0 : Value) (s1 : Value), cs = [.int .i64 x.Rule, s0, s1] ∧ F = (ob s0 ++ []) ++ ((ob s1 ++ [])) ∧ OSl (RI .i64) 3 1 Φ [] s0 x.Ids ∧ OSl RTBind 142 4 Φ [] s1 x.Binds
theorem OTMatch.lasts : Lasts OTMatch := fun X Φ Φ' F cs x hf hd ⟨s0, s1, hc, hF, h0, h1⟩ => by
  rw [hF] at hd
  exact ⟨s0, s1, hc, hF, h0.frame RI.lasts hf (fun k hk => hd k (by simp [hk])) (Dj.nil _), h1.frame RTBind.lasts hf (fun k hk => hd k (by simp [hk])) (Dj.nil _)⟩
theorem OTMatch.knows : Knows OTMatch := fun Φ F cs x ⟨s0, s1, hc, hF, h0, h1⟩ => hF ▸ ((h0.knO.app h0.kn).app (h1.knO.app h1.kn))
theorem OTMatch.one : Ones OTMatch := fun _ _ _ _ h => by obtain ⟨s0, s1, rfl, -, h0, h1⟩ := h; exact One.all ⟨rfl, h0.one, h1.one, trivial⟩
theorem OTMatch.gives : Gives OTMatch RTMatch := fun Φ F cs x ⟨s0, s1, hc, hF, h0, h1⟩ => ⟨s0, ob s0 ++ [], s1, ob s1 ++ [], hc, hF, h0.rslG (Gives.refl _), h1.rslG (Gives.refl _)⟩
structure TArg where
  K : Int
  S : ByteArray
  V : TVal
  deriving DecidableEq
def RTArg (Φ : Hp) (F : List Nat) (cs : List Value) (x : TArg) : Prop := cs = [.int .i64 x.K, .string x.S, .int .i64 x.V.K, .int .i64 x.V.N, .string x.V.S] ∧ F = []
theorem RTArg.lasts : Lasts RTArg := fun _ _ _ _ _ _ _ _ h => h
theorem RTArg.knows : Knows RTArg := fun _ _ _ _ h => h.2 ▸ Kw.nil
theorem RTArg.flat : Flat RTArg := fun _ _ _ _ h => h.2
theorem RTArg.one : Ones RTArg := fun _ _ _ _ h => by obtain ⟨rfl, -⟩ := h; exact One.all ⟨rfl, rfl, rfl, rfl, rfl, trivial⟩
structure TExpr where
  Op : ByteArray
  L : TArg
  R : TArg
  deriving DecidableEq
def RTExpr (Φ : Hp) (F : List Nat) (cs : List Value) (x : TExpr) : Prop := cs = [.string x.Op, .int .i64 x.L.K, .string x.L.S, .int .i64 x.L.V.K, .int .i64 x.L.V.N, .string x.L.V.S, .int .i64 x.R.K, .string x.R.S, .int .i64 x.R.V.K, .int .i64 x.R.V.N, .string x.R.V.S] ∧ F = []
theorem RTExpr.lasts : Lasts RTExpr := fun _ _ _ _ _ _ _ _ h => h
theorem RTExpr.knows : Knows RTExpr := fun _ _ _ _ h => h.2 ▸ Kw.nil
theorem RTExpr.flat : Flat RTExpr := fun _ _ _ _ h => h.2
theorem RTExpr.one : Ones RTExpr := fun _ _ _ _ h => by obtain ⟨rfl, -⟩ := h; exact One.all ⟨rfl, rfl, rfl, rfl, rfl, rfl, rfl, rfl, rfl, rfl, rfl, trivial⟩
structure TAct where
  Kind : Int
  Name : ByteArray
  Args : (List TExpr)
  N : Int
  Undo : ByteArray
  deriving DecidableEq
def RTAct (Φ : Hp) (F : List Nat) (cs : List Value) (x : TAct) : Prop :=
  ∃ (s0 : Value) (F0 : List Nat), cs = [.int .i64 x.Kind, .string x.Name, s0, .int .i64 x.N, .string x.Undo] ∧ F = F0 ∧ RSl RTExpr 11 Φ F0 s0 x.Args
theorem RTAct.lasts : Lasts RTAct := fun X Φ Φ' F cs x hf hd ⟨s0, F0, hc, hF, h0⟩ => by
  rw [hF] at hd
  exact ⟨s0, F0, hc, hF, h0.frame RTExpr.lasts hf (fun k hk => hd k (by simp [hk]))⟩
theorem RTAct.knows : Knows RTAct := fun Φ F cs x ⟨s0, F0, hc, hF, h0⟩ => hF ▸ h0.kn
theorem RTAct.one : Ones RTAct := fun _ _ _ _ h => by obtain ⟨s0, F0, rfl, -, h0⟩ := h; exact One.all ⟨rfl, rfl, h0.one, rfl, rfl, trivial⟩
def OTAct (Φ : Hp) (F : List Nat) (cs : List Value) (x : TAct) : Prop :=
  ∃ (s0 : Value), cs = [.int .i64 x.Kind, .string x.Name, s0, .int .i64 x.N, .string x.Undo] ∧ F = (ob s0 ++ []) ∧ OSl RTExpr 85 11 Φ [] s0 x.Args
theorem OTAct.lasts : Lasts OTAct := fun X Φ Φ' F cs x hf hd ⟨s0, hc, hF, h0⟩ => by
  rw [hF] at hd
  exact ⟨s0, hc, hF, h0.frame RTExpr.lasts hf (fun k hk => hd k (by simp [hk])) (Dj.nil _)⟩
theorem OTAct.knows : Knows OTAct := fun Φ F cs x ⟨s0, hc, hF, h0⟩ => hF ▸ (h0.knO.app h0.kn)
theorem OTAct.one : Ones OTAct := fun _ _ _ _ h => by obtain ⟨s0, rfl, -, h0⟩ := h; exact One.all ⟨rfl, rfl, h0.one, rfl, rfl, trivial⟩
theorem OTAct.gives : Gives OTAct RTAct := fun Φ F cs x ⟨s0, hc, hF, h0⟩ => ⟨s0, ob s0 ++ [], hc, hF, h0.rslG (Gives.refl _)⟩
def eqT_TVal (x y : TVal) : Bool := ((x.K == y.K) && ((x.N == y.N) && (seq x.S y.S && true)))
theorem seq_dec (a b : ByteArray) : seq a b = decide (a = b) := by
  unfold seq
  by_cases h : a = b
  · subst h; simp
  · have : ¬ a.toList = b.toList := fun e => h (by rw [ByteArray.toList_eq, ByteArray.toList_eq] at e; exact ByteArray.ext (Array.toList_inj.1 e))
    simp [h, this]
theorem eqT_TVal_eq (x y : TVal) : eqT_TVal x y = decide (x = y) := by
  obtain ⟨a0, a1, a2⟩ := x; obtain ⟨b0, b1, b2⟩ := y
  rw [Bool.eq_iff_iff]
  simp only [eqT_TVal, seq_dec, Bool.and_true, Bool.and_eq_true, beq_iff_eq, decide_eq_true_eq, TVal.mk.injEq, and_assoc]
def eqT_TArg (x y : TArg) : Bool := ((x.K == y.K) && (seq x.S y.S && ((x.V.K == y.V.K) && ((x.V.N == y.V.N) && (seq x.V.S y.V.S && true)))))

theorem eqT_TArg_eq (x y : TArg) : eqT_TArg x y = decide (x = y) := by
  obtain ⟨a0, a1, ⟨a20, a21, a22⟩⟩ := x; obtain ⟨b0, b1, ⟨b20, b21, b22⟩⟩ := y
  rw [Bool.eq_iff_iff]
  simp only [eqT_TArg, seq_dec, Bool.and_true, Bool.and_eq_true, beq_iff_eq, decide_eq_true_eq, TArg.mk.injEq, TVal.mk.injEq, and_assoc]
structure TPat where
  Kind : ByteArray
  Args : (List TArg)
  Not : Bool
  deriving DecidableEq
def RTPat (Φ : Hp) (F : List Nat) (cs : List Value) (x : TPat) : Prop :=
  ∃ (s0 : Value) (F0 : List Nat), cs = [.string x.Kind, s0, .bool x.Not] ∧ F = F0 ∧ RSl RTArg 5 Φ F0 s0 x.Args
theorem RTPat.lasts : Lasts RTPat := fun X Φ Φ' F cs x hf hd ⟨s0, F0, hc, hF, h0⟩ => by
  rw [hF] at hd
  exact ⟨s0, F0, hc, hF, h0.frame RTArg.lasts hf (fun k hk => hd k (by simp [hk]))⟩
theorem RTPat.knows : Knows RTPat := fun Φ F cs x ⟨s0, F0, hc, hF, h0⟩ => hF ▸ h0.kn
theorem RTPat.one : Ones RTPat := fun _ _ _ _ h => by obtain ⟨s0, F0, rfl, -, h0⟩ := h; exact One.all ⟨rfl, h0.one, rfl, trivial⟩
def OTPat (Φ : Hp) (F : List Nat) (cs : List Value) (x : TPat) : Prop :=
  ∃ (s0 : Value), cs = [.string x.Kind, s0, .bool x.Not] ∧ F = (ob s0 ++ []) ∧ OSl RTArg 83 5 Φ [] s0 x.Args
theorem OTPat.lasts : Lasts OTPat := fun X Φ Φ' F cs x hf hd ⟨s0, hc, hF, h0⟩ => by
  rw [hF] at hd
  exact ⟨s0, hc, hF, h0.frame RTArg.lasts hf (fun k hk => hd k (by simp [hk])) (Dj.nil _)⟩
theorem OTPat.knows : Knows OTPat := fun Φ F cs x ⟨s0, hc, hF, h0⟩ => hF ▸ (h0.knO.app h0.kn)
theorem OTPat.one : Ones OTPat := fun _ _ _ _ h => by obtain ⟨s0, rfl, -, h0⟩ := h; exact One.all ⟨rfl, h0.one, rfl, trivial⟩
theorem OTPat.gives : Gives OTPat RTPat := fun Φ F cs x ⟨s0, hc, hF, h0⟩ => ⟨s0, ob s0 ++ [], hc, hF, h0.rslG (Gives.refl _)⟩
structure TCond where
  Op : Int
  L : TArg
  R : TArg
  deriving DecidableEq
def RTCond (Φ : Hp) (F : List Nat) (cs : List Value) (x : TCond) : Prop := cs = [.int .i64 x.Op, .int .i64 x.L.K, .string x.L.S, .int .i64 x.L.V.K, .int .i64 x.L.V.N, .string x.L.V.S, .int .i64 x.R.K, .string x.R.S, .int .i64 x.R.V.K, .int .i64 x.R.V.N, .string x.R.V.S] ∧ F = []
theorem RTCond.lasts : Lasts RTCond := fun _ _ _ _ _ _ _ _ h => h
theorem RTCond.knows : Knows RTCond := fun _ _ _ _ h => h.2 ▸ Kw.nil
theorem RTCond.flat : Flat RTCond := fun _ _ _ _ h => h.2
theorem RTCond.one : Ones RTCond := fun _ _ _ _ h => by obtain ⟨rfl, -⟩ := h; exact One.all ⟨rfl, rfl, rfl, rfl, rfl, rfl, rfl, rfl, rfl, rfl, rfl, trivial⟩
structure TRule where
  Name : ByteArray
  Sal : Int
  Pats : (List TPat)
  Conds : (List TCond)
  Acts : (List TAct)
  deriving DecidableEq
def RTRule (Φ : Hp) (F : List Nat) (cs : List Value) (x : TRule) : Prop :=
  ∃ (s0 : Value) (F0 : List Nat) (s1 : Value) (F1 : List Nat) (s2 : Value) (F2 : List Nat), cs = [.string x.Name, .int .i64 x.Sal, s0, s1, s2] ∧ F = F0 ++ (F1 ++ (F2)) ∧ RSl RTPat 3 Φ F0 s0 x.Pats ∧ RSl RTCond 11 Φ F1 s1 x.Conds ∧ RSl RTAct 5 Φ F2 s2 x.Acts
theorem RTRule.lasts : Lasts RTRule := fun X Φ Φ' F cs x hf hd ⟨s0, F0, s1, F1, s2, F2, hc, hF, h0, h1, h2⟩ => by
  rw [hF] at hd
  exact ⟨s0, F0, s1, F1, s2, F2, hc, hF, h0.frame RTPat.lasts hf (fun k hk => hd k (by simp [hk])), h1.frame RTCond.lasts hf (fun k hk => hd k (by simp [hk])), h2.frame RTAct.lasts hf (fun k hk => hd k (by simp [hk]))⟩
theorem RTRule.knows : Knows RTRule := fun Φ F cs x ⟨s0, F0, s1, F1, s2, F2, hc, hF, h0, h1, h2⟩ => hF ▸ (h0.kn.app (h1.kn.app h2.kn))
theorem RTRule.one : Ones RTRule := fun _ _ _ _ h => by obtain ⟨s0, F0, s1, F1, s2, F2, rfl, -, h0, h1, h2⟩ := h; exact One.all ⟨rfl, rfl, h0.one, h1.one, h2.one, trivial⟩
def OTRule (Φ : Hp) (F : List Nat) (cs : List Value) (x : TRule) : Prop :=
  ∃ (s0 : Value) (D0 : List Nat) (s1 : Value) (s2 : Value) (D2 : List Nat), cs = [.string x.Name, .int .i64 x.Sal, s0, s1, s2] ∧ F = (ob s0 ++ D0) ++ ((ob s1 ++ []) ++ ((ob s2 ++ D2))) ∧ OSl OTPat 37 3 Φ D0 s0 x.Pats ∧ OSl RTCond 206 11 Φ [] s1 x.Conds ∧ OSl OTAct 96 5 Φ D2 s2 x.Acts
theorem OTRule.lasts : Lasts OTRule := fun X Φ Φ' F cs x hf hd ⟨s0, D0, s1, s2, D2, hc, hF, h0, h1, h2⟩ => by
  rw [hF] at hd
  exact ⟨s0, D0, s1, s2, D2, hc, hF, h0.frame OTPat.lasts hf (fun k hk => hd k (by simp [hk])) (fun k hk => hd k (by simp [hk])), h1.frame RTCond.lasts hf (fun k hk => hd k (by simp [hk])) (Dj.nil _), h2.frame OTAct.lasts hf (fun k hk => hd k (by simp [hk])) (fun k hk => hd k (by simp [hk]))⟩
theorem OTRule.knows : Knows OTRule := fun Φ F cs x ⟨s0, D0, s1, s2, D2, hc, hF, h0, h1, h2⟩ => hF ▸ ((h0.knO.app h0.kn).app ((h1.knO.app h1.kn).app (h2.knO.app h2.kn)))
theorem OTRule.one : Ones OTRule := fun _ _ _ _ h => by obtain ⟨s0, D0, s1, s2, D2, rfl, -, h0, h1, h2⟩ := h; exact One.all ⟨rfl, rfl, h0.one, h1.one, h2.one, trivial⟩
theorem OTRule.gives : Gives OTRule RTRule := fun Φ F cs x ⟨s0, D0, s1, s2, D2, hc, hF, h0, h1, h2⟩ => ⟨s0, ob s0 ++ D0, s1, ob s1 ++ [], s2, ob s2 ++ D2, hc, hF, h0.rslG OTPat.gives, h1.rslG (Gives.refl _), h2.rslG OTAct.gives⟩
structure Tl1Cur where
  b : (List Int)
  i : Int
  h : Int
  deriving DecidableEq
def RTl1Cur (Φ : Hp) (F : List Nat) (cs : List Value) (x : Tl1Cur) : Prop :=
  ∃ (s0 : Value) (F0 : List Nat), cs = [s0, .int .i64 x.i, .int .i64 x.h] ∧ F = F0 ∧ RSl (RI .u8) 1 Φ F0 s0 x.b
theorem RTl1Cur.lasts : Lasts RTl1Cur := fun X Φ Φ' F cs x hf hd ⟨s0, F0, hc, hF, h0⟩ => by
  rw [hF] at hd
  exact ⟨s0, F0, hc, hF, h0.frame RI.lasts hf (fun k hk => hd k (by simp [hk]))⟩
theorem RTl1Cur.knows : Knows RTl1Cur := fun Φ F cs x ⟨s0, F0, hc, hF, h0⟩ => hF ▸ h0.kn
theorem RTl1Cur.one : Ones RTl1Cur := fun _ _ _ _ h => by obtain ⟨s0, F0, rfl, -, h0⟩ := h; exact One.all ⟨h0.one, rfl, rfl, trivial⟩
def OTl1Cur (Φ : Hp) (F : List Nat) (cs : List Value) (x : Tl1Cur) : Prop :=
  ∃ (s0 : Value), cs = [s0, .int .i64 x.i, .int .i64 x.h] ∧ F = (ob s0 ++ []) ∧ OSl (RI .u8) 5 1 Φ [] s0 x.b
theorem OTl1Cur.lasts : Lasts OTl1Cur := fun X Φ Φ' F cs x hf hd ⟨s0, hc, hF, h0⟩ => by
  rw [hF] at hd
  exact ⟨s0, hc, hF, h0.frame RI.lasts hf (fun k hk => hd k (by simp [hk])) (Dj.nil _)⟩
theorem OTl1Cur.knows : Knows OTl1Cur := fun Φ F cs x ⟨s0, hc, hF, h0⟩ => hF ▸ (h0.knO.app h0.kn)
theorem OTl1Cur.one : Ones OTl1Cur := fun _ _ _ _ h => by obtain ⟨s0, rfl, -, h0⟩ := h; exact One.all ⟨h0.one, rfl, rfl, trivial⟩
theorem OTl1Cur.gives : Gives OTl1Cur RTl1Cur := fun Φ F cs x ⟨s0, hc, hF, h0⟩ => ⟨s0, ob s0 ++ [], hc, hF, h0.rslG (Gives.refl _)⟩
/-! laws.szVal -/
def m_l_szVal (N : Nat) (p0 : TVal) (p1 : Int) : Option (Int) :=
  (if decide (IntKind.i64.wrap (p1 - (p0.S.size : Int)) < 0) then some (-1) else some (IntKind.i64.wrap (p1 - (p0.S.size : Int))))
/-! laws.szBind -/
def m_l_szBind (N : Nat) (p0 : TBind) (p1 : Int) : Option (Int) :=
  (if decide (IntKind.i64.wrap (p1 - (p0.Name.size : Int)) < 0) then some (-1) else ((m_l_szVal N p0.V (IntKind.i64.wrap (p1 - (p0.Name.size : Int)))).bind fun x1 => (if decide (x1 < 0) then some (-1) else some x1)))
/-! laws.szBindS -/
def m_l_szBindS_l1 (N : Nat) (p0 : (List TBind)) : Nat → Int → Int → Option (Int)
  | 0, _, _ => none
  | k + 1, s1, s2 =>
    (if decide (s2 < (p0.length : Int)) then ((idx p0 s2).bind fun x1 => ((m_l_szBind N x1 s1).bind fun x2 => (if decide (x2 < 0) then some (-1) else ((m_l_szBindS_l1 N p0 k) x2 (IntKind.i64.wrap (s2 + 1)))))) else some s1)
def m_l_szBindS (N : Nat) (p0 : (List TBind)) (p1 : Int) : Option (Int) :=
  (if decide (IntKind.i64.wrap (p1 - (p0.length : Int)) < 0) then some (-1) else m_l_szBindS_l1 N p0 N (IntKind.i64.wrap (p1 - (p0.length : Int))) 0)
/-! laws.szIntS -/
def m_l_szIntS (N : Nat) (p0 : (List Int)) (p1 : Int) : Option (Int) :=
  (if decide (IntKind.i64.wrap (p1 - (p0.length : Int)) < 0) then some (-1) else some (IntKind.i64.wrap (p1 - (p0.length : Int))))
/-! laws.szMatch -/
def m_l_szMatch (N : Nat) (p0 : TMatch) (p1 : Int) : Option (Int) :=
  ((m_l_szIntS N p0.Ids p1).bind fun x1 => (if decide (x1 < 0) then some (-1) else ((m_l_szBindS N p0.Binds x1).bind fun x2 => (if decide (x2 < 0) then some (-1) else some x2))))
/-! laws.szMatchS -/
def m_l_szMatchS_l1 (N : Nat) (p0 : (List TMatch)) : Nat → Int → Int → Option (Int)
  | 0, _, _ => none
  | k + 1, s1, s2 =>
    (if decide (s2 < (p0.length : Int)) then ((idx p0 s2).bind fun x1 => ((m_l_szMatch N x1 s1).bind fun x2 => (if decide (x2 < 0) then some (-1) else ((m_l_szMatchS_l1 N p0 k) x2 (IntKind.i64.wrap (s2 + 1)))))) else some s1)
def m_l_szMatchS (N : Nat) (p0 : (List TMatch)) (p1 : Int) : Option (Int) :=
  (if decide (IntKind.i64.wrap (p1 - (p0.length : Int)) < 0) then some (-1) else m_l_szMatchS_l1 N p0 N (IntKind.i64.wrap (p1 - (p0.length : Int))) 0)
/-! spec.l13Has -/
def m_s_l13Has_l1 (N : Nat) (p0 : (List Int)) (p1 : Int) : Nat → Int → Option (Bool)
  | 0, _ => none
  | k + 1, s1 =>
    (if decide (s1 < (p0.length : Int)) then ((idx p0 s1).bind fun x1 => (if decide (x1 = p1) then some true else ((m_s_l13Has_l1 N p0 p1 k) (IntKind.i64.wrap (s1 + 1))))) else some false)
def m_s_l13Has (N : Nat) (p0 : (List Int)) (p1 : Int) : Option (Bool) :=
  m_s_l13Has_l1 N p0 p1 N 0
/-! spec.l15CopyMatch -/
def m_s_l15CopyMatch_j1 (N : Nat) (s1 : (List Int)) (s2 : (List TBind)) (s3 : Int) : Option (TMatch) :=
  some (⟨s3, s1, s2⟩ : TMatch)
def m_s_l15CopyMatch (N : Nat) (p0 : TMatch) : Option (TMatch) :=
  ((app ([] : List Int) p0.Ids).bind fun x3 => ((app ([] : List TBind) p0.Binds).bind fun x4 => m_s_l15CopyMatch_j1 N x3 x4 p0.Rule))
/-! spec.Forget -/
def m_s_Forget_l1 (N : Nat) (p0 : (List TMatch)) (p1 : Int) : Nat → (List TMatch) → Int → Option ((List TMatch))
  | 0, _, _ => none
  | k + 1, s1, s2 =>
    (if decide (s2 < (p0.length : Int)) then ((idx p0 s2).bind fun x1 => ((m_s_l13Has N x1.Ids p1).bind fun x2 => (if !x2 then ((idx p0 s2).bind fun x3 => ((m_s_l15CopyMatch N x3).bind fun x4 => ((app s1 ([x4] : List TMatch)).bind fun x5 => ((m_s_Forget_l1 N p0 p1 k) x5 (IntKind.i64.wrap (s2 + 1)))))) else ((m_s_Forget_l1 N p0 p1 k) s1 (IntKind.i64.wrap (s2 + 1)))))) else some s1)
def m_s_Forget (N : Nat) (p0 : (List TMatch)) (p1 : Int) : Option ((List TMatch)) :=
  m_s_Forget_l1 N p0 p1 N ([] : List TMatch) 0
/-! laws.toVal -/
def m_l_toVal (N : Nat) (p0 : TVal) : Option (TVal) :=
  some p0
/-! laws.toBind -/
def m_l_toBind (N : Nat) (p0 : TBind) : Option (TBind) :=
  ((m_l_toVal N p0.V).bind fun x1 => some (⟨p0.Name, x1⟩ : TBind))
/-! laws.toBindS -/
def m_l_toBindS_l1 (N : Nat) (p0 : (List TBind)) : Nat → (List TBind) → Int → Option ((List TBind))
  | 0, _, _ => none
  | k + 1, s1, s2 =>
    (if decide (s2 < (p0.length : Int)) then ((idx p0 s2).bind fun x2 => ((m_l_toBind N x2).bind fun x3 => ((idx s1 s2).bind fun x4 => ((m_l_toBindS_l1 N p0 k) (s1.set s2.toNat x3) (IntKind.i64.wrap (s2 + 1)))))) else some s1)
def m_l_toBindS (N : Nat) (p0 : (List TBind)) : Option ((List TBind)) :=
  ((mk (⟨(⟨#[]⟩ : ByteArray), (⟨0, 0, (⟨#[]⟩ : ByteArray)⟩ : TVal)⟩ : TBind) (p0.length : Int)).bind fun x1 => m_l_toBindS_l1 N p0 N x1 0)
/-! laws.toIntS -/
def m_l_toIntS_l1 (N : Nat) (p0 : (List Int)) : Nat → (List Int) → Int → Option ((List Int))
  | 0, _, _ => none
  | k + 1, s1, s2 =>
    (if decide (s2 < (p0.length : Int)) then ((idx p0 s2).bind fun x2 => ((idx s1 s2).bind fun x3 => ((m_l_toIntS_l1 N p0 k) (s1.set s2.toNat x2) (IntKind.i64.wrap (s2 + 1))))) else some s1)
def m_l_toIntS (N : Nat) (p0 : (List Int)) : Option ((List Int)) :=
  ((mk 0 (p0.length : Int)).bind fun x1 => m_l_toIntS_l1 N p0 N x1 0)
/-! laws.toMatch -/
def m_l_toMatch (N : Nat) (p0 : TMatch) : Option (TMatch) :=
  ((m_l_toIntS N p0.Ids).bind fun x1 => ((m_l_toBindS N p0.Binds).bind fun x2 => some (⟨p0.Rule, x1, x2⟩ : TMatch)))
/-! laws.toMatchS -/
def m_l_toMatchS_l1 (N : Nat) (p0 : (List TMatch)) : Nat → (List TMatch) → Int → Option ((List TMatch))
  | 0, _, _ => none
  | k + 1, s1, s2 =>
    (if decide (s2 < (p0.length : Int)) then ((idx p0 s2).bind fun x2 => ((m_l_toMatch N x2).bind fun x3 => ((idx s1 s2).bind fun x4 => ((m_l_toMatchS_l1 N p0 k) (s1.set s2.toNat x3) (IntKind.i64.wrap (s2 + 1)))))) else some s1)
def m_l_toMatchS (N : Nat) (p0 : (List TMatch)) : Option ((List TMatch)) :=
  ((mk (⟨0, ([] : List Int), ([] : List TBind)⟩ : TMatch) (p0.length : Int)).bind fun x1 => m_l_toMatchS_l1 N p0 N x1 0)
/-! slices.Index[[]int,int] -/
def m_sl_Index_Sint_int_l1 (N : Nat) (p0 : (List Int)) (p1 : Int) : Nat → Int → Option (Int)
  | 0, _ => none
  | k + 1, s1 =>
    (if decide (s1 < (p0.length : Int)) then ((idx p0 s1).bind fun x1 => (if decide (p1 = x1) then some s1 else ((m_sl_Index_Sint_int_l1 N p0 p1 k) (IntKind.i64.wrap (s1 + 1))))) else some (-1))
def m_sl_Index_Sint_int (N : Nat) (p0 : (List Int)) (p1 : Int) : Option (Int) :=
  m_sl_Index_Sint_int_l1 N p0 p1 N 0
/-! slices.Contains[[]int,int] -/
def m_sl_Contains_Sint_int (N : Nat) (p0 : (List Int)) (p1 : Int) : Option (Bool) :=
  ((m_sl_Index_Sint_int N p0 p1).bind fun x1 => some (decide (0 ≤ x1)))
/-! slices.Clone[[]impl.Bind,impl.Bind] -/
def m_sl_Clone_Si_Bind_i_Bind (N : Nat) (p0 : (List TBind)) : Option ((List TBind)) :=
  ((app ([] : List TBind) p0).bind fun x1 => some x1)
/-! slices.Clone[[]int,int] -/
def m_sl_Clone_Sint_int (N : Nat) (p0 : (List Int)) : Option ((List Int)) :=
  ((app ([] : List Int) p0).bind fun x1 => some x1)
/-! impl.copyMatch -/
def m_i_copyMatch (N : Nat) (p0 : TMatch) : Option (TMatch) :=
  ((m_sl_Clone_Sint_int N p0.Ids).bind fun x1 => ((m_sl_Clone_Si_Bind_i_Bind N p0.Binds).bind fun x2 => some (⟨p0.Rule, x1, x2⟩ : TMatch)))
/-! impl.Forget -/
def m_i_Forget_l1 (N : Nat) (p0 : (List TMatch)) (p1 : Int) : Nat → (List TMatch) → Int → Option ((List TMatch))
  | 0, _, _ => none
  | k + 1, s1, s2 =>
    (if decide (s2 < (p0.length : Int)) then ((idx p0 s2).bind fun x1 => ((m_sl_Contains_Sint_int N x1.Ids p1).bind fun x2 => (if !x2 then ((m_i_copyMatch N x1).bind fun x3 => ((app s1 ([x3] : List TMatch)).bind fun x4 => ((m_i_Forget_l1 N p0 p1 k) x4 (IntKind.i64.wrap (s2 + 1))))) else ((m_i_Forget_l1 N p0 p1 k) s1 (IntKind.i64.wrap (s2 + 1)))))) else some s1)
def m_i_Forget (N : Nat) (p0 : (List TMatch)) (p1 : Int) : Option ((List TMatch)) :=
  m_i_Forget_l1 N p0 p1 N ([] : List TMatch) 0
/-! laws.eqVal -/
def m_l_eqVal (N : Nat) (p0 : TVal) (p1 : TVal) : Option (Bool) :=
  (if !decide (p0.K = p1.K) then some false else (if !decide (p0.N = p1.N) then some false else (if !seq p0.S p1.S then some false else some true)))
/-! laws.eqBind -/
def m_l_eqBind (N : Nat) (p0 : TBind) (p1 : TBind) : Option (Bool) :=
  (if !seq p0.Name p1.Name then some false else ((m_l_eqVal N p0.V p1.V).bind fun x1 => (if !x1 then some false else some true)))
/-! laws.eqBindS -/
def m_l_eqBindS_l1 (N : Nat) (p0 : (List TBind)) (p1 : (List TBind)) : Nat → Int → Option (Bool)
  | 0, _ => none
  | k + 1, s1 =>
    (if decide (s1 < (p0.length : Int)) then ((idx p0 s1).bind fun x1 => ((idx p1 s1).bind fun x2 => ((m_l_eqBind N x1 x2).bind fun x3 => (if !x3 then some false else ((m_l_eqBindS_l1 N p0 p1 k) (IntKind.i64.wrap (s1 + 1))))))) else some true)
def m_l_eqBindS (N : Nat) (p0 : (List TBind)) (p1 : (List TBind)) : Option (Bool) :=
  (if !decide ((p0.length : Int) = (p1.length : Int)) then some false else m_l_eqBindS_l1 N p0 p1 N 0)
/-! laws.eqIntS -/
def m_l_eqIntS_l1 (N : Nat) (p0 : (List Int)) (p1 : (List Int)) : Nat → Int → Option (Bool)
  | 0, _ => none
  | k + 1, s1 =>
    (if decide (s1 < (p0.length : Int)) then ((idx p0 s1).bind fun x1 => ((idx p1 s1).bind fun x2 => (if !decide (x1 = x2) then some false else ((m_l_eqIntS_l1 N p0 p1 k) (IntKind.i64.wrap (s1 + 1)))))) else some true)
def m_l_eqIntS (N : Nat) (p0 : (List Int)) (p1 : (List Int)) : Option (Bool) :=
  (if !decide ((p0.length : Int) = (p1.length : Int)) then some false else m_l_eqIntS_l1 N p0 p1 N 0)
/-! laws.eqMatch -/
def m_l_eqMatch (N : Nat) (p0 : TMatch) (p1 : TMatch) : Option (Bool) :=
  (if !decide (p0.Rule = p1.Rule) then some false else ((m_l_eqIntS N p0.Ids p1.Ids).bind fun x1 => (if !x1 then some false else ((m_l_eqBindS N p0.Binds p1.Binds).bind fun x2 => (if !x2 then some false else some true)))))
/-! laws.eqMatchS -/
def m_l_eqMatchS_l1 (N : Nat) (p0 : (List TMatch)) (p1 : (List TMatch)) : Nat → Int → Option (Bool)
  | 0, _ => none
  | k + 1, s1 =>
    (if decide (s1 < (p0.length : Int)) then ((idx p0 s1).bind fun x1 => ((idx p1 s1).bind fun x2 => ((m_l_eqMatch N x1 x2).bind fun x3 => (if !x3 then some false else ((m_l_eqMatchS_l1 N p0 p1 k) (IntKind.i64.wrap (s1 + 1))))))) else some true)
def m_l_eqMatchS (N : Nat) (p0 : (List TMatch)) (p1 : (List TMatch)) : Option (Bool) :=
  (if !decide ((p0.length : Int) = (p1.length : Int)) then some false else m_l_eqMatchS_l1 N p0 p1 N 0)
/-! laws.markText -/
def m_l_markText_l1 (N : Nat) : Nat → Int → ByteArray → Option (ByteArray)
  | 0, _, _ => none
  | k + 1, s1, s2 =>
    (if decide (0 < s1) then ((cat (bstr ([(IntKind.u8.wrap (IntKind.i64.wrap (48 + (s1.tmod 10))))] : List Int)) s2).bind fun z1 => ((m_l_markText_l1 N k) (IntKind.i64.wrap (s1.tdiv 10)) z1)) else ((cat (⟨#[109]⟩ : ByteArray) s2).bind fun z2 => some z2))
def m_l_markText (N : Nat) (p0 : Int) : Option (ByteArray) :=
  (if decide (p0 ≤ 0) then some (⟨#[109, 48]⟩ : ByteArray) else m_l_markText_l1 N N p0 (⟨#[]⟩ : ByteArray))
/-! laws.markBindS -/
def m_l_markBindS_l1 (N : Nat) : Nat → (List TBind) → Int → Int → Option (Int × (List TBind))
  | 0, _, _, _ => none
  | k + 1, s1, s2, s3 =>
    (if decide (s3 < (s1.length : Int)) then ((m_l_markText N s2).bind fun x1 => ((idx s1 s3).bind fun x2 => ((m_l_markText N (IntKind.i64.wrap ((IntKind.i64.wrap ((IntKind.i64.wrap (s2 + 1)) + 1)) + 1))).bind fun x3 => ((m_l_markBindS_l1 N k) (s1.set s3.toNat (⟨x1, (⟨IntKind.i64.wrap (s2 + 1), IntKind.i64.wrap ((IntKind.i64.wrap (s2 + 1)) + 1), x3⟩ : TVal)⟩ : TBind)) (IntKind.i64.wrap ((IntKind.i64.wrap ((IntKind.i64.wrap ((IntKind.i64.wrap (s2 + 1)) + 1)) + 1)) + 1)) (IntKind.i64.wrap (s3 + 1)))))) else some (s2, s1))
def m_l_markBindS (N : Nat) (p0 : (List TBind)) (p1 : Int) : Option (Int × (List TBind)) :=
  m_l_markBindS_l1 N N p0 p1 0
/-! laws.markIntS -/
def m_l_markIntS_l1 (N : Nat) : Nat → (List Int) → Int → Int → Option (Int × (List Int))
  | 0, _, _, _ => none
  | k + 1, s1, s2, s3 =>
    (if decide (s3 < (s1.length : Int)) then ((idx s1 s3).bind fun x1 => ((m_l_markIntS_l1 N k) (s1.set s3.toNat s2) (IntKind.i64.wrap (s2 + 1)) (IntKind.i64.wrap (s3 + 1)))) else some (s2, s1))
def m_l_markIntS (N : Nat) (p0 : (List Int)) (p1 : Int) : Option (Int × (List Int)) :=
  m_l_markIntS_l1 N N p0 p1 0
/-! laws.markMatchS -/
def m_l_markMatchS_l1 (N : Nat) : Nat → (List TMatch) → Int → Int → Option (Int × (List TMatch))
  | 0, _, _, _ => none
  | k + 1, s1, s2, s3 =>
    (if decide (s3 < (s1.length : Int)) then ((idx s1 s3).bind fun x1 => ((m_l_markIntS N x1.Ids (IntKind.i64.wrap (s2 + 1))).bind fun x2 => ((m_l_markBindS N x1.Binds x2.1).bind fun x3 => ((m_l_markMatchS_l1 N k) (s1.set s3.toNat (⟨s2, x2.2, x3.2⟩ : TMatch)) x3.1 (IntKind.i64.wrap (s3 + 1)))))) else some (s2, s1))
def m_l_markMatchS (N : Nat) (p0 : (List TMatch)) (p1 : Int) : Option (Int × (List TMatch)) :=
  m_l_markMatchS_l1 N N p0 p1 0
/-! laws.heldIntS -/
def m_l_heldIntS_l1 (N : Nat) (p0 : (List Int)) : Nat → Int → Int → Option (Int)
  | 0, _, _ => none
  | k + 1, s1, s2 =>
    (if decide (s2 < (p0.length : Int)) then ((idx p0 s2).bind fun x1 => (if !decide (x1 = s1) then some (-1) else ((m_l_heldIntS_l1 N p0 k) (IntKind.i64.wrap (s1 + 1)) (IntKind.i64.wrap (s2 + 1))))) else some s1)
def m_l_heldIntS (N : Nat) (p0 : (List Int)) (p1 : Int) : Option (Int) :=
  m_l_heldIntS_l1 N p0 N p1 0
/-! laws.heldBindS -/
def m_l_heldBindS_l1 (N : Nat) (p0 : (List TBind)) : Nat → Int → Int → Option (Int)
  | 0, _, _ => none
  | k + 1, s1, s2 =>
    (if decide (s2 < (p0.length : Int)) then ((idx p0 s2).bind fun x1 => ((m_l_markText N s1).bind fun x2 => (if !seq x1.Name x2 then some (-1) else ((idx p0 s2).bind fun x3 => (if !decide (x3.V.K = IntKind.i64.wrap (s1 + 1)) then some (-1) else ((idx p0 s2).bind fun x4 => (if !decide (x4.V.N = IntKind.i64.wrap ((IntKind.i64.wrap (s1 + 1)) + 1)) then some (-1) else ((idx p0 s2).bind fun x5 => ((m_l_markText N (IntKind.i64.wrap ((IntKind.i64.wrap ((IntKind.i64.wrap (s1 + 1)) + 1)) + 1))).bind fun x6 => (if !seq x5.V.S x6 then some (-1) else ((m_l_heldBindS_l1 N p0 k) (IntKind.i64.wrap ((IntKind.i64.wrap ((IntKind.i64.wrap ((IntKind.i64.wrap (s1 + 1)) + 1)) + 1)) + 1)) (IntKind.i64.wrap (s2 + 1))))))))))))) else some s1)
def m_l_heldBindS (N : Nat) (p0 : (List TBind)) (p1 : Int) : Option (Int) :=
  m_l_heldBindS_l1 N p0 N p1 0
/-! laws.heldMatchS -/
def m_l_heldMatchS_l1 (N : Nat) (p0 : (List TMatch)) : Nat → Int → Int → Option (Int)
  | 0, _, _ => none
  | k + 1, s1, s2 =>
    (if decide (s2 < (p0.length : Int)) then ((idx p0 s2).bind fun x1 => (if !decide (x1.Rule = s1) then some (-1) else ((idx p0 s2).bind fun x2 => ((m_l_heldIntS N x2.Ids (IntKind.i64.wrap (s1 + 1))).bind fun x3 => (if decide (x3 < 0) then some (-1) else ((idx p0 s2).bind fun x4 => ((m_l_heldBindS N x4.Binds x3).bind fun x5 => (if decide (x5 < 0) then some (-1) else ((m_l_heldMatchS_l1 N p0 k) x5 (IntKind.i64.wrap (s2 + 1))))))))))) else some s1)
def m_l_heldMatchS (N : Nat) (p0 : (List TMatch)) (p1 : Int) : Option (Int) :=
  m_l_heldMatchS_l1 N p0 N p1 0
/-! laws.FnExactForget -/
def m_l_FnExactForget (N : Nat) (p0 : (List TMatch)) (p1 : Int) : Option (Bool) :=
  ((m_l_szMatchS N p0 1048576).bind fun x1 => (if decide (x1 < 0) then some true else ((m_l_toMatchS N p0).bind fun x2 => ((m_s_Forget N x2 p1).bind fun x3 => ((m_l_toMatchS N p0).bind fun x4 => ((m_i_Forget N x4 p1).bind fun x5 => ((m_l_eqMatchS N x5 x3).bind fun x6 => (if !x6 then some false else ((m_l_toMatchS N p0).bind fun x7 => ((m_l_eqMatchS N x4 x7).bind fun x8 => (if !x8 then some false else ((m_l_markMatchS N x4 1).bind fun x9 => ((if decide (x9.1 < 0) then some true else ((m_l_eqMatchS N x5 x3).bind fun x10 => some (!x10))).bind fun b1 => (if b1 then some false else ((m_l_markMatchS N x5 1).bind fun x11 => ((m_l_heldMatchS N x11.2 1).bind fun x12 => (if decide (x12 < 0) then some false else (if !decide (x12 = x11.1) then some false else ((m_l_toMatchS N p0).bind fun x13 => ((m_i_Forget N x13 p1).bind fun x14 => ((m_l_eqMatchS N x14 x3).bind fun x15 => (if !x15 then some false else ((m_l_heldMatchS N x11.2 1).bind fun x16 => (if decide (x16 < 0) then some false else (if !decide (x16 = x11.1) then some false else some true)))))))))))))))))))))))))
/-! laws.szArg -/
def m_l_szArg (N : Nat) (p0 : TArg) (p1 : Int) : Option (Int) :=
  (if decide (IntKind.i64.wrap (p1 - (p0.S.size : Int)) < 0) then some (-1) else ((m_l_szVal N p0.V (IntKind.i64.wrap (p1 - (p0.S.size : Int)))).bind fun x1 => (if decide (x1 < 0) then some (-1) else some x1)))
/-! laws.szExpr -/
def m_l_szExpr (N : Nat) (p0 : TExpr) (p1 : Int) : Option (Int) :=
  (if decide (IntKind.i64.wrap (p1 - (p0.Op.size : Int)) < 0) then some (-1) else ((m_l_szArg N p0.L (IntKind.i64.wrap (p1 - (p0.Op.size : Int)))).bind fun x1 => (if decide (x1 < 0) then some (-1) else ((m_l_szArg N p0.R x1).bind fun x2 => (if decide (x2 < 0) then some (-1) else some x2)))))
/-! laws.szExprS -/
def m_l_szExprS_l1 (N : Nat) (p0 : (List TExpr)) : Nat → Int → Int → Option (Int)
  | 0, _, _ => none
  | k + 1, s1, s2 =>
    (if decide (s2 < (p0.length : Int)) then ((idx p0 s2).bind fun x1 => ((m_l_szExpr N x1 s1).bind fun x2 => (if decide (x2 < 0) then some (-1) else ((m_l_szExprS_l1 N p0 k) x2 (IntKind.i64.wrap (s2 + 1)))))) else some s1)
def m_l_szExprS (N : Nat) (p0 : (List TExpr)) (p1 : Int) : Option (Int) :=
  (if decide (IntKind.i64.wrap (p1 - (p0.length : Int)) < 0) then some (-1) else m_l_szExprS_l1 N p0 N (IntKind.i64.wrap (p1 - (p0.length : Int))) 0)
/-! laws.szAct -/
def m_l_szAct (N : Nat) (p0 : TAct) (p1 : Int) : Option (Int) :=
  (if decide (IntKind.i64.wrap (p1 - (p0.Name.size : Int)) < 0) then some (-1) else ((m_l_szExprS N p0.Args (IntKind.i64.wrap (p1 - (p0.Name.size : Int)))).bind fun x1 => (if decide (x1 < 0) then some (-1) else (if decide (IntKind.i64.wrap (x1 - (p0.Undo.size : Int)) < 0) then some (-1) else some (IntKind.i64.wrap (x1 - (p0.Undo.size : Int)))))))
/-! spec.l1In -/
def m_s_l1In (N : Nat) (p0 : Int) (p1 : Int) (p2 : Int) : Option (Bool) :=
  ((if decide (p1 ≤ p0) then some (decide (p0 ≤ p2)) else some false).bind fun b1 => some b1)
/-! spec.l1Letter -/
def m_s_l1Letter (N : Nat) (p0 : Int) : Option (Bool) :=
  ((m_s_l1In N (IntKind.i64.wrap p0) 97 122).bind fun x1 => ((if x1 then some true else ((m_s_l1In N (IntKind.i64.wrap p0) 48 57).bind fun x2 => some x2)).bind fun b1 => ((if b1 then some true else some (decide (p0 = 95))).bind fun b2 => some b2)))
/-! spec.NameOk -/
def m_s_NameOk_l1 (N : Nat) (p0 : ByteArray) : Nat → Int → Option (Bool)
  | 0, _ => none
  | k + 1, s1 =>
    (if decide (s1 < (p0.size : Int)) then ((idx p0.data.toList s1).bind fun y1 => ((m_s_l1Letter N (y1.toNat : Int)).bind fun x1 => ((if !x1 then some true else ((if decide (s1 = 0) then ((idx p0.data.toList s1).bind fun y2 => ((m_s_l1In N (IntKind.i64.wrap (y2.toNat : Int)) 97 122).bind fun x2 => some (!x2))) else some false).bind fun b2 => some b2)).bind fun b1 => (if b1 then some false else ((m_s_NameOk_l1 N p0 k) (IntKind.i64.wrap (s1 + 1))))))) else ((m_s_l1In N (p0.size : Int) 1 12).bind fun x3 => some x3))
def m_s_NameOk (N : Nat) (p0 : ByteArray) : Option (Bool) :=
  m_s_NameOk_l1 N p0 N 0
/-! spec.l2Plain -/
def m_s_l2Plain_l1 (N : Nat) (p0 : ByteArray) : Nat → Int → Option (Bool)
  | 0, _ => none
  | k + 1, s1 =>
    (if decide (s1 < (p0.size : Int)) then ((idx p0.data.toList s1).bind fun y1 => ((m_s_l1Letter N (y1.toNat : Int)).bind fun x1 => (if !x1 then some false else ((m_s_l2Plain_l1 N p0 k) (IntKind.i64.wrap (s1 + 1)))))) else some (decide ((p0.size : Int) ≤ 20)))
def m_s_l2Plain (N : Nat) (p0 : ByteArray) : Option (Bool) :=
  m_s_l2Plain_l1 N p0 N 0
/-! spec.ValOk -/
def m_s_ValOk (N : Nat) (p0 : TVal) : Option (Bool) :=
  (if decide (p0.K = 1) then ((m_s_l1In N p0.N (-1000000000) 1000000000).bind fun x1 => ((if x1 then some (seq p0.S (⟨#[]⟩ : ByteArray)) else some false).bind fun b1 => some b1)) else (if decide (p0.K = 2) then ((m_s_l2Plain N p0.S).bind fun x2 => ((if x2 then some (decide (p0.N = 0)) else some false).bind fun b2 => some b2)) else some false))
/-! spec.l5Large -/
def m_s_l5Large (N : Nat) (p0 : Int) : Option (Bool) :=
  ((m_s_l1In N (IntKind.i64.wrap p0) 65 90).bind fun x1 => some x1)
/-! spec.l5VarOk -/
def m_s_l5VarOk_l1 (N : Nat) (p0 : ByteArray) : Nat → Int → Option (Bool)
  | 0, _ => none
  | k + 1, s1 =>
    (if decide (s1 < (p0.size : Int)) then ((idx p0.data.toList s1).bind fun y1 => ((m_s_l5Large N (y1.toNat : Int)).bind fun x1 => ((if !x1 then ((if decide (s1 = 0) then some true else ((idx p0.data.toList s1).bind fun y2 => ((m_s_l1Letter N (y2.toNat : Int)).bind fun x2 => some (!x2)))).bind fun b2 => some b2) else some false).bind fun b1 => (if b1 then some false else ((m_s_l5VarOk_l1 N p0 k) (IntKind.i64.wrap (s1 + 1))))))) else ((m_s_l1In N (p0.size : Int) 1 12).bind fun x3 => some x3))
def m_s_l5VarOk (N : Nat) (p0 : ByteArray) : Option (Bool) :=
  m_s_l5VarOk_l1 N p0 N 0
/-! spec.ArgOk -/
def m_s_ArgOk (N : Nat) (p0 : TArg) : Option (Bool) :=
  (if decide (p0.K = 1) then ((m_s_l5VarOk N p0.S).bind fun x1 => ((if x1 then some (eqT_TVal p0.V (⟨0, 0, (⟨#[]⟩ : ByteArray)⟩ : TVal)) else some false).bind fun b1 => some b1)) else (if decide (p0.K = 2) then ((m_s_ValOk N p0.V).bind fun x2 => ((if x2 then some (seq p0.S (⟨#[]⟩ : ByteArray)) else some false).bind fun b2 => some b2)) else (if decide (p0.K = 3) then ((if seq p0.S (⟨#[]⟩ : ByteArray) then some (eqT_TVal p0.V (⟨0, 0, (⟨#[]⟩ : ByteArray)⟩ : TVal)) else some false).bind fun b3 => some b3) else some false)))
/-! spec.l8Given -/
def m_s_l8Given (N : Nat) (p0 : TArg) : Option (Bool) :=
  ((m_s_ArgOk N p0).bind fun x1 => ((if x1 then some (!decide (p0.K = 3)) else some false).bind fun b1 => some b1))
/-! spec.ExprOk -/
def m_s_ExprOk_j1 (N : Nat) (p0 : TExpr) (s1 : Bool) : Option (Bool) :=
  (if s1 then ((m_s_l8Given N p0.L).bind fun x2 => ((if x2 then ((m_s_l8Given N p0.R).bind fun x3 => some x3) else some false).bind fun b2 => some b2)) else some false)
def m_s_ExprOk (N : Nat) (p0 : TExpr) : Option (Bool) :=
  (if seq p0.Op (⟨#[]⟩ : ByteArray) then ((m_s_l8Given N p0.L).bind fun x1 => ((if x1 then some (eqT_TArg p0.R (⟨0, (⟨#[]⟩ : ByteArray), (⟨0, 0, (⟨#[]⟩ : ByteArray)⟩ : TVal)⟩ : TArg)) else some false).bind fun b1 => some b1)) else (if seq p0.Op (⟨#[43]⟩ : ByteArray) then m_s_ExprOk_j1 N p0 (seq p0.Op (⟨#[43]⟩ : ByteArray)) else m_s_ExprOk_j1 N p0 (seq p0.Op (⟨#[45]⟩ : ByteArray))))
/-! spec.l8Args -/
def m_s_l8Args_l1 (N : Nat) (p0 : (List TExpr)) : Nat → Int → Option (Bool)
  | 0, _ => none
  | k + 1, s1 =>
    (if decide (s1 < (p0.length : Int)) then ((idx p0 s1).bind fun x1 => ((m_s_ExprOk N x1).bind fun x2 => (if !x2 then some false else ((m_s_l8Args_l1 N p0 k) (IntKind.i64.wrap (s1 + 1)))))) else some (decide ((p0.length : Int) ≤ 5)))
def m_s_l8Args (N : Nat) (p0 : (List TExpr)) : Option (Bool) :=
  m_s_l8Args_l1 N p0 N 0
/-! spec.ActOk -/
def m_s_ActOk_j1 (N : Nat) (p0 : TAct) (b2 : Bool) (s1 : Bool) : Option (Bool) :=
  (if s1 then ((if b2 then some (decide (p0.N = 0)) else some false).bind fun b14 => some b14) else some false)
def m_s_ActOk (N : Nat) (p0 : TAct) : Option (Bool) :=
  ((if seq p0.Name (⟨#[]⟩ : ByteArray) then some (decide ((p0.Args.length : Int) = 0)) else some false).bind fun b1 => ((if b1 then some (seq p0.Undo (⟨#[]⟩ : ByteArray)) else some false).bind fun b2 => (if decide (p0.Kind = 1) then ((m_s_NameOk N p0.Name).bind fun x1 => ((if x1 then ((m_s_l8Args N p0.Args).bind fun x2 => some x2) else some false).bind fun b3 => ((if b3 then some (decide (p0.N = 0)) else some false).bind fun b4 => ((if b4 then some (seq p0.Undo (⟨#[]⟩ : ByteArray)) else some false).bind fun b5 => some b5)))) else (if decide (p0.Kind = 3) then ((m_s_NameOk N p0.Name).bind fun x3 => ((if x3 then ((m_s_l8Args N p0.Args).bind fun x4 => some x4) else some false).bind fun b6 => ((if b6 then some (decide (p0.N = 0)) else some false).bind fun b7 => ((if b7 then ((if seq p0.Undo (⟨#[]⟩ : ByteArray) then some true else ((m_s_NameOk N p0.Undo).bind fun x5 => some x5)).bind fun b9 => some b9) else some false).bind fun b8 => some b8)))) else (if decide (p0.Kind = 4) then ((m_s_NameOk N p0.Name).bind fun x6 => ((if x6 then ((m_s_l8Args N p0.Args).bind fun x7 => some x7) else some false).bind fun b10 => ((if b10 then ((m_s_l1In N p0.N 0 100000).bind fun x8 => some x8) else some false).bind fun b11 => ((if b11 then some (seq p0.Undo (⟨#[]⟩ : ByteArray)) else some false).bind fun b12 => some b12)))) else (if decide (p0.Kind = 2) then ((if b2 then ((m_s_l1In N p0.N 0 7).bind fun x9 => some x9) else some false).bind fun b13 => some b13) else (if decide (p0.Kind = 5) then m_s_ActOk_j1 N p0 b2 (decide (p0.Kind = 5)) else m_s_ActOk_j1 N p0 b2 (decide (p0.Kind = 6)))))))))
/-! laws.toArg -/
def m_l_toArg (N : Nat) (p0 : TArg) : Option (TArg) :=
  ((m_l_toVal N p0.V).bind fun x1 => some (⟨p0.K, p0.S, x1⟩ : TArg))
/-! laws.toExpr -/
def m_l_toExpr (N : Nat) (p0 : TExpr) : Option (TExpr) :=
  ((m_l_toArg N p0.L).bind fun x1 => ((m_l_toArg N p0.R).bind fun x2 => some (⟨p0.Op, x1, x2⟩ : TExpr)))
/-! laws.toExprS -/
def m_l_toExprS_l1 (N : Nat) (p0 : (List TExpr)) : Nat → (List TExpr) → Int → Option ((List TExpr))
  | 0, _, _ => none
  | k + 1, s1, s2 =>
    (if decide (s2 < (p0.length : Int)) then ((idx p0 s2).bind fun x2 => ((m_l_toExpr N x2).bind fun x3 => ((idx s1 s2).bind fun x4 => ((m_l_toExprS_l1 N p0 k) (s1.set s2.toNat x3) (IntKind.i64.wrap (s2 + 1)))))) else some s1)
def m_l_toExprS (N : Nat) (p0 : (List TExpr)) : Option ((List TExpr)) :=
  ((mk (⟨(⟨#[]⟩ : ByteArray), (⟨0, (⟨#[]⟩ : ByteArray), (⟨0, 0, (⟨#[]⟩ : ByteArray)⟩ : TVal)⟩ : TArg), (⟨0, (⟨#[]⟩ : ByteArray), (⟨0, 0, (⟨#[]⟩ : ByteArray)⟩ : TVal)⟩ : TArg)⟩ : TExpr) (p0.length : Int)).bind fun x1 => m_l_toExprS_l1 N p0 N x1 0)
/-! laws.toAct -/
def m_l_toAct (N : Nat) (p0 : TAct) : Option (TAct) :=
  ((m_l_toExprS N p0.Args).bind fun x1 => some (⟨p0.Kind, p0.Name, x1, p0.N, p0.Undo⟩ : TAct))
/-! impl.inRange -/
def m_i_inRange (N : Nat) (p0 : Int) (p1 : Int) (p2 : Int) : Option (Bool) :=
  ((if decide (p1 ≤ p0) then some (decide (p0 ≤ p2)) else some false).bind fun b1 => some b1)
/-! impl.isSmall -/
def m_i_isSmall (N : Nat) (p0 : Int) : Option (Bool) :=
  ((if decide (97 ≤ p0) then some (decide (p0 ≤ 122)) else some false).bind fun b1 => some b1)
/-! impl.isDigit -/
def m_i_isDigit (N : Nat) (p0 : Int) : Option (Bool) :=
  ((if decide (48 ≤ p0) then some (decide (p0 ≤ 57)) else some false).bind fun b1 => some b1)
/-! impl.isWordByte -/
def m_i_isWordByte (N : Nat) (p0 : Int) : Option (Bool) :=
  ((m_i_isSmall N p0).bind fun x1 => ((if x1 then some true else ((m_i_isDigit N p0).bind fun x2 => some x2)).bind fun b1 => ((if b1 then some true else some (decide (p0 = 95))).bind fun b2 => some b2)))
/-! impl.isWord -/
def m_i_isWord_l1 (N : Nat) (p0 : ByteArray) : Nat → Int → Option (Bool)
  | 0, _ => none
  | k + 1, s1 =>
    (if decide (s1 < (p0.size : Int)) then ((idx p0.data.toList s1).bind fun y1 => ((m_i_isWordByte N (y1.toNat : Int)).bind fun x1 => (if !x1 then some false else ((m_i_isWord_l1 N p0 k) (IntKind.i64.wrap (s1 + 1)))))) else some true)
def m_i_isWord (N : Nat) (p0 : ByteArray) (p1 : Int) : Option (Bool) :=
  (if decide (p1 < (p0.size : Int)) then some false else m_i_isWord_l1 N p0 N 0)
/-! impl.ValOk -/
def m_i_ValOk (N : Nat) (p0 : TVal) : Option (Bool) :=
  (if decide (p0.K = 1) then ((m_i_inRange N p0.N (-1000000000) 1000000000).bind fun x1 => ((if x1 then some (seq p0.S (⟨#[]⟩ : ByteArray)) else some false).bind fun b1 => some b1)) else (if decide (p0.K = 2) then ((if decide (p0.N = 0) then ((m_i_isWord N p0.S 20).bind fun x2 => some x2) else some false).bind fun b2 => some b2) else some false))
/-! impl.isLarge -/
def m_i_isLarge (N : Nat) (p0 : Int) : Option (Bool) :=
  ((if decide (65 ≤ p0) then some (decide (p0 ≤ 90)) else some false).bind fun b1 => some b1)
/-! impl.isVar -/
def m_i_isVar_l1 (N : Nat) (p0 : ByteArray) : Nat → Int → Option (Bool)
  | 0, _ => none
  | k + 1, s1 =>
    (if decide (s1 < (p0.size : Int)) then ((idx p0.data.toList s1).bind fun y2 => ((m_i_isWordByte N (y2.toNat : Int)).bind fun x2 => ((if !x2 then ((idx p0.data.toList s1).bind fun y3 => ((m_i_isLarge N (y3.toNat : Int)).bind fun x3 => some (!x3))) else some false).bind fun b3 => (if b3 then some false else ((m_i_isVar_l1 N p0 k) (IntKind.i64.wrap (s1 + 1))))))) else some true)
def m_i_isVar (N : Nat) (p0 : ByteArray) : Option (Bool) :=
  ((if decide ((p0.size : Int) < 1) then some true else some (decide (12 < (p0.size : Int)))).bind fun b1 => ((if b1 then some true else ((idx p0.data.toList 0).bind fun y1 => ((m_i_isLarge N (y1.toNat : Int)).bind fun x1 => some (!x1)))).bind fun b2 => (if b2 then some false else m_i_isVar_l1 N p0 N 0)))
/-! impl.ArgOk -/
def m_i_ArgOk (N : Nat) (p0 : TArg) : Option (Bool) :=
  (if decide (p0.K = 1) then ((m_i_isVar N p0.S).bind fun x1 => ((if x1 then some (eqT_TVal p0.V (⟨0, 0, (⟨#[]⟩ : ByteArray)⟩ : TVal)) else some false).bind fun b1 => some b1)) else (if decide (p0.K = 2) then ((if seq p0.S (⟨#[]⟩ : ByteArray) then ((m_i_ValOk N p0.V).bind fun x2 => some x2) else some false).bind fun b2 => some b2) else (if decide (p0.K = 3) then ((if seq p0.S (⟨#[]⟩ : ByteArray) then some (eqT_TVal p0.V (⟨0, 0, (⟨#[]⟩ : ByteArray)⟩ : TVal)) else some false).bind fun b3 => some b3) else some false)))
/-! impl.isTerm -/
def m_i_isTerm (N : Nat) (p0 : TArg) : Option (Bool) :=
  ((if !decide (p0.K = 3) then ((m_i_ArgOk N p0).bind fun x1 => some x1) else some false).bind fun b1 => some b1)
/-! impl.ExprOk -/
def m_i_ExprOk_j1 (N : Nat) (p0 : TExpr) (s1 : Bool) : Option (Bool) :=
  (if s1 then ((m_i_isTerm N p0.L).bind fun x2 => ((if x2 then ((m_i_isTerm N p0.R).bind fun x3 => some x3) else some false).bind fun b2 => some b2)) else some false)
def m_i_ExprOk (N : Nat) (p0 : TExpr) : Option (Bool) :=
  (if seq p0.Op (⟨#[]⟩ : ByteArray) then ((m_i_isTerm N p0.L).bind fun x1 => ((if x1 then some (eqT_TArg p0.R (⟨0, (⟨#[]⟩ : ByteArray), (⟨0, 0, (⟨#[]⟩ : ByteArray)⟩ : TVal)⟩ : TArg)) else some false).bind fun b1 => some b1)) else (if seq p0.Op (⟨#[43]⟩ : ByteArray) then m_i_ExprOk_j1 N p0 (seq p0.Op (⟨#[43]⟩ : ByteArray)) else m_i_ExprOk_j1 N p0 (seq p0.Op (⟨#[45]⟩ : ByteArray))))
/-! impl.NameOk -/
def m_i_NameOk (N : Nat) (p0 : ByteArray) : Option (Bool) :=
  ((if decide (0 < (p0.size : Int)) then ((idx p0.data.toList 0).bind fun y1 => ((m_i_isSmall N (y1.toNat : Int)).bind fun x1 => some x1)) else some false).bind fun b1 => ((if b1 then ((m_i_isWord N p0 12).bind fun x2 => some x2) else some false).bind fun b2 => some b2))
/-! impl.argsOk -/
def m_i_argsOk_l1 (N : Nat) (p0 : TAct) : Nat → Int → Option (Bool)
  | 0, _ => none
  | k + 1, s1 =>
    (if decide (s1 < (p0.Args.length : Int)) then ((idx p0.Args s1).bind fun x2 => ((m_i_ExprOk N x2).bind fun x3 => (if !x3 then some false else ((m_i_argsOk_l1 N p0 k) (IntKind.i64.wrap (s1 + 1)))))) else some true)
def m_i_argsOk (N : Nat) (p0 : TAct) : Option (Bool) :=
  ((m_i_NameOk N p0.Name).bind fun x1 => ((if !x1 then some true else some (decide (5 < (p0.Args.length : Int)))).bind fun b1 => (if b1 then some false else m_i_argsOk_l1 N p0 N 0)))
/-! impl.isUndo -/
def m_i_isUndo (N : Nat) (p0 : ByteArray) : Option (Bool) :=
  ((if seq p0 (⟨#[]⟩ : ByteArray) then some true else ((m_i_NameOk N p0).bind fun x1 => some x1)).bind fun b1 => some b1)
/-! impl.ActOk -/
def m_i_ActOk_j1 (N : Nat) (p0 : TAct) (b1 : Bool) (s1 : Bool) : Option (Bool) :=
  (if s1 then ((if b1 then some (decide (p0.N = 0)) else some false).bind fun b10 => ((if b10 then some (seq p0.Undo (⟨#[]⟩ : ByteArray)) else some false).bind fun b11 => some b11)) else some false)
def m_i_ActOk (N : Nat) (p0 : TAct) : Option (Bool) :=
  ((if seq p0.Name (⟨#[]⟩ : ByteArray) then some (decide ((p0.Args.length : Int) = 0)) else some false).bind fun b1 => (if decide (p0.Kind = 1) then ((m_i_argsOk N p0).bind fun x1 => ((if x1 then some (decide (p0.N = 0)) else some false).bind fun b2 => ((if b2 then some (seq p0.Undo (⟨#[]⟩ : ByteArray)) else some false).bind fun b3 => some b3))) else (if decide (p0.Kind = 2) then ((if b1 then ((m_i_inRange N p0.N 0 7).bind fun x2 => some x2) else some false).bind fun b4 => ((if b4 then some (seq p0.Undo (⟨#[]⟩ : ByteArray)) else some false).bind fun b5 => some b5)) else (if decide (p0.Kind = 3) then ((m_i_argsOk N p0).bind fun x3 => ((if x3 then some (decide (p0.N = 0)) else some false).bind fun b6 => ((if b6 then ((m_i_isUndo N p0.Undo).bind fun x4 => some x4) else some false).bind fun b7 => some b7))) else (if decide (p0.Kind = 4) then ((m_i_argsOk N p0).bind fun x5 => ((if x5 then ((m_i_inRange N p0.N 0 100000).bind fun x6 => some x6) else some false).bind fun b8 => ((if b8 then some (seq p0.Undo (⟨#[]⟩ : ByteArray)) else some false).bind fun b9 => some b9))) else (if decide (p0.Kind = 5) then m_i_ActOk_j1 N p0 b1 (decide (p0.Kind = 5)) else m_i_ActOk_j1 N p0 b1 (decide (p0.Kind = 6))))))))
/-! laws.eqArg -/
def m_l_eqArg (N : Nat) (p0 : TArg) (p1 : TArg) : Option (Bool) :=
  (if !decide (p0.K = p1.K) then some false else (if !seq p0.S p1.S then some false else ((m_l_eqVal N p0.V p1.V).bind fun x1 => (if !x1 then some false else some true))))
/-! laws.eqExpr -/
def m_l_eqExpr (N : Nat) (p0 : TExpr) (p1 : TExpr) : Option (Bool) :=
  (if !seq p0.Op p1.Op then some false else ((m_l_eqArg N p0.L p1.L).bind fun x1 => (if !x1 then some false else ((m_l_eqArg N p0.R p1.R).bind fun x2 => (if !x2 then some false else some true)))))
/-! laws.eqExprS -/
def m_l_eqExprS_l1 (N : Nat) (p0 : (List TExpr)) (p1 : (List TExpr)) : Nat → Int → Option (Bool)
  | 0, _ => none
  | k + 1, s1 =>
    (if decide (s1 < (p0.length : Int)) then ((idx p0 s1).bind fun x1 => ((idx p1 s1).bind fun x2 => ((m_l_eqExpr N x1 x2).bind fun x3 => (if !x3 then some false else ((m_l_eqExprS_l1 N p0 p1 k) (IntKind.i64.wrap (s1 + 1))))))) else some true)
def m_l_eqExprS (N : Nat) (p0 : (List TExpr)) (p1 : (List TExpr)) : Option (Bool) :=
  (if !decide ((p0.length : Int) = (p1.length : Int)) then some false else m_l_eqExprS_l1 N p0 p1 N 0)
/-! laws.eqAct -/
def m_l_eqAct (N : Nat) (p0 : TAct) (p1 : TAct) : Option (Bool) :=
  (if !decide (p0.Kind = p1.Kind) then some false else (if !seq p0.Name p1.Name then some false else ((m_l_eqExprS N p0.Args p1.Args).bind fun x1 => (if !x1 then some false else (if !decide (p0.N = p1.N) then some false else (if !seq p0.Undo p1.Undo then some false else some true))))))
/-! laws.FnExactActOk -/
def m_l_FnExactActOk (N : Nat) (p0 : TAct) : Option (Bool) :=
  ((m_l_szAct N p0 1048576).bind fun x1 => (if decide (x1 < 0) then some true else ((m_l_toAct N p0).bind fun x2 => ((m_s_ActOk N x2).bind fun x3 => ((m_l_toAct N p0).bind fun x4 => ((m_i_ActOk N x4).bind fun x5 => (if (x5 != x3) then some false else ((m_l_toAct N p0).bind fun x6 => ((m_l_eqAct N x4 x6).bind fun x7 => (if !x7 then some false else some true))))))))))
/-! laws.szArgS -/
def m_l_szArgS_l1 (N : Nat) (p0 : (List TArg)) : Nat → Int → Int → Option (Int)
  | 0, _, _ => none
  | k + 1, s1, s2 =>
    (if decide (s2 < (p0.length : Int)) then ((idx p0 s2).bind fun x1 => ((m_l_szArg N x1 s1).bind fun x2 => (if decide (x2 < 0) then some (-1) else ((m_l_szArgS_l1 N p0 k) x2 (IntKind.i64.wrap (s2 + 1)))))) else some s1)
def m_l_szArgS (N : Nat) (p0 : (List TArg)) (p1 : Int) : Option (Int) :=
  (if decide (IntKind.i64.wrap (p1 - (p0.length : Int)) < 0) then some (-1) else m_l_szArgS_l1 N p0 N (IntKind.i64.wrap (p1 - (p0.length : Int))) 0)
/-! laws.szPat -/
def m_l_szPat (N : Nat) (p0 : TPat) (p1 : Int) : Option (Int) :=
  (if decide (IntKind.i64.wrap (p1 - (p0.Kind.size : Int)) < 0) then some (-1) else ((m_l_szArgS N p0.Args (IntKind.i64.wrap (p1 - (p0.Kind.size : Int)))).bind fun x1 => (if decide (x1 < 0) then some (-1) else some x1)))
/-! laws.szPatS -/
def m_l_szPatS_l1 (N : Nat) (p0 : (List TPat)) : Nat → Int → Int → Option (Int)
  | 0, _, _ => none
  | k + 1, s1, s2 =>
    (if decide (s2 < (p0.length : Int)) then ((idx p0 s2).bind fun x1 => ((m_l_szPat N x1 s1).bind fun x2 => (if decide (x2 < 0) then some (-1) else ((m_l_szPatS_l1 N p0 k) x2 (IntKind.i64.wrap (s2 + 1)))))) else some s1)
def m_l_szPatS (N : Nat) (p0 : (List TPat)) (p1 : Int) : Option (Int) :=
  (if decide (IntKind.i64.wrap (p1 - (p0.length : Int)) < 0) then some (-1) else m_l_szPatS_l1 N p0 N (IntKind.i64.wrap (p1 - (p0.length : Int))) 0)
/-! laws.szCond -/
def m_l_szCond (N : Nat) (p0 : TCond) (p1 : Int) : Option (Int) :=
  ((m_l_szArg N p0.L p1).bind fun x1 => (if decide (x1 < 0) then some (-1) else ((m_l_szArg N p0.R x1).bind fun x2 => (if decide (x2 < 0) then some (-1) else some x2))))
/-! laws.szCondS -/
def m_l_szCondS_l1 (N : Nat) (p0 : (List TCond)) : Nat → Int → Int → Option (Int)
  | 0, _, _ => none
  | k + 1, s1, s2 =>
    (if decide (s2 < (p0.length : Int)) then ((idx p0 s2).bind fun x1 => ((m_l_szCond N x1 s1).bind fun x2 => (if decide (x2 < 0) then some (-1) else ((m_l_szCondS_l1 N p0 k) x2 (IntKind.i64.wrap (s2 + 1)))))) else some s1)
def m_l_szCondS (N : Nat) (p0 : (List TCond)) (p1 : Int) : Option (Int) :=
  (if decide (IntKind.i64.wrap (p1 - (p0.length : Int)) < 0) then some (-1) else m_l_szCondS_l1 N p0 N (IntKind.i64.wrap (p1 - (p0.length : Int))) 0)
/-! laws.szActS -/
def m_l_szActS_l1 (N : Nat) (p0 : (List TAct)) : Nat → Int → Int → Option (Int)
  | 0, _, _ => none
  | k + 1, s1, s2 =>
    (if decide (s2 < (p0.length : Int)) then ((idx p0 s2).bind fun x1 => ((m_l_szAct N x1 s1).bind fun x2 => (if decide (x2 < 0) then some (-1) else ((m_l_szActS_l1 N p0 k) x2 (IntKind.i64.wrap (s2 + 1)))))) else some s1)
def m_l_szActS (N : Nat) (p0 : (List TAct)) (p1 : Int) : Option (Int) :=
  (if decide (IntKind.i64.wrap (p1 - (p0.length : Int)) < 0) then some (-1) else m_l_szActS_l1 N p0 N (IntKind.i64.wrap (p1 - (p0.length : Int))) 0)
/-! laws.szRule -/
def m_l_szRule (N : Nat) (p0 : TRule) (p1 : Int) : Option (Int) :=
  (if decide (IntKind.i64.wrap (p1 - (p0.Name.size : Int)) < 0) then some (-1) else ((m_l_szPatS N p0.Pats (IntKind.i64.wrap (p1 - (p0.Name.size : Int)))).bind fun x1 => (if decide (x1 < 0) then some (-1) else ((m_l_szCondS N p0.Conds x1).bind fun x2 => (if decide (x2 < 0) then some (-1) else ((m_l_szActS N p0.Acts x2).bind fun x3 => (if decide (x3 < 0) then some (-1) else some x3)))))))
/-! spec.PosCount -/
def m_s_PosCount_l1 (N : Nat) (p0 : TRule) : Nat → Int → Int → Option (Int)
  | 0, _, _ => none
  | k + 1, s1, s2 =>
    (if decide (s2 < (p0.Pats.length : Int)) then ((idx p0.Pats s2).bind fun x1 => (if !x1.Not then ((m_s_PosCount_l1 N p0 k) (IntKind.i64.wrap (s1 + 1)) (IntKind.i64.wrap (s2 + 1))) else ((m_s_PosCount_l1 N p0 k) s1 (IntKind.i64.wrap (s2 + 1))))) else some s1)
def m_s_PosCount (N : Nat) (p0 : TRule) : Option (Int) :=
  m_s_PosCount_l1 N p0 N 0 0
/-! laws.toArgS -/
def m_l_toArgS_l1 (N : Nat) (p0 : (List TArg)) : Nat → (List TArg) → Int → Option ((List TArg))
  | 0, _, _ => none
  | k + 1, s1, s2 =>
    (if decide (s2 < (p0.length : Int)) then ((idx p0 s2).bind fun x2 => ((m_l_toArg N x2).bind fun x3 => ((idx s1 s2).bind fun x4 => ((m_l_toArgS_l1 N p0 k) (s1.set s2.toNat x3) (IntKind.i64.wrap (s2 + 1)))))) else some s1)
def m_l_toArgS (N : Nat) (p0 : (List TArg)) : Option ((List TArg)) :=
  ((mk (⟨0, (⟨#[]⟩ : ByteArray), (⟨0, 0, (⟨#[]⟩ : ByteArray)⟩ : TVal)⟩ : TArg) (p0.length : Int)).bind fun x1 => m_l_toArgS_l1 N p0 N x1 0)
/-! laws.toPat -/
def m_l_toPat (N : Nat) (p0 : TPat) : Option (TPat) :=
  ((m_l_toArgS N p0.Args).bind fun x1 => some (⟨p0.Kind, x1, p0.Not⟩ : TPat))
/-! laws.toPatS -/
def m_l_toPatS_l1 (N : Nat) (p0 : (List TPat)) : Nat → (List TPat) → Int → Option ((List TPat))
  | 0, _, _ => none
  | k + 1, s1, s2 =>
    (if decide (s2 < (p0.length : Int)) then ((idx p0 s2).bind fun x2 => ((m_l_toPat N x2).bind fun x3 => ((idx s1 s2).bind fun x4 => ((m_l_toPatS_l1 N p0 k) (s1.set s2.toNat x3) (IntKind.i64.wrap (s2 + 1)))))) else some s1)
def m_l_toPatS (N : Nat) (p0 : (List TPat)) : Option ((List TPat)) :=
  ((mk (⟨(⟨#[]⟩ : ByteArray), ([] : List TArg), false⟩ : TPat) (p0.length : Int)).bind fun x1 => m_l_toPatS_l1 N p0 N x1 0)
/-! laws.toCond -/
def m_l_toCond (N : Nat) (p0 : TCond) : Option (TCond) :=
  ((m_l_toArg N p0.L).bind fun x1 => ((m_l_toArg N p0.R).bind fun x2 => some (⟨p0.Op, x1, x2⟩ : TCond)))
/-! laws.toCondS -/
def m_l_toCondS_l1 (N : Nat) (p0 : (List TCond)) : Nat → (List TCond) → Int → Option ((List TCond))
  | 0, _, _ => none
  | k + 1, s1, s2 =>
    (if decide (s2 < (p0.length : Int)) then ((idx p0 s2).bind fun x2 => ((m_l_toCond N x2).bind fun x3 => ((idx s1 s2).bind fun x4 => ((m_l_toCondS_l1 N p0 k) (s1.set s2.toNat x3) (IntKind.i64.wrap (s2 + 1)))))) else some s1)
def m_l_toCondS (N : Nat) (p0 : (List TCond)) : Option ((List TCond)) :=
  ((mk (⟨0, (⟨0, (⟨#[]⟩ : ByteArray), (⟨0, 0, (⟨#[]⟩ : ByteArray)⟩ : TVal)⟩ : TArg), (⟨0, (⟨#[]⟩ : ByteArray), (⟨0, 0, (⟨#[]⟩ : ByteArray)⟩ : TVal)⟩ : TArg)⟩ : TCond) (p0.length : Int)).bind fun x1 => m_l_toCondS_l1 N p0 N x1 0)
/-! laws.toActS -/
def m_l_toActS_l1 (N : Nat) (p0 : (List TAct)) : Nat → (List TAct) → Int → Option ((List TAct))
  | 0, _, _ => none
  | k + 1, s1, s2 =>
    (if decide (s2 < (p0.length : Int)) then ((idx p0 s2).bind fun x2 => ((m_l_toAct N x2).bind fun x3 => ((idx s1 s2).bind fun x4 => ((m_l_toActS_l1 N p0 k) (s1.set s2.toNat x3) (IntKind.i64.wrap (s2 + 1)))))) else some s1)
def m_l_toActS (N : Nat) (p0 : (List TAct)) : Option ((List TAct)) :=
  ((mk (⟨0, (⟨#[]⟩ : ByteArray), ([] : List TExpr), 0, (⟨#[]⟩ : ByteArray)⟩ : TAct) (p0.length : Int)).bind fun x1 => m_l_toActS_l1 N p0 N x1 0)
/-! laws.toRule -/
def m_l_toRule (N : Nat) (p0 : TRule) : Option (TRule) :=
  ((m_l_toPatS N p0.Pats).bind fun x1 => ((m_l_toCondS N p0.Conds).bind fun x2 => ((m_l_toActS N p0.Acts).bind fun x3 => some (⟨p0.Name, p0.Sal, x1, x2, x3⟩ : TRule))))
/-! impl.PosCount -/
def m_i_PosCount_l1 (N : Nat) (p0 : TRule) : Nat → Int → Int → Option (Int)
  | 0, _, _ => none
  | k + 1, s1, s2 =>
    (if decide (s2 < (p0.Pats.length : Int)) then ((idx p0.Pats s2).bind fun x1 => (if !x1.Not then ((m_i_PosCount_l1 N p0 k) (IntKind.i64.wrap (s1 + 1)) (IntKind.i64.wrap (s2 + 1))) else ((m_i_PosCount_l1 N p0 k) s1 (IntKind.i64.wrap (s2 + 1))))) else some s1)
def m_i_PosCount (N : Nat) (p0 : TRule) : Option (Int) :=
  m_i_PosCount_l1 N p0 N 0 0
/-! laws.eqArgS -/
def m_l_eqArgS_l1 (N : Nat) (p0 : (List TArg)) (p1 : (List TArg)) : Nat → Int → Option (Bool)
  | 0, _ => none
  | k + 1, s1 =>
    (if decide (s1 < (p0.length : Int)) then ((idx p0 s1).bind fun x1 => ((idx p1 s1).bind fun x2 => ((m_l_eqArg N x1 x2).bind fun x3 => (if !x3 then some false else ((m_l_eqArgS_l1 N p0 p1 k) (IntKind.i64.wrap (s1 + 1))))))) else some true)
def m_l_eqArgS (N : Nat) (p0 : (List TArg)) (p1 : (List TArg)) : Option (Bool) :=
  (if !decide ((p0.length : Int) = (p1.length : Int)) then some false else m_l_eqArgS_l1 N p0 p1 N 0)
/-! laws.eqPat -/
def m_l_eqPat (N : Nat) (p0 : TPat) (p1 : TPat) : Option (Bool) :=
  (if !seq p0.Kind p1.Kind then some false else ((m_l_eqArgS N p0.Args p1.Args).bind fun x1 => (if !x1 then some false else (if (p0.Not != p1.Not) then some false else some true))))
/-! laws.eqPatS -/
def m_l_eqPatS_l1 (N : Nat) (p0 : (List TPat)) (p1 : (List TPat)) : Nat → Int → Option (Bool)
  | 0, _ => none
  | k + 1, s1 =>
    (if decide (s1 < (p0.length : Int)) then ((idx p0 s1).bind fun x1 => ((idx p1 s1).bind fun x2 => ((m_l_eqPat N x1 x2).bind fun x3 => (if !x3 then some false else ((m_l_eqPatS_l1 N p0 p1 k) (IntKind.i64.wrap (s1 + 1))))))) else some true)
def m_l_eqPatS (N : Nat) (p0 : (List TPat)) (p1 : (List TPat)) : Option (Bool) :=
  (if !decide ((p0.length : Int) = (p1.length : Int)) then some false else m_l_eqPatS_l1 N p0 p1 N 0)
/-! laws.eqCond -/
def m_l_eqCond (N : Nat) (p0 : TCond) (p1 : TCond) : Option (Bool) :=
  (if !decide (p0.Op = p1.Op) then some false else ((m_l_eqArg N p0.L p1.L).bind fun x1 => (if !x1 then some false else ((m_l_eqArg N p0.R p1.R).bind fun x2 => (if !x2 then some false else some true)))))
/-! laws.eqCondS -/
def m_l_eqCondS_l1 (N : Nat) (p0 : (List TCond)) (p1 : (List TCond)) : Nat → Int → Option (Bool)
  | 0, _ => none
  | k + 1, s1 =>
    (if decide (s1 < (p0.length : Int)) then ((idx p0 s1).bind fun x1 => ((idx p1 s1).bind fun x2 => ((m_l_eqCond N x1 x2).bind fun x3 => (if !x3 then some false else ((m_l_eqCondS_l1 N p0 p1 k) (IntKind.i64.wrap (s1 + 1))))))) else some true)
def m_l_eqCondS (N : Nat) (p0 : (List TCond)) (p1 : (List TCond)) : Option (Bool) :=
  (if !decide ((p0.length : Int) = (p1.length : Int)) then some false else m_l_eqCondS_l1 N p0 p1 N 0)
/-! laws.eqActS -/
def m_l_eqActS_l1 (N : Nat) (p0 : (List TAct)) (p1 : (List TAct)) : Nat → Int → Option (Bool)
  | 0, _ => none
  | k + 1, s1 =>
    (if decide (s1 < (p0.length : Int)) then ((idx p0 s1).bind fun x1 => ((idx p1 s1).bind fun x2 => ((m_l_eqAct N x1 x2).bind fun x3 => (if !x3 then some false else ((m_l_eqActS_l1 N p0 p1 k) (IntKind.i64.wrap (s1 + 1))))))) else some true)
def m_l_eqActS (N : Nat) (p0 : (List TAct)) (p1 : (List TAct)) : Option (Bool) :=
  (if !decide ((p0.length : Int) = (p1.length : Int)) then some false else m_l_eqActS_l1 N p0 p1 N 0)
/-! laws.eqRule -/
def m_l_eqRule (N : Nat) (p0 : TRule) (p1 : TRule) : Option (Bool) :=
  (if !seq p0.Name p1.Name then some false else (if !decide (p0.Sal = p1.Sal) then some false else ((m_l_eqPatS N p0.Pats p1.Pats).bind fun x1 => (if !x1 then some false else ((m_l_eqCondS N p0.Conds p1.Conds).bind fun x2 => (if !x2 then some false else ((m_l_eqActS N p0.Acts p1.Acts).bind fun x3 => (if !x3 then some false else some true))))))))
/-! laws.FnExactPosCount -/
def m_l_FnExactPosCount (N : Nat) (p0 : TRule) : Option (Bool) :=
  ((m_l_szRule N p0 1048576).bind fun x1 => (if decide (x1 < 0) then some true else ((m_l_toRule N p0).bind fun x2 => ((m_s_PosCount N x2).bind fun x3 => ((m_l_toRule N p0).bind fun x4 => ((m_i_PosCount N x4).bind fun x5 => (if !decide (x5 = x3) then some false else ((m_l_toRule N p0).bind fun x6 => ((m_l_eqRule N x4 x6).bind fun x7 => (if !x7 then some false else some true))))))))))
/-! impl.BindOf -/
def m_i_BindOf_l1 (N : Nat) (p0 : (List TBind)) (p1 : ByteArray) : Nat → Int → Option (TVal × Bool)
  | 0, _ => none
  | k + 1, s1 =>
    (if decide (s1 < (p0.length : Int)) then ((idx p0 s1).bind fun x1 => (if seq x1.Name p1 then some (x1.V, true) else ((m_i_BindOf_l1 N p0 p1 k) (IntKind.i64.wrap (s1 + 1))))) else some ((⟨0, 0, (⟨#[]⟩ : ByteArray)⟩ : TVal), false))
def m_i_BindOf (N : Nat) (p0 : (List TBind)) (p1 : ByteArray) : Option (TVal × Bool) :=
  m_i_BindOf_l1 N p0 p1 N 0
/-! impl.ArgVal -/
def m_i_ArgVal (N : Nat) (p0 : TArg) (p1 : (List TBind)) : Option (TVal × Bool) :=
  (if decide (p0.K = 2) then some (p0.V, true) else (if decide (p0.K = 1) then ((m_i_BindOf N p1 p0.S).bind fun x1 => some (x1.1, x1.2)) else some ((⟨0, 0, (⟨#[]⟩ : ByteArray)⟩ : TVal), false)))
/-! impl.areInts -/
def m_i_areInts (N : Nat) (p0 : TVal) (p1 : TVal) : Option (Bool) :=
  ((if decide (p0.K = 1) then some (decide (p1.K = 1)) else some false).bind fun b1 => ((if b1 then ((m_i_ValOk N p0).bind fun x1 => some x1) else some false).bind fun b2 => ((if b2 then ((m_i_ValOk N p1).bind fun x2 => some x2) else some false).bind fun b3 => some b3)))
/-! impl.intVal -/
def m_i_intVal (N : Nat) (p0 : Int) : Option (TVal × Bool) :=
  ((m_i_ValOk N (⟨1, p0, (⟨#[]⟩ : ByteArray)⟩ : TVal)).bind fun x1 => (if !x1 then some ((⟨0, 0, (⟨#[]⟩ : ByteArray)⟩ : TVal), false) else some ((⟨1, p0, (⟨#[]⟩ : ByteArray)⟩ : TVal), true)))
/-! impl.AddVals -/
def m_i_AddVals (N : Nat) (p0 : TVal) (p1 : TVal) : Option (TVal × Bool) :=
  ((m_i_areInts N p0 p1).bind fun x1 => (if !x1 then some ((⟨0, 0, (⟨#[]⟩ : ByteArray)⟩ : TVal), false) else ((m_i_intVal N (IntKind.i64.wrap (p0.N + p1.N))).bind fun x2 => some (x2.1, x2.2))))
/-! impl.SubVals -/
def m_i_SubVals (N : Nat) (p0 : TVal) (p1 : TVal) : Option (TVal × Bool) :=
  ((m_i_areInts N p0 p1).bind fun x1 => (if !x1 then some ((⟨0, 0, (⟨#[]⟩ : ByteArray)⟩ : TVal), false) else ((m_i_intVal N (IntKind.i64.wrap (p0.N - p1.N))).bind fun x2 => some (x2.1, x2.2))))
/-! impl.Compute -/
def m_i_Compute (N : Nat) (p0 : TExpr) (p1 : (List TBind)) : Option (TVal × Bool) :=
  ((m_i_ArgVal N p0.L p1).bind fun x1 => ((if !x1.2 then some true else some (seq p0.Op (⟨#[]⟩ : ByteArray))).bind fun b1 => (if b1 then some (x1.1, x1.2) else ((m_i_ArgVal N p0.R p1).bind fun x2 => ((if x2.2 then some (seq p0.Op (⟨#[43]⟩ : ByteArray)) else some false).bind fun b2 => (if b2 then ((m_i_AddVals N x1.1 x2.1).bind fun x3 => some (x3.1, x3.2)) else ((if x2.2 then some (seq p0.Op (⟨#[45]⟩ : ByteArray)) else some false).bind fun b3 => (if b3 then ((m_i_SubVals N x1.1 x2.1).bind fun x4 => some (x4.1, x4.2)) else some ((⟨0, 0, (⟨#[]⟩ : ByteArray)⟩ : TVal), false)))))))))
/-! impl.ComputeAll -/
def m_i_ComputeAll_l1 (N : Nat) (p0 : (List TExpr)) (p1 : (List TBind)) : Nat → (List TVal) → Int → Option ((List TVal) × Bool)
  | 0, _, _ => none
  | k + 1, s1, s2 =>
    (if decide (s2 < (p0.length : Int)) then ((idx p0 s2).bind fun x1 => ((m_i_Compute N x1 p1).bind fun x2 => (if !x2.2 then some ([], false) else ((app s1 ([x2.1] : List TVal)).bind fun x3 => ((m_i_ComputeAll_l1 N p0 p1 k) x3 (IntKind.i64.wrap (s2 + 1))))))) else some (s1, true))
def m_i_ComputeAll (N : Nat) (p0 : (List TExpr)) (p1 : (List TBind)) : Option ((List TVal) × Bool) :=
  m_i_ComputeAll_l1 N p0 p1 N ([] : List TVal) 0
/-! spec.BindOf -/
def m_s_BindOf_l1 (N : Nat) (p0 : (List TBind)) (p1 : ByteArray) : Nat → Int → Option (TVal × Bool)
  | 0, _ => none
  | k + 1, s1 =>
    (if decide (s1 < (p0.length : Int)) then ((idx p0 s1).bind fun x1 => (if seq x1.Name p1 then ((idx p0 s1).bind fun x2 => some (x2.V, true)) else ((m_s_BindOf_l1 N p0 p1 k) (IntKind.i64.wrap (s1 + 1))))) else some ((⟨0, 0, (⟨#[]⟩ : ByteArray)⟩ : TVal), false))
def m_s_BindOf (N : Nat) (p0 : (List TBind)) (p1 : ByteArray) : Option (TVal × Bool) :=
  m_s_BindOf_l1 N p0 p1 N 0
/-! spec.ArgVal -/
def m_s_ArgVal (N : Nat) (p0 : TArg) (p1 : (List TBind)) : Option (TVal × Bool) :=
  (if decide (p0.K = 2) then some (p0.V, true) else (if decide (p0.K = 1) then ((m_s_BindOf N p1 p0.S).bind fun x1 => some (x1.1, x1.2)) else some ((⟨0, 0, (⟨#[]⟩ : ByteArray)⟩ : TVal), false)))
/-! spec.l2Sum -/
def m_s_l2Sum (N : Nat) (p0 : TVal) (p1 : TVal) (p2 : Int) : Option (TVal × Bool) :=
  ((if !decide (p0.K = 1) then some true else some (!decide (p1.K = 1))).bind fun b1 => ((if b1 then some true else ((m_s_ValOk N p0).bind fun x1 => some (!x1))).bind fun b2 => ((if b2 then some true else ((m_s_ValOk N p1).bind fun x2 => some (!x2))).bind fun b3 => ((if b3 then some true else ((m_s_ValOk N (⟨1, p2, (⟨#[]⟩ : ByteArray)⟩ : TVal)).bind fun x3 => some (!x3))).bind fun b4 => (if b4 then some ((⟨0, 0, (⟨#[]⟩ : ByteArray)⟩ : TVal), false) else some ((⟨1, p2, (⟨#[]⟩ : ByteArray)⟩ : TVal), true))))))
/-! spec.AddVals -/
def m_s_AddVals (N : Nat) (p0 : TVal) (p1 : TVal) : Option (TVal × Bool) :=
  ((m_s_l2Sum N p0 p1 (IntKind.i64.wrap (p0.N + p1.N))).bind fun x1 => some (x1.1, x1.2))
/-! spec.SubVals -/
def m_s_SubVals (N : Nat) (p0 : TVal) (p1 : TVal) : Option (TVal × Bool) :=
  ((m_s_l2Sum N p0 p1 (IntKind.i64.wrap (p0.N - p1.N))).bind fun x1 => some (x1.1, x1.2))
/-! spec.Compute -/
def m_s_Compute (N : Nat) (p0 : TExpr) (p1 : (List TBind)) : Option (TVal × Bool) :=
  ((m_s_ArgVal N p0.L p1).bind fun x1 => ((m_s_ArgVal N p0.R p1).bind fun x2 => (if !x1.2 then some ((⟨0, 0, (⟨#[]⟩ : ByteArray)⟩ : TVal), false) else (if seq p0.Op (⟨#[]⟩ : ByteArray) then some (x1.1, true) else (if !x2.2 then some ((⟨0, 0, (⟨#[]⟩ : ByteArray)⟩ : TVal), false) else (if seq p0.Op (⟨#[43]⟩ : ByteArray) then ((m_s_AddVals N x1.1 x2.1).bind fun x3 => some (x3.1, x3.2)) else (if seq p0.Op (⟨#[45]⟩ : ByteArray) then ((m_s_SubVals N x1.1 x2.1).bind fun x4 => some (x4.1, x4.2)) else some ((⟨0, 0, (⟨#[]⟩ : ByteArray)⟩ : TVal), false))))))))
/-! spec.ComputeAll -/
def m_s_ComputeAll_l1 (N : Nat) (p0 : (List TExpr)) (p1 : (List TBind)) : Nat → (List TVal) → Int → Option ((List TVal) × Bool)
  | 0, _, _ => none
  | k + 1, s1, s2 =>
    (if decide (s2 < (p0.length : Int)) then ((idx p0 s2).bind fun x1 => ((m_s_Compute N x1 p1).bind fun x2 => (if !x2.2 then some (([] : List TVal), false) else ((app s1 ([x2.1] : List TVal)).bind fun x3 => ((m_s_ComputeAll_l1 N p0 p1 k) x3 (IntKind.i64.wrap (s2 + 1))))))) else some (s1, true))
def m_s_ComputeAll (N : Nat) (p0 : (List TExpr)) (p1 : (List TBind)) : Option ((List TVal) × Bool) :=
  m_s_ComputeAll_l1 N p0 p1 N ([] : List TVal) 0
/-! laws.eqValS -/
def m_l_eqValS_l1 (N : Nat) (p0 : (List TVal)) (p1 : (List TVal)) : Nat → Int → Option (Bool)
  | 0, _ => none
  | k + 1, s1 =>
    (if decide (s1 < (p0.length : Int)) then ((idx p0 s1).bind fun x1 => ((idx p1 s1).bind fun x2 => ((m_l_eqVal N x1 x2).bind fun x3 => (if !x3 then some false else ((m_l_eqValS_l1 N p0 p1 k) (IntKind.i64.wrap (s1 + 1))))))) else some true)
def m_l_eqValS (N : Nat) (p0 : (List TVal)) (p1 : (List TVal)) : Option (Bool) :=
  (if !decide ((p0.length : Int) = (p1.length : Int)) then some false else m_l_eqValS_l1 N p0 p1 N 0)
/-! laws.markExprS -/
def m_l_markExprS_l1 (N : Nat) : Nat → (List TExpr) → Int → Int → Option (Int × (List TExpr))
  | 0, _, _, _ => none
  | k + 1, s1, s2, s3 =>
    (if decide (s3 < (s1.length : Int)) then ((m_l_markText N s2).bind fun x1 => ((idx s1 s3).bind fun x2 => ((m_l_markText N (IntKind.i64.wrap ((IntKind.i64.wrap (s2 + 1)) + 1))).bind fun x3 => ((m_l_markText N (IntKind.i64.wrap ((IntKind.i64.wrap ((IntKind.i64.wrap ((IntKind.i64.wrap ((IntKind.i64.wrap (s2 + 1)) + 1)) + 1)) + 1)) + 1))).bind fun x4 => ((m_l_markText N (IntKind.i64.wrap ((IntKind.i64.wrap ((IntKind.i64.wrap ((IntKind.i64.wrap ((IntKind.i64.wrap ((IntKind.i64.wrap ((IntKind.i64.wrap (s2 + 1)) + 1)) + 1)) + 1)) + 1)) + 1)) + 1))).bind fun x5 => ((m_l_markText N (IntKind.i64.wrap ((IntKind.i64.wrap ((IntKind.i64.wrap ((IntKind.i64.wrap ((IntKind.i64.wrap ((IntKind.i64.wrap ((IntKind.i64.wrap ((IntKind.i64.wrap ((IntKind.i64.wrap ((IntKind.i64.wrap (s2 + 1)) + 1)) + 1)) + 1)) + 1)) + 1)) + 1)) + 1)) + 1)) + 1))).bind fun x6 => ((m_l_markExprS_l1 N k) (s1.set s3.toNat (⟨x1, (⟨IntKind.i64.wrap (s2 + 1), x3, (⟨IntKind.i64.wrap ((IntKind.i64.wrap ((IntKind.i64.wrap (s2 + 1)) + 1)) + 1), IntKind.i64.wrap ((IntKind.i64.wrap ((IntKind.i64.wrap ((IntKind.i64.wrap (s2 + 1)) + 1)) + 1)) + 1), x4⟩ : TVal)⟩ : TArg), (⟨IntKind.i64.wrap ((IntKind.i64.wrap ((IntKind.i64.wrap ((IntKind.i64.wrap ((IntKind.i64.wrap ((IntKind.i64.wrap (s2 + 1)) + 1)) + 1)) + 1)) + 1)) + 1), x5, (⟨IntKind.i64.wrap ((IntKind.i64.wrap ((IntKind.i64.wrap ((IntKind.i64.wrap ((IntKind.i64.wrap ((IntKind.i64.wrap ((IntKind.i64.wrap ((IntKind.i64.wrap (s2 + 1)) + 1)) + 1)) + 1)) + 1)) + 1)) + 1)) + 1), IntKind.i64.wrap ((IntKind.i64.wrap ((IntKind.i64.wrap ((IntKind.i64.wrap ((IntKind.i64.wrap ((IntKind.i64.wrap ((IntKind.i64.wrap ((IntKind.i64.wrap ((IntKind.i64.wrap (s2 + 1)) + 1)) + 1)) + 1)) + 1)) + 1)) + 1)) + 1)) + 1), x6⟩ : TVal)⟩ : TArg)⟩ : TExpr)) (IntKind.i64.wrap ((IntKind.i64.wrap ((IntKind.i64.wrap ((IntKind.i64.wrap ((IntKind.i64.wrap ((IntKind.i64.wrap ((IntKind.i64.wrap ((IntKind.i64.wrap ((IntKind.i64.wrap ((IntKind.i64.wrap ((IntKind.i64.wrap (s2 + 1)) + 1)) + 1)) + 1)) + 1)) + 1)) + 1)) + 1)) + 1)) + 1)) + 1)) (IntKind.i64.wrap (s3 + 1))))))))) else some (s2, s1))
def m_l_markExprS (N : Nat) (p0 : (List TExpr)) (p1 : Int) : Option (Int × (List TExpr)) :=
  m_l_markExprS_l1 N N p0 p1 0
/-! laws.markValS -/
def m_l_markValS_l1 (N : Nat) : Nat → (List TVal) → Int → Int → Option (Int × (List TVal))
  | 0, _, _, _ => none
  | k + 1, s1, s2, s3 =>
    (if decide (s3 < (s1.length : Int)) then ((idx s1 s3).bind fun x1 => ((m_l_markText N (IntKind.i64.wrap ((IntKind.i64.wrap (s2 + 1)) + 1))).bind fun x2 => ((m_l_markValS_l1 N k) (s1.set s3.toNat (⟨s2, IntKind.i64.wrap (s2 + 1), x2⟩ : TVal)) (IntKind.i64.wrap ((IntKind.i64.wrap ((IntKind.i64.wrap (s2 + 1)) + 1)) + 1)) (IntKind.i64.wrap (s3 + 1))))) else some (s2, s1))
def m_l_markValS (N : Nat) (p0 : (List TVal)) (p1 : Int) : Option (Int × (List TVal)) :=
  m_l_markValS_l1 N N p0 p1 0
/-! laws.heldValS -/
def m_l_heldValS_l1 (N : Nat) (p0 : (List TVal)) : Nat → Int → Int → Option (Int)
  | 0, _, _ => none
  | k + 1, s1, s2 =>
    (if decide (s2 < (p0.length : Int)) then ((idx p0 s2).bind fun x1 => (if !decide (x1.K = s1) then some (-1) else ((idx p0 s2).bind fun x2 => (if !decide (x2.N = IntKind.i64.wrap (s1 + 1)) then some (-1) else ((idx p0 s2).bind fun x3 => ((m_l_markText N (IntKind.i64.wrap ((IntKind.i64.wrap (s1 + 1)) + 1))).bind fun x4 => (if !seq x3.S x4 then some (-1) else ((m_l_heldValS_l1 N p0 k) (IntKind.i64.wrap ((IntKind.i64.wrap ((IntKind.i64.wrap (s1 + 1)) + 1)) + 1)) (IntKind.i64.wrap (s2 + 1)))))))))) else some s1)
def m_l_heldValS (N : Nat) (p0 : (List TVal)) (p1 : Int) : Option (Int) :=
  m_l_heldValS_l1 N p0 N p1 0
/-! laws.FnExactComputeAll -/
def m_l_FnExactComputeAll (N : Nat) (p0 : (List TExpr)) (p1 : (List TBind)) : Option (Bool) :=
  ((m_l_szExprS N p0 1048576).bind fun x1 => (if decide (x1 < 0) then some true else ((m_l_szBindS N p1 x1).bind fun x2 => (if decide (x2 < 0) then some true else ((m_l_toExprS N p0).bind fun x3 => ((m_l_toBindS N p1).bind fun x4 => ((m_s_ComputeAll N x3 x4).bind fun x5 => ((m_l_toExprS N p0).bind fun x6 => ((m_l_toBindS N p1).bind fun x7 => ((m_i_ComputeAll N x6 x7).bind fun x8 => ((m_l_eqValS N x8.1 x5.1).bind fun x9 => ((if !x9 then some true else some (x8.2 != x5.2)).bind fun b1 => (if b1 then some false else ((m_l_toExprS N p0).bind fun x10 => ((m_l_eqExprS N x6 x10).bind fun x11 => (if !x11 then some false else ((m_l_toBindS N p1).bind fun x12 => ((m_l_eqBindS N x7 x12).bind fun x13 => (if !x13 then some false else ((m_l_markExprS N x6 1).bind fun x14 => ((m_l_markBindS N x7 x14.1).bind fun x15 => ((if decide (x15.1 < 0) then some true else ((m_l_eqValS N x8.1 x5.1).bind fun x16 => some (!x16))).bind fun b2 => ((if b2 then some true else some (x8.2 != x5.2)).bind fun b3 => (if b3 then some false else ((m_l_markValS N x8.1 1).bind fun x17 => ((m_l_heldValS N x17.2 1).bind fun x18 => (if decide (x18 < 0) then some false else (if !decide (x18 = x17.1) then some false else ((m_l_toExprS N p0).bind fun x19 => ((m_l_toBindS N p1).bind fun x20 => ((m_i_ComputeAll N x19 x20).bind fun x21 => ((m_l_eqValS N x21.1 x5.1).bind fun x22 => ((if !x22 then some true else some (x21.2 != x5.2)).bind fun b4 => (if b4 then some false else ((m_l_heldValS N x17.2 1).bind fun x23 => (if decide (x23 < 0) then some false else (if !decide (x23 = x17.1) then some false else some true)))))))))))))))))))))))))))))))))))))
/-! laws.big -/
def m_l_big (N : Nat) (p0 : (List Int)) : Option (Bool) :=
  some (decide (1048576 < (p0.length : Int)))
/-! spec.l1New -/
def m_s_l1New_l1 (N : Nat) (p0 : (List Int)) : Nat → Int → Int → Option (Tl1Cur)
  | 0, _, _ => none
  | k + 1, s1, s2 =>
    ((if decide (s2 < (p0.length : Int)) then some (decide (s2 < 4000)) else some false).bind fun b1 => (if b1 then ((idx p0 s2).bind fun x1 => ((m_s_l1New_l1 N p0 k) (andI .i64 (IntKind.i64.wrap ((IntKind.i64.wrap ((IntKind.i64.wrap (s1 * 137)) + (IntKind.i64.wrap x1))) + 11)) 1073741823) (IntKind.i64.wrap (s2 + 1)))) else some (⟨p0, 0, s1⟩ : Tl1Cur)))
def m_s_l1New (N : Nat) (p0 : (List Int)) : Option (Tl1Cur) :=
  m_s_l1New_l1 N p0 N (IntKind.i64.wrap (354354 + (p0.length : Int))) 0
/-! spec.l1Byte -/
def m_s_l1Byte (N : Nat) (p0 : Tl1Cur) : Option (Int × Tl1Cur) :=
  (if decide (p0.i < (p0.b.length : Int)) then ((idx p0.b p0.i).bind fun x1 => some ((andI .i64 (IntKind.i64.wrap ((andI .i64 (xorI .i64 (shrI .i64 (IntKind.i64.wrap ((IntKind.i64.wrap (p0.h * 6364136223846793005)) + 1442695040888963407)) 33) (shrI .i64 (IntKind.i64.wrap ((IntKind.i64.wrap (p0.h * 6364136223846793005)) + 1442695040888963407)) 47)) 255) + (IntKind.i64.wrap x1))) 255), (⟨p0.b, IntKind.i64.wrap (p0.i + 1), IntKind.i64.wrap ((IntKind.i64.wrap (p0.h * 6364136223846793005)) + 1442695040888963407)⟩ : Tl1Cur))) else some ((andI .i64 (xorI .i64 (shrI .i64 (IntKind.i64.wrap ((IntKind.i64.wrap (p0.h * 6364136223846793005)) + 1442695040888963407)) 33) (shrI .i64 (IntKind.i64.wrap ((IntKind.i64.wrap (p0.h * 6364136223846793005)) + 1442695040888963407)) 47)) 255), (⟨p0.b, p0.i, IntKind.i64.wrap ((IntKind.i64.wrap (p0.h * 6364136223846793005)) + 1442695040888963407)⟩ : Tl1Cur)))
/-! spec.l1Below -/
def m_s_l1Below (N : Nat) (p0 : Tl1Cur) (p1 : Int) : Option (Int × Tl1Cur) :=
  (if decide (p1 ≤ 0) then some (0, p0) else (if decide (p1 ≤ 256) then ((m_s_l1Byte N p0).bind fun x1 => ((remI x1.1 p1).bind fun x2 => some (x2, (⟨p0.b, x1.2.i, x1.2.h⟩ : Tl1Cur)))) else ((m_s_l1Byte N p0).bind fun x3 => ((m_s_l1Byte N (⟨p0.b, x3.2.i, x3.2.h⟩ : Tl1Cur)).bind fun x4 => ((m_s_l1Byte N (⟨p0.b, x4.2.i, x4.2.h⟩ : Tl1Cur)).bind fun x5 => ((remI (IntKind.i64.wrap ((IntKind.i64.wrap ((IntKind.i64.wrap (x3.1 * 65536)) + (IntKind.i64.wrap (x4.1 * 256)))) + x5.1)) p1).bind fun x6 => some (x6, (⟨p0.b, x5.2.i, x5.2.h⟩ : Tl1Cur))))))))
/-! spec.l1Once -/
def m_s_l1Once (N : Nat) (p0 : Tl1Cur) (p1 : Int) : Option (Bool × Tl1Cur) :=
  ((m_s_l1Below N p0 p1).bind fun x1 => some (decide (x1.1 = 0), (⟨p0.b, x1.2.i, x1.2.h⟩ : Tl1Cur)))
/-! spec.l1Str -/
def m_s_l1Str (N : Nat) (p0 : Tl1Cur) (p1 : (List ByteArray)) : Option (ByteArray × Tl1Cur) :=
  ((m_s_l1Below N p0 (p1.length : Int)).bind fun x1 => ((idx p1 x1.1).bind fun x2 => some (x2, (⟨p0.b, x1.2.i, x1.2.h⟩ : Tl1Cur))))
/-! spec.l3Small -/
def m_s_l3Small (N : Nat) (p0 : Tl1Cur) : Option (TVal × Tl1Cur) :=
  ((m_s_l1Once N p0 2).bind fun x1 => (if x1.1 then ((m_s_l1Below N (⟨p0.b, x1.2.i, x1.2.h⟩ : Tl1Cur) 3).bind fun x2 => some ((⟨1, IntKind.i64.wrap (1 + x2.1), (⟨#[]⟩ : ByteArray)⟩ : TVal), (⟨p0.b, x2.2.i, x2.2.h⟩ : Tl1Cur))) else ((m_s_l1Str N (⟨p0.b, x1.2.i, x1.2.h⟩ : Tl1Cur) ([(⟨#[97]⟩ : ByteArray), (⟨#[98]⟩ : ByteArray)] : List ByteArray)).bind fun x3 => some ((⟨2, 0, x3.1⟩ : TVal), (⟨p0.b, x3.2.i, x3.2.h⟩ : Tl1Cur)))))
/-! spec.l6Binds -/
def m_s_l6Binds_l1 (N : Nat) (p0 : Tl1Cur) : Nat → (List TBind) → Int → Int → Int → Option ((List TBind) × Tl1Cur)
  | 0, _, _, _, _ => none
  | k + 1, s1, s2, s3, s4 =>
    (if decide (0 < s2) then ((m_s_l1Str N (⟨p0.b, s3, s4⟩ : Tl1Cur) ([(⟨#[88]⟩ : ByteArray), (⟨#[89]⟩ : ByteArray), (⟨#[87]⟩ : ByteArray)] : List ByteArray)).bind fun x2 => ((m_s_l3Small N (⟨p0.b, x2.2.i, x2.2.h⟩ : Tl1Cur)).bind fun x3 => ((app s1 ([(⟨x2.1, x3.1⟩ : TBind)] : List TBind)).bind fun x4 => ((m_s_l6Binds_l1 N p0 k) x4 (IntKind.i64.wrap (s2 - 1)) x3.2.i x3.2.h)))) else some (s1, (⟨p0.b, s3, s4⟩ : Tl1Cur)))
def m_s_l6Binds (N : Nat) (p0 : Tl1Cur) : Option ((List TBind) × Tl1Cur) :=
  ((m_s_l1Below N p0 3).bind fun x1 => m_s_l6Binds_l1 N p0 N ([] : List TBind) x1.1 x1.2.i x1.2.h)
/-! spec.l6Val -/
def m_s_l6Val (N : Nat) (p0 : TVal) : Option (TArg) :=
  some (⟨2, (⟨#[]⟩ : ByteArray), p0⟩ : TArg)
/-! spec.l6Var -/
def m_s_l6Var (N : Nat) (p0 : ByteArray) : Option (TArg) :=
  some (⟨1, p0, (⟨0, 0, (⟨#[]⟩ : ByteArray)⟩ : TVal)⟩ : TArg)
/-! spec.l7Arg -/
def m_s_l7Arg (N : Nat) (p0 : Tl1Cur) : Option (TArg × Tl1Cur) :=
  ((m_s_l1Once N p0 3).bind fun x1 => (if x1.1 then ((m_s_l3Small N (⟨p0.b, x1.2.i, x1.2.h⟩ : Tl1Cur)).bind fun x2 => ((m_s_l6Val N x2.1).bind fun x3 => some (x3, (⟨p0.b, x2.2.i, x2.2.h⟩ : Tl1Cur)))) else ((m_s_l1Str N (⟨p0.b, x1.2.i, x1.2.h⟩ : Tl1Cur) ([(⟨#[88]⟩ : ByteArray), (⟨#[89]⟩ : ByteArray)] : List ByteArray)).bind fun x4 => ((m_s_l6Var N x4.1).bind fun x5 => some (x5, (⟨p0.b, x4.2.i, x4.2.h⟩ : Tl1Cur))))))
/-! spec.l8Expr -/
def m_s_l8Expr_j1 (N : Nat) (p0 : Tl1Cur) (x1 : TArg × Tl1Cur) (s1 : Int) (s2 : Int) (s3 : ByteArray) (s4 : Int) (s5 : ByteArray) (s6 : Int) (s7 : Int) (s8 : ByteArray) : Option (TExpr × Tl1Cur) :=
  some ((⟨s3, x1.1, (⟨s4, s5, (⟨s6, s7, s8⟩ : TVal)⟩ : TArg)⟩ : TExpr), (⟨p0.b, s1, s2⟩ : Tl1Cur))
def m_s_l8Expr (N : Nat) (p0 : Tl1Cur) : Option (TExpr × Tl1Cur) :=
  ((m_s_l7Arg N p0).bind fun x1 => ((m_s_l1Once N (⟨p0.b, x1.2.i, x1.2.h⟩ : Tl1Cur) 4).bind fun x2 => (if x2.1 then ((m_s_l1Str N (⟨p0.b, x2.2.i, x2.2.h⟩ : Tl1Cur) ([(⟨#[43]⟩ : ByteArray), (⟨#[45]⟩ : ByteArray)] : List ByteArray)).bind fun x3 => ((m_s_l7Arg N (⟨p0.b, x3.2.i, x3.2.h⟩ : Tl1Cur)).bind fun x4 => m_s_l8Expr_j1 N p0 x1 x4.2.i x4.2.h x3.1 x4.1.K x4.1.S x4.1.V.K x4.1.V.N x4.1.V.S)) else m_s_l8Expr_j1 N p0 x1 x2.2.i x2.2.h (⟨#[]⟩ : ByteArray) 0 (⟨#[]⟩ : ByteArray) 0 0 (⟨#[]⟩ : ByteArray))))
/-! spec.DrawComputeAll -/
def m_s_DrawComputeAll_l1 (N : Nat) (x1 : Tl1Cur) : Nat → (List TExpr) → Int → Int → Int → Option ((List TExpr) × (List TBind))
  | 0, _, _, _, _ => none
  | k + 1, s1, s2, s3, s4 =>
    (if decide (0 < s2) then ((m_s_l8Expr N (⟨x1.b, s3, s4⟩ : Tl1Cur)).bind fun x3 => ((app s1 ([x3.1] : List TExpr)).bind fun x4 => ((m_s_DrawComputeAll_l1 N x1 k) x4 (IntKind.i64.wrap (s2 - 1)) x3.2.i x3.2.h))) else ((m_s_l6Binds N (⟨x1.b, s3, s4⟩ : Tl1Cur)).bind fun x5 => ((app x5.1 ([(⟨(⟨#[88]⟩ : ByteArray), (⟨1, 3, (⟨#[]⟩ : ByteArray)⟩ : TVal)⟩ : TBind), (⟨(⟨#[89]⟩ : ByteArray), (⟨1, 2, (⟨#[]⟩ : ByteArray)⟩ : TVal)⟩ : TBind)] : List TBind)).bind fun x6 => some (s1, x6))))
def m_s_DrawComputeAll (N : Nat) (p0 : (List Int)) : Option ((List TExpr) × (List TBind)) :=
  ((m_s_l1New N p0).bind fun x1 => ((m_s_l1Below N x1 3).bind fun x2 => m_s_DrawComputeAll_l1 N x1 N ([] : List TExpr) x2.1 x2.2.i x2.2.h))
/-! spec.l6Arg -/
def m_s_l6Arg (N : Nat) (p0 : Tl1Cur) : Option (TArg × Tl1Cur) :=
  ((m_s_l1Below N p0 6).bind fun x1 => (if decide (x1.1 = 0) then some ((⟨3, (⟨#[]⟩ : ByteArray), (⟨0, 0, (⟨#[]⟩ : ByteArray)⟩ : TVal)⟩ : TArg), (⟨p0.b, x1.2.i, x1.2.h⟩ : Tl1Cur)) else (if decide (x1.1 = 1) then ((m_s_l3Small N (⟨p0.b, x1.2.i, x1.2.h⟩ : Tl1Cur)).bind fun x2 => ((m_s_l6Val N x2.1).bind fun x3 => some (x3, (⟨p0.b, x2.2.i, x2.2.h⟩ : Tl1Cur)))) else ((m_s_l1Str N (⟨p0.b, x1.2.i, x1.2.h⟩ : Tl1Cur) ([(⟨#[88]⟩ : ByteArray), (⟨#[89]⟩ : ByteArray), (⟨#[90]⟩ : ByteArray), (⟨#[88]⟩ : ByteArray)] : List ByteArray)).bind fun x4 => ((m_s_l6Var N x4.1).bind fun x5 => some (x5, (⟨p0.b, x4.2.i, x4.2.h⟩ : Tl1Cur)))))))
/-! spec.DrawExprOk -/
def m_s_DrawExprOk_j1 (N : Nat) (s1 : ByteArray) (s2 : Int) (s3 : ByteArray) (s4 : Int) (s5 : Int) (s6 : ByteArray) (s7 : Int) (s8 : ByteArray) (s9 : Int) (s10 : Int) (s11 : ByteArray) : Option (TExpr) :=
  some (⟨s1, (⟨s2, s3, (⟨s4, s5, s6⟩ : TVal)⟩ : TArg), (⟨s7, s8, (⟨s9, s10, s11⟩ : TVal)⟩ : TArg)⟩ : TExpr)
def m_s_DrawExprOk (N : Nat) (p0 : (List Int)) : Option (TExpr) :=
  ((m_s_l1New N p0).bind fun x1 => ((m_s_l8Expr N x1).bind fun x2 => ((m_s_l1Below N (⟨x1.b, x2.2.i, x2.2.h⟩ : Tl1Cur) 6).bind fun x3 => (if decide (x3.1 = 0) then ((m_s_l1Str N (⟨x1.b, x3.2.i, x3.2.h⟩ : Tl1Cur) ([(⟨#[]⟩ : ByteArray), (⟨#[42]⟩ : ByteArray), (⟨#[45]⟩ : ByteArray)] : List ByteArray)).bind fun x4 => m_s_DrawExprOk_j1 N x4.1 x2.1.L.K x2.1.L.S x2.1.L.V.K x2.1.L.V.N x2.1.L.V.S x2.1.R.K x2.1.R.S x2.1.R.V.K x2.1.R.V.N x2.1.R.V.S) else (if decide (x3.1 = 1) then ((m_s_l6Arg N (⟨x1.b, x3.2.i, x3.2.h⟩ : Tl1Cur)).bind fun x5 => m_s_DrawExprOk_j1 N x2.1.Op x5.1.K x5.1.S x5.1.V.K x5.1.V.N x5.1.V.S x2.1.R.K x2.1.R.S x2.1.R.V.K x2.1.R.V.N x2.1.R.V.S) else (if decide (x3.1 = 2) then ((m_s_l6Arg N (⟨x1.b, x3.2.i, x3.2.h⟩ : Tl1Cur)).bind fun x6 => m_s_DrawExprOk_j1 N x2.1.Op x2.1.L.K x2.1.L.S x2.1.L.V.K x2.1.L.V.N x2.1.L.V.S x6.1.K x6.1.S x6.1.V.K x6.1.V.N x6.1.V.S) else m_s_DrawExprOk_j1 N x2.1.Op x2.1.L.K x2.1.L.S x2.1.L.V.K x2.1.L.V.N x2.1.L.V.S x2.1.R.K x2.1.R.S x2.1.R.V.K x2.1.R.V.N x2.1.R.V.S))))))
/-! spec.l1Int -/
def m_s_l1Int (N : Nat) (p0 : Tl1Cur) (p1 : (List Int)) : Option (Int × Tl1Cur) :=
  ((m_s_l1Below N p0 (p1.length : Int)).bind fun x1 => ((idx p1 x1.1).bind fun x2 => some (x2, (⟨p0.b, x1.2.i, x1.2.h⟩ : Tl1Cur))))
/-! spec.DrawCompute -/
def m_s_DrawCompute_j1 (N : Nat) (x1 : TExpr) (s1 : (List TBind)) : Option (TExpr × (List TBind)) :=
  some (x1, s1)
def m_s_DrawCompute (N : Nat) (p0 : (List Int)) : Option (TExpr × (List TBind)) :=
  ((m_s_DrawExprOk N p0).bind fun x1 => ((m_s_l1New N p0).bind fun x2 => ((m_s_l6Binds N x2).bind fun x3 => ((m_s_l1Once N (⟨x2.b, x3.2.i, x3.2.h⟩ : Tl1Cur) 2).bind fun x4 => (if x4.1 then ((m_s_l1Int N (⟨x2.b, x4.2.i, x4.2.h⟩ : Tl1Cur) ([1, 1000000000] : List Int)).bind fun x5 => ((app x3.1 ([(⟨(⟨#[88]⟩ : ByteArray), (⟨1, x5.1, (⟨#[]⟩ : ByteArray)⟩ : TVal)⟩ : TBind), (⟨(⟨#[89]⟩ : ByteArray), (⟨1, 2, (⟨#[]⟩ : ByteArray)⟩ : TVal)⟩ : TBind)] : List TBind)).bind fun x6 => m_s_DrawCompute_j1 N x1 x6)) else m_s_DrawCompute_j1 N x1 x3.1)))))
/-! laws.FnComputed -/
def m_l_FnComputed_l1 (N : Nat) (p0 : (List Int)) (x2 : (List TExpr) × (List TBind)) (x3 : (List TVal) × Bool) : Nat → Bool → Int → Option (Bool)
  | 0, _, _ => none
  | k + 1, s1, s2 =>
    (if decide (s2 < (x2.1.length : Int)) then ((idx x2.1 s2).bind fun x4 => ((m_i_Compute N x4 x2.2).bind fun x5 => ((if s1 then some x5.2 else some false).bind fun b1 => ((if x3.2 then ((if decide ((x3.1.length : Int) ≤ s2) then some true else ((idx x3.1 s2).bind fun x6 => some (!(eqT_TVal x6 x5.1)))).bind fun b3 => ((if b3 then some true else ((m_i_ValOk N x5.1).bind fun x7 => some (!x7))).bind fun b4 => some b4)) else some false).bind fun b2 => (if b2 then some false else ((m_l_FnComputed_l1 N p0 x2 x3 k) b1 (IntKind.i64.wrap (s2 + 1)))))))) else ((m_s_DrawCompute N p0).bind fun x8 => ((m_i_Compute N x8.1 x8.2).bind fun x9 => ((m_s_Compute N x8.1 x8.2).bind fun x10 => ((if (x3.2 == s1) then ((if x3.2 then some (decide ((x3.1.length : Int) = (x2.1.length : Int))) else some false).bind fun b6 => ((if b6 then some true else ((if !x3.2 then some (decide ((x3.1.length : Int) = 0)) else some false).bind fun b8 => some b8)).bind fun b7 => some b7)) else some false).bind fun b5 => ((if b5 then some (x9.2 == x10.2) else some false).bind fun b9 => ((if b9 then ((m_i_ExprOk N x8.1).bind fun x11 => ((m_s_ExprOk N x8.1).bind fun x12 => some (x11 == x12))) else some false).bind fun b10 => some b10)))))))
def m_l_FnComputed (N : Nat) (p0 : (List Int)) : Option (Bool) :=
  ((m_l_big N p0).bind fun x1 => (if x1 then some true else ((m_s_DrawComputeAll N p0).bind fun x2 => ((m_i_ComputeAll N x2.1 x2.2).bind fun x3 => m_l_FnComputed_l1 N p0 x2 x3 N true 0))))
end Go.Proofs.Ytmhckcoabhahpaa
