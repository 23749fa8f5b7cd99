/- Printed by a program of ours: Lean functions of plain data for the Go functions. -/
import Derived.Test.YtmhckcoabhahpaaEJ
namespace Go.Proofs.Ytmhckcoabhahpaa
open Eng
set_option linter.unusedVariables false
set_option linter.unusedSimpArgs false

structure Tl1Cur where
  b : (List Int)
  i : Int
  h : Int
  deriving DecidableEq
def RTl1Cur (Φ : Hp) (F : List Nat) (cs : List Value) (x : Tl1Cur) : Prop :=
  ∃ (s0 : Value) (F0 : List Nat), cs = [s0, .int .i64 x.i, .int .i64 x.h] ∧ F = F0 ∧ RSl (RI .u8) 1 Φ F0 s0 x.b
theorem RTl1Cur.lasts : Lasts RTl1Cur := fun X Φ Φ' F cs x hf hd ⟨s0, F0, hc, hF, h0⟩ => by
  rw [hF] at hd
  exact ⟨s0, F0, hc, hF, h0.frame RI.lasts hf (fun k hk => hd k (by simp [hk]))⟩
theorem RTl1Cur.knows : Knows RTl1Cur := fun Φ F cs x ⟨s0, F0, hc, hF, h0⟩ => hF ▸ h0.kn
theorem RTl1Cur.one : Ones RTl1Cur := fun _ _ _ _ h => by obtain ⟨s0, F0, rfl, -, h0⟩ := h; exact One.all ⟨h0.one, rfl, rfl, trivial⟩
def OTl1Cur (Φ : Hp) (F : List Nat) (cs : List Value) (x : Tl1Cur) : Prop :=
  ∃ (s0 : Value), cs = [s0, .int .i64 x.i, .int .i64 x.h] ∧ F = (ob s0 ++ []) ∧ OSl (RI .u8) 5 1 Φ [] s0 x.b
theorem OTl1Cur.lasts : Lasts OTl1Cur := fun X Φ Φ' F cs x hf hd ⟨s0, hc, hF, h0⟩ => by
  rw [hF] at hd
  exact ⟨s0, hc, hF, h0.frame RI.lasts hf (fun k hk => hd k (by simp [hk])) (Dj.nil _)⟩
theorem OTl1Cur.knows : Knows OTl1Cur := fun Φ F cs x ⟨s0, hc, hF, h0⟩ => hF ▸ (h0.knO.app h0.kn)
theorem OTl1Cur.one : Ones OTl1Cur := fun _ _ _ _ h => by obtain ⟨s0, rfl, -, h0⟩ := h; exact One.all ⟨h0.one, rfl, rfl, trivial⟩
theorem OTl1Cur.gives : Gives OTl1Cur RTl1Cur := fun Φ F cs x ⟨s0, hc, hF, h0⟩ => ⟨s0, ob s0 ++ [], hc, hF, h0.rslG (Gives.refl _)⟩
structure TVal where
  K : Int
  N : Int
  S : ByteArray
  deriving DecidableEq
def RTVal (Φ : Hp) (F : List Nat) (cs : List Value) (x : TVal) : Prop := cs = [.int .i64 x.K, .int .i64 x.N, .string x.S] ∧ F = []
theorem RTVal.lasts : Lasts RTVal := fun _ _ _ _ _ _ _ _ h => h
theorem RTVal.knows : Knows RTVal := fun _ _ _ _ h => h.2 ▸ Kw.nil
theorem RTVal.flat : Flat RTVal := fun _ _ _ _ h => h.2
theorem RTVal.one : Ones RTVal := fun _ _ _ _ h => by obtain ⟨rfl, -⟩ := h; exact One.all ⟨rfl, rfl, rfl, trivial⟩
structure TBind where
  Name : ByteArray
  V : TVal
  deriving DecidableEq
def RTBind (Φ : Hp) (F : List Nat) (cs : List Value) (x : TBind) : Prop := cs = [.string x.Name, .int .i64 x.V.K, .int .i64 x.V.N, .string x.V.S] ∧ F = []
theorem RTBind.lasts : Lasts RTBind := fun _ _ _ _ _ _ _ _ h => h
theorem RTBind.knows : Knows RTBind := fun _ _ _ _ h => h.2 ▸ Kw.nil
theorem RTBind.flat : Flat RTBind := fun _ _ _ _ h => h.2
theorem RTBind.one : Ones RTBind := fun _ _ _ _ h => by obtain ⟨rfl, -⟩ := h; exact One.all ⟨rfl, rfl, rfl, rfl, trivial⟩
structure TArg where
  K : Int
  S : ByteArray
  V : TVal
  deriving DecidableEq
def RTArg (Φ : Hp) (F : List Nat) (cs : List Value) (x : TArg) : Prop := cs = [.int .i64 x.K, .string x.S, .int .i64 x.V.K, .int .i64 x.V.N, .string x.V.S] ∧ F = []
theorem RTArg.lasts : Lasts RTArg := fun _ _ _ _ _ _ _ _ h => h
theorem RTArg.knows : Knows RTArg := fun _ _ _ _ h => h.2 ▸ Kw.nil
theorem RTArg.flat : Flat RTArg := fun _ _ _ _ h => h.2
theorem RTArg.one : Ones RTArg := fun _ _ _ _ h => by obtain ⟨rfl, -⟩ := h; exact One.all ⟨rfl, rfl, rfl, rfl, rfl, trivial⟩
structure TExpr where
  Op : ByteArray
  L : TArg
  R : TArg
  deriving DecidableEq
def RTExpr (Φ : Hp) (F : List Nat) (cs : List Value) (x : TExpr) : Prop := cs = [.string x.Op, .int .i64 x.L.K, .string x.L.S, .int .i64 x.L.V.K, .int .i64 x.L.V.N, .string x.L.V.S, .int .i64 x.R.K, .string x.R.S, .int .i64 x.R.V.K, .int .i64 x.R.V.N, .string x.R.V.S] ∧ F = []
theorem RTExpr.lasts : Lasts RTExpr := fun _ _ _ _ _ _ _ _ h => h
theorem RTExpr.knows : Knows RTExpr := fun _ _ _ _ h => h.2 ▸ Kw.nil
theorem RTExpr.flat : Flat RTExpr := fun _ _ _ _ h => h.2
theorem RTExpr.one : Ones RTExpr := fun _ _ _ _ h => by obtain ⟨rfl, -⟩ := h; exact One.all ⟨rfl, rfl, rfl, rfl, rfl, rfl, rfl, rfl, rfl, rfl, rfl, trivial⟩
def eqT_TVal (x y : TVal) : Bool := ((x.K == y.K) && ((x.N == y.N) && (seq x.S y.S && true)))
theorem seq_dec (a b : ByteArray) : seq a b = decide (a = b) := by
  unfold seq
  by_cases h : a = b
  · subst h; simp
  · have : ¬ a.toList = b.toList := fun e => h (by rw [ByteArray.toList_eq, ByteArray.toList_eq] at e; exact ByteArray.ext (Array.toList_inj.1 e))
    simp [h, this]
theorem eqT_TVal_eq (x y : TVal) : eqT_TVal x y = decide (x = y) := by
  obtain ⟨a0, a1, a2⟩ := x; obtain ⟨b0, b1, b2⟩ := y
  rw [Bool.eq_iff_iff]
  simp only [eqT_TVal, seq_dec, Bool.and_true, Bool.and_eq_true, beq_iff_eq, decide_eq_true_eq, TVal.mk.injEq, and_assoc]
def eqT_TArg (x y : TArg) : Bool := ((x.K == y.K) && (seq x.S y.S && ((x.V.K == y.V.K) && ((x.V.N == y.V.N) && (seq x.V.S y.V.S && true)))))

theorem eqT_TArg_eq (x y : TArg) : eqT_TArg x y = decide (x = y) := by
  obtain ⟨a0, a1, ⟨a20, a21, a22⟩⟩ := x; obtain ⟨b0, b1, ⟨b20, b21, b22⟩⟩ := y
  rw [Bool.eq_iff_iff]
  simp only [eqT_TArg, seq_dec, Bool.and_true, Bool.and_eq_true, beq_iff_eq, decide_eq_true_eq, TArg.mk.injEq, TVal.mk.injEq, and_assoc]
/-! laws.big -/
def m_l_big (N : Nat) (p0 : (List Int)) : Option (Bool) :=
  some (decide (1048576 < (p0.length : Int)))
/-! spec.l1New -/
def m_s_l1New_l1 (N : Nat) (p0 : (List Int)) : Nat → Int → Int → Option (Tl1Cur)
  | 0, _, _ => none
  | k + 1, s1, s2 =>
    ((if decide (s2 < (p0.length : Int)) then some (decide (s2 < 4000)) else some false).bind fun b1 => (if b1 then ((idx p0 s2).bind fun x1 => ((m_s_l1New_l1 N p0 k) (andI .i64 (IntKind.i64.wrap ((IntKind.i64.wrap ((IntKind.i64.wrap (s1 * 137)) + (IntKind.i64.wrap x1))) + 11)) 1073741823) (IntKind.i64.wrap (s2 + 1)))) else some (⟨p0, 0, s1⟩ : Tl1Cur)))
def m_s_l1New (N : Nat) (p0 : (List Int)) : Option (Tl1Cur) :=
  m_s_l1New_l1 N p0 N (IntKind.i64.wrap (354354 + (p0.length : Int))) 0
/-! spec.l1Byte -/
def m_s_l1Byte (N : Nat) (p0 : Tl1Cur) : Option (Int × Tl1Cur) :=
  (if decide (p0.i < (p0.b.length : Int)) then ((idx p0.b p0.i).bind fun x1 => some ((andI .i64 (IntKind.i64.wrap ((andI .i64 (xorI .i64 (shrI .i64 (IntKind.i64.wrap ((IntKind.i64.wrap (p0.h * 6364136223846793005)) + 1442695040888963407)) 33) (shrI .i64 (IntKind.i64.wrap ((IntKind.i64.wrap (p0.h * 6364136223846793005)) + 1442695040888963407)) 47)) 255) + (IntKind.i64.wrap x1))) 255), (⟨p0.b, IntKind.i64.wrap (p0.i + 1), IntKind.i64.wrap ((IntKind.i64.wrap (p0.h * 6364136223846793005)) + 1442695040888963407)⟩ : Tl1Cur))) else some ((andI .i64 (xorI .i64 (shrI .i64 (IntKind.i64.wrap ((IntKind.i64.wrap (p0.h * 6364136223846793005)) + 1442695040888963407)) 33) (shrI .i64 (IntKind.i64.wrap ((IntKind.i64.wrap (p0.h * 6364136223846793005)) + 1442695040888963407)) 47)) 255), (⟨p0.b, p0.i, IntKind.i64.wrap ((IntKind.i64.wrap (p0.h * 6364136223846793005)) + 1442695040888963407)⟩ : Tl1Cur)))
/-! spec.l1Below -/
def m_s_l1Below (N : Nat) (p0 : Tl1Cur) (p1 : Int) : Option (Int × Tl1Cur) :=
  (if decide (p1 ≤ 0) then some (0, p0) else (if decide (p1 ≤ 256) then ((m_s_l1Byte N p0).bind fun x1 => ((remI x1.1 p1).bind fun x2 => some (x2, (⟨p0.b, x1.2.i, x1.2.h⟩ : Tl1Cur)))) else ((m_s_l1Byte N p0).bind fun x3 => ((m_s_l1Byte N (⟨p0.b, x3.2.i, x3.2.h⟩ : Tl1Cur)).bind fun x4 => ((m_s_l1Byte N (⟨p0.b, x4.2.i, x4.2.h⟩ : Tl1Cur)).bind fun x5 => ((remI (IntKind.i64.wrap ((IntKind.i64.wrap ((IntKind.i64.wrap (x3.1 * 65536)) + (IntKind.i64.wrap (x4.1 * 256)))) + x5.1)) p1).bind fun x6 => some (x6, (⟨p0.b, x5.2.i, x5.2.h⟩ : Tl1Cur))))))))
/-! spec.l1Once -/
def m_s_l1Once (N : Nat) (p0 : Tl1Cur) (p1 : Int) : Option (Bool × Tl1Cur) :=
  ((m_s_l1Below N p0 p1).bind fun x1 => some (decide (x1.1 = 0), (⟨p0.b, x1.2.i, x1.2.h⟩ : Tl1Cur)))
/-! spec.l1Str -/
def m_s_l1Str (N : Nat) (p0 : Tl1Cur) (p1 : (List ByteArray)) : Option (ByteArray × Tl1Cur) :=
  ((m_s_l1Below N p0 (p1.length : Int)).bind fun x1 => ((idx p1 x1.1).bind fun x2 => some (x2, (⟨p0.b, x1.2.i, x1.2.h⟩ : Tl1Cur))))
/-! spec.l3Small -/
def m_s_l3Small (N : Nat) (p0 : Tl1Cur) : Option (TVal × Tl1Cur) :=
  ((m_s_l1Once N p0 2).bind fun x1 => (if x1.1 then ((m_s_l1Below N (⟨p0.b, x1.2.i, x1.2.h⟩ : Tl1Cur) 3).bind fun x2 => some ((⟨1, IntKind.i64.wrap (1 + x2.1), (⟨#[]⟩ : ByteArray)⟩ : TVal), (⟨p0.b, x2.2.i, x2.2.h⟩ : Tl1Cur))) else ((m_s_l1Str N (⟨p0.b, x1.2.i, x1.2.h⟩ : Tl1Cur) ([(⟨#[97]⟩ : ByteArray), (⟨#[98]⟩ : ByteArray)] : List ByteArray)).bind fun x3 => some ((⟨2, 0, x3.1⟩ : TVal), (⟨p0.b, x3.2.i, x3.2.h⟩ : Tl1Cur)))))
/-! spec.l6Binds -/
def m_s_l6Binds_l1 (N : Nat) (p0 : Tl1Cur) : Nat → (List TBind) → Int → Int → Int → Option ((List TBind) × Tl1Cur)
  | 0, _, _, _, _ => none
  | k + 1, s1, s2, s3, s4 =>
    (if decide (0 < s2) then ((m_s_l1Str N (⟨p0.b, s3, s4⟩ : Tl1Cur) ([(⟨#[88]⟩ : ByteArray), (⟨#[89]⟩ : ByteArray), (⟨#[87]⟩ : ByteArray)] : List ByteArray)).bind fun x2 => ((m_s_l3Small N (⟨p0.b, x2.2.i, x2.2.h⟩ : Tl1Cur)).bind fun x3 => ((app s1 ([(⟨x2.1, x3.1⟩ : TBind)] : List TBind)).bind fun x4 => ((m_s_l6Binds_l1 N p0 k) x4 (IntKind.i64.wrap (s2 - 1)) x3.2.i x3.2.h)))) else some (s1, (⟨p0.b, s3, s4⟩ : Tl1Cur)))
def m_s_l6Binds (N : Nat) (p0 : Tl1Cur) : Option ((List TBind) × Tl1Cur) :=
  ((m_s_l1Below N p0 3).bind fun x1 => m_s_l6Binds_l1 N p0 N ([] : List TBind) x1.1 x1.2.i x1.2.h)
/-! spec.l6Val -/
def m_s_l6Val (N : Nat) (p0 : TVal) : Option (TArg) :=
  some (⟨2, (⟨#[]⟩ : ByteArray), p0⟩ : TArg)
/-! spec.l6Var -/
def m_s_l6Var (N : Nat) (p0 : ByteArray) : Option (TArg) :=
  some (⟨1, p0, (⟨0, 0, (⟨#[]⟩ : ByteArray)⟩ : TVal)⟩ : TArg)
/-! spec.l7Arg -/
def m_s_l7Arg (N : Nat) (p0 : Tl1Cur) : Option (TArg × Tl1Cur) :=
  ((m_s_l1Once N p0 3).bind fun x1 => (if x1.1 then ((m_s_l3Small N (⟨p0.b, x1.2.i, x1.2.h⟩ : Tl1Cur)).bind fun x2 => ((m_s_l6Val N x2.1).bind fun x3 => some (x3, (⟨p0.b, x2.2.i, x2.2.h⟩ : Tl1Cur)))) else ((m_s_l1Str N (⟨p0.b, x1.2.i, x1.2.h⟩ : Tl1Cur) ([(⟨#[88]⟩ : ByteArray), (⟨#[89]⟩ : ByteArray)] : List ByteArray)).bind fun x4 => ((m_s_l6Var N x4.1).bind fun x5 => some (x5, (⟨p0.b, x4.2.i, x4.2.h⟩ : Tl1Cur))))))
/-! spec.l8Expr -/
def m_s_l8Expr_j1 (N : Nat) (p0 : Tl1Cur) (x1 : TArg × Tl1Cur) (s1 : Int) (s2 : Int) (s3 : ByteArray) (s4 : Int) (s5 : ByteArray) (s6 : Int) (s7 : Int) (s8 : ByteArray) : Option (TExpr × Tl1Cur) :=
  some ((⟨s3, x1.1, (⟨s4, s5, (⟨s6, s7, s8⟩ : TVal)⟩ : TArg)⟩ : TExpr), (⟨p0.b, s1, s2⟩ : Tl1Cur))
def m_s_l8Expr (N : Nat) (p0 : Tl1Cur) : Option (TExpr × Tl1Cur) :=
  ((m_s_l7Arg N p0).bind fun x1 => ((m_s_l1Once N (⟨p0.b, x1.2.i, x1.2.h⟩ : Tl1Cur) 4).bind fun x2 => (if x2.1 then ((m_s_l1Str N (⟨p0.b, x2.2.i, x2.2.h⟩ : Tl1Cur) ([(⟨#[43]⟩ : ByteArray), (⟨#[45]⟩ : ByteArray)] : List ByteArray)).bind fun x3 => ((m_s_l7Arg N (⟨p0.b, x3.2.i, x3.2.h⟩ : Tl1Cur)).bind fun x4 => m_s_l8Expr_j1 N p0 x1 x4.2.i x4.2.h x3.1 x4.1.K x4.1.S x4.1.V.K x4.1.V.N x4.1.V.S)) else m_s_l8Expr_j1 N p0 x1 x2.2.i x2.2.h (⟨#[]⟩ : ByteArray) 0 (⟨#[]⟩ : ByteArray) 0 0 (⟨#[]⟩ : ByteArray))))
/-! spec.DrawComputeAll -/
def m_s_DrawComputeAll_l1 (N : Nat) (x1 : Tl1Cur) : Nat → (List TExpr) → Int → Int → Int → Option ((List TExpr) × (List TBind))
  | 0, _, _, _, _ => none
  | k + 1, s1, s2, s3, s4 =>
    (if decide (0 < s2) then ((m_s_l8Expr N (⟨x1.b, s3, s4⟩ : Tl1Cur)).bind fun x3 => ((app s1 ([x3.1] : List TExpr)).bind fun x4 => ((m_s_DrawComputeAll_l1 N x1 k) x4 (IntKind.i64.wrap (s2 - 1)) x3.2.i x3.2.h))) else ((m_s_l6Binds N (⟨x1.b, s3, s4⟩ : Tl1Cur)).bind fun x5 => ((app x5.1 ([(⟨(⟨#[88]⟩ : ByteArray), (⟨1, 3, (⟨#[]⟩ : ByteArray)⟩ : TVal)⟩ : TBind), (⟨(⟨#[89]⟩ : ByteArray), (⟨1, 2, (⟨#[]⟩ : ByteArray)⟩ : TVal)⟩ : TBind)] : List TBind)).bind fun x6 => some (s1, x6))))
def m_s_DrawComputeAll (N : Nat) (p0 : (List Int)) : Option ((List TExpr) × (List TBind)) :=
  ((m_s_l1New N p0).bind fun x1 => ((m_s_l1Below N x1 3).bind fun x2 => m_s_DrawComputeAll_l1 N x1 N ([] : List TExpr) x2.1 x2.2.i x2.2.h))
/-! impl.BindOf -/
def m_i_BindOf_l1 (N : Nat) (p0 : (List TBind)) (p1 : ByteArray) : Nat → Int → Option (TVal × Bool)
  | 0, _ => none
  | k + 1, s1 =>
    (if decide (s1 < (p0.length : Int)) then ((idx p0 s1).bind fun x1 => (if seq x1.Name p1 then some (x1.V, true) else ((m_i_BindOf_l1 N p0 p1 k) (IntKind.i64.wrap (s1 + 1))))) else some ((⟨0, 0, (⟨#[]⟩ : ByteArray)⟩ : TVal), false))
def m_i_BindOf (N : Nat) (p0 : (List TBind)) (p1 : ByteArray) : Option (TVal × Bool) :=
  m_i_BindOf_l1 N p0 p1 N 0
/-! impl.ArgVal -/
def m_i_ArgVal (N : Nat) (p0 : TArg) (p1 : (List TBind)) : Option (TVal × Bool) :=
  (if decide (p0.K = 2) then some (p0.V, true) else (if decide (p0.K = 1) then ((m_i_BindOf N p1 p0.S).bind fun x1 => some (x1.1, x1.2)) else some ((⟨0, 0, (⟨#[]⟩ : ByteArray)⟩ : TVal), false)))
/-! impl.inRange -/
def m_i_inRange (N : Nat) (p0 : Int) (p1 : Int) (p2 : Int) : Option (Bool) :=
  ((if decide (p1 ≤ p0) then some (decide (p0 ≤ p2)) else some false).bind fun b1 => some b1)
/-! impl.isSmall -/
def m_i_isSmall (N : Nat) (p0 : Int) : Option (Bool) :=
  ((if decide (97 ≤ p0) then some (decide (p0 ≤ 122)) else some false).bind fun b1 => some b1)
/-! impl.isDigit -/
def m_i_isDigit (N : Nat) (p0 : Int) : Option (Bool) :=
  ((if decide (48 ≤ p0) then some (decide (p0 ≤ 57)) else some false).bind fun b1 => some b1)
/-! impl.isWordByte -/
def m_i_isWordByte (N : Nat) (p0 : Int) : Option (Bool) :=
  ((m_i_isSmall N p0).bind fun x1 => ((if x1 then some true else ((m_i_isDigit N p0).bind fun x2 => some x2)).bind fun b1 => ((if b1 then some true else some (decide (p0 = 95))).bind fun b2 => some b2)))
/-! impl.isWord -/
def m_i_isWord_l1 (N : Nat) (p0 : ByteArray) : Nat → Int → Option (Bool)
  | 0, _ => none
  | k + 1, s1 =>
    (if decide (s1 < (p0.size : Int)) then ((idx p0.data.toList s1).bind fun y1 => ((m_i_isWordByte N (y1.toNat : Int)).bind fun x1 => (if !x1 then some false else ((m_i_isWord_l1 N p0 k) (IntKind.i64.wrap (s1 + 1)))))) else some true)
def m_i_isWord (N : Nat) (p0 : ByteArray) (p1 : Int) : Option (Bool) :=
  (if decide (p1 < (p0.size : Int)) then some false else m_i_isWord_l1 N p0 N 0)
/-! impl.ValOk -/
def m_i_ValOk (N : Nat) (p0 : TVal) : Option (Bool) :=
  (if decide (p0.K = 1) then ((m_i_inRange N p0.N (-1000000000) 1000000000).bind fun x1 => ((if x1 then some (seq p0.S (⟨#[]⟩ : ByteArray)) else some false).bind fun b1 => some b1)) else (if decide (p0.K = 2) then ((if decide (p0.N = 0) then ((m_i_isWord N p0.S 20).bind fun x2 => some x2) else some false).bind fun b2 => some b2) else some false))
/-! impl.areInts -/
def m_i_areInts (N : Nat) (p0 : TVal) (p1 : TVal) : Option (Bool) :=
  ((if decide (p0.K = 1) then some (decide (p1.K = 1)) else some false).bind fun b1 => ((if b1 then ((m_i_ValOk N p0).bind fun x1 => some x1) else some false).bind fun b2 => ((if b2 then ((m_i_ValOk N p1).bind fun x2 => some x2) else some false).bind fun b3 => some b3)))
/-! impl.intVal -/
def m_i_intVal (N : Nat) (p0 : Int) : Option (TVal × Bool) :=
  ((m_i_ValOk N (⟨1, p0, (⟨#[]⟩ : ByteArray)⟩ : TVal)).bind fun x1 => (if !x1 then some ((⟨0, 0, (⟨#[]⟩ : ByteArray)⟩ : TVal), false) else some ((⟨1, p0, (⟨#[]⟩ : ByteArray)⟩ : TVal), true)))
/-! impl.AddVals -/
def m_i_AddVals (N : Nat) (p0 : TVal) (p1 : TVal) : Option (TVal × Bool) :=
  ((m_i_areInts N p0 p1).bind fun x1 => (if !x1 then some ((⟨0, 0, (⟨#[]⟩ : ByteArray)⟩ : TVal), false) else ((m_i_intVal N (IntKind.i64.wrap (p0.N + p1.N))).bind fun x2 => some (x2.1, x2.2))))
/-! impl.SubVals -/
def m_i_SubVals (N : Nat) (p0 : TVal) (p1 : TVal) : Option (TVal × Bool) :=
  ((m_i_areInts N p0 p1).bind fun x1 => (if !x1 then some ((⟨0, 0, (⟨#[]⟩ : ByteArray)⟩ : TVal), false) else ((m_i_intVal N (IntKind.i64.wrap (p0.N - p1.N))).bind fun x2 => some (x2.1, x2.2))))
/-! impl.Compute -/
def m_i_Compute (N : Nat) (p0 : TExpr) (p1 : (List TBind)) : Option (TVal × Bool) :=
  ((m_i_ArgVal N p0.L p1).bind fun x1 => ((if !x1.2 then some true else some (seq p0.Op (⟨#[]⟩ : ByteArray))).bind fun b1 => (if b1 then some (x1.1, x1.2) else ((m_i_ArgVal N p0.R p1).bind fun x2 => ((if x2.2 then some (seq p0.Op (⟨#[43]⟩ : ByteArray)) else some false).bind fun b2 => (if b2 then ((m_i_AddVals N x1.1 x2.1).bind fun x3 => some (x3.1, x3.2)) else ((if x2.2 then some (seq p0.Op (⟨#[45]⟩ : ByteArray)) else some false).bind fun b3 => (if b3 then ((m_i_SubVals N x1.1 x2.1).bind fun x4 => some (x4.1, x4.2)) else some ((⟨0, 0, (⟨#[]⟩ : ByteArray)⟩ : TVal), false)))))))))
/-! impl.ComputeAll -/
def m_i_ComputeAll_l1 (N : Nat) (p0 : (List TExpr)) (p1 : (List TBind)) : Nat → (List TVal) → Int → Option ((List TVal) × Bool)
  | 0, _, _ => none
  | k + 1, s1, s2 =>
    (if decide (s2 < (p0.length : Int)) then ((idx p0 s2).bind fun x1 => ((m_i_Compute N x1 p1).bind fun x2 => (if !x2.2 then some ([], false) else ((app s1 ([x2.1] : List TVal)).bind fun x3 => ((m_i_ComputeAll_l1 N p0 p1 k) x3 (IntKind.i64.wrap (s2 + 1))))))) else some (s1, true))
def m_i_ComputeAll (N : Nat) (p0 : (List TExpr)) (p1 : (List TBind)) : Option ((List TVal) × Bool) :=
  m_i_ComputeAll_l1 N p0 p1 N ([] : List TVal) 0
/-! spec.l6Arg -/
def m_s_l6Arg (N : Nat) (p0 : Tl1Cur) : Option (TArg × Tl1Cur) :=
  ((m_s_l1Below N p0 6).bind fun x1 => (if decide (x1.1 = 0) then some ((⟨3, (⟨#[]⟩ : ByteArray), (⟨0, 0, (⟨#[]⟩ : ByteArray)⟩ : TVal)⟩ : TArg), (⟨p0.b, x1.2.i, x1.2.h⟩ : Tl1Cur)) else (if decide (x1.1 = 1) then ((m_s_l3Small N (⟨p0.b, x1.2.i, x1.2.h⟩ : Tl1Cur)).bind fun x2 => ((m_s_l6Val N x2.1).bind fun x3 => some (x3, (⟨p0.b, x2.2.i, x2.2.h⟩ : Tl1Cur)))) else ((m_s_l1Str N (⟨p0.b, x1.2.i, x1.2.h⟩ : Tl1Cur) ([(⟨#[88]⟩ : ByteArray), (⟨#[89]⟩ : ByteArray), (⟨#[90]⟩ : ByteArray), (⟨#[88]⟩ : ByteArray)] : List ByteArray)).bind fun x4 => ((m_s_l6Var N x4.1).bind fun x5 => some (x5, (⟨p0.b, x4.2.i, x4.2.h⟩ : Tl1Cur)))))))
/-! spec.DrawExprOk -/
def m_s_DrawExprOk_j1 (N : Nat) (s1 : ByteArray) (s2 : Int) (s3 : ByteArray) (s4 : Int) (s5 : Int) (s6 : ByteArray) (s7 : Int) (s8 : ByteArray) (s9 : Int) (s10 : Int) (s11 : ByteArray) : Option (TExpr) :=
  some (⟨s1, (⟨s2, s3, (⟨s4, s5, s6⟩ : TVal)⟩ : TArg), (⟨s7, s8, (⟨s9, s10, s11⟩ : TVal)⟩ : TArg)⟩ : TExpr)
def m_s_DrawExprOk (N : Nat) (p0 : (List Int)) : Option (TExpr) :=
  ((m_s_l1New N p0).bind fun x1 => ((m_s_l8Expr N x1).bind fun x2 => ((m_s_l1Below N (⟨x1.b, x2.2.i, x2.2.h⟩ : Tl1Cur) 6).bind fun x3 => (if decide (x3.1 = 0) then ((m_s_l1Str N (⟨x1.b, x3.2.i, x3.2.h⟩ : Tl1Cur) ([(⟨#[]⟩ : ByteArray), (⟨#[42]⟩ : ByteArray), (⟨#[45]⟩ : ByteArray)] : List ByteArray)).bind fun x4 => m_s_DrawExprOk_j1 N x4.1 x2.1.L.K x2.1.L.S x2.1.L.V.K x2.1.L.V.N x2.1.L.V.S x2.1.R.K x2.1.R.S x2.1.R.V.K x2.1.R.V.N x2.1.R.V.S) else (if decide (x3.1 = 1) then ((m_s_l6Arg N (⟨x1.b, x3.2.i, x3.2.h⟩ : Tl1Cur)).bind fun x5 => m_s_DrawExprOk_j1 N x2.1.Op x5.1.K x5.1.S x5.1.V.K x5.1.V.N x5.1.V.S x2.1.R.K x2.1.R.S x2.1.R.V.K x2.1.R.V.N x2.1.R.V.S) else (if decide (x3.1 = 2) then ((m_s_l6Arg N (⟨x1.b, x3.2.i, x3.2.h⟩ : Tl1Cur)).bind fun x6 => m_s_DrawExprOk_j1 N x2.1.Op x2.1.L.K x2.1.L.S x2.1.L.V.K x2.1.L.V.N x2.1.L.V.S x6.1.K x6.1.S x6.1.V.K x6.1.V.N x6.1.V.S) else m_s_DrawExprOk_j1 N x2.1.Op x2.1.L.K x2.1.L.S x2.1.L.V.K x2.1.L.V.N x2.1.L.V.S x2.1.R.K x2.1.R.S x2.1.R.V.K x2.1.R.V.N x2.1.R.V.S))))))
/-! spec.l1Int -/
def m_s_l1Int (N : Nat) (p0 : Tl1Cur) (p1 : (List Int)) : Option (Int × Tl1Cur) :=
  ((m_s_l1Below N p0 (p1.length : Int)).bind fun x1 => ((idx p1 x1.1).bind fun x2 => some (x2, (⟨p0.b, x1.2.i, x1.2.h⟩ : Tl1Cur))))
/-! spec.DrawCompute -/
def m_s_DrawCompute_j1 (N : Nat) (x1 : TExpr) (s1 : (List TBind)) : Option (TExpr × (List TBind)) :=
  some (x1, s1)
def m_s_DrawCompute (N : Nat) (p0 : (List Int)) : Option (TExpr × (List TBind)) :=
  ((m_s_DrawExprOk N p0).bind fun x1 => ((m_s_l1New N p0).bind fun x2 => ((m_s_l6Binds N x2).bind fun x3 => ((m_s_l1Once N (⟨x2.b, x3.2.i, x3.2.h⟩ : Tl1Cur) 2).bind fun x4 => (if x4.1 then ((m_s_l1Int N (⟨x2.b, x4.2.i, x4.2.h⟩ : Tl1Cur) ([1, 1000000000] : List Int)).bind fun x5 => ((app x3.1 ([(⟨(⟨#[88]⟩ : ByteArray), (⟨1, x5.1, (⟨#[]⟩ : ByteArray)⟩ : TVal)⟩ : TBind), (⟨(⟨#[89]⟩ : ByteArray), (⟨1, 2, (⟨#[]⟩ : ByteArray)⟩ : TVal)⟩ : TBind)] : List TBind)).bind fun x6 => m_s_DrawCompute_j1 N x1 x6)) else m_s_DrawCompute_j1 N x1 x3.1)))))
/-! spec.BindOf -/
def m_s_BindOf_l1 (N : Nat) (p0 : (List TBind)) (p1 : ByteArray) : Nat → Int → Option (TVal × Bool)
  | 0, _ => none
  | k + 1, s1 =>
    (if decide (s1 < (p0.length : Int)) then ((idx p0 s1).bind fun x1 => (if seq x1.Name p1 then ((idx p0 s1).bind fun x2 => some (x2.V, true)) else ((m_s_BindOf_l1 N p0 p1 k) (IntKind.i64.wrap (s1 + 1))))) else some ((⟨0, 0, (⟨#[]⟩ : ByteArray)⟩ : TVal), false))
def m_s_BindOf (N : Nat) (p0 : (List TBind)) (p1 : ByteArray) : Option (TVal × Bool) :=
  m_s_BindOf_l1 N p0 p1 N 0
/-! spec.ArgVal -/
def m_s_ArgVal (N : Nat) (p0 : TArg) (p1 : (List TBind)) : Option (TVal × Bool) :=
  (if decide (p0.K = 2) then some (p0.V, true) else (if decide (p0.K = 1) then ((m_s_BindOf N p1 p0.S).bind fun x1 => some (x1.1, x1.2)) else some ((⟨0, 0, (⟨#[]⟩ : ByteArray)⟩ : TVal), false)))
/-! spec.l1In -/
def m_s_l1In (N : Nat) (p0 : Int) (p1 : Int) (p2 : Int) : Option (Bool) :=
  ((if decide (p1 ≤ p0) then some (decide (p0 ≤ p2)) else some false).bind fun b1 => some b1)
/-! spec.l1Letter -/
def m_s_l1Letter (N : Nat) (p0 : Int) : Option (Bool) :=
  ((m_s_l1In N (IntKind.i64.wrap p0) 97 122).bind fun x1 => ((if x1 then some true else ((m_s_l1In N (IntKind.i64.wrap p0) 48 57).bind fun x2 => some x2)).bind fun b1 => ((if b1 then some true else some (decide (p0 = 95))).bind fun b2 => some b2)))
/-! spec.l2Plain -/
def m_s_l2Plain_l1 (N : Nat) (p0 : ByteArray) : Nat → Int → Option (Bool)
  | 0, _ => none
  | k + 1, s1 =>
    (if decide (s1 < (p0.size : Int)) then ((idx p0.data.toList s1).bind fun y1 => ((m_s_l1Letter N (y1.toNat : Int)).bind fun x1 => (if !x1 then some false else ((m_s_l2Plain_l1 N p0 k) (IntKind.i64.wrap (s1 + 1)))))) else some (decide ((p0.size : Int) ≤ 20)))
def m_s_l2Plain (N : Nat) (p0 : ByteArray) : Option (Bool) :=
  m_s_l2Plain_l1 N p0 N 0
/-! spec.ValOk -/
def m_s_ValOk (N : Nat) (p0 : TVal) : Option (Bool) :=
  (if decide (p0.K = 1) then ((m_s_l1In N p0.N (-1000000000) 1000000000).bind fun x1 => ((if x1 then some (seq p0.S (⟨#[]⟩ : ByteArray)) else some false).bind fun b1 => some b1)) else (if decide (p0.K = 2) then ((m_s_l2Plain N p0.S).bind fun x2 => ((if x2 then some (decide (p0.N = 0)) else some false).bind fun b2 => some b2)) else some false))
/-! spec.l2Sum -/
def m_s_l2Sum (N : Nat) (p0 : TVal) (p1 : TVal) (p2 : Int) : Option (TVal × Bool) :=
  ((if !decide (p0.K = 1) then some true else some (!decide (p1.K = 1))).bind fun b1 => ((if b1 then some true else ((m_s_ValOk N p0).bind fun x1 => some (!x1))).bind fun b2 => ((if b2 then some true else ((m_s_ValOk N p1).bind fun x2 => some (!x2))).bind fun b3 => ((if b3 then some true else ((m_s_ValOk N (⟨1, p2, (⟨#[]⟩ : ByteArray)⟩ : TVal)).bind fun x3 => some (!x3))).bind fun b4 => (if b4 then some ((⟨0, 0, (⟨#[]⟩ : ByteArray)⟩ : TVal), false) else some ((⟨1, p2, (⟨#[]⟩ : ByteArray)⟩ : TVal), true))))))
/-! spec.AddVals -/
def m_s_AddVals (N : Nat) (p0 : TVal) (p1 : TVal) : Option (TVal × Bool) :=
  ((m_s_l2Sum N p0 p1 (IntKind.i64.wrap (p0.N + p1.N))).bind fun x1 => some (x1.1, x1.2))
/-! spec.SubVals -/
def m_s_SubVals (N : Nat) (p0 : TVal) (p1 : TVal) : Option (TVal × Bool) :=
  ((m_s_l2Sum N p0 p1 (IntKind.i64.wrap (p0.N - p1.N))).bind fun x1 => some (x1.1, x1.2))
/-! spec.Compute -/
def m_s_Compute (N : Nat) (p0 : TExpr) (p1 : (List TBind)) : Option (TVal × Bool) :=
  ((m_s_ArgVal N p0.L p1).bind fun x1 => ((m_s_ArgVal N p0.R p1).bind fun x2 => (if !x1.2 then some ((⟨0, 0, (⟨#[]⟩ : ByteArray)⟩ : TVal), false) else (if seq p0.Op (⟨#[]⟩ : ByteArray) then some (x1.1, true) else (if !x2.2 then some ((⟨0, 0, (⟨#[]⟩ : ByteArray)⟩ : TVal), false) else (if seq p0.Op (⟨#[43]⟩ : ByteArray) then ((m_s_AddVals N x1.1 x2.1).bind fun x3 => some (x3.1, x3.2)) else (if seq p0.Op (⟨#[45]⟩ : ByteArray) then ((m_s_SubVals N x1.1 x2.1).bind fun x4 => some (x4.1, x4.2)) else some ((⟨0, 0, (⟨#[]⟩ : ByteArray)⟩ : TVal), false))))))))
/-! impl.isLarge -/
def m_i_isLarge (N : Nat) (p0 : Int) : Option (Bool) :=
  ((if decide (65 ≤ p0) then some (decide (p0 ≤ 90)) else some false).bind fun b1 => some b1)
/-! impl.isVar -/
def m_i_isVar_l1 (N : Nat) (p0 : ByteArray) : Nat → Int → Option (Bool)
  | 0, _ => none
  | k + 1, s1 =>
    (if decide (s1 < (p0.size : Int)) then ((idx p0.data.toList s1).bind fun y2 => ((m_i_isWordByte N (y2.toNat : Int)).bind fun x2 => ((if !x2 then ((idx p0.data.toList s1).bind fun y3 => ((m_i_isLarge N (y3.toNat : Int)).bind fun x3 => some (!x3))) else some false).bind fun b3 => (if b3 then some false else ((m_i_isVar_l1 N p0 k) (IntKind.i64.wrap (s1 + 1))))))) else some true)
def m_i_isVar (N : Nat) (p0 : ByteArray) : Option (Bool) :=
  ((if decide ((p0.size : Int) < 1) then some true else some (decide (12 < (p0.size : Int)))).bind fun b1 => ((if b1 then some true else ((idx p0.data.toList 0).bind fun y1 => ((m_i_isLarge N (y1.toNat : Int)).bind fun x1 => some (!x1)))).bind fun b2 => (if b2 then some false else m_i_isVar_l1 N p0 N 0)))
/-! impl.ArgOk -/
def m_i_ArgOk (N : Nat) (p0 : TArg) : Option (Bool) :=
  (if decide (p0.K = 1) then ((m_i_isVar N p0.S).bind fun x1 => ((if x1 then some (eqT_TVal p0.V (⟨0, 0, (⟨#[]⟩ : ByteArray)⟩ : TVal)) else some false).bind fun b1 => some b1)) else (if decide (p0.K = 2) then ((if seq p0.S (⟨#[]⟩ : ByteArray) then ((m_i_ValOk N p0.V).bind fun x2 => some x2) else some false).bind fun b2 => some b2) else (if decide (p0.K = 3) then ((if seq p0.S (⟨#[]⟩ : ByteArray) then some (eqT_TVal p0.V (⟨0, 0, (⟨#[]⟩ : ByteArray)⟩ : TVal)) else some false).bind fun b3 => some b3) else some false)))
/-! impl.isTerm -/
def m_i_isTerm (N : Nat) (p0 : TArg) : Option (Bool) :=
  ((if !decide (p0.K = 3) then ((m_i_ArgOk N p0).bind fun x1 => some x1) else some false).bind fun b1 => some b1)
/-! impl.ExprOk -/
def m_i_ExprOk_j1 (N : Nat) (p0 : TExpr) (s1 : Bool) : Option (Bool) :=
  (if s1 then ((m_i_isTerm N p0.L).bind fun x2 => ((if x2 then ((m_i_isTerm N p0.R).bind fun x3 => some x3) else some false).bind fun b2 => some b2)) else some false)
def m_i_ExprOk (N : Nat) (p0 : TExpr) : Option (Bool) :=
  (if seq p0.Op (⟨#[]⟩ : ByteArray) then ((m_i_isTerm N p0.L).bind fun x1 => ((if x1 then some (eqT_TArg p0.R (⟨0, (⟨#[]⟩ : ByteArray), (⟨0, 0, (⟨#[]⟩ : ByteArray)⟩ : TVal)⟩ : TArg)) else some false).bind fun b1 => some b1)) else (if seq p0.Op (⟨#[43]⟩ : ByteArray) then m_i_ExprOk_j1 N p0 (seq p0.Op (⟨#[43]⟩ : ByteArray)) else m_i_ExprOk_j1 N p0 (seq p0.Op (⟨#[45]⟩ : ByteArray))))
/-! spec.l5Large -/
def m_s_l5Large (N : Nat) (p0 : Int) : Option (Bool) :=
  ((m_s_l1In N (IntKind.i64.wrap p0) 65 90).bind fun x1 => some x1)
/-! spec.l5VarOk -/
def m_s_l5VarOk_l1 (N : Nat) (p0 : ByteArray) : Nat → Int → Option (Bool)
  | 0, _ => none
  | k + 1, s1 =>
    (if decide (s1 < (p0.size : Int)) then ((idx p0.data.toList s1).bind fun y1 => ((m_s_l5Large N (y1.toNat : Int)).bind fun x1 => ((if !x1 then ((if decide (s1 = 0) then some true else ((idx p0.data.toList s1).bind fun y2 => ((m_s_l1Letter N (y2.toNat : Int)).bind fun x2 => some (!x2)))).bind fun b2 => some b2) else some false).bind fun b1 => (if b1 then some false else ((m_s_l5VarOk_l1 N p0 k) (IntKind.i64.wrap (s1 + 1))))))) else ((m_s_l1In N (p0.size : Int) 1 12).bind fun x3 => some x3))
def m_s_l5VarOk (N : Nat) (p0 : ByteArray) : Option (Bool) :=
  m_s_l5VarOk_l1 N p0 N 0
/-! spec.ArgOk -/
def m_s_ArgOk (N : Nat) (p0 : TArg) : Option (Bool) :=
  (if decide (p0.K = 1) then ((m_s_l5VarOk N p0.S).bind fun x1 => ((if x1 then some (eqT_TVal p0.V (⟨0, 0, (⟨#[]⟩ : ByteArray)⟩ : TVal)) else some false).bind fun b1 => some b1)) else (if decide (p0.K = 2) then ((m_s_ValOk N p0.V).bind fun x2 => ((if x2 then some (seq p0.S (⟨#[]⟩ : ByteArray)) else some false).bind fun b2 => some b2)) else (if decide (p0.K = 3) then ((if seq p0.S (⟨#[]⟩ : ByteArray) then some (eqT_TVal p0.V (⟨0, 0, (⟨#[]⟩ : ByteArray)⟩ : TVal)) else some false).bind fun b3 => some b3) else some false)))
/-! spec.l8Given -/
def m_s_l8Given (N : Nat) (p0 : TArg) : Option (Bool) :=
  ((m_s_ArgOk N p0).bind fun x1 => ((if x1 then some (!decide (p0.K = 3)) else some false).bind fun b1 => some b1))
/-! spec.ExprOk -/
def m_s_ExprOk_j1 (N : Nat) (p0 : TExpr) (s1 : Bool) : Option (Bool) :=
  (if s1 then ((m_s_l8Given N p0.L).bind fun x2 => ((if x2 then ((m_s_l8Given N p0.R).bind fun x3 => some x3) else some false).bind fun b2 => some b2)) else some false)
def m_s_ExprOk (N : Nat) (p0 : TExpr) : Option (Bool) :=
  (if seq p0.Op (⟨#[]⟩ : ByteArray) then ((m_s_l8Given N p0.L).bind fun x1 => ((if x1 then some (eqT_TArg p0.R (⟨0, (⟨#[]⟩ : ByteArray), (⟨0, 0, (⟨#[]⟩ : ByteArray)⟩ : TVal)⟩ : TArg)) else some false).bind fun b1 => some b1)) else (if seq p0.Op (⟨#[43]⟩ : ByteArray) then m_s_ExprOk_j1 N p0 (seq p0.Op (⟨#[43]⟩ : ByteArray)) else m_s_ExprOk_j1 N p0 (seq p0.Op (⟨#[45]⟩ : ByteArray))))
/-! laws.FnComputed -/
def m_l_FnComputed_l1 (N : Nat) (p0 : (List Int)) (x2 : (List TExpr) × (List TBind)) (x3 : (List TVal) × Bool) : Nat → Bool → Int → Option (Bool)
  | 0, _, _ => none
  | k + 1, s1, s2 =>
    (if decide (s2 < (x2.1.length : Int)) then ((idx x2.1 s2).bind fun x4 => ((m_i_Compute N x4 x2.2).bind fun x5 => ((if s1 then some x5.2 else some false).bind fun b1 => ((if x3.2 then ((if decide ((x3.1.length : Int) ≤ s2) then some true else ((idx x3.1 s2).bind fun x6 => some (!(eqT_TVal x6 x5.1)))).bind fun b3 => ((if b3 then some true else ((m_i_ValOk N x5.1).bind fun x7 => some (!x7))).bind fun b4 => some b4)) else some false).bind fun b2 => (if b2 then some false else ((m_l_FnComputed_l1 N p0 x2 x3 k) b1 (IntKind.i64.wrap (s2 + 1)))))))) else ((m_s_DrawCompute N p0).bind fun x8 => ((m_i_Compute N x8.1 x8.2).bind fun x9 => ((m_s_Compute N x8.1 x8.2).bind fun x10 => ((if (x3.2 == s1) then ((if x3.2 then some (decide ((x3.1.length : Int) = (x2.1.length : Int))) else some false).bind fun b6 => ((if b6 then some true else ((if !x3.2 then some (decide ((x3.1.length : Int) = 0)) else some false).bind fun b8 => some b8)).bind fun b7 => some b7)) else some false).bind fun b5 => ((if b5 then some (x9.2 == x10.2) else some false).bind fun b9 => ((if b9 then ((m_i_ExprOk N x8.1).bind fun x11 => ((m_s_ExprOk N x8.1).bind fun x12 => some (x11 == x12))) else some false).bind fun b10 => some b10)))))))
def m_l_FnComputed (N : Nat) (p0 : (List Int)) : Option (Bool) :=
  ((m_l_big N p0).bind fun x1 => (if x1 then some true else ((m_s_DrawComputeAll N p0).bind fun x2 => ((m_i_ComputeAll N x2.1 x2.2).bind fun x3 => m_l_FnComputed_l1 N p0 x2 x3 N true 0))))
end Go.Proofs.Ytmhckcoabhahpaa
