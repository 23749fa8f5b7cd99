/- Printed by a program of ours: Lean functions of plain data for the Go functions. -/
import Derived.Test.YtlfpehhlkccdiaaDoorEL
namespace Go.Proofs.YtlfpehhlkccdiaaDoor
open Eng
set_option linter.unusedVariables false
set_option linter.unusedSimpArgs false

structure TVal where
  K : Int
  N : Int
  S : ByteArray
  deriving DecidableEq
def RTVal (Φ : Hp) (F : List Nat) (cs : List Value) (x : TVal) : Prop := cs = [.int .i64 x.K, .int .i64 x.N, .string x.S] ∧ F = []
theorem RTVal.lasts : Lasts RTVal := fun _ _ _ _ _ _ _ _ h => h
theorem RTVal.knows : Knows RTVal := fun _ _ _ _ h => h.2 ▸ Kw.nil
theorem RTVal.flat : Flat RTVal := fun _ _ _ _ h => h.2
theorem RTVal.one : Ones RTVal := fun _ _ _ _ h => by obtain ⟨rfl, -⟩ := h; exact One.all ⟨rfl, rfl, rfl, trivial⟩
structure TArg where
  K : Int
  S : ByteArray
  V : TVal
  deriving DecidableEq
def RTArg (Φ : Hp) (F : List Nat) (cs : List Value) (x : TArg) : Prop := cs = [.int .i64 x.K, .string x.S, .int .i64 x.V.K, .int .i64 x.V.N, .string x.V.S] ∧ F = []
theorem RTArg.lasts : Lasts RTArg := fun _ _ _ _ _ _ _ _ h => h
theorem RTArg.knows : Knows RTArg := fun _ _ _ _ h => h.2 ▸ Kw.nil
theorem RTArg.flat : Flat RTArg := fun _ _ _ _ h => h.2
theorem RTArg.one : Ones RTArg := fun _ _ _ _ h => by obtain ⟨rfl, -⟩ := h; exact One.all ⟨rfl, rfl, rfl, rfl, rfl, trivial⟩
def eqT_TVal (x y : TVal) : Bool := ((x.K == y.K) && ((x.N == y.N) && (seq x.S y.S && true)))
theorem seq_dec (a b : ByteArray) : seq a b = decide (a = b) := by
  unfold seq
  by_cases h : a = b
  · subst h; simp
  · have : ¬ a.toList = b.toList := fun e => h (by rw [ByteArray.toList_eq, ByteArray.toList_eq] at e; exact ByteArray.ext (Array.toList_inj.1 e))
    simp [h, this]
theorem eqT_TVal_eq (x y : TVal) : eqT_TVal x y = decide (x = y) := by
  obtain ⟨a0, a1, a2⟩ := x; obtain ⟨b0, b1, b2⟩ := y
  rw [Bool.eq_iff_iff]
  simp only [eqT_TVal, seq_dec, Bool.and_true, Bool.and_eq_true, beq_iff_eq, decide_eq_true_eq, TVal.mk.injEq, and_assoc]
structure TExpr where
  Op : ByteArray
  L : TArg
  R : TArg
  deriving DecidableEq
def RTExpr (Φ : Hp) (F : List Nat) (cs : List Value) (x : TExpr) : Prop := cs = [.string x.Op, .int .i64 x.L.K, .string x.L.S, .int .i64 x.L.V.K, .int .i64 x.L.V.N, .string x.L.V.S, .int .i64 x.R.K, .string x.R.S, .int .i64 x.R.V.K, .int .i64 x.R.V.N, .string x.R.V.S] ∧ F = []
theorem RTExpr.lasts : Lasts RTExpr := fun _ _ _ _ _ _ _ _ h => h
theorem RTExpr.knows : Knows RTExpr := fun _ _ _ _ h => h.2 ▸ Kw.nil
theorem RTExpr.flat : Flat RTExpr := fun _ _ _ _ h => h.2
theorem RTExpr.one : Ones RTExpr := fun _ _ _ _ h => by obtain ⟨rfl, -⟩ := h; exact One.all ⟨rfl, rfl, rfl, rfl, rfl, rfl, rfl, rfl, rfl, rfl, rfl, trivial⟩
def eqT_TArg (x y : TArg) : Bool := ((x.K == y.K) && (seq x.S y.S && ((x.V.K == y.V.K) && ((x.V.N == y.V.N) && (seq x.V.S y.V.S && true)))))

theorem eqT_TArg_eq (x y : TArg) : eqT_TArg x y = decide (x = y) := by
  obtain ⟨a0, a1, ⟨a20, a21, a22⟩⟩ := x; obtain ⟨b0, b1, ⟨b20, b21, b22⟩⟩ := y
  rw [Bool.eq_iff_iff]
  simp only [eqT_TArg, seq_dec, Bool.and_true, Bool.and_eq_true, beq_iff_eq, decide_eq_true_eq, TArg.mk.injEq, TVal.mk.injEq, and_assoc]
structure Tl1Cur where
  b : (List Int)
  i : Int
  h : Int
  deriving DecidableEq
def RTl1Cur (Φ : Hp) (F : List Nat) (cs : List Value) (x : Tl1Cur) : Prop :=
  ∃ (s0 : Value) (F0 : List Nat), cs = [s0, .int .i64 x.i, .int .i64 x.h] ∧ F = F0 ∧ RSl (RI .u8) 1 Φ F0 s0 x.b
theorem RTl1Cur.lasts : Lasts RTl1Cur := fun X Φ Φ' F cs x hf hd ⟨s0, F0, hc, hF, h0⟩ => by
  rw [hF] at hd
  exact ⟨s0, F0, hc, hF, h0.frame RI.lasts hf (fun k hk => hd k (by simp [hk]))⟩
theorem RTl1Cur.knows : Knows RTl1Cur := fun Φ F cs x ⟨s0, F0, hc, hF, h0⟩ => hF ▸ h0.kn
theorem RTl1Cur.one : Ones RTl1Cur := fun _ _ _ _ h => by obtain ⟨s0, F0, rfl, -, h0⟩ := h; exact One.all ⟨h0.one, rfl, rfl, trivial⟩
def OTl1Cur (Φ : Hp) (F : List Nat) (cs : List Value) (x : Tl1Cur) : Prop :=
  ∃ (s0 : Value), cs = [s0, .int .i64 x.i, .int .i64 x.h] ∧ F = (ob s0 ++ []) ∧ OSl (RI .u8) 5 1 Φ [] s0 x.b
theorem OTl1Cur.lasts : Lasts OTl1Cur := fun X Φ Φ' F cs x hf hd ⟨s0, hc, hF, h0⟩ => by
  rw [hF] at hd
  exact ⟨s0, hc, hF, h0.frame RI.lasts hf (fun k hk => hd k (by simp [hk])) (Dj.nil _)⟩
theorem OTl1Cur.knows : Knows OTl1Cur := fun Φ F cs x ⟨s0, hc, hF, h0⟩ => hF ▸ (h0.knO.app h0.kn)
theorem OTl1Cur.one : Ones OTl1Cur := fun _ _ _ _ h => by obtain ⟨s0, rfl, -, h0⟩ := h; exact One.all ⟨h0.one, rfl, rfl, trivial⟩
theorem OTl1Cur.gives : Gives OTl1Cur RTl1Cur := fun Φ F cs x ⟨s0, hc, hF, h0⟩ => ⟨s0, ob s0 ++ [], hc, hF, h0.rslG (Gives.refl _)⟩
structure TAct where
  Kind : Int
  Name : ByteArray
  Args : (List TExpr)
  N : Int
  Undo : ByteArray
  deriving DecidableEq
def RTAct (Φ : Hp) (F : List Nat) (cs : List Value) (x : TAct) : Prop :=
  ∃ (s0 : Value) (F0 : List Nat), cs = [.int .i64 x.Kind, .string x.Name, s0, .int .i64 x.N, .string x.Undo] ∧ F = F0 ∧ RSl RTExpr 11 Φ F0 s0 x.Args
theorem RTAct.lasts : Lasts RTAct := fun X Φ Φ' F cs x hf hd ⟨s0, F0, hc, hF, h0⟩ => by
  rw [hF] at hd
  exact ⟨s0, F0, hc, hF, h0.frame RTExpr.lasts hf (fun k hk => hd k (by simp [hk]))⟩
theorem RTAct.knows : Knows RTAct := fun Φ F cs x ⟨s0, F0, hc, hF, h0⟩ => hF ▸ h0.kn
theorem RTAct.one : Ones RTAct := fun _ _ _ _ h => by obtain ⟨s0, F0, rfl, -, h0⟩ := h; exact One.all ⟨rfl, rfl, h0.one, rfl, rfl, trivial⟩
def OTAct (Φ : Hp) (F : List Nat) (cs : List Value) (x : TAct) : Prop :=
  ∃ (s0 : Value), cs = [.int .i64 x.Kind, .string x.Name, s0, .int .i64 x.N, .string x.Undo] ∧ F = (ob s0 ++ []) ∧ OSl RTExpr 34 11 Φ [] s0 x.Args
theorem OTAct.lasts : Lasts OTAct := fun X Φ Φ' F cs x hf hd ⟨s0, hc, hF, h0⟩ => by
  rw [hF] at hd
  exact ⟨s0, hc, hF, h0.frame RTExpr.lasts hf (fun k hk => hd k (by simp [hk])) (Dj.nil _)⟩
theorem OTAct.knows : Knows OTAct := fun Φ F cs x ⟨s0, hc, hF, h0⟩ => hF ▸ (h0.knO.app h0.kn)
theorem OTAct.one : Ones OTAct := fun _ _ _ _ h => by obtain ⟨s0, rfl, -, h0⟩ := h; exact One.all ⟨rfl, rfl, h0.one, rfl, rfl, trivial⟩
theorem OTAct.gives : Gives OTAct RTAct := fun Φ F cs x ⟨s0, hc, hF, h0⟩ => ⟨s0, ob s0 ++ [], hc, hF, h0.rslG (Gives.refl _)⟩
abbrev Tab := TabAt 0
def m_i_inRange (N : Nat) (p0 : Int) (p1 : Int) (p2 : Int) : Option (Bool) :=
  ((if decide (p1 ≤ p0) then some (decide (p0 ≤ p2)) else some false).bind fun b1 => some b1)
def m_i_isSmall (N : Nat) (p0 : Int) : Option (Bool) :=
  ((if decide (97 ≤ p0) then some (decide (p0 ≤ 122)) else some false).bind fun b1 => some b1)
def m_i_isDigit (N : Nat) (p0 : Int) : Option (Bool) :=
  ((if decide (48 ≤ p0) then some (decide (p0 ≤ 57)) else some false).bind fun b1 => some b1)
def m_i_isWordByte (N : Nat) (p0 : Int) : Option (Bool) :=
  ((m_i_isSmall N p0).bind fun x1 => ((if x1 then some true else ((m_i_isDigit N p0).bind fun x2 => some x2)).bind fun b1 => ((if b1 then some true else some (decide (p0 = 95))).bind fun b2 => some b2)))
def m_i_isWord_l1 (N : Nat) (p0 : ByteArray) : Nat → Int → Option (Bool)
  | 0, _ => none
  | k + 1, s1 =>
    (if decide (s1 < (p0.size : Int)) then ((idx p0.data.toList s1).bind fun y1 => ((m_i_isWordByte N (y1.toNat : Int)).bind fun x1 => (if !x1 then some false else ((m_i_isWord_l1 N p0 k) (IntKind.i64.wrap (s1 + 1)))))) else some true)
def m_i_isWord (N : Nat) (p0 : ByteArray) (p1 : Int) : Option (Bool) :=
  (if decide (p1 < (p0.size : Int)) then some false else m_i_isWord_l1 N p0 N 0)
def m_i_ValOk (N : Nat) (p0 : TVal) : Option (Bool) :=
  (if decide (p0.K = 1) then ((m_i_inRange N p0.N (-1000000000) 1000000000).bind fun x1 => ((if x1 then some (seq p0.S (⟨#[]⟩ : ByteArray)) else some false).bind fun b1 => some b1)) else (if decide (p0.K = 2) then ((if decide (p0.N = 0) then ((m_i_isWord N p0.S 20).bind fun x2 => some x2) else some false).bind fun b2 => some b2) else some false))
def m_i_isLarge (N : Nat) (p0 : Int) : Option (Bool) :=
  ((if decide (65 ≤ p0) then some (decide (p0 ≤ 90)) else some false).bind fun b1 => some b1)
def m_i_isVar_l1 (N : Nat) (p0 : ByteArray) : Nat → Int → Option (Bool)
  | 0, _ => none
  | k + 1, s1 =>
    (if decide (s1 < (p0.size : Int)) then ((idx p0.data.toList s1).bind fun y2 => ((m_i_isWordByte N (y2.toNat : Int)).bind fun x2 => ((if !x2 then ((idx p0.data.toList s1).bind fun y3 => ((m_i_isLarge N (y3.toNat : Int)).bind fun x3 => some (!x3))) else some false).bind fun b3 => (if b3 then some false else ((m_i_isVar_l1 N p0 k) (IntKind.i64.wrap (s1 + 1))))))) else some true)
def m_i_isVar (N : Nat) (p0 : ByteArray) : Option (Bool) :=
  ((if decide ((p0.size : Int) < 1) then some true else some (decide (12 < (p0.size : Int)))).bind fun b1 => ((if b1 then some true else ((idx p0.data.toList 0).bind fun y1 => ((m_i_isLarge N (y1.toNat : Int)).bind fun x1 => some (!x1)))).bind fun b2 => (if b2 then some false else m_i_isVar_l1 N p0 N 0)))
def m_i_ArgOk (N : Nat) (p0 : TArg) : Option (Bool) :=
  (if decide (p0.K = 1) then ((m_i_isVar N p0.S).bind fun x1 => ((if x1 then some (eqT_TVal p0.V (⟨0, 0, (⟨#[]⟩ : ByteArray)⟩ : TVal)) else some false).bind fun b1 => some b1)) else (if decide (p0.K = 2) then ((if seq p0.S (⟨#[]⟩ : ByteArray) then ((m_i_ValOk N p0.V).bind fun x2 => some x2) else some false).bind fun b2 => some b2) else (if decide (p0.K = 3) then ((if seq p0.S (⟨#[]⟩ : ByteArray) then some (eqT_TVal p0.V (⟨0, 0, (⟨#[]⟩ : ByteArray)⟩ : TVal)) else some false).bind fun b3 => some b3) else some false)))
def m_i_isTerm (N : Nat) (p0 : TArg) : Option (Bool) :=
  ((if !decide (p0.K = 3) then ((m_i_ArgOk N p0).bind fun x1 => some x1) else some false).bind fun b1 => some b1)
def m_i_ExprOk_j1 (N : Nat) (p0 : TExpr) (s1 : Bool) : Option (Bool) :=
  (if s1 then ((m_i_isTerm N p0.L).bind fun x2 => ((if x2 then ((m_i_isTerm N p0.R).bind fun x3 => some x3) else some false).bind fun b2 => some b2)) else some false)
def m_i_ExprOk (N : Nat) (p0 : TExpr) : Option (Bool) :=
  (if seq p0.Op (⟨#[]⟩ : ByteArray) then ((m_i_isTerm N p0.L).bind fun x1 => ((if x1 then some (eqT_TArg p0.R (⟨0, (⟨#[]⟩ : ByteArray), (⟨0, 0, (⟨#[]⟩ : ByteArray)⟩ : TVal)⟩ : TArg)) else some false).bind fun b1 => some b1)) else (if seq p0.Op (⟨#[43]⟩ : ByteArray) then m_i_ExprOk_j1 N p0 (seq p0.Op (⟨#[43]⟩ : ByteArray)) else m_i_ExprOk_j1 N p0 (seq p0.Op (⟨#[45]⟩ : ByteArray))))
def m_i_ValText (N : Nat) (p0 : TVal) : Option (ByteArray) :=
  ((m_i_ValOk N p0).bind fun x1 => (if !x1 then some (⟨#[]⟩ : ByteArray) else (if decide (p0.K = 1) then ((m_strconv_Itoa N p0.N).bind fun x2 => some x2) else ((cat (⟨#[39]⟩ : ByteArray) p0.S).bind fun z1 => ((cat z1 (⟨#[39]⟩ : ByteArray)).bind fun z2 => some z2)))))
def m_i_argText (N : Nat) (p0 : TArg) : Option (ByteArray) :=
  (if decide (p0.K = 1) then some p0.S else (if decide (p0.K = 2) then ((m_i_ValText N p0.V).bind fun x1 => some x1) else some (⟨#[95]⟩ : ByteArray)))
def m_i_ExprText (N : Nat) (p0 : TExpr) : Option (ByteArray) :=
  ((m_i_ExprOk N p0).bind fun x1 => (if !x1 then some (⟨#[]⟩ : ByteArray) else (if seq p0.Op (⟨#[]⟩ : ByteArray) then ((m_i_argText N p0.L).bind fun x2 => some x2) else ((m_i_argText N p0.L).bind fun x3 => ((cat x3 (⟨#[32]⟩ : ByteArray)).bind fun z1 => ((cat z1 p0.Op).bind fun z2 => ((cat z2 (⟨#[32]⟩ : ByteArray)).bind fun z3 => ((m_i_argText N p0.R).bind fun x4 => ((cat z3 x4).bind fun z4 => some z4)))))))))
def m_l_big (N : Nat) (p0 : (List Int)) : Option (Bool) :=
  some (decide (1048576 < (p0.length : Int)))
def m_s_l1New_l1 (N : Nat) (p0 : (List Int)) : Nat → Int → Int → Option (Tl1Cur)
  | 0, _, _ => none
  | k + 1, s1, s2 =>
    ((if decide (s2 < (p0.length : Int)) then some (decide (s2 < 4000)) else some false).bind fun b1 => (if b1 then ((idx p0 s2).bind fun x1 => ((m_s_l1New_l1 N p0 k) (andI .i64 (IntKind.i64.wrap ((IntKind.i64.wrap ((IntKind.i64.wrap (s1 * 137)) + (IntKind.i64.wrap x1))) + 11)) 1073741823) (IntKind.i64.wrap (s2 + 1)))) else some (⟨p0, 0, s1⟩ : Tl1Cur)))
def m_s_l1New (N : Nat) (p0 : (List Int)) : Option (Tl1Cur) :=
  m_s_l1New_l1 N p0 N (IntKind.i64.wrap (354354 + (p0.length : Int))) 0
def m_s_l1Byte (N : Nat) (p0 : Tl1Cur) : Option (Int × Tl1Cur) :=
  (if decide (p0.i < (p0.b.length : Int)) then ((idx p0.b p0.i).bind fun x1 => some ((andI .i64 (IntKind.i64.wrap ((andI .i64 (xorI .i64 (shrI .i64 (IntKind.i64.wrap ((IntKind.i64.wrap (p0.h * 6364136223846793005)) + 1442695040888963407)) 33) (shrI .i64 (IntKind.i64.wrap ((IntKind.i64.wrap (p0.h * 6364136223846793005)) + 1442695040888963407)) 47)) 255) + (IntKind.i64.wrap x1))) 255), (⟨p0.b, IntKind.i64.wrap (p0.i + 1), IntKind.i64.wrap ((IntKind.i64.wrap (p0.h * 6364136223846793005)) + 1442695040888963407)⟩ : Tl1Cur))) else some ((andI .i64 (xorI .i64 (shrI .i64 (IntKind.i64.wrap ((IntKind.i64.wrap (p0.h * 6364136223846793005)) + 1442695040888963407)) 33) (shrI .i64 (IntKind.i64.wrap ((IntKind.i64.wrap (p0.h * 6364136223846793005)) + 1442695040888963407)) 47)) 255), (⟨p0.b, p0.i, IntKind.i64.wrap ((IntKind.i64.wrap (p0.h * 6364136223846793005)) + 1442695040888963407)⟩ : Tl1Cur)))
def m_s_l1Below (N : Nat) (p0 : Tl1Cur) (p1 : Int) : Option (Int × Tl1Cur) :=
  (if decide (p1 ≤ 0) then some (0, p0) else (if decide (p1 ≤ 256) then ((m_s_l1Byte N p0).bind fun x1 => ((remI x1.1 p1).bind fun x2 => some (x2, (⟨p0.b, x1.2.i, x1.2.h⟩ : Tl1Cur)))) else ((m_s_l1Byte N p0).bind fun x3 => ((m_s_l1Byte N (⟨p0.b, x3.2.i, x3.2.h⟩ : Tl1Cur)).bind fun x4 => ((m_s_l1Byte N (⟨p0.b, x4.2.i, x4.2.h⟩ : Tl1Cur)).bind fun x5 => ((remI (IntKind.i64.wrap ((IntKind.i64.wrap ((IntKind.i64.wrap (x3.1 * 65536)) + (IntKind.i64.wrap (x4.1 * 256)))) + x5.1)) p1).bind fun x6 => some (x6, (⟨p0.b, x5.2.i, x5.2.h⟩ : Tl1Cur))))))))
def m_s_l1Str (N : Nat) (p0 : Tl1Cur) (p1 : (List ByteArray)) : Option (ByteArray × Tl1Cur) :=
  ((m_s_l1Below N p0 (p1.length : Int)).bind fun x1 => ((idx p1 x1.1).bind fun x2 => some (x2, (⟨p0.b, x1.2.i, x1.2.h⟩ : Tl1Cur))))
def m_s_l1Int (N : Nat) (p0 : Tl1Cur) (p1 : (List Int)) : Option (Int × Tl1Cur) :=
  ((m_s_l1Below N p0 (p1.length : Int)).bind fun x1 => ((idx p1 x1.1).bind fun x2 => some (x2, (⟨p0.b, x1.2.i, x1.2.h⟩ : Tl1Cur))))
def m_s_l1Once (N : Nat) (p0 : Tl1Cur) (p1 : Int) : Option (Bool × Tl1Cur) :=
  ((m_s_l1Below N p0 p1).bind fun x1 => some (decide (x1.1 = 0), (⟨p0.b, x1.2.i, x1.2.h⟩ : Tl1Cur)))
def m_s_l6Val (N : Nat) (p0 : TVal) : Option (TArg) :=
  some (⟨2, (⟨#[]⟩ : ByteArray), p0⟩ : TArg)
def m_s_l3Small (N : Nat) (p0 : Tl1Cur) : Option (TVal × Tl1Cur) :=
  ((m_s_l1Once N p0 2).bind fun x1 => (if x1.1 then ((m_s_l1Below N (⟨p0.b, x1.2.i, x1.2.h⟩ : Tl1Cur) 3).bind fun x2 => some ((⟨1, IntKind.i64.wrap (1 + x2.1), (⟨#[]⟩ : ByteArray)⟩ : TVal), (⟨p0.b, x2.2.i, x2.2.h⟩ : Tl1Cur))) else ((m_s_l1Str N (⟨p0.b, x1.2.i, x1.2.h⟩ : Tl1Cur) ([(⟨#[97]⟩ : ByteArray), (⟨#[98]⟩ : ByteArray)] : List ByteArray)).bind fun x3 => some ((⟨2, 0, x3.1⟩ : TVal), (⟨p0.b, x3.2.i, x3.2.h⟩ : Tl1Cur)))))
def m_s_l6Var (N : Nat) (p0 : ByteArray) : Option (TArg) :=
  some (⟨1, p0, (⟨0, 0, (⟨#[]⟩ : ByteArray)⟩ : TVal)⟩ : TArg)
def m_s_l7Arg (N : Nat) (p0 : Tl1Cur) : Option (TArg × Tl1Cur) :=
  ((m_s_l1Once N p0 3).bind fun x1 => (if x1.1 then ((m_s_l3Small N (⟨p0.b, x1.2.i, x1.2.h⟩ : Tl1Cur)).bind fun x2 => ((m_s_l6Val N x2.1).bind fun x3 => some (x3, (⟨p0.b, x2.2.i, x2.2.h⟩ : Tl1Cur)))) else ((m_s_l1Str N (⟨p0.b, x1.2.i, x1.2.h⟩ : Tl1Cur) ([(⟨#[88]⟩ : ByteArray), (⟨#[89]⟩ : ByteArray)] : List ByteArray)).bind fun x4 => ((m_s_l6Var N x4.1).bind fun x5 => some (x5, (⟨p0.b, x4.2.i, x4.2.h⟩ : Tl1Cur))))))
def m_s_l8Expr_j1 (N : Nat) (p0 : Tl1Cur) (x1 : TArg × Tl1Cur) (s1 : Int) (s2 : Int) (s3 : ByteArray) (s4 : Int) (s5 : ByteArray) (s6 : Int) (s7 : Int) (s8 : ByteArray) : Option (TExpr × Tl1Cur) :=
  some ((⟨s3, x1.1, (⟨s4, s5, (⟨s6, s7, s8⟩ : TVal)⟩ : TArg)⟩ : TExpr), (⟨p0.b, s1, s2⟩ : Tl1Cur))
def m_s_l8Expr (N : Nat) (p0 : Tl1Cur) : Option (TExpr × Tl1Cur) :=
  ((m_s_l7Arg N p0).bind fun x1 => ((m_s_l1Once N (⟨p0.b, x1.2.i, x1.2.h⟩ : Tl1Cur) 4).bind fun x2 => (if x2.1 then ((m_s_l1Str N (⟨p0.b, x2.2.i, x2.2.h⟩ : Tl1Cur) ([(⟨#[43]⟩ : ByteArray), (⟨#[45]⟩ : ByteArray)] : List ByteArray)).bind fun x3 => ((m_s_l7Arg N (⟨p0.b, x3.2.i, x3.2.h⟩ : Tl1Cur)).bind fun x4 => m_s_l8Expr_j1 N p0 x1 x4.2.i x4.2.h x3.1 x4.1.K x4.1.S x4.1.V.K x4.1.V.N x4.1.V.S)) else m_s_l8Expr_j1 N p0 x1 x2.2.i x2.2.h (⟨#[]⟩ : ByteArray) 0 (⟨#[]⟩ : ByteArray) 0 0 (⟨#[]⟩ : ByteArray))))
def m_s_l8Draw_j6 (N : Nat) (p0 : Tl1Cur) (x1 : Int × Tl1Cur) (x3 : ByteArray × Tl1Cur) (s3 : (List TExpr)) (s9 : Int) (s13 : Int) (s14 : Int) (s15 : ByteArray) : Option (TAct × Tl1Cur) :=
  some ((⟨x1.1, x3.1, s3, s9, s15⟩ : TAct), (⟨p0.b, s13, s14⟩ : Tl1Cur))
def m_s_l8Draw_j5 (N : Nat) (p0 : Tl1Cur) (x1 : Int × Tl1Cur) (x3 : ByteArray × Tl1Cur) (s3 : (List TExpr)) (s9 : Int) (s10 : Bool) (s11 : Int) (s12 : Int) : Option (TAct × Tl1Cur) :=
  (if s10 then ((m_s_l1Str N (⟨p0.b, s11, s12⟩ : Tl1Cur) ([(⟨#[114, 101, 102, 117, 110, 100]⟩ : ByteArray), (⟨#[99, 97, 110, 99, 101, 108]⟩ : ByteArray)] : List ByteArray)).bind fun x6 => m_s_l8Draw_j6 N p0 x1 x3 s3 s9 x6.2.i x6.2.h x6.1) else m_s_l8Draw_j6 N p0 x1 x3 s3 s9 s11 s12 (⟨#[]⟩ : ByteArray))
def m_s_l8Draw_j4 (N : Nat) (p0 : Tl1Cur) (x1 : Int × Tl1Cur) (x3 : ByteArray × Tl1Cur) (s3 : (List TExpr)) (s7 : Int) (s8 : Int) (s9 : Int) : Option (TAct × Tl1Cur) :=
  (if decide (x1.1 = 3) then ((m_s_l1Once N (⟨p0.b, s7, s8⟩ : Tl1Cur) 2).bind fun x7 => m_s_l8Draw_j5 N p0 x1 x3 s3 s9 x7.1 x7.2.i x7.2.h) else m_s_l8Draw_j5 N p0 x1 x3 s3 s9 false s7 s8)
def m_s_l8Draw_l3 (N : Nat) (p0 : Tl1Cur) (x1 : Int × Tl1Cur) (x3 : ByteArray × Tl1Cur) (s2 : Int) : Nat → (List TExpr) → Int → Int → Int → Option (TAct × Tl1Cur)
  | 0, _, _, _, _ => none
  | k + 1, s3, s4, s5, s6 =>
    (if decide (s4 < s2) then ((m_s_l8Expr N (⟨p0.b, s5, s6⟩ : Tl1Cur)).bind fun x4 => ((app s3 ([x4.1] : List TExpr)).bind fun x5 => ((m_s_l8Draw_l3 N p0 x1 x3 s2 k) x5 (IntKind.i64.wrap (s4 + 1)) x4.2.i x4.2.h))) else (if decide (x1.1 = 4) then ((m_s_l1Int N (⟨p0.b, s5, s6⟩ : Tl1Cur) ([0, 1, 5, 100000] : List Int)).bind fun x8 => m_s_l8Draw_j4 N p0 x1 x3 s3 x8.2.i x8.2.h x8.1) else m_s_l8Draw_j4 N p0 x1 x3 s3 s5 s6 0))
def m_s_l8Draw_j2 (N : Nat) (p0 : Tl1Cur) (x1 : Int × Tl1Cur) (x3 : ByteArray × Tl1Cur) (s2 : Int) : Option (TAct × Tl1Cur) :=
  m_s_l8Draw_l3 N p0 x1 x3 s2 N ([] : List TExpr) 0 x3.2.i x3.2.h
def m_s_l8Draw_j1 (N : Nat) (p0 : Tl1Cur) (x1 : Int × Tl1Cur) (s1 : Bool) : Option (TAct × Tl1Cur) :=
  (if s1 then some ((⟨x1.1, (⟨#[]⟩ : ByteArray), [], 0, (⟨#[]⟩ : ByteArray)⟩ : TAct), (⟨p0.b, x1.2.i, x1.2.h⟩ : Tl1Cur)) else ((m_s_l1Str N (⟨p0.b, x1.2.i, x1.2.h⟩ : Tl1Cur) ([(⟨#[111, 114, 100, 101, 114]⟩ : ByteArray), (⟨#[112, 97, 105, 100]⟩ : ByteArray), (⟨#[105, 116, 101, 109]⟩ : ByteArray), (⟨#[115, 104, 105, 112]⟩ : ByteArray), (⟨#[99, 104, 97, 114, 103, 101]⟩ : ByteArray)] : List ByteArray)).bind fun x3 => (if seq x3.1 (⟨#[105, 116, 101, 109]⟩ : ByteArray) then m_s_l8Draw_j2 N p0 x1 x3 2 else m_s_l8Draw_j2 N p0 x1 x3 1)))
def m_s_l8Draw (N : Nat) (p0 : Tl1Cur) (p1 : Int) : Option (TAct × Tl1Cur) :=
  ((m_s_l1Int N p0 ([1, 1, 2, 3, 3, 4, 5, 6] : List Int)).bind fun x1 => (if decide (x1.1 = 2) then ((m_s_l1Below N (⟨p0.b, x1.2.i, x1.2.h⟩ : Tl1Cur) p1).bind fun x2 => some ((⟨x1.1, (⟨#[]⟩ : ByteArray), [], x2.1, (⟨#[]⟩ : ByteArray)⟩ : TAct), (⟨p0.b, x2.2.i, x2.2.h⟩ : Tl1Cur))) else (if decide (x1.1 = 5) then m_s_l8Draw_j1 N p0 x1 (decide (x1.1 = 5)) else m_s_l8Draw_j1 N p0 x1 (decide (x1.1 = 6)))))
def m_s_l6Arg (N : Nat) (p0 : Tl1Cur) : Option (TArg × Tl1Cur) :=
  ((m_s_l1Below N p0 6).bind fun x1 => (if decide (x1.1 = 0) then some ((⟨3, (⟨#[]⟩ : ByteArray), (⟨0, 0, (⟨#[]⟩ : ByteArray)⟩ : TVal)⟩ : TArg), (⟨p0.b, x1.2.i, x1.2.h⟩ : Tl1Cur)) else (if decide (x1.1 = 1) then ((m_s_l3Small N (⟨p0.b, x1.2.i, x1.2.h⟩ : Tl1Cur)).bind fun x2 => ((m_s_l6Val N x2.1).bind fun x3 => some (x3, (⟨p0.b, x2.2.i, x2.2.h⟩ : Tl1Cur)))) else ((m_s_l1Str N (⟨p0.b, x1.2.i, x1.2.h⟩ : Tl1Cur) ([(⟨#[88]⟩ : ByteArray), (⟨#[89]⟩ : ByteArray), (⟨#[90]⟩ : ByteArray), (⟨#[88]⟩ : ByteArray)] : List ByteArray)).bind fun x4 => ((m_s_l6Var N x4.1).bind fun x5 => some (x5, (⟨p0.b, x4.2.i, x4.2.h⟩ : Tl1Cur)))))))
def m_s_l8Any_j1 (N : Nat) (p0 : Tl1Cur) (s1 : (List TExpr)) (s2 : Int) (s3 : Int) (s4 : Int) (s5 : ByteArray) (s6 : Int) (s7 : ByteArray) : Option (TAct × Tl1Cur) :=
  some ((⟨s4, s5, s1, s6, s7⟩ : TAct), (⟨p0.b, s2, s3⟩ : Tl1Cur))
def m_s_l8Any (N : Nat) (p0 : Tl1Cur) : Option (TAct × Tl1Cur) :=
  ((m_s_l8Draw N p0 2).bind fun x1 => ((m_s_l1Below N (⟨p0.b, x1.2.i, x1.2.h⟩ : Tl1Cur) 10).bind fun x2 => (if decide (x2.1 = 0) then ((m_s_l1Below N (⟨p0.b, x2.2.i, x2.2.h⟩ : Tl1Cur) 8).bind fun x3 => m_s_l8Any_j1 N p0 x1.1.Args x3.2.i x3.2.h x3.1 x1.1.Name x1.1.N x1.1.Undo) else (if decide (x2.1 = 1) then ((m_s_l1Str N (⟨p0.b, x2.2.i, x2.2.h⟩ : Tl1Cur) ([(⟨#[]⟩ : ByteArray), (⟨#[65]⟩ : ByteArray), (⟨#[120]⟩ : ByteArray)] : List ByteArray)).bind fun x4 => m_s_l8Any_j1 N p0 x1.1.Args x4.2.i x4.2.h x1.1.Kind x4.1 x1.1.N x1.1.Undo) else (if decide (x2.1 = 2) then ((m_s_l1Int N (⟨p0.b, x2.2.i, x2.2.h⟩ : Tl1Cur) ([(-1), 7, 8, 100001] : List Int)).bind fun x5 => m_s_l8Any_j1 N p0 x1.1.Args x5.2.i x5.2.h x1.1.Kind x1.1.Name x5.1 x1.1.Undo) else (if decide (x2.1 = 3) then ((m_s_l1Str N (⟨p0.b, x2.2.i, x2.2.h⟩ : Tl1Cur) ([(⟨#[]⟩ : ByteArray), (⟨#[65]⟩ : ByteArray), (⟨#[120]⟩ : ByteArray)] : List ByteArray)).bind fun x6 => m_s_l8Any_j1 N p0 x1.1.Args x6.2.i x6.2.h x1.1.Kind x1.1.Name x1.1.N x6.1) else (if decide (x2.1 = 4) then ((m_s_l1Str N (⟨p0.b, x2.2.i, x2.2.h⟩ : Tl1Cur) ([(⟨#[]⟩ : ByteArray), (⟨#[42]⟩ : ByteArray)] : List ByteArray)).bind fun x7 => ((m_s_l6Arg N (⟨p0.b, x7.2.i, x7.2.h⟩ : Tl1Cur)).bind fun x8 => ((m_s_l6Arg N (⟨p0.b, x8.2.i, x8.2.h⟩ : Tl1Cur)).bind fun x9 => ((app x1.1.Args ([(⟨x7.1, x8.1, x9.1⟩ : TExpr)] : List TExpr)).bind fun x10 => m_s_l8Any_j1 N p0 x10 x9.2.i x9.2.h x1.1.Kind x1.1.Name x1.1.N x1.1.Undo)))) else m_s_l8Any_j1 N p0 x1.1.Args x2.2.i x2.2.h x1.1.Kind x1.1.Name x1.1.N x1.1.Undo)))))))
def m_s_DrawActOk (N : Nat) (p0 : (List Int)) : Option (TAct) :=
  ((m_s_l1New N p0).bind fun x1 => ((m_s_l8Any N x1).bind fun x2 => some x2.1))
def m_s_DrawExprOk_j1 (N : Nat) (s1 : ByteArray) (s2 : Int) (s3 : ByteArray) (s4 : Int) (s5 : Int) (s6 : ByteArray) (s7 : Int) (s8 : ByteArray) (s9 : Int) (s10 : Int) (s11 : ByteArray) : Option (TExpr) :=
  some (⟨s1, (⟨s2, s3, (⟨s4, s5, s6⟩ : TVal)⟩ : TArg), (⟨s7, s8, (⟨s9, s10, s11⟩ : TVal)⟩ : TArg)⟩ : TExpr)
def m_s_DrawExprOk (N : Nat) (p0 : (List Int)) : Option (TExpr) :=
  ((m_s_l1New N p0).bind fun x1 => ((m_s_l8Expr N x1).bind fun x2 => ((m_s_l1Below N (⟨x1.b, x2.2.i, x2.2.h⟩ : Tl1Cur) 6).bind fun x3 => (if decide (x3.1 = 0) then ((m_s_l1Str N (⟨x1.b, x3.2.i, x3.2.h⟩ : Tl1Cur) ([(⟨#[]⟩ : ByteArray), (⟨#[42]⟩ : ByteArray), (⟨#[45]⟩ : ByteArray)] : List ByteArray)).bind fun x4 => m_s_DrawExprOk_j1 N x4.1 x2.1.L.K x2.1.L.S x2.1.L.V.K x2.1.L.V.N x2.1.L.V.S x2.1.R.K x2.1.R.S x2.1.R.V.K x2.1.R.V.N x2.1.R.V.S) else (if decide (x3.1 = 1) then ((m_s_l6Arg N (⟨x1.b, x3.2.i, x3.2.h⟩ : Tl1Cur)).bind fun x5 => m_s_DrawExprOk_j1 N x2.1.Op x5.1.K x5.1.S x5.1.V.K x5.1.V.N x5.1.V.S x2.1.R.K x2.1.R.S x2.1.R.V.K x2.1.R.V.N x2.1.R.V.S) else (if decide (x3.1 = 2) then ((m_s_l6Arg N (⟨x1.b, x3.2.i, x3.2.h⟩ : Tl1Cur)).bind fun x6 => m_s_DrawExprOk_j1 N x2.1.Op x2.1.L.K x2.1.L.S x2.1.L.V.K x2.1.L.V.N x2.1.L.V.S x6.1.K x6.1.S x6.1.V.K x6.1.V.N x6.1.V.S) else m_s_DrawExprOk_j1 N x2.1.Op x2.1.L.K x2.1.L.S x2.1.L.V.K x2.1.L.V.N x2.1.L.V.S x2.1.R.K x2.1.R.S x2.1.R.V.K x2.1.R.V.N x2.1.R.V.S))))))
def m_s_DrawExprText (N : Nat) (p0 : (List Int)) : Option (TExpr) :=
  ((m_s_DrawExprOk N p0).bind fun x1 => some x1)
def m_i_NameOk (N : Nat) (p0 : ByteArray) : Option (Bool) :=
  ((if decide (0 < (p0.size : Int)) then ((idx p0.data.toList 0).bind fun y1 => ((m_i_isSmall N (y1.toNat : Int)).bind fun x1 => some x1)) else some false).bind fun b1 => ((if b1 then ((m_i_isWord N p0 12).bind fun x2 => some x2) else some false).bind fun b2 => some b2))
def m_i_argsOk_l1 (N : Nat) (p0 : TAct) : Nat → Int → Option (Bool)
  | 0, _ => none
  | k + 1, s1 =>
    (if decide (s1 < (p0.Args.length : Int)) then ((idx p0.Args s1).bind fun x2 => ((m_i_ExprOk N x2).bind fun x3 => (if !x3 then some false else ((m_i_argsOk_l1 N p0 k) (IntKind.i64.wrap (s1 + 1)))))) else some true)
def m_i_argsOk (N : Nat) (p0 : TAct) : Option (Bool) :=
  ((m_i_NameOk N p0.Name).bind fun x1 => ((if !x1 then some true else some (decide (5 < (p0.Args.length : Int)))).bind fun b1 => (if b1 then some false else m_i_argsOk_l1 N p0 N 0)))
def m_i_isUndo (N : Nat) (p0 : ByteArray) : Option (Bool) :=
  ((if seq p0 (⟨#[]⟩ : ByteArray) then some true else ((m_i_NameOk N p0).bind fun x1 => some x1)).bind fun b1 => some b1)
def m_i_ActOk_j1 (N : Nat) (p0 : TAct) (b1 : Bool) (s1 : Bool) : Option (Bool) :=
  (if s1 then ((if b1 then some (decide (p0.N = 0)) else some false).bind fun b10 => ((if b10 then some (seq p0.Undo (⟨#[]⟩ : ByteArray)) else some false).bind fun b11 => some b11)) else some false)
def m_i_ActOk (N : Nat) (p0 : TAct) : Option (Bool) :=
  ((if seq p0.Name (⟨#[]⟩ : ByteArray) then some (decide ((p0.Args.length : Int) = 0)) else some false).bind fun b1 => (if decide (p0.Kind = 1) then ((m_i_argsOk N p0).bind fun x1 => ((if x1 then some (decide (p0.N = 0)) else some false).bind fun b2 => ((if b2 then some (seq p0.Undo (⟨#[]⟩ : ByteArray)) else some false).bind fun b3 => some b3))) else (if decide (p0.Kind = 2) then ((if b1 then ((m_i_inRange N p0.N 0 7).bind fun x2 => some x2) else some false).bind fun b4 => ((if b4 then some (seq p0.Undo (⟨#[]⟩ : ByteArray)) else some false).bind fun b5 => some b5)) else (if decide (p0.Kind = 3) then ((m_i_argsOk N p0).bind fun x3 => ((if x3 then some (decide (p0.N = 0)) else some false).bind fun b6 => ((if b6 then ((m_i_isUndo N p0.Undo).bind fun x4 => some x4) else some false).bind fun b7 => some b7))) else (if decide (p0.Kind = 4) then ((m_i_argsOk N p0).bind fun x5 => ((if x5 then ((m_i_inRange N p0.N 0 100000).bind fun x6 => some x6) else some false).bind fun b8 => ((if b8 then some (seq p0.Undo (⟨#[]⟩ : ByteArray)) else some false).bind fun b9 => some b9))) else (if decide (p0.Kind = 5) then m_i_ActOk_j1 N p0 b1 (decide (p0.Kind = 5)) else m_i_ActOk_j1 N p0 b1 (decide (p0.Kind = 6))))))))
def m_i_callText_l1 (N : Nat) (p0 : TAct) : Nat → (List ByteArray) → Int → Option (ByteArray)
  | 0, _, _ => none
  | k + 1, s1, s2 =>
    (if decide (s2 < (p0.Args.length : Int)) then ((idx p0.Args s2).bind fun x1 => ((m_i_ExprText N x1).bind fun x2 => ((app s1 ([x2] : List ByteArray)).bind fun x3 => ((m_i_callText_l1 N p0 k) x3 (IntKind.i64.wrap (s2 + 1)))))) else ((cat p0.Name (⟨#[40]⟩ : ByteArray)).bind fun z1 => ((m_strings_Join N s1 (⟨#[44, 32]⟩ : ByteArray)).bind fun x4 => ((cat z1 x4).bind fun z2 => ((cat z2 (⟨#[41]⟩ : ByteArray)).bind fun z3 => some z3)))))
def m_i_callText (N : Nat) (p0 : TAct) : Option (ByteArray) :=
  m_i_callText_l1 N p0 N ([] : List ByteArray) 0
def m_i_ActText (N : Nat) (p0 : TAct) : Option (ByteArray) :=
  ((m_i_ActOk N p0).bind fun x1 => (if !x1 then some (⟨#[]⟩ : ByteArray) else (if decide (p0.Kind = 1) then ((m_i_callText N p0).bind fun x2 => ((cat (⟨#[97, 115, 115, 101, 114, 116, 32]⟩ : ByteArray) x2).bind fun z1 => some z1)) else (if decide (p0.Kind = 2) then ((m_strconv_Itoa N p0.N).bind fun x3 => ((cat (⟨#[100, 114, 111, 112, 32]⟩ : ByteArray) x3).bind fun z2 => some z2)) else (if decide (p0.Kind = 3) then (if !seq p0.Undo (⟨#[]⟩ : ByteArray) then ((m_i_callText N p0).bind fun x4 => ((cat (⟨#[116, 97, 115, 107, 32]⟩ : ByteArray) x4).bind fun z3 => ((cat z3 (⟨#[32, 117, 110, 100, 111, 32]⟩ : ByteArray)).bind fun z4 => ((cat z4 p0.Undo).bind fun z5 => some z5)))) else ((m_i_callText N p0).bind fun x5 => ((cat (⟨#[116, 97, 115, 107, 32]⟩ : ByteArray) x5).bind fun z6 => some z6))) else (if decide (p0.Kind = 4) then ((m_strconv_Itoa N p0.N).bind fun x6 => ((cat (⟨#[116, 105, 109, 101, 114, 32]⟩ : ByteArray) x6).bind fun z7 => ((cat z7 (⟨#[32]⟩ : ByteArray)).bind fun z8 => ((m_i_callText N p0).bind fun x7 => ((cat z8 x7).bind fun z9 => some z9))))) else (if decide (p0.Kind = 5) then some (⟨#[100, 111, 110, 101]⟩ : ByteArray) else some (⟨#[102, 97, 105, 108]⟩ : ByteArray))))))))
def m_s_l1In (N : Nat) (p0 : Int) (p1 : Int) (p2 : Int) : Option (Bool) :=
  ((if decide (p1 ≤ p0) then some (decide (p0 ≤ p2)) else some false).bind fun b1 => some b1)
def m_s_l1Letter (N : Nat) (p0 : Int) : Option (Bool) :=
  ((m_s_l1In N (IntKind.i64.wrap p0) 97 122).bind fun x1 => ((if x1 then some true else ((m_s_l1In N (IntKind.i64.wrap p0) 48 57).bind fun x2 => some x2)).bind fun b1 => ((if b1 then some true else some (decide (p0 = 95))).bind fun b2 => some b2)))
def m_s_NameOk_l1 (N : Nat) (p0 : ByteArray) : Nat → Int → Option (Bool)
  | 0, _ => none
  | k + 1, s1 =>
    (if decide (s1 < (p0.size : Int)) then ((idx p0.data.toList s1).bind fun y1 => ((m_s_l1Letter N (y1.toNat : Int)).bind fun x1 => ((if !x1 then some true else ((if decide (s1 = 0) then ((idx p0.data.toList s1).bind fun y2 => ((m_s_l1In N (IntKind.i64.wrap (y2.toNat : Int)) 97 122).bind fun x2 => some (!x2))) else some false).bind fun b2 => some b2)).bind fun b1 => (if b1 then some false else ((m_s_NameOk_l1 N p0 k) (IntKind.i64.wrap (s1 + 1))))))) else ((m_s_l1In N (p0.size : Int) 1 12).bind fun x3 => some x3))
def m_s_NameOk (N : Nat) (p0 : ByteArray) : Option (Bool) :=
  m_s_NameOk_l1 N p0 N 0
def m_s_l5Large (N : Nat) (p0 : Int) : Option (Bool) :=
  ((m_s_l1In N (IntKind.i64.wrap p0) 65 90).bind fun x1 => some x1)
def m_s_l5VarOk_l1 (N : Nat) (p0 : ByteArray) : Nat → Int → Option (Bool)
  | 0, _ => none
  | k + 1, s1 =>
    (if decide (s1 < (p0.size : Int)) then ((idx p0.data.toList s1).bind fun y1 => ((m_s_l5Large N (y1.toNat : Int)).bind fun x1 => ((if !x1 then ((if decide (s1 = 0) then some true else ((idx p0.data.toList s1).bind fun y2 => ((m_s_l1Letter N (y2.toNat : Int)).bind fun x2 => some (!x2)))).bind fun b2 => some b2) else some false).bind fun b1 => (if b1 then some false else ((m_s_l5VarOk_l1 N p0 k) (IntKind.i64.wrap (s1 + 1))))))) else ((m_s_l1In N (p0.size : Int) 1 12).bind fun x3 => some x3))
def m_s_l5VarOk (N : Nat) (p0 : ByteArray) : Option (Bool) :=
  m_s_l5VarOk_l1 N p0 N 0
def m_s_l2Plain_l1 (N : Nat) (p0 : ByteArray) : Nat → Int → Option (Bool)
  | 0, _ => none
  | k + 1, s1 =>
    (if decide (s1 < (p0.size : Int)) then ((idx p0.data.toList s1).bind fun y1 => ((m_s_l1Letter N (y1.toNat : Int)).bind fun x1 => (if !x1 then some false else ((m_s_l2Plain_l1 N p0 k) (IntKind.i64.wrap (s1 + 1)))))) else some (decide ((p0.size : Int) ≤ 20)))
def m_s_l2Plain (N : Nat) (p0 : ByteArray) : Option (Bool) :=
  m_s_l2Plain_l1 N p0 N 0
def m_s_ValOk (N : Nat) (p0 : TVal) : Option (Bool) :=
  (if decide (p0.K = 1) then ((m_s_l1In N p0.N (-1000000000) 1000000000).bind fun x1 => ((if x1 then some (seq p0.S (⟨#[]⟩ : ByteArray)) else some false).bind fun b1 => some b1)) else (if decide (p0.K = 2) then ((m_s_l2Plain N p0.S).bind fun x2 => ((if x2 then some (decide (p0.N = 0)) else some false).bind fun b2 => some b2)) else some false))
def m_s_ArgOk (N : Nat) (p0 : TArg) : Option (Bool) :=
  (if decide (p0.K = 1) then ((m_s_l5VarOk N p0.S).bind fun x1 => ((if x1 then some (eqT_TVal p0.V (⟨0, 0, (⟨#[]⟩ : ByteArray)⟩ : TVal)) else some false).bind fun b1 => some b1)) else (if decide (p0.K = 2) then ((m_s_ValOk N p0.V).bind fun x2 => ((if x2 then some (seq p0.S (⟨#[]⟩ : ByteArray)) else some false).bind fun b2 => some b2)) else (if decide (p0.K = 3) then ((if seq p0.S (⟨#[]⟩ : ByteArray) then some (eqT_TVal p0.V (⟨0, 0, (⟨#[]⟩ : ByteArray)⟩ : TVal)) else some false).bind fun b3 => some b3) else some false)))
def m_s_l8Given (N : Nat) (p0 : TArg) : Option (Bool) :=
  ((m_s_ArgOk N p0).bind fun x1 => ((if x1 then some (!decide (p0.K = 3)) else some false).bind fun b1 => some b1))
def m_s_ExprOk_j1 (N : Nat) (p0 : TExpr) (s1 : Bool) : Option (Bool) :=
  (if s1 then ((m_s_l8Given N p0.L).bind fun x2 => ((if x2 then ((m_s_l8Given N p0.R).bind fun x3 => some x3) else some false).bind fun b2 => some b2)) else some false)
def m_s_ExprOk (N : Nat) (p0 : TExpr) : Option (Bool) :=
  (if seq p0.Op (⟨#[]⟩ : ByteArray) then ((m_s_l8Given N p0.L).bind fun x1 => ((if x1 then some (eqT_TArg p0.R (⟨0, (⟨#[]⟩ : ByteArray), (⟨0, 0, (⟨#[]⟩ : ByteArray)⟩ : TVal)⟩ : TArg)) else some false).bind fun b1 => some b1)) else (if seq p0.Op (⟨#[43]⟩ : ByteArray) then m_s_ExprOk_j1 N p0 (seq p0.Op (⟨#[43]⟩ : ByteArray)) else m_s_ExprOk_j1 N p0 (seq p0.Op (⟨#[45]⟩ : ByteArray))))
def m_s_l8Args_l1 (N : Nat) (p0 : (List TExpr)) : Nat → Int → Option (Bool)
  | 0, _ => none
  | k + 1, s1 =>
    (if decide (s1 < (p0.length : Int)) then ((idx p0 s1).bind fun x1 => ((m_s_ExprOk N x1).bind fun x2 => (if !x2 then some false else ((m_s_l8Args_l1 N p0 k) (IntKind.i64.wrap (s1 + 1)))))) else some (decide ((p0.length : Int) ≤ 5)))
def m_s_l8Args (N : Nat) (p0 : (List TExpr)) : Option (Bool) :=
  m_s_l8Args_l1 N p0 N 0
def m_s_ActOk_j1 (N : Nat) (p0 : TAct) (b2 : Bool) (s1 : Bool) : Option (Bool) :=
  (if s1 then ((if b2 then some (decide (p0.N = 0)) else some false).bind fun b14 => some b14) else some false)
def m_s_ActOk (N : Nat) (p0 : TAct) : Option (Bool) :=
  ((if seq p0.Name (⟨#[]⟩ : ByteArray) then some (decide ((p0.Args.length : Int) = 0)) else some false).bind fun b1 => ((if b1 then some (seq p0.Undo (⟨#[]⟩ : ByteArray)) else some false).bind fun b2 => (if decide (p0.Kind = 1) then ((m_s_NameOk N p0.Name).bind fun x1 => ((if x1 then ((m_s_l8Args N p0.Args).bind fun x2 => some x2) else some false).bind fun b3 => ((if b3 then some (decide (p0.N = 0)) else some false).bind fun b4 => ((if b4 then some (seq p0.Undo (⟨#[]⟩ : ByteArray)) else some false).bind fun b5 => some b5)))) else (if decide (p0.Kind = 3) then ((m_s_NameOk N p0.Name).bind fun x3 => ((if x3 then ((m_s_l8Args N p0.Args).bind fun x4 => some x4) else some false).bind fun b6 => ((if b6 then some (decide (p0.N = 0)) else some false).bind fun b7 => ((if b7 then ((if seq p0.Undo (⟨#[]⟩ : ByteArray) then some true else ((m_s_NameOk N p0.Undo).bind fun x5 => some x5)).bind fun b9 => some b9) else some false).bind fun b8 => some b8)))) else (if decide (p0.Kind = 4) then ((m_s_NameOk N p0.Name).bind fun x6 => ((if x6 then ((m_s_l8Args N p0.Args).bind fun x7 => some x7) else some false).bind fun b10 => ((if b10 then ((m_s_l1In N p0.N 0 100000).bind fun x8 => some x8) else some false).bind fun b11 => ((if b11 then some (seq p0.Undo (⟨#[]⟩ : ByteArray)) else some false).bind fun b12 => some b12)))) else (if decide (p0.Kind = 2) then ((if b2 then ((m_s_l1In N p0.N 0 7).bind fun x9 => some x9) else some false).bind fun b13 => some b13) else (if decide (p0.Kind = 5) then m_s_ActOk_j1 N p0 b2 (decide (p0.Kind = 5)) else m_s_ActOk_j1 N p0 b2 (decide (p0.Kind = 6)))))))))
def m_s_l2Num_j1 (N : Nat) (s1 : ByteArray) : Option (ByteArray) :=
  some s1
def m_s_l2Num : Nat → Int → Option (ByteArray)
  | 0, _ => none
  | N + 1, p0 =>
    (if decide (p0 < 0) then (((m_s_l2Num N) (IntKind.i64.wrap (0 - p0))).bind fun x1 => ((cat (⟨#[45]⟩ : ByteArray) x1).bind fun z1 => some z1)) else (if decide (p0 < 10) then some (bstr ([(IntKind.u8.wrap (IntKind.i64.wrap (48 + p0)))] : List Int)) else (((m_s_l2Num N) (IntKind.i64.wrap (p0.tdiv 10))).bind fun x3 => ((cat x3 (bstr ([(IntKind.u8.wrap (IntKind.i64.wrap (48 + (p0.tmod 10))))] : List Int))).bind fun z3 => m_s_l2Num_j1 N z3))))
def m_s_l2Text (N : Nat) (p0 : TVal) : Option (ByteArray) :=
  (if decide (p0.K = 1) then ((m_s_l2Num N p0.N).bind fun x1 => some x1) else ((cat (⟨#[39]⟩ : ByteArray) p0.S).bind fun z1 => ((cat z1 (⟨#[39]⟩ : ByteArray)).bind fun z2 => some z2)))
def m_s_l6ArgText (N : Nat) (p0 : TArg) : Option (ByteArray) :=
  (if decide (p0.K = 1) then some p0.S else (if decide (p0.K = 2) then ((m_s_l2Text N p0.V).bind fun x1 => some x1) else some (⟨#[95]⟩ : ByteArray)))
def m_s_ExprText (N : Nat) (p0 : TExpr) : Option (ByteArray) :=
  ((m_s_ExprOk N p0).bind fun x1 => (if !x1 then some (⟨#[]⟩ : ByteArray) else (if seq p0.Op (⟨#[]⟩ : ByteArray) then ((m_s_l6ArgText N p0.L).bind fun x2 => some x2) else ((m_s_l6ArgText N p0.L).bind fun x3 => ((cat x3 (⟨#[32]⟩ : ByteArray)).bind fun z1 => ((cat z1 p0.Op).bind fun z2 => ((cat z2 (⟨#[32]⟩ : ByteArray)).bind fun z3 => ((m_s_l6ArgText N p0.R).bind fun x4 => ((cat z3 x4).bind fun z4 => some z4)))))))))
def m_s_l8ArgsText_j2 (N : Nat) (p0 : TAct) (s2 : Int) (K1 : ByteArray → Int → Option (ByteArray)) (s3 : ByteArray) : Option (ByteArray) :=
  ((idx p0.Args s2).bind fun x1 => ((m_s_ExprText N x1).bind fun x2 => ((cat s3 x2).bind fun z2 => (K1 z2 (IntKind.i64.wrap (s2 + 1))))))
def m_s_l8ArgsText_l1 (N : Nat) (p0 : TAct) : Nat → ByteArray → Int → Option (ByteArray)
  | 0, _, _ => none
  | k + 1, s1, s2 =>
    (if decide (s2 < (p0.Args.length : Int)) then (if decide (0 < s2) then ((cat s1 (⟨#[44, 32]⟩ : ByteArray)).bind fun z3 => m_s_l8ArgsText_j2 N p0 s2 (m_s_l8ArgsText_l1 N p0 k) z3) else m_s_l8ArgsText_j2 N p0 s2 (m_s_l8ArgsText_l1 N p0 k) s1) else ((cat s1 (⟨#[41]⟩ : ByteArray)).bind fun z4 => some z4))
def m_s_l8ArgsText (N : Nat) (p0 : TAct) : Option (ByteArray) :=
  ((cat p0.Name (⟨#[40]⟩ : ByteArray)).bind fun z1 => m_s_l8ArgsText_l1 N p0 N z1 0)
def m_s_ActText (N : Nat) (p0 : TAct) : Option (ByteArray) :=
  ((m_s_ActOk N p0).bind fun x1 => (if !x1 then some (⟨#[]⟩ : ByteArray) else (if decide (p0.Kind = 1) then ((m_s_l8ArgsText N p0).bind fun x2 => ((cat (⟨#[97, 115, 115, 101, 114, 116, 32]⟩ : ByteArray) x2).bind fun z1 => some z1)) else (if decide (p0.Kind = 2) then ((m_s_l2Num N p0.N).bind fun x3 => ((cat (⟨#[100, 114, 111, 112, 32]⟩ : ByteArray) x3).bind fun z2 => some z2)) else (if decide (p0.Kind = 4) then ((m_s_l2Num N p0.N).bind fun x4 => ((cat (⟨#[116, 105, 109, 101, 114, 32]⟩ : ByteArray) x4).bind fun z3 => ((cat z3 (⟨#[32]⟩ : ByteArray)).bind fun z4 => ((m_s_l8ArgsText N p0).bind fun x5 => ((cat z4 x5).bind fun z5 => some z5))))) else (if decide (p0.Kind = 5) then some (⟨#[100, 111, 110, 101]⟩ : ByteArray) else (if decide (p0.Kind = 6) then some (⟨#[102, 97, 105, 108]⟩ : ByteArray) else (if seq p0.Undo (⟨#[]⟩ : ByteArray) then ((m_s_l8ArgsText N p0).bind fun x6 => ((cat (⟨#[116, 97, 115, 107, 32]⟩ : ByteArray) x6).bind fun z6 => some z6)) else ((m_s_l8ArgsText N p0).bind fun x7 => ((cat (⟨#[116, 97, 115, 107, 32]⟩ : ByteArray) x7).bind fun z7 => ((cat z7 (⟨#[32, 117, 110, 100, 111, 32]⟩ : ByteArray)).bind fun z8 => ((cat z8 p0.Undo).bind fun z9 => some z9))))))))))))
def m_l_FnActs (N : Nat) (p0 : (List Int)) : Option (Bool) :=
  ((m_l_big N p0).bind fun x1 => (if x1 then some true else ((m_s_DrawActOk N p0).bind fun x2 => ((m_s_DrawExprText N p0).bind fun x3 => ((m_i_ActText N x2).bind fun x4 => ((m_i_ActOk N x2).bind fun x5 => ((m_s_ActOk N x2).bind fun x6 => ((if (x5 == x6) then ((m_s_ActOk N x2).bind fun x7 => some ((!seq x4 (⟨#[]⟩ : ByteArray)) == x7)) else some false).bind fun b1 => ((if b1 then ((m_s_ActText N x2).bind fun x8 => some (seq x4 x8)) else some false).bind fun b2 => ((if b2 then ((m_i_ExprText N x3).bind fun x9 => ((m_s_ExprOk N x3).bind fun x10 => some ((!seq x9 (⟨#[]⟩ : ByteArray)) == x10))) else some false).bind fun b3 => some b3))))))))))
end Go.Proofs.YtlfpehhlkccdiaaDoor
