/- Printed by a program of ours: Lean functions of plain data for the Go functions. -/
import Derived.Test.YtelchcokfcdndaaEK
namespace Go.Proofs.Ytelchcokfcdndaa
open Eng
set_option linter.unusedVariables false
set_option linter.unusedSimpArgs false

structure Tl1Cur where
  b : (List Int)
  i : Int
  h : Int
  deriving DecidableEq
def RTl1Cur (Φ : Hp) (F : List Nat) (cs : List Value) (x : Tl1Cur) : Prop :=
  ∃ (s0 : Value) (F0 : List Nat), cs = [s0, .int .i64 x.i, .int .i64 x.h] ∧ F = F0 ∧ RSl (RI .u8) 1 Φ F0 s0 x.b
theorem RTl1Cur.lasts : Lasts RTl1Cur := fun X Φ Φ' F cs x hf hd ⟨s0, F0, hc, hF, h0⟩ => by
  rw [hF] at hd
  exact ⟨s0, F0, hc, hF, h0.frame RI.lasts hf (fun k hk => hd k (by simp [hk]))⟩
theorem RTl1Cur.knows : Knows RTl1Cur := fun Φ F cs x ⟨s0, F0, hc, hF, h0⟩ => hF ▸ h0.kn
theorem RTl1Cur.one : Ones RTl1Cur := fun _ _ _ _ h => by obtain ⟨s0, F0, rfl, -, h0⟩ := h; exact One.all ⟨h0.one, rfl, rfl, trivial⟩
def OTl1Cur (Φ : Hp) (F : List Nat) (cs : List Value) (x : Tl1Cur) : Prop :=
  ∃ (s0 : Value), cs = [s0, .int .i64 x.i, .int .i64 x.h] ∧ F = (ob s0 ++ []) ∧ OSl (RI .u8) 5 1 Φ [] s0 x.b
theorem OTl1Cur.lasts : Lasts OTl1Cur := fun X Φ Φ' F cs x hf hd ⟨s0, hc, hF, h0⟩ => by
  rw [hF] at hd
  exact ⟨s0, hc, hF, h0.frame RI.lasts hf (fun k hk => hd k (by simp [hk])) (Dj.nil _)⟩
theorem OTl1Cur.knows : Knows OTl1Cur := fun Φ F cs x ⟨s0, hc, hF, h0⟩ => hF ▸ (h0.knO.app h0.kn)
theorem OTl1Cur.one : Ones OTl1Cur := fun _ _ _ _ h => by obtain ⟨s0, rfl, -, h0⟩ := h; exact One.all ⟨h0.one, rfl, rfl, trivial⟩
theorem OTl1Cur.gives : Gives OTl1Cur RTl1Cur := fun Φ F cs x ⟨s0, hc, hF, h0⟩ => ⟨s0, ob s0 ++ [], hc, hF, h0.rslG (Gives.refl _)⟩
structure TVal where
  K : Int
  N : Int
  S : ByteArray
  deriving DecidableEq
def RTVal (Φ : Hp) (F : List Nat) (cs : List Value) (x : TVal) : Prop := cs = [.int .i64 x.K, .int .i64 x.N, .string x.S] ∧ F = []
theorem RTVal.lasts : Lasts RTVal := fun _ _ _ _ _ _ _ _ h => h
theorem RTVal.knows : Knows RTVal := fun _ _ _ _ h => h.2 ▸ Kw.nil
theorem RTVal.flat : Flat RTVal := fun _ _ _ _ h => h.2
theorem RTVal.one : Ones RTVal := fun _ _ _ _ h => by obtain ⟨rfl, -⟩ := h; exact One.all ⟨rfl, rfl, rfl, trivial⟩
structure TArg where
  K : Int
  S : ByteArray
  V : TVal
  deriving DecidableEq
def RTArg (Φ : Hp) (F : List Nat) (cs : List Value) (x : TArg) : Prop := cs = [.int .i64 x.K, .string x.S, .int .i64 x.V.K, .int .i64 x.V.N, .string x.V.S] ∧ F = []
theorem RTArg.lasts : Lasts RTArg := fun _ _ _ _ _ _ _ _ h => h
theorem RTArg.knows : Knows RTArg := fun _ _ _ _ h => h.2 ▸ Kw.nil
theorem RTArg.flat : Flat RTArg := fun _ _ _ _ h => h.2
theorem RTArg.one : Ones RTArg := fun _ _ _ _ h => by obtain ⟨rfl, -⟩ := h; exact One.all ⟨rfl, rfl, rfl, rfl, rfl, trivial⟩
structure TPat where
  Kind : ByteArray
  Args : (List TArg)
  Not : Bool
  deriving DecidableEq
def RTPat (Φ : Hp) (F : List Nat) (cs : List Value) (x : TPat) : Prop :=
  ∃ (s0 : Value) (F0 : List Nat), cs = [.string x.Kind, s0, .bool x.Not] ∧ F = F0 ∧ RSl RTArg 5 Φ F0 s0 x.Args
theorem RTPat.lasts : Lasts RTPat := fun X Φ Φ' F cs x hf hd ⟨s0, F0, hc, hF, h0⟩ => by
  rw [hF] at hd
  exact ⟨s0, F0, hc, hF, h0.frame RTArg.lasts hf (fun k hk => hd k (by simp [hk]))⟩
theorem RTPat.knows : Knows RTPat := fun Φ F cs x ⟨s0, F0, hc, hF, h0⟩ => hF ▸ h0.kn
theorem RTPat.one : Ones RTPat := fun _ _ _ _ h => by obtain ⟨s0, F0, rfl, -, h0⟩ := h; exact One.all ⟨rfl, h0.one, rfl, trivial⟩
def OTPat (Φ : Hp) (F : List Nat) (cs : List Value) (x : TPat) : Prop :=
  ∃ (s0 : Value), cs = [.string x.Kind, s0, .bool x.Not] ∧ F = (ob s0 ++ []) ∧ OSl RTArg 54 5 Φ [] s0 x.Args
theorem OTPat.lasts : Lasts OTPat := fun X Φ Φ' F cs x hf hd ⟨s0, hc, hF, h0⟩ => by
  rw [hF] at hd
  exact ⟨s0, hc, hF, h0.frame RTArg.lasts hf (fun k hk => hd k (by simp [hk])) (Dj.nil _)⟩
theorem OTPat.knows : Knows OTPat := fun Φ F cs x ⟨s0, hc, hF, h0⟩ => hF ▸ (h0.knO.app h0.kn)
theorem OTPat.one : Ones OTPat := fun _ _ _ _ h => by obtain ⟨s0, rfl, -, h0⟩ := h; exact One.all ⟨rfl, h0.one, rfl, trivial⟩
theorem OTPat.gives : Gives OTPat RTPat := fun Φ F cs x ⟨s0, hc, hF, h0⟩ => ⟨s0, ob s0 ++ [], hc, hF, h0.rslG (Gives.refl _)⟩
structure TFact where
  Kind : ByteArray
  Fields : (List TVal)
  deriving DecidableEq
def RTFact (Φ : Hp) (F : List Nat) (cs : List Value) (x : TFact) : Prop :=
  ∃ (s0 : Value) (F0 : List Nat), cs = [.string x.Kind, s0] ∧ F = F0 ∧ RSl RTVal 3 Φ F0 s0 x.Fields
theorem RTFact.lasts : Lasts RTFact := fun X Φ Φ' F cs x hf hd ⟨s0, F0, hc, hF, h0⟩ => by
  rw [hF] at hd
  exact ⟨s0, F0, hc, hF, h0.frame RTVal.lasts hf (fun k hk => hd k (by simp [hk]))⟩
theorem RTFact.knows : Knows RTFact := fun Φ F cs x ⟨s0, F0, hc, hF, h0⟩ => hF ▸ h0.kn
theorem RTFact.one : Ones RTFact := fun _ _ _ _ h => by obtain ⟨s0, F0, rfl, -, h0⟩ := h; exact One.all ⟨rfl, h0.one, trivial⟩
def OTFact (Φ : Hp) (F : List Nat) (cs : List Value) (x : TFact) : Prop :=
  ∃ (s0 : Value), cs = [.string x.Kind, s0] ∧ F = (ob s0 ++ []) ∧ OSl RTVal 51 3 Φ [] s0 x.Fields
theorem OTFact.lasts : Lasts OTFact := fun X Φ Φ' F cs x hf hd ⟨s0, hc, hF, h0⟩ => by
  rw [hF] at hd
  exact ⟨s0, hc, hF, h0.frame RTVal.lasts hf (fun k hk => hd k (by simp [hk])) (Dj.nil _)⟩
theorem OTFact.knows : Knows OTFact := fun Φ F cs x ⟨s0, hc, hF, h0⟩ => hF ▸ (h0.knO.app h0.kn)
theorem OTFact.one : Ones OTFact := fun _ _ _ _ h => by obtain ⟨s0, rfl, -, h0⟩ := h; exact One.all ⟨rfl, h0.one, trivial⟩
theorem OTFact.gives : Gives OTFact RTFact := fun Φ F cs x ⟨s0, hc, hF, h0⟩ => ⟨s0, ob s0 ++ [], hc, hF, h0.rslG (Gives.refl _)⟩
structure TBind where
  Name : ByteArray
  V : TVal
  deriving DecidableEq
def RTBind (Φ : Hp) (F : List Nat) (cs : List Value) (x : TBind) : Prop := cs = [.string x.Name, .int .i64 x.V.K, .int .i64 x.V.N, .string x.V.S] ∧ F = []
theorem RTBind.lasts : Lasts RTBind := fun _ _ _ _ _ _ _ _ h => h
theorem RTBind.knows : Knows RTBind := fun _ _ _ _ h => h.2 ▸ Kw.nil
theorem RTBind.flat : Flat RTBind := fun _ _ _ _ h => h.2
theorem RTBind.one : Ones RTBind := fun _ _ _ _ h => by obtain ⟨rfl, -⟩ := h; exact One.all ⟨rfl, rfl, rfl, rfl, trivial⟩
def eqT_TVal (x y : TVal) : Bool := ((x.K == y.K) && ((x.N == y.N) && (seq x.S y.S && true)))
theorem seq_dec (a b : ByteArray) : seq a b = decide (a = b) := by
  unfold seq
  by_cases h : a = b
  · subst h; simp
  · have : ¬ a.toList = b.toList := fun e => h (by rw [ByteArray.toList_eq, ByteArray.toList_eq] at e; exact ByteArray.ext (Array.toList_inj.1 e))
    simp [h, this]
theorem eqT_TVal_eq (x y : TVal) : eqT_TVal x y = decide (x = y) := by
  obtain ⟨a0, a1, a2⟩ := x; obtain ⟨b0, b1, b2⟩ := y
  rw [Bool.eq_iff_iff]
  simp only [eqT_TVal, seq_dec, Bool.and_true, Bool.and_eq_true, beq_iff_eq, decide_eq_true_eq, TVal.mk.injEq, and_assoc]
structure TAlpha where
  Kind : ByteArray
  N : Int
  Consts : (List TVal)
  At : (List Int)
  deriving DecidableEq
def RTAlpha (Φ : Hp) (F : List Nat) (cs : List Value) (x : TAlpha) : Prop :=
  ∃ (s0 : Value) (F0 : List Nat) (s1 : Value) (F1 : List Nat), cs = [.string x.Kind, .int .i64 x.N, s0, s1] ∧ F = F0 ++ (F1) ∧ RSl RTVal 3 Φ F0 s0 x.Consts ∧ RSl (RI .i64) 1 Φ F1 s1 x.At
theorem RTAlpha.lasts : Lasts RTAlpha := fun X Φ Φ' F cs x hf hd ⟨s0, F0, s1, F1, hc, hF, h0, h1⟩ => by
  rw [hF] at hd
  exact ⟨s0, F0, s1, F1, hc, hF, h0.frame RTVal.lasts hf (fun k hk => hd k (by simp [hk])), h1.frame RI.lasts hf (fun k hk => hd k (by simp [hk]))⟩
theorem RTAlpha.knows : Knows RTAlpha := fun Φ F cs x ⟨s0, F0, s1, F1, hc, hF, h0, h1⟩ => hF ▸ (h0.kn.app h1.kn)
theorem RTAlpha.one : Ones RTAlpha := fun _ _ _ _ h => by obtain ⟨s0, F0, s1, F1, rfl, -, h0, h1⟩ := h; exact One.all ⟨rfl, rfl, h0.one, h1.one, trivial⟩
def OTAlpha (Φ : Hp) (F : List Nat) (cs : List Value) (x : TAlpha) : Prop :=
  ∃ (s0 : Value) (s1 : Value), cs = [.string x.Kind, .int .i64 x.N, s0, s1] ∧ F = (ob s0 ++ []) ++ ((ob s1 ++ [])) ∧ OSl RTVal 51 3 Φ [] s0 x.Consts ∧ OSl (RI .i64) 3 1 Φ [] s1 x.At
theorem OTAlpha.lasts : Lasts OTAlpha := fun X Φ Φ' F cs x hf hd ⟨s0, s1, hc, hF, h0, h1⟩ => by
  rw [hF] at hd
  exact ⟨s0, s1, hc, hF, h0.frame RTVal.lasts hf (fun k hk => hd k (by simp [hk])) (Dj.nil _), h1.frame RI.lasts hf (fun k hk => hd k (by simp [hk])) (Dj.nil _)⟩
theorem OTAlpha.knows : Knows OTAlpha := fun Φ F cs x ⟨s0, s1, hc, hF, h0, h1⟩ => hF ▸ ((h0.knO.app h0.kn).app (h1.knO.app h1.kn))
theorem OTAlpha.one : Ones OTAlpha := fun _ _ _ _ h => by obtain ⟨s0, s1, rfl, -, h0, h1⟩ := h; exact One.all ⟨rfl, rfl, h0.one, h1.one, trivial⟩
theorem OTAlpha.gives : Gives OTAlpha RTAlpha := fun Φ F cs x ⟨s0, s1, hc, hF, h0, h1⟩ => ⟨s0, ob s0 ++ [], s1, ob s1 ++ [], hc, hF, h0.rslG (Gives.refl _), h1.rslG (Gives.refl _)⟩
def m_l_big (N : Nat) (p0 : (List Int)) : Option (Bool) :=
  some (decide (1048576 < (p0.length : Int)))
def m_s_l1New_l1 (N : Nat) (p0 : (List Int)) : Nat → Int → Int → Option (Tl1Cur)
  | 0, _, _ => none
  | k + 1, s1, s2 =>
    ((if decide (s2 < (p0.length : Int)) then some (decide (s2 < 4000)) else some false).bind fun b1 => (if b1 then ((idx p0 s2).bind fun x1 => ((m_s_l1New_l1 N p0 k) (andI .i64 (IntKind.i64.wrap ((IntKind.i64.wrap ((IntKind.i64.wrap (s1 * 137)) + (IntKind.i64.wrap x1))) + 11)) 1073741823) (IntKind.i64.wrap (s2 + 1)))) else some (⟨p0, 0, s1⟩ : Tl1Cur)))
def m_s_l1New (N : Nat) (p0 : (List Int)) : Option (Tl1Cur) :=
  m_s_l1New_l1 N p0 N (IntKind.i64.wrap (354354 + (p0.length : Int))) 0
def m_s_l1Byte (N : Nat) (p0 : Tl1Cur) : Option (Int × Tl1Cur) :=
  (if decide (p0.i < (p0.b.length : Int)) then ((idx p0.b p0.i).bind fun x1 => some ((andI .i64 (IntKind.i64.wrap ((andI .i64 (xorI .i64 (shrI .i64 (IntKind.i64.wrap ((IntKind.i64.wrap (p0.h * 6364136223846793005)) + 1442695040888963407)) 33) (shrI .i64 (IntKind.i64.wrap ((IntKind.i64.wrap (p0.h * 6364136223846793005)) + 1442695040888963407)) 47)) 255) + (IntKind.i64.wrap x1))) 255), (⟨p0.b, IntKind.i64.wrap (p0.i + 1), IntKind.i64.wrap ((IntKind.i64.wrap (p0.h * 6364136223846793005)) + 1442695040888963407)⟩ : Tl1Cur))) else some ((andI .i64 (xorI .i64 (shrI .i64 (IntKind.i64.wrap ((IntKind.i64.wrap (p0.h * 6364136223846793005)) + 1442695040888963407)) 33) (shrI .i64 (IntKind.i64.wrap ((IntKind.i64.wrap (p0.h * 6364136223846793005)) + 1442695040888963407)) 47)) 255), (⟨p0.b, p0.i, IntKind.i64.wrap ((IntKind.i64.wrap (p0.h * 6364136223846793005)) + 1442695040888963407)⟩ : Tl1Cur)))
def m_s_l1Below (N : Nat) (p0 : Tl1Cur) (p1 : Int) : Option (Int × Tl1Cur) :=
  (if decide (p1 ≤ 0) then some (0, p0) else (if decide (p1 ≤ 256) then ((m_s_l1Byte N p0).bind fun x1 => ((remI x1.1 p1).bind fun x2 => some (x2, (⟨p0.b, x1.2.i, x1.2.h⟩ : Tl1Cur)))) else ((m_s_l1Byte N p0).bind fun x3 => ((m_s_l1Byte N (⟨p0.b, x3.2.i, x3.2.h⟩ : Tl1Cur)).bind fun x4 => ((m_s_l1Byte N (⟨p0.b, x4.2.i, x4.2.h⟩ : Tl1Cur)).bind fun x5 => ((remI (IntKind.i64.wrap ((IntKind.i64.wrap ((IntKind.i64.wrap (x3.1 * 65536)) + (IntKind.i64.wrap (x4.1 * 256)))) + x5.1)) p1).bind fun x6 => some (x6, (⟨p0.b, x5.2.i, x5.2.h⟩ : Tl1Cur))))))))
def m_s_l1Str (N : Nat) (p0 : Tl1Cur) (p1 : (List ByteArray)) : Option (ByteArray × Tl1Cur) :=
  ((m_s_l1Below N p0 (p1.length : Int)).bind fun x1 => ((idx p1 x1.1).bind fun x2 => some (x2, (⟨p0.b, x1.2.i, x1.2.h⟩ : Tl1Cur))))
def m_s_l1Once (N : Nat) (p0 : Tl1Cur) (p1 : Int) : Option (Bool × Tl1Cur) :=
  ((m_s_l1Below N p0 p1).bind fun x1 => some (decide (x1.1 = 0), (⟨p0.b, x1.2.i, x1.2.h⟩ : Tl1Cur)))
def m_s_l3Small (N : Nat) (p0 : Tl1Cur) : Option (TVal × Tl1Cur) :=
  ((m_s_l1Once N p0 2).bind fun x1 => (if x1.1 then ((m_s_l1Below N (⟨p0.b, x1.2.i, x1.2.h⟩ : Tl1Cur) 3).bind fun x2 => some ((⟨1, IntKind.i64.wrap (1 + x2.1), (⟨#[]⟩ : ByteArray)⟩ : TVal), (⟨p0.b, x2.2.i, x2.2.h⟩ : Tl1Cur))) else ((m_s_l1Str N (⟨p0.b, x1.2.i, x1.2.h⟩ : Tl1Cur) ([(⟨#[97]⟩ : ByteArray), (⟨#[98]⟩ : ByteArray)] : List ByteArray)).bind fun x3 => some ((⟨2, 0, x3.1⟩ : TVal), (⟨p0.b, x3.2.i, x3.2.h⟩ : Tl1Cur)))))
def m_s_l6Val (N : Nat) (p0 : TVal) : Option (TArg) :=
  some (⟨2, (⟨#[]⟩ : ByteArray), p0⟩ : TArg)
def m_s_l6Var (N : Nat) (p0 : ByteArray) : Option (TArg) :=
  some (⟨1, p0, (⟨0, 0, (⟨#[]⟩ : ByteArray)⟩ : TVal)⟩ : TArg)
def m_s_l6Arg (N : Nat) (p0 : Tl1Cur) : Option (TArg × Tl1Cur) :=
  ((m_s_l1Below N p0 6).bind fun x1 => (if decide (x1.1 = 0) then some ((⟨3, (⟨#[]⟩ : ByteArray), (⟨0, 0, (⟨#[]⟩ : ByteArray)⟩ : TVal)⟩ : TArg), (⟨p0.b, x1.2.i, x1.2.h⟩ : Tl1Cur)) else (if decide (x1.1 = 1) then ((m_s_l3Small N (⟨p0.b, x1.2.i, x1.2.h⟩ : Tl1Cur)).bind fun x2 => ((m_s_l6Val N x2.1).bind fun x3 => some (x3, (⟨p0.b, x2.2.i, x2.2.h⟩ : Tl1Cur)))) else ((m_s_l1Str N (⟨p0.b, x1.2.i, x1.2.h⟩ : Tl1Cur) ([(⟨#[88]⟩ : ByteArray), (⟨#[89]⟩ : ByteArray), (⟨#[90]⟩ : ByteArray), (⟨#[88]⟩ : ByteArray)] : List ByteArray)).bind fun x4 => ((m_s_l6Var N x4.1).bind fun x5 => some (x5, (⟨p0.b, x4.2.i, x4.2.h⟩ : Tl1Cur)))))))
def m_s_l6Draw_l2 (N : Nat) (p0 : Tl1Cur) (p1 : Bool) (x1 : ByteArray × Tl1Cur) (s1 : Int) : Nat → (List TArg) → Int → Int → Int → Option (TPat × Tl1Cur)
  | 0, _, _, _, _ => none
  | k + 1, s2, s3, s4, s5 =>
    (if decide (s3 < s1) then ((m_s_l6Arg N (⟨p0.b, s4, s5⟩ : Tl1Cur)).bind fun x2 => ((app s2 ([x2.1] : List TArg)).bind fun x3 => ((m_s_l6Draw_l2 N p0 p1 x1 s1 k) x3 (IntKind.i64.wrap (s3 + 1)) x2.2.i x2.2.h))) else some ((⟨x1.1, s2, p1⟩ : TPat), (⟨p0.b, s4, s5⟩ : Tl1Cur)))
def m_s_l6Draw_j1 (N : Nat) (p0 : Tl1Cur) (p1 : Bool) (x1 : ByteArray × Tl1Cur) (s1 : Int) : Option (TPat × Tl1Cur) :=
  m_s_l6Draw_l2 N p0 p1 x1 s1 N ([] : List TArg) 0 x1.2.i x1.2.h
def m_s_l6Draw (N : Nat) (p0 : Tl1Cur) (p1 : Bool) : Option (TPat × Tl1Cur) :=
  ((m_s_l1Str N p0 ([(⟨#[111, 114, 100, 101, 114]⟩ : ByteArray), (⟨#[112, 97, 105, 100]⟩ : ByteArray), (⟨#[105, 116, 101, 109]⟩ : ByteArray), (⟨#[111, 114, 100, 101, 114]⟩ : ByteArray)] : List ByteArray)).bind fun x1 => (if seq x1.1 (⟨#[105, 116, 101, 109]⟩ : ByteArray) then m_s_l6Draw_j1 N p0 p1 x1 2 else m_s_l6Draw_j1 N p0 p1 x1 1))
def m_s_l3Draw_l3 (N : Nat) (p0 : Tl1Cur) (x1 : ByteArray × Tl1Cur) (s2 : Int) : Nat → (List TVal) → Int → Int → Int → Option (TFact × Tl1Cur)
  | 0, _, _, _, _ => none
  | k + 1, s5, s6, s7, s8 =>
    (if decide (s6 < s2) then ((m_s_l3Small N (⟨p0.b, s7, s8⟩ : Tl1Cur)).bind fun x3 => ((app s5 ([x3.1] : List TVal)).bind fun x4 => ((m_s_l3Draw_l3 N p0 x1 s2 k) x4 (IntKind.i64.wrap (s6 + 1)) x3.2.i x3.2.h))) else some ((⟨x1.1, s5⟩ : TFact), (⟨p0.b, s7, s8⟩ : Tl1Cur)))
def m_s_l3Draw_j2 (N : Nat) (p0 : Tl1Cur) (x1 : ByteArray × Tl1Cur) (s2 : Int) (s3 : Int) (s4 : Int) : Option (TFact × Tl1Cur) :=
  m_s_l3Draw_l3 N p0 x1 s2 N ([] : List TVal) 0 s3 s4
def m_s_l3Draw_j1 (N : Nat) (p0 : Tl1Cur) (x1 : ByteArray × Tl1Cur) (s1 : Int) : Option (TFact × Tl1Cur) :=
  ((m_s_l1Once N (⟨p0.b, x1.2.i, x1.2.h⟩ : Tl1Cur) 12).bind fun x2 => (if x2.1 then ((m_s_l1Below N (⟨p0.b, x2.2.i, x2.2.h⟩ : Tl1Cur) 6).bind fun x5 => m_s_l3Draw_j2 N p0 x1 x5.1 x5.2.i x5.2.h) else m_s_l3Draw_j2 N p0 x1 s1 x2.2.i x2.2.h))
def m_s_l3Draw (N : Nat) (p0 : Tl1Cur) : Option (TFact × Tl1Cur) :=
  ((m_s_l1Str N p0 ([(⟨#[111, 114, 100, 101, 114]⟩ : ByteArray), (⟨#[112, 97, 105, 100]⟩ : ByteArray), (⟨#[105, 116, 101, 109]⟩ : ByteArray), (⟨#[111, 114, 100, 101, 114]⟩ : ByteArray)] : List ByteArray)).bind fun x1 => (if seq x1.1 (⟨#[105, 116, 101, 109]⟩ : ByteArray) then m_s_l3Draw_j1 N p0 x1 2 else m_s_l3Draw_j1 N p0 x1 1))
def m_s_l6Any_j1 (N : Nat) (p0 : Tl1Cur) (x2 : TPat × Tl1Cur) (s1 : (List TArg)) (s2 : Int) (s3 : Int) (s4 : ByteArray) : Option (TPat × Tl1Cur) :=
  some ((⟨s4, s1, x2.1.Not⟩ : TPat), (⟨p0.b, s2, s3⟩ : Tl1Cur))
def m_s_l6Any_j2 (N : Nat) (p0 : Tl1Cur) (x2 : TPat × Tl1Cur) (s5 : (List TArg)) (s6 : Int) (s7 : Int) : Option (TPat × Tl1Cur) :=
  m_s_l6Any_j1 N p0 x2 s5 s6 s7 x2.1.Kind
def m_s_l6Any_l3 (N : Nat) (p0 : Tl1Cur) (x2 : TPat × Tl1Cur) : Nat → (List TArg) → Int → Int → Option (TPat × Tl1Cur)
  | 0, _, _, _ => none
  | k + 1, s8, s9, s10 =>
    ((m_s_l1Below N (⟨p0.b, s9, s10⟩ : Tl1Cur) 2).bind fun x14 => (if decide ((s8.length : Int) < IntKind.i64.wrap (5 + x14.1)) then ((m_s_l6Arg N (⟨p0.b, x14.2.i, x14.2.h⟩ : Tl1Cur)).bind fun x15 => ((app s8 ([x15.1] : List TArg)).bind fun x16 => ((m_s_l6Any_l3 N p0 x2 k) x16 x15.2.i x15.2.h))) else m_s_l6Any_j1 N p0 x2 s8 x14.2.i x14.2.h x2.1.Kind))
def m_s_l6Any (N : Nat) (p0 : Tl1Cur) : Option (TPat × Tl1Cur) :=
  ((m_s_l1Once N p0 3).bind fun x1 => ((m_s_l6Draw N (⟨p0.b, x1.2.i, x1.2.h⟩ : Tl1Cur) x1.1).bind fun x2 => ((m_s_l1Below N (⟨p0.b, x2.2.i, x2.2.h⟩ : Tl1Cur) 10).bind fun x3 => (if decide (x3.1 = 0) then ((m_s_l1Str N (⟨p0.b, x3.2.i, x3.2.h⟩ : Tl1Cur) ([(⟨#[]⟩ : ByteArray), (⟨#[65]⟩ : ByteArray), (⟨#[120]⟩ : ByteArray)] : List ByteArray)).bind fun x4 => m_s_l6Any_j1 N p0 x2 x2.1.Args x4.2.i x4.2.h x4.1) else (if decide (x3.1 = 1) then ((m_s_l1Below N (⟨p0.b, x3.2.i, x3.2.h⟩ : Tl1Cur) 5).bind fun x8 => ((m_s_l1Str N (⟨p0.b, x8.2.i, x8.2.h⟩ : Tl1Cur) ([(⟨#[]⟩ : ByteArray), (⟨#[120]⟩ : ByteArray), (⟨#[88]⟩ : ByteArray)] : List ByteArray)).bind fun x9 => ((app x2.1.Args ([(⟨x8.1, x9.1, (⟨0, 0, (⟨#[]⟩ : ByteArray)⟩ : TVal)⟩ : TArg)] : List TArg)).bind fun x10 => m_s_l6Any_j2 N p0 x2 x10 x9.2.i x9.2.h))) else (if decide (x3.1 = 2) then m_s_l6Any_l3 N p0 x2 N x2.1.Args x3.2.i x3.2.h else m_s_l6Any_j1 N p0 x2 x2.1.Args x3.2.i x3.2.h x2.1.Kind))))))
def m_s_l6Binds_l1 (N : Nat) (p0 : Tl1Cur) : Nat → (List TBind) → Int → Int → Int → Option ((List TBind) × Tl1Cur)
  | 0, _, _, _, _ => none
  | k + 1, s1, s2, s3, s4 =>
    (if decide (0 < s2) then ((m_s_l1Str N (⟨p0.b, s3, s4⟩ : Tl1Cur) ([(⟨#[88]⟩ : ByteArray), (⟨#[89]⟩ : ByteArray), (⟨#[87]⟩ : ByteArray)] : List ByteArray)).bind fun x2 => ((m_s_l3Small N (⟨p0.b, x2.2.i, x2.2.h⟩ : Tl1Cur)).bind fun x3 => ((app s1 ([(⟨x2.1, x3.1⟩ : TBind)] : List TBind)).bind fun x4 => ((m_s_l6Binds_l1 N p0 k) x4 (IntKind.i64.wrap (s2 - 1)) x3.2.i x3.2.h)))) else some (s1, (⟨p0.b, s3, s4⟩ : Tl1Cur)))
def m_s_l6Binds (N : Nat) (p0 : Tl1Cur) : Option ((List TBind) × Tl1Cur) :=
  ((m_s_l1Below N p0 3).bind fun x1 => m_s_l6Binds_l1 N p0 N ([] : List TBind) x1.1 x1.2.i x1.2.h)
def m_s_DrawMatchPat_j2 (N : Nat) (x1 : Tl1Cur) (s1 : (List TVal)) (s4 : ByteArray) (s5 : (List TArg)) (s6 : Int) (s7 : Int) (s8 : ByteArray) (s9 : Bool) : Option (TPat × TFact × (List TBind)) :=
  ((m_s_l6Binds N (⟨x1.b, s6, s7⟩ : Tl1Cur)).bind fun x6 => some ((⟨s8, s5, s9⟩ : TPat), (⟨s4, s1⟩ : TFact), x6.1))
def m_s_DrawMatchPat_j1 (N : Nat) (x1 : Tl1Cur) (x2 : TPat × Tl1Cur) (s1 : (List TVal)) (s2 : Int) (s3 : Int) (s4 : ByteArray) : Option (TPat × TFact × (List TBind)) :=
  ((m_s_l1Once N (⟨x1.b, s2, s3⟩ : Tl1Cur) 8).bind fun x5 => (if x5.1 then ((m_s_l6Any N (⟨x1.b, x5.2.i, x5.2.h⟩ : Tl1Cur)).bind fun x7 => m_s_DrawMatchPat_j2 N x1 s1 s4 x7.1.Args x7.2.i x7.2.h x7.1.Kind x7.1.Not) else m_s_DrawMatchPat_j2 N x1 s1 s4 x2.1.Args x5.2.i x5.2.h x2.1.Kind x2.1.Not))
def m_s_DrawMatchPat_j5 (N : Nat) (s10 : (List TVal)) (s11 : Int) (K3 : (List TVal) → Int → Int → Int → Option (TPat × TFact × (List TBind))) (s15 : Int) (s16 : Int) (s17 : Int) (s18 : Int) (s19 : ByteArray) : Option (TPat × TFact × (List TBind)) :=
  ((app s10 ([(⟨s17, s18, s19⟩ : TVal)] : List TVal)).bind fun x11 => (K3 x11 (IntKind.i64.wrap (s11 + 1)) s15 s16))
def m_s_DrawMatchPat_j4 (N : Nat) (x2 : TPat × Tl1Cur) (s10 : (List TVal)) (s11 : Int) (K3 : (List TVal) → Int → Int → Int → Option (TPat × TFact × (List TBind))) (x9 : TVal × Tl1Cur) (s14 : Bool) (s15 : Int) (s16 : Int) : Option (TPat × TFact × (List TBind)) :=
  (if s14 then ((idx x2.1.Args s11).bind fun x12 => m_s_DrawMatchPat_j5 N s10 s11 K3 s15 s16 x12.V.K x12.V.N x12.V.S) else m_s_DrawMatchPat_j5 N s10 s11 K3 s15 s16 x9.1.K x9.1.N x9.1.S)
def m_s_DrawMatchPat_l3 (N : Nat) (x1 : Tl1Cur) (x2 : TPat × Tl1Cur) : Nat → (List TVal) → Int → Int → Int → Option (TPat × TFact × (List TBind))
  | 0, _, _, _, _ => none
  | k + 1, s10, s11, s12, s13 =>
    (if decide (s11 < (x2.1.Args.length : Int)) then ((m_s_l3Small N (⟨x1.b, s12, s13⟩ : Tl1Cur)).bind fun x9 => ((idx x2.1.Args s11).bind fun x10 => (if decide (x10.K = 2) then ((m_s_l1Once N (⟨x1.b, x9.2.i, x9.2.h⟩ : Tl1Cur) 4).bind fun x13 => m_s_DrawMatchPat_j4 N x2 s10 s11 (m_s_DrawMatchPat_l3 N x1 x2 k) x9 (!x13.1) x13.2.i x13.2.h) else m_s_DrawMatchPat_j4 N x2 s10 s11 (m_s_DrawMatchPat_l3 N x1 x2 k) x9 false x9.2.i x9.2.h))) else m_s_DrawMatchPat_j1 N x1 x2 s10 s12 s13 x2.1.Kind)
def m_s_DrawMatchPat (N : Nat) (p0 : (List Int)) : Option (TPat × TFact × (List TBind)) :=
  ((m_s_l1New N p0).bind fun x1 => ((m_s_l6Draw N x1 false).bind fun x2 => ((m_s_l3Draw N (⟨x1.b, x2.2.i, x2.2.h⟩ : Tl1Cur)).bind fun x3 => ((m_s_l1Once N (⟨x1.b, x3.2.i, x3.2.h⟩ : Tl1Cur) 3).bind fun x4 => (if !x4.1 then ((ssl x3.1.Fields 0 0).bind fun x8 => m_s_DrawMatchPat_l3 N x1 x2 N x8 0 x4.2.i x4.2.h) else m_s_DrawMatchPat_j1 N x1 x2 x3.1.Fields x4.2.i x4.2.h x3.1.Kind)))))
def m_sl_Clone_Si_Bind_i_Bind (N : Nat) (p0 : (List TBind)) : Option ((List TBind)) :=
  ((app ([] : List TBind) p0).bind fun x1 => some x1)
def m_i_BindOf_l1 (N : Nat) (p0 : (List TBind)) (p1 : ByteArray) : Nat → Int → Option (TVal × Bool)
  | 0, _ => none
  | k + 1, s1 =>
    (if decide (s1 < (p0.length : Int)) then ((idx p0 s1).bind fun x1 => (if seq x1.Name p1 then some (x1.V, true) else ((m_i_BindOf_l1 N p0 p1 k) (IntKind.i64.wrap (s1 + 1))))) else some ((⟨0, 0, (⟨#[]⟩ : ByteArray)⟩ : TVal), false))
def m_i_BindOf (N : Nat) (p0 : (List TBind)) (p1 : ByteArray) : Option (TVal × Bool) :=
  m_i_BindOf_l1 N p0 p1 N 0
def m_i_MatchPat_l1 (N : Nat) (p0 : TPat) (p1 : TFact) (p2 : (List TBind)) : Nat → (List TBind) → Int → Option ((List TBind) × Bool)
  | 0, _, _ => none
  | k + 1, s1, s2 =>
    (if decide (s2 < (p0.Args.length : Int)) then ((idx p0.Args s2).bind fun x3 => ((idx p1.Fields s2).bind fun x4 => (if decide (x3.K = 2) then (if !(eqT_TVal x3.V x4) then ((m_sl_Clone_Si_Bind_i_Bind N p2).bind fun x5 => some (x5, false)) else ((m_i_MatchPat_l1 N p0 p1 p2 k) s1 (IntKind.i64.wrap (s2 + 1)))) else (if decide (x3.K = 1) then ((m_i_BindOf N s1 x3.S).bind fun x6 => ((if x6.2 then some (!(eqT_TVal x6.1 x4)) else some false).bind fun b2 => (if b2 then ((m_sl_Clone_Si_Bind_i_Bind N p2).bind fun x7 => some (x7, false)) else (if !x6.2 then ((app s1 ([(⟨x3.S, x4⟩ : TBind)] : List TBind)).bind fun x8 => ((m_i_MatchPat_l1 N p0 p1 p2 k) x8 (IntKind.i64.wrap (s2 + 1)))) else ((m_i_MatchPat_l1 N p0 p1 p2 k) s1 (IntKind.i64.wrap (s2 + 1))))))) else ((m_i_MatchPat_l1 N p0 p1 p2 k) s1 (IntKind.i64.wrap (s2 + 1))))))) else some (s1, true))
def m_i_MatchPat (N : Nat) (p0 : TPat) (p1 : TFact) (p2 : (List TBind)) : Option ((List TBind) × Bool) :=
  ((if !seq p1.Kind p0.Kind then some true else some (!decide ((p1.Fields.length : Int) = (p0.Args.length : Int)))).bind fun b1 => (if b1 then ((m_sl_Clone_Si_Bind_i_Bind N p2).bind fun x1 => some (x1, false)) else ((m_sl_Clone_Si_Bind_i_Bind N p2).bind fun x2 => m_i_MatchPat_l1 N p0 p1 p2 N x2 0)))
def m_i_AlphaOf_l1 (N : Nat) (p0 : TPat) : Nat → (List TVal) → (List Int) → Int → Option (TAlpha)
  | 0, _, _, _ => none
  | k + 1, s1, s2, s3 =>
    (if decide (s3 < (p0.Args.length : Int)) then ((idx p0.Args s3).bind fun x1 => (if decide (x1.K = 2) then ((app s1 ([x1.V] : List TVal)).bind fun x2 => ((app s2 ([s3] : List Int)).bind fun x3 => ((m_i_AlphaOf_l1 N p0 k) x2 x3 (IntKind.i64.wrap (s3 + 1))))) else ((m_i_AlphaOf_l1 N p0 k) s1 s2 (IntKind.i64.wrap (s3 + 1))))) else some (⟨p0.Kind, (p0.Args.length : Int), s1, s2⟩ : TAlpha))
def m_i_AlphaOf (N : Nat) (p0 : TPat) : Option (TAlpha) :=
  m_i_AlphaOf_l1 N p0 N ([] : List TVal) ([] : List Int) 0
def m_s_AlphaOf_l1 (N : Nat) (p0 : TPat) : Nat → (List TVal) → (List Int) → Int → Option (TAlpha)
  | 0, _, _, _ => none
  | k + 1, s1, s2, s3 =>
    (if decide (s3 < (p0.Args.length : Int)) then ((idx p0.Args s3).bind fun x1 => (if decide (x1.K = 2) then ((idx p0.Args s3).bind fun x2 => ((app s1 ([x2.V] : List TVal)).bind fun x3 => ((app s2 ([s3] : List Int)).bind fun x4 => ((m_s_AlphaOf_l1 N p0 k) x3 x4 (IntKind.i64.wrap (s3 + 1)))))) else ((m_s_AlphaOf_l1 N p0 k) s1 s2 (IntKind.i64.wrap (s3 + 1))))) else some (⟨p0.Kind, (p0.Args.length : Int), s1, s2⟩ : TAlpha))
def m_s_AlphaOf (N : Nat) (p0 : TPat) : Option (TAlpha) :=
  m_s_AlphaOf_l1 N p0 N ([] : List TVal) ([] : List Int) 0
def m_s_DrawSameAlpha (N : Nat) (p0 : (List Int)) : Option (TAlpha × TAlpha) :=
  ((m_s_l1New N p0).bind fun x1 => ((m_s_l6Any N x1).bind fun x2 => ((m_s_AlphaOf N x2.1).bind fun x3 => ((m_s_l1Once N (⟨x1.b, x2.2.i, x2.2.h⟩ : Tl1Cur) 3).bind fun x4 => (if x4.1 then some (x3, x3) else ((m_s_l6Any N (⟨x1.b, x4.2.i, x4.2.h⟩ : Tl1Cur)).bind fun x5 => ((m_s_AlphaOf N x5.1).bind fun x6 => some (x3, x6))))))))
def m_s_DrawFitting_j2 (N : Nat) (s1 : (List TVal)) (s2 : Int) (K1 : (List TVal) → Int → Int → Int → Option (TPat × TFact × (List TBind))) (x3 : TVal × Tl1Cur) (s5 : Int) (s6 : Int) (s7 : ByteArray) : Option (TPat × TFact × (List TBind)) :=
  ((app s1 ([(⟨s5, s6, s7⟩ : TVal)] : List TVal)).bind fun x5 => (K1 x5 (IntKind.i64.wrap (s2 + 1)) x3.2.i x3.2.h))
def m_s_DrawFitting_l1 (N : Nat) (x1 : Tl1Cur) (x2 : TPat × Tl1Cur) : Nat → (List TVal) → Int → Int → Int → Option (TPat × TFact × (List TBind))
  | 0, _, _, _, _ => none
  | k + 1, s1, s2, s3, s4 =>
    (if decide (s2 < (x2.1.Args.length : Int)) then ((m_s_l3Small N (⟨x1.b, s3, s4⟩ : Tl1Cur)).bind fun x3 => ((idx x2.1.Args s2).bind fun x4 => (if decide (x4.K = 2) then ((idx x2.1.Args s2).bind fun x6 => m_s_DrawFitting_j2 N s1 s2 (m_s_DrawFitting_l1 N x1 x2 k) x3 x6.V.K x6.V.N x6.V.S) else m_s_DrawFitting_j2 N s1 s2 (m_s_DrawFitting_l1 N x1 x2 k) x3 x3.1.K x3.1.N x3.1.S))) else ((m_s_l6Binds N (⟨x1.b, s3, s4⟩ : Tl1Cur)).bind fun x7 => some (x2.1, (⟨x2.1.Kind, s1⟩ : TFact), x7.1)))
def m_s_DrawFitting (N : Nat) (p0 : (List Int)) : Option (TPat × TFact × (List TBind)) :=
  ((m_s_l1New N p0).bind fun x1 => ((m_s_l6Draw N x1 false).bind fun x2 => m_s_DrawFitting_l1 N x1 x2 N ([] : List TVal) 0 x2.2.i x2.2.h))
def m_s_l1Int (N : Nat) (p0 : Tl1Cur) (p1 : (List Int)) : Option (Int × Tl1Cur) :=
  ((m_s_l1Below N p0 (p1.length : Int)).bind fun x1 => ((idx p1 x1.1).bind fun x2 => some (x2, (⟨p0.b, x1.2.i, x1.2.h⟩ : Tl1Cur))))
def m_s_l2Draw (N : Nat) (p0 : Tl1Cur) : Option (TVal × Tl1Cur) :=
  ((m_s_l1Once N p0 2).bind fun x1 => (if x1.1 then ((m_s_l1Int N (⟨p0.b, x1.2.i, x1.2.h⟩ : Tl1Cur) ([0, 1, 2, 3, (-1), 1000000000, (-1000000000)] : List Int)).bind fun x2 => some ((⟨1, x2.1, (⟨#[]⟩ : ByteArray)⟩ : TVal), (⟨p0.b, x2.2.i, x2.2.h⟩ : Tl1Cur))) else ((m_s_l1Str N (⟨p0.b, x1.2.i, x1.2.h⟩ : Tl1Cur) ([(⟨#[]⟩ : ByteArray), (⟨#[97]⟩ : ByteArray), (⟨#[98]⟩ : ByteArray), (⟨#[112, 97, 105, 100]⟩ : ByteArray), (⟨#[120, 95, 49]⟩ : ByteArray)] : List ByteArray)).bind fun x3 => some ((⟨2, 0, x3.1⟩ : TVal), (⟨p0.b, x3.2.i, x3.2.h⟩ : Tl1Cur)))))
def m_s_l2Any_j1 (N : Nat) (p0 : Tl1Cur) (s1 : Int) (s2 : Int) (s3 : Int) (s4 : Int) (s5 : ByteArray) : Option (TVal × Tl1Cur) :=
  some ((⟨s3, s4, s5⟩ : TVal), (⟨p0.b, s1, s2⟩ : Tl1Cur))
def m_s_l2Any (N : Nat) (p0 : Tl1Cur) : Option (TVal × Tl1Cur) :=
  ((m_s_l2Draw N p0).bind fun x1 => ((m_s_l1Below N (⟨p0.b, x1.2.i, x1.2.h⟩ : Tl1Cur) 10).bind fun x2 => (if decide (x2.1 = 0) then ((m_s_l1Below N (⟨p0.b, x2.2.i, x2.2.h⟩ : Tl1Cur) 4).bind fun x3 => m_s_l2Any_j1 N p0 x3.2.i x3.2.h x3.1 x1.1.N x1.1.S) else (if decide (x2.1 = 1) then ((m_s_l1Int N (⟨p0.b, x2.2.i, x2.2.h⟩ : Tl1Cur) ([1000000001, 5] : List Int)).bind fun x4 => m_s_l2Any_j1 N p0 x4.2.i x4.2.h x1.1.K x4.1 x1.1.S) else (if decide (x2.1 = 2) then ((m_s_l1Str N (⟨p0.b, x2.2.i, x2.2.h⟩ : Tl1Cur) ([(⟨#[65]⟩ : ByteArray), (⟨#[97, 32, 98]⟩ : ByteArray), (⟨#[116, 119, 101, 110, 116, 121, 111, 110, 101, 98, 121, 116, 101, 115, 116, 119, 101, 110, 116, 121, 111]⟩ : ByteArray), (⟨#[120]⟩ : ByteArray)] : List ByteArray)).bind fun x5 => m_s_l2Any_j1 N p0 x5.2.i x5.2.h x1.1.K x1.1.N x5.1) else m_s_l2Any_j1 N p0 x2.2.i x2.2.h x1.1.K x1.1.N x1.1.S)))))
def m_s_l3Any_j1 (N : Nat) (p0 : Tl1Cur) (s1 : (List TVal)) (s2 : Int) (s3 : Int) (s4 : ByteArray) : Option (TFact × Tl1Cur) :=
  some ((⟨s4, s1⟩ : TFact), (⟨p0.b, s2, s3⟩ : Tl1Cur))
def m_s_l3Any_l2 (N : Nat) (p0 : Tl1Cur) (x1 : TFact × Tl1Cur) : Nat → (List TVal) → Int → Int → Option (TFact × Tl1Cur)
  | 0, _, _, _ => none
  | k + 1, s5, s6, s7 =>
    ((m_s_l1Below N (⟨p0.b, s6, s7⟩ : Tl1Cur) 2).bind fun x6 => (if decide ((s5.length : Int) < IntKind.i64.wrap (5 + x6.1)) then ((m_s_l2Draw N (⟨p0.b, x6.2.i, x6.2.h⟩ : Tl1Cur)).bind fun x7 => ((app s5 ([x7.1] : List TVal)).bind fun x8 => ((m_s_l3Any_l2 N p0 x1 k) x8 x7.2.i x7.2.h))) else m_s_l3Any_j1 N p0 s5 x6.2.i x6.2.h x1.1.Kind))
def m_s_l3Any (N : Nat) (p0 : Tl1Cur) : Option (TFact × Tl1Cur) :=
  ((m_s_l3Draw N p0).bind fun x1 => ((m_s_l1Below N (⟨p0.b, x1.2.i, x1.2.h⟩ : Tl1Cur) 10).bind fun x2 => (if decide (x2.1 = 0) then ((m_s_l1Str N (⟨p0.b, x2.2.i, x2.2.h⟩ : Tl1Cur) ([(⟨#[]⟩ : ByteArray), (⟨#[65]⟩ : ByteArray), (⟨#[116, 104, 105, 114, 116, 101, 101, 110, 98, 121, 116, 101, 115]⟩ : ByteArray), (⟨#[120]⟩ : ByteArray)] : List ByteArray)).bind fun x3 => m_s_l3Any_j1 N p0 x1.1.Fields x3.2.i x3.2.h x3.1) else (if decide (x2.1 = 1) then ((m_s_l2Any N (⟨p0.b, x2.2.i, x2.2.h⟩ : Tl1Cur)).bind fun x4 => ((app x1.1.Fields ([x4.1] : List TVal)).bind fun x5 => m_s_l3Any_j1 N p0 x5 x4.2.i x4.2.h x1.1.Kind)) else (if decide (x2.1 = 2) then m_s_l3Any_l2 N p0 x1 N x1.1.Fields x2.2.i x2.2.h else m_s_l3Any_j1 N p0 x1.1.Fields x2.2.i x2.2.h x1.1.Kind)))))
def m_s_DrawPasses_j1 (N : Nat) (x3 : TAlpha) (s1 : (List TVal)) (s2 : (List TVal)) (s3 : (List Int)) (s4 : ByteArray) : Option (TAlpha × TFact) :=
  some ((⟨x3.Kind, x3.N, s2, s3⟩ : TAlpha), (⟨s4, s1⟩ : TFact))
def m_s_DrawPasses (N : Nat) (p0 : (List Int)) : Option (TAlpha × TFact) :=
  ((m_s_l1New N p0).bind fun x1 => ((m_s_DrawFitting N p0).bind fun x2 => ((m_s_AlphaOf N x2.1).bind fun x3 => ((m_s_l1Below N x1 6).bind fun x4 => (if decide (x4.1 = 0) then ((m_s_l1Below N (⟨x1.b, x4.2.i, x4.2.h⟩ : Tl1Cur) 7).bind fun x5 => ((app x3.At ([IntKind.i64.wrap (x5.1 - 1)] : List Int)).bind fun x6 => m_s_DrawPasses_j1 N x3 x2.2.1.Fields x3.Consts x6 x2.2.1.Kind)) else (if decide (x4.1 = 1) then ((m_s_l3Any N (⟨x1.b, x4.2.i, x4.2.h⟩ : Tl1Cur)).bind fun x7 => m_s_DrawPasses_j1 N x3 x7.1.Fields x3.Consts x3.At x7.1.Kind) else (if decide (x4.1 = 2) then ((m_s_l3Small N (⟨x1.b, x4.2.i, x4.2.h⟩ : Tl1Cur)).bind fun x8 => ((app x3.Consts ([x8.1] : List TVal)).bind fun x9 => ((app x3.At ([0] : List Int)).bind fun x10 => m_s_DrawPasses_j1 N x3 x2.2.1.Fields x9 x10 x2.2.1.Kind))) else m_s_DrawPasses_j1 N x3 x2.2.1.Fields x3.Consts x3.At x2.2.1.Kind)))))))
def m_sl_Equal_Si_Val_i_Val_l1 (N : Nat) (p0 : (List TVal)) (p1 : (List TVal)) : Nat → Int → Option (Bool)
  | 0, _ => none
  | k + 1, s1 =>
    (if decide (s1 < (p0.length : Int)) then ((idx p0 s1).bind fun x1 => ((idx p1 s1).bind fun x2 => (if !(eqT_TVal x1 x2) then some false else ((m_sl_Equal_Si_Val_i_Val_l1 N p0 p1 k) (IntKind.i64.wrap (s1 + 1)))))) else some true)
def m_sl_Equal_Si_Val_i_Val (N : Nat) (p0 : (List TVal)) (p1 : (List TVal)) : Option (Bool) :=
  (if !decide ((p0.length : Int) = (p1.length : Int)) then some false else m_sl_Equal_Si_Val_i_Val_l1 N p0 p1 N 0)
def m_sl_Equal_Sint_int_l1 (N : Nat) (p0 : (List Int)) (p1 : (List Int)) : Nat → Int → Option (Bool)
  | 0, _ => none
  | k + 1, s1 =>
    (if decide (s1 < (p0.length : Int)) then ((idx p0 s1).bind fun x1 => ((idx p1 s1).bind fun x2 => (if !decide (x1 = x2) then some false else ((m_sl_Equal_Sint_int_l1 N p0 p1 k) (IntKind.i64.wrap (s1 + 1)))))) else some true)
def m_sl_Equal_Sint_int (N : Nat) (p0 : (List Int)) (p1 : (List Int)) : Option (Bool) :=
  (if !decide ((p0.length : Int) = (p1.length : Int)) then some false else m_sl_Equal_Sint_int_l1 N p0 p1 N 0)
def m_i_SameAlpha (N : Nat) (p0 : TAlpha) (p1 : TAlpha) : Option (Bool) :=
  ((if seq p0.Kind p1.Kind then some (decide (p0.N = p1.N)) else some false).bind fun b1 => ((if b1 then ((m_sl_Equal_Si_Val_i_Val N p0.Consts p1.Consts).bind fun x1 => some x1) else some false).bind fun b2 => ((if b2 then ((m_sl_Equal_Sint_int N p0.At p1.At).bind fun x2 => some x2) else some false).bind fun b3 => some b3)))
def m_s_l11Same_l1 (N : Nat) (p0 : (List Int)) (p1 : (List Int)) : Nat → Int → Option (Bool)
  | 0, _ => none
  | k + 1, s1 =>
    (if decide (s1 < (p0.length : Int)) then ((idx p0 s1).bind fun x1 => ((idx p1 s1).bind fun x2 => (if !decide (x1 = x2) then some false else ((m_s_l11Same_l1 N p0 p1 k) (IntKind.i64.wrap (s1 + 1)))))) else some true)
def m_s_l11Same (N : Nat) (p0 : (List Int)) (p1 : (List Int)) : Option (Bool) :=
  (if !decide ((p0.length : Int) = (p1.length : Int)) then some false else m_s_l11Same_l1 N p0 p1 N 0)
def m_s_l3SameVals_l1 (N : Nat) (p0 : (List TVal)) (p1 : (List TVal)) : Nat → Int → Option (Bool)
  | 0, _ => none
  | k + 1, s1 =>
    (if decide (s1 < (p0.length : Int)) then ((idx p0 s1).bind fun x1 => ((idx p1 s1).bind fun x2 => (if !(eqT_TVal x1 x2) then some false else ((m_s_l3SameVals_l1 N p0 p1 k) (IntKind.i64.wrap (s1 + 1)))))) else some true)
def m_s_l3SameVals (N : Nat) (p0 : (List TVal)) (p1 : (List TVal)) : Option (Bool) :=
  (if !decide ((p0.length : Int) = (p1.length : Int)) then some false else m_s_l3SameVals_l1 N p0 p1 N 0)
def m_s_SameAlpha (N : Nat) (p0 : TAlpha) (p1 : TAlpha) : Option (Bool) :=
  ((if seq p0.Kind p1.Kind then some (decide (p0.N = p1.N)) else some false).bind fun b1 => ((if b1 then ((m_s_l11Same N p0.At p1.At).bind fun x1 => some x1) else some false).bind fun b2 => ((if b2 then ((m_s_l3SameVals N p0.Consts p1.Consts).bind fun x2 => some x2) else some false).bind fun b3 => some b3)))
def m_i_Passes_l1 (N : Nat) (p0 : TAlpha) (p1 : TFact) : Nat → Int → Option (Bool)
  | 0, _ => none
  | k + 1, s1 =>
    (if decide (s1 < (p0.At.length : Int)) then ((idx p0.At s1).bind fun x1 => ((if decide (x1 < 0) then some true else some (decide ((p1.Fields.length : Int) ≤ x1))).bind fun b2 => ((if b2 then some true else some (decide ((p0.Consts.length : Int) ≤ s1))).bind fun b3 => ((if b3 then some true else ((idx p1.Fields x1).bind fun x2 => ((idx p0.Consts s1).bind fun x3 => some (!(eqT_TVal x2 x3))))).bind fun b4 => (if b4 then some false else ((m_i_Passes_l1 N p0 p1 k) (IntKind.i64.wrap (s1 + 1)))))))) else some true)
def m_i_Passes (N : Nat) (p0 : TAlpha) (p1 : TFact) : Option (Bool) :=
  ((if !seq p1.Kind p0.Kind then some true else some (!decide ((p1.Fields.length : Int) = p0.N))).bind fun b1 => (if b1 then some false else m_i_Passes_l1 N p0 p1 N 0))
def m_s_l1In (N : Nat) (p0 : Int) (p1 : Int) (p2 : Int) : Option (Bool) :=
  ((if decide (p1 ≤ p0) then some (decide (p0 ≤ p2)) else some false).bind fun b1 => some b1)
def m_s_Passes_l1 (N : Nat) (p0 : TAlpha) (p1 : TFact) : Nat → Int → Option (Bool)
  | 0, _ => none
  | k + 1, s1 =>
    (if decide (s1 < (p0.At.length : Int)) then ((idx p0.At s1).bind fun x1 => ((if decide ((p0.Consts.length : Int) ≤ s1) then some true else ((m_s_l1In N x1 0 (IntKind.i64.wrap ((p1.Fields.length : Int) - 1))).bind fun x2 => some (!x2))).bind fun b2 => ((if b2 then some true else ((idx p1.Fields x1).bind fun x3 => ((idx p0.Consts s1).bind fun x4 => some (!(eqT_TVal x3 x4))))).bind fun b3 => (if b3 then some false else ((m_s_Passes_l1 N p0 p1 k) (IntKind.i64.wrap (s1 + 1))))))) else some true)
def m_s_Passes (N : Nat) (p0 : TAlpha) (p1 : TFact) : Option (Bool) :=
  ((if !seq p0.Kind p1.Kind then some true else some (!decide (p0.N = (p1.Fields.length : Int)))).bind fun b1 => (if b1 then some false else m_s_Passes_l1 N p0 p1 N 0))
def m_l_FnAlphas_j1 (N : Nat) (x2 : TPat × TFact × (List TBind)) (x3 : (List TBind) × Bool) (x4 : TAlpha) (s1 : Bool) : Option (Bool) :=
  (if s1 then some false else ((if !x3.2 then some true else ((m_i_Passes N x4 x2.2.1).bind fun x10 => some x10)).bind fun b1 => some b1))
def m_l_FnAlphas (N : Nat) (p0 : (List Int)) : Option (Bool) :=
  ((m_l_big N p0).bind fun x1 => (if x1 then some true else ((m_s_DrawMatchPat N p0).bind fun x2 => ((m_i_MatchPat N x2.1 x2.2.1 x2.2.2).bind fun x3 => ((m_i_AlphaOf N x2.1).bind fun x4 => ((m_s_DrawSameAlpha N p0).bind fun x5 => ((m_s_DrawPasses N p0).bind fun x7 => ((m_s_AlphaOf N x2.1).bind fun x11 => ((m_i_SameAlpha N x4 x11).bind fun x12 => (if !x12 then m_l_FnAlphas_j1 N x2 x3 x4 true else ((m_i_SameAlpha N x5.1 x5.2).bind fun x13 => ((m_s_SameAlpha N x5.1 x5.2).bind fun x14 => (if (x13 != x14) then m_l_FnAlphas_j1 N x2 x3 x4 true else ((m_i_Passes N x7.1 x7.2).bind fun x15 => ((m_s_Passes N x7.1 x7.2).bind fun x16 => m_l_FnAlphas_j1 N x2 x3 x4 (x15 != x16))))))))))))))))
end Go.Proofs.Ytelchcokfcdndaa
