/- Printed by a program of ours: Lean functions of plain data for the Go functions. -/
import Derived.Test.YtpajhchhkfnieaaEI
namespace Go.Proofs.Ytpajhchhkfnieaa
open Eng
set_option linter.unusedVariables false
set_option linter.unusedSimpArgs false

structure Tl1Cur where
  b : (List Int)
  i : Int
  h : Int
  deriving DecidableEq
def RTl1Cur (Φ : Hp) (F : List Nat) (cs : List Value) (x : Tl1Cur) : Prop :=
  ∃ (s0 : Value) (F0 : List Nat), cs = [s0, .int .i64 x.i, .int .i64 x.h] ∧ F = F0 ∧ RSl (RI .u8) 1 Φ F0 s0 x.b
theorem RTl1Cur.lasts : Lasts RTl1Cur := fun X Φ Φ' F cs x hf hd ⟨s0, F0, hc, hF, h0⟩ => by
  rw [hF] at hd
  exact ⟨s0, F0, hc, hF, h0.frame RI.lasts hf (fun k hk => hd k (by simp [hk]))⟩
theorem RTl1Cur.knows : Knows RTl1Cur := fun Φ F cs x ⟨s0, F0, hc, hF, h0⟩ => hF ▸ h0.kn
theorem RTl1Cur.one : Ones RTl1Cur := fun _ _ _ _ h => by obtain ⟨s0, F0, rfl, -, h0⟩ := h; exact One.all ⟨h0.one, rfl, rfl, trivial⟩
def OTl1Cur (Φ : Hp) (F : List Nat) (cs : List Value) (x : Tl1Cur) : Prop :=
  ∃ (s0 : Value), cs = [s0, .int .i64 x.i, .int .i64 x.h] ∧ F = (ob s0 ++ []) ∧ OSl (RI .u8) 5 1 Φ [] s0 x.b
theorem OTl1Cur.lasts : Lasts OTl1Cur := fun X Φ Φ' F cs x hf hd ⟨s0, hc, hF, h0⟩ => by
  rw [hF] at hd
  exact ⟨s0, hc, hF, h0.frame RI.lasts hf (fun k hk => hd k (by simp [hk])) (Dj.nil _)⟩
theorem OTl1Cur.knows : Knows OTl1Cur := fun Φ F cs x ⟨s0, hc, hF, h0⟩ => hF ▸ (h0.knO.app h0.kn)
theorem OTl1Cur.one : Ones OTl1Cur := fun _ _ _ _ h => by obtain ⟨s0, rfl, -, h0⟩ := h; exact One.all ⟨h0.one, rfl, rfl, trivial⟩
theorem OTl1Cur.gives : Gives OTl1Cur RTl1Cur := fun Φ F cs x ⟨s0, hc, hF, h0⟩ => ⟨s0, ob s0 ++ [], hc, hF, h0.rslG (Gives.refl _)⟩
structure TVal where
  K : Int
  N : Int
  S : ByteArray
  deriving DecidableEq
def RTVal (Φ : Hp) (F : List Nat) (cs : List Value) (x : TVal) : Prop := cs = [.int .i64 x.K, .int .i64 x.N, .string x.S] ∧ F = []
theorem RTVal.lasts : Lasts RTVal := fun _ _ _ _ _ _ _ _ h => h
theorem RTVal.knows : Knows RTVal := fun _ _ _ _ h => h.2 ▸ Kw.nil
theorem RTVal.flat : Flat RTVal := fun _ _ _ _ h => h.2
theorem RTVal.one : Ones RTVal := fun _ _ _ _ h => by obtain ⟨rfl, -⟩ := h; exact One.all ⟨rfl, rfl, rfl, trivial⟩
structure TBind where
  Name : ByteArray
  V : TVal
  deriving DecidableEq
def RTBind (Φ : Hp) (F : List Nat) (cs : List Value) (x : TBind) : Prop := cs = [.string x.Name, .int .i64 x.V.K, .int .i64 x.V.N, .string x.V.S] ∧ F = []
theorem RTBind.lasts : Lasts RTBind := fun _ _ _ _ _ _ _ _ h => h
theorem RTBind.knows : Knows RTBind := fun _ _ _ _ h => h.2 ▸ Kw.nil
theorem RTBind.flat : Flat RTBind := fun _ _ _ _ h => h.2
theorem RTBind.one : Ones RTBind := fun _ _ _ _ h => by obtain ⟨rfl, -⟩ := h; exact One.all ⟨rfl, rfl, rfl, rfl, trivial⟩
structure TMatch where
  Rule : Int
  Ids : (List Int)
  Binds : (List TBind)
  deriving DecidableEq
def RTMatch (Φ : Hp) (F : List Nat) (cs : List Value) (x : TMatch) : Prop :=
  ∃ (s0 : Value) (F0 : List Nat) (s1 : Value) (F1 : List Nat), cs = [.int .i64 x.Rule, s0, s1] ∧ F = F0 ++ (F1) ∧ RSl (RI .i64) 1 Φ F0 s0 x.Ids ∧ RSl RTBind 4 Φ F1 s1 x.Binds
theorem RTMatch.lasts : Lasts RTMatch := fun X Φ Φ' F cs x hf hd ⟨s0, F0, s1, F1, hc, hF, h0, h1⟩ => by
  rw [hF] at hd
  exact ⟨s0, F0, s1, F1, hc, hF, h0.frame RI.lasts hf (fun k hk => hd k (by simp [hk])), h1.frame RTBind.lasts hf (fun k hk => hd k (by simp [hk]))⟩
theorem RTMatch.knows : Knows RTMatch := fun Φ F cs x ⟨s0, F0, s1, F1, hc, hF, h0, h1⟩ => hF ▸ (h0.kn.app h1.kn)
theorem RTMatch.one : Ones RTMatch := fun _ _ _ _ h => by obtain ⟨s0, F0, s1, F1, rfl, -, h0, h1⟩ := h; exact One.all ⟨rfl, h0.one, h1.one, trivial⟩
def OTMatch (Φ : Hp) (F : List Nat) (cs : List Value) (x : TMatch) : Prop :=
  ∃ (s0 : Value) (s1 : Value), cs = [.int .i64 x.Rule, s0, s1] ∧ F = (ob s0 ++ []) ++ ((ob s1 ++ [])) ∧ OSl (RI .i64) 3 1 Φ [] s0 x.Ids ∧ OSl RTBind 130 4 Φ [] s1 x.Binds
theorem OTMatch.lasts : Lasts OTMatch := fun X Φ Φ' F cs x hf hd ⟨s0, s1, hc, hF, h0, h1⟩ => by
  rw [hF] at hd
  exact ⟨s0, s1, hc, hF, h0.frame RI.lasts hf (fun k hk => hd k (by simp [hk])) (Dj.nil _), h1.frame RTBind.lasts hf (fun k hk => hd k (by simp [hk])) (Dj.nil _)⟩
theorem OTMatch.knows : Knows OTMatch := fun Φ F cs x ⟨s0, s1, hc, hF, h0, h1⟩ => hF ▸ ((h0.knO.app h0.kn).app (h1.knO.app h1.kn))
theorem OTMatch.one : Ones OTMatch := fun _ _ _ _ h => by obtain ⟨s0, s1, rfl, -, h0, h1⟩ := h; exact One.all ⟨rfl, h0.one, h1.one, trivial⟩
theorem OTMatch.gives : Gives OTMatch RTMatch := fun Φ F cs x ⟨s0, s1, hc, hF, h0, h1⟩ => ⟨s0, ob s0 ++ [], s1, ob s1 ++ [], hc, hF, h0.rslG (Gives.refl _), h1.rslG (Gives.refl _)⟩
structure TAlpha where
  Kind : ByteArray
  N : Int
  Consts : (List TVal)
  At : (List Int)
  deriving DecidableEq
def RTAlpha (Φ : Hp) (F : List Nat) (cs : List Value) (x : TAlpha) : Prop :=
  ∃ (s0 : Value) (F0 : List Nat) (s1 : Value) (F1 : List Nat), cs = [.string x.Kind, .int .i64 x.N, s0, s1] ∧ F = F0 ++ (F1) ∧ RSl RTVal 3 Φ F0 s0 x.Consts ∧ RSl (RI .i64) 1 Φ F1 s1 x.At
theorem RTAlpha.lasts : Lasts RTAlpha := fun X Φ Φ' F cs x hf hd ⟨s0, F0, s1, F1, hc, hF, h0, h1⟩ => by
  rw [hF] at hd
  exact ⟨s0, F0, s1, F1, hc, hF, h0.frame RTVal.lasts hf (fun k hk => hd k (by simp [hk])), h1.frame RI.lasts hf (fun k hk => hd k (by simp [hk]))⟩
theorem RTAlpha.knows : Knows RTAlpha := fun Φ F cs x ⟨s0, F0, s1, F1, hc, hF, h0, h1⟩ => hF ▸ (h0.kn.app h1.kn)
theorem RTAlpha.one : Ones RTAlpha := fun _ _ _ _ h => by obtain ⟨s0, F0, s1, F1, rfl, -, h0, h1⟩ := h; exact One.all ⟨rfl, rfl, h0.one, h1.one, trivial⟩
def OTAlpha (Φ : Hp) (F : List Nat) (cs : List Value) (x : TAlpha) : Prop :=
  ∃ (s0 : Value) (s1 : Value), cs = [.string x.Kind, .int .i64 x.N, s0, s1] ∧ F = (ob s0 ++ []) ++ ((ob s1 ++ [])) ∧ OSl RTVal 100 3 Φ [] s0 x.Consts ∧ OSl (RI .i64) 3 1 Φ [] s1 x.At
theorem OTAlpha.lasts : Lasts OTAlpha := fun X Φ Φ' F cs x hf hd ⟨s0, s1, hc, hF, h0, h1⟩ => by
  rw [hF] at hd
  exact ⟨s0, s1, hc, hF, h0.frame RTVal.lasts hf (fun k hk => hd k (by simp [hk])) (Dj.nil _), h1.frame RI.lasts hf (fun k hk => hd k (by simp [hk])) (Dj.nil _)⟩
theorem OTAlpha.knows : Knows OTAlpha := fun Φ F cs x ⟨s0, s1, hc, hF, h0, h1⟩ => hF ▸ ((h0.knO.app h0.kn).app (h1.knO.app h1.kn))
theorem OTAlpha.one : Ones OTAlpha := fun _ _ _ _ h => by obtain ⟨s0, s1, rfl, -, h0, h1⟩ := h; exact One.all ⟨rfl, rfl, h0.one, h1.one, trivial⟩
theorem OTAlpha.gives : Gives OTAlpha RTAlpha := fun Φ F cs x ⟨s0, s1, hc, hF, h0, h1⟩ => ⟨s0, ob s0 ++ [], s1, ob s1 ++ [], hc, hF, h0.rslG (Gives.refl _), h1.rslG (Gives.refl _)⟩
structure TArg where
  K : Int
  S : ByteArray
  V : TVal
  deriving DecidableEq
def RTArg (Φ : Hp) (F : List Nat) (cs : List Value) (x : TArg) : Prop := cs = [.int .i64 x.K, .string x.S, .int .i64 x.V.K, .int .i64 x.V.N, .string x.V.S] ∧ F = []
theorem RTArg.lasts : Lasts RTArg := fun _ _ _ _ _ _ _ _ h => h
theorem RTArg.knows : Knows RTArg := fun _ _ _ _ h => h.2 ▸ Kw.nil
theorem RTArg.flat : Flat RTArg := fun _ _ _ _ h => h.2
theorem RTArg.one : Ones RTArg := fun _ _ _ _ h => by obtain ⟨rfl, -⟩ := h; exact One.all ⟨rfl, rfl, rfl, rfl, rfl, trivial⟩
structure TPat where
  Kind : ByteArray
  Args : (List TArg)
  Not : Bool
  deriving DecidableEq
def RTPat (Φ : Hp) (F : List Nat) (cs : List Value) (x : TPat) : Prop :=
  ∃ (s0 : Value) (F0 : List Nat), cs = [.string x.Kind, s0, .bool x.Not] ∧ F = F0 ∧ RSl RTArg 5 Φ F0 s0 x.Args
theorem RTPat.lasts : Lasts RTPat := fun X Φ Φ' F cs x hf hd ⟨s0, F0, hc, hF, h0⟩ => by
  rw [hF] at hd
  exact ⟨s0, F0, hc, hF, h0.frame RTArg.lasts hf (fun k hk => hd k (by simp [hk]))⟩
theorem RTPat.knows : Knows RTPat := fun Φ F cs x ⟨s0, F0, hc, hF, h0⟩ => hF ▸ h0.kn
theorem RTPat.one : Ones RTPat := fun _ _ _ _ h => by obtain ⟨s0, F0, rfl, -, h0⟩ := h; exact One.all ⟨rfl, h0.one, rfl, trivial⟩
def OTPat (Φ : Hp) (F : List Nat) (cs : List Value) (x : TPat) : Prop :=
  ∃ (s0 : Value), cs = [.string x.Kind, s0, .bool x.Not] ∧ F = (ob s0 ++ []) ∧ OSl RTArg 95 5 Φ [] s0 x.Args
theorem OTPat.lasts : Lasts OTPat := fun X Φ Φ' F cs x hf hd ⟨s0, hc, hF, h0⟩ => by
  rw [hF] at hd
  exact ⟨s0, hc, hF, h0.frame RTArg.lasts hf (fun k hk => hd k (by simp [hk])) (Dj.nil _)⟩
theorem OTPat.knows : Knows OTPat := fun Φ F cs x ⟨s0, hc, hF, h0⟩ => hF ▸ (h0.knO.app h0.kn)
theorem OTPat.one : Ones OTPat := fun _ _ _ _ h => by obtain ⟨s0, rfl, -, h0⟩ := h; exact One.all ⟨rfl, h0.one, rfl, trivial⟩
theorem OTPat.gives : Gives OTPat RTPat := fun Φ F cs x ⟨s0, hc, hF, h0⟩ => ⟨s0, ob s0 ++ [], hc, hF, h0.rslG (Gives.refl _)⟩
/-! laws.big -/
def m_l_big (N : Nat) (p0 : (List Int)) : Option (Bool) :=
  some (decide (1048576 < (p0.length : Int)))
/-! spec.l1New -/
def m_s_l1New_l1 (N : Nat) (p0 : (List Int)) : Nat → Int → Int → Option (Tl1Cur)
  | 0, _, _ => none
  | k + 1, s1, s2 =>
    ((if decide (s2 < (p0.length : Int)) then some (decide (s2 < 4000)) else some false).bind fun b1 => (if b1 then ((idx p0 s2).bind fun x1 => ((m_s_l1New_l1 N p0 k) (andI .i64 (IntKind.i64.wrap ((IntKind.i64.wrap ((IntKind.i64.wrap (s1 * 137)) + (IntKind.i64.wrap x1))) + 11)) 1073741823) (IntKind.i64.wrap (s2 + 1)))) else some (⟨p0, 0, s1⟩ : Tl1Cur)))
def m_s_l1New (N : Nat) (p0 : (List Int)) : Option (Tl1Cur) :=
  m_s_l1New_l1 N p0 N (IntKind.i64.wrap (354354 + (p0.length : Int))) 0
/-! spec.l1Byte -/
def m_s_l1Byte (N : Nat) (p0 : Tl1Cur) : Option (Int × Tl1Cur) :=
  (if decide (p0.i < (p0.b.length : Int)) then ((idx p0.b p0.i).bind fun x1 => some ((andI .i64 (IntKind.i64.wrap ((andI .i64 (xorI .i64 (shrI .i64 (IntKind.i64.wrap ((IntKind.i64.wrap (p0.h * 6364136223846793005)) + 1442695040888963407)) 33) (shrI .i64 (IntKind.i64.wrap ((IntKind.i64.wrap (p0.h * 6364136223846793005)) + 1442695040888963407)) 47)) 255) + (IntKind.i64.wrap x1))) 255), (⟨p0.b, IntKind.i64.wrap (p0.i + 1), IntKind.i64.wrap ((IntKind.i64.wrap (p0.h * 6364136223846793005)) + 1442695040888963407)⟩ : Tl1Cur))) else some ((andI .i64 (xorI .i64 (shrI .i64 (IntKind.i64.wrap ((IntKind.i64.wrap (p0.h * 6364136223846793005)) + 1442695040888963407)) 33) (shrI .i64 (IntKind.i64.wrap ((IntKind.i64.wrap (p0.h * 6364136223846793005)) + 1442695040888963407)) 47)) 255), (⟨p0.b, p0.i, IntKind.i64.wrap ((IntKind.i64.wrap (p0.h * 6364136223846793005)) + 1442695040888963407)⟩ : Tl1Cur)))
/-! spec.l1Below -/
def m_s_l1Below (N : Nat) (p0 : Tl1Cur) (p1 : Int) : Option (Int × Tl1Cur) :=
  (if decide (p1 ≤ 0) then some (0, p0) else (if decide (p1 ≤ 256) then ((m_s_l1Byte N p0).bind fun x1 => ((remI x1.1 p1).bind fun x2 => some (x2, (⟨p0.b, x1.2.i, x1.2.h⟩ : Tl1Cur)))) else ((m_s_l1Byte N p0).bind fun x3 => ((m_s_l1Byte N (⟨p0.b, x3.2.i, x3.2.h⟩ : Tl1Cur)).bind fun x4 => ((m_s_l1Byte N (⟨p0.b, x4.2.i, x4.2.h⟩ : Tl1Cur)).bind fun x5 => ((remI (IntKind.i64.wrap ((IntKind.i64.wrap ((IntKind.i64.wrap (x3.1 * 65536)) + (IntKind.i64.wrap (x4.1 * 256)))) + x5.1)) p1).bind fun x6 => some (x6, (⟨p0.b, x5.2.i, x5.2.h⟩ : Tl1Cur))))))))
/-! spec.l11Match -/
def m_s_l11Match_l1 (N : Nat) (p0 : Tl1Cur) (x1 : Int × Tl1Cur) : Nat → (List Int) → Int → Int → Int → Option (TMatch × Tl1Cur)
  | 0, _, _, _, _ => none
  | k + 1, s1, s2, s3, s4 =>
    (if decide (0 < s2) then ((m_s_l1Below N (⟨p0.b, s3, s4⟩ : Tl1Cur) 3).bind fun x3 => ((app s1 ([IntKind.i64.wrap (1 + x3.1)] : List Int)).bind fun x4 => ((m_s_l11Match_l1 N p0 x1 k) x4 (IntKind.i64.wrap (s2 - 1)) x3.2.i x3.2.h))) else some ((⟨x1.1, s1, []⟩ : TMatch), (⟨p0.b, s3, s4⟩ : Tl1Cur)))
def m_s_l11Match (N : Nat) (p0 : Tl1Cur) : Option (TMatch × Tl1Cur) :=
  ((m_s_l1Below N p0 3).bind fun x1 => ((m_s_l1Below N (⟨p0.b, x1.2.i, x1.2.h⟩ : Tl1Cur) 4).bind fun x2 => m_s_l11Match_l1 N p0 x1 N ([] : List Int) x2.1 x2.2.i x2.2.h))
/-! spec.l15List -/
def m_s_l15List_l1 (N : Nat) (p0 : Tl1Cur) : Nat → (List TMatch) → Int → Int → Int → Option ((List TMatch) × Tl1Cur)
  | 0, _, _, _, _ => none
  | k + 1, s1, s2, s3, s4 =>
    (if decide (0 < s2) then ((m_s_l11Match N (⟨p0.b, s3, s4⟩ : Tl1Cur)).bind fun x2 => ((app s1 ([x2.1] : List TMatch)).bind fun x3 => ((m_s_l15List_l1 N p0 k) x3 (IntKind.i64.wrap (s2 - 1)) x2.2.i x2.2.h))) else some (s1, (⟨p0.b, s3, s4⟩ : Tl1Cur)))
def m_s_l15List (N : Nat) (p0 : Tl1Cur) : Option ((List TMatch) × Tl1Cur) :=
  ((m_s_l1Below N p0 5).bind fun x1 => m_s_l15List_l1 N p0 N ([] : List TMatch) x1.1 x1.2.i x1.2.h)
/-! spec.DrawForget -/
def m_s_DrawForget (N : Nat) (p0 : (List Int)) : Option ((List TMatch) × Int) :=
  ((m_s_l1New N p0).bind fun x1 => ((m_s_l15List N x1).bind fun x2 => ((m_s_l1Below N (⟨x1.b, x2.2.i, x2.2.h⟩ : Tl1Cur) 3).bind fun x3 => some (x2.1, IntKind.i64.wrap (1 + x3.1)))))
/-! slices.Index[[]int,int] -/
def m_sl_Index_Sint_int_l1 (N : Nat) (p0 : (List Int)) (p1 : Int) : Nat → Int → Option (Int)
  | 0, _ => none
  | k + 1, s1 =>
    (if decide (s1 < (p0.length : Int)) then ((idx p0 s1).bind fun x1 => (if decide (p1 = x1) then some s1 else ((m_sl_Index_Sint_int_l1 N p0 p1 k) (IntKind.i64.wrap (s1 + 1))))) else some (-1))
def m_sl_Index_Sint_int (N : Nat) (p0 : (List Int)) (p1 : Int) : Option (Int) :=
  m_sl_Index_Sint_int_l1 N p0 p1 N 0
/-! slices.Contains[[]int,int] -/
def m_sl_Contains_Sint_int (N : Nat) (p0 : (List Int)) (p1 : Int) : Option (Bool) :=
  ((m_sl_Index_Sint_int N p0 p1).bind fun x1 => some (decide (0 ≤ x1)))
/-! slices.Clone[[]int,int] -/
def m_sl_Clone_Sint_int (N : Nat) (p0 : (List Int)) : Option ((List Int)) :=
  ((app ([] : List Int) p0).bind fun x1 => some x1)
/-! slices.Clone[[]impl.Bind,impl.Bind] -/
def m_sl_Clone_Si_Bind_i_Bind (N : Nat) (p0 : (List TBind)) : Option ((List TBind)) :=
  ((app ([] : List TBind) p0).bind fun x1 => some x1)
/-! impl.copyMatch -/
def m_i_copyMatch (N : Nat) (p0 : TMatch) : Option (TMatch) :=
  ((m_sl_Clone_Sint_int N p0.Ids).bind fun x1 => ((m_sl_Clone_Si_Bind_i_Bind N p0.Binds).bind fun x2 => some (⟨p0.Rule, x1, x2⟩ : TMatch)))
/-! impl.Forget -/
def m_i_Forget_l1 (N : Nat) (p0 : (List TMatch)) (p1 : Int) : Nat → (List TMatch) → Int → Option ((List TMatch))
  | 0, _, _ => none
  | k + 1, s1, s2 =>
    (if decide (s2 < (p0.length : Int)) then ((idx p0 s2).bind fun x1 => ((m_sl_Contains_Sint_int N x1.Ids p1).bind fun x2 => (if !x2 then ((m_i_copyMatch N x1).bind fun x3 => ((app s1 ([x3] : List TMatch)).bind fun x4 => ((m_i_Forget_l1 N p0 p1 k) x4 (IntKind.i64.wrap (s2 + 1))))) else ((m_i_Forget_l1 N p0 p1 k) s1 (IntKind.i64.wrap (s2 + 1)))))) else some s1)
def m_i_Forget (N : Nat) (p0 : (List TMatch)) (p1 : Int) : Option ((List TMatch)) :=
  m_i_Forget_l1 N p0 p1 N ([] : List TMatch) 0
/-! laws.has -/
def m_l_has_l1 (N : Nat) (p0 : (List Int)) (p1 : Int) : Nat → Int → Option (Bool)
  | 0, _ => none
  | k + 1, s1 =>
    (if decide (s1 < (p0.length : Int)) then ((idx p0 s1).bind fun x1 => (if decide (x1 = p1) then some true else ((m_l_has_l1 N p0 p1 k) (IntKind.i64.wrap (s1 + 1))))) else some false)
def m_l_has (N : Nat) (p0 : (List Int)) (p1 : Int) : Option (Bool) :=
  m_l_has_l1 N p0 p1 N 0
/-! slices.Equal[[]int,int] -/
def m_sl_Equal_Sint_int_l1 (N : Nat) (p0 : (List Int)) (p1 : (List Int)) : Nat → Int → Option (Bool)
  | 0, _ => none
  | k + 1, s1 =>
    (if decide (s1 < (p0.length : Int)) then ((idx p0 s1).bind fun x1 => ((idx p1 s1).bind fun x2 => (if !decide (x1 = x2) then some false else ((m_sl_Equal_Sint_int_l1 N p0 p1 k) (IntKind.i64.wrap (s1 + 1)))))) else some true)
def m_sl_Equal_Sint_int (N : Nat) (p0 : (List Int)) (p1 : (List Int)) : Option (Bool) :=
  (if !decide ((p0.length : Int) = (p1.length : Int)) then some false else m_sl_Equal_Sint_int_l1 N p0 p1 N 0)
/-! impl.SameMatch -/
def m_i_SameMatch (N : Nat) (p0 : TMatch) (p1 : TMatch) : Option (Bool) :=
  ((if decide (p0.Rule = p1.Rule) then ((m_sl_Equal_Sint_int N p0.Ids p1.Ids).bind fun x1 => some x1) else some false).bind fun b1 => some b1)
/-! spec.l1Once -/
def m_s_l1Once (N : Nat) (p0 : Tl1Cur) (p1 : Int) : Option (Bool × Tl1Cur) :=
  ((m_s_l1Below N p0 p1).bind fun x1 => some (decide (x1.1 = 0), (⟨p0.b, x1.2.i, x1.2.h⟩ : Tl1Cur)))
/-! spec.DrawFiredHas -/
def m_s_DrawFiredHas_j1 (N : Nat) (x1 : Tl1Cur) (x2 : (List TMatch) × Tl1Cur) (s1 : Bool) (s2 : Int) (s3 : Int) : Option ((List TMatch) × TMatch) :=
  (if s1 then ((m_s_l1Below N (⟨x1.b, s2, s3⟩ : Tl1Cur) (x2.1.length : Int)).bind fun x3 => ((idx x2.1 x3.1).bind fun x4 => some (x2.1, x4))) else ((m_s_l11Match N (⟨x1.b, s2, s3⟩ : Tl1Cur)).bind fun x5 => some (x2.1, x5.1)))
def m_s_DrawFiredHas (N : Nat) (p0 : (List Int)) : Option ((List TMatch) × TMatch) :=
  ((m_s_l1New N p0).bind fun x1 => ((m_s_l15List N x1).bind fun x2 => (if decide (0 < (x2.1.length : Int)) then ((m_s_l1Once N (⟨x1.b, x2.2.i, x2.2.h⟩ : Tl1Cur) 2).bind fun x6 => m_s_DrawFiredHas_j1 N x1 x2 x6.1 x6.2.i x6.2.h) else m_s_DrawFiredHas_j1 N x1 x2 false x2.2.i x2.2.h)))
/-! slices.IndexFunc[[]impl.Match,impl.Match] -/
def m_sl_IndexFunc_Si_Match_i_Match_l1 (N : Nat) (p0 : (List TMatch)) (p1 : TMatch → Option (Bool)) : Nat → Int → Option (Int)
  | 0, _ => none
  | k + 1, s1 =>
    (if decide (s1 < (p0.length : Int)) then ((idx p0 s1).bind fun x1 => ((p1 x1).bind fun x2 => (if x2 then some s1 else ((m_sl_IndexFunc_Si_Match_i_Match_l1 N p0 p1 k) (IntKind.i64.wrap (s1 + 1)))))) else some (-1))
def m_sl_IndexFunc_Si_Match_i_Match (N : Nat) (p0 : (List TMatch)) (p1 : TMatch → Option (Bool)) : Option (Int) :=
  m_sl_IndexFunc_Si_Match_i_Match_l1 N p0 p1 N 0
/-! slices.ContainsFunc[[]impl.Match,impl.Match] -/
def m_sl_ContainsFunc_Si_Match_i_Match (N : Nat) (p0 : (List TMatch)) (p1 : TMatch → Option (Bool)) : Option (Bool) :=
  ((m_sl_IndexFunc_Si_Match_i_Match N p0 p1).bind fun x1 => some (decide (0 ≤ x1)))
/-! impl.FiredHas$1 -/
def m_i_FiredHas_c1 (N : Nat) (p0 : TMatch) (c0 : TMatch) : Option (Bool) :=
  ((m_i_SameMatch N p0 c0).bind fun x1 => some x1)
/-! impl.FiredHas -/
def m_i_FiredHas (N : Nat) (p0 : (List TMatch)) (p1 : TMatch) : Option (Bool) :=
  ((m_sl_ContainsFunc_Si_Match_i_Match N p0 (fun a0 => m_i_FiredHas_c1 N a0 p1)).bind fun x1 => some x1)
/-! laws.FnForgotten -/
def m_l_FnForgotten_l2 (N : Nat) (x3 : (List TMatch)) (s1 : Int) (x9 : (List TMatch) × TMatch) : Nat → Bool → Int → Option (Bool)
  | 0, _, _ => none
  | k + 1, s3, s4 =>
    (if decide (s4 < (x9.1.length : Int)) then ((if s3 then some true else ((idx x9.1 s4).bind fun x11 => ((m_i_SameMatch N x11 x9.2).bind fun x12 => some x12))).bind fun b2 => ((m_l_FnForgotten_l2 N x3 s1 x9 k) b2 (IntKind.i64.wrap (s4 + 1)))) else ((if decide (s1 = (x3.length : Int)) then ((m_i_FiredHas N x9.1 x9.2).bind fun x13 => some (x13 == s3)) else some false).bind fun b3 => some b3))
def m_l_FnForgotten_l1 (N : Nat) (p0 : (List Int)) (x2 : (List TMatch) × Int) (x3 : (List TMatch)) : Nat → Int → Int → Option (Bool)
  | 0, _, _ => none
  | k + 1, s1, s2 =>
    (if decide (s2 < (x2.1.length : Int)) then ((idx x2.1 s2).bind fun x4 => ((m_l_has N x4.Ids x2.2).bind fun x5 => (if !x5 then ((if decide ((x3.length : Int) ≤ s1) then some true else ((idx x3 s1).bind fun x6 => ((idx x2.1 s2).bind fun x7 => ((m_i_SameMatch N x6 x7).bind fun x8 => some (!x8))))).bind fun b1 => (if b1 then some false else ((m_l_FnForgotten_l1 N p0 x2 x3 k) (IntKind.i64.wrap (s1 + 1)) (IntKind.i64.wrap (s2 + 1))))) else ((m_l_FnForgotten_l1 N p0 x2 x3 k) s1 (IntKind.i64.wrap (s2 + 1)))))) else ((m_s_DrawFiredHas N p0).bind fun x9 => m_l_FnForgotten_l2 N x3 s1 x9 N false 0))
def m_l_FnForgotten (N : Nat) (p0 : (List Int)) : Option (Bool) :=
  ((m_l_big N p0).bind fun x1 => (if x1 then some true else ((m_s_DrawForget N p0).bind fun x2 => ((m_i_Forget N x2.1 x2.2).bind fun x3 => m_l_FnForgotten_l1 N p0 x2 x3 N 0 0))))
/-! spec.DrawSameMatch -/
def m_s_DrawSameMatch (N : Nat) (p0 : (List Int)) : Option (TMatch × TMatch) :=
  ((m_s_l1New N p0).bind fun x1 => ((m_s_l11Match N x1).bind fun x2 => ((m_s_l1Once N (⟨x1.b, x2.2.i, x2.2.h⟩ : Tl1Cur) 2).bind fun x3 => (if x3.1 then some (x2.1, x2.1) else ((m_s_l11Match N (⟨x1.b, x3.2.i, x3.2.h⟩ : Tl1Cur)).bind fun x4 => some (x2.1, x4.1))))))
/-! spec.DrawLessMatch -/
def m_s_DrawLessMatch (N : Nat) (p0 : (List Int)) : Option (TMatch × TMatch) :=
  ((m_s_DrawSameMatch N p0).bind fun x1 => some (x1.1, x1.2))
/-! cmp.Or[int] -/
def m_cmp_Or_int_l1 (N : Nat) (p0 : (List Int)) : Nat → Int → Option (Int)
  | 0, _ => none
  | k + 1, s1 =>
    (if decide (s1 < (p0.length : Int)) then ((idx p0 s1).bind fun x1 => (if !decide (x1 = 0) then some x1 else ((m_cmp_Or_int_l1 N p0 k) (IntKind.i64.wrap (s1 + 1))))) else some 0)
def m_cmp_Or_int (N : Nat) (p0 : (List Int)) : Option (Int) :=
  m_cmp_Or_int_l1 N p0 N 0
/-! cmp.isNaN[int] -/
def m_cmp_isNaN_int (N : Nat) (p0 : Int) : Option (Bool) :=
  some (!decide (p0 = p0))
/-! cmp.Compare[int] -/
def m_cmp_Compare_int (N : Nat) (p0 : Int) (p1 : Int) : Option (Int) :=
  ((m_cmp_isNaN_int N p0).bind fun x1 => ((m_cmp_isNaN_int N p1).bind fun x2 => (if x1 then (if x2 then some 0 else some (-1)) else (if x2 then some 1 else (if decide (p0 < p1) then some (-1) else (if decide (p1 < p0) then some 1 else some 0))))))
/-! slices.Compare[[]int,int] -/
def m_sl_Compare_Sint_int_l1 (N : Nat) (p0 : (List Int)) (p1 : (List Int)) : Nat → Int → Option (Int)
  | 0, _ => none
  | k + 1, s1 =>
    (if decide (s1 < (p0.length : Int)) then ((idx p0 s1).bind fun x1 => (if decide ((p1.length : Int) ≤ s1) then some 1 else ((idx p1 s1).bind fun x2 => ((m_cmp_Compare_int N x1 x2).bind fun x3 => (if !decide (x3 = 0) then some x3 else ((m_sl_Compare_Sint_int_l1 N p0 p1 k) (IntKind.i64.wrap (s1 + 1)))))))) else (if decide ((p0.length : Int) < (p1.length : Int)) then some (-1) else some 0))
def m_sl_Compare_Sint_int (N : Nat) (p0 : (List Int)) (p1 : (List Int)) : Option (Int) :=
  m_sl_Compare_Sint_int_l1 N p0 p1 N 0
/-! impl.compareMatches -/
def m_i_compareMatches (N : Nat) (p0 : TMatch) (p1 : TMatch) : Option (Int) :=
  ((m_cmp_Compare_int N p0.Rule p1.Rule).bind fun x1 => ((m_cmp_Compare_int N (p0.Ids.length : Int) (p1.Ids.length : Int)).bind fun x2 => ((m_cmp_Or_int N ([x1, x2] : List Int)).bind fun x3 => (if decide (x3 = 0) then ((m_sl_Compare_Sint_int N p0.Ids p1.Ids).bind fun x4 => some x4) else some x3))))
/-! impl.LessMatch -/
def m_i_LessMatch (N : Nat) (p0 : TMatch) (p1 : TMatch) : Option (Bool) :=
  ((m_i_compareMatches N p0 p1).bind fun x1 => some (decide (x1 < 0)))
/-! spec.LessMatch -/
def m_s_LessMatch_l1 (N : Nat) (p0 : TMatch) (p1 : TMatch) : Nat → Int → Option (Bool)
  | 0, _ => none
  | k + 1, s1 =>
    (if decide (s1 < (p0.Ids.length : Int)) then ((idx p0.Ids s1).bind fun x1 => ((idx p1.Ids s1).bind fun x2 => (if !decide (x1 = x2) then ((idx p0.Ids s1).bind fun x3 => ((idx p1.Ids s1).bind fun x4 => some (decide (x3 < x4)))) else ((m_s_LessMatch_l1 N p0 p1 k) (IntKind.i64.wrap (s1 + 1)))))) else some false)
def m_s_LessMatch (N : Nat) (p0 : TMatch) (p1 : TMatch) : Option (Bool) :=
  (if !decide (p0.Rule = p1.Rule) then some (decide (p0.Rule < p1.Rule)) else (if !decide ((p0.Ids.length : Int) = (p1.Ids.length : Int)) then some (decide ((p0.Ids.length : Int) < (p1.Ids.length : Int))) else m_s_LessMatch_l1 N p0 p1 N 0))
/-! laws.FnMatchOrder -/
def m_l_FnMatchOrder (N : Nat) (p0 : (List Int)) : Option (Bool) :=
  ((m_l_big N p0).bind fun x1 => (if x1 then some true else ((m_s_DrawLessMatch N p0).bind fun x2 => ((m_i_LessMatch N x2.1 x2.2).bind fun x4 => ((m_i_LessMatch N x2.2 x2.1).bind fun x5 => ((if x4 then some x5 else some false).bind fun b1 => ((if !b1 then ((if x4 then some true else some x5).bind fun b3 => ((m_i_SameMatch N x2.1 x2.2).bind fun x6 => some (b3 != x6))) else some false).bind fun b2 => ((if b2 then ((m_s_LessMatch N x2.1 x2.2).bind fun x7 => some (x4 == x7)) else some false).bind fun b4 => some b4))))))))
/-! laws.eqVal -/
def m_l_eqVal (N : Nat) (p0 : TVal) (p1 : TVal) : Option (Bool) :=
  (if !decide (p0.K = p1.K) then some false else (if !decide (p0.N = p1.N) then some false else (if !seq p0.S p1.S then some false else some true)))
/-! laws.eqValS -/
def m_l_eqValS_l1 (N : Nat) (p0 : (List TVal)) (p1 : (List TVal)) : Nat → Int → Option (Bool)
  | 0, _ => none
  | k + 1, s1 =>
    (if decide (s1 < (p0.length : Int)) then ((idx p0 s1).bind fun x1 => ((idx p1 s1).bind fun x2 => ((m_l_eqVal N x1 x2).bind fun x3 => (if !x3 then some false else ((m_l_eqValS_l1 N p0 p1 k) (IntKind.i64.wrap (s1 + 1))))))) else some true)
def m_l_eqValS (N : Nat) (p0 : (List TVal)) (p1 : (List TVal)) : Option (Bool) :=
  (if !decide ((p0.length : Int) = (p1.length : Int)) then some false else m_l_eqValS_l1 N p0 p1 N 0)
/-! laws.eqIntS -/
def m_l_eqIntS_l1 (N : Nat) (p0 : (List Int)) (p1 : (List Int)) : Nat → Int → Option (Bool)
  | 0, _ => none
  | k + 1, s1 =>
    (if decide (s1 < (p0.length : Int)) then ((idx p0 s1).bind fun x1 => ((idx p1 s1).bind fun x2 => (if !decide (x1 = x2) then some false else ((m_l_eqIntS_l1 N p0 p1 k) (IntKind.i64.wrap (s1 + 1)))))) else some true)
def m_l_eqIntS (N : Nat) (p0 : (List Int)) (p1 : (List Int)) : Option (Bool) :=
  (if !decide ((p0.length : Int) = (p1.length : Int)) then some false else m_l_eqIntS_l1 N p0 p1 N 0)
/-! laws.eqAlpha -/
def m_l_eqAlpha (N : Nat) (p0 : TAlpha) (p1 : TAlpha) : Option (Bool) :=
  (if !seq p0.Kind p1.Kind then some false else (if !decide (p0.N = p1.N) then some false else ((m_l_eqValS N p0.Consts p1.Consts).bind fun x1 => (if !x1 then some false else ((m_l_eqIntS N p0.At p1.At).bind fun x2 => (if !x2 then some false else some true))))))
/-! laws.szVal -/
def m_l_szVal (N : Nat) (p0 : TVal) (p1 : Int) : Option (Int) :=
  (if decide (IntKind.i64.wrap (p1 - (p0.S.size : Int)) < 0) then some (-1) else some (IntKind.i64.wrap (p1 - (p0.S.size : Int))))
/-! laws.szArg -/
def m_l_szArg (N : Nat) (p0 : TArg) (p1 : Int) : Option (Int) :=
  (if decide (IntKind.i64.wrap (p1 - (p0.S.size : Int)) < 0) then some (-1) else ((m_l_szVal N p0.V (IntKind.i64.wrap (p1 - (p0.S.size : Int)))).bind fun x1 => (if decide (x1 < 0) then some (-1) else some x1)))
/-! laws.szArgS -/
def m_l_szArgS_l1 (N : Nat) (p0 : (List TArg)) : Nat → Int → Int → Option (Int)
  | 0, _, _ => none
  | k + 1, s1, s2 =>
    (if decide (s2 < (p0.length : Int)) then ((idx p0 s2).bind fun x1 => ((m_l_szArg N x1 s1).bind fun x2 => (if decide (x2 < 0) then some (-1) else ((m_l_szArgS_l1 N p0 k) x2 (IntKind.i64.wrap (s2 + 1)))))) else some s1)
def m_l_szArgS (N : Nat) (p0 : (List TArg)) (p1 : Int) : Option (Int) :=
  (if decide (IntKind.i64.wrap (p1 - (p0.length : Int)) < 0) then some (-1) else m_l_szArgS_l1 N p0 N (IntKind.i64.wrap (p1 - (p0.length : Int))) 0)
/-! laws.szPat -/
def m_l_szPat (N : Nat) (p0 : TPat) (p1 : Int) : Option (Int) :=
  (if decide (IntKind.i64.wrap (p1 - (p0.Kind.size : Int)) < 0) then some (-1) else ((m_l_szArgS N p0.Args (IntKind.i64.wrap (p1 - (p0.Kind.size : Int)))).bind fun x1 => (if decide (x1 < 0) then some (-1) else some x1)))
/-! spec.AlphaOf -/
def m_s_AlphaOf_l1 (N : Nat) (p0 : TPat) : Nat → (List TVal) → (List Int) → Int → Option (TAlpha)
  | 0, _, _, _ => none
  | k + 1, s1, s2, s3 =>
    (if decide (s3 < (p0.Args.length : Int)) then ((idx p0.Args s3).bind fun x1 => (if decide (x1.K = 2) then ((idx p0.Args s3).bind fun x2 => ((app s1 ([x2.V] : List TVal)).bind fun x3 => ((app s2 ([s3] : List Int)).bind fun x4 => ((m_s_AlphaOf_l1 N p0 k) x3 x4 (IntKind.i64.wrap (s3 + 1)))))) else ((m_s_AlphaOf_l1 N p0 k) s1 s2 (IntKind.i64.wrap (s3 + 1))))) else some (⟨p0.Kind, (p0.Args.length : Int), s1, s2⟩ : TAlpha))
def m_s_AlphaOf (N : Nat) (p0 : TPat) : Option (TAlpha) :=
  m_s_AlphaOf_l1 N p0 N ([] : List TVal) ([] : List Int) 0
/-! laws.toVal -/
def m_l_toVal (N : Nat) (p0 : TVal) : Option (TVal) :=
  some p0
/-! laws.toArg -/
def m_l_toArg (N : Nat) (p0 : TArg) : Option (TArg) :=
  ((m_l_toVal N p0.V).bind fun x1 => some (⟨p0.K, p0.S, x1⟩ : TArg))
/-! laws.toArgS -/
def m_l_toArgS_l1 (N : Nat) (p0 : (List TArg)) : Nat → (List TArg) → Int → Option ((List TArg))
  | 0, _, _ => none
  | k + 1, s1, s2 =>
    (if decide (s2 < (p0.length : Int)) then ((idx p0 s2).bind fun x2 => ((m_l_toArg N x2).bind fun x3 => ((idx s1 s2).bind fun x4 => ((m_l_toArgS_l1 N p0 k) (s1.set s2.toNat x3) (IntKind.i64.wrap (s2 + 1)))))) else some s1)
def m_l_toArgS (N : Nat) (p0 : (List TArg)) : Option ((List TArg)) :=
  ((mk (⟨0, (⟨#[]⟩ : ByteArray), (⟨0, 0, (⟨#[]⟩ : ByteArray)⟩ : TVal)⟩ : TArg) (p0.length : Int)).bind fun x1 => m_l_toArgS_l1 N p0 N x1 0)
/-! laws.toPat -/
def m_l_toPat (N : Nat) (p0 : TPat) : Option (TPat) :=
  ((m_l_toArgS N p0.Args).bind fun x1 => some (⟨p0.Kind, x1, p0.Not⟩ : TPat))
/-! impl.AlphaOf -/
def m_i_AlphaOf_l1 (N : Nat) (p0 : TPat) : Nat → (List TVal) → (List Int) → Int → Option (TAlpha)
  | 0, _, _, _ => none
  | k + 1, s1, s2, s3 =>
    (if decide (s3 < (p0.Args.length : Int)) then ((idx p0.Args s3).bind fun x1 => (if decide (x1.K = 2) then ((app s1 ([x1.V] : List TVal)).bind fun x2 => ((app s2 ([s3] : List Int)).bind fun x3 => ((m_i_AlphaOf_l1 N p0 k) x2 x3 (IntKind.i64.wrap (s3 + 1))))) else ((m_i_AlphaOf_l1 N p0 k) s1 s2 (IntKind.i64.wrap (s3 + 1))))) else some (⟨p0.Kind, (p0.Args.length : Int), s1, s2⟩ : TAlpha))
def m_i_AlphaOf (N : Nat) (p0 : TPat) : Option (TAlpha) :=
  m_i_AlphaOf_l1 N p0 N ([] : List TVal) ([] : List Int) 0
/-! laws.eqArg -/
def m_l_eqArg (N : Nat) (p0 : TArg) (p1 : TArg) : Option (Bool) :=
  (if !decide (p0.K = p1.K) then some false else (if !seq p0.S p1.S then some false else ((m_l_eqVal N p0.V p1.V).bind fun x1 => (if !x1 then some false else some true))))
/-! laws.eqArgS -/
def m_l_eqArgS_l1 (N : Nat) (p0 : (List TArg)) (p1 : (List TArg)) : Nat → Int → Option (Bool)
  | 0, _ => none
  | k + 1, s1 =>
    (if decide (s1 < (p0.length : Int)) then ((idx p0 s1).bind fun x1 => ((idx p1 s1).bind fun x2 => ((m_l_eqArg N x1 x2).bind fun x3 => (if !x3 then some false else ((m_l_eqArgS_l1 N p0 p1 k) (IntKind.i64.wrap (s1 + 1))))))) else some true)
def m_l_eqArgS (N : Nat) (p0 : (List TArg)) (p1 : (List TArg)) : Option (Bool) :=
  (if !decide ((p0.length : Int) = (p1.length : Int)) then some false else m_l_eqArgS_l1 N p0 p1 N 0)
/-! laws.eqPat -/
def m_l_eqPat (N : Nat) (p0 : TPat) (p1 : TPat) : Option (Bool) :=
  (if !seq p0.Kind p1.Kind then some false else ((m_l_eqArgS N p0.Args p1.Args).bind fun x1 => (if !x1 then some false else (if (p0.Not != p1.Not) then some false else some true))))
/-! laws.markText -/
def m_l_markText_l1 (N : Nat) : Nat → Int → ByteArray → Option (ByteArray)
  | 0, _, _ => none
  | k + 1, s1, s2 =>
    (if decide (0 < s1) then ((cat (bstr ([(IntKind.u8.wrap (IntKind.i64.wrap (48 + (s1.tmod 10))))] : List Int)) s2).bind fun z1 => ((m_l_markText_l1 N k) (IntKind.i64.wrap (s1.tdiv 10)) z1)) else ((cat (⟨#[109]⟩ : ByteArray) s2).bind fun z2 => some z2))
def m_l_markText (N : Nat) (p0 : Int) : Option (ByteArray) :=
  (if decide (p0 ≤ 0) then some (⟨#[109, 48]⟩ : ByteArray) else m_l_markText_l1 N N p0 (⟨#[]⟩ : ByteArray))
/-! laws.markArgS -/
def m_l_markArgS_l1 (N : Nat) : Nat → (List TArg) → Int → Int → Option (Int × (List TArg))
  | 0, _, _, _ => none
  | k + 1, s1, s2, s3 =>
    (if decide (s3 < (s1.length : Int)) then ((idx s1 s3).bind fun x1 => ((m_l_markText N (IntKind.i64.wrap (s2 + 1))).bind fun x2 => ((m_l_markText N (IntKind.i64.wrap ((IntKind.i64.wrap ((IntKind.i64.wrap ((IntKind.i64.wrap (s2 + 1)) + 1)) + 1)) + 1))).bind fun x3 => ((m_l_markArgS_l1 N k) (s1.set s3.toNat (⟨s2, x2, (⟨IntKind.i64.wrap ((IntKind.i64.wrap (s2 + 1)) + 1), IntKind.i64.wrap ((IntKind.i64.wrap ((IntKind.i64.wrap (s2 + 1)) + 1)) + 1), x3⟩ : TVal)⟩ : TArg)) (IntKind.i64.wrap ((IntKind.i64.wrap ((IntKind.i64.wrap ((IntKind.i64.wrap ((IntKind.i64.wrap (s2 + 1)) + 1)) + 1)) + 1)) + 1)) (IntKind.i64.wrap (s3 + 1)))))) else some (s2, s1))
def m_l_markArgS (N : Nat) (p0 : (List TArg)) (p1 : Int) : Option (Int × (List TArg)) :=
  m_l_markArgS_l1 N N p0 p1 0
/-! laws.markPat -/
def m_l_markPat (N : Nat) (p0 : TPat) (p1 : Int) : Option (Int × (List TArg)) :=
  ((m_l_markArgS N p0.Args p1).bind fun x1 => some (x1.1, x1.2))
/-! laws.markValS -/
def m_l_markValS_l1 (N : Nat) : Nat → (List TVal) → Int → Int → Option (Int × (List TVal))
  | 0, _, _, _ => none
  | k + 1, s1, s2, s3 =>
    (if decide (s3 < (s1.length : Int)) then ((idx s1 s3).bind fun x1 => ((m_l_markText N (IntKind.i64.wrap ((IntKind.i64.wrap (s2 + 1)) + 1))).bind fun x2 => ((m_l_markValS_l1 N k) (s1.set s3.toNat (⟨s2, IntKind.i64.wrap (s2 + 1), x2⟩ : TVal)) (IntKind.i64.wrap ((IntKind.i64.wrap ((IntKind.i64.wrap (s2 + 1)) + 1)) + 1)) (IntKind.i64.wrap (s3 + 1))))) else some (s2, s1))
def m_l_markValS (N : Nat) (p0 : (List TVal)) (p1 : Int) : Option (Int × (List TVal)) :=
  m_l_markValS_l1 N N p0 p1 0
/-! laws.markIntS -/
def m_l_markIntS_l1 (N : Nat) : Nat → (List Int) → Int → Int → Option (Int × (List Int))
  | 0, _, _, _ => none
  | k + 1, s1, s2, s3 =>
    (if decide (s3 < (s1.length : Int)) then ((idx s1 s3).bind fun x1 => ((m_l_markIntS_l1 N k) (s1.set s3.toNat s2) (IntKind.i64.wrap (s2 + 1)) (IntKind.i64.wrap (s3 + 1)))) else some (s2, s1))
def m_l_markIntS (N : Nat) (p0 : (List Int)) (p1 : Int) : Option (Int × (List Int)) :=
  m_l_markIntS_l1 N N p0 p1 0
/-! laws.markAlpha -/
def m_l_markAlpha (N : Nat) (p0 : TAlpha) (p1 : Int) : Option (Int × (List TVal) × (List Int)) :=
  ((m_l_markValS N p0.Consts p1).bind fun x1 => ((m_l_markIntS N p0.At x1.1).bind fun x2 => some (x2.1, x1.2, x2.2)))
/-! laws.heldValS -/
def m_l_heldValS_l1 (N : Nat) (p0 : (List TVal)) : Nat → Int → Int → Option (Int)
  | 0, _, _ => none
  | k + 1, s1, s2 =>
    (if decide (s2 < (p0.length : Int)) then ((idx p0 s2).bind fun x1 => (if !decide (x1.K = s1) then some (-1) else ((idx p0 s2).bind fun x2 => (if !decide (x2.N = IntKind.i64.wrap (s1 + 1)) then some (-1) else ((idx p0 s2).bind fun x3 => ((m_l_markText N (IntKind.i64.wrap ((IntKind.i64.wrap (s1 + 1)) + 1))).bind fun x4 => (if !seq x3.S x4 then some (-1) else ((m_l_heldValS_l1 N p0 k) (IntKind.i64.wrap ((IntKind.i64.wrap ((IntKind.i64.wrap (s1 + 1)) + 1)) + 1)) (IntKind.i64.wrap (s2 + 1)))))))))) else some s1)
def m_l_heldValS (N : Nat) (p0 : (List TVal)) (p1 : Int) : Option (Int) :=
  m_l_heldValS_l1 N p0 N p1 0
/-! laws.heldIntS -/
def m_l_heldIntS_l1 (N : Nat) (p0 : (List Int)) : Nat → Int → Int → Option (Int)
  | 0, _, _ => none
  | k + 1, s1, s2 =>
    (if decide (s2 < (p0.length : Int)) then ((idx p0 s2).bind fun x1 => (if !decide (x1 = s1) then some (-1) else ((m_l_heldIntS_l1 N p0 k) (IntKind.i64.wrap (s1 + 1)) (IntKind.i64.wrap (s2 + 1))))) else some s1)
def m_l_heldIntS (N : Nat) (p0 : (List Int)) (p1 : Int) : Option (Int) :=
  m_l_heldIntS_l1 N p0 N p1 0
/-! laws.heldAlpha -/
def m_l_heldAlpha (N : Nat) (p0 : TAlpha) (p1 : Int) : Option (Int) :=
  ((m_l_heldValS N p0.Consts p1).bind fun x1 => (if decide (x1 < 0) then some (-1) else ((m_l_heldIntS N p0.At x1).bind fun x2 => (if decide (x2 < 0) then some (-1) else some x2))))
/-! laws.FnExactAlphaOf -/
def m_l_FnExactAlphaOf (N : Nat) (p0 : TPat) : Option (Bool) :=
  ((m_l_szPat N p0 1048576).bind fun x1 => (if decide (x1 < 0) then some true else ((m_l_toPat N p0).bind fun x2 => ((m_s_AlphaOf N x2).bind fun x3 => ((m_l_toPat N p0).bind fun x4 => ((m_i_AlphaOf N x4).bind fun x5 => ((m_l_eqAlpha N x5 x3).bind fun x6 => (if !x6 then some false else ((m_l_toPat N p0).bind fun x7 => ((m_l_eqPat N x4 x7).bind fun x8 => (if !x8 then some false else ((m_l_markPat N x4 1).bind fun x9 => ((if decide (x9.1 < 0) then some true else ((m_l_eqAlpha N x5 x3).bind fun x10 => some (!x10))).bind fun b1 => (if b1 then some false else ((m_l_markAlpha N x5 1).bind fun x11 => ((m_l_heldAlpha N (⟨x5.Kind, x5.N, x11.2.1, x11.2.2⟩ : TAlpha) 1).bind fun x12 => (if decide (x12 < 0) then some false else (if !decide (x12 = x11.1) then some false else ((m_l_toPat N p0).bind fun x13 => ((m_i_AlphaOf N x13).bind fun x14 => ((m_l_eqAlpha N x14 x3).bind fun x15 => (if !x15 then some false else ((m_l_heldAlpha N (⟨x5.Kind, x5.N, x11.2.1, x11.2.2⟩ : TAlpha) 1).bind fun x16 => (if decide (x16 < 0) then some false else (if !decide (x16 = x11.1) then some false else some true)))))))))))))))))))))))))
end Go.Proofs.Ytpajhchhkfnieaa
