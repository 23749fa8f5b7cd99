/- Plain laws, one after the other: PLParseDef. -/
import Derived.Test.YteipbimepilcfaaGreatDoorTExactParseDef
import Derived.Test.YteipbimepilcfaaGreatDoorPLib
import Derived.Test.YteipbimepilcfaaGreatDoorWExactParseDefPur
import Derived.Test.YteipbimepilcfaaGreatDoorWExactParseDefMod
namespace Go.Proofs.YteipbimepilcfaaGreatDoor
open Eng
set_option linter.unusedVariables false
set_option linter.unusedSimpArgs false
set_option maxRecDepth 100000
theorem inD (N : Nat) (y : UInt8) : m_s_l1In N (IntKind.i64.wrap (y.toNat : Int)) 48 57 = some (digitB y) := by rw [wrU, in0]; rfl
theorem inS (N : Nat) (y : UInt8) : m_s_l1In N (IntKind.i64.wrap (y.toNat : Int)) 97 122 = some (small y) := by rw [wrU, in0]; rfl
theorem run_s {N : Nat} (hN : 1099000000000 ≤ N) (s : ByteArray) (hs : s.size ≤ 1048576) (z : Bool) (n : Nat) (hn : n ≤ s.size) :
  m_s_l5Run N s n z = some ((n + (((Dt s).drop n).takeWhile fun y => letter y || (z && large y)).length : Nat) : Int) := by
 have hsz : s.size = (Dt s).length := rfl
 refine scanB (Dt s) (by omega) (fun k i => m_s_l5Run_l1 N s z k i) _ some (fun k i y hi hx hc hw => ?_) (fun k i hc => ?_) N n (by omega) (by omega)
 ·rw [← hsz] at hc
  simp only [m_s_l5Run_l1, hc, if_true, hx, Option.bind_some, letter_s, large_s, hw]
  cases letter y <;> cases z <;> cases large y <;> rfl
 ·rw [← hsz] at hc
  simp only [m_s_l5Run_l1, hc, Bool.false_eq_true, if_false, Option.bind_some]
theorem digits_s {N : Nat} (hN : 1099000000000 ≤ N) (s : ByteArray) (hs : s.size ≤ 1048576) (n : Nat) (hn : n ≤ s.size) :
  m_s_l5Digits N s n = some ((n + (((Dt s).drop n).takeWhile digitB).length : Nat) : Int) := by
 have hsz : s.size = (Dt s).length := rfl
 refine scanB (Dt s) (by omega) (fun k i => m_s_l5Digits_l1 N s k i) _ some (fun k i y hi hx hc hw => ?_) (fun k i hc => ?_) N n (by omega) (by omega)
 ·rw [← hsz] at hc
  simp only [m_s_l5Digits_l1, hc, if_true, hx, Option.bind_some, inD, hw]
 ·rw [← hsz] at hc
  simp only [m_s_l5Digits_l1, hc, Bool.false_eq_true, if_false, Option.bind_some]
theorem q_nat {b : UInt8} : (!decide ((b.toNat : Int) = 39)) = (b != 39) := all8 (p := fun b => (!decide ((b.toNat : Int) = 39)) = (b != 39)) (by decide) b
theorem quote_s {N : Nat} (hN : 1099000000000 ≤ N) (s : ByteArray) (hs : s.size ≤ 1048576) (n : Nat) (hn : n ≤ s.size) :
  m_s_l5Quote N s n = some ((n + (((Dt s).drop n).takeWhile fun y => y != 39).length : Nat) : Int) := by
 have hsz : s.size = (Dt s).length := rfl
 refine scanB (Dt s) (by omega) (fun k i => m_s_l5Quote_l1 N s k i) _ some (fun k i y hi hx hc hw => ?_) (fun k i hc => ?_) N n (by omega) (by omega)
 ·rw [← hsz] at hc
  simp only [m_s_l5Quote_l1, hc, if_true, hx, Option.bind_some, q_nat, hw]
 ·rw [← hsz] at hc
  simp only [m_s_l5Quote_l1, hc, Bool.false_eq_true, if_false, Option.bind_some]
theorem mks_0 {N k : Nat} {s : ByteArray} : m_s_l5MarkOk_l1 N s (k + 1) 0 = if seq s ⟨#[40]⟩ = true then some true else m_s_l5MarkOk_l1 N s k 1 := rfl
theorem mks_1 {N k : Nat} {s : ByteArray} : m_s_l5MarkOk_l1 N s (k + 1) 1 = if seq s ⟨#[41]⟩ = true then some true else m_s_l5MarkOk_l1 N s k 2 := rfl
theorem mks_2 {N k : Nat} {s : ByteArray} : m_s_l5MarkOk_l1 N s (k + 1) 2 = if seq s ⟨#[44]⟩ = true then some true else m_s_l5MarkOk_l1 N s k 3 := rfl
theorem mks_3 {N k : Nat} {s : ByteArray} : m_s_l5MarkOk_l1 N s (k + 1) 3 = if seq s ⟨#[46]⟩ = true then some true else m_s_l5MarkOk_l1 N s k 4 := rfl
theorem mks_4 {N k : Nat} {s : ByteArray} : m_s_l5MarkOk_l1 N s (k + 1) 4 = if seq s ⟨#[58]⟩ = true then some true else m_s_l5MarkOk_l1 N s k 5 := rfl
theorem mks_5 {N k : Nat} {s : ByteArray} : m_s_l5MarkOk_l1 N s (k + 1) 5 = if seq s ⟨#[45]⟩ = true then some true else m_s_l5MarkOk_l1 N s k 6 := rfl
theorem mks_6 {N k : Nat} {s : ByteArray} : m_s_l5MarkOk_l1 N s (k + 1) 6 = if seq s ⟨#[43]⟩ = true then some true else m_s_l5MarkOk_l1 N s k 7 := rfl
theorem mks_7 {N k : Nat} {s : ByteArray} : m_s_l5MarkOk_l1 N s (k + 1) 7 = if seq s ⟨#[61]⟩ = true then some true else m_s_l5MarkOk_l1 N s k 8 := rfl
theorem mks_8 {N k : Nat} {s : ByteArray} : m_s_l5MarkOk_l1 N s (k + 1) 8 = if seq s ⟨#[35]⟩ = true then some true else m_s_l5MarkOk_l1 N s k 9 := rfl
theorem mks_9 {N k : Nat} {s : ByteArray} : m_s_l5MarkOk_l1 N s (k + 1) 9 = if seq s ⟨#[60]⟩ = true then some true else m_s_l5MarkOk_l1 N s k 10 := rfl
theorem mks_10 {N k : Nat} {s : ByteArray} : m_s_l5MarkOk_l1 N s (k + 1) 10 = if seq s ⟨#[33]⟩ = true then some true else m_s_l5MarkOk_l1 N s k 11 := rfl
theorem mks_11 {N k : Nat} {s : ByteArray} : m_s_l5MarkOk_l1 N s (k + 1) 11 = if seq s ⟨#[95]⟩ = true then some true else m_s_l5MarkOk_l1 N s k 12 := rfl
theorem mks_12 {N k : Nat} {s : ByteArray} : m_s_l5MarkOk_l1 N s (k + 1) 12 = some false := rfl
theorem mark_s {N : Nat} (hN : 1099000000000 ≤ N) (s : ByteArray) : m_s_l5MarkOk N s = some (markB s) := by
 have key : ∀ M, m_s_l5MarkOk_l1 N s (M + 13) 0 = some ((s = ⟨#[40]⟩ : Bool) || (s = ⟨#[41]⟩ : Bool) || (s = ⟨#[44]⟩ : Bool) || (s = ⟨#[46]⟩ : Bool) || (s = ⟨#[58]⟩ : Bool) || (s = ⟨#[45]⟩ : Bool) || (s = ⟨#[43]⟩ : Bool) || (s = ⟨#[61]⟩ : Bool) || (s = ⟨#[35]⟩ : Bool) || (s = ⟨#[60]⟩ : Bool) || (s = ⟨#[33]⟩ : Bool) || (s = ⟨#[95]⟩ : Bool)) := by
  intro M
  rw [mks_0, mks_1, mks_2, mks_3, mks_4, mks_5, mks_6, mks_7, mks_8, mks_9, mks_10, mks_11, mks_12]
  simp only [seq_eq]
  generalize decide (s = ⟨#[40]⟩) = b0
  generalize decide (s = ⟨#[41]⟩) = b1
  generalize decide (s = ⟨#[44]⟩) = b2
  generalize decide (s = ⟨#[46]⟩) = b3
  generalize decide (s = ⟨#[58]⟩) = b4
  generalize decide (s = ⟨#[45]⟩) = b5
  generalize decide (s = ⟨#[43]⟩) = b6
  generalize decide (s = ⟨#[61]⟩) = b7
  generalize decide (s = ⟨#[35]⟩) = b8
  generalize decide (s = ⟨#[60]⟩) = b9
  generalize decide (s = ⟨#[33]⟩) = b10
  generalize decide (s = ⟨#[95]⟩) = b11
  cases b0
  case true => rfl
  cases b1
  case true => rfl
  cases b2
  case true => rfl
  cases b3
  case true => rfl
  cases b4
  case true => rfl
  cases b5
  case true => rfl
  cases b6
  case true => rfl
  cases b7
  case true => rfl
  cases b8
  case true => rfl
  cases b9
  case true => rfl
  cases b10
  case true => rfl
  cases b11 <;> rfl
 have h := key (N - 13)
 rw [show N - 13 + 13 = N by omega] at h
 unfold m_s_l5MarkOk markB
 rw [h, seq_eq]
 by_cases c : s = ⟨#[45, 62]⟩
 ·rw [if_pos (decide_eq_true c), decide_eq_true c]
  simp
 ·rw [if_neg (by simpa using c), decide_eq_false c, Bool.or_false]
theorem tokOk_s {N : Nat} (hN : 1099000000000 ≤ N) (t : TToken) (hs : t.S.size ≤ 1048576) : m_s_TokenOk N t = some (tokOk t) := by
 unfold m_s_TokenOk tokOk
 simp only [in0, okName_s hN _ hs, var_s hN _ hs, plain_s (show 1048578 ≤ N by omega) _ hs, mark_s hN, Option.bind_some, decide_eq_true_eq]
 split
 ·cases (decide (0 ≤ t.N) && decide (t.N ≤ 1000000000)) <;> simp
 split
 ·cases okName t.S <;> simp
 split
 ·cases varOk t.S <;> simp
 split
 ·cases (wordAll t.S && decide ((t.S.size : Int) ≤ 20)) <;> simp
 split
 ·cases markB t.S <;> simp
 ·rfl
theorem digitVal_eq' {d : UInt8} {e : Nat} (h : Go.Lib.digitVal d = some e) : d = UInt8.ofNat (48 + e) ∧ e < 10 := by
 obtain ⟨h1, h2, rfl⟩ := Go.Lib.digitVal_eq h
 refine ⟨?_, by omega⟩
 rw [show 48 + (d.toNat - 48) = d.toNat by omega, UInt8.ofNat_toNat]
theorem decFrom_snoc : ∀ (l : Bs) (a : Nat) (d : UInt8) (m : Nat), Go.Lib.decFrom a (l ++ [d]) = some m → ∃ n e, Go.Lib.decFrom a l = some n ∧ Go.Lib.digitVal d = some e ∧ m = n * 10 + e
 | [], a, d, m, h => by
  simp only [List.nil_append, Go.Lib.decFrom] at h
  cases hd : Go.Lib.digitVal d with
  | none => rw [hd] at h; cases h
  | some e => rw [hd] at h; simp only [Option.some.injEq] at h; exact ⟨a, e, rfl, rfl, h.symm⟩
 | b :: l, a, d, m, h => by
  simp only [List.cons_append, Go.Lib.decFrom] at h ⊢
  cases hb : Go.Lib.digitVal b with
  | none => rw [hb] at h; cases h
  | some e => rw [hb] at h; exact decFrom_snoc l _ d m h
theorem decFrom_ge : ∀ (l : Bs) (a m : Nat), Go.Lib.decFrom a l = some m → a ≤ m
 | [], a, m, h => by simp only [Go.Lib.decFrom, Option.some.injEq] at h; omega
 | b :: l, a, m, h => by
  simp only [Go.Lib.decFrom] at h
  cases hb : Go.Lib.digitVal b with
  | none => rw [hb] at h; cases h
  | some e => rw [hb] at h; have := decFrom_ge l _ m h; omega
theorem canon : ∀ (k : Nat) (l : Bs) (m : Nat), l.length = k + 1 → (k = 0 ∨ l.head? ≠ some 48) → Go.Lib.decFrom 0 l = some m → Go.Lib.decDigits m = l := by
 intro k
 induction k with
 | zero =>
  intro l m hl _ h
  match l, hl with
  | [d], _ =>
   simp only [Go.Lib.decFrom] at h
   cases hd : Go.Lib.digitVal d with
   | none => rw [hd] at h; cases h
   | some e =>
    rw [hd] at h
    simp only [Option.some.injEq] at h
    obtain ⟨h1, h2⟩ := digitVal_eq' hd
    rw [← h, Nat.zero_mul, Nat.zero_add, Go.Lib.decDigits, dif_pos h2, h1]
 | succ k ih =>
  intro l m hl hc h
  have hne : l ≠ [] := by rintro rfl; simp at hl
  obtain ⟨l', d, rfl⟩ : ∃ l' d, l = l' ++ [d] := by
   rcases List.eq_nil_or_concat l with e | ⟨l', d, e⟩
   ·exact absurd e hne
   ·exact ⟨l', d, by rw [e, List.concat_eq_append]⟩
  simp at hl
  obtain ⟨n, e, h1, h2, rfl⟩ := decFrom_snoc _ _ _ _ h
  obtain ⟨hd, he⟩ := digitVal_eq' h2
  have hh : l'.head? ≠ some 48 := by
   rcases hc with hc | hc
   ·omega
   ·cases l' with
    | nil => simp at hl
    | cons b l' => simpa using hc
  have hi := ih l' n (by omega) (.inr hh) h1
  have hn : 1 ≤ n := by
   cases l' with
   | nil => simp at hl
   | cons b l' =>
    simp only [Go.Lib.decFrom] at h1
    cases hb : Go.Lib.digitVal b with
    | none => rw [hb] at h1; cases h1
    | some x =>
     rw [hb] at h1
     have := decFrom_ge _ _ _ h1
     obtain ⟨g1, g2⟩ := digitVal_eq' hb
     have : x ≠ 0 := by rintro rfl; apply hh; rw [g1]; rfl
     omega
  rw [Go.Lib.decDigits, dif_neg (by omega), show (n * 10 + e) / 10 = n by omega, show (n * 10 + e) % 10 = e by omega, hi, hd]
theorem dec_head : ∀ (m : Nat), (Go.Lib.decDigits m).head? = some 48 → m = 0 := by
 intro m
 induction m using Nat.strongRecOn with
 | _ m ih =>
  intro h
  rw [Go.Lib.decDigits] at h
  split at h
  ·rename_i hm
   simp only [List.head?_cons, Option.some.injEq] at h
   have : ∀ i : Fin 10, UInt8.ofNat (48 + i.val) = 48 → i.val = 0 := by decide
   exact this ⟨m, hm⟩ h
  ·have h2 := decD_ne (m / 10)
   cases hc : Go.Lib.decDigits (m / 10) with
   | nil => exact absurd hc h2
   | cons b l =>
    rw [hc] at h
    simp only [List.cons_append, List.head?_cons] at h
    have := ih (m / 10) (by omega) (by rw [hc]; exact h)
    omega
theorem whole_l {N : Nat} (l : Bs) (hl : l.length ≤ 10) : ∀ (t : Bs) (i k a : Nat), l.drop i = t → (∀ b ∈ t, digitB b = true) → t.length < k → a < 10 ^ i →
  m_s_l2Whole_l1 N (bA l) k (a : Int) (i : Int) = (Go.Lib.decFrom a t).map fun (m : Nat) => (m : Int)
 | [], i, k + 1, a, hd, _, _, _ => by
  have : l.length ≤ i := by have := congrArg List.length hd; rw [List.length_drop] at this; simp at this; omega
  have c : decide ((i : Int) < ((bA l).size : Int)) = false := decide_eq_false (by show ¬ (i : Int) < ((l.length : Nat) : Int); omega)
  simp only [m_s_l2Whole_l1, c, Bool.false_eq_true, if_false]
  rfl
 | b :: t, i, k + 1, a, hd, hb, hk, ha => by
  obtain ⟨h1, hx, hlen, hd1⟩ := at_drop hd
  have c : decide ((i : Int) < ((bA l).size : Int)) = true := decide_eq_true (by show (i : Int) < ((l.length : Nat) : Int); omega)
  have hbd := hb b (by simp)
  have hd' : ∃ d, Go.Lib.digitVal b = some d := by
   have : ∀ b : UInt8, digitB b = true → (Go.Lib.digitVal b).isSome = true := all8 (by decide)
   exact Option.isSome_iff_exists.1 (this b hbd)
  obtain ⟨d, hdv⟩ := hd'
  obtain ⟨g1, g2, rfl⟩ := Go.Lib.digitVal_eq hdv
  have hp : 10 ^ i ≤ 10 ^ 9 := Nat.pow_le_pow_right (by omega) (by omega)
  have e1 : IntKind.u8.wrap ((b.toNat : Int) - 48) = ((b.toNat - 48 : Nat) : Int) := by
   simp only [IntKind.wrap, IntKind.bits, IntKind.signed]
   have e1 : (2 : Int) ^ 8 = 256 := by decide
   simp only [e1, Bool.false_and, Bool.false_eq_true, if_false]
   omega
  have e2 : IntKind.i64.wrap (((IntKind.i64.wrap ((a : Int) * 10)) : Int) + IntKind.i64.wrap (IntKind.u8.wrap ((b.toNat : Int) - 48))) = ((a * 10 + (b.toNat - 48) : Nat) : Int) := by
   rw [e1, wr (n := (a : Int) * 10) (by omega) (by omega), wr (n := ((b.toNat - 48 : Nat) : Int)) (by omega) (by omega), wr (by omega) (by omega)]; omega
  have hw : IntKind.i64.wrap ((i : Int) + 1) = ((i + 1 : Nat) : Int) := wr1 i (by omega)
  have ih := whole_l (N := N) l hl t (i + 1) k (a * 10 + (b.toNat - 48)) hd1 (fun c hc => hb c (by simp [hc])) (by simp at hk; omega) (by rw [Nat.pow_succ]; omega)
  simp only [m_s_l2Whole_l1, c, if_true, bA_data, hx, Option.bind_some, inD, hbd, Bool.not_true, Bool.false_eq_true, if_false, e2, hw, ih, Go.Lib.decFrom, hdv]
theorem whole_s {N : Nat} (hN : 1099000000000 ≤ N) {l : Bs} (h : ∀ b ∈ l, digitB b = true) (h0 : l ≠ []) (hl : l.length ≤ 1048576) {m : Nat} (hm : Go.Lib.decFrom 0 l = some m) :
  m_s_l2Whole N (bA l) = some (match numOf l with | some v => v | none => -1) := by
 have ha := atoi_digits h h0
 rw [hm] at ha
 simp only [Option.map_some] at ha
 have hi : Go.Lib.itoa (m : Int) = Go.Lib.decDigits m := by unfold Go.Lib.itoa; rw [if_neg (by omega)]; rfl
 have hlen : 1 ≤ l.length := by cases l; exact absurd rfl h0; simp
 unfold m_s_l2Whole numOf
 rw [in0, Option.bind_some, ha, Option.bind_some, hi]
 by_cases h10 : l.length ≤ 10
 ·have c1 : (decide ((1 : Int) ≤ ((bA l).size : Int)) && decide (((bA l).size : Int) ≤ 10)) = true := by
   have : ((bA l).size : Int) = (l.length : Int) := rfl
   simp; omega
  rw [if_pos h10, c1]
  simp only [Bool.not_true, Bool.false_eq_true, if_false]
  have key : ((if decide ((1 : Int) < ((bA l).size : Int)) = true then ((idx (bA l).data.toList 0).bind fun y1 => some (decide ((y1.toNat : Int) = 48))) else some false).bind fun b2 => some b2) = some (decide (1 < l.length ∧ l.head? = some 48)) := by
   cases l with
   | nil => exact absurd rfl h0
   | cons b l =>
    have h1 : idx (bA (b :: l)).data.toList 0 = some b := rfl
    have h2 : decide ((1 : Int) < ((bA (b :: l)).size : Int)) = decide (1 < (b :: l).length) := by
     have : ((bA (b :: l)).size : Int) = ((b :: l).length : Int) := rfl
     rw [this]; apply decide_eq_decide.2; omega
    have h3 : decide ((b.toNat : Int) = 48) = decide (b = 48) := all8 (p := fun b => decide ((b.toNat : Int) = 48) = decide (b = 48)) (by decide) b
    rw [h1, h2, Option.bind_some, h3]
    by_cases c : 1 < (b :: l).length
    ·rw [decide_eq_true c, if_pos rfl, Option.bind_some]
     have e : (1 < (b :: l).length ∧ (b :: l).head? = some 48) ↔ b = 48 := ⟨fun e => by simpa using e.2, fun e => ⟨c, by rw [e]; rfl⟩⟩
     rw [decide_eq_decide.2 e]
    ·rw [decide_eq_false c]
     have e : ¬ (1 < (b :: l).length ∧ (b :: l).head? = some 48) := fun e => c e.1
     rw [decide_eq_false e]
     rfl
  rw [key, Option.bind_some]
  by_cases hc : 1 < l.length ∧ l.head? = some 48
  ·rw [if_pos (decide_eq_true hc), if_neg]
   intro e
   have := dec_head m (by rw [e]; exact hc.2)
   subst this
   have := congrArg List.length e
   rw [Go.Lib.decDigits, dif_pos (by omega)] at this
   simp at this; omega
  ·rw [if_neg (by simpa using hc), canon (l.length - 1) l m (by omega) (by
    by_cases h1 : l.length = 1
    ·exact .inl (by omega)
    ·exact .inr fun e => hc ⟨by omega, e⟩) hm, if_pos rfl]
   have := whole_l (N := N) l h10 l 0 N 0 rfl h (by omega) (by simp)
   rw [hm] at this
   exact this
 ·have c1 : (decide ((1 : Int) ≤ ((bA l).size : Int)) && decide (((bA l).size : Int) ≤ 10)) = false := by
   have : ((bA l).size : Int) = (l.length : Int) := rfl
   simp; omega
  rw [if_neg h10, c1]
  rfl
theorem pass_s {N : Nat} (hN : 1099000000000 ≤ N) (s : ByteArray) (hs : s.size ≤ 1048576) : ∀ (k n : Nat), n ≤ s.size → s.size - n < k →
  ∃ n', n ≤ n' ∧ n' ≤ s.size ∧ m_s_l5Pass_l1 N s k (n : Int) = some (n' : Int) ∧ lexL ((Dt s).drop n') = lexL ((Dt s).drop n) ∧ (∀ b l, (Dt s).drop n' = b :: l → blankB b = false ∧ b ≠ 37) := by
 have hsz : (Dt s).length = s.size := rfl
 intro k
 induction k with
 | zero => intro n _ h; omega
 | succ k ih =>
  intro n hn hk
  cases hd : (Dt s).drop n with
  | nil =>
   have : n = s.size := by have := congrArg List.length hd; rw [List.length_drop] at this; simp at this; omega
   have c : decide ((n : Int) < (s.size : Int)) = false := decide_eq_false (by omega)
   refine ⟨n, Nat.le_refl _, hn, ?_, by rw [hd], fun b l h => by rw [hd] at h; cases h⟩
   simp only [m_s_l5Pass_l1, c, Bool.false_eq_true, if_false]
  | cons b l =>
   obtain ⟨h1, hx, hlen, hd1⟩ := at_drop hd
   have c : decide ((n : Int) < (s.size : Int)) = true := decide_eq_true (by omega)
   have hw : IntKind.i64.wrap ((n : Int) + 1) = ((n + 1 : Nat) : Int) := wr1 n (by omega)
   have hbl := @blank_nat b
   have key : m_s_l5Pass_l1 N s (k + 1) (n : Int) = if blankB b = true then m_s_l5Pass_l1 N s k ((n + 1 : Nat) : Int) else if b = 37 then m_s_l5Pass_l2 N s (m_s_l5Pass_l1 N s k) N (n : Int) else some (n : Int) := by
    have r37 := @rem_nat b
    simp only [m_s_l5Pass_l1, c, if_true, hx, Option.bind_some, hw, r37, hbl, decide_eq_true_eq]
    by_cases c1 : (b.toNat : Int) = 32
    ·simp [c1]
    by_cases c2 : (b.toNat : Int) = 9
    ·simp [c2]
    by_cases c3 : (b.toNat : Int) = 10
    ·simp [c3]
    by_cases c4 : (b.toNat : Int) = 13
    ·simp [c4]
    ·have hq : ((b.toNat : Int) = 37) = (b = 37) := propext (decide_eq_decide.1 r37)
     simp [c1, c2, c3, c4, hq]
   rw [key]
   by_cases hb : blankB b = true
   ·rw [if_pos hb]
    obtain ⟨n', g1, g2, g3, g4, g5⟩ := ih (n + 1) (by omega) (by omega)
    refine ⟨n', by omega, g2, g3, ?_, g5⟩
    rw [g4, hd1, lexL_cons, if_pos hb]
   rw [if_neg hb]
   by_cases h37 : b = 37
   ·rw [if_pos h37]
    have hr := run_le (s := s) (n := n) (p := fun y => y != 10) hn
    have hpos : 0 < (((Dt s).drop n).takeWhile fun y => y != 10).length := by rw [hd, List.takeWhile_cons, if_pos (by subst h37; decide)]; simp
    have hsc := scanB (Dt s) (by omega) (fun k' i => m_s_l5Pass_l2 N s (m_s_l5Pass_l1 N s k) k' i) (fun y => y != 10) (fun i => m_s_l5Pass_l1 N s k i) (fun k' i y hi hx' hc hw' => by
     rw [hsz] at hc
     simp only [m_s_l5Pass_l2, hc, if_true, hx', Option.bind_some, nl_nat, hw']) (fun k' i hc => by
     rw [hsz] at hc
     simp only [m_s_l5Pass_l2, hc, Bool.false_eq_true, if_false, Option.bind_some]) N n (by omega) (by omega)
    rw [hsc]
    obtain ⟨n', g1, g2, g3, g4, g5⟩ := ih _ hr (by omega)
    refine ⟨n', by omega, g2, g3, ?_, g5⟩
    rw [g4, run_drop, hd, lexL_cons (l := l), if_neg hb, if_pos h37]
   ·rw [if_neg h37]
    refine ⟨n, Nat.le_refl _, hn, rfl, by rw [hd], fun b' l' h => ?_⟩
    rw [hd] at h
    injection h with h _
    subst h
    exact ⟨by simpa using hb, h37⟩
theorem mk2 {b c : UInt8} : markB (bA [b, c]) = decide (b = 45 ∧ c = 62) := by
 have e : ∀ l : Bs, decide (bA [b, c] = bA l) = decide ([b, c] = l) := fun l => decide_eq_decide.2 ⟨fun h => congrArg (fun s : ByteArray => s.data.toList) h, fun h => by rw [h]⟩
 unfold markB
 have z : ∀ x : UInt8, decide (bA [b, c] = bA [x]) = false := fun x => by rw [e]; simp
 have := z 40; have := z 41; have := z 44; have := z 46; have := z 58; have := z 45; have := z 43; have := z 61; have := z 35; have := z 60; have := z 33; have := z 95
 have h2 := e [45, 62]
 simp only [bA] at *
 simp [*]
theorem one_s {N : Nat} (hN : 1099000000000 ≤ N) (s : ByteArray) (hs : s.size ≤ 1048576) (n : Nat) (b : UInt8) (l : Bs) (hd : (Dt s).drop n = b :: l) :
  ∃ t e, m_s_l5One N s n = some (t, e) ∧ t.S.size ≤ 1048576 ∧ OneAt s n t e (tokOk t) := by
 obtain ⟨hn, hx, hlen, hd1⟩ := at_drop hd
 have hsz : (Dt s).length = s.size := rfl
 have hn' : n ≤ s.size := by omega
 have rle : ∀ p : UInt8 → Bool, (bA (((Dt s).drop n).takeWhile p)).size ≤ 1048576 := fun p => by
  show (((Dt s).drop n).takeWhile p).length ≤ _
  have h1 := takeW_le (p := p) ((Dt s).drop n)
  rw [List.length_drop] at h1; omega
 unfold m_s_l5One
 rw [hx, Option.bind_some, inD, Option.bind_some]
 by_cases c1 : digitB b = true
 ·rw [if_pos c1, digits_s hN s hs n hn', Option.bind_some, sst_run hn', Option.bind_some]
  have hall : ∀ x ∈ ((Dt s).drop n).takeWhile digitB, digitB x = true := by
   have : ∀ (l : Bs), ∀ x ∈ l.takeWhile digitB, digitB x = true := by
    intro l
    induction l with
    | nil => intro x h; simp at h
    | cons c l ih =>
     intro x h
     rw [List.takeWhile_cons] at h
     split at h
     ·rename_i hc
      rcases List.mem_cons.1 h with rfl | h
      ·exact hc
      ·exact ih x h
     ·cases h
   exact this _
  have hne : ((Dt s).drop n).takeWhile digitB ≠ [] := by rw [hd, List.takeWhile_cons, if_pos c1]; simp
  have hv : ∃ m, Go.Lib.decFrom 0 (((Dt s).drop n).takeWhile digitB) = some m := by
   have key : ∀ (l : Bs) (a : Nat), (∀ b ∈ l, digitB b = true) → ∃ m, Go.Lib.decFrom a l = some m := by
    intro l
    induction l with
    | nil => intro a _; exact ⟨a, rfl⟩
    | cons b l ih =>
     intro a h
     have hd : ∃ d, Go.Lib.digitVal b = some d := by
      have : ∀ b : UInt8, digitB b = true → (Go.Lib.digitVal b).isSome = true := all8 (by decide)
      exact Option.isSome_iff_exists.1 (this b (h b (by simp)))
     obtain ⟨d, hd⟩ := hd
     simp only [Go.Lib.decFrom, hd]
     exact ih _ fun c hc => h c (by simp [hc])
   exact key _ 0 hall
  obtain ⟨m, hm⟩ := hv
  rw [whole_s hN hall hne (rle _) hm, Option.bind_some]
  refine ⟨_, _, rfl, by show 0 ≤ 1048576; omega, ?_⟩
  cases hv : numOf (((Dt s).drop n).takeWhile digitB) with
  | none =>
   unfold OneAt
   rw [hd] at hv ⊢
   simp only [oneL, c1, if_true, hv, Option.bind_none]
   rfl
  | some w =>
   have h1 : oneL (b :: l) = ifOk (inT w) ((b :: l).dropWhile digitB) := by
    rw [hd] at hv
    simp only [oneL, c1, if_true, hv, Option.bind_some]
   exact OneAt.run hd c1 h1
 rw [if_neg c1, inS, Option.bind_some]
 by_cases c2 : small b = true
 ·have e : (fun y : UInt8 => letter y || (false && large y)) = letter := by funext y; simp
  rw [if_pos c2, run_s hN s hs false n hn', Option.bind_some, e, sst_run hn', Option.bind_some]
  refine ⟨_, _, rfl, rle _, ?_⟩
  refine OneAt.run hd (small_letter c2) ?_
  simp only [oneL, c1, c2, Bool.false_eq_true, if_false, if_true, hd]
  rfl
 rw [if_neg c2, large_s, Option.bind_some]
 by_cases c3 : large b = true
 ·have e : (fun y : UInt8 => letter y || (true && large y)) = wide := by funext y; simp [wide]
  rw [if_pos c3, run_s hN s hs true n hn', Option.bind_some, e, sst_run hn', Option.bind_some]
  refine ⟨_, _, rfl, rle _, ?_⟩
  refine OneAt.run hd (by unfold wide; simp [c3]) ?_
  simp only [oneL, c1, c2, c3, Bool.false_eq_true, if_false, if_true, hd]
 rw [if_neg c3]
 have hw : IntKind.i64.wrap ((n : Int) + 1) = ((n + 1 : Nat) : Int) := wr1 n (by omega)
 have w2 : IntKind.i64.wrap ((n : Int) + 2) = ((n + 2 : Nat) : Int) := by rw [wr (by omega) (by omega)]; omega
 by_cases c4 : b = 39
 ·subst c4
  have e4 : decide (((39 : UInt8).toNat : Int) = 39) = true := by decide
  have hle := takeW_le (p := fun y => y != 39) l
  have hdr := drop_takeW (p := fun y => y != 39) l
  rw [if_pos e4, hw, quote_s hN s hs (n + 1) (by omega), Option.bind_some, hd1]
  by_cases hend : n + 1 + (l.takeWhile fun y => y != 39).length = s.size
  ·have hnil : l.dropWhile (fun y => y != 39) = [] := by
    have := congrArg List.length hdr
    rw [List.length_drop] at this
    exact List.length_eq_zero_iff.1 (by omega)
   rw [if_pos (decide_eq_true (by omega))]
   refine ⟨_, _, rfl, by show 0 ≤ 1048576; omega, ?_⟩
   unfold OneAt
   rw [hd]
   simp only [oneL, c1, c2, c3, Bool.false_eq_true, if_false, if_true, hnil]
   rfl
  ·have hlt : (l.takeWhile fun y => y != 39).length < l.length := by omega
   have hz := sst_run (s := s) (n := n + 1) (p := fun y => y != 39) (by omega)
   rw [hd1] at hz
   have w3 : IntKind.i64.wrap (((n + 1 + (l.takeWhile fun y => y != 39).length : Nat) : Int) + 1) = ((n + 1 + (l.takeWhile fun y => y != 39).length + 1 : Nat) : Int) := wr1 _ (by omega)
   rw [if_neg (by simp only [decide_eq_true_eq]; omega), hz, Option.bind_some, w3]
   refine ⟨_, _, rfl, by show (l.takeWhile fun y => y != 39).length ≤ _; omega, ?_⟩
   cases hr : l.dropWhile (fun y => y != 39) with
   | nil =>
    have := congrArg List.length hdr
    rw [hr, List.length_drop] at this
    simp at this; omega
   | cons q r =>
    have h1 : oneL (39 :: l) = ifOk ⟨4, 0, bA (l.takeWhile fun y => y != 39)⟩ r := by
     simp only [oneL, c1, c2, c3, Bool.false_eq_true, if_false, if_true, hr]
    unfold OneAt
    rw [hd, h1]
    unfold ifOk
    by_cases ho : tokOk ⟨4, 0, bA (l.takeWhile fun y => y != 39)⟩ = true
    ·rw [if_pos ho]
     refine ⟨ho, rfl, _, rfl, by omega, by omega, ?_⟩
     have e6 : (Dt s).drop (n + 1 + (l.takeWhile fun y => y != 39).length) = q :: r := by
      rw [← List.drop_drop, hd1, hdr, hr]
     rw [← List.drop_drop, e6]
     rfl
    ·rw [if_neg ho]
     exact (Bool.not_eq_true _).mp ho
 have e4 : decide ((b.toNat : Int) = 39) = false := decide_eq_false fun e => c4 (UInt8.toNat_inj.1 (by show b.toNat = 39; omega))
 rw [if_neg (by rw [e4]; simp), hw, w2]
 have hone : ∀ (_ : ¬ (b = 45 ∧ l.head? = some 62)), ∃ t e, ((sst s (n : Int) ((n + 1 : Nat) : Int)).bind fun z7 => some ((⟨5, 0, z7⟩ : TToken), ((n + 1 : Nat) : Int))) = some (t, e) ∧ t.S.size ≤ 1048576 ∧ OneAt s n t e (tokOk t) := by
  intro c5
  have hz : sst s (n : Int) ((n + 1 : Nat) : Int) = some (bA [b]) := by
   rw [sst_of (by omega) (by omega), hd, Nat.add_sub_cancel_left]
   rfl
  rw [hz, Option.bind_some]
  refine ⟨_, _, rfl, by show 1 ≤ 1048576; omega, ?_⟩
  have h1 : oneL (b :: l) = ifOk (mkT (bA [b])) l := by
   simp only [oneL, c1, c2, c3, c4, c5, Bool.false_eq_true, if_false]
  unfold OneAt
  rw [hd, h1]
  unfold ifOk
  by_cases ho : tokOk (mkT (bA [b])) = true
  ·rw [if_pos ho]
   exact ⟨ho, rfl, _, rfl, by omega, by omega, hd1⟩
  ·rw [if_neg ho]
   exact (Bool.not_eq_true _).mp ho
 cases l with
 | nil =>
  have c : decide (((n + 1 : Nat) : Int) < (s.size : Int)) = false := decide_eq_false (by simp at hlen; omega)
  simp only [c, Bool.false_eq_true, if_false, Option.bind_some]
  exact hone (by rintro ⟨_, h⟩; cases h)
 | cons d l =>
  simp only [List.length_cons] at hlen
  have c : decide (((n + 1 : Nat) : Int) < (s.size : Int)) = true := decide_eq_true (by omega)
  have hz : sst s (n : Int) ((n + 2 : Nat) : Int) = some (bA [b, d]) := by
   rw [sst_of (by omega) (by omega), hd, Nat.add_sub_cancel_left]
   rfl
  simp only [c, if_true, hz, Option.bind_some, mark_s hN, mk2]
  by_cases c5 : b = 45 ∧ d = 62
  ·rw [if_pos (decide_eq_true c5)]
   obtain ⟨rfl, rfl⟩ := c5
   refine ⟨_, _, rfl, by show 2 ≤ 1048576; omega, ?_⟩
   unfold OneAt
   rw [hd]
   simp only [oneL, c1, c2, c3, c4, Bool.false_eq_true, if_false, List.head?_cons, and_self, if_true]
   rw [ifOk, if_pos (by decide)]
   refine ⟨by decide, rfl, _, rfl, by omega, by omega, ?_⟩
   rw [← List.drop_drop, hd]
   rfl
  ·rw [if_neg (by simpa using c5)]
   exact hone (by simpa using c5)
theorem lex_s1 {N : Nat} (hN : 1099000000000 ≤ N) (s : ByteArray) (hs : s.size ≤ 1048576) : ∀ (k n : Nat) (s1 : Toks), n ≤ s.size → s.size - n < k → s1.length ≤ 3000 → (∀ b l, (Dt s).drop n = b :: l → blankB b = false ∧ b ≠ 37) →
  ∃ p, 0 ≤ p ∧ m_s_Lex_l1 N s k s1 (n : Int) = some (resL s1 (lexL ((Dt s).drop n)) p) := by
 have hsz : (Dt s).length = s.size := rfl
 intro k
 induction k with
 | zero => intro n s1 _ h; omega
 | succ k ih =>
  intro n s1 hn hk hs1 hbl
  cases hd : (Dt s).drop n with
  | nil =>
   have : n = s.size := by have := congrArg List.length hd; rw [List.length_drop] at this; simp at this; omega
   have c : decide ((n : Int) < (s.size : Int)) = false := decide_eq_false (by omega)
   refine ⟨0, by omega, ?_⟩
   simp only [m_s_Lex_l1, c, Bool.false_eq_true, if_false]
   show some (s1, -1) = some (resL s1 (some []) 0)
   unfold resL
   simp only [List.length_nil, Nat.add_zero, hs1, if_true, List.append_nil]
  | cons b l =>
   obtain ⟨h1, hx, hlen, hd1⟩ := at_drop hd
   have c : decide ((n : Int) < (s.size : Int)) = true := decide_eq_true (by omega)
   obtain ⟨hb, c5⟩ := hbl b l hd
   obtain ⟨t, e, ht, hts, ho⟩ := one_s hN s hs n b l hd
   obtain ⟨r1, r2⟩ := resL_step hd hb c5 ho hs1
   rw [hd] at r1 r2
   simp only [m_s_Lex_l1, c, if_true, ht, Option.bind_some, tokOk_s hN t hts]
   cases hok : tokOk t with
   | false =>
    refine ⟨n, by omega, ?_⟩
    rw [r1 (.inl hok)]
    rfl
   | true =>
    by_cases h3 : s1.length = 3000
    ·refine ⟨n, by omega, ?_⟩
     rw [r1 (.inr h3)]
     have : decide ((s1.length : Int) = 3000) = true := decide_eq_true (by omega)
     simp only [Bool.not_true, Bool.false_eq_true, if_false, this, Option.bind_some, if_true]
    ·obtain ⟨n', rfl, g1, g2, g3⟩ := r2 hok h3
     have : decide ((s1.length : Int) = 3000) = false := decide_eq_false (by omega)
     obtain ⟨n2, q1, q2, q3, q4, q5⟩ := pass_s hN s hs N n' g2 (by omega)
     obtain ⟨p, hp, he⟩ := ih n2 (s1 ++ [t]) q2 (by omega) (by simp; omega) q5
     refine ⟨p, hp, ?_⟩
     rw [g3, ← q4]
     have hpass : m_s_l5Pass N s (n' : Int) = some (n2 : Int) := q3
     simp only [Bool.not_true, Bool.false_eq_true, if_false, this, Option.bind_some, app_ok (show s1.length + [t].length ≤ 4294967296 by simp; omega), hpass]
     exact he
theorem lex_s {N : Nat} (hN : 1099000000000 ≤ N) (s : ByteArray) (hs : s.size ≤ 1048576) : ∃ p, 0 ≤ p ∧ m_s_Lex N s = some (match lexR s with | some ts => (ts, -1) | none => ([], p)) := by
 obtain ⟨n2, q1, q2, q3, q4, q5⟩ := pass_s hN s hs N 0 (by omega) (by omega)
 obtain ⟨p, hp, h⟩ := lex_s1 hN s hs N n2 [] q2 (by omega) (by simp) q5
 refine ⟨p, hp, ?_⟩
 have hpass : m_s_l5Pass N s 0 = some (n2 : Int) := q3
 unfold m_s_Lex
 rw [hpass, Option.bind_some, h, q4, List.drop_zero]
 unfold lexR resL
 cases lexL (Dt s) with
 | none => rfl
 | some ts =>
  simp only [Option.bind_some, List.length_nil, Nat.zero_add, List.nil_append]
  by_cases hc : ts.length ≤ 3000
  ·rw [if_pos hc, if_pos hc]
  ·rw [if_neg hc, if_neg hc]
theorem cat_ok {x y : ByteArray} (h : x.size + y.size ≤ 9223372036854775807) : cat x y = some (x ++ y) := by unfold cat; rw [if_pos h]
def num (n : Int) : ByteArray := ⟨(Go.Lib.itoa n).toArray⟩
theorem itoa_i {N : Nat} {n : Int} (h0 : -9223372036854775808 ≤ n) (h1 : n ≤ 9223372036854775807) : m_strconv_Itoa N n = some (num n) := by unfold m_strconv_Itoa; rw [if_pos ⟨h0, h1⟩]; rfl
theorem digits_len : ∀ (k u : Nat), u < 10 ^ (k + 1) → (Go.Lib.decDigits u).length ≤ k + 1
 | 0, u, h => by rw [Go.Lib.decDigits, dif_pos (by simpa using h)]; simp
 | k + 1, u, h => by
  rw [Go.Lib.decDigits]
  split
  ·simp
  ·have := digits_len k (u / 10) (by rw [Nat.pow_succ] at h; omega)
   simp; omega
theorem num_len {n : Int} (h0 : -1000000000 ≤ n) (h1 : n ≤ 1000000000) : (num n).size ≤ 14 := by
 show (Go.Lib.itoa n).toArray.size ≤ 14
 unfold Go.Lib.itoa
 split
 ·have := digits_len 12 n.natAbs (by omega); simp; omega
 ·have := digits_len 12 n.toNat (by omega); simp; omega
def valText (v : TVal) : ByteArray := if v.K = 1 then num v.N else (⟨#[39]⟩ ++ v.S) ++ ⟨#[39]⟩
theorem valText_len {v : TVal} (h : okVal v = true) : (valText v).size ≤ 30 := by
 unfold okVal at h
 unfold valText
 split
 ·rename_i k; rw [if_pos k] at h; simp only [Bool.and_eq_true, decide_eq_true_eq] at h
  have := num_len h.1.1 h.1.2; omega
 ·rename_i k; rw [if_neg k] at h
  split at h
  ·simp only [Bool.and_eq_true, decide_eq_true_eq] at h
   have h2 := h.2.2
   simp only [ByteArray.size_append]
   show 1 + v.S.size + 1 ≤ 30
   omega
  ·cases h
theorem valN {v : TVal} (h : okVal v = true) (k : v.K = 1) : -1000000000 ≤ v.N ∧ v.N ≤ 1000000000 := by
 unfold okVal at h
 rw [if_pos k] at h; simp only [Bool.and_eq_true, decide_eq_true_eq] at h
 exact h.1
theorem quote_ok (s : ByteArray) (h : s.size ≤ 1048576) {β : Type} (f : ByteArray → Option β) : ((cat ⟨#[39]⟩ s).bind fun z1 => (cat z1 ⟨#[39]⟩).bind f) = f ((⟨#[39]⟩ ++ s) ++ ⟨#[39]⟩) := by
 rw [cat_ok (by show 1 + _ ≤ _; omega), Option.bind_some, cat_ok (by rw [ByteArray.size_append]; show 1 + _ + 1 ≤ _; omega), Option.bind_some]
theorem valT_i {N : Nat} (hN : 1099000000000 ≤ N) (v : TVal) (hs : v.S.size ≤ 1048576) (h : okVal v = true) : m_i_ValText N v = some (valText v) := by
 unfold m_i_ValText valText
 rw [val_i (by omega) v hs, h, Option.bind_some]
 by_cases k : v.K = 1
 ·obtain ⟨h0, h1⟩ := valN h k
  simp only [k, decide_true, Bool.not_true, Bool.false_eq_true, if_false, if_true, itoa_i (N := N) (show -9223372036854775808 ≤ v.N by omega) (show v.N ≤ 9223372036854775807 by omega), Option.bind_some]
 ·simp only [k, decide_false, Bool.not_true, Bool.false_eq_true, if_false]
  exact quote_ok v.S hs some
def argText (a : TArg) : ByteArray := if a.K = 1 then a.S else if a.K = 2 then valText a.V else ⟨#[95]⟩
theorem argVal {a : TArg} (h : okArg a = true) (k : a.K = 2) : okVal a.V = true := by
 unfold okArg at h
 rw [if_neg (by omega), if_pos k] at h
 simp only [Bool.and_eq_true] at h; exact h.1
theorem argT_i {N : Nat} (hN : 1099000000000 ≤ N) (a : TArg) (hs : SzArg a) (h : okArg a = true) : m_i_argText N a = some (argText a) := by
 unfold m_i_argText argText
 by_cases k1 : a.K = 1
 ·simp only [k1, decide_true, if_true]
 ·by_cases k2 : a.K = 2
  ·have := valT_i hN a.V hs.2 (argVal h k2)
   simp only [k2, this, decide_true, if_true, Option.bind_some, show ¬ (2 : Int) = 1 by omega, decide_false, Bool.false_eq_true, if_false]
  ·simp only [k1, k2, decide_false, Bool.false_eq_true, if_false]
theorem argText_len {a : TArg} (h : okArg a = true) : (argText a).size ≤ 30 := by
 unfold argText
 split
 ·rename_i k
  unfold okArg at h
  rw [if_pos k] at h
  simp only [Bool.and_eq_true] at h
  have h1 := h.1
  unfold varOk at h1
  split at h1
  ·cases h1
  ·simp only [Bool.and_eq_true, decide_eq_true_eq] at h1; omega
 ·split
  ·rename_i k; exact valText_len (argVal h k)
  ·show 1 ≤ 30; omega
def exprText (e : TExpr) : ByteArray := if okExpr e then (if seq e.Op ⟨#[]⟩ then argText e.L else (((argText e.L ++ ⟨#[32]⟩) ++ e.Op) ++ ⟨#[32]⟩) ++ argText e.R) else ⟨#[]⟩
theorem expr_args {e : TExpr} (h : okExpr e = true) : okArg e.L = true ∧ (seq e.Op ⟨#[]⟩ = false → okArg e.R = true ∧ e.Op.size ≤ 1) := by
 unfold okExpr at h
 cases c : seq e.Op ⟨#[]⟩ with
 | true =>
  rw [c] at h
  simp only [if_true, Bool.and_eq_true, given] at h
  exact ⟨h.1.1, fun h => by cases h⟩
 | false =>
  rw [c] at h
  simp only [Bool.false_eq_true, if_false, Bool.and_eq_true, Bool.or_eq_true, given] at h
  refine ⟨h.2.1.1, fun _ => ⟨h.2.2.1, ?_⟩⟩
  rcases h.1 with h1 | h1
  ·rw [seq_eq, decide_eq_true_eq] at h1; rw [h1]; decide
  ·rw [seq_eq, decide_eq_true_eq] at h1; rw [h1]; decide
theorem five_ok {a b c d e : ByteArray} (h : a.size + b.size + c.size + d.size + e.size ≤ 9223372036854775807) {β : Type} (f : ByteArray → Option β) :
  ((cat a b).bind fun z1 => (cat z1 c).bind fun z2 => (cat z2 d).bind fun z3 => (cat z3 e).bind f) = f ((((a ++ b) ++ c) ++ d) ++ e) := by
 rw [cat_ok (by omega), Option.bind_some, cat_ok (by rw [ByteArray.size_append]; omega), Option.bind_some, cat_ok (by rw [ByteArray.size_append, ByteArray.size_append]; omega), Option.bind_some, cat_ok (by rw [ByteArray.size_append, ByteArray.size_append, ByteArray.size_append]; omega), Option.bind_some]
theorem exprText_len (e : TExpr) : (exprText e).size ≤ 70 := by
 unfold exprText
 split
 ·rename_i h
  obtain ⟨h1, h2⟩ := expr_args h
  have := argText_len h1
  split
  ·omega
  ·rename_i c
   obtain ⟨h3, h4⟩ := h2 (by simpa using c)
   have := argText_len h3
   simp only [ByteArray.size_append]
   show _ + 1 + _ + 1 + _ ≤ _
   omega
 ·show 0 ≤ 70; omega
theorem exprT_i {N : Nat} (hN : 1099000000000 ≤ N) (e : TExpr) (hs : SzExpr e) : m_i_ExprText N e = some (exprText e) := by
 unfold m_i_ExprText exprText
 rw [expr_i hN e hs, Option.bind_some]
 cases h : okExpr e with
 | false => simp
 | true =>
  obtain ⟨h1, h2⟩ := expr_args h
  simp only [Bool.not_true, Bool.false_eq_true, if_false, if_true, argT_i hN e.L hs.2.1 h1, Option.bind_some]
  cases c : seq e.Op ⟨#[]⟩ with
  | true => simp
  | false =>
   obtain ⟨h3, h4⟩ := h2 c
   have l1 := argText_len h1
   have l2 := argText_len h3
   simp only [Bool.false_eq_true, if_false, argT_i hN e.R hs.2.2 h3, Option.bind_some]
   exact five_ok (show _ + 1 + _ + 1 + _ ≤ _ by omega) some
theorem cat_k {x y : ByteArray} (h : x.size + y.size ≤ 9223372036854775807) : cat x y = some (x ++ y) := by unfold cat; rw [if_pos h]
theorem ba_assoc (a b c : ByteArray) : (a ++ b) ++ c = a ++ (b ++ c) := ByteArray.append_assoc
theorem ba_nil (a : ByteArray) : a ++ ⟨#[]⟩ = a := by apply ByteArray.ext; simp [ByteArray.data_append]
def commas (l : List ByteArray) : ByteArray := ⟨(Go.Lib.join (l.map (·.data.toList)) [44, 32]).toArray⟩
def tails (l : List ByteArray) : ByteArray := ⟨(Go.Lib.joinTail [44, 32] (l.map (·.data.toList))).toArray⟩
theorem commas_nil : commas [] = ⟨#[]⟩ := rfl
theorem tails_nil : tails [] = ⟨#[]⟩ := rfl
theorem commas_cons (x : ByteArray) (t : List ByteArray) : commas (x :: t) = x ++ tails t := by
 unfold commas tails
 apply ByteArray.ext
 simp [ByteArray.data_append, Go.Lib.join_cons]
theorem tails_cons (x : ByteArray) (t : List ByteArray) : tails (x :: t) = (⟨#[44, 32]⟩ ++ x) ++ tails t := by
 unfold tails Go.Lib.joinTail
 apply ByteArray.ext
 simp [ByteArray.data_append]
theorem tails_len {C : Nat} : ∀ (l : List ByteArray), (∀ x ∈ l, x.size ≤ C) → (tails l).size ≤ l.length * (C + 2)
 | [], _ => by rw [tails_nil]; exact Nat.zero_le _
 | x :: t, h => by
  have h1 := tails_len t fun y hy => h y (by simp [hy])
  have h2 := h x (by simp)
  rw [tails_cons, List.length_cons, Nat.add_mul]
  simp only [ByteArray.size_append]
  show 2 + _ + _ ≤ _
  omega
theorem commas_len {C : Nat} : ∀ (l : List ByteArray), (∀ x ∈ l, x.size ≤ C) → (commas l).size ≤ l.length * (C + 2)
 | [], _ => by rw [commas_nil]; exact Nat.zero_le _
 | x :: t, h => by
  have h1 := tails_len t fun y hy => h y (by simp [hy])
  have h2 := h x (by simp)
  rw [commas_cons, List.length_cons, Nat.add_mul]
  simp only [ByteArray.size_append]
  omega
theorem join_i {N : Nat} {l : List ByteArray} {C : Nat} (hl : l.length ≤ 4096) (hC : ∀ x ∈ l, x.size ≤ C) (hc : C ≤ 1073741824) : m_strings_Join N l ⟨#[44, 32]⟩ = some (commas l) := by
 have h := commas_len l hC
 have h2 : l.length * (C + 2) ≤ 4096 * 1073741826 := Nat.mul_le_mul hl (by omega)
 have h3 : (commas l).size = (Go.Lib.join (l.map (·.data.toList)) [44, 32]).length := by show (Go.Lib.join _ _).toArray.size = _; simp
 unfold m_strings_Join
 rw [if_pos ⟨by omega, by show (Go.Lib.join (l.map (·.data.toList)) [44, 32]).length ≤ _; omega⟩]
 rfl
theorem partsLoop {α β : Type} {N : Nat} (hN : 1099000000000 ≤ N) (xs : List α) (hl : xs.length ≤ 4096) (T : α → ByteArray) (f : Nat → List ByteArray → Int → Option β) (fin : List ByteArray → Option β)
  (h1 : ∀ n (i : Nat) s x, idx xs (i : Int) = some x → x ∈ xs → decide ((i : Int) < (xs.length : Int)) = true → IntKind.i64.wrap ((i : Int) + 1) = ((i + 1 : Nat) : Int) → s.length ≤ 4096 → f (n + 1) s (i : Int) = f n (s ++ [T x]) ((i + 1 : Nat) : Int))
  (h2 : ∀ n (i : Nat) s, decide ((i : Int) < (xs.length : Int)) = false → f (n + 1) s (i : Int) = fin s) : f N [] 0 = fin (xs.map T) := by
 refine (lp' hN xs (by omega) f (fun t s => fin (s ++ t.map T)) (fun s t => s.length + t.length ≤ 4096) [] (by simpa using hl) (fun n s i x t g1 g2 g3 g4 g5 g6 gI ih => ?_) (fun n s i g1 g2 gI => ?_)).trans (by simp)
 ·simp only [List.length_cons] at gI
  rw [h1 n i s x g4 g2 g5 g6 (by omega), ih _ (by simp; omega)]; simp
 ·rw [h2 n i s g2]; simp
def callText (a : TAct) : ByteArray := ((a.Name ++ ⟨#[40]⟩) ++ commas (a.Args.map exprText)) ++ ⟨#[41]⟩
theorem snoc_le {C : Nat} {s : List ByteArray} {x : ByteArray} (h : ∀ y ∈ s, y.size ≤ C) (h' : x.size ≤ C) : ∀ y ∈ s ++ [x], y.size ≤ C := fun y hy => by
 rcases List.mem_append.1 hy with h1 | h1
 ·exact h y h1
 ·simp at h1; rw [h1]; exact h'
theorem call_i {N : Nat} (hN : 1099000000000 ≤ N) (a : TAct) (h : SzAct a) (hl : a.Args.length ≤ 5) : m_i_callText N a = some (callText a) := by
 unfold m_i_callText
 have hn := h.1
 refine (lp' hN a.Args (by omega) (m_i_callText_l1 N a) (fun t s => some (((a.Name ++ ⟨#[40]⟩) ++ commas (s ++ t.map exprText)) ++ ⟨#[41]⟩)) (fun s t => s.length + t.length ≤ 5 ∧ ∀ x ∈ s, x.size ≤ 70) [] ⟨by simpa using hl, by simp⟩ (fun n s i x t g1 g2 g3 g4 g5 g6 gI ih => ?_) (fun n s i g1 g2 gI => ?_)).trans (by simp [callText])
 ·obtain ⟨i1, i2⟩ := gI
  simp only [List.length_cons] at i1
  simp only [m_i_callText_l1, g5, if_true, g4, Option.bind_some, exprT_i hN x (h.2.2.2 x g2), app_ok (show s.length + [exprText x].length ≤ 4294967296 by simp; omega), g6]
  rw [ih _ ⟨by simp; omega, snoc_le i2 (exprText_len x)⟩]; simp
 ·obtain ⟨i1, i2⟩ := gI
  simp only [List.length_nil, Nat.add_zero] at i1
  have hc := commas_len s i2
  have h5 : s.length * (70 + 2) ≤ 5 * 72 := Nat.mul_le_mul i1 (by omega)
  simp only [m_i_callText_l1, g2, Bool.false_eq_true, if_false]
  rw [cat_k (by show _ + 1 ≤ _; omega), Option.bind_some, join_i (N := N) (by omega) i2 (by omega), Option.bind_some, cat_k (by rw [ByteArray.size_append]; show _ + 1 + _ ≤ _; omega), Option.bind_some, cat_k (by rw [ByteArray.size_append, ByteArray.size_append]; show _ + 1 + _ + 1 ≤ _; omega)]
  simp
theorem call_len {a : TAct} (hl : a.Args.length ≤ 5) (hn : a.Name.size ≤ 12) : (callText a).size ≤ 400 := by
 have hc := commas_len (C := 70) (a.Args.map exprText) (fun x hx => by obtain ⟨e, _, rfl⟩ := List.mem_map.1 hx; exact exprText_len e)
 have h5 : (a.Args.map exprText).length * (70 + 2) ≤ 5 * 72 := Nat.mul_le_mul (by simpa using hl) (by omega)
 unfold callText
 simp only [ByteArray.size_append]
 show _ + 1 + _ + 1 ≤ _
 omega
theorem okName_len {s : ByteArray} (h : okName s = true) : s.size ≤ 12 := by
 unfold okName at h
 simp only [Bool.and_eq_true, decide_eq_true_eq] at h
 omega
def actText (a : TAct) : ByteArray :=
 if okAct a = true then
  if a.Kind = 1 then ⟨#[97, 115, 115, 101, 114, 116, 32]⟩ ++ callText a
  else if a.Kind = 2 then ⟨#[100, 114, 111, 112, 32]⟩ ++ num a.N
  else if a.Kind = 3 then (if seq a.Undo ⟨#[]⟩ = true then ⟨#[116, 97, 115, 107, 32]⟩ ++ callText a else ((⟨#[116, 97, 115, 107, 32]⟩ ++ callText a) ++ ⟨#[32, 117, 110, 100, 111, 32]⟩) ++ a.Undo)
  else if a.Kind = 4 then ((⟨#[116, 105, 109, 101, 114, 32]⟩ ++ num a.N) ++ ⟨#[32]⟩) ++ callText a
  else if a.Kind = 5 then ⟨#[100, 111, 110, 101]⟩ else ⟨#[102, 97, 105, 108]⟩
 else ⟨#[]⟩
theorem act_has {a : TAct} (h : okAct a = true) : (a.Kind = 1 ∧ a.Args.length ≤ 5 ∧ a.Name.size ≤ 12) ∨ (a.Kind = 2 ∧ 0 ≤ a.N ∧ a.N ≤ 7) ∨ (a.Kind = 3 ∧ (a.Args.length ≤ 5 ∧ a.Name.size ≤ 12) ∧ a.Undo.size ≤ 12) ∨ (a.Kind = 4 ∧ (a.Args.length ≤ 5 ∧ a.Name.size ≤ 12) ∧ 0 ≤ a.N ∧ a.N ≤ 100000) ∨ a.Kind = 5 ∨ a.Kind = 6 := by
 unfold okAct at h
 by_cases k1 : a.Kind = 1
 ·simp only [k1, if_true, Bool.and_eq_true, decide_eq_true_eq] at h
  exact .inl ⟨k1, by omega, okName_len h.1.1.1⟩
 ·by_cases k2 : a.Kind = 2
  ·simp only [k2, if_true, Bool.and_eq_true, decide_eq_true_eq, show ¬ (2 : Int) = 1 by omega, if_false] at h
   exact .inr (.inl ⟨k2, h.1.2.1, h.1.2.2⟩)
  ·by_cases k3 : a.Kind = 3
   ·simp only [k3, if_true, Bool.and_eq_true, Bool.or_eq_true, decide_eq_true_eq, show ¬ (3 : Int) = 1 by omega, show ¬ (3 : Int) = 2 by omega, if_false] at h
    refine .inr (.inr (.inl ⟨k3, ⟨by omega, okName_len h.1.1.1⟩, ?_⟩))
    rcases h.2 with h1 | h1
    ·rw [seq_eq, decide_eq_true_eq] at h1; rw [h1]; decide
    ·exact okName_len h1
   ·by_cases k4 : a.Kind = 4
    ·simp only [k4, if_true, Bool.and_eq_true, decide_eq_true_eq, show ¬ (4 : Int) = 1 by omega, show ¬ (4 : Int) = 2 by omega, show ¬ (4 : Int) = 3 by omega, if_false] at h
     exact .inr (.inr (.inr (.inl ⟨k4, ⟨by omega, okName_len h.1.1.1⟩, h.1.2.1, h.1.2.2⟩)))
    ·by_cases k5 : a.Kind = 5
     ·exact .inr (.inr (.inr (.inr (.inl k5))))
     ·by_cases k6 : a.Kind = 6
      ·exact .inr (.inr (.inr (.inr (.inr k6))))
      ·simp [k1, k2, k3, k4, k5, k6] at h
theorem cat2 {a b : ByteArray} (h : a.size + b.size ≤ 1048576) {β : Type} (f : ByteArray → Option β) : ((cat a b).bind f) = f (a ++ b) := by
 rw [cat_k (by omega), Option.bind_some]
theorem cat4 {a b c d : ByteArray} (h : a.size + b.size + c.size + d.size ≤ 1048576) {β : Type} (f : ByteArray → Option β) : ((cat a b).bind fun z1 => (cat z1 c).bind fun z2 => (cat z2 d).bind f) = f (((a ++ b) ++ c) ++ d) := by
 rw [cat_k (by omega), Option.bind_some, cat_k (by rw [ByteArray.size_append]; omega), Option.bind_some, cat_k (by rw [ByteArray.size_append, ByteArray.size_append]; omega), Option.bind_some]
theorem actText_len (a : TAct) : (actText a).size ≤ 500 := by
 unfold actText
 split
 ·rename_i h
  rcases act_has h with ⟨k, h1, h2⟩ | ⟨k, h1, h2⟩ | ⟨k, ⟨h1, h2⟩, h3⟩ | ⟨k, ⟨h1, h2⟩, h3, h4⟩ | k | k
  ·have := call_len h1 h2
   simp only [k, if_true, ByteArray.size_append]; show 7 + _ ≤ _; omega
  ·have := num_len (n := a.N) (by omega) (by omega)
   simp only [k, if_true, show ¬ (2 : Int) = 1 by omega, if_false, ByteArray.size_append]; show 5 + _ ≤ _; omega
  ·have := call_len h1 h2
   simp only [k, if_true, show ¬ (3 : Int) = 1 by omega, show ¬ (3 : Int) = 2 by omega, if_false]
   split
   ·simp only [ByteArray.size_append]; show 5 + _ ≤ _; omega
   ·simp only [ByteArray.size_append]; show 5 + _ + 6 + _ ≤ _; omega
  ·have := call_len h1 h2
   have := num_len (n := a.N) (by omega) (by omega)
   simp only [k, if_true, show ¬ (4 : Int) = 1 by omega, show ¬ (4 : Int) = 2 by omega, show ¬ (4 : Int) = 3 by omega, if_false, ByteArray.size_append]; show 6 + _ + 1 + _ ≤ _; omega
  ·simp only [k, if_true, show ¬ (5 : Int) = 1 by omega, show ¬ (5 : Int) = 2 by omega, show ¬ (5 : Int) = 3 by omega, show ¬ (5 : Int) = 4 by omega, if_false]; show 4 ≤ _; omega
  ·simp only [k, show ¬ (6 : Int) = 1 by omega, show ¬ (6 : Int) = 2 by omega, show ¬ (6 : Int) = 3 by omega, show ¬ (6 : Int) = 4 by omega, show ¬ (6 : Int) = 5 by omega, if_false]; show 4 ≤ _; omega
 ·exact Nat.zero_le _
theorem actT_i {N : Nat} (hN : 1099000000000 ≤ N) (a : TAct) (hs : SzAct a) : m_i_ActText N a = some (actText a) := by
 unfold m_i_ActText actText
 rw [act_i hN a hs, Option.bind_some]
 cases h : okAct a with
 | false => simp
 | true =>
  simp only [Bool.not_true, Bool.false_eq_true, if_false, if_true]
  rcases act_has h with ⟨k, h1, h2⟩ | ⟨k, h1, h2⟩ | ⟨k, ⟨h1, h2⟩, h3⟩ | ⟨k, ⟨h1, h2⟩, h3, h4⟩ | k | k
  ·have := call_len h1 h2
   simp only [k, decide_true, if_true, call_i hN a hs h1, Option.bind_some]
   exact cat2 (show 7 + _ ≤ _ by omega) some
  ·have := num_len (n := a.N) (by omega) (by omega)
   simp only [k, decide_true, if_true, show ¬ (2 : Int) = 1 by omega, decide_false, Bool.false_eq_true, if_false, itoa_i (N := N) (n := a.N) (by omega) (by omega), Option.bind_some]
   exact cat2 (show 5 + _ ≤ _ by omega) some
  ·have := call_len h1 h2
   simp only [k, decide_true, if_true, show ¬ (3 : Int) = 1 by omega, show ¬ (3 : Int) = 2 by omega, decide_false, Bool.false_eq_true, if_false, call_i hN a hs h1, Option.bind_some]
   cases c : seq a.Undo ⟨#[]⟩ with
   | true =>
    simp only [Bool.not_true, Bool.false_eq_true, if_false, if_true]
    exact cat2 (show 5 + _ ≤ _ by omega) some
   | false =>
    simp only [Bool.not_false, Bool.false_eq_true, if_false, if_true]
    exact cat4 (show 5 + _ + 6 + _ ≤ _ by omega) some
  ·have := call_len h1 h2
   have := num_len (n := a.N) (by omega) (by omega)
   simp only [k, decide_true, if_true, show ¬ (4 : Int) = 1 by omega, show ¬ (4 : Int) = 2 by omega, show ¬ (4 : Int) = 3 by omega, decide_false, Bool.false_eq_true, if_false, itoa_i (N := N) (n := a.N) (by omega) (by omega), call_i hN a hs h1, Option.bind_some]
   exact cat4 (show 6 + _ + 1 + _ ≤ _ by omega) some
  ·simp only [k, decide_true, if_true, show ¬ (5 : Int) = 1 by omega, show ¬ (5 : Int) = 2 by omega, show ¬ (5 : Int) = 3 by omega, show ¬ (5 : Int) = 4 by omega, decide_false, Bool.false_eq_true, if_false]
  ·simp only [k, show ¬ (6 : Int) = 1 by omega, show ¬ (6 : Int) = 2 by omega, show ¬ (6 : Int) = 3 by omega, show ¬ (6 : Int) = 4 by omega, show ¬ (6 : Int) = 5 by omega, decide_false, Bool.false_eq_true, if_false]
def patBody (p : TPat) : ByteArray := ((p.Kind ++ ⟨#[40]⟩) ++ commas (p.Args.map argText)) ++ ⟨#[41]⟩
def patText (p : TPat) : ByteArray := if okPat p = true then (if p.Not = true then ⟨#[33]⟩ ++ patBody p else patBody p) else ⟨#[]⟩
theorem pat_has {p : TPat} (h : okPat p = true) : p.Kind.size ≤ 12 ∧ p.Args.length ≤ 5 ∧ ∀ a ∈ p.Args, okArg a = true := by
 unfold okPat at h
 simp only [Bool.and_eq_true, decide_eq_true_eq] at h
 exact ⟨okName_len h.1, by omega, fun a ha => List.all_eq_true.1 h.2.2 a ha⟩
theorem argTexts_le {l : List TArg} (h : ∀ a ∈ l, okArg a = true) : ∀ x ∈ l.map argText, x.size ≤ 30 := fun x hx => by
 obtain ⟨a, ha, rfl⟩ := List.mem_map.1 hx; exact argText_len (h a ha)
theorem patBody_len {p : TPat} (h : okPat p = true) : (patBody p).size ≤ 190 := by
 obtain ⟨h1, h2, h3⟩ := pat_has h
 have hc := commas_len (C := 30) (p.Args.map argText) (argTexts_le h3)
 have h5 : (p.Args.map argText).length * (30 + 2) ≤ 5 * 32 := Nat.mul_le_mul (by simpa using h2) (by omega)
 unfold patBody
 simp only [ByteArray.size_append]
 show _ + 1 + _ + 1 ≤ _
 omega
theorem patText_len (p : TPat) : (patText p).size ≤ 191 := by
 unfold patText
 split
 ·rename_i h
  have := patBody_len h
  split
  ·simp only [ByteArray.size_append]; show 1 + _ ≤ _; omega
  ·omega
 ·exact Nat.zero_le _
theorem patT_i {N : Nat} (hN : 1099000000000 ≤ N) (p : TPat) (hs : SzPat p) : m_i_PatText N p = some (patText p) := by
 unfold m_i_PatText patText
 rw [pat_i hN p hs, Option.bind_some]
 cases h : okPat p with
 | false => simp
 | true =>
  obtain ⟨h1, h2, h3⟩ := pat_has h
  have hb := patBody_len h
  have hc := commas_len (C := 30) (p.Args.map argText) (argTexts_le h3)
  have h5 : (p.Args.map argText).length * (30 + 2) ≤ 5 * 32 := Nat.mul_le_mul (by simpa using h2) (by omega)
  simp only [Bool.not_true, Bool.false_eq_true, if_false, if_true]
  refine (partsLoop hN p.Args (by omega) argText (m_i_PatText_l1 N p) (fun s => (cat p.Kind ⟨#[40]⟩).bind fun z1 => (m_strings_Join N s ⟨#[44, 32]⟩).bind fun x5 => (cat z1 x5).bind fun z2 => (cat z2 ⟨#[41]⟩).bind fun z3 => if p.Not = true then (cat ⟨#[33]⟩ z3).bind fun z4 => some z4 else some z3) (fun n i s x g4 g2 g5 g6 gl => ?_) (fun n i s g => ?_)).trans ?_
  ·simp only [m_i_PatText_l1, g5, if_true, g4, Option.bind_some, argT_i hN x (hs.2.2 x g2) (h3 x g2), app_ok (show s.length + [argText x].length ≤ 4294967296 by simp; omega), g6]
  ·simp only [m_i_PatText_l1, g, Bool.false_eq_true, if_false]
  ·rw [cat_k (by show _ + 1 ≤ _; omega), Option.bind_some, join_i (N := N) (C := 30) (by simp; omega) (argTexts_le h3) (by omega), Option.bind_some, cat_k (by rw [ByteArray.size_append]; show _ + 1 + _ ≤ _; omega), Option.bind_some, cat_k (by rw [ByteArray.size_append, ByteArray.size_append]; show _ + 1 + _ + 1 ≤ _; omega), Option.bind_some]
   show (if p.Not = true then (cat ⟨#[33]⟩ (patBody p)).bind fun z4 => some z4 else some (patBody p)) = _
   split
   ·rw [cat_k (by show 1 + _ ≤ _; omega)]; rfl
   ·rfl
def condSep (c : TCond) : ByteArray := if c.Op = 2 then ⟨#[32, 35, 32]⟩ else if c.Op = 3 then ⟨#[32, 60, 32]⟩ else ⟨#[32, 61, 32]⟩
def condText (c : TCond) : ByteArray := if okCond c = true then (argText c.L ++ condSep c) ++ argText c.R else ⟨#[]⟩
theorem cond_has {c : TCond} (h : okCond c = true) : (1 ≤ c.Op ∧ c.Op ≤ 3) ∧ okArg c.L = true ∧ okArg c.R = true := by
 unfold okCond given at h
 simp only [Bool.and_eq_true, decide_eq_true_eq] at h
 exact ⟨h.1, h.2.1.1, h.2.2.1⟩
theorem condSep_len (c : TCond) : (condSep c).size = 3 := by unfold condSep; split <;> (try split) <;> rfl
theorem condText_len (c : TCond) : (condText c).size ≤ 63 := by
 unfold condText
 split
 ·rename_i h
  obtain ⟨_, h1, h2⟩ := cond_has h
  have := argText_len h1
  have := argText_len h2
  have := condSep_len c
  simp only [ByteArray.size_append]; omega
 ·exact Nat.zero_le _
theorem condT_i {N : Nat} (hN : 1099000000000 ≤ N) (c : TCond) (hs : SzCond c) : m_i_CondText N c = some (condText c) := by
 unfold m_i_CondText condText
 rw [cond_i hN c hs, Option.bind_some]
 cases h : okCond c with
 | false => simp
 | true =>
  obtain ⟨_, h1, h2⟩ := cond_has h
  have l1 := argText_len h1
  have l2 := argText_len h2
  have lp : ∀ s : ByteArray, s.size = 3 → m_i_CondText_j1 N c s = some ((argText c.L ++ s) ++ argText c.R) := by
   intro s h3
   unfold m_i_CondText_j1
   rw [argT_i hN _ hs.1 h1, Option.bind_some, cat_k (by omega), Option.bind_some, argT_i hN _ hs.2 h2, Option.bind_some, cat_k (by rw [ByteArray.size_append]; omega)]
   rfl
  simp only [Bool.not_true, Bool.false_eq_true, if_false, if_true, condSep]
  by_cases k2 : c.Op = 2
  ·simp only [k2, decide_true, if_true, lp _ (show (⟨#[32, 35, 32]⟩ : ByteArray).size = 3 from rfl)]
  ·by_cases k3 : c.Op = 3
   ·simp only [k3, decide_true, if_true, show ¬ (3 : Int) = 2 by omega, decide_false, Bool.false_eq_true, if_false, lp _ (show (⟨#[32, 60, 32]⟩ : ByteArray).size = 3 from rfl)]
   ·simp only [k2, k3, decide_false, Bool.false_eq_true, if_false, lp _ (show (⟨#[32, 61, 32]⟩ : ByteArray).size = 3 from rfl)]
def ruleHead (r : TRule) : ByteArray := (((⟨#[114, 117, 108, 101, 32]⟩ ++ r.Name) ++ ⟨#[32]⟩) ++ num r.Sal) ++ ⟨#[58, 32]⟩
def condPart (l : List TCond) : ByteArray := match l with | [] => ⟨#[]⟩ | c :: t => ⟨#[32, 43, 32]⟩ ++ commas ((c :: t).map condText)
def ruleText (r : TRule) : ByteArray := ((((ruleHead r ++ commas (r.Pats.map patText)) ++ condPart r.Conds) ++ ⟨#[32, 45, 62, 32]⟩) ++ commas (r.Acts.map actText)) ++ ⟨#[46, 10]⟩
theorem rule_has {r : TRule} (h : okRule r = true) : r.Name.size ≤ 12 ∧ (-100 ≤ r.Sal ∧ r.Sal ≤ 100) ∧ r.Pats.length ≤ 6 ∧ r.Conds.length ≤ 6 ∧ r.Acts.length ≤ 6 := by
 unfold okRule okPats at h
 simp only [Bool.and_eq_true, decide_eq_true_eq] at h
 exact ⟨okName_len h.1, h.2.1, by omega, by omega, by omega⟩
theorem le_map {α : Type} {T : α → ByteArray} {C : Nat} (h : ∀ x, (T x).size ≤ C) (l : List α) : ∀ x ∈ l.map T, x.size ≤ C := fun x hx => by
 obtain ⟨a, _, rfl⟩ := List.mem_map.1 hx; exact h a
theorem com_le {α : Type} {T : α → ByteArray} {C : Nat} (h : ∀ x, (T x).size ≤ C) {l : List α} (hl : l.length ≤ 6) : (commas (l.map T)).size ≤ 6 * (C + 2) := by
 have hc := commas_len (C := C) (l.map T) (le_map h l)
 have h5 : (l.map T).length * (C + 2) ≤ 6 * (C + 2) := Nat.mul_le_mul (by simpa using hl) (by omega)
 omega
theorem head_len {r : TRule} (h : okRule r = true) : (ruleHead r).size ≤ 40 := by
 obtain ⟨h1, h2, _⟩ := rule_has h
 have := num_len (n := r.Sal) (by omega) (by omega)
 unfold ruleHead
 simp only [ByteArray.size_append]
 show 5 + _ + 1 + _ + 2 ≤ _
 omega
theorem condPart_len {l : List TCond} (h : l.length ≤ 6) : (condPart l).size ≤ 400 := by
 unfold condPart
 split
 ·exact Nat.zero_le _
 ·have := com_le condText_len h
  simp only [ByteArray.size_append]; show 3 + _ ≤ _; omega
theorem ruleText_len {r : TRule} (h : okRule r = true) : (ruleText r).size ≤ 5000 := by
 obtain ⟨h1, h2, h3, h4, h5⟩ := rule_has h
 have := head_len h
 have := com_le patText_len h3
 have := com_le actText_len h5
 have := condPart_len h4
 unfold ruleText
 simp only [ByteArray.size_append]
 show _ + _ + _ + 4 + _ + 2 ≤ _
 omega
theorem ruleBody_i {N : Nat} (hN : 1099000000000 ≤ N) (r : TRule) (hs : SzRule r) (h : okRule r = true) : m_i_ruleText N r = some (ruleText r) := by
 obtain ⟨h1, h2, h3, h4, h5⟩ := rule_has h
 have lh := head_len h
 have lp := com_le patText_len h3
 have la := com_le actText_len h5
 have lc := condPart_len h4
 have ln := num_len (n := r.Sal) (by omega) (by omega)
 unfold m_i_ruleText
 refine (partsLoop hN r.Pats (by omega) patText (m_i_ruleText_l1 N r) (fun s => m_i_ruleText_l2 N r s N [] 0) (fun n i s x g4 g2 g5 g6 gl => ?_) (fun n i s g => ?_)).trans ?_
 ·simp only [m_i_ruleText_l1, g5, if_true, g4, Option.bind_some, patT_i hN x (hs.2.1.2 x g2), app_ok (show s.length + [patText x].length ≤ 4294967296 by simp; omega), g6]
 ·simp only [m_i_ruleText_l1, g, Bool.false_eq_true, if_false]
 refine (partsLoop hN r.Conds (by omega) condText (m_i_ruleText_l2 N r (r.Pats.map patText)) (fun s => m_i_ruleText_l3 N r (r.Pats.map patText) s N [] 0) (fun n i s x g4 g2 g5 g6 gl => ?_) (fun n i s g => ?_)).trans ?_
 ·simp only [m_i_ruleText_l2, g5, if_true, g4, Option.bind_some, condT_i hN x (hs.2.2.1.2 x g2), app_ok (show s.length + [condText x].length ≤ 4294967296 by simp; omega), g6]
 ·simp only [m_i_ruleText_l2, g, Bool.false_eq_true, if_false]
 refine (partsLoop hN r.Acts (by omega) actText (m_i_ruleText_l3 N r (r.Pats.map patText) (r.Conds.map condText)) (fun s => if decide (0 < ((r.Conds.map condText).length : Int)) = true then (m_strings_Join N (r.Conds.map condText) ⟨#[44, 32]⟩).bind fun x13 => (cat ⟨#[32, 43, 32]⟩ x13).bind fun z9 => (cat (ruleHead r ++ commas (r.Pats.map patText)) z9).bind fun z10 => m_i_ruleText_j4 N s z10 else m_i_ruleText_j4 N s (ruleHead r ++ commas (r.Pats.map patText))) (fun n i s x g4 g2 g5 g6 gl => ?_) (fun n i s g => ?_)).trans ?_
 ·simp only [m_i_ruleText_l3, g5, if_true, g4, Option.bind_some, actT_i hN x (hs.2.2.2.1.2 x g2), app_ok (show s.length + [actText x].length ≤ 4294967296 by simp; omega), g6]
 ·simp only [m_i_ruleText_l3, g, Bool.false_eq_true, if_false]
  rw [cat_k (by show 5 + _ ≤ _; omega), Option.bind_some, cat_k (by simp only [ByteArray.size_append]; show 5 + _ + 1 ≤ _; omega), Option.bind_some, itoa_i (N := N) (n := r.Sal) (by omega) (by omega), Option.bind_some, cat_k (by simp only [ByteArray.size_append]; show 5 + _ + 1 + _ ≤ _; omega), Option.bind_some, cat_k (by simp only [ByteArray.size_append]; show 5 + _ + 1 + _ + 2 ≤ _; omega), Option.bind_some, join_i (N := N) (C := 191) (by simp; omega) (le_map patText_len _) (by omega), Option.bind_some]
  show ((cat (ruleHead r) (commas (r.Pats.map patText))).bind _) = _
  rw [cat_k (by omega), Option.bind_some]
 have j4 : ∀ z : ByteArray, z.size ≤ 100000 → m_i_ruleText_j4 N (r.Acts.map actText) z = some (((z ++ ⟨#[32, 45, 62, 32]⟩) ++ commas (r.Acts.map actText)) ++ ⟨#[46, 10]⟩) := by
  intro z hz
  unfold m_i_ruleText_j4
  rw [cat_k (by show _ + 4 ≤ _; omega), Option.bind_some, join_i (N := N) (C := 500) (by simp; omega) (le_map actText_len _) (by omega), Option.bind_some, cat_k (by simp only [ByteArray.size_append]; show _ + 4 + _ ≤ _; omega), Option.bind_some, cat_k (by simp only [ByteArray.size_append]; show _ + 4 + _ + 2 ≤ _; omega), Option.bind_some]
 unfold ruleText
 have hcp : (r.Conds = [] ∧ condPart r.Conds = ⟨#[]⟩) ∨ (0 < r.Conds.length ∧ condPart r.Conds = ⟨#[32, 43, 32]⟩ ++ commas (r.Conds.map condText)) := by
  cases r.Conds with
  | nil => exact .inl ⟨rfl, rfl⟩
  | cons c t => exact .inr ⟨by simp, rfl⟩
 rcases hcp with ⟨e1, e2⟩ | ⟨e1, e2⟩
 ·rw [e2, e1, if_neg (by decide), j4 _ (by simp only [ByteArray.size_append]; omega), ba_nil]
 ·have lc' := com_le condText_len h4
  rw [e2, if_pos (by simp; omega), join_i (N := N) (C := 63) (by simp; omega) (le_map condText_len _) (by omega), Option.bind_some, cat_k (by show 3 + _ ≤ _; omega), Option.bind_some, cat_k (by simp only [ByteArray.size_append]; show _ + _ + (3 + _) ≤ _; omega), Option.bind_some, j4 _ (by simp only [ByteArray.size_append]; show _ + _ + (3 + _) ≤ _; omega)]
def texts : List TRule → ByteArray
 | [] => ⟨#[]⟩
 | r :: t => ruleText r ++ texts t
def defText (d : TDef) : ByteArray := if okDef d = true then ((⟨#[100, 101, 102, 32]⟩ ++ d.Name) ++ ⟨#[46, 10]⟩) ++ texts d.Rules else ⟨#[]⟩
theorem wrt_ok {s t : ByteArray} (h : s.size + t.size ≤ 140737488355328) : wrt s t = some (s ++ t) := by unfold wrt; rw [if_pos h]
theorem ba_nilL (a : ByteArray) : (⟨#[]⟩ : ByteArray) ++ a = a := by apply ByteArray.ext; simp [ByteArray.data_append]
theorem def_has {d : TDef} (h : okDef d = true) : d.Name.size ≤ 12 ∧ d.Rules.length ≤ 12 := by
 unfold okDef at h
 simp only [Bool.and_eq_true, decide_eq_true_eq] at h
 exact ⟨okName_len h.1, by omega⟩
theorem defT_i {N : Nat} (hN : 1099000000000 ≤ N) (d : TDef) (hs : SzDef d) : m_i_DefText N d = some (defText d) := by
 unfold m_i_DefText defText
 rw [def_i hN d hs, Option.bind_some]
 cases h : okDef d with
 | false => simp
 | true =>
  obtain ⟨h1, h2⟩ := def_has h
  have hr := okDef_rule h
  simp only [Bool.not_true, Bool.false_eq_true, if_false, if_true]
  rw [cat_k (by show 4 + _ ≤ _; omega), Option.bind_some, cat_k (by rw [ByteArray.size_append]; show 4 + _ + 2 ≤ _; omega), Option.bind_some, wrt_ok (by simp only [ByteArray.size_append]; show 0 + (4 + _ + 2) ≤ _; omega), Option.bind_some, ba_nilL]
  refine (lp' hN d.Rules (by omega) (m_i_DefText_l1 N d) (fun t s => some (s ++ texts t)) (fun s t => s.size + t.length * 5000 ≤ 1000000) _ (by simp only [ByteArray.size_append]; show 4 + _ + 2 + _ ≤ _; omega) (fun n s i x t g1 g2 g3 g4 g5 g6 gI ih => ?_) (fun n s i g1 g2 gI => ?_))
  ·simp only [List.length_cons] at gI
   have hx := ruleText_len (hr x g2)
   simp only [m_i_DefText_l1, g5, if_true, g4, Option.bind_some, ruleBody_i hN x (hs.2.2 x g2) (hr x g2), g6]
   rw [wrt_ok (by omega), Option.bind_some, ih _ (by rw [ByteArray.size_append]; omega), ba_assoc]
   rfl
  ·simp only [m_i_DefText_l1, g2, Bool.false_eq_true, if_false, texts, ba_nil]
set_option maxRecDepth 100000
abbrev D (s : ByteArray) : Bs := s.data.toList
theorem D_app (a b : ByteArray) : D (a ++ b) = D a ++ D b := by simp [D, ByteArray.data_append]
theorem edge_letter {r : Bs} (h : Edge wide r) : Edge letter r := fun b hb => by
 have := h b hb
 unfold wide at this
 simp only [Bool.or_eq_false_iff] at this
 exact this.1
theorem edge_digit {r : Bs} (h : Edge wide r) : Edge digitB r := fun b hb => by
 have := h b hb
 have key : ∀ b : UInt8, wide b = false → digitB b = false := all8 (by decide)
 exact key b this
theorem edge_mk {b : UInt8} {r : Bs} (h : isMk b = true) (h9 : b ≠ 95) : Edge wide (b :: r) := fun c hc => by
 simp at hc; subst hc
 have key : ∀ b : UInt8, isMk b = true → b ≠ 95 → wide b = false := all8 (by decide)
 exact key b h h9
theorem edge_bl {b : UInt8} {r : Bs} (h : blankB b = true) : Edge wide (b :: r) := fun c hc => by
 simp at hc; subst hc
 have key : ∀ b : UInt8, blankB b = true → wide b = false := all8 (by decide)
 exact key b h
theorem Lx.mark' {b : UInt8} {r : Bs} {ts : Toks} (hb : isMk b = true) (h9 : b ≠ 45) (h : Lx r ts) : Lx (b :: r) (mkT (bA [b]) :: ts) := Lx.mark hb (fun e => absurd e h9) h
theorem num_lx {n : Int} (h0 : -1000000000 ≤ n) (h1 : n ≤ 1000000000) {r : Bs} {ts : Toks} (hr : Edge wide r) (h : Lx r ts) : Lx (D (num n) ++ r) (toksInt n ++ ts) := by
 unfold toksInt
 by_cases hn : n < 0
 ·rw [if_pos hn]
  have e : D (num n) = 45 :: Go.Lib.decDigits n.natAbs := by show Go.Lib.itoa n = _; unfold Go.Lib.itoa; rw [if_pos hn]
  have e2 : Go.Lib.itoa (-n) = Go.Lib.decDigits n.natAbs := by unfold Go.Lib.itoa; rw [if_neg (by omega)]; congr 1; omega
  have h2 := Lx.num (n := -n) (by omega) (by omega) (edge_digit hr) h
  rw [e2] at h2
  rw [e]
  refine Lx.mark (b := 45) (by decide) (fun _ hc => ?_) h2
  cases hd : Go.Lib.decDigits n.natAbs with
  | nil => exact decD_ne _ hd
  | cons b l =>
   rw [hd] at hc
   have hc : b = 62 := by simpa using hc
   have := decD_digits n.natAbs b (by rw [hd]; simp)
   rw [hc] at this
   exact absurd this (by decide)
 ·rw [if_neg hn]
  exact Lx.num (by omega) h1 (edge_digit hr) h
theorem arg_lx {a : TArg} (ha : okArg a = true) {r : Bs} {ts : Toks} (hr : Edge wide r) (h : Lx r ts) : Lx (D (argText a) ++ r) (toksArg a ++ ts) := by
 unfold argText toksArg
 have h0 := ha
 unfold okArg at h0
 by_cases h1 : a.K = 1
 ·simp only [h1, if_true, Bool.and_eq_true] at h0 ⊢
  exact Lx.var h0.1 hr h
 by_cases h2 : a.K = 2
 ·simp only [h2, show ¬ (2 : Int) = 1 by omega, if_true, if_false, Bool.and_eq_true] at h0 ⊢
  have hv := h0.1
  unfold valText
  by_cases k : a.V.K = 1
  ·obtain ⟨n0, n1⟩ := valN hv k
   simp only [k, if_true]
   exact num_lx n0 n1 hr h
  ·unfold okVal at hv
   simp only [k, if_false] at hv ⊢
   split at hv
   ·simp only [Bool.and_eq_true, decide_eq_true_eq] at hv
    rw [D_app, D_app, List.append_assoc, List.append_assoc]
    exact Lx.text hv.2.1 hv.2.2 h
   ·cases hv
 ·simp only [h1, h2, if_false]
  exact Lx.mark' (b := 95) (by decide) (by decide) h
theorem expr_lx {e : TExpr} (he : okExpr e = true) {r : Bs} {ts : Toks} (hr : Edge wide r) (h : Lx r ts) : Lx (D (exprText e) ++ r) (toksExpr e ++ ts) := by
 unfold exprText toksExpr
 rw [if_pos he]
 have hx := he
 unfold okExpr at hx
 by_cases h0 : e.Op = e0
 ·rw [if_pos (by rw [h0]; exact seq_self _)] at hx
  simp only [Bool.and_eq_true] at hx
  rw [if_pos (by rw [h0]; exact seq_self _), if_pos h0, List.append_nil]
  exact arg_lx (given_ok hx.1) hr h
 ·have hq : ¬ (seq e.Op ⟨#[]⟩ = true) := by rw [seq_eq]; simp only [decide_eq_true_eq]; exact h0
  rw [if_neg hq] at hx
  simp only [Bool.and_eq_true, Bool.or_eq_true] at hx
  obtain ⟨ho, hL, hR⟩ := hx
  rw [if_neg hq, if_neg h0]
  simp only [D_app, List.append_assoc]
  have h2 := Lx.blank (b := 32) (by decide) (arg_lx (given_ok hR) hr h)
  have h3 : Lx (D e.Op ++ (D ⟨#[32]⟩ ++ (D (argText e.R) ++ r))) (mkT e.Op :: (toksArg e.R ++ ts)) := by
   rcases ho with ho | ho
   ·have : e.Op = ⟨#[43]⟩ := by rw [seq_eq] at ho; exact of_decide_eq_true ho
    rw [this]
    exact Lx.mark' (b := 43) (by decide) (by decide) h2
   ·have : e.Op = ⟨#[45]⟩ := by rw [seq_eq] at ho; exact of_decide_eq_true ho
    rw [this]
    exact Lx.mark (b := 45) (by decide) (fun _ hc => by simp [D] at hc) h2
  exact arg_lx (given_ok hL) (edge_bl (b := 32) (by decide)) (Lx.blank (b := 32) (by decide) h3)
theorem cond_lx {c : TCond} (hc : okCond c = true) {r : Bs} {ts : Toks} (hr : Edge wide r) (h : Lx r ts) : Lx (D (condText c) ++ r) (toksCond c ++ ts) := by
 unfold condText toksCond condSep
 rw [if_pos hc]
 unfold okCond at hc
 simp only [Bool.and_eq_true, decide_eq_true_eq] at hc
 obtain ⟨⟨o1, o2⟩, hL, hR⟩ := hc
 simp only [D_app, List.append_assoc, List.cons_append]
 have h2 := Lx.blank (b := 32) (by decide) (arg_lx (given_ok hR) hr h)
 have : c.Op = 1 ∨ c.Op = 2 ∨ c.Op = 3 := by omega
 rcases this with e | e | e
 ·simp only [e, if_true, show ¬ (1 : Int) = 2 by omega, show ¬ (1 : Int) = 3 by omega, if_false]
  exact arg_lx (given_ok hL) (edge_bl (b := 32) (by decide)) (Lx.blank (b := 32) (by decide) (Lx.mark' (b := 61) (by decide) (by decide) h2))
 ·simp only [e, if_true, show ¬ (2 : Int) = 1 by omega, if_false]
  exact arg_lx (given_ok hL) (edge_bl (b := 32) (by decide)) (Lx.blank (b := 32) (by decide) (Lx.mark' (b := 35) (by decide) (by decide) h2))
 ·simp only [e, if_true, show ¬ (3 : Int) = 1 by omega, show ¬ (3 : Int) = 2 by omega, if_false]
  exact arg_lx (given_ok hL) (edge_bl (b := 32) (by decide)) (Lx.blank (b := 32) (by decide) (Lx.mark' (b := 60) (by decide) (by decide) h2))
theorem many_lx {α : Type} {f : α → ByteArray} {tk : α → Toks} : ∀ (l : List α), (∀ x ∈ l, ∀ (r : Bs) (ts : Toks), Edge wide r → Lx r ts → Lx (D (f x) ++ r) (tk x ++ ts)) → ∀ (r : Bs) (ts : Toks), Edge wide r → Lx r ts → Lx (D (commas (l.map f)) ++ r) (toksMany tk l ++ ts)
 | [], H, r, ts, hr, h => h
 | [x], H, r, ts, hr, h => by
  rw [List.map_cons, List.map_nil, commas_cons, tails_nil, D_app, List.append_assoc]
  exact H x (by simp) _ _ hr h
 | x :: y :: l, H, r, ts, hr, h => by
  have ih := many_lx (y :: l) (fun z hz => H z (by simp at hz ⊢; exact .inr hz)) r ts hr h
  rw [List.map_cons, commas_cons] at ih
  rw [List.map_cons, List.map_cons, commas_cons, tails_cons]
  simp only [D_app, List.append_assoc, toksMany, List.cons_append] at ih ⊢
  exact H x (by simp) _ _ (edge_mk (b := 44) (by decide) (by decide)) (Lx.mark' (b := 44) (by decide) (by decide) (Lx.blank (b := 32) (by decide) ih))
theorem list_lx {α : Type} {f : α → ByteArray} {tk : α → Toks} {l : List α} (H : ∀ x ∈ l, ∀ (r : Bs) (ts : Toks), Edge wide r → Lx r ts → Lx (D (f x) ++ r) (tk x ++ ts)) {r : Bs} {ts : Toks} (h : Lx r ts) :
  Lx (40 :: (D (commas (l.map f)) ++ 41 :: r)) (toksList tk l ++ ts) := by
 unfold toksList
 simp only [List.cons_append, List.append_assoc, List.nil_append]
 exact Lx.mark' (b := 40) (by decide) (by decide) (many_lx l H _ _ (edge_mk (b := 41) (by decide) (by decide)) (Lx.mark' (b := 41) (by decide) (by decide) h))
theorem pat_lx {p : TPat} (hp : okPat p = true) {r : Bs} {ts : Toks} (h : Lx r ts) : Lx (D (patText p) ++ r) (toksPat p ++ ts) := by
 unfold patText toksPat
 rw [if_pos hp]
 unfold okPat at hp
 simp only [Bool.and_eq_true, decide_eq_true_eq, List.all_eq_true] at hp
 have hb : Lx (D (patBody p) ++ r) (wdT p.Kind :: (toksList toksArg p.Args ++ ts)) := by
  unfold patBody
  simp only [D_app, List.append_assoc]
  exact Lx.word hp.1 (edge_letter (edge_mk (b := 40) (by decide) (by decide))) (list_lx (fun x hx r ts hr h => arg_lx (hp.2.2 x hx) hr h) h)
 cases p.Not
 ·exact hb
 ·simp only [if_true, D_app, List.append_assoc, List.cons_append, List.nil_append]
  exact Lx.mark' (b := 33) (by decide) (by decide) hb
theorem call_lx {a : TAct} (hn : okName a.Name = true) (ha : ∀ e ∈ a.Args, okExpr e = true) {r : Bs} {ts : Toks} (h : Lx r ts) : Lx (D (callText a) ++ r) (toksCall a.Name a.Args ++ ts) := by
 unfold callText toksCall
 simp only [D_app, List.append_assoc, List.cons_append]
 exact Lx.word hn (edge_letter (edge_mk (b := 40) (by decide) (by decide))) (list_lx (fun x hx r ts hr h => expr_lx (ha x hx) hr h) h)
theorem bl {b : UInt8} {r : Bs} (h : blankB b = true) : Edge letter (b :: r) := edge_letter (edge_bl h)
theorem act_lx {a : TAct} (hk : okAct a = true) {r : Bs} {ts : Toks} (hr : Edge wide r) (h : Lx r ts) : Lx (D (actText a) ++ r) (toksAct a ++ ts) := by
 unfold actText toksAct
 rw [if_pos hk]
 unfold okAct at hk
 simp only at hk
 by_cases k1 : a.Kind = 1
 ·simp only [k1, if_true, Bool.and_eq_true, decide_eq_true_eq, List.all_eq_true] at hk ⊢
  obtain ⟨⟨⟨hn, ha, hl⟩, hM⟩, hU⟩ := hk
  rw [D_app, List.append_assoc]
  exact Lx.word (s := ⟨#[97, 115, 115, 101, 114, 116]⟩) (by decide) (bl (b := 32) (by decide)) (Lx.blank (b := 32) (by decide) (call_lx hn ha h))
 by_cases k2 : a.Kind = 2
 ·simp only [k2, show ¬ (2 : Int) = 1 by omega, if_false, if_true, Bool.and_eq_true, decide_eq_true_eq] at hk ⊢
  obtain ⟨⟨⟨hn, hl⟩, hM⟩, hU⟩ := hk
  rw [D_app, List.append_assoc]
  have h2 := num_lx (n := a.N) (by omega) (by omega) hr h
  unfold toksInt at h2
  rw [if_neg (by omega)] at h2
  exact Lx.word (s := ⟨#[100, 114, 111, 112]⟩) (by decide) (bl (b := 32) (by decide)) (Lx.blank (b := 32) (by decide) h2)
 by_cases k3 : a.Kind = 3
 ·simp only [k3, show ¬ (3 : Int) = 1 by omega, show ¬ (3 : Int) = 2 by omega, if_false, if_true, Bool.and_eq_true, Bool.or_eq_true, decide_eq_true_eq, List.all_eq_true] at hk ⊢
  obtain ⟨⟨⟨hn, ha, hl⟩, hM⟩, hU⟩ := hk
  by_cases hu : seq a.Undo ⟨#[]⟩ = true
  ·rw [if_pos hu, if_pos (seq_e0 hu), D_app, List.append_assoc, List.append_nil]
   exact Lx.word (s := ⟨#[116, 97, 115, 107]⟩) (by decide) (bl (b := 32) (by decide)) (Lx.blank (b := 32) (by decide) (call_lx hn ha h))
  ·have hU' : okName a.Undo = true := by rcases hU with hU | hU; exact absurd hU hu; exact hU
   rw [if_neg hu, if_neg (okName_ne hU')]
   simp only [D_app, List.append_assoc, List.cons_append, List.nil_append]
   have h2 := Lx.word hU' (edge_letter hr) h
   have h3 := Lx.word (s := ⟨#[117, 110, 100, 111]⟩) (by decide) (bl (b := 32) (by decide)) (Lx.blank (b := 32) (by decide) h2)
   have h4 := call_lx hn ha (Lx.blank (b := 32) (by decide) h3)
   exact Lx.word (s := ⟨#[116, 97, 115, 107]⟩) (by decide) (bl (b := 32) (by decide)) (Lx.blank (b := 32) (by decide) h4)
 by_cases k4 : a.Kind = 4
 ·simp only [k4, show ¬ (4 : Int) = 1 by omega, show ¬ (4 : Int) = 2 by omega, show ¬ (4 : Int) = 3 by omega, if_false, if_true, Bool.and_eq_true, decide_eq_true_eq, List.all_eq_true] at hk ⊢
  obtain ⟨⟨⟨hn, ha, hl⟩, hM⟩, hU⟩ := hk
  simp only [D_app, List.append_assoc]
  have h1 := call_lx hn ha h
  have h2 := num_lx (n := a.N) (by omega) (by omega) (edge_bl (b := 32) (by decide)) (Lx.blank (b := 32) (by decide) h1)
  unfold toksInt at h2
  rw [if_neg (by omega)] at h2
  exact Lx.word (s := ⟨#[116, 105, 109, 101, 114]⟩) (by decide) (bl (b := 32) (by decide)) (Lx.blank (b := 32) (by decide) h2)
 simp only [k1, k2, k3, k4, if_false] at hk ⊢
 by_cases k5 : a.Kind = 5
 ·rw [if_pos k5, if_pos k5]
  exact Lx.word (s := ⟨#[100, 111, 110, 101]⟩) (by decide) (edge_letter hr) h
 ·rw [if_neg k5, if_neg k5]
  exact Lx.word (s := ⟨#[102, 97, 105, 108]⟩) (by decide) (edge_letter hr) h
theorem conds_lx {l : List TCond} (hl : ∀ c ∈ l, okCond c = true) {r : Bs} {ts : Toks} (hr : Edge wide r) (h : Lx r ts) : Lx (D (condPart l) ++ r) (toksConds l ++ ts) := by
 unfold condPart toksConds
 cases l with
 | nil => exact h
 | cons c l =>
  simp only [D_app, List.append_assoc, if_neg (List.cons_ne_nil c l), List.cons_append]
  exact Lx.blank (b := 32) (by decide) (Lx.mark' (b := 43) (by decide) (by decide) (Lx.blank (b := 32) (by decide) (many_lx (c :: l) (fun x hx r ts hr h => cond_lx (hl x hx) hr h) r ts hr h)))
theorem rule_lx {x : TRule} (hx : okRule x = true) {r : Bs} {ts : Toks} (h : Lx r ts) : Lx (D (ruleText x) ++ r) (toksRule x ++ ts) := by
 unfold okRule at hx
 simp only [Bool.and_eq_true, decide_eq_true_eq, List.all_eq_true] at hx
 obtain ⟨hn, hs, hp, ⟨hc, hcl⟩, ha, hal⟩ := hx
 unfold okPats at hp
 simp only [Bool.and_eq_true, decide_eq_true_eq] at hp
 have hp2 := patsFrom_ok _ _ hp.2.2
 have h1 : Lx (46 :: 10 :: r) (mkT ⟨#[46]⟩ :: ts) := Lx.mark' (b := 46) (by decide) (by decide) (Lx.blank (b := 10) (by decide) h)
 have h2 := many_lx x.Acts (f := actText) (tk := toksAct) (fun a hx r ts hr h => act_lx (by have := ha a hx; unfold okActK at this; simp only [Bool.and_eq_true] at this; exact this.1) hr h) _ _ (edge_mk (b := 46) (by decide) (by decide)) h1
 have h3 := Lx.blank (b := 32) (by decide) (Lx.arrow (Lx.blank (b := 32) (by decide) h2))
 have h4 := conds_lx (l := x.Conds) (fun c hx => by have := hc c hx; unfold okCondK at this; simp only [Bool.and_eq_true] at this; exact this.1) (edge_bl (b := 32) (by decide)) h3
 have h5 : Edge wide (D (condPart x.Conds) ++ 32 :: 45 :: 62 :: 32 :: (D (commas (x.Acts.map actText)) ++ 46 :: 10 :: r)) := by
  unfold condPart
  cases x.Conds with
  | nil => exact edge_bl (b := 32) (by decide)
  | cons c l =>
   simp only [D_app, List.append_assoc]
   exact edge_bl (b := 32) (by decide)
 have h6 := many_lx x.Pats (f := patText) (tk := toksPat) (fun p hx r ts hr h => pat_lx (hp2 p hx) h) _ _ h5 h4
 have h7 := num_lx (n := x.Sal) (by omega) (by omega) (edge_mk (b := 58) (by decide) (by decide)) (Lx.mark' (b := 58) (by decide) (by decide) (Lx.blank (b := 32) (by decide) h6))
 have h8 := Lx.word hn (bl (b := 32) (by decide)) (Lx.blank (b := 32) (by decide) h7)
 unfold ruleText ruleHead toksRule
 simp only [D_app, List.append_assoc, List.cons_append, List.nil_append]
 exact Lx.word (s := ⟨#[114, 117, 108, 101]⟩) (by decide) (bl (b := 32) (by decide)) (Lx.blank (b := 32) (by decide) h8)
theorem rules_lx : ∀ (l : List TRule), (∀ x ∈ l, okRule x = true) → Lx (D (texts l)) (l.flatMap toksRule)
 | [], _ => Lx.nil
 | x :: l, h => by
  have ih := rules_lx l fun y hy => h y (by simp [hy])
  have := rule_lx (h x (by simp)) ih
  rw [List.flatMap_cons]
  unfold texts
  rw [D_app]
  exact this
theorem def_lx {d : TDef} (hd : okDef d = true) : Lx (D (defText d)) (toksDef d) := by
 have hr := okDef_rule hd
 have h1 := rules_lx d.Rules hr
 unfold defText toksDef
 rw [if_pos hd]
 unfold okDef at hd
 simp only [Bool.and_eq_true, decide_eq_true_eq] at hd
 simp only [D_app, List.append_assoc]
 have h2 : Lx (46 :: 10 :: D (texts d.Rules)) (mkT ⟨#[46]⟩ :: d.Rules.flatMap toksRule) := Lx.mark' (b := 46) (by decide) (by decide) (Lx.blank (b := 10) (by decide) h1)
 have h3 := Lx.word hd.1 (edge_letter (edge_mk (b := 46) (by decide) (by decide))) h2
 exact Lx.word (s := ⟨#[100, 101, 102]⟩) (by decide) (bl (b := 32) (by decide)) (Lx.blank (b := 32) (by decide) h3)
theorem rulesL {β γ : Type} {ts : Toks} (hg : Small ts) (hl : ts.length ≤ 3000) {z : Bool} (K : TRule → Nat → Bool → γ) (L : Nat → List TRule → Int → Bool → Option β) (R : Nat → Option γ) (X : List TRule → Option β) (E : Option β)
  (hR : ∀ n, n ≤ ts.length → Does ts K (R n) n false (ruleP z))
  (hB : ∀ k s1 n, L (k + 1) s1 n true = E) (hE : ∀ k s1, L (k + 1) s1 (ts.length : Int) false = X s1)
  (hS : ∀ k s1 n x (n' : Nat) b', n < ts.length → s1.length ≤ 3000 → R n = some (K x n' b') → L (k + 1) s1 (n : Int) false = L k (s1 ++ [x]) (n' : Int) b') :
  ∀ (f g n : Nat) (s1 : List TRule), n ≤ ts.length → ts.length - n < f → ts.length - n < g → s1.length ≤ n → L f s1 (n : Int) false = match rulesP z g (ts.drop n) with | some l => X (s1 ++ l) | none => E
 | 0, g, n, s1, _, h, _, _ => by omega
 | f + 1, 0, n, s1, _, _, h, _ => by omega
 | f + 1, g + 1, n, s1, hn, hf, hg', hs => by
  by_cases c : n = ts.length
  ·subst c
   rw [hE, List.drop_length]
   simp only [rulesP, List.append_nil]
  ·have hlt : n < ts.length := by omega
   obtain ⟨x, n', b', h0, l1, u1, f1, t1⟩ := hR n hn
   rw [hS f s1 n x n' b' hlt (by omega) h0]
   have hd : rulesP z (g + 1) (ts.drop n) = (ruleP z (ts.drop n)).bind fun x => (rulesP z g x.2).bind fun l => some (x.1 :: l) := by
    rw [List.drop_eq_getElem_cons hlt]
    rfl
   cases b' with
   | true =>
    obtain ⟨k, rfl⟩ : ∃ k, f = k + 1 := ⟨f - 1, by omega⟩
    rw [hB, hd]
    rcases t1 rfl with h | h
    ·cases h
    ·rw [h]; rfl
   | false =>
    have e := (f1 rfl).2
    have hz := (rule_z e (fun t ht => hg t (List.mem_of_mem_drop ht)) (by simp; omega)).2.2
    simp only [List.length_drop] at hz
    rw [hd, e, Option.bind_some, rulesL hg hl K L R X E hR hB hE hS f g n' (s1 ++ [x]) u1 (by omega) (by omega) (by simp; omega)]
    cases rulesP z g (ts.drop n') <;> simp
def okOut (ts : Toks) : Option TDef → TDef × Bool
 | some d => if okDef d = true then (d, true) else (⟨e0, []⟩, false)
 | none => (⟨e0, []⟩, false)
def okOutI (ts : Toks) : Option TDef → TDef × Bool
 | some d => if okDef d = true ∧ toksDef d = ts then (d, true) else (⟨e0, []⟩, false)
 | none => (⟨e0, []⟩, false)
theorem out_eq {ts : Toks} (hg : Good ts) : okOutI ts (defP false ts) = okOut ts (defP true ts) := by
 cases hB : defP true ts with
 | some d =>
  have e := def_snd hB hg
  unfold okOut
  simp only
  by_cases c : okDef d = true
  ·rw [if_pos c]
   have hA : defP false ts = some d := by rw [e]; exact def_ok c
   rw [hA]
   unfold okOutI
   simp only
   rw [if_pos ⟨c, e.symm⟩]
  ·rw [if_neg c]
   cases hA : defP false ts with
   | none => rfl
   | some d' =>
    unfold okOutI
    simp only
    rw [if_neg]
    rintro ⟨c1, c2⟩
    have := def_ok (z := true) c1
    rw [c2, hB] at this
    cases this
    exact c c1
 | none =>
  unfold okOut
  cases hA : defP false ts with
  | none => rfl
  | some d' =>
   unfold okOutI
   simp only
   rw [if_neg]
   rintro ⟨c1, c2⟩
   have := def_ok (z := true) c1
   rw [c2, hB] at this
   cases this
theorem eqToks {N : Nat} (hN : 1099000000000 ≤ N) (x y : Toks) (hl : x.length ≤ 3000) : m_sl_Equal_Si_Token_i_Token N x y = some (decide (x = y)) := by
 unfold m_sl_Equal_Si_Token_i_Token
 by_cases c : x.length = y.length
 ·rw [if_neg (by simp; omega)]
  refine (eqloop (m_sl_Equal_Si_Token_i_Token_l1 N x y) x y c (by omega) (fun a b => some (eqT_TToken a b)) (fun a _ b _ => by rw [eqT_TToken_eq]) (fun k i => rfl) N 0 (by omega) (by omega)).trans ?_
  simp
 ·rw [if_pos (by simp; omega)]
  have : ¬ x = y := fun e => c (by rw [e])
  simp [this]
theorem defText_len {d : TDef} (h : okDef d = true) : (defText d).size ≤ 1048576 := by
 have hh := def_has h
 have hr := okDef_rule h
 have : ∀ (l : List TRule), (∀ r ∈ l, okRule r = true) → (texts l).size ≤ l.length * 5000 := by
  intro l
  induction l with
  | nil => intro _; exact Nat.le_refl _
  | cons r t ih =>
   intro h
   have h1 := ruleText_len (h r (by simp))
   have h2 := ih fun x hx => h x (by simp [hx])
   simp only [texts, ByteArray.size_append, List.length_cons]
   omega
 have h3 := this _ hr
 unfold defText
 rw [if_pos h]
 simp only [ByteArray.size_append]
 show 4 + _ + 2 + _ ≤ _
 omega
theorem endI {N : Nat} (hN : 1099000000000 ≤ N) {ts : Toks} (hne : ts ≠ []) (hl : ts.length ≤ 3000) (d : TDef) (hs : SzDef d) :
  ((m_i_DefOk N d).bind fun x7 => some (!x7)).bind (fun b7 => (if b7 then some ((⟨(⟨#[]⟩ : ByteArray), []⟩ : TDef), false) else ((m_i_DefText N d).bind fun x8 => ((m_i_Lex N x8).bind fun x9 => ((m_sl_Equal_Si_Token_i_Token N x9.1 ts).bind fun x10 => (if !x10 then some ((⟨(⟨#[]⟩ : ByteArray), []⟩ : TDef), false) else some (d, true))))))) = some (okOutI ts (some d)) := by
 rw [def_i hN d hs, Option.bind_some, Option.bind_some]
 unfold okOutI
 simp only
 cases h : okDef d with
 | false => simp
 | true =>
  simp only [Bool.not_true, Bool.false_eq_true, if_false, true_and]
  have hx := def_lx h
  obtain ⟨p, -, hp⟩ := lex_i hN (defText d) (defText_len h)
  rw [defT_i hN d hs, Option.bind_some, hp, Option.bind_some]
  have e : lexR (defText d) = if (toksDef d).length ≤ 3000 then some (toksDef d) else none := by
   unfold lexR
   rw [show lexL (defText d).data.toList = some (toksDef d) from hx, Option.bind_some]
  rw [e]
  by_cases c : (toksDef d).length ≤ 3000
  ·rw [if_pos c]
   simp only
   rw [eqToks hN _ _ c, Option.bind_some]
   by_cases c2 : toksDef d = ts
   ·simp [c2]
   ·simp [c2]
  ·rw [if_neg c]
   simp only
   rw [eqToks hN _ _ (by simp), Option.bind_some]
   have c2 : ¬ toksDef d = ts := fun e => c (by rw [e]; exact hl)
   have c3 : ¬ ([] : Toks) = ts := fun e => hne e.symm
   simp [c2, c3]
theorem endS' {N : Nat} (hN : 1099000000000 ≤ N) {ts : Toks} (d : TDef) (hs : SzDef d) :
  ((m_s_DefOk N d).bind fun x7 => some (!x7)).bind (fun b7 => (if b7 then some ((⟨(⟨#[]⟩ : ByteArray), []⟩ : TDef), false) else some (d, true))) = some (okOut ts (some d)) := by
 rw [def_s hN d hs, Option.bind_some, Option.bind_some]
 unfold okOut
 simp only
 cases h : okDef d with
 | false => simp
 | true => simp
theorem tkS {o : Option Toks} {r : Toks} (h : o.bind (fun r => some ((), r)) = some ((), r)) : o = some r := by
 cases o with
 | none => cases h
 | some x => cases h; rfl
theorem tkN {o : Option Toks} (h : o.bind (fun r => some ((), r)) = none) : o = none := by
 cases o with
 | none => rfl
 | some x => cases h
theorem header {z : Bool} {ts : Toks} {w : TToken} {n1 n2 n3 : Nat} {b1 b2 b3 : Bool}
  (f1 : b1 = false → false = false ∧ ((skipP 2 ⟨#[100, 101, 102]⟩ (ts.drop 0)).bind fun r => some ((), r)) = some ((), ts.drop n1)) (t1 : b1 = true → false = true ∨ ((skipP 2 ⟨#[100, 101, 102]⟩ (ts.drop 0)).bind fun r => some ((), r)) = none)
  (f2 : b2 = false → b1 = false ∧ wordP 2 (ts.drop n1) = some (w, ts.drop n2)) (t2 : b2 = true → b1 = true ∨ wordP 2 (ts.drop n1) = none)
  (f3 : b3 = false → b2 = false ∧ ((skipP 5 ⟨#[46]⟩ (ts.drop n2)).bind fun r => some ((), r)) = some ((), ts.drop n3)) (t3 : b3 = true → b2 = true ∨ ((skipP 5 ⟨#[46]⟩ (ts.drop n2)).bind fun r => some ((), r)) = none) :
  (b3 = false → defP z ts = (rulesP z 4000 (ts.drop n3)).bind fun l => some ⟨w.S, l⟩) ∧ (b3 = true → defP z ts = none) := by
 rw [List.drop_zero] at f1 t1
 have hd : defP z ts = ((skipP 2 ⟨#[100, 101, 102]⟩ ts).bind fun r0 => (wordP 2 r0).bind fun w => (skipP 5 ⟨#[46]⟩ w.2).bind fun r1 => (rulesP z 4000 r1).bind fun l => some ⟨w.1.S, l⟩) := rfl
 refine ⟨fun h => ?_, fun h => ?_⟩
 ·obtain ⟨e2, h3⟩ := f3 h
  obtain ⟨e1, h2⟩ := f2 e2
  obtain ⟨-, h1⟩ := f1 e1
  rw [hd, tkS h1, Option.bind_some, h2, Option.bind_some, tkS h3, Option.bind_some]
 ·cases b1 with
  | true =>
   rcases t1 rfl with h1 | h1
   ·cases h1
   ·rw [hd, tkN h1, Option.bind_none]
  | false =>
   obtain ⟨-, h1⟩ := f1 rfl
   cases b2 with
   | true =>
    rcases t2 rfl with h2 | h2
    ·cases h2
    ·rw [hd, tkS h1, Option.bind_some, h2, Option.bind_none]
   | false =>
    obtain ⟨-, h2⟩ := f2 rfl
    rcases t3 h with h3 | h3
    ·cases h3
    ·rw [hd, tkS h1, Option.bind_some, h2, Option.bind_some, tkN h3, Option.bind_none]
theorem AllOk.small {ts : Toks} (h : AllOk ts) : Small ts := fun t ht => tokOk_small (h t ht)
theorem parse_i {N : Nat} (hN : 1099000000000 ≤ N) {ts : Toks} (ho : AllOk ts) (hl : ts.length ≤ 3000) :
  ((m_i_parser_take N (⟨ts, 0, false⟩ : Tparser) 2 (⟨#[100, 101, 102]⟩ : ByteArray)).bind fun x2 => ((m_i_parser_word N (⟨ts, x2.at_, x2.bad⟩ : Tparser) 2).bind fun x3 => ((m_i_parser_take N (⟨ts, x3.2.at_, x3.2.bad⟩ : Tparser) 5 (⟨#[46]⟩ : ByteArray)).bind fun x4 => m_i_ParseDef_l1 N (ts, -1) x3 N ([] : List TRule) x4.at_ x4.bad))) = some (okOutI ts (defP false ts)) := by
 obtain ⟨⟨⟩, n1, b1, h1, l1, u1, f1, t1⟩ := ptake_i (N := N) ho.good hl (k := 2) (by decide) (by decide) (s := ⟨#[100, 101, 102]⟩) (bad := false) (Nat.zero_le ts.length)
 obtain ⟨w, n2, b2, h2, l2, u2, f2, t2⟩ := pword_i (N := N) hl (k := 2) (by decide) (bad := b1) u1
 obtain ⟨⟨⟩, n3, b3, h3, l3, u3, f3, t3⟩ := ptake_i (N := N) ho.good hl (k := 5) (by decide) (by decide) (s := ⟨#[46]⟩) (bad := b2) u2
 obtain ⟨g1, g2⟩ := header (z := false) f1 t1 f2 t2 f3 t3
 rw [show (⟨ts, 0, false⟩ : Tparser) = pI ts ((0 : Nat)) false from rfl, h1, Option.bind_some, h2, Option.bind_some, h3, Option.bind_some]
 have hB : ∀ k s1 n, m_i_ParseDef_l1 N (ts, -1) (w, pI ts n2 b2) (k + 1) s1 n true = some (⟨e0, []⟩, false) := fun k s1 n => by
  simp only [m_i_ParseDef_l1, Bool.not_true, Bool.false_eq_true, if_false, Option.bind_some, if_true]
 cases b3 with
 | true =>
  obtain ⟨M, hM⟩ : ∃ M, N = M + 1 := ⟨N - 1, by omega⟩
  rw [g2 rfl]
  show m_i_ParseDef_l1 N (ts, -1) (w, pI ts n2 b2) N [] (n3 : Int) true = _
  have := hB M [] (n3 : Int)
  rw [← hM] at this
  exact this
 | false =>
  have key := rulesL ho.small hl (z := false) (KI ts) (m_i_ParseDef_l1 N (ts, -1) (w, pI ts n2 b2)) (fun n => m_i_parser_rule N (pI ts n false)) (fun s1 => m_i_ParseDef_l1 N (ts, -1) (w, pI ts n2 b2) 1 s1 (ts.length : Int) false) (some (⟨e0, []⟩, false))
   (fun n hn => rule_i' hN ho hl hn) hB (fun k s1 => by simp only [m_i_ParseDef_l1, Bool.not_false, if_true, Int.lt_irrefl, decide_false, Option.bind_some, Bool.false_eq_true, if_false])
   (fun k s1 n x n' b' hlt hs hr => by
    have ha : app s1 [x] = some (s1 ++ [x]) := app_ok (by simp; omega)
    have hr' : m_i_parser_rule N (pI ts n false) = some (x, pI ts n' b') := hr
    have hc : decide ((n : Int) < (ts.length : Int)) = true := decide_eq_true (by omega)
    simp only [m_i_ParseDef_l1, Bool.not_false, if_true, hc, Option.bind_some, hr', ha]) N 4000 n3 [] u3 (by omega) (by omega) (by simp)
  show m_i_ParseDef_l1 N (ts, -1) (w, pI ts n2 b2) N [] (n3 : Int) false = _
  rw [key, g1 rfl]
  cases hr : rulesP false 4000 (ts.drop n3) with
  | none => rfl
  | some l =>
   have hd := g1 rfl
   rw [hr] at hd
   have hz := def_z hd ho.small (by omega)
   have hne : ts ≠ [] := by rintro rfl; cases hd
   simp only [List.nil_append, Option.bind_some]
   rw [← endI hN hne hl ⟨w.S, l⟩ hz]
   simp only [m_i_ParseDef_l1, Bool.not_false, if_true, Int.lt_irrefl, decide_false, Option.bind_some, Bool.false_eq_true, if_false]
theorem parse_s {N : Nat} (hN : 1099000000000 ≤ N) {ts : Toks} (ho : AllOk ts) (hl : ts.length ≤ 3000) :
  ((m_s_l10Word N (⟨ts, 0, false⟩ : Tl10Reader) (⟨#[100, 101, 102]⟩ : ByteArray)).bind fun x2 => ((m_s_l10Next N (⟨ts, x2.at_, x2.bad⟩ : Tl10Reader) 2).bind fun x3 => ((m_s_l10Mark N (⟨ts, x3.2.at_, x3.2.bad⟩ : Tl10Reader) (⟨#[46]⟩ : ByteArray)).bind fun x4 => m_s_ParseDef_l1 N (ts, -1) x3 N ([] : List TRule) x4.at_ x4.bad))) = some (okOut ts (defP true ts)) := by
 have ho' : AllOkS ts := ho
 obtain ⟨⟨⟩, n1, b1, h1, l1, u1, f1, t1⟩ := pname_s (N := N) ho.good hl (s := ⟨#[100, 101, 102]⟩) (bad := false) (Nat.zero_le ts.length)
 obtain ⟨w, n2, b2, h2, l2, u2, f2, t2⟩ := pword_s (N := N) hl (k := 2) (bad := b1) u1
 obtain ⟨⟨⟩, n3, b3, h3, l3, u3, f3, t3⟩ := pmark_s (N := N) ho.good hl (s := ⟨#[46]⟩) (bad := b2) u2
 obtain ⟨g1, g2⟩ := header (z := true) f1 t1 f2 t2 f3 t3
 rw [show (⟨ts, 0, false⟩ : Tl10Reader) = pS ts ((0 : Nat)) false from rfl, h1, Option.bind_some, h2, Option.bind_some, h3, Option.bind_some]
 have hB : ∀ k s1 n, m_s_ParseDef_l1 N (ts, -1) (w, pS ts n2 b2) (k + 1) s1 n true = some (⟨e0, []⟩, false) := fun k s1 n => by
  cases hc : decide (n < (ts.length : Int)) <;> simp only [m_s_ParseDef_l1, hc, Bool.not_true, Bool.false_eq_true, if_false, Option.bind_some, if_true]
 cases b3 with
 | true =>
  obtain ⟨M, hM⟩ : ∃ M, N = M + 1 := ⟨N - 1, by omega⟩
  rw [g2 rfl]
  show m_s_ParseDef_l1 N (ts, -1) (w, pS ts n2 b2) N [] (n3 : Int) true = _
  have := hB M [] (n3 : Int)
  rw [← hM] at this
  exact this
 | false =>
  have key := rulesL ho.small hl (z := true) (KS ts) (m_s_ParseDef_l1 N (ts, -1) (w, pS ts n2 b2)) (fun n => m_s_l10Rule N (pS ts n false)) (fun s1 => m_s_ParseDef_l1 N (ts, -1) (w, pS ts n2 b2) 1 s1 (ts.length : Int) false) (some (⟨e0, []⟩, false))
   (fun n hn => prule_s hN ho' hl hn) hB (fun k s1 => by simp only [m_s_ParseDef_l1, Int.lt_irrefl, decide_false, Option.bind_some, Bool.false_eq_true, if_false])
   (fun k s1 n x n' b' hlt hs hr => by
    have ha : app s1 [x] = some (s1 ++ [x]) := app_ok (by simp; omega)
    have hr' : m_s_l10Rule N (pS ts n false) = some (x, pS ts n' b') := hr
    have hc : decide ((n : Int) < (ts.length : Int)) = true := decide_eq_true (by omega)
    simp only [m_s_ParseDef_l1, Bool.not_false, if_true, hc, Option.bind_some, hr', ha]) N 4000 n3 [] u3 (by omega) (by omega) (by simp)
  show m_s_ParseDef_l1 N (ts, -1) (w, pS ts n2 b2) N [] (n3 : Int) false = _
  rw [key, g1 rfl]
  cases hr : rulesP true 4000 (ts.drop n3) with
  | none => rfl
  | some l =>
   have hd := g1 rfl
   rw [hr] at hd
   have hz := def_z hd ho.small (by omega)
   simp only [List.nil_append, Option.bind_some]
   rw [← endS' (ts := ts) hN ⟨w.S, l⟩ hz]
   simp only [m_s_ParseDef_l1, Int.lt_irrefl, decide_false, Option.bind_some, Bool.false_eq_true, if_false]
theorem parse_s0 {N : Nat} (hN : 1099000000000 ≤ N) (p : Int) :
  ((m_s_l10Word N (⟨[], 0, true⟩ : Tl10Reader) (⟨#[100, 101, 102]⟩ : ByteArray)).bind fun x2 => ((m_s_l10Next N (⟨[], x2.at_, x2.bad⟩ : Tl10Reader) 2).bind fun x3 => ((m_s_l10Mark N (⟨[], x3.2.at_, x3.2.bad⟩ : Tl10Reader) (⟨#[46]⟩ : ByteArray)).bind fun x4 => m_s_ParseDef_l1 N ([], p) x3 N ([] : List TRule) x4.at_ x4.bad))) = some (⟨e0, []⟩, false) := by
 have hg : Good ([] : Toks) := by intro t ht; cases ht
 have hl : ([] : Toks).length ≤ 3000 := by simp
 obtain ⟨⟨⟩, n1, b1, h1, l1, u1, f1, t1⟩ := pname_s (N := N) hg hl (s := ⟨#[100, 101, 102]⟩) (bad := true) (Nat.zero_le _)
 obtain ⟨w, n2, b2, h2, l2, u2, f2, t2⟩ := pword_s (N := N) hl (k := 2) (bad := b1) u1
 obtain ⟨⟨⟩, n3, b3, h3, l3, u3, f3, t3⟩ := pmark_s (N := N) hg hl (s := ⟨#[46]⟩) (bad := b2) u2
 rw [show (⟨[], 0, true⟩ : Tl10Reader) = pS [] ((0 : Nat)) true from rfl, h1, Option.bind_some, h2, Option.bind_some, h3, Option.bind_some]
 have hb : b3 = true := by
  cases b3 with
  | true => rfl
  | false =>
   have := (f1 (f2 (f3 rfl).1).1).1
   cases this
 subst hb
 obtain ⟨M, hM⟩ : ∃ M, N = M + 1 := ⟨N - 1, by omega⟩
 show m_s_ParseDef_l1 N ([], p) (w, pS [] n2 b2) N [] (n3 : Int) true = _
 have hB : ∀ k s1 n, m_s_ParseDef_l1 N ([], p) (w, pS [] n2 b2) (k + 1) s1 n true = some (⟨e0, []⟩, false) := fun k s1 n => by
  cases hc : decide (n < (([] : Toks).length : Int)) <;> simp only [m_s_ParseDef_l1, hc, Bool.not_true, Bool.false_eq_true, if_false, Option.bind_some, if_true]
 have := hB M [] (n3 : Int)
 rw [← hM] at this
 exact this
theorem lexR_ok {s : ByteArray} {ts : Toks} (h : lexR s = some ts) : AllOk ts ∧ ts.length ≤ 3000 := by
 unfold lexR at h
 obtain ⟨l, h1, h2⟩ := bind_some h
 split at h2
 ·cases h2
  exact ⟨lexF_ok _ _ _ h1, by omega⟩
 ·cases h2
def parsed (s : ByteArray) : TDef × Bool := match lexR s with | some ts => okOut ts (defP true ts) | none => (⟨e0, []⟩, false)
theorem pd_i {N : Nat} (hN : 1099000000000 ≤ N) (s : ByteArray) (hs : s.size ≤ 1048576) : m_i_ParseDef N s = some (parsed s) := by
 obtain ⟨p, hp, h⟩ := lex_i hN s hs
 unfold m_i_ParseDef parsed
 rw [h, Option.bind_some]
 cases hx : lexR s with
 | none =>
  simp only
  have c : ¬ p = -1 := by omega
  simp only [c, decide_false, Bool.not_false, if_true]
 | some ts =>
  simp only [decide_true, Bool.not_true, Bool.false_eq_true, if_false]
  obtain ⟨g1, g2⟩ := lexR_ok hx
  rw [← out_eq g1.good]
  exact parse_i hN g1 g2
theorem pd_s {N : Nat} (hN : 1099000000000 ≤ N) (s : ByteArray) (hs : s.size ≤ 1048576) : m_s_ParseDef N s = some (parsed s) := by
 obtain ⟨p, hp, h⟩ := lex_s hN s hs
 unfold m_s_ParseDef parsed
 rw [h, Option.bind_some]
 cases hx : lexR s with
 | none =>
  simp only
  have c : ¬ p = -1 := by omega
  simp only [c, decide_false, Bool.not_false]
  exact parse_s0 hN p
 | some ts =>
  simp only [decide_true, Bool.not_true]
  obtain ⟨g1, g2⟩ := lexR_ok hx
  exact parse_s hN g1 g2
theorem parsed_ok (s : ByteArray) : (∃ d, parsed s = (d, true) ∧ okDef d = true ∧ SzDef d) ∨ parsed s = (⟨e0, []⟩, false) := by
 unfold parsed
 cases hx : lexR s with
 | none => exact .inr rfl
 | some ts =>
  obtain ⟨g1, g2⟩ := lexR_ok hx
  simp only
  cases hd : defP true ts with
  | none => exact .inr rfl
  | some d =>
   unfold okOut
   simp only
   by_cases c : okDef d = true
   ·rw [if_pos c]; exact .inl ⟨d, rfl, c, def_z hd g1.small (by omega)⟩
   ·rw [if_neg c]; exact .inr rfl
theorem sumC {α : Type} (f : α → Int) (C : Int) : ∀ (l : List α), (∀ x ∈ l, f x ≤ C) → (l.map f).sum ≤ C * (l.length : Int)
 | [], _ => by simp
 | x :: l, h => by
  have h1 := h x (by simp)
  have h2 := sumC f C l fun y hy => h y (by simp [hy])
  simp only [List.map_cons, List.sum_cons, List.length_cons, Int.natCast_add, Int.mul_add]
  omega
theorem tArg {a : TArg} (h : SzArg a) : totTArg a ≤ 2097152 := by
 have h1 : a.S.size ≤ 1048576 := h.1
 have h2 : a.V.S.size ≤ 1048576 := h.2
 unfold totTArg totTVal
 omega
theorem tPat {p : TPat} (h : SzPat p) (hl : p.Args.length ≤ 5) : totTPat p ≤ 20000000 := by
 obtain ⟨h1, h2, h3⟩ := h
 have := sumC totTArg 2097152 p.Args fun x hx => tArg (h3 x hx)
 unfold totTPat
 omega
theorem tExpr {e : TExpr} (h : SzExpr e) : totTExpr e ≤ 6000000 := by
 obtain ⟨h1, h2, h3⟩ := h
 have := tArg h2
 have := tArg h3
 unfold totTExpr
 omega
theorem tCond {c : TCond} (h : SzCond c) : totTCond c ≤ 6000000 := by
 obtain ⟨h1, h2⟩ := h
 have := tArg h1
 have := tArg h2
 unfold totTCond
 omega
theorem tAct {a : TAct} (h : SzAct a) : totTAct a ≤ 6400000000000 := by
 obtain ⟨h1, h2, h3, h4⟩ := h
 have := sumC totTExpr 6000000 a.Args fun x hx => tExpr (h4 x hx)
 unfold totTAct
 omega
theorem tRule {r : TRule} (h : SzRule r) (hr : okRule r = true) : totTRule r ≤ 50000000000000 := by
 obtain ⟨h1, ⟨h2, h3⟩, ⟨h4, h5⟩, ⟨h6, h7⟩, -, -⟩ := h
 obtain ⟨-, -, l1, l2, l3⟩ := rule_has hr
 have hp : ∀ p ∈ r.Pats, okPat p = true := by
  unfold okRule okPats at hr
  simp only [Bool.and_eq_true, decide_eq_true_eq] at hr
  exact patsFrom_ok _ _ hr.2.2.1.2.2
 have s1 := sumC totTPat 20000000 r.Pats fun x hx => tPat (h3 x hx) (pat_has (hp x hx)).2.1
 have s2 := sumC totTCond 6000000 r.Conds fun x hx => tCond (h5 x hx)
 have s3 := sumC totTAct 6400000000000 r.Acts fun x hx => tAct (h7 x hx)
 unfold totTRule
 omega
theorem tDef {d : TDef} (h : SzDef d) (hd : okDef d = true) : totTDef d ≤ 1125899906842624 := by
 obtain ⟨h1, h2, h3⟩ := h
 have hh := def_has hd
 have hr := okDef_rule hd
 have s1 := sumC totTRule 50000000000000 d.Rules fun x hx => tRule (h3 x hx) (hr x hx)
 unfold totTDef
 omega
theorem limDef {d : TDef} (h : SzDef d) : LimTDef d := by
 obtain ⟨h1, h2, h3⟩ := h
 refine ⟨by omega, fun r hr => ?_⟩
 obtain ⟨g1, ⟨g2, g3⟩, ⟨g4, g5⟩, ⟨g6, g7⟩, -, -⟩ := h3 r hr
 refine ⟨⟨by omega, fun p hp => ?_⟩, by omega, by omega, fun a ha => ?_⟩
 ·have := (g3 p hp).2.1
  show _ ≤ _
  omega
 ·have := (g7 a ha).2.2.1
  show _ ≤ _
  omega
theorem c_ParseDef {N : Nat} (hN : 1099000000000 ≤ N) (s : ByteArray) (h : (s.size : Int) ≤ 1048576) : ∃ r, m_s_ParseDef N s = some r ∧ m_i_ParseDef N s = some r ∧ LimTDef r.1 ∧ totTDef r.1 ≤ 1125899906842624 := by
 refine ⟨parsed s, pd_s hN s (by omega), pd_i hN s (by omega), ?_⟩
 rcases parsed_ok s with ⟨d, e, h1, h2⟩ | e
 ·rw [e]; exact ⟨limDef h2, tDef h2 h1⟩
 ·rw [e]; exact ⟨⟨by simp, by simp⟩, by decide⟩
set_option maxRecDepth 10000
theorem law_FnExactParseDef {x0 : ByteArray} (w0 : WfS x0) {N : Nat} (hN0 : 1099400000000 ≤ N) : m_l_FnExactParseDef N x0 = some true := by
 have hN : 1099000000000 ≤ N := by omega
 unfold m_l_FnExactParseDef
 by_cases c0 : (x0.size : Int) ≤ 1048576
 case neg => rw [if_pos (decide_eq_true (by omega))]
 rw [if_neg (by simp; omega)]
 have t0 : (x0.size : Int) ≤ 1048576 := by omega
 obtain ⟨r, hr, hi, rl0, rt0⟩ := c_ParseDef (N := N) (by omega) x0 t0
 have rn0 := mcnTDef_nn (r.1)
 have rm0 := mcnTDef_le (r.1)
 obtain ⟨z0_0, rk0, rq0⟩ := mk_m_l_markDef hN (r.1) rl0 (1) (by omega) (by unfold big62; omega)
 have rp0 : decide (1 + mcnTDef (r.1) < 0) = false := decide_eq_false (by omega)
 simp only [hr, hi, eq_m_l_eqDef hN  (r.1) (r.1) rl0, rk0, rq0, rp0, seq_self, Option.bind_some, decide_true, bne_self_eq_false, Bool.not_true, Bool.not_false, Bool.false_eq_true, if_false, if_true]
namespace fnExactParseDef
theorem law {x0 : ByteArray} (w0 : WfS x0) : m_l_FnExactParseDef 1099511627776 x0 = some true := law_FnExactParseDef w0 (by omega)
end fnExactParseDef
end Go.Proofs.YteipbimepilcfaaGreatDoor
