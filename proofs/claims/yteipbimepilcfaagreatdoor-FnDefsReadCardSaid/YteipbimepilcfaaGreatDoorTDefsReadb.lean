/- Plain laws, one after the other: PLDefsRead. -/
import Derived.Test.YteipbimepilcfaaGreatDoorTDefsRead
import Derived.Test.YteipbimepilcfaaGreatDoorPLib
import Derived.Test.YteipbimepilcfaaGreatDoorWDefsReadPur
import Derived.Test.YteipbimepilcfaaGreatDoorWDefsReadMod
namespace Go.Proofs.YteipbimepilcfaaGreatDoor
open Eng
set_option linter.unusedVariables false
set_option linter.unusedSimpArgs false
set_option maxRecDepth 100000
theorem inD (N : Nat) (y : UInt8) : m_s_l1In N (IntKind.i64.wrap (y.toNat : Int)) 48 57 = some (digitB y) := by rw [wrU, in0]; rfl
theorem inS (N : Nat) (y : UInt8) : m_s_l1In N (IntKind.i64.wrap (y.toNat : Int)) 97 122 = some (small y) := by rw [wrU, in0]; rfl
theorem run_s {N : Nat} (hN : 1099000000000 ≤ N) (s : ByteArray) (hs : s.size ≤ 1048576) (z : Bool) (n : Nat) (hn : n ≤ s.size) :
    m_s_l5Run N s n z = some ((n + (((Dt s).drop n).takeWhile fun y => letter y || (z && large y)).length : Nat) : Int) := by
  have hsz : s.size = (Dt s).length := rfl
  refine scanB (Dt s) (by omega) (fun k i => m_s_l5Run_l1 N s z k i) _ some (fun k i y hi hx hc hw => ?_) (fun k i hc => ?_) N n (by omega) (by omega)
  · rw [← hsz] at hc
    simp only [m_s_l5Run_l1, hc, if_true, hx, Option.bind_some, letter_s, large_s, hw]
    cases letter y <;> cases z <;> cases large y <;> rfl
  · rw [← hsz] at hc
    simp only [m_s_l5Run_l1, hc, Bool.false_eq_true, if_false, Option.bind_some]
theorem digits_s {N : Nat} (hN : 1099000000000 ≤ N) (s : ByteArray) (hs : s.size ≤ 1048576) (n : Nat) (hn : n ≤ s.size) :
    m_s_l5Digits N s n = some ((n + (((Dt s).drop n).takeWhile digitB).length : Nat) : Int) := by
  have hsz : s.size = (Dt s).length := rfl
  refine scanB (Dt s) (by omega) (fun k i => m_s_l5Digits_l1 N s k i) _ some (fun k i y hi hx hc hw => ?_) (fun k i hc => ?_) N n (by omega) (by omega)
  · rw [← hsz] at hc
    simp only [m_s_l5Digits_l1, hc, if_true, hx, Option.bind_some, inD, hw]
  · rw [← hsz] at hc
    simp only [m_s_l5Digits_l1, hc, Bool.false_eq_true, if_false, Option.bind_some]
theorem q_nat {b : UInt8} : (!decide ((b.toNat : Int) = 39)) = (b != 39) := all8 (p := fun b => (!decide ((b.toNat : Int) = 39)) = (b != 39)) (by decide) b
theorem quote_s {N : Nat} (hN : 1099000000000 ≤ N) (s : ByteArray) (hs : s.size ≤ 1048576) (n : Nat) (hn : n ≤ s.size) :
    m_s_l5Quote N s n = some ((n + (((Dt s).drop n).takeWhile fun y => y != 39).length : Nat) : Int) := by
  have hsz : s.size = (Dt s).length := rfl
  refine scanB (Dt s) (by omega) (fun k i => m_s_l5Quote_l1 N s k i) _ some (fun k i y hi hx hc hw => ?_) (fun k i hc => ?_) N n (by omega) (by omega)
  · rw [← hsz] at hc
    simp only [m_s_l5Quote_l1, hc, if_true, hx, Option.bind_some, q_nat, hw]
  · rw [← hsz] at hc
    simp only [m_s_l5Quote_l1, hc, Bool.false_eq_true, if_false, Option.bind_some]
theorem mks_0 {N k : Nat} {s : ByteArray} : m_s_l5MarkOk_l1 N s (k + 1) 0 = if seq s ⟨#[40]⟩ = true then some true else m_s_l5MarkOk_l1 N s k 1 := rfl
theorem mks_1 {N k : Nat} {s : ByteArray} : m_s_l5MarkOk_l1 N s (k + 1) 1 = if seq s ⟨#[41]⟩ = true then some true else m_s_l5MarkOk_l1 N s k 2 := rfl
theorem mks_2 {N k : Nat} {s : ByteArray} : m_s_l5MarkOk_l1 N s (k + 1) 2 = if seq s ⟨#[44]⟩ = true then some true else m_s_l5MarkOk_l1 N s k 3 := rfl
theorem mks_3 {N k : Nat} {s : ByteArray} : m_s_l5MarkOk_l1 N s (k + 1) 3 = if seq s ⟨#[46]⟩ = true then some true else m_s_l5MarkOk_l1 N s k 4 := rfl
theorem mks_4 {N k : Nat} {s : ByteArray} : m_s_l5MarkOk_l1 N s (k + 1) 4 = if seq s ⟨#[58]⟩ = true then some true else m_s_l5MarkOk_l1 N s k 5 := rfl
theorem mks_5 {N k : Nat} {s : ByteArray} : m_s_l5MarkOk_l1 N s (k + 1) 5 = if seq s ⟨#[45]⟩ = true then some true else m_s_l5MarkOk_l1 N s k 6 := rfl
theorem mks_6 {N k : Nat} {s : ByteArray} : m_s_l5MarkOk_l1 N s (k + 1) 6 = if seq s ⟨#[43]⟩ = true then some true else m_s_l5MarkOk_l1 N s k 7 := rfl
theorem mks_7 {N k : Nat} {s : ByteArray} : m_s_l5MarkOk_l1 N s (k + 1) 7 = if seq s ⟨#[61]⟩ = true then some true else m_s_l5MarkOk_l1 N s k 8 := rfl
theorem mks_8 {N k : Nat} {s : ByteArray} : m_s_l5MarkOk_l1 N s (k + 1) 8 = if seq s ⟨#[35]⟩ = true then some true else m_s_l5MarkOk_l1 N s k 9 := rfl
theorem mks_9 {N k : Nat} {s : ByteArray} : m_s_l5MarkOk_l1 N s (k + 1) 9 = if seq s ⟨#[60]⟩ = true then some true else m_s_l5MarkOk_l1 N s k 10 := rfl
theorem mks_10 {N k : Nat} {s : ByteArray} : m_s_l5MarkOk_l1 N s (k + 1) 10 = if seq s ⟨#[33]⟩ = true then some true else m_s_l5MarkOk_l1 N s k 11 := rfl
theorem mks_11 {N k : Nat} {s : ByteArray} : m_s_l5MarkOk_l1 N s (k + 1) 11 = if seq s ⟨#[95]⟩ = true then some true else m_s_l5MarkOk_l1 N s k 12 := rfl
theorem mks_12 {N k : Nat} {s : ByteArray} : m_s_l5MarkOk_l1 N s (k + 1) 12 = some false := rfl
theorem mark_s {N : Nat} (hN : 1099000000000 ≤ N) (s : ByteArray) : m_s_l5MarkOk N s = some (markB s) := by
  have key : ∀ M, m_s_l5MarkOk_l1 N s (M + 13) 0 = some ((s = ⟨#[40]⟩ : Bool) || (s = ⟨#[41]⟩ : Bool) || (s = ⟨#[44]⟩ : Bool) || (s = ⟨#[46]⟩ : Bool) || (s = ⟨#[58]⟩ : Bool) || (s = ⟨#[45]⟩ : Bool) || (s = ⟨#[43]⟩ : Bool) || (s = ⟨#[61]⟩ : Bool) || (s = ⟨#[35]⟩ : Bool) || (s = ⟨#[60]⟩ : Bool) || (s = ⟨#[33]⟩ : Bool) || (s = ⟨#[95]⟩ : Bool)) := by
    intro M
    rw [mks_0, mks_1, mks_2, mks_3, mks_4, mks_5, mks_6, mks_7, mks_8, mks_9, mks_10, mks_11, mks_12]
    simp only [seq_eq]
    generalize decide (s = ⟨#[40]⟩) = b0
    generalize decide (s = ⟨#[41]⟩) = b1
    generalize decide (s = ⟨#[44]⟩) = b2
    generalize decide (s = ⟨#[46]⟩) = b3
    generalize decide (s = ⟨#[58]⟩) = b4
    generalize decide (s = ⟨#[45]⟩) = b5
    generalize decide (s = ⟨#[43]⟩) = b6
    generalize decide (s = ⟨#[61]⟩) = b7
    generalize decide (s = ⟨#[35]⟩) = b8
    generalize decide (s = ⟨#[60]⟩) = b9
    generalize decide (s = ⟨#[33]⟩) = b10
    generalize decide (s = ⟨#[95]⟩) = b11
    cases b0
    case true => rfl
    cases b1
    case true => rfl
    cases b2
    case true => rfl
    cases b3
    case true => rfl
    cases b4
    case true => rfl
    cases b5
    case true => rfl
    cases b6
    case true => rfl
    cases b7
    case true => rfl
    cases b8
    case true => rfl
    cases b9
    case true => rfl
    cases b10
    case true => rfl
    cases b11 <;> rfl
  have h := key (N - 13)
  rw [show N - 13 + 13 = N by omega] at h
  unfold m_s_l5MarkOk markB
  rw [h, seq_eq]
  by_cases c : s = ⟨#[45, 62]⟩
  · rw [if_pos (decide_eq_true c), decide_eq_true c]
    simp
  · rw [if_neg (by simpa using c), decide_eq_false c, Bool.or_false]
theorem tokOk_s {N : Nat} (hN : 1099000000000 ≤ N) (t : TToken) (hs : t.S.size ≤ 1048576) : m_s_TokenOk N t = some (tokOk t) := by
  unfold m_s_TokenOk tokOk
  simp only [in0, okName_s hN _ hs, var_s hN _ hs, plain_s (show 1048578 ≤ N by omega) _ hs, mark_s hN, Option.bind_some, decide_eq_true_eq]
  split
  · cases (decide (0 ≤ t.N) && decide (t.N ≤ 1000000000)) <;> simp
  split
  · cases okName t.S <;> simp
  split
  · cases varOk t.S <;> simp
  split
  · cases (wordAll t.S && decide ((t.S.size : Int) ≤ 20)) <;> simp
  split
  · cases markB t.S <;> simp
  · rfl
theorem digitVal_eq' {d : UInt8} {e : Nat} (h : Go.Lib.digitVal d = some e) : d = UInt8.ofNat (48 + e) ∧ e < 10 := by
  obtain ⟨h1, h2, rfl⟩ := Go.Lib.digitVal_eq h
  refine ⟨?_, by omega⟩
  rw [show 48 + (d.toNat - 48) = d.toNat by omega, UInt8.ofNat_toNat]
theorem decFrom_snoc : ∀ (l : Bs) (a : Nat) (d : UInt8) (m : Nat), Go.Lib.decFrom a (l ++ [d]) = some m → ∃ n e, Go.Lib.decFrom a l = some n ∧ Go.Lib.digitVal d = some e ∧ m = n * 10 + e
  | [], a, d, m, h => by
    simp only [List.nil_append, Go.Lib.decFrom] at h
    cases hd : Go.Lib.digitVal d with
    | none => rw [hd] at h; cases h
    | some e => rw [hd] at h; simp only [Option.some.injEq] at h; exact ⟨a, e, rfl, rfl, h.symm⟩
  | b :: l, a, d, m, h => by
    simp only [List.cons_append, Go.Lib.decFrom] at h ⊢
    cases hb : Go.Lib.digitVal b with
    | none => rw [hb] at h; cases h
    | some e => rw [hb] at h; exact decFrom_snoc l _ d m h
theorem decFrom_ge : ∀ (l : Bs) (a m : Nat), Go.Lib.decFrom a l = some m → a ≤ m
  | [], a, m, h => by simp only [Go.Lib.decFrom, Option.some.injEq] at h; omega
  | b :: l, a, m, h => by
    simp only [Go.Lib.decFrom] at h
    cases hb : Go.Lib.digitVal b with
    | none => rw [hb] at h; cases h
    | some e => rw [hb] at h; have := decFrom_ge l _ m h; omega
theorem canon : ∀ (k : Nat) (l : Bs) (m : Nat), l.length = k + 1 → (k = 0 ∨ l.head? ≠ some 48) → Go.Lib.decFrom 0 l = some m → Go.Lib.decDigits m = l := by
  intro k
  induction k with
  | zero =>
    intro l m hl _ h
    match l, hl with
    | [d], _ =>
      simp only [Go.Lib.decFrom] at h
      cases hd : Go.Lib.digitVal d with
      | none => rw [hd] at h; cases h
      | some e =>
        rw [hd] at h
        simp only [Option.some.injEq] at h
        obtain ⟨h1, h2⟩ := digitVal_eq' hd
        rw [← h, Nat.zero_mul, Nat.zero_add, Go.Lib.decDigits, dif_pos h2, h1]
  | succ k ih =>
    intro l m hl hc h
    have hne : l ≠ [] := by rintro rfl; simp at hl
    obtain ⟨l', d, rfl⟩ : ∃ l' d, l = l' ++ [d] := by
      rcases List.eq_nil_or_concat l with e | ⟨l', d, e⟩
      · exact absurd e hne
      · exact ⟨l', d, by rw [e, List.concat_eq_append]⟩
    simp at hl
    obtain ⟨n, e, h1, h2, rfl⟩ := decFrom_snoc _ _ _ _ h
    obtain ⟨hd, he⟩ := digitVal_eq' h2
    have hh : l'.head? ≠ some 48 := by
      rcases hc with hc | hc
      · omega
      · cases l' with
        | nil => simp at hl
        | cons b l' => simpa using hc
    have hi := ih l' n (by omega) (.inr hh) h1
    have hn : 1 ≤ n := by
      cases l' with
      | nil => simp at hl
      | cons b l' =>
        simp only [Go.Lib.decFrom] at h1
        cases hb : Go.Lib.digitVal b with
        | none => rw [hb] at h1; cases h1
        | some x =>
          rw [hb] at h1
          have := decFrom_ge _ _ _ h1
          obtain ⟨g1, g2⟩ := digitVal_eq' hb
          have : x ≠ 0 := by rintro rfl; apply hh; rw [g1]; rfl
          omega
    rw [Go.Lib.decDigits, dif_neg (by omega), show (n * 10 + e) / 10 = n by omega, show (n * 10 + e) % 10 = e by omega, hi, hd]
theorem dec_head : ∀ (m : Nat), (Go.Lib.decDigits m).head? = some 48 → m = 0 := by
  intro m
  induction m using Nat.strongRecOn with
  | _ m ih =>
    intro h
    rw [Go.Lib.decDigits] at h
    split at h
    · rename_i hm
      simp only [List.head?_cons, Option.some.injEq] at h
      have : ∀ i : Fin 10, UInt8.ofNat (48 + i.val) = 48 → i.val = 0 := by decide
      exact this ⟨m, hm⟩ h
    · have h2 := decD_ne (m / 10)
      cases hc : Go.Lib.decDigits (m / 10) with
      | nil => exact absurd hc h2
      | cons b l =>
        rw [hc] at h
        simp only [List.cons_append, List.head?_cons] at h
        have := ih (m / 10) (by omega) (by rw [hc]; exact h)
        omega
theorem whole_l {N : Nat} (l : Bs) (hl : l.length ≤ 10) : ∀ (t : Bs) (i k a : Nat), l.drop i = t → (∀ b ∈ t, digitB b = true) → t.length < k → a < 10 ^ i →
    m_s_l2Whole_l1 N (bA l) k (a : Int) (i : Int) = (Go.Lib.decFrom a t).map fun (m : Nat) => (m : Int)
  | [], i, k + 1, a, hd, _, _, _ => by
    have : l.length ≤ i := by have := congrArg List.length hd; rw [List.length_drop] at this; simp at this; omega
    have c : decide ((i : Int) < ((bA l).size : Int)) = false := decide_eq_false (by show ¬ (i : Int) < ((l.length : Nat) : Int); omega)
    simp only [m_s_l2Whole_l1, c, Bool.false_eq_true, if_false]
    rfl
  | b :: t, i, k + 1, a, hd, hb, hk, ha => by
    obtain ⟨h1, hx, hlen, hd1⟩ := at_drop hd
    have c : decide ((i : Int) < ((bA l).size : Int)) = true := decide_eq_true (by show (i : Int) < ((l.length : Nat) : Int); omega)
    have hbd := hb b (by simp)
    have hd' : ∃ d, Go.Lib.digitVal b = some d := by
      have : ∀ b : UInt8, digitB b = true → (Go.Lib.digitVal b).isSome = true := all8 (by decide)
      exact Option.isSome_iff_exists.1 (this b hbd)
    obtain ⟨d, hdv⟩ := hd'
    obtain ⟨g1, g2, rfl⟩ := Go.Lib.digitVal_eq hdv
    have hp : 10 ^ i ≤ 10 ^ 9 := Nat.pow_le_pow_right (by omega) (by omega)
    have e1 : IntKind.u8.wrap ((b.toNat : Int) - 48) = ((b.toNat - 48 : Nat) : Int) := by
      simp only [IntKind.wrap, IntKind.bits, IntKind.signed]
      have e1 : (2 : Int) ^ 8 = 256 := by decide
      simp only [e1, Bool.false_and, Bool.false_eq_true, if_false]
      omega
    have e2 : IntKind.i64.wrap (((IntKind.i64.wrap ((a : Int) * 10)) : Int) + IntKind.i64.wrap (IntKind.u8.wrap ((b.toNat : Int) - 48))) = ((a * 10 + (b.toNat - 48) : Nat) : Int) := by
      rw [e1, wr (n := (a : Int) * 10) (by omega) (by omega), wr (n := ((b.toNat - 48 : Nat) : Int)) (by omega) (by omega), wr (by omega) (by omega)]; omega
    have hw : IntKind.i64.wrap ((i : Int) + 1) = ((i + 1 : Nat) : Int) := wr1 i (by omega)
    have ih := whole_l (N := N) l hl t (i + 1) k (a * 10 + (b.toNat - 48)) hd1 (fun c hc => hb c (by simp [hc])) (by simp at hk; omega) (by rw [Nat.pow_succ]; omega)
    simp only [m_s_l2Whole_l1, c, if_true, bA_data, hx, Option.bind_some, inD, hbd, Bool.not_true, Bool.false_eq_true, if_false, e2, hw, ih, Go.Lib.decFrom, hdv]
theorem whole_s {N : Nat} (hN : 1099000000000 ≤ N) {l : Bs} (h : ∀ b ∈ l, digitB b = true) (h0 : l ≠ []) (hl : l.length ≤ 1048576) {m : Nat} (hm : Go.Lib.decFrom 0 l = some m) :
    m_s_l2Whole N (bA l) = some (match numOf l with | some v => v | none => -1) := by
  have ha := atoi_digits h h0
  rw [hm] at ha
  simp only [Option.map_some] at ha
  have hi : Go.Lib.itoa (m : Int) = Go.Lib.decDigits m := by unfold Go.Lib.itoa; rw [if_neg (by omega)]; rfl
  have hlen : 1 ≤ l.length := by cases l; exact absurd rfl h0; simp
  unfold m_s_l2Whole numOf
  rw [in0, Option.bind_some, ha, Option.bind_some, hi]
  by_cases h10 : l.length ≤ 10
  · have c1 : (decide ((1 : Int) ≤ ((bA l).size : Int)) && decide (((bA l).size : Int) ≤ 10)) = true := by
      have : ((bA l).size : Int) = (l.length : Int) := rfl
      simp; omega
    rw [if_pos h10, c1]
    simp only [Bool.not_true, Bool.false_eq_true, if_false]
    have key : ((if decide ((1 : Int) < ((bA l).size : Int)) = true then ((idx (bA l).data.toList 0).bind fun y1 => some (decide ((y1.toNat : Int) = 48))) else some false).bind fun b2 => some b2) = some (decide (1 < l.length ∧ l.head? = some 48)) := by
      cases l with
      | nil => exact absurd rfl h0
      | cons b l =>
        have h1 : idx (bA (b :: l)).data.toList 0 = some b := rfl
        have h2 : decide ((1 : Int) < ((bA (b :: l)).size : Int)) = decide (1 < (b :: l).length) := by
          have : ((bA (b :: l)).size : Int) = ((b :: l).length : Int) := rfl
          rw [this]; apply decide_eq_decide.2; omega
        have h3 : decide ((b.toNat : Int) = 48) = decide (b = 48) := all8 (p := fun b => decide ((b.toNat : Int) = 48) = decide (b = 48)) (by decide) b
        rw [h1, h2, Option.bind_some, h3]
        by_cases c : 1 < (b :: l).length
        · rw [decide_eq_true c, if_pos rfl, Option.bind_some]
          have e : (1 < (b :: l).length ∧ (b :: l).head? = some 48) ↔ b = 48 := ⟨fun e => by simpa using e.2, fun e => ⟨c, by rw [e]; rfl⟩⟩
          rw [decide_eq_decide.2 e]
        · rw [decide_eq_false c]
          have e : ¬ (1 < (b :: l).length ∧ (b :: l).head? = some 48) := fun e => c e.1
          rw [decide_eq_false e]
          rfl
    rw [key, Option.bind_some]
    by_cases hc : 1 < l.length ∧ l.head? = some 48
    · rw [if_pos (decide_eq_true hc), if_neg]
      intro e
      have := dec_head m (by rw [e]; exact hc.2)
      subst this
      have := congrArg List.length e
      rw [Go.Lib.decDigits, dif_pos (by omega)] at this
      simp at this; omega
    · rw [if_neg (by simpa using hc), canon (l.length - 1) l m (by omega) (by
        by_cases h1 : l.length = 1
        · exact .inl (by omega)
        · exact .inr fun e => hc ⟨by omega, e⟩) hm, if_pos rfl]
      have := whole_l (N := N) l h10 l 0 N 0 rfl h (by omega) (by simp)
      rw [hm] at this
      exact this
  · have c1 : (decide ((1 : Int) ≤ ((bA l).size : Int)) && decide (((bA l).size : Int) ≤ 10)) = false := by
      have : ((bA l).size : Int) = (l.length : Int) := rfl
      simp; omega
    rw [if_neg h10, c1]
    rfl
theorem pass_s {N : Nat} (hN : 1099000000000 ≤ N) (s : ByteArray) (hs : s.size ≤ 1048576) : ∀ (k n : Nat), n ≤ s.size → s.size - n < k →
    ∃ n', n ≤ n' ∧ n' ≤ s.size ∧ m_s_l5Pass_l1 N s k (n : Int) = some (n' : Int) ∧ lexL ((Dt s).drop n') = lexL ((Dt s).drop n) ∧ (∀ b l, (Dt s).drop n' = b :: l → blankB b = false ∧ b ≠ 37) := by
  have hsz : (Dt s).length = s.size := rfl
  intro k
  induction k with
  | zero => intro n _ h; omega
  | succ k ih =>
    intro n hn hk
    cases hd : (Dt s).drop n with
    | nil =>
      have : n = s.size := by have := congrArg List.length hd; rw [List.length_drop] at this; simp at this; omega
      have c : decide ((n : Int) < (s.size : Int)) = false := decide_eq_false (by omega)
      refine ⟨n, Nat.le_refl _, hn, ?_, by rw [hd], fun b l h => by rw [hd] at h; cases h⟩
      simp only [m_s_l5Pass_l1, c, Bool.false_eq_true, if_false]
    | cons b l =>
      obtain ⟨h1, hx, hlen, hd1⟩ := at_drop hd
      have c : decide ((n : Int) < (s.size : Int)) = true := decide_eq_true (by omega)
      have hw : IntKind.i64.wrap ((n : Int) + 1) = ((n + 1 : Nat) : Int) := wr1 n (by omega)
      have hbl := @blank_nat b
      have key : m_s_l5Pass_l1 N s (k + 1) (n : Int) = if blankB b = true then m_s_l5Pass_l1 N s k ((n + 1 : Nat) : Int) else if b = 37 then m_s_l5Pass_l2 N s (m_s_l5Pass_l1 N s k) N (n : Int) else some (n : Int) := by
        have r37 := @rem_nat b
        simp only [m_s_l5Pass_l1, c, if_true, hx, Option.bind_some, hw, r37, hbl, decide_eq_true_eq]
        by_cases c1 : (b.toNat : Int) = 32
        · simp [c1]
        by_cases c2 : (b.toNat : Int) = 9
        · simp [c2]
        by_cases c3 : (b.toNat : Int) = 10
        · simp [c3]
        by_cases c4 : (b.toNat : Int) = 13
        · simp [c4]
        · have hq : ((b.toNat : Int) = 37) = (b = 37) := propext (decide_eq_decide.1 r37)
          simp [c1, c2, c3, c4, hq]
      rw [key]
      by_cases hb : blankB b = true
      · rw [if_pos hb]
        obtain ⟨n', g1, g2, g3, g4, g5⟩ := ih (n + 1) (by omega) (by omega)
        refine ⟨n', by omega, g2, g3, ?_, g5⟩
        rw [g4, hd1, lexL_cons, if_pos hb]
      rw [if_neg hb]
      by_cases h37 : b = 37
      · rw [if_pos h37]
        have hr := run_le (s := s) (n := n) (p := fun y => y != 10) hn
        have hpos : 0 < (((Dt s).drop n).takeWhile fun y => y != 10).length := by rw [hd, List.takeWhile_cons, if_pos (by subst h37; decide)]; simp
        have hsc := scanB (Dt s) (by omega) (fun k' i => m_s_l5Pass_l2 N s (m_s_l5Pass_l1 N s k) k' i) (fun y => y != 10) (fun i => m_s_l5Pass_l1 N s k i) (fun k' i y hi hx' hc hw' => by
          rw [hsz] at hc
          simp only [m_s_l5Pass_l2, hc, if_true, hx', Option.bind_some, nl_nat, hw']) (fun k' i hc => by
          rw [hsz] at hc
          simp only [m_s_l5Pass_l2, hc, Bool.false_eq_true, if_false, Option.bind_some]) N n (by omega) (by omega)
        rw [hsc]
        obtain ⟨n', g1, g2, g3, g4, g5⟩ := ih _ hr (by omega)
        refine ⟨n', by omega, g2, g3, ?_, g5⟩
        rw [g4, run_drop, hd, lexL_cons (l := l), if_neg hb, if_pos h37]
      · rw [if_neg h37]
        refine ⟨n, Nat.le_refl _, hn, rfl, by rw [hd], fun b' l' h => ?_⟩
        rw [hd] at h
        injection h with h _
        subst h
        exact ⟨by simpa using hb, h37⟩
theorem mk2 {b c : UInt8} : markB (bA [b, c]) = decide (b = 45 ∧ c = 62) := by
  have e : ∀ l : Bs, decide (bA [b, c] = bA l) = decide ([b, c] = l) := fun l => decide_eq_decide.2 ⟨fun h => congrArg (fun s : ByteArray => s.data.toList) h, fun h => by rw [h]⟩
  unfold markB
  have z : ∀ x : UInt8, decide (bA [b, c] = bA [x]) = false := fun x => by rw [e]; simp
  have := z 40; have := z 41; have := z 44; have := z 46; have := z 58; have := z 45; have := z 43; have := z 61; have := z 35; have := z 60; have := z 33; have := z 95
  have h2 := e [45, 62]
  simp only [bA] at *
  simp [*]
theorem one_s {N : Nat} (hN : 1099000000000 ≤ N) (s : ByteArray) (hs : s.size ≤ 1048576) (n : Nat) (b : UInt8) (l : Bs) (hd : (Dt s).drop n = b :: l) :
    ∃ t e, m_s_l5One N s n = some (t, e) ∧ t.S.size ≤ 1048576 ∧ OneAt s n t e (tokOk t) := by
  obtain ⟨hn, hx, hlen, hd1⟩ := at_drop hd
  have hsz : (Dt s).length = s.size := rfl
  have hn' : n ≤ s.size := by omega
  have rle : ∀ p : UInt8 → Bool, (bA (((Dt s).drop n).takeWhile p)).size ≤ 1048576 := fun p => by
    show (((Dt s).drop n).takeWhile p).length ≤ _
    have h1 := takeW_le (p := p) ((Dt s).drop n)
    rw [List.length_drop] at h1; omega
  unfold m_s_l5One
  rw [hx, Option.bind_some, inD, Option.bind_some]
  by_cases c1 : digitB b = true
  · rw [if_pos c1, digits_s hN s hs n hn', Option.bind_some, sst_run hn', Option.bind_some]
    have hall : ∀ x ∈ ((Dt s).drop n).takeWhile digitB, digitB x = true := by
      have : ∀ (l : Bs), ∀ x ∈ l.takeWhile digitB, digitB x = true := by
        intro l
        induction l with
        | nil => intro x h; simp at h
        | cons c l ih =>
          intro x h
          rw [List.takeWhile_cons] at h
          split at h
          · rename_i hc
            rcases List.mem_cons.1 h with rfl | h
            · exact hc
            · exact ih x h
          · cases h
      exact this _
    have hne : ((Dt s).drop n).takeWhile digitB ≠ [] := by rw [hd, List.takeWhile_cons, if_pos c1]; simp
    have hv : ∃ m, Go.Lib.decFrom 0 (((Dt s).drop n).takeWhile digitB) = some m := by
      have key : ∀ (l : Bs) (a : Nat), (∀ b ∈ l, digitB b = true) → ∃ m, Go.Lib.decFrom a l = some m := by
        intro l
        induction l with
        | nil => intro a _; exact ⟨a, rfl⟩
        | cons b l ih =>
          intro a h
          have hd : ∃ d, Go.Lib.digitVal b = some d := by
            have : ∀ b : UInt8, digitB b = true → (Go.Lib.digitVal b).isSome = true := all8 (by decide)
            exact Option.isSome_iff_exists.1 (this b (h b (by simp)))
          obtain ⟨d, hd⟩ := hd
          simp only [Go.Lib.decFrom, hd]
          exact ih _ fun c hc => h c (by simp [hc])
      exact key _ 0 hall
    obtain ⟨m, hm⟩ := hv
    rw [whole_s hN hall hne (rle _) hm, Option.bind_some]
    refine ⟨_, _, rfl, by show 0 ≤ 1048576; omega, ?_⟩
    cases hv : numOf (((Dt s).drop n).takeWhile digitB) with
    | none =>
      unfold OneAt
      rw [hd] at hv ⊢
      simp only [oneL, c1, if_true, hv, Option.bind_none]
      rfl
    | some w =>
      have h1 : oneL (b :: l) = ifOk (inT w) ((b :: l).dropWhile digitB) := by
        rw [hd] at hv
        simp only [oneL, c1, if_true, hv, Option.bind_some]
      exact OneAt.run hd c1 h1
  rw [if_neg c1, inS, Option.bind_some]
  by_cases c2 : small b = true
  · have e : (fun y : UInt8 => letter y || (false && large y)) = letter := by funext y; simp
    rw [if_pos c2, run_s hN s hs false n hn', Option.bind_some, e, sst_run hn', Option.bind_some]
    refine ⟨_, _, rfl, rle _, ?_⟩
    refine OneAt.run hd (small_letter c2) ?_
    simp only [oneL, c1, c2, Bool.false_eq_true, if_false, if_true, hd]
    rfl
  rw [if_neg c2, large_s, Option.bind_some]
  by_cases c3 : large b = true
  · have e : (fun y : UInt8 => letter y || (true && large y)) = wide := by funext y; simp [wide]
    rw [if_pos c3, run_s hN s hs true n hn', Option.bind_some, e, sst_run hn', Option.bind_some]
    refine ⟨_, _, rfl, rle _, ?_⟩
    refine OneAt.run hd (by unfold wide; simp [c3]) ?_
    simp only [oneL, c1, c2, c3, Bool.false_eq_true, if_false, if_true, hd]
  rw [if_neg c3]
  have hw : IntKind.i64.wrap ((n : Int) + 1) = ((n + 1 : Nat) : Int) := wr1 n (by omega)
  have w2 : IntKind.i64.wrap ((n : Int) + 2) = ((n + 2 : Nat) : Int) := by rw [wr (by omega) (by omega)]; omega
  by_cases c4 : b = 39
  · subst c4
    have e4 : decide (((39 : UInt8).toNat : Int) = 39) = true := by decide
    have hle := takeW_le (p := fun y => y != 39) l
    have hdr := drop_takeW (p := fun y => y != 39) l
    rw [if_pos e4, hw, quote_s hN s hs (n + 1) (by omega), Option.bind_some, hd1]
    by_cases hend : n + 1 + (l.takeWhile fun y => y != 39).length = s.size
    · have hnil : l.dropWhile (fun y => y != 39) = [] := by
        have := congrArg List.length hdr
        rw [List.length_drop] at this
        exact List.length_eq_zero_iff.1 (by omega)
      rw [if_pos (decide_eq_true (by omega))]
      refine ⟨_, _, rfl, by show 0 ≤ 1048576; omega, ?_⟩
      unfold OneAt
      rw [hd]
      simp only [oneL, c1, c2, c3, Bool.false_eq_true, if_false, if_true, hnil]
      rfl
    · have hlt : (l.takeWhile fun y => y != 39).length < l.length := by omega
      have hz := sst_run (s := s) (n := n + 1) (p := fun y => y != 39) (by omega)
      rw [hd1] at hz
      have w3 : IntKind.i64.wrap (((n + 1 + (l.takeWhile fun y => y != 39).length : Nat) : Int) + 1) = ((n + 1 + (l.takeWhile fun y => y != 39).length + 1 : Nat) : Int) := wr1 _ (by omega)
      rw [if_neg (by simp only [decide_eq_true_eq]; omega), hz, Option.bind_some, w3]
      refine ⟨_, _, rfl, by show (l.takeWhile fun y => y != 39).length ≤ _; omega, ?_⟩
      cases hr : l.dropWhile (fun y => y != 39) with
      | nil =>
        have := congrArg List.length hdr
        rw [hr, List.length_drop] at this
        simp at this; omega
      | cons q r =>
        have h1 : oneL (39 :: l) = ifOk ⟨4, 0, bA (l.takeWhile fun y => y != 39)⟩ r := by
          simp only [oneL, c1, c2, c3, Bool.false_eq_true, if_false, if_true, hr]
        unfold OneAt
        rw [hd, h1]
        unfold ifOk
        by_cases ho : tokOk ⟨4, 0, bA (l.takeWhile fun y => y != 39)⟩ = true
        · rw [if_pos ho]
          refine ⟨ho, rfl, _, rfl, by omega, by omega, ?_⟩
          have e6 : (Dt s).drop (n + 1 + (l.takeWhile fun y => y != 39).length) = q :: r := by
            rw [← List.drop_drop, hd1, hdr, hr]
          rw [← List.drop_drop, e6]
          rfl
        · rw [if_neg ho]
          exact (Bool.not_eq_true _).mp ho
  have e4 : decide ((b.toNat : Int) = 39) = false := decide_eq_false fun e => c4 (UInt8.toNat_inj.1 (by show b.toNat = 39; omega))
  rw [if_neg (by rw [e4]; simp), hw, w2]
  have hone : ∀ (_ : ¬ (b = 45 ∧ l.head? = some 62)), ∃ t e, ((sst s (n : Int) ((n + 1 : Nat) : Int)).bind fun z7 => some ((⟨5, 0, z7⟩ : TToken), ((n + 1 : Nat) : Int))) = some (t, e) ∧ t.S.size ≤ 1048576 ∧ OneAt s n t e (tokOk t) := by
    intro c5
    have hz : sst s (n : Int) ((n + 1 : Nat) : Int) = some (bA [b]) := by
      rw [sst_of (by omega) (by omega), hd, Nat.add_sub_cancel_left]
      rfl
    rw [hz, Option.bind_some]
    refine ⟨_, _, rfl, by show 1 ≤ 1048576; omega, ?_⟩
    have h1 : oneL (b :: l) = ifOk (mkT (bA [b])) l := by
      simp only [oneL, c1, c2, c3, c4, c5, Bool.false_eq_true, if_false]
    unfold OneAt
    rw [hd, h1]
    unfold ifOk
    by_cases ho : tokOk (mkT (bA [b])) = true
    · rw [if_pos ho]
      exact ⟨ho, rfl, _, rfl, by omega, by omega, hd1⟩
    · rw [if_neg ho]
      exact (Bool.not_eq_true _).mp ho
  cases l with
  | nil =>
    have c : decide (((n + 1 : Nat) : Int) < (s.size : Int)) = false := decide_eq_false (by simp at hlen; omega)
    simp only [c, Bool.false_eq_true, if_false, Option.bind_some]
    exact hone (by rintro ⟨_, h⟩; cases h)
  | cons d l =>
    simp only [List.length_cons] at hlen
    have c : decide (((n + 1 : Nat) : Int) < (s.size : Int)) = true := decide_eq_true (by omega)
    have hz : sst s (n : Int) ((n + 2 : Nat) : Int) = some (bA [b, d]) := by
      rw [sst_of (by omega) (by omega), hd, Nat.add_sub_cancel_left]
      rfl
    simp only [c, if_true, hz, Option.bind_some, mark_s hN, mk2]
    by_cases c5 : b = 45 ∧ d = 62
    · rw [if_pos (decide_eq_true c5)]
      obtain ⟨rfl, rfl⟩ := c5
      refine ⟨_, _, rfl, by show 2 ≤ 1048576; omega, ?_⟩
      unfold OneAt
      rw [hd]
      simp only [oneL, c1, c2, c3, c4, Bool.false_eq_true, if_false, List.head?_cons, and_self, if_true]
      rw [ifOk, if_pos (by decide)]
      refine ⟨by decide, rfl, _, rfl, by omega, by omega, ?_⟩
      rw [← List.drop_drop, hd]
      rfl
    · rw [if_neg (by simpa using c5)]
      exact hone (by simpa using c5)
theorem lex_s1 {N : Nat} (hN : 1099000000000 ≤ N) (s : ByteArray) (hs : s.size ≤ 1048576) : ∀ (k n : Nat) (s1 : Toks), n ≤ s.size → s.size - n < k → s1.length ≤ 3000 → (∀ b l, (Dt s).drop n = b :: l → blankB b = false ∧ b ≠ 37) →
    ∃ p, 0 ≤ p ∧ m_s_Lex_l1 N s k s1 (n : Int) = some (resL s1 (lexL ((Dt s).drop n)) p) := by
  have hsz : (Dt s).length = s.size := rfl
  intro k
  induction k with
  | zero => intro n s1 _ h; omega
  | succ k ih =>
    intro n s1 hn hk hs1 hbl
    cases hd : (Dt s).drop n with
    | nil =>
      have : n = s.size := by have := congrArg List.length hd; rw [List.length_drop] at this; simp at this; omega
      have c : decide ((n : Int) < (s.size : Int)) = false := decide_eq_false (by omega)
      refine ⟨0, by omega, ?_⟩
      simp only [m_s_Lex_l1, c, Bool.false_eq_true, if_false]
      show some (s1, -1) = some (resL s1 (some []) 0)
      unfold resL
      simp only [List.length_nil, Nat.add_zero, hs1, if_true, List.append_nil]
    | cons b l =>
      obtain ⟨h1, hx, hlen, hd1⟩ := at_drop hd
      have c : decide ((n : Int) < (s.size : Int)) = true := decide_eq_true (by omega)
      obtain ⟨hb, c5⟩ := hbl b l hd
      obtain ⟨t, e, ht, hts, ho⟩ := one_s hN s hs n b l hd
      obtain ⟨r1, r2⟩ := resL_step hd hb c5 ho hs1
      rw [hd] at r1 r2
      simp only [m_s_Lex_l1, c, if_true, ht, Option.bind_some, tokOk_s hN t hts]
      cases hok : tokOk t with
      | false =>
        refine ⟨n, by omega, ?_⟩
        rw [r1 (.inl hok)]
        rfl
      | true =>
        by_cases h3 : s1.length = 3000
        · refine ⟨n, by omega, ?_⟩
          rw [r1 (.inr h3)]
          have : decide ((s1.length : Int) = 3000) = true := decide_eq_true (by omega)
          simp only [Bool.not_true, Bool.false_eq_true, if_false, this, Option.bind_some, if_true]
        · obtain ⟨n', rfl, g1, g2, g3⟩ := r2 hok h3
          have : decide ((s1.length : Int) = 3000) = false := decide_eq_false (by omega)
          obtain ⟨n2, q1, q2, q3, q4, q5⟩ := pass_s hN s hs N n' g2 (by omega)
          obtain ⟨p, hp, he⟩ := ih n2 (s1 ++ [t]) q2 (by omega) (by simp; omega) q5
          refine ⟨p, hp, ?_⟩
          rw [g3, ← q4]
          have hpass : m_s_l5Pass N s (n' : Int) = some (n2 : Int) := q3
          simp only [Bool.not_true, Bool.false_eq_true, if_false, this, Option.bind_some, app_ok (show s1.length + [t].length ≤ 4294967296 by simp; omega), hpass]
          exact he
theorem lex_s {N : Nat} (hN : 1099000000000 ≤ N) (s : ByteArray) (hs : s.size ≤ 1048576) : ∃ p, 0 ≤ p ∧ m_s_Lex N s = some (match lexR s with | some ts => (ts, -1) | none => ([], p)) := by
  obtain ⟨n2, q1, q2, q3, q4, q5⟩ := pass_s hN s hs N 0 (by omega) (by omega)
  obtain ⟨p, hp, h⟩ := lex_s1 hN s hs N n2 [] q2 (by omega) (by simp) q5
  refine ⟨p, hp, ?_⟩
  have hpass : m_s_l5Pass N s 0 = some (n2 : Int) := q3
  unfold m_s_Lex
  rw [hpass, Option.bind_some, h, q4, List.drop_zero]
  unfold lexR resL
  cases lexL (Dt s) with
  | none => rfl
  | some ts =>
    simp only [Option.bind_some, List.length_nil, Nat.zero_add, List.nil_append]
    by_cases hc : ts.length ≤ 3000
    · rw [if_pos hc, if_pos hc]
    · rw [if_neg hc, if_neg hc]
theorem cat_ok {x y : ByteArray} (h : x.size + y.size ≤ 9223372036854775807) : cat x y = some (x ++ y) := by unfold cat; rw [if_pos h]
def num (n : Int) : ByteArray := ⟨(Go.Lib.itoa n).toArray⟩
theorem itoa_i {N : Nat} {n : Int} (h0 : -9223372036854775808 ≤ n) (h1 : n ≤ 9223372036854775807) : m_strconv_Itoa N n = some (num n) := by unfold m_strconv_Itoa; rw [if_pos ⟨h0, h1⟩]; rfl
theorem wr8 {n : Int} (h : 0 ≤ n) (h' : n < 256) : IntKind.u8.wrap n = n := by
  simp only [IntKind.wrap, IntKind.bits, IntKind.signed]
  have e1 : (2 : Int) ^ 8 = 256 := by decide
  simp only [e1, Bool.false_and, Bool.false_eq_true, if_false]
  omega
theorem digits_len : ∀ (k u : Nat), u < 10 ^ (k + 1) → (Go.Lib.decDigits u).length ≤ k + 1
  | 0, u, h => by rw [Go.Lib.decDigits, dif_pos (by simpa using h)]; simp
  | k + 1, u, h => by
    rw [Go.Lib.decDigits]
    split
    · simp
    · have := digits_len k (u / 10) (by rw [Nat.pow_succ] at h; omega)
      simp; omega
theorem digit_b (u : Nat) (h : u < 10) : bstr ([(IntKind.u8.wrap (IntKind.i64.wrap (48 + (u : Int))))] : List Int) = ⟨#[UInt8.ofNat (48 + u)]⟩ := by
  rw [wr (by omega) (by omega), wr8 (by omega) (by omega)]
  unfold bstr
  have : ((48 : Int) + (u : Int)).toNat = 48 + u := by omega
  simp [this]
theorem num_nn : ∀ (N u : Nat), u < N → u < 1000000000000 → m_s_l2Num N (u : Int) = some ⟨(Go.Lib.decDigits u).toArray⟩ := by
  intro N
  induction N with
  | zero => intro u h; omega
  | succ N ih =>
    intro u hu hb
    have c1 : decide ((u : Int) < 0) = false := decide_eq_false (by omega)
    rw [Go.Lib.decDigits]
    simp only [m_s_l2Num, c1, Bool.false_eq_true, if_false]
    by_cases h : u < 10
    · have c2 : decide ((u : Int) < 10) = true := decide_eq_true (by omega)
      rw [dif_pos h]
      simp only [c2, if_true, digit_b u h]
    · have c2 : decide ((u : Int) < 10) = false := decide_eq_false (by omega)
      have e1 : IntKind.i64.wrap ((u : Int).tdiv 10) = ((u / 10 : Nat) : Int) := by
        rw [show (10 : Int) = ((10 : Nat) : Int) from rfl, ← Int.ofNat_tdiv]; exact wr (by omega) (by omega)
      have e2 : (u : Int).tmod 10 = ((u % 10 : Nat) : Int) := by
        rw [show (10 : Int) = ((10 : Nat) : Int) from rfl, ← Int.ofNat_tmod]
      have hl := digits_len 12 (u / 10) (by omega)
      rw [dif_neg h]
      simp only [c2, Bool.false_eq_true, if_false, e1, e2, digit_b (u % 10) (by omega), ih (u / 10) (by omega) (by omega), Option.bind_some]
      rw [cat_ok (show _ + _ ≤ _ by show (Go.Lib.decDigits (u / 10)).toArray.size + 1 ≤ _; simp; omega), Option.bind_some]
      unfold m_s_l2Num_j1
      refine congrArg some (ByteArray.ext ?_)
      simp [ByteArray.data_append]
theorem num_s {N : Nat} (hN : 1099000000000 ≤ N) {n : Int} (h0 : -1000000000 ≤ n) (h1 : n ≤ 1000000000) : m_s_l2Num N n = some (num n) := by
  unfold num Go.Lib.itoa
  by_cases h : n < 0
  · obtain ⟨N, rfl⟩ : ∃ m, N = m + 1 := ⟨N - 1, by omega⟩
    have c1 : decide (n < 0) = true := decide_eq_true h
    have e1 : IntKind.i64.wrap (0 - n) = ((n.natAbs : Nat) : Int) := by rw [wr (by omega) (by omega)]; omega
    have hl := digits_len 12 n.natAbs (by omega)
    rw [if_pos h]
    simp only [m_s_l2Num, c1, if_true, e1, num_nn N n.natAbs (by omega) (by omega), Option.bind_some]
    rw [cat_ok (show _ + _ ≤ _ by show 1 + (Go.Lib.decDigits n.natAbs).toArray.size ≤ _; simp; omega), Option.bind_some]
    refine congrArg some (ByteArray.ext ?_)
    simp [ByteArray.data_append]
  · rw [if_neg h]
    have := num_nn N n.toNat (by omega) (by omega)
    rw [show ((n.toNat : Nat) : Int) = n by omega] at this
    exact this
theorem num_len {n : Int} (h0 : -1000000000 ≤ n) (h1 : n ≤ 1000000000) : (num n).size ≤ 14 := by
  show (Go.Lib.itoa n).toArray.size ≤ 14
  unfold Go.Lib.itoa
  split
  · have := digits_len 12 n.natAbs (by omega); simp; omega
  · have := digits_len 12 n.toNat (by omega); simp; omega
def valText (v : TVal) : ByteArray := if v.K = 1 then num v.N else (⟨#[39]⟩ ++ v.S) ++ ⟨#[39]⟩
theorem valText_len {v : TVal} (h : okVal v = true) : (valText v).size ≤ 30 := by
  unfold okVal at h
  unfold valText
  split
  · rename_i k; rw [if_pos k] at h; simp only [Bool.and_eq_true, decide_eq_true_eq] at h
    have := num_len h.1.1 h.1.2; omega
  · rename_i k; rw [if_neg k] at h
    split at h
    · simp only [Bool.and_eq_true, decide_eq_true_eq] at h
      have h2 := h.2.2
      simp only [ByteArray.size_append]
      show 1 + v.S.size + 1 ≤ 30
      omega
    · cases h
theorem valN {v : TVal} (h : okVal v = true) (k : v.K = 1) : -1000000000 ≤ v.N ∧ v.N ≤ 1000000000 := by
  unfold okVal at h
  rw [if_pos k] at h; simp only [Bool.and_eq_true, decide_eq_true_eq] at h
  exact h.1
theorem quote_ok (s : ByteArray) (h : s.size ≤ 1048576) {β : Type} (f : ByteArray → Option β) : ((cat ⟨#[39]⟩ s).bind fun z1 => (cat z1 ⟨#[39]⟩).bind f) = f ((⟨#[39]⟩ ++ s) ++ ⟨#[39]⟩) := by
  rw [cat_ok (by show 1 + _ ≤ _; omega), Option.bind_some, cat_ok (by rw [ByteArray.size_append]; show 1 + _ + 1 ≤ _; omega), Option.bind_some]
theorem valT_i {N : Nat} (hN : 1099000000000 ≤ N) (v : TVal) (hs : v.S.size ≤ 1048576) (h : okVal v = true) : m_i_ValText N v = some (valText v) := by
  unfold m_i_ValText valText
  rw [val_i (by omega) v hs, h, Option.bind_some]
  by_cases k : v.K = 1
  · obtain ⟨h0, h1⟩ := valN h k
    simp only [k, decide_true, Bool.not_true, Bool.false_eq_true, if_false, if_true, itoa_i (N := N) (show -9223372036854775808 ≤ v.N by omega) (show v.N ≤ 9223372036854775807 by omega), Option.bind_some]
  · simp only [k, decide_false, Bool.not_true, Bool.false_eq_true, if_false]
    exact quote_ok v.S hs some
theorem valT_s {N : Nat} (hN : 1099000000000 ≤ N) (v : TVal) (hs : v.S.size ≤ 1048576) (h : okVal v = true) : m_s_l2Text N v = some (valText v) := by
  unfold m_s_l2Text valText
  by_cases k : v.K = 1
  · obtain ⟨h0, h1⟩ := valN h k
    simp only [k, decide_true, if_true, num_s hN h0 h1, Option.bind_some]
  · simp only [k, decide_false, Bool.false_eq_true, if_false]
    exact quote_ok v.S hs some
def argText (a : TArg) : ByteArray := if a.K = 1 then a.S else if a.K = 2 then valText a.V else ⟨#[95]⟩
theorem argVal {a : TArg} (h : okArg a = true) (k : a.K = 2) : okVal a.V = true := by
  unfold okArg at h
  rw [if_neg (by omega), if_pos k] at h
  simp only [Bool.and_eq_true] at h; exact h.1
theorem argT_i {N : Nat} (hN : 1099000000000 ≤ N) (a : TArg) (hs : SzArg a) (h : okArg a = true) : m_i_argText N a = some (argText a) := by
  unfold m_i_argText argText
  by_cases k1 : a.K = 1
  · simp only [k1, decide_true, if_true]
  · by_cases k2 : a.K = 2
    · have := valT_i hN a.V hs.2 (argVal h k2)
      simp only [k2, this, decide_true, if_true, Option.bind_some, show ¬ (2 : Int) = 1 by omega, decide_false, Bool.false_eq_true, if_false]
    · simp only [k1, k2, decide_false, Bool.false_eq_true, if_false]
theorem argT_s {N : Nat} (hN : 1099000000000 ≤ N) (a : TArg) (hs : SzArg a) (h : okArg a = true) : m_s_l6ArgText N a = some (argText a) := by
  unfold m_s_l6ArgText argText
  by_cases k1 : a.K = 1
  · simp only [k1, decide_true, if_true]
  · by_cases k2 : a.K = 2
    · have := valT_s hN a.V hs.2 (argVal h k2)
      simp only [k2, this, decide_true, if_true, Option.bind_some, show ¬ (2 : Int) = 1 by omega, decide_false, Bool.false_eq_true, if_false]
    · simp only [k1, k2, decide_false, Bool.false_eq_true, if_false]
theorem argText_len {a : TArg} (h : okArg a = true) : (argText a).size ≤ 30 := by
  unfold argText
  split
  · rename_i k
    unfold okArg at h
    rw [if_pos k] at h
    simp only [Bool.and_eq_true] at h
    have h1 := h.1
    unfold varOk at h1
    split at h1
    · cases h1
    · simp only [Bool.and_eq_true, decide_eq_true_eq] at h1; omega
  · split
    · rename_i k; exact valText_len (argVal h k)
    · show 1 ≤ 30; omega
def exprText (e : TExpr) : ByteArray := if okExpr e then (if seq e.Op ⟨#[]⟩ then argText e.L else (((argText e.L ++ ⟨#[32]⟩) ++ e.Op) ++ ⟨#[32]⟩) ++ argText e.R) else ⟨#[]⟩
theorem expr_args {e : TExpr} (h : okExpr e = true) : okArg e.L = true ∧ (seq e.Op ⟨#[]⟩ = false → okArg e.R = true ∧ e.Op.size ≤ 1) := by
  unfold okExpr at h
  cases c : seq e.Op ⟨#[]⟩ with
  | true =>
    rw [c] at h
    simp only [if_true, Bool.and_eq_true, given] at h
    exact ⟨h.1.1, fun h => by cases h⟩
  | false =>
    rw [c] at h
    simp only [Bool.false_eq_true, if_false, Bool.and_eq_true, Bool.or_eq_true, given] at h
    refine ⟨h.2.1.1, fun _ => ⟨h.2.2.1, ?_⟩⟩
    rcases h.1 with h1 | h1
    · rw [seq_eq, decide_eq_true_eq] at h1; rw [h1]; decide
    · rw [seq_eq, decide_eq_true_eq] at h1; rw [h1]; decide
theorem five_ok {a b c d e : ByteArray} (h : a.size + b.size + c.size + d.size + e.size ≤ 9223372036854775807) {β : Type} (f : ByteArray → Option β) :
    ((cat a b).bind fun z1 => (cat z1 c).bind fun z2 => (cat z2 d).bind fun z3 => (cat z3 e).bind f) = f ((((a ++ b) ++ c) ++ d) ++ e) := by
  rw [cat_ok (by omega), Option.bind_some, cat_ok (by rw [ByteArray.size_append]; omega), Option.bind_some, cat_ok (by rw [ByteArray.size_append, ByteArray.size_append]; omega), Option.bind_some, cat_ok (by rw [ByteArray.size_append, ByteArray.size_append, ByteArray.size_append]; omega), Option.bind_some]
theorem exprText_len (e : TExpr) : (exprText e).size ≤ 70 := by
  unfold exprText
  split
  · rename_i h
    obtain ⟨h1, h2⟩ := expr_args h
    have := argText_len h1
    split
    · omega
    · rename_i c
      obtain ⟨h3, h4⟩ := h2 (by simpa using c)
      have := argText_len h3
      simp only [ByteArray.size_append]
      show _ + 1 + _ + 1 + _ ≤ _
      omega
  · show 0 ≤ 70; omega
theorem exprT_i {N : Nat} (hN : 1099000000000 ≤ N) (e : TExpr) (hs : SzExpr e) : m_i_ExprText N e = some (exprText e) := by
  unfold m_i_ExprText exprText
  rw [expr_i hN e hs, Option.bind_some]
  cases h : okExpr e with
  | false => simp
  | true =>
    obtain ⟨h1, h2⟩ := expr_args h
    simp only [Bool.not_true, Bool.false_eq_true, if_false, if_true, argT_i hN e.L hs.2.1 h1, Option.bind_some]
    cases c : seq e.Op ⟨#[]⟩ with
    | true => simp
    | false =>
      obtain ⟨h3, h4⟩ := h2 c
      have l1 := argText_len h1
      have l2 := argText_len h3
      simp only [Bool.false_eq_true, if_false, argT_i hN e.R hs.2.2 h3, Option.bind_some]
      exact five_ok (show _ + 1 + _ + 1 + _ ≤ _ by omega) some
theorem exprT_s {N : Nat} (hN : 1099000000000 ≤ N) (e : TExpr) (hs : SzExpr e) : m_s_ExprText N e = some (exprText e) := by
  unfold m_s_ExprText exprText
  rw [expr_s hN e hs, Option.bind_some]
  cases h : okExpr e with
  | false => simp
  | true =>
    obtain ⟨h1, h2⟩ := expr_args h
    simp only [Bool.not_true, Bool.false_eq_true, if_false, if_true, argT_s hN e.L hs.2.1 h1, Option.bind_some]
    cases c : seq e.Op ⟨#[]⟩ with
    | true => simp
    | false =>
      obtain ⟨h3, h4⟩ := h2 c
      have l1 := argText_len h1
      have l2 := argText_len h3
      simp only [Bool.false_eq_true, if_false, argT_s hN e.R hs.2.2 h3, Option.bind_some]
      exact five_ok (show _ + 1 + _ + 1 + _ ≤ _ by omega) some
theorem cat_k {x y : ByteArray} (h : x.size + y.size ≤ 9223372036854775807) : cat x y = some (x ++ y) := by unfold cat; rw [if_pos h]
theorem ba_assoc (a b c : ByteArray) : (a ++ b) ++ c = a ++ (b ++ c) := ByteArray.append_assoc
theorem ba_nil (a : ByteArray) : a ++ ⟨#[]⟩ = a := by apply ByteArray.ext; simp [ByteArray.data_append]
def commas (l : List ByteArray) : ByteArray := ⟨(Go.Lib.join (l.map (·.data.toList)) [44, 32]).toArray⟩
def tails (l : List ByteArray) : ByteArray := ⟨(Go.Lib.joinTail [44, 32] (l.map (·.data.toList))).toArray⟩
theorem commas_nil : commas [] = ⟨#[]⟩ := rfl
theorem tails_nil : tails [] = ⟨#[]⟩ := rfl
theorem commas_cons (x : ByteArray) (t : List ByteArray) : commas (x :: t) = x ++ tails t := by
  unfold commas tails
  apply ByteArray.ext
  simp [ByteArray.data_append, Go.Lib.join_cons]
theorem tails_cons (x : ByteArray) (t : List ByteArray) : tails (x :: t) = (⟨#[44, 32]⟩ ++ x) ++ tails t := by
  unfold tails Go.Lib.joinTail
  apply ByteArray.ext
  simp [ByteArray.data_append]
theorem tails_len {C : Nat} : ∀ (l : List ByteArray), (∀ x ∈ l, x.size ≤ C) → (tails l).size ≤ l.length * (C + 2)
  | [], _ => by rw [tails_nil]; exact Nat.zero_le _
  | x :: t, h => by
    have h1 := tails_len t fun y hy => h y (by simp [hy])
    have h2 := h x (by simp)
    rw [tails_cons, List.length_cons, Nat.add_mul]
    simp only [ByteArray.size_append]
    show 2 + _ + _ ≤ _
    omega
theorem commas_len {C : Nat} : ∀ (l : List ByteArray), (∀ x ∈ l, x.size ≤ C) → (commas l).size ≤ l.length * (C + 2)
  | [], _ => by rw [commas_nil]; exact Nat.zero_le _
  | x :: t, h => by
    have h1 := tails_len t fun y hy => h y (by simp [hy])
    have h2 := h x (by simp)
    rw [commas_cons, List.length_cons, Nat.add_mul]
    simp only [ByteArray.size_append]
    omega
theorem join_i {N : Nat} {l : List ByteArray} {C : Nat} (hl : l.length ≤ 4096) (hC : ∀ x ∈ l, x.size ≤ C) (hc : C ≤ 1073741824) : m_strings_Join N l ⟨#[44, 32]⟩ = some (commas l) := by
  have h := commas_len l hC
  have h2 : l.length * (C + 2) ≤ 4096 * 1073741826 := Nat.mul_le_mul hl (by omega)
  have h3 : (commas l).size = (Go.Lib.join (l.map (·.data.toList)) [44, 32]).length := by show (Go.Lib.join _ _).toArray.size = _; simp
  unfold m_strings_Join
  rw [if_pos ⟨by omega, by show (Go.Lib.join (l.map (·.data.toList)) [44, 32]).length ≤ _; omega⟩]
  rfl
def restT (i : Nat) (l : List ByteArray) : ByteArray := if i = 0 then commas l else tails l
theorem commaLoop {α β : Type} (xs : List α) (T : α → ByteArray) (C : Nat) (hC : ∀ x ∈ xs, (T x).size ≤ C) (f : Nat → ByteArray → Int → Option β) (fin : ByteArray → Option β)
    (h1 : ∀ n (i : Nat) s x, xs[i]? = some x → i < xs.length → s.size ≤ 1099511627776 → f (n + 1) s (i : Int) = if i = 0 then f n (s ++ T x) ((i + 1 : Nat) : Int) else f n ((s ++ ⟨#[44, 32]⟩) ++ T x) ((i + 1 : Nat) : Int))
    (h2 : ∀ n s, s.size ≤ 1099511627776 → f (n + 1) s (xs.length : Int) = fin s) :
    ∀ (n i : Nat) (s : ByteArray), i ≤ xs.length → xs.length - i < n → s.size + (xs.length - i) * (C + 2) ≤ 1099511627776 → f n s (i : Int) = fin (s ++ restT i ((xs.drop i).map T)) := by
  intro n
  induction n with
  | zero => intro i s _ h; omega
  | succ n ih =>
    intro i s hi hn hs
    by_cases hlt : i < xs.length
    · have hm : (xs.length - i) * (C + 2) = (xs.length - (i + 1)) * (C + 2) + (C + 2) := by
        rw [show xs.length - i = (xs.length - (i + 1)) + 1 by omega, Nat.add_mul]; omega
      have hx := hC _ (List.getElem_mem hlt)
      rw [h1 n i s _ (List.getElem?_eq_getElem hlt) hlt (by omega), List.drop_eq_getElem_cons hlt, List.map_cons]
      unfold restT
      by_cases h0 : i = 0
      · rw [if_pos h0, if_pos h0, ih (i + 1) _ (by omega) (by omega) (by rw [ByteArray.size_append]; omega), commas_cons]
        unfold restT
        rw [if_neg (by omega), ba_assoc]
      · rw [if_neg h0, if_neg h0, ih (i + 1) _ (by omega) (by omega) (by rw [ByteArray.size_append, ByteArray.size_append]; show _ + 2 + _ + _ ≤ _; omega), tails_cons]
        unfold restT
        rw [if_neg (by omega)]
        simp only [ba_assoc]
    · have he : i = xs.length := by omega
      subst he
      rw [h2 n s (by omega), List.drop_length, List.map_nil]
      congr 1
      unfold restT
      split
      · rw [commas_nil, ba_nil]
      · rw [tails_nil, ba_nil]
theorem partsLoop {α β : Type} {N : Nat} (hN : 1099000000000 ≤ N) (xs : List α) (hl : xs.length ≤ 4096) (T : α → ByteArray) (f : Nat → List ByteArray → Int → Option β) (fin : List ByteArray → Option β)
    (h1 : ∀ n (i : Nat) s x, idx xs (i : Int) = some x → x ∈ xs → decide ((i : Int) < (xs.length : Int)) = true → IntKind.i64.wrap ((i : Int) + 1) = ((i + 1 : Nat) : Int) → s.length ≤ 4096 → f (n + 1) s (i : Int) = f n (s ++ [T x]) ((i + 1 : Nat) : Int))
    (h2 : ∀ n (i : Nat) s, decide ((i : Int) < (xs.length : Int)) = false → f (n + 1) s (i : Int) = fin s) : f N [] 0 = fin (xs.map T) := by
  refine (lp' hN xs (by omega) f (fun t s => fin (s ++ t.map T)) (fun s t => s.length + t.length ≤ 4096) [] (by simpa using hl) (fun n s i x t g1 g2 g3 g4 g5 g6 gI ih => ?_) (fun n s i g1 g2 gI => ?_)).trans (by simp)
  · simp only [List.length_cons] at gI
    rw [h1 n i s x g4 g2 g5 g6 (by omega), ih _ (by simp; omega)]; simp
  · rw [h2 n i s g2]; simp
def restA (A : ByteArray) (i : Nat) (l : List ByteArray) : ByteArray := if i = 0 then (match l with | [] => ⟨#[]⟩ | x :: t => A ++ commas (x :: t)) else tails l
theorem commaLoopA {α β : Type} (xs : List α) (A : ByteArray) (hA : A.size ≤ 3) (T : α → ByteArray) (C : Nat) (hC : ∀ x ∈ xs, (T x).size ≤ C) (f : Nat → ByteArray → Int → Option β) (fin : ByteArray → Option β)
    (h1 : ∀ n (i : Nat) s x, xs[i]? = some x → i < xs.length → s.size ≤ 1099511627776 → f (n + 1) s (i : Int) = if i = 0 then f n ((s ++ A) ++ T x) ((i + 1 : Nat) : Int) else f n ((s ++ ⟨#[44, 32]⟩) ++ T x) ((i + 1 : Nat) : Int))
    (h2 : ∀ n s, s.size ≤ 1099511627776 → f (n + 1) s (xs.length : Int) = fin s) :
    ∀ (n i : Nat) (s : ByteArray), i ≤ xs.length → xs.length - i < n → s.size + (xs.length - i) * (C + 3) ≤ 1099511627776 → f n s (i : Int) = fin (s ++ restA A i ((xs.drop i).map T)) := by
  intro n
  induction n with
  | zero => intro i s _ h; omega
  | succ n ih =>
    intro i s hi hn hs
    by_cases hlt : i < xs.length
    · have hm : (xs.length - i) * (C + 3) = (xs.length - (i + 1)) * (C + 3) + (C + 3) := by
        rw [show xs.length - i = (xs.length - (i + 1)) + 1 by omega, Nat.add_mul]; omega
      have hx := hC _ (List.getElem_mem hlt)
      rw [h1 n i s _ (List.getElem?_eq_getElem hlt) hlt (by omega), List.drop_eq_getElem_cons hlt, List.map_cons]
      unfold restA
      by_cases h0 : i = 0
      · rw [if_pos h0, if_pos h0, ih (i + 1) _ (by omega) (by omega) (by rw [ByteArray.size_append, ByteArray.size_append]; omega)]
        unfold restA
        rw [if_neg (by omega)]
        simp only [commas_cons, ba_assoc]
      · rw [if_neg h0, if_neg h0, ih (i + 1) _ (by omega) (by omega) (by rw [ByteArray.size_append, ByteArray.size_append]; show _ + 2 + _ + _ ≤ _; omega), tails_cons]
        unfold restA
        rw [if_neg (by omega)]
        simp only [ba_assoc]
    · have he : i = xs.length := by omega
      subst he
      rw [h2 n s (by omega), List.drop_length, List.map_nil]
      congr 1
      unfold restA
      split
      · rw [ba_nil]
      · rw [tails_nil, ba_nil]
def callText (a : TAct) : ByteArray := ((a.Name ++ ⟨#[40]⟩) ++ commas (a.Args.map exprText)) ++ ⟨#[41]⟩
theorem snoc_le {C : Nat} {s : List ByteArray} {x : ByteArray} (h : ∀ y ∈ s, y.size ≤ C) (h' : x.size ≤ C) : ∀ y ∈ s ++ [x], y.size ≤ C := fun y hy => by
  rcases List.mem_append.1 hy with h1 | h1
  · exact h y h1
  · simp at h1; rw [h1]; exact h'
theorem call_i {N : Nat} (hN : 1099000000000 ≤ N) (a : TAct) (h : SzAct a) (hl : a.Args.length ≤ 5) : m_i_callText N a = some (callText a) := by
  unfold m_i_callText
  have hn := h.1
  refine (lp' hN a.Args (by omega) (m_i_callText_l1 N a) (fun t s => some (((a.Name ++ ⟨#[40]⟩) ++ commas (s ++ t.map exprText)) ++ ⟨#[41]⟩)) (fun s t => s.length + t.length ≤ 5 ∧ ∀ x ∈ s, x.size ≤ 70) [] ⟨by simpa using hl, by simp⟩ (fun n s i x t g1 g2 g3 g4 g5 g6 gI ih => ?_) (fun n s i g1 g2 gI => ?_)).trans (by simp [callText])
  · obtain ⟨i1, i2⟩ := gI
    simp only [List.length_cons] at i1
    simp only [m_i_callText_l1, g5, if_true, g4, Option.bind_some, exprT_i hN x (h.2.2.2 x g2), app_ok (show s.length + [exprText x].length ≤ 4294967296 by simp; omega), g6]
    rw [ih _ ⟨by simp; omega, snoc_le i2 (exprText_len x)⟩]; simp
  · obtain ⟨i1, i2⟩ := gI
    simp only [List.length_nil, Nat.add_zero] at i1
    have hc := commas_len s i2
    have h5 : s.length * (70 + 2) ≤ 5 * 72 := Nat.mul_le_mul i1 (by omega)
    simp only [m_i_callText_l1, g2, Bool.false_eq_true, if_false]
    rw [cat_k (by show _ + 1 ≤ _; omega), Option.bind_some, join_i (N := N) (by omega) i2 (by omega), Option.bind_some, cat_k (by rw [ByteArray.size_append]; show _ + 1 + _ ≤ _; omega), Option.bind_some, cat_k (by rw [ByteArray.size_append, ByteArray.size_append]; show _ + 1 + _ + 1 ≤ _; omega)]
    simp
theorem call_s {N : Nat} (hN : 1099000000000 ≤ N) (a : TAct) (h : SzAct a) (hl : a.Args.length ≤ 5) : m_s_l8ArgsText N a = some (callText a) := by
  unfold m_s_l8ArgsText
  have hn := h.1
  have h5 : a.Args.length * (70 + 2) ≤ 5 * 72 := Nat.mul_le_mul hl (by omega)
  rw [cat_k (by show _ + 1 ≤ _; omega), Option.bind_some]
  have := commaLoop a.Args exprText 70 (fun x _ => exprText_len x) (m_s_l8ArgsText_l1 N a) (fun s => (cat s ⟨#[41]⟩).bind fun z => some z) (fun n i s x hx hlt hs => by
    have c0 : decide ((i : Int) < (a.Args.length : Int)) = true := decide_eq_true (by omega)
    have hx' : idx a.Args (i : Int) = some x := by rw [idx_nat_lt hlt]; rw [List.getElem?_eq_getElem hlt] at hx; exact hx
    have e := exprT_s hN x (h.2.2.2 x (List.mem_of_getElem? hx))
    have hl := exprText_len x
    simp only [m_s_l8ArgsText_l1, m_s_l8ArgsText_j2, c0, if_true, hx', Option.bind_some, e, wr1 i (by omega)]
    by_cases h0 : i = 0
    · have c1 : decide ((0 : Int) < (i : Int)) = false := decide_eq_false (by omega)
      simp only [c1, Bool.false_eq_true, if_false, if_pos h0]
      rw [cat_k (by omega), Option.bind_some]
    · have c1 : decide ((0 : Int) < (i : Int)) = true := decide_eq_true (by omega)
      simp only [c1, if_true, if_neg h0]
      rw [cat_k (by show _ + 2 ≤ _; omega), Option.bind_some, cat_k (by rw [ByteArray.size_append]; show _ + 2 + _ ≤ _; omega), Option.bind_some]) (fun n s hs => by
    have c0 : decide ((a.Args.length : Int) < (a.Args.length : Int)) = false := decide_eq_false (by omega)
    simp only [m_s_l8ArgsText_l1, c0, Bool.false_eq_true, if_false]) N 0 (a.Name ++ ⟨#[40]⟩) (by omega) (by omega) (by rw [ByteArray.size_append]; show _ + 1 + _ ≤ _; omega)
  refine this.trans ?_
  have hc := commas_len (C := 70) (a.Args.map exprText) (fun x hx => by obtain ⟨e, _, rfl⟩ := List.mem_map.1 hx; exact exprText_len e)
  rw [List.length_map] at hc
  unfold restT callText
  rw [if_pos rfl, List.drop_zero, cat_k (by rw [ByteArray.size_append, ByteArray.size_append]; show _ + 1 + _ + 1 ≤ _; omega)]
  rfl
theorem call_len {a : TAct} (hl : a.Args.length ≤ 5) (hn : a.Name.size ≤ 12) : (callText a).size ≤ 400 := by
  have hc := commas_len (C := 70) (a.Args.map exprText) (fun x hx => by obtain ⟨e, _, rfl⟩ := List.mem_map.1 hx; exact exprText_len e)
  have h5 : (a.Args.map exprText).length * (70 + 2) ≤ 5 * 72 := Nat.mul_le_mul (by simpa using hl) (by omega)
  unfold callText
  simp only [ByteArray.size_append]
  show _ + 1 + _ + 1 ≤ _
  omega
theorem okName_len {s : ByteArray} (h : okName s = true) : s.size ≤ 12 := by
  unfold okName at h
  simp only [Bool.and_eq_true, decide_eq_true_eq] at h
  omega
def actText (a : TAct) : ByteArray :=
  if okAct a = true then
    if a.Kind = 1 then ⟨#[97, 115, 115, 101, 114, 116, 32]⟩ ++ callText a
    else if a.Kind = 2 then ⟨#[100, 114, 111, 112, 32]⟩ ++ num a.N
    else if a.Kind = 3 then (if seq a.Undo ⟨#[]⟩ = true then ⟨#[116, 97, 115, 107, 32]⟩ ++ callText a else ((⟨#[116, 97, 115, 107, 32]⟩ ++ callText a) ++ ⟨#[32, 117, 110, 100, 111, 32]⟩) ++ a.Undo)
    else if a.Kind = 4 then ((⟨#[116, 105, 109, 101, 114, 32]⟩ ++ num a.N) ++ ⟨#[32]⟩) ++ callText a
    else if a.Kind = 5 then ⟨#[100, 111, 110, 101]⟩ else ⟨#[102, 97, 105, 108]⟩
  else ⟨#[]⟩
theorem act_has {a : TAct} (h : okAct a = true) : (a.Kind = 1 ∧ a.Args.length ≤ 5 ∧ a.Name.size ≤ 12) ∨ (a.Kind = 2 ∧ 0 ≤ a.N ∧ a.N ≤ 7) ∨ (a.Kind = 3 ∧ (a.Args.length ≤ 5 ∧ a.Name.size ≤ 12) ∧ a.Undo.size ≤ 12) ∨ (a.Kind = 4 ∧ (a.Args.length ≤ 5 ∧ a.Name.size ≤ 12) ∧ 0 ≤ a.N ∧ a.N ≤ 100000) ∨ a.Kind = 5 ∨ a.Kind = 6 := by
  unfold okAct at h
  by_cases k1 : a.Kind = 1
  · simp only [k1, if_true, Bool.and_eq_true, decide_eq_true_eq] at h
    exact .inl ⟨k1, by omega, okName_len h.1.1.1⟩
  · by_cases k2 : a.Kind = 2
    · simp only [k2, if_true, Bool.and_eq_true, decide_eq_true_eq, show ¬ (2 : Int) = 1 by omega, if_false] at h
      exact .inr (.inl ⟨k2, h.1.2.1, h.1.2.2⟩)
    · by_cases k3 : a.Kind = 3
      · simp only [k3, if_true, Bool.and_eq_true, Bool.or_eq_true, decide_eq_true_eq, show ¬ (3 : Int) = 1 by omega, show ¬ (3 : Int) = 2 by omega, if_false] at h
        refine .inr (.inr (.inl ⟨k3, ⟨by omega, okName_len h.1.1.1⟩, ?_⟩))
        rcases h.2 with h1 | h1
        · rw [seq_eq, decide_eq_true_eq] at h1; rw [h1]; decide
        · exact okName_len h1
      · by_cases k4 : a.Kind = 4
        · simp only [k4, if_true, Bool.and_eq_true, decide_eq_true_eq, show ¬ (4 : Int) = 1 by omega, show ¬ (4 : Int) = 2 by omega, show ¬ (4 : Int) = 3 by omega, if_false] at h
          exact .inr (.inr (.inr (.inl ⟨k4, ⟨by omega, okName_len h.1.1.1⟩, h.1.2.1, h.1.2.2⟩)))
        · by_cases k5 : a.Kind = 5
          · exact .inr (.inr (.inr (.inr (.inl k5))))
          · by_cases k6 : a.Kind = 6
            · exact .inr (.inr (.inr (.inr (.inr k6))))
            · simp [k1, k2, k3, k4, k5, k6] at h
theorem cat2 {a b : ByteArray} (h : a.size + b.size ≤ 1048576) {β : Type} (f : ByteArray → Option β) : ((cat a b).bind f) = f (a ++ b) := by
  rw [cat_k (by omega), Option.bind_some]
theorem cat4 {a b c d : ByteArray} (h : a.size + b.size + c.size + d.size ≤ 1048576) {β : Type} (f : ByteArray → Option β) : ((cat a b).bind fun z1 => (cat z1 c).bind fun z2 => (cat z2 d).bind f) = f (((a ++ b) ++ c) ++ d) := by
  rw [cat_k (by omega), Option.bind_some, cat_k (by rw [ByteArray.size_append]; omega), Option.bind_some, cat_k (by rw [ByteArray.size_append, ByteArray.size_append]; omega), Option.bind_some]
theorem actText_len (a : TAct) : (actText a).size ≤ 500 := by
  unfold actText
  split
  · rename_i h
    rcases act_has h with ⟨k, h1, h2⟩ | ⟨k, h1, h2⟩ | ⟨k, ⟨h1, h2⟩, h3⟩ | ⟨k, ⟨h1, h2⟩, h3, h4⟩ | k | k
    · have := call_len h1 h2
      simp only [k, if_true, ByteArray.size_append]; show 7 + _ ≤ _; omega
    · have := num_len (n := a.N) (by omega) (by omega)
      simp only [k, if_true, show ¬ (2 : Int) = 1 by omega, if_false, ByteArray.size_append]; show 5 + _ ≤ _; omega
    · have := call_len h1 h2
      simp only [k, if_true, show ¬ (3 : Int) = 1 by omega, show ¬ (3 : Int) = 2 by omega, if_false]
      split
      · simp only [ByteArray.size_append]; show 5 + _ ≤ _; omega
      · simp only [ByteArray.size_append]; show 5 + _ + 6 + _ ≤ _; omega
    · have := call_len h1 h2
      have := num_len (n := a.N) (by omega) (by omega)
      simp only [k, if_true, show ¬ (4 : Int) = 1 by omega, show ¬ (4 : Int) = 2 by omega, show ¬ (4 : Int) = 3 by omega, if_false, ByteArray.size_append]; show 6 + _ + 1 + _ ≤ _; omega
    · simp only [k, if_true, show ¬ (5 : Int) = 1 by omega, show ¬ (5 : Int) = 2 by omega, show ¬ (5 : Int) = 3 by omega, show ¬ (5 : Int) = 4 by omega, if_false]; show 4 ≤ _; omega
    · simp only [k, show ¬ (6 : Int) = 1 by omega, show ¬ (6 : Int) = 2 by omega, show ¬ (6 : Int) = 3 by omega, show ¬ (6 : Int) = 4 by omega, show ¬ (6 : Int) = 5 by omega, if_false]; show 4 ≤ _; omega
  · exact Nat.zero_le _
theorem actT_i {N : Nat} (hN : 1099000000000 ≤ N) (a : TAct) (hs : SzAct a) : m_i_ActText N a = some (actText a) := by
  unfold m_i_ActText actText
  rw [act_i hN a hs, Option.bind_some]
  cases h : okAct a with
  | false => simp
  | true =>
    simp only [Bool.not_true, Bool.false_eq_true, if_false, if_true]
    rcases act_has h with ⟨k, h1, h2⟩ | ⟨k, h1, h2⟩ | ⟨k, ⟨h1, h2⟩, h3⟩ | ⟨k, ⟨h1, h2⟩, h3, h4⟩ | k | k
    · have := call_len h1 h2
      simp only [k, decide_true, if_true, call_i hN a hs h1, Option.bind_some]
      exact cat2 (show 7 + _ ≤ _ by omega) some
    · have := num_len (n := a.N) (by omega) (by omega)
      simp only [k, decide_true, if_true, show ¬ (2 : Int) = 1 by omega, decide_false, Bool.false_eq_true, if_false, itoa_i (N := N) (n := a.N) (by omega) (by omega), Option.bind_some]
      exact cat2 (show 5 + _ ≤ _ by omega) some
    · have := call_len h1 h2
      simp only [k, decide_true, if_true, show ¬ (3 : Int) = 1 by omega, show ¬ (3 : Int) = 2 by omega, decide_false, Bool.false_eq_true, if_false, call_i hN a hs h1, Option.bind_some]
      cases c : seq a.Undo ⟨#[]⟩ with
      | true =>
        simp only [Bool.not_true, Bool.false_eq_true, if_false, if_true]
        exact cat2 (show 5 + _ ≤ _ by omega) some
      | false =>
        simp only [Bool.not_false, Bool.false_eq_true, if_false, if_true]
        exact cat4 (show 5 + _ + 6 + _ ≤ _ by omega) some
    · have := call_len h1 h2
      have := num_len (n := a.N) (by omega) (by omega)
      simp only [k, decide_true, if_true, show ¬ (4 : Int) = 1 by omega, show ¬ (4 : Int) = 2 by omega, show ¬ (4 : Int) = 3 by omega, decide_false, Bool.false_eq_true, if_false, itoa_i (N := N) (n := a.N) (by omega) (by omega), call_i hN a hs h1, Option.bind_some]
      exact cat4 (show 6 + _ + 1 + _ ≤ _ by omega) some
    · simp only [k, decide_true, if_true, show ¬ (5 : Int) = 1 by omega, show ¬ (5 : Int) = 2 by omega, show ¬ (5 : Int) = 3 by omega, show ¬ (5 : Int) = 4 by omega, decide_false, Bool.false_eq_true, if_false]
    · simp only [k, show ¬ (6 : Int) = 1 by omega, show ¬ (6 : Int) = 2 by omega, show ¬ (6 : Int) = 3 by omega, show ¬ (6 : Int) = 4 by omega, show ¬ (6 : Int) = 5 by omega, decide_false, Bool.false_eq_true, if_false]
theorem actT_s {N : Nat} (hN : 1099000000000 ≤ N) (a : TAct) (hs : SzAct a) : m_s_ActText N a = some (actText a) := by
  unfold m_s_ActText actText
  rw [act_s hN a hs, Option.bind_some]
  cases h : okAct a with
  | false => simp
  | true =>
    simp only [Bool.not_true, Bool.false_eq_true, if_false, if_true]
    rcases act_has h with ⟨k, h1, h2⟩ | ⟨k, h1, h2⟩ | ⟨k, ⟨h1, h2⟩, h3⟩ | ⟨k, ⟨h1, h2⟩, h3, h4⟩ | k | k
    · have := call_len h1 h2
      simp only [k, decide_true, if_true, call_s hN a hs h1, Option.bind_some]
      exact cat2 (show 7 + _ ≤ _ by omega) some
    · have := num_len (n := a.N) (by omega) (by omega)
      simp only [k, decide_true, if_true, show ¬ (2 : Int) = 1 by omega, decide_false, Bool.false_eq_true, if_false, num_s hN (n := a.N) (by omega) (by omega), Option.bind_some]
      exact cat2 (show 5 + _ ≤ _ by omega) some
    · have := call_len h1 h2
      simp only [k, decide_true, if_true, show ¬ (3 : Int) = 1 by omega, show ¬ (3 : Int) = 2 by omega, show ¬ (3 : Int) = 4 by omega, show ¬ (3 : Int) = 5 by omega, show ¬ (3 : Int) = 6 by omega, decide_false, Bool.false_eq_true, if_false, call_s hN a hs h1, Option.bind_some]
      cases c : seq a.Undo ⟨#[]⟩ with
      | true =>
        simp only [if_true]
        exact cat2 (show 5 + _ ≤ _ by omega) some
      | false =>
        simp only [Bool.false_eq_true, if_false]
        exact cat4 (show 5 + _ + 6 + _ ≤ _ by omega) some
    · have := call_len h1 h2
      have := num_len (n := a.N) (by omega) (by omega)
      simp only [k, decide_true, if_true, show ¬ (4 : Int) = 1 by omega, show ¬ (4 : Int) = 2 by omega, show ¬ (4 : Int) = 3 by omega, decide_false, Bool.false_eq_true, if_false, num_s hN (n := a.N) (by omega) (by omega), call_s hN a hs h1, Option.bind_some]
      exact cat4 (show 6 + _ + 1 + _ ≤ _ by omega) some
    · simp only [k, decide_true, if_true, show ¬ (5 : Int) = 1 by omega, show ¬ (5 : Int) = 2 by omega, show ¬ (5 : Int) = 3 by omega, show ¬ (5 : Int) = 4 by omega, decide_false, Bool.false_eq_true, if_false]
    · simp only [k, decide_true, if_true, show ¬ (6 : Int) = 1 by omega, show ¬ (6 : Int) = 2 by omega, show ¬ (6 : Int) = 3 by omega, show ¬ (6 : Int) = 4 by omega, show ¬ (6 : Int) = 5 by omega, decide_false, Bool.false_eq_true, if_false]
def patBody (p : TPat) : ByteArray := ((p.Kind ++ ⟨#[40]⟩) ++ commas (p.Args.map argText)) ++ ⟨#[41]⟩
def patText (p : TPat) : ByteArray := if okPat p = true then (if p.Not = true then ⟨#[33]⟩ ++ patBody p else patBody p) else ⟨#[]⟩
theorem pat_has {p : TPat} (h : okPat p = true) : p.Kind.size ≤ 12 ∧ p.Args.length ≤ 5 ∧ ∀ a ∈ p.Args, okArg a = true := by
  unfold okPat at h
  simp only [Bool.and_eq_true, decide_eq_true_eq] at h
  exact ⟨okName_len h.1, by omega, fun a ha => List.all_eq_true.1 h.2.2 a ha⟩
theorem argTexts_le {l : List TArg} (h : ∀ a ∈ l, okArg a = true) : ∀ x ∈ l.map argText, x.size ≤ 30 := fun x hx => by
  obtain ⟨a, ha, rfl⟩ := List.mem_map.1 hx; exact argText_len (h a ha)
theorem patBody_len {p : TPat} (h : okPat p = true) : (patBody p).size ≤ 190 := by
  obtain ⟨h1, h2, h3⟩ := pat_has h
  have hc := commas_len (C := 30) (p.Args.map argText) (argTexts_le h3)
  have h5 : (p.Args.map argText).length * (30 + 2) ≤ 5 * 32 := Nat.mul_le_mul (by simpa using h2) (by omega)
  unfold patBody
  simp only [ByteArray.size_append]
  show _ + 1 + _ + 1 ≤ _
  omega
theorem patText_len (p : TPat) : (patText p).size ≤ 191 := by
  unfold patText
  split
  · rename_i h
    have := patBody_len h
    split
    · simp only [ByteArray.size_append]; show 1 + _ ≤ _; omega
    · omega
  · exact Nat.zero_le _
theorem patT_i {N : Nat} (hN : 1099000000000 ≤ N) (p : TPat) (hs : SzPat p) : m_i_PatText N p = some (patText p) := by
  unfold m_i_PatText patText
  rw [pat_i hN p hs, Option.bind_some]
  cases h : okPat p with
  | false => simp
  | true =>
    obtain ⟨h1, h2, h3⟩ := pat_has h
    have hb := patBody_len h
    have hc := commas_len (C := 30) (p.Args.map argText) (argTexts_le h3)
    have h5 : (p.Args.map argText).length * (30 + 2) ≤ 5 * 32 := Nat.mul_le_mul (by simpa using h2) (by omega)
    simp only [Bool.not_true, Bool.false_eq_true, if_false, if_true]
    refine (partsLoop hN p.Args (by omega) argText (m_i_PatText_l1 N p) (fun s => (cat p.Kind ⟨#[40]⟩).bind fun z1 => (m_strings_Join N s ⟨#[44, 32]⟩).bind fun x5 => (cat z1 x5).bind fun z2 => (cat z2 ⟨#[41]⟩).bind fun z3 => if p.Not = true then (cat ⟨#[33]⟩ z3).bind fun z4 => some z4 else some z3) (fun n i s x g4 g2 g5 g6 gl => ?_) (fun n i s g => ?_)).trans ?_
    · simp only [m_i_PatText_l1, g5, if_true, g4, Option.bind_some, argT_i hN x (hs.2.2 x g2) (h3 x g2), app_ok (show s.length + [argText x].length ≤ 4294967296 by simp; omega), g6]
    · simp only [m_i_PatText_l1, g, Bool.false_eq_true, if_false]
    · rw [cat_k (by show _ + 1 ≤ _; omega), Option.bind_some, join_i (N := N) (C := 30) (by simp; omega) (argTexts_le h3) (by omega), Option.bind_some, cat_k (by rw [ByteArray.size_append]; show _ + 1 + _ ≤ _; omega), Option.bind_some, cat_k (by rw [ByteArray.size_append, ByteArray.size_append]; show _ + 1 + _ + 1 ≤ _; omega), Option.bind_some]
      show (if p.Not = true then (cat ⟨#[33]⟩ (patBody p)).bind fun z4 => some z4 else some (patBody p)) = _
      split
      · rw [cat_k (by show 1 + _ ≤ _; omega)]; rfl
      · rfl
theorem patT_s {N : Nat} (hN : 1099000000000 ≤ N) (p : TPat) (hs : SzPat p) : m_s_PatText N p = some (patText p) := by
  unfold m_s_PatText patText
  rw [pat_s hN p hs, Option.bind_some]
  cases h : okPat p with
  | false => simp
  | true =>
    obtain ⟨h1, h2, h3⟩ := pat_has h
    have hb := patBody_len h
    have hc := commas_len (C := 30) (p.Args.map argText) (argTexts_le h3)
    have h5 : (p.Args.map argText).length * (30 + 2) ≤ 5 * 32 := Nat.mul_le_mul (by simpa using h2) (by omega)
    have h6 : p.Args.length * (30 + 2) ≤ 5 * 32 := Nat.mul_le_mul h2 (by omega)
    simp only [Bool.not_true, Bool.false_eq_true, if_false, if_true]
    have lp : ∀ s0 : ByteArray, s0.size ≤ 20 → m_s_PatText_j1 N p s0 = some ((s0 ++ commas (p.Args.map argText)) ++ ⟨#[41]⟩) := by
      intro s0 h0
      unfold m_s_PatText_j1
      refine (commaLoop p.Args argText 30 (fun x hx => argText_len (h3 x hx)) (m_s_PatText_l2 N p) (fun s => (cat s ⟨#[41]⟩).bind fun z => some z) (fun n i s x hx hlt hs' => by
        have c0 : decide ((i : Int) < (p.Args.length : Int)) = true := decide_eq_true (by omega)
        have hx' : idx p.Args (i : Int) = some x := by rw [idx_nat_lt hlt]; rw [List.getElem?_eq_getElem hlt] at hx; exact hx
        have hm := List.mem_of_getElem? hx
        have e := argT_s hN x (hs.2.2 x hm) (h3 x hm)
        have hl := argText_len (h3 x hm)
        simp only [m_s_PatText_l2, m_s_PatText_j3, c0, if_true, hx', Option.bind_some, e, wr1 i (by omega)]
        by_cases h0 : i = 0
        · have c1 : decide ((0 : Int) < (i : Int)) = false := decide_eq_false (by omega)
          simp only [c1, Bool.false_eq_true, if_false, if_pos h0]
          rw [cat_k (by omega), Option.bind_some]
        · have c1 : decide ((0 : Int) < (i : Int)) = true := decide_eq_true (by omega)
          simp only [c1, if_true, if_neg h0]
          rw [cat_k (by show _ + 2 ≤ _; omega), Option.bind_some, cat_k (by rw [ByteArray.size_append]; show _ + 2 + _ ≤ _; omega), Option.bind_some]) (fun n s hs' => by
        have c0 : decide ((p.Args.length : Int) < (p.Args.length : Int)) = false := decide_eq_false (by omega)
        simp only [m_s_PatText_l2, c0, Bool.false_eq_true, if_false]) N 0 s0 (by omega) (by omega) (by omega)).trans ?_
      unfold restT
      rw [if_pos rfl, List.drop_zero, cat_k (by rw [ByteArray.size_append]; show _ + _ + 1 ≤ _; omega)]
      rfl
    rw [cat_k (by show _ + 1 ≤ _; omega), Option.bind_some]
    split
    · rw [cat_k (by rw [ByteArray.size_append]; show 1 + (_ + 1) ≤ _; omega), Option.bind_some, lp _ (by simp only [ByteArray.size_append]; show 1 + (_ + 1) ≤ _; omega)]
      unfold patBody
      simp only [ba_assoc]
    · rw [lp _ (by simp only [ByteArray.size_append]; show _ + 1 ≤ _; omega)]
      rfl
def condSep (c : TCond) : ByteArray := if c.Op = 2 then ⟨#[32, 35, 32]⟩ else if c.Op = 3 then ⟨#[32, 60, 32]⟩ else ⟨#[32, 61, 32]⟩
def condText (c : TCond) : ByteArray := if okCond c = true then (argText c.L ++ condSep c) ++ argText c.R else ⟨#[]⟩
theorem cond_has {c : TCond} (h : okCond c = true) : (1 ≤ c.Op ∧ c.Op ≤ 3) ∧ okArg c.L = true ∧ okArg c.R = true := by
  unfold okCond given at h
  simp only [Bool.and_eq_true, decide_eq_true_eq] at h
  exact ⟨h.1, h.2.1.1, h.2.2.1⟩
theorem condSep_len (c : TCond) : (condSep c).size = 3 := by unfold condSep; split <;> (try split) <;> rfl
theorem condText_len (c : TCond) : (condText c).size ≤ 63 := by
  unfold condText
  split
  · rename_i h
    obtain ⟨_, h1, h2⟩ := cond_has h
    have := argText_len h1
    have := argText_len h2
    have := condSep_len c
    simp only [ByteArray.size_append]; omega
  · exact Nat.zero_le _
theorem condT_i {N : Nat} (hN : 1099000000000 ≤ N) (c : TCond) (hs : SzCond c) : m_i_CondText N c = some (condText c) := by
  unfold m_i_CondText condText
  rw [cond_i hN c hs, Option.bind_some]
  cases h : okCond c with
  | false => simp
  | true =>
    obtain ⟨_, h1, h2⟩ := cond_has h
    have l1 := argText_len h1
    have l2 := argText_len h2
    have lp : ∀ s : ByteArray, s.size = 3 → m_i_CondText_j1 N c s = some ((argText c.L ++ s) ++ argText c.R) := by
      intro s h3
      unfold m_i_CondText_j1
      rw [argT_i hN _ hs.1 h1, Option.bind_some, cat_k (by omega), Option.bind_some, argT_i hN _ hs.2 h2, Option.bind_some, cat_k (by rw [ByteArray.size_append]; omega)]
      rfl
    simp only [Bool.not_true, Bool.false_eq_true, if_false, if_true, condSep]
    by_cases k2 : c.Op = 2
    · simp only [k2, decide_true, if_true, lp _ (show (⟨#[32, 35, 32]⟩ : ByteArray).size = 3 from rfl)]
    · by_cases k3 : c.Op = 3
      · simp only [k3, decide_true, if_true, show ¬ (3 : Int) = 2 by omega, decide_false, Bool.false_eq_true, if_false, lp _ (show (⟨#[32, 60, 32]⟩ : ByteArray).size = 3 from rfl)]
      · simp only [k2, k3, decide_false, Bool.false_eq_true, if_false, lp _ (show (⟨#[32, 61, 32]⟩ : ByteArray).size = 3 from rfl)]
theorem condT_s {N : Nat} (hN : 1099000000000 ≤ N) (c : TCond) (hs : SzCond c) : m_s_CondText N c = some (condText c) := by
  unfold m_s_CondText condText
  rw [cond_s hN c hs, Option.bind_some]
  cases h : okCond c with
  | false => simp
  | true =>
    obtain ⟨⟨o1, o2⟩, h1, h2⟩ := cond_has h
    have l1 := argText_len h1
    have l2 := argText_len h2
    simp only [Bool.not_true, Bool.false_eq_true, if_false, if_true]
    have fin : ∀ (m : ByteArray), m.size = 1 → idx ([⟨#[61]⟩, ⟨#[35]⟩, ⟨#[60]⟩] : List ByteArray) (IntKind.i64.wrap (c.Op - 1)) = some m → condSep c = (⟨#[32]⟩ ++ m) ++ ⟨#[32]⟩ →
        ((m_s_l6ArgText N c.L).bind fun x2 => (cat x2 ⟨#[32]⟩).bind fun z1 => (idx ([⟨#[61]⟩, ⟨#[35]⟩, ⟨#[60]⟩] : List ByteArray) (IntKind.i64.wrap (c.Op - 1))).bind fun x3 => (cat z1 x3).bind fun z2 => (cat z2 ⟨#[32]⟩).bind fun z3 => (m_s_l6ArgText N c.R).bind fun x4 => (cat z3 x4).bind fun z4 => some z4) = some ((argText c.L ++ condSep c) ++ argText c.R) := by
      intro m hm e1 e2
      rw [argT_s hN _ hs.1 h1, Option.bind_some, cat_k (by show _ + 1 ≤ _; omega), Option.bind_some, e1, Option.bind_some, cat_k (by rw [ByteArray.size_append]; show _ + 1 + _ ≤ _; omega), Option.bind_some, cat_k (by simp only [ByteArray.size_append]; show _ + 1 + _ + 1 ≤ _; omega), Option.bind_some, argT_s hN _ hs.2 h2, Option.bind_some, cat_k (by simp only [ByteArray.size_append]; show _ + 1 + _ + 1 + _ ≤ _; omega), e2]
      simp only [ba_assoc, Option.bind_some]
    rw [wr (by omega) (by omega)] at fin ⊢
    by_cases k1 : c.Op = 1
    · exact fin ⟨#[61]⟩ rfl (by rw [k1]; rfl) (by unfold condSep; rw [k1]; rfl)
    · by_cases k2 : c.Op = 2
      · exact fin ⟨#[35]⟩ rfl (by rw [k2]; rfl) (by unfold condSep; rw [k2]; rfl)
      · have k3 : c.Op = 3 := by omega
        exact fin ⟨#[60]⟩ rfl (by rw [k3]; rfl) (by unfold condSep; rw [k3]; rfl)
def ruleHead (r : TRule) : ByteArray := (((⟨#[114, 117, 108, 101, 32]⟩ ++ r.Name) ++ ⟨#[32]⟩) ++ num r.Sal) ++ ⟨#[58, 32]⟩
def condPart (l : List TCond) : ByteArray := match l with | [] => ⟨#[]⟩ | c :: t => ⟨#[32, 43, 32]⟩ ++ commas ((c :: t).map condText)
def ruleText (r : TRule) : ByteArray := ((((ruleHead r ++ commas (r.Pats.map patText)) ++ condPart r.Conds) ++ ⟨#[32, 45, 62, 32]⟩) ++ commas (r.Acts.map actText)) ++ ⟨#[46, 10]⟩
theorem rule_has {r : TRule} (h : okRule r = true) : r.Name.size ≤ 12 ∧ (-100 ≤ r.Sal ∧ r.Sal ≤ 100) ∧ r.Pats.length ≤ 6 ∧ r.Conds.length ≤ 6 ∧ r.Acts.length ≤ 6 := by
  unfold okRule okPats at h
  simp only [Bool.and_eq_true, decide_eq_true_eq] at h
  exact ⟨okName_len h.1, h.2.1, by omega, by omega, by omega⟩
theorem le_map {α : Type} {T : α → ByteArray} {C : Nat} (h : ∀ x, (T x).size ≤ C) (l : List α) : ∀ x ∈ l.map T, x.size ≤ C := fun x hx => by
  obtain ⟨a, _, rfl⟩ := List.mem_map.1 hx; exact h a
theorem com_le {α : Type} {T : α → ByteArray} {C : Nat} (h : ∀ x, (T x).size ≤ C) {l : List α} (hl : l.length ≤ 6) : (commas (l.map T)).size ≤ 6 * (C + 2) := by
  have hc := commas_len (C := C) (l.map T) (le_map h l)
  have h5 : (l.map T).length * (C + 2) ≤ 6 * (C + 2) := Nat.mul_le_mul (by simpa using hl) (by omega)
  omega
theorem head_len {r : TRule} (h : okRule r = true) : (ruleHead r).size ≤ 40 := by
  obtain ⟨h1, h2, _⟩ := rule_has h
  have := num_len (n := r.Sal) (by omega) (by omega)
  unfold ruleHead
  simp only [ByteArray.size_append]
  show 5 + _ + 1 + _ + 2 ≤ _
  omega
theorem condPart_len {l : List TCond} (h : l.length ≤ 6) : (condPart l).size ≤ 400 := by
  unfold condPart
  split
  · exact Nat.zero_le _
  · have := com_le condText_len h
    simp only [ByteArray.size_append]; show 3 + _ ≤ _; omega
theorem ruleText_len {r : TRule} (h : okRule r = true) : (ruleText r).size ≤ 5000 := by
  obtain ⟨h1, h2, h3, h4, h5⟩ := rule_has h
  have := head_len h
  have := com_le patText_len h3
  have := com_le actText_len h5
  have := condPart_len h4
  unfold ruleText
  simp only [ByteArray.size_append]
  show _ + _ + _ + 4 + _ + 2 ≤ _
  omega
theorem ruleBody_i {N : Nat} (hN : 1099000000000 ≤ N) (r : TRule) (hs : SzRule r) (h : okRule r = true) : m_i_ruleText N r = some (ruleText r) := by
  obtain ⟨h1, h2, h3, h4, h5⟩ := rule_has h
  have lh := head_len h
  have lp := com_le patText_len h3
  have la := com_le actText_len h5
  have lc := condPart_len h4
  have ln := num_len (n := r.Sal) (by omega) (by omega)
  unfold m_i_ruleText
  refine (partsLoop hN r.Pats (by omega) patText (m_i_ruleText_l1 N r) (fun s => m_i_ruleText_l2 N r s N [] 0) (fun n i s x g4 g2 g5 g6 gl => ?_) (fun n i s g => ?_)).trans ?_
  · simp only [m_i_ruleText_l1, g5, if_true, g4, Option.bind_some, patT_i hN x (hs.2.1.2 x g2), app_ok (show s.length + [patText x].length ≤ 4294967296 by simp; omega), g6]
  · simp only [m_i_ruleText_l1, g, Bool.false_eq_true, if_false]
  refine (partsLoop hN r.Conds (by omega) condText (m_i_ruleText_l2 N r (r.Pats.map patText)) (fun s => m_i_ruleText_l3 N r (r.Pats.map patText) s N [] 0) (fun n i s x g4 g2 g5 g6 gl => ?_) (fun n i s g => ?_)).trans ?_
  · simp only [m_i_ruleText_l2, g5, if_true, g4, Option.bind_some, condT_i hN x (hs.2.2.1.2 x g2), app_ok (show s.length + [condText x].length ≤ 4294967296 by simp; omega), g6]
  · simp only [m_i_ruleText_l2, g, Bool.false_eq_true, if_false]
  refine (partsLoop hN r.Acts (by omega) actText (m_i_ruleText_l3 N r (r.Pats.map patText) (r.Conds.map condText)) (fun s => if decide (0 < ((r.Conds.map condText).length : Int)) = true then (m_strings_Join N (r.Conds.map condText) ⟨#[44, 32]⟩).bind fun x13 => (cat ⟨#[32, 43, 32]⟩ x13).bind fun z9 => (cat (ruleHead r ++ commas (r.Pats.map patText)) z9).bind fun z10 => m_i_ruleText_j4 N s z10 else m_i_ruleText_j4 N s (ruleHead r ++ commas (r.Pats.map patText))) (fun n i s x g4 g2 g5 g6 gl => ?_) (fun n i s g => ?_)).trans ?_
  · simp only [m_i_ruleText_l3, g5, if_true, g4, Option.bind_some, actT_i hN x (hs.2.2.2.1.2 x g2), app_ok (show s.length + [actText x].length ≤ 4294967296 by simp; omega), g6]
  · simp only [m_i_ruleText_l3, g, Bool.false_eq_true, if_false]
    rw [cat_k (by show 5 + _ ≤ _; omega), Option.bind_some, cat_k (by simp only [ByteArray.size_append]; show 5 + _ + 1 ≤ _; omega), Option.bind_some, itoa_i (N := N) (n := r.Sal) (by omega) (by omega), Option.bind_some, cat_k (by simp only [ByteArray.size_append]; show 5 + _ + 1 + _ ≤ _; omega), Option.bind_some, cat_k (by simp only [ByteArray.size_append]; show 5 + _ + 1 + _ + 2 ≤ _; omega), Option.bind_some, join_i (N := N) (C := 191) (by simp; omega) (le_map patText_len _) (by omega), Option.bind_some]
    show ((cat (ruleHead r) (commas (r.Pats.map patText))).bind _) = _
    rw [cat_k (by omega), Option.bind_some]
  have j4 : ∀ z : ByteArray, z.size ≤ 100000 → m_i_ruleText_j4 N (r.Acts.map actText) z = some (((z ++ ⟨#[32, 45, 62, 32]⟩) ++ commas (r.Acts.map actText)) ++ ⟨#[46, 10]⟩) := by
    intro z hz
    unfold m_i_ruleText_j4
    rw [cat_k (by show _ + 4 ≤ _; omega), Option.bind_some, join_i (N := N) (C := 500) (by simp; omega) (le_map actText_len _) (by omega), Option.bind_some, cat_k (by simp only [ByteArray.size_append]; show _ + 4 + _ ≤ _; omega), Option.bind_some, cat_k (by simp only [ByteArray.size_append]; show _ + 4 + _ + 2 ≤ _; omega), Option.bind_some]
  unfold ruleText
  have hcp : (r.Conds = [] ∧ condPart r.Conds = ⟨#[]⟩) ∨ (0 < r.Conds.length ∧ condPart r.Conds = ⟨#[32, 43, 32]⟩ ++ commas (r.Conds.map condText)) := by
    cases r.Conds with
    | nil => exact .inl ⟨rfl, rfl⟩
    | cons c t => exact .inr ⟨by simp, rfl⟩
  rcases hcp with ⟨e1, e2⟩ | ⟨e1, e2⟩
  · rw [e2, e1, if_neg (by decide), j4 _ (by simp only [ByteArray.size_append]; omega), ba_nil]
  · have lc' := com_le condText_len h4
    rw [e2, if_pos (by simp; omega), join_i (N := N) (C := 63) (by simp; omega) (le_map condText_len _) (by omega), Option.bind_some, cat_k (by show 3 + _ ≤ _; omega), Option.bind_some, cat_k (by simp only [ByteArray.size_append]; show _ + _ + (3 + _) ≤ _; omega), Option.bind_some, j4 _ (by simp only [ByteArray.size_append]; show _ + _ + (3 + _) ≤ _; omega)]
theorem ruleBody_s {N : Nat} (hN : 1099000000000 ≤ N) (r : TRule) (hs : SzRule r) (h : okRule r = true) : m_s_l9Text N r = some (ruleText r) := by
  obtain ⟨h1, h2, h3, h4, h5⟩ := rule_has h
  have lh := head_len h
  have lp := com_le patText_len h3
  have la := com_le actText_len h5
  have lc := condPart_len h4
  have ln := num_len (n := r.Sal) (by omega) (by omega)
  have m3 : r.Pats.length * (191 + 2) ≤ 6 * 193 := Nat.mul_le_mul h3 (by omega)
  have m4 : r.Conds.length * (63 + 3) ≤ 6 * 66 := Nat.mul_le_mul h4 (by omega)
  have m5 : r.Acts.length * (500 + 2) ≤ 6 * 502 := Nat.mul_le_mul h5 (by omega)
  unfold m_s_l9Text
  rw [cat_k (by show 5 + _ ≤ _; omega), Option.bind_some, cat_k (by simp only [ByteArray.size_append]; show 5 + _ + 1 ≤ _; omega), Option.bind_some, num_s hN (n := r.Sal) (by omega) (by omega), Option.bind_some, cat_k (by simp only [ByteArray.size_append]; show 5 + _ + 1 + _ ≤ _; omega), Option.bind_some, cat_k (by simp only [ByteArray.size_append]; show 5 + _ + 1 + _ + 2 ≤ _; omega), Option.bind_some]
  show m_s_l9Text_l1 N r N (ruleHead r) 0 = _
  refine (commaLoop r.Pats patText 191 (fun x _ => patText_len x) (m_s_l9Text_l1 N r) (fun s => m_s_l9Text_l3 N r N s 0) (fun n i s x hx hlt hs' => by
    have c0 : decide ((i : Int) < (r.Pats.length : Int)) = true := decide_eq_true (by omega)
    have hx' : idx r.Pats (i : Int) = some x := by rw [idx_nat_lt hlt]; rw [List.getElem?_eq_getElem hlt] at hx; exact hx
    have e := patT_s hN x (hs.2.1.2 x (List.mem_of_getElem? hx))
    have hl := patText_len x
    simp only [m_s_l9Text_l1, m_s_l9Text_j2, c0, if_true, hx', Option.bind_some, e, wr1 i (by omega)]
    by_cases h0 : i = 0
    · have c1 : decide ((0 : Int) < (i : Int)) = false := decide_eq_false (by omega)
      simp only [c1, Bool.false_eq_true, if_false, if_pos h0]
      rw [cat_k (by omega), Option.bind_some]
    · have c1 : decide ((0 : Int) < (i : Int)) = true := decide_eq_true (by omega)
      simp only [c1, if_true, if_neg h0]
      rw [cat_k (by show _ + 2 ≤ _; omega), Option.bind_some, cat_k (by rw [ByteArray.size_append]; show _ + 2 + _ ≤ _; omega), Option.bind_some]) (fun n s hs' => by
    have c0 : decide ((r.Pats.length : Int) < (r.Pats.length : Int)) = false := decide_eq_false (by omega)
    simp only [m_s_l9Text_l1, c0, Bool.false_eq_true, if_false]) N 0 (ruleHead r) (by omega) (by omega) (by omega)).trans ?_
  have e0 : restT 0 ((r.Pats.drop 0).map patText) = commas (r.Pats.map patText) := rfl
  rw [e0]
  refine (commaLoopA r.Conds ⟨#[32, 43, 32]⟩ (by decide) condText 63 (fun x _ => condText_len x) (m_s_l9Text_l3 N r) (fun s => (cat s ⟨#[32, 45, 62, 32]⟩).bind fun z => m_s_l9Text_l5 N r N z 0) (fun n i s x hx hlt hs' => by
    have c0 : decide ((i : Int) < (r.Conds.length : Int)) = true := decide_eq_true (by omega)
    have hx' : idx r.Conds (i : Int) = some x := by rw [idx_nat_lt hlt]; rw [List.getElem?_eq_getElem hlt] at hx; exact hx
    have e := condT_s hN x (hs.2.2.1.2 x (List.mem_of_getElem? hx))
    have hl := condText_len x
    simp only [m_s_l9Text_l3, m_s_l9Text_j4, c0, if_true, hx', Option.bind_some, e, wr1 i (by omega)]
    by_cases h0 : i = 0
    · have c1 : decide ((i : Int) = 0) = true := decide_eq_true (by omega)
      simp only [c1, if_true, if_pos h0]
      rw [cat_k (by show _ + 3 ≤ _; omega), Option.bind_some, cat_k (by rw [ByteArray.size_append]; show _ + 3 + _ ≤ _; omega), Option.bind_some]
    · have c1 : decide ((i : Int) = 0) = false := decide_eq_false (by omega)
      simp only [c1, Bool.false_eq_true, if_false, if_neg h0]
      rw [cat_k (by show _ + 2 ≤ _; omega), Option.bind_some, cat_k (by rw [ByteArray.size_append]; show _ + 2 + _ ≤ _; omega), Option.bind_some]) (fun n s hs' => by
    have c0 : decide ((r.Conds.length : Int) < (r.Conds.length : Int)) = false := decide_eq_false (by omega)
    simp only [m_s_l9Text_l3, c0, Bool.false_eq_true, if_false]) N 0 (ruleHead r ++ commas (r.Pats.map patText)) (by omega) (by omega) (by rw [ByteArray.size_append]; omega)).trans ?_
  have e1 : restA ⟨#[32, 43, 32]⟩ 0 ((r.Conds.drop 0).map condText) = condPart r.Conds := by
    rw [List.drop_zero]
    unfold restA condPart
    rw [if_pos rfl]
    cases r.Conds <;> rfl
  rw [e1, cat_k (by simp only [ByteArray.size_append]; show _ + _ + _ + 4 ≤ _; omega), Option.bind_some]
  refine (commaLoop r.Acts actText 500 (fun x _ => actText_len x) (m_s_l9Text_l5 N r) (fun s => (cat s ⟨#[46, 10]⟩).bind fun z => some z) (fun n i s x hx hlt hs' => by
    have c0 : decide ((i : Int) < (r.Acts.length : Int)) = true := decide_eq_true (by omega)
    have hx' : idx r.Acts (i : Int) = some x := by rw [idx_nat_lt hlt]; rw [List.getElem?_eq_getElem hlt] at hx; exact hx
    have e := actT_s hN x (hs.2.2.2.1.2 x (List.mem_of_getElem? hx))
    have hl := actText_len x
    simp only [m_s_l9Text_l5, m_s_l9Text_j6, c0, if_true, hx', Option.bind_some, e, wr1 i (by omega)]
    by_cases h0 : i = 0
    · have c1 : decide ((0 : Int) < (i : Int)) = false := decide_eq_false (by omega)
      simp only [c1, Bool.false_eq_true, if_false, if_pos h0]
      rw [cat_k (by omega), Option.bind_some]
    · have c1 : decide ((0 : Int) < (i : Int)) = true := decide_eq_true (by omega)
      simp only [c1, if_true, if_neg h0]
      rw [cat_k (by show _ + 2 ≤ _; omega), Option.bind_some, cat_k (by rw [ByteArray.size_append]; show _ + 2 + _ ≤ _; omega), Option.bind_some]) (fun n s hs' => by
    have c0 : decide ((r.Acts.length : Int) < (r.Acts.length : Int)) = false := decide_eq_false (by omega)
    simp only [m_s_l9Text_l5, c0, Bool.false_eq_true, if_false]) N 0 (((ruleHead r ++ commas (r.Pats.map patText)) ++ condPart r.Conds) ++ ⟨#[32, 45, 62, 32]⟩) (by omega) (by omega) (by simp only [ByteArray.size_append]; show _ + _ + _ + 4 + _ ≤ _; omega)).trans ?_
  have e2 : restT 0 ((r.Acts.drop 0).map actText) = commas (r.Acts.map actText) := rfl
  rw [e2, cat_k (by simp only [ByteArray.size_append]; show _ + _ + _ + 4 + _ + 2 ≤ _; omega)]
  rfl
def texts : List TRule → ByteArray
  | [] => ⟨#[]⟩
  | r :: t => ruleText r ++ texts t
def defText (d : TDef) : ByteArray := if okDef d = true then ((⟨#[100, 101, 102, 32]⟩ ++ d.Name) ++ ⟨#[46, 10]⟩) ++ texts d.Rules else ⟨#[]⟩
theorem wrt_ok {s t : ByteArray} (h : s.size + t.size ≤ 140737488355328) : wrt s t = some (s ++ t) := by unfold wrt; rw [if_pos h]
theorem ba_nilL (a : ByteArray) : (⟨#[]⟩ : ByteArray) ++ a = a := by apply ByteArray.ext; simp [ByteArray.data_append]
theorem def_has {d : TDef} (h : okDef d = true) : d.Name.size ≤ 12 ∧ d.Rules.length ≤ 12 := by
  unfold okDef at h
  simp only [Bool.and_eq_true, decide_eq_true_eq] at h
  exact ⟨okName_len h.1, by omega⟩
theorem defT_i {N : Nat} (hN : 1099000000000 ≤ N) (d : TDef) (hs : SzDef d) : m_i_DefText N d = some (defText d) := by
  unfold m_i_DefText defText
  rw [def_i hN d hs, Option.bind_some]
  cases h : okDef d with
  | false => simp
  | true =>
    obtain ⟨h1, h2⟩ := def_has h
    have hr := okDef_rule h
    simp only [Bool.not_true, Bool.false_eq_true, if_false, if_true]
    rw [cat_k (by show 4 + _ ≤ _; omega), Option.bind_some, cat_k (by rw [ByteArray.size_append]; show 4 + _ + 2 ≤ _; omega), Option.bind_some, wrt_ok (by simp only [ByteArray.size_append]; show 0 + (4 + _ + 2) ≤ _; omega), Option.bind_some, ba_nilL]
    refine (lp' hN d.Rules (by omega) (m_i_DefText_l1 N d) (fun t s => some (s ++ texts t)) (fun s t => s.size + t.length * 5000 ≤ 1000000) _ (by simp only [ByteArray.size_append]; show 4 + _ + 2 + _ ≤ _; omega) (fun n s i x t g1 g2 g3 g4 g5 g6 gI ih => ?_) (fun n s i g1 g2 gI => ?_))
    · simp only [List.length_cons] at gI
      have hx := ruleText_len (hr x g2)
      simp only [m_i_DefText_l1, g5, if_true, g4, Option.bind_some, ruleBody_i hN x (hs.2.2 x g2) (hr x g2), g6]
      rw [wrt_ok (by omega), Option.bind_some, ih _ (by rw [ByteArray.size_append]; omega), ba_assoc]
      rfl
    · simp only [m_i_DefText_l1, g2, Bool.false_eq_true, if_false, texts, ba_nil]
theorem defT_s {N : Nat} (hN : 1099000000000 ≤ N) (d : TDef) (hs : SzDef d) : m_s_DefText N d = some (defText d) := by
  unfold m_s_DefText defText
  rw [def_s hN d hs, Option.bind_some]
  cases h : okDef d with
  | false => simp
  | true =>
    obtain ⟨h1, h2⟩ := def_has h
    have hr := okDef_rule h
    simp only [Bool.not_true, Bool.false_eq_true, if_false, if_true]
    rw [cat_k (by show 4 + _ ≤ _; omega), Option.bind_some, cat_k (by rw [ByteArray.size_append]; show 4 + _ + 2 ≤ _; omega), Option.bind_some]
    refine (lp' hN d.Rules (by omega) (m_s_DefText_l1 N d) (fun t s => some (s ++ texts t)) (fun s t => s.size + t.length * 5000 ≤ 1000000) _ (by simp only [ByteArray.size_append]; show 4 + _ + 2 + _ ≤ _; omega) (fun n s i x t g1 g2 g3 g4 g5 g6 gI ih => ?_) (fun n s i g1 g2 gI => ?_))
    · simp only [List.length_cons] at gI
      have hx := ruleText_len (hr x g2)
      simp only [m_s_DefText_l1, g5, if_true, g4, Option.bind_some, ruleBody_s hN x (hs.2.2 x g2) (hr x g2), g6]
      rw [cat_k (by omega), Option.bind_some, ih _ (by rw [ByteArray.size_append]; omega), ba_assoc]
      rfl
    · simp only [m_s_DefText_l1, g2, Bool.false_eq_true, if_false, texts, ba_nil]
set_option maxRecDepth 100000
abbrev D (s : ByteArray) : Bs := s.data.toList
theorem D_app (a b : ByteArray) : D (a ++ b) = D a ++ D b := by simp [D, ByteArray.data_append]
theorem edge_letter {r : Bs} (h : Edge wide r) : Edge letter r := fun b hb => by
  have := h b hb
  unfold wide at this
  simp only [Bool.or_eq_false_iff] at this
  exact this.1
theorem edge_digit {r : Bs} (h : Edge wide r) : Edge digitB r := fun b hb => by
  have := h b hb
  have key : ∀ b : UInt8, wide b = false → digitB b = false := all8 (by decide)
  exact key b this
theorem edge_mk {b : UInt8} {r : Bs} (h : isMk b = true) (h9 : b ≠ 95) : Edge wide (b :: r) := fun c hc => by
  simp at hc; subst hc
  have key : ∀ b : UInt8, isMk b = true → b ≠ 95 → wide b = false := all8 (by decide)
  exact key b h h9
theorem edge_bl {b : UInt8} {r : Bs} (h : blankB b = true) : Edge wide (b :: r) := fun c hc => by
  simp at hc; subst hc
  have key : ∀ b : UInt8, blankB b = true → wide b = false := all8 (by decide)
  exact key b h
theorem Lx.mark' {b : UInt8} {r : Bs} {ts : Toks} (hb : isMk b = true) (h9 : b ≠ 45) (h : Lx r ts) : Lx (b :: r) (mkT (bA [b]) :: ts) := Lx.mark hb (fun e => absurd e h9) h
theorem num_lx {n : Int} (h0 : -1000000000 ≤ n) (h1 : n ≤ 1000000000) {r : Bs} {ts : Toks} (hr : Edge wide r) (h : Lx r ts) : Lx (D (num n) ++ r) (toksInt n ++ ts) := by
  unfold toksInt
  by_cases hn : n < 0
  · rw [if_pos hn]
    have e : D (num n) = 45 :: Go.Lib.decDigits n.natAbs := by show Go.Lib.itoa n = _; unfold Go.Lib.itoa; rw [if_pos hn]
    have e2 : Go.Lib.itoa (-n) = Go.Lib.decDigits n.natAbs := by unfold Go.Lib.itoa; rw [if_neg (by omega)]; congr 1; omega
    have h2 := Lx.num (n := -n) (by omega) (by omega) (edge_digit hr) h
    rw [e2] at h2
    rw [e]
    refine Lx.mark (b := 45) (by decide) (fun _ hc => ?_) h2
    cases hd : Go.Lib.decDigits n.natAbs with
    | nil => exact decD_ne _ hd
    | cons b l =>
      rw [hd] at hc
      have hc : b = 62 := by simpa using hc
      have := decD_digits n.natAbs b (by rw [hd]; simp)
      rw [hc] at this
      exact absurd this (by decide)
  · rw [if_neg hn]
    exact Lx.num (by omega) h1 (edge_digit hr) h
theorem arg_lx {a : TArg} (ha : okArg a = true) {r : Bs} {ts : Toks} (hr : Edge wide r) (h : Lx r ts) : Lx (D (argText a) ++ r) (toksArg a ++ ts) := by
  unfold argText toksArg
  have h0 := ha
  unfold okArg at h0
  by_cases h1 : a.K = 1
  · simp only [h1, if_true, Bool.and_eq_true] at h0 ⊢
    exact Lx.var h0.1 hr h
  by_cases h2 : a.K = 2
  · simp only [h2, show ¬ (2 : Int) = 1 by omega, if_true, if_false, Bool.and_eq_true] at h0 ⊢
    have hv := h0.1
    unfold valText
    by_cases k : a.V.K = 1
    · obtain ⟨n0, n1⟩ := valN hv k
      simp only [k, if_true]
      exact num_lx n0 n1 hr h
    · unfold okVal at hv
      simp only [k, if_false] at hv ⊢
      split at hv
      · simp only [Bool.and_eq_true, decide_eq_true_eq] at hv
        rw [D_app, D_app, List.append_assoc, List.append_assoc]
        exact Lx.text hv.2.1 hv.2.2 h
      · cases hv
  · simp only [h1, h2, if_false]
    exact Lx.mark' (b := 95) (by decide) (by decide) h
theorem expr_lx {e : TExpr} (he : okExpr e = true) {r : Bs} {ts : Toks} (hr : Edge wide r) (h : Lx r ts) : Lx (D (exprText e) ++ r) (toksExpr e ++ ts) := by
  unfold exprText toksExpr
  rw [if_pos he]
  have hx := he
  unfold okExpr at hx
  by_cases h0 : e.Op = e0
  · rw [if_pos (by rw [h0]; exact seq_self _)] at hx
    simp only [Bool.and_eq_true] at hx
    rw [if_pos (by rw [h0]; exact seq_self _), if_pos h0, List.append_nil]
    exact arg_lx (given_ok hx.1) hr h
  · have hq : ¬ (seq e.Op ⟨#[]⟩ = true) := by rw [seq_eq]; simp only [decide_eq_true_eq]; exact h0
    rw [if_neg hq] at hx
    simp only [Bool.and_eq_true, Bool.or_eq_true] at hx
    obtain ⟨ho, hL, hR⟩ := hx
    rw [if_neg hq, if_neg h0]
    simp only [D_app, List.append_assoc]
    have h2 := Lx.blank (b := 32) (by decide) (arg_lx (given_ok hR) hr h)
    have h3 : Lx (D e.Op ++ (D ⟨#[32]⟩ ++ (D (argText e.R) ++ r))) (mkT e.Op :: (toksArg e.R ++ ts)) := by
      rcases ho with ho | ho
      · have : e.Op = ⟨#[43]⟩ := by rw [seq_eq] at ho; exact of_decide_eq_true ho
        rw [this]
        exact Lx.mark' (b := 43) (by decide) (by decide) h2
      · have : e.Op = ⟨#[45]⟩ := by rw [seq_eq] at ho; exact of_decide_eq_true ho
        rw [this]
        exact Lx.mark (b := 45) (by decide) (fun _ hc => by simp [D] at hc) h2
    exact arg_lx (given_ok hL) (edge_bl (b := 32) (by decide)) (Lx.blank (b := 32) (by decide) h3)
theorem cond_lx {c : TCond} (hc : okCond c = true) {r : Bs} {ts : Toks} (hr : Edge wide r) (h : Lx r ts) : Lx (D (condText c) ++ r) (toksCond c ++ ts) := by
  unfold condText toksCond condSep
  rw [if_pos hc]
  unfold okCond at hc
  simp only [Bool.and_eq_true, decide_eq_true_eq] at hc
  obtain ⟨⟨o1, o2⟩, hL, hR⟩ := hc
  simp only [D_app, List.append_assoc, List.cons_append]
  have h2 := Lx.blank (b := 32) (by decide) (arg_lx (given_ok hR) hr h)
  have : c.Op = 1 ∨ c.Op = 2 ∨ c.Op = 3 := by omega
  rcases this with e | e | e
  · simp only [e, if_true, show ¬ (1 : Int) = 2 by omega, show ¬ (1 : Int) = 3 by omega, if_false]
    exact arg_lx (given_ok hL) (edge_bl (b := 32) (by decide)) (Lx.blank (b := 32) (by decide) (Lx.mark' (b := 61) (by decide) (by decide) h2))
  · simp only [e, if_true, show ¬ (2 : Int) = 1 by omega, if_false]
    exact arg_lx (given_ok hL) (edge_bl (b := 32) (by decide)) (Lx.blank (b := 32) (by decide) (Lx.mark' (b := 35) (by decide) (by decide) h2))
  · simp only [e, if_true, show ¬ (3 : Int) = 1 by omega, show ¬ (3 : Int) = 2 by omega, if_false]
    exact arg_lx (given_ok hL) (edge_bl (b := 32) (by decide)) (Lx.blank (b := 32) (by decide) (Lx.mark' (b := 60) (by decide) (by decide) h2))
theorem many_lx {α : Type} {f : α → ByteArray} {tk : α → Toks} : ∀ (l : List α), (∀ x ∈ l, ∀ (r : Bs) (ts : Toks), Edge wide r → Lx r ts → Lx (D (f x) ++ r) (tk x ++ ts)) → ∀ (r : Bs) (ts : Toks), Edge wide r → Lx r ts → Lx (D (commas (l.map f)) ++ r) (toksMany tk l ++ ts)
  | [], H, r, ts, hr, h => h
  | [x], H, r, ts, hr, h => by
    rw [List.map_cons, List.map_nil, commas_cons, tails_nil, D_app, List.append_assoc]
    exact H x (by simp) _ _ hr h
  | x :: y :: l, H, r, ts, hr, h => by
    have ih := many_lx (y :: l) (fun z hz => H z (by simp at hz ⊢; exact .inr hz)) r ts hr h
    rw [List.map_cons, commas_cons] at ih
    rw [List.map_cons, List.map_cons, commas_cons, tails_cons]
    simp only [D_app, List.append_assoc, toksMany, List.cons_append] at ih ⊢
    exact H x (by simp) _ _ (edge_mk (b := 44) (by decide) (by decide)) (Lx.mark' (b := 44) (by decide) (by decide) (Lx.blank (b := 32) (by decide) ih))
theorem list_lx {α : Type} {f : α → ByteArray} {tk : α → Toks} {l : List α} (H : ∀ x ∈ l, ∀ (r : Bs) (ts : Toks), Edge wide r → Lx r ts → Lx (D (f x) ++ r) (tk x ++ ts)) {r : Bs} {ts : Toks} (h : Lx r ts) :
    Lx (40 :: (D (commas (l.map f)) ++ 41 :: r)) (toksList tk l ++ ts) := by
  unfold toksList
  simp only [List.cons_append, List.append_assoc, List.nil_append]
  exact Lx.mark' (b := 40) (by decide) (by decide) (many_lx l H _ _ (edge_mk (b := 41) (by decide) (by decide)) (Lx.mark' (b := 41) (by decide) (by decide) h))
theorem pat_lx {p : TPat} (hp : okPat p = true) {r : Bs} {ts : Toks} (h : Lx r ts) : Lx (D (patText p) ++ r) (toksPat p ++ ts) := by
  unfold patText toksPat
  rw [if_pos hp]
  unfold okPat at hp
  simp only [Bool.and_eq_true, decide_eq_true_eq, List.all_eq_true] at hp
  have hb : Lx (D (patBody p) ++ r) (wdT p.Kind :: (toksList toksArg p.Args ++ ts)) := by
    unfold patBody
    simp only [D_app, List.append_assoc]
    exact Lx.word hp.1 (edge_letter (edge_mk (b := 40) (by decide) (by decide))) (list_lx (fun x hx r ts hr h => arg_lx (hp.2.2 x hx) hr h) h)
  cases p.Not
  · exact hb
  · simp only [if_true, D_app, List.append_assoc, List.cons_append, List.nil_append]
    exact Lx.mark' (b := 33) (by decide) (by decide) hb
theorem call_lx {a : TAct} (hn : okName a.Name = true) (ha : ∀ e ∈ a.Args, okExpr e = true) {r : Bs} {ts : Toks} (h : Lx r ts) : Lx (D (callText a) ++ r) (toksCall a.Name a.Args ++ ts) := by
  unfold callText toksCall
  simp only [D_app, List.append_assoc, List.cons_append]
  exact Lx.word hn (edge_letter (edge_mk (b := 40) (by decide) (by decide))) (list_lx (fun x hx r ts hr h => expr_lx (ha x hx) hr h) h)
theorem bl {b : UInt8} {r : Bs} (h : blankB b = true) : Edge letter (b :: r) := edge_letter (edge_bl h)
theorem act_lx {a : TAct} (hk : okAct a = true) {r : Bs} {ts : Toks} (hr : Edge wide r) (h : Lx r ts) : Lx (D (actText a) ++ r) (toksAct a ++ ts) := by
  unfold actText toksAct
  rw [if_pos hk]
  unfold okAct at hk
  simp only at hk
  by_cases k1 : a.Kind = 1
  · simp only [k1, if_true, Bool.and_eq_true, decide_eq_true_eq, List.all_eq_true] at hk ⊢
    obtain ⟨⟨⟨hn, ha, hl⟩, hM⟩, hU⟩ := hk
    rw [D_app, List.append_assoc]
    exact Lx.word (s := ⟨#[97, 115, 115, 101, 114, 116]⟩) (by decide) (bl (b := 32) (by decide)) (Lx.blank (b := 32) (by decide) (call_lx hn ha h))
  by_cases k2 : a.Kind = 2
  · simp only [k2, show ¬ (2 : Int) = 1 by omega, if_false, if_true, Bool.and_eq_true, decide_eq_true_eq] at hk ⊢
    obtain ⟨⟨⟨hn, hl⟩, hM⟩, hU⟩ := hk
    rw [D_app, List.append_assoc]
    have h2 := num_lx (n := a.N) (by omega) (by omega) hr h
    unfold toksInt at h2
    rw [if_neg (by omega)] at h2
    exact Lx.word (s := ⟨#[100, 114, 111, 112]⟩) (by decide) (bl (b := 32) (by decide)) (Lx.blank (b := 32) (by decide) h2)
  by_cases k3 : a.Kind = 3
  · simp only [k3, show ¬ (3 : Int) = 1 by omega, show ¬ (3 : Int) = 2 by omega, if_false, if_true, Bool.and_eq_true, Bool.or_eq_true, decide_eq_true_eq, List.all_eq_true] at hk ⊢
    obtain ⟨⟨⟨hn, ha, hl⟩, hM⟩, hU⟩ := hk
    by_cases hu : seq a.Undo ⟨#[]⟩ = true
    · rw [if_pos hu, if_pos (seq_e0 hu), D_app, List.append_assoc, List.append_nil]
      exact Lx.word (s := ⟨#[116, 97, 115, 107]⟩) (by decide) (bl (b := 32) (by decide)) (Lx.blank (b := 32) (by decide) (call_lx hn ha h))
    · have hU' : okName a.Undo = true := by rcases hU with hU | hU; exact absurd hU hu; exact hU
      rw [if_neg hu, if_neg (okName_ne hU')]
      simp only [D_app, List.append_assoc, List.cons_append, List.nil_append]
      have h2 := Lx.word hU' (edge_letter hr) h
      have h3 := Lx.word (s := ⟨#[117, 110, 100, 111]⟩) (by decide) (bl (b := 32) (by decide)) (Lx.blank (b := 32) (by decide) h2)
      have h4 := call_lx hn ha (Lx.blank (b := 32) (by decide) h3)
      exact Lx.word (s := ⟨#[116, 97, 115, 107]⟩) (by decide) (bl (b := 32) (by decide)) (Lx.blank (b := 32) (by decide) h4)
  by_cases k4 : a.Kind = 4
  · simp only [k4, show ¬ (4 : Int) = 1 by omega, show ¬ (4 : Int) = 2 by omega, show ¬ (4 : Int) = 3 by omega, if_false, if_true, Bool.and_eq_true, decide_eq_true_eq, List.all_eq_true] at hk ⊢
    obtain ⟨⟨⟨hn, ha, hl⟩, hM⟩, hU⟩ := hk
    simp only [D_app, List.append_assoc]
    have h1 := call_lx hn ha h
    have h2 := num_lx (n := a.N) (by omega) (by omega) (edge_bl (b := 32) (by decide)) (Lx.blank (b := 32) (by decide) h1)
    unfold toksInt at h2
    rw [if_neg (by omega)] at h2
    exact Lx.word (s := ⟨#[116, 105, 109, 101, 114]⟩) (by decide) (bl (b := 32) (by decide)) (Lx.blank (b := 32) (by decide) h2)
  simp only [k1, k2, k3, k4, if_false] at hk ⊢
  by_cases k5 : a.Kind = 5
  · rw [if_pos k5, if_pos k5]
    exact Lx.word (s := ⟨#[100, 111, 110, 101]⟩) (by decide) (edge_letter hr) h
  · rw [if_neg k5, if_neg k5]
    exact Lx.word (s := ⟨#[102, 97, 105, 108]⟩) (by decide) (edge_letter hr) h
theorem conds_lx {l : List TCond} (hl : ∀ c ∈ l, okCond c = true) {r : Bs} {ts : Toks} (hr : Edge wide r) (h : Lx r ts) : Lx (D (condPart l) ++ r) (toksConds l ++ ts) := by
  unfold condPart toksConds
  cases l with
  | nil => exact h
  | cons c l =>
    simp only [D_app, List.append_assoc, if_neg (List.cons_ne_nil c l), List.cons_append]
    exact Lx.blank (b := 32) (by decide) (Lx.mark' (b := 43) (by decide) (by decide) (Lx.blank (b := 32) (by decide) (many_lx (c :: l) (fun x hx r ts hr h => cond_lx (hl x hx) hr h) r ts hr h)))
theorem rule_lx {x : TRule} (hx : okRule x = true) {r : Bs} {ts : Toks} (h : Lx r ts) : Lx (D (ruleText x) ++ r) (toksRule x ++ ts) := by
  unfold okRule at hx
  simp only [Bool.and_eq_true, decide_eq_true_eq, List.all_eq_true] at hx
  obtain ⟨hn, hs, hp, ⟨hc, hcl⟩, ha, hal⟩ := hx
  unfold okPats at hp
  simp only [Bool.and_eq_true, decide_eq_true_eq] at hp
  have hp2 := patsFrom_ok _ _ hp.2.2
  have h1 : Lx (46 :: 10 :: r) (mkT ⟨#[46]⟩ :: ts) := Lx.mark' (b := 46) (by decide) (by decide) (Lx.blank (b := 10) (by decide) h)
  have h2 := many_lx x.Acts (f := actText) (tk := toksAct) (fun a hx r ts hr h => act_lx (by have := ha a hx; unfold okActK at this; simp only [Bool.and_eq_true] at this; exact this.1) hr h) _ _ (edge_mk (b := 46) (by decide) (by decide)) h1
  have h3 := Lx.blank (b := 32) (by decide) (Lx.arrow (Lx.blank (b := 32) (by decide) h2))
  have h4 := conds_lx (l := x.Conds) (fun c hx => by have := hc c hx; unfold okCondK at this; simp only [Bool.and_eq_true] at this; exact this.1) (edge_bl (b := 32) (by decide)) h3
  have h5 : Edge wide (D (condPart x.Conds) ++ 32 :: 45 :: 62 :: 32 :: (D (commas (x.Acts.map actText)) ++ 46 :: 10 :: r)) := by
    unfold condPart
    cases x.Conds with
    | nil => exact edge_bl (b := 32) (by decide)
    | cons c l =>
      simp only [D_app, List.append_assoc]
      exact edge_bl (b := 32) (by decide)
  have h6 := many_lx x.Pats (f := patText) (tk := toksPat) (fun p hx r ts hr h => pat_lx (hp2 p hx) h) _ _ h5 h4
  have h7 := num_lx (n := x.Sal) (by omega) (by omega) (edge_mk (b := 58) (by decide) (by decide)) (Lx.mark' (b := 58) (by decide) (by decide) (Lx.blank (b := 32) (by decide) h6))
  have h8 := Lx.word hn (bl (b := 32) (by decide)) (Lx.blank (b := 32) (by decide) h7)
  unfold ruleText ruleHead toksRule
  simp only [D_app, List.append_assoc, List.cons_append, List.nil_append]
  exact Lx.word (s := ⟨#[114, 117, 108, 101]⟩) (by decide) (bl (b := 32) (by decide)) (Lx.blank (b := 32) (by decide) h8)
theorem rules_lx : ∀ (l : List TRule), (∀ x ∈ l, okRule x = true) → Lx (D (texts l)) (l.flatMap toksRule)
  | [], _ => Lx.nil
  | x :: l, h => by
    have ih := rules_lx l fun y hy => h y (by simp [hy])
    have := rule_lx (h x (by simp)) ih
    rw [List.flatMap_cons]
    unfold texts
    rw [D_app]
    exact this
theorem def_lx {d : TDef} (hd : okDef d = true) : Lx (D (defText d)) (toksDef d) := by
  have hr := okDef_rule hd
  have h1 := rules_lx d.Rules hr
  unfold defText toksDef
  rw [if_pos hd]
  unfold okDef at hd
  simp only [Bool.and_eq_true, decide_eq_true_eq] at hd
  simp only [D_app, List.append_assoc]
  have h2 : Lx (46 :: 10 :: D (texts d.Rules)) (mkT ⟨#[46]⟩ :: d.Rules.flatMap toksRule) := Lx.mark' (b := 46) (by decide) (by decide) (Lx.blank (b := 10) (by decide) h1)
  have h3 := Lx.word hd.1 (edge_letter (edge_mk (b := 46) (by decide) (by decide))) h2
  exact Lx.word (s := ⟨#[100, 101, 102]⟩) (by decide) (bl (b := 32) (by decide)) (Lx.blank (b := 32) (by decide) h3)
theorem rulesL {β γ : Type} {ts : Toks} (hg : Small ts) (hl : ts.length ≤ 3000) {z : Bool} (K : TRule → Nat → Bool → γ) (L : Nat → List TRule → Int → Bool → Option β) (R : Nat → Option γ) (X : List TRule → Option β) (E : Option β)
    (hR : ∀ n, n ≤ ts.length → Does ts K (R n) n false (ruleP z))
    (hB : ∀ k s1 n, L (k + 1) s1 n true = E) (hE : ∀ k s1, L (k + 1) s1 (ts.length : Int) false = X s1)
    (hS : ∀ k s1 n x (n' : Nat) b', n < ts.length → s1.length ≤ 3000 → R n = some (K x n' b') → L (k + 1) s1 (n : Int) false = L k (s1 ++ [x]) (n' : Int) b') :
    ∀ (f g n : Nat) (s1 : List TRule), n ≤ ts.length → ts.length - n < f → ts.length - n < g → s1.length ≤ n → L f s1 (n : Int) false = match rulesP z g (ts.drop n) with | some l => X (s1 ++ l) | none => E
  | 0, g, n, s1, _, h, _, _ => by omega
  | f + 1, 0, n, s1, _, _, h, _ => by omega
  | f + 1, g + 1, n, s1, hn, hf, hg', hs => by
    by_cases c : n = ts.length
    · subst c
      rw [hE, List.drop_length]
      simp only [rulesP, List.append_nil]
    · have hlt : n < ts.length := by omega
      obtain ⟨x, n', b', h0, l1, u1, f1, t1⟩ := hR n hn
      rw [hS f s1 n x n' b' hlt (by omega) h0]
      have hd : rulesP z (g + 1) (ts.drop n) = (ruleP z (ts.drop n)).bind fun x => (rulesP z g x.2).bind fun l => some (x.1 :: l) := by
        rw [List.drop_eq_getElem_cons hlt]
        rfl
      cases b' with
      | true =>
        obtain ⟨k, rfl⟩ : ∃ k, f = k + 1 := ⟨f - 1, by omega⟩
        rw [hB, hd]
        rcases t1 rfl with h | h
        · cases h
        · rw [h]; rfl
      | false =>
        have e := (f1 rfl).2
        have hz := (rule_z e (fun t ht => hg t (List.mem_of_mem_drop ht)) (by simp; omega)).2.2
        simp only [List.length_drop] at hz
        rw [hd, e, Option.bind_some, rulesL hg hl K L R X E hR hB hE hS f g n' (s1 ++ [x]) u1 (by omega) (by omega) (by simp; omega)]
        cases rulesP z g (ts.drop n') <;> simp
def okOut (ts : Toks) : Option TDef → TDef × Bool
  | some d => if okDef d = true then (d, true) else (⟨e0, []⟩, false)
  | none => (⟨e0, []⟩, false)
def okOutI (ts : Toks) : Option TDef → TDef × Bool
  | some d => if okDef d = true ∧ toksDef d = ts then (d, true) else (⟨e0, []⟩, false)
  | none => (⟨e0, []⟩, false)
theorem out_eq {ts : Toks} (hg : Good ts) : okOutI ts (defP false ts) = okOut ts (defP true ts) := by
  cases hB : defP true ts with
  | some d =>
    have e := def_snd hB hg
    unfold okOut
    simp only
    by_cases c : okDef d = true
    · rw [if_pos c]
      have hA : defP false ts = some d := by rw [e]; exact def_ok c
      rw [hA]
      unfold okOutI
      simp only
      rw [if_pos ⟨c, e.symm⟩]
    · rw [if_neg c]
      cases hA : defP false ts with
      | none => rfl
      | some d' =>
        unfold okOutI
        simp only
        rw [if_neg]
        rintro ⟨c1, c2⟩
        have := def_ok (z := true) c1
        rw [c2, hB] at this
        cases this
        exact c c1
  | none =>
    unfold okOut
    cases hA : defP false ts with
    | none => rfl
    | some d' =>
      unfold okOutI
      simp only
      rw [if_neg]
      rintro ⟨c1, c2⟩
      have := def_ok (z := true) c1
      rw [c2, hB] at this
      cases this
theorem eqToks {N : Nat} (hN : 1099000000000 ≤ N) (x y : Toks) (hl : x.length ≤ 3000) : m_sl_Equal_Si_Token_i_Token N x y = some (decide (x = y)) := by
  unfold m_sl_Equal_Si_Token_i_Token
  by_cases c : x.length = y.length
  · rw [if_neg (by simp; omega)]
    refine (eqloop (m_sl_Equal_Si_Token_i_Token_l1 N x y) x y c (by omega) (fun a b => some (eqT_TToken a b)) (fun a _ b _ => by rw [eqT_TToken_eq]) (fun k i => rfl) N 0 (by omega) (by omega)).trans ?_
    simp
  · rw [if_pos (by simp; omega)]
    have : ¬ x = y := fun e => c (by rw [e])
    simp [this]
theorem defText_len {d : TDef} (h : okDef d = true) : (defText d).size ≤ 1048576 := by
  have hh := def_has h
  have hr := okDef_rule h
  have : ∀ (l : List TRule), (∀ r ∈ l, okRule r = true) → (texts l).size ≤ l.length * 5000 := by
    intro l
    induction l with
    | nil => intro _; exact Nat.le_refl _
    | cons r t ih =>
      intro h
      have h1 := ruleText_len (h r (by simp))
      have h2 := ih fun x hx => h x (by simp [hx])
      simp only [texts, ByteArray.size_append, List.length_cons]
      omega
  have h3 := this _ hr
  unfold defText
  rw [if_pos h]
  simp only [ByteArray.size_append]
  show 4 + _ + 2 + _ ≤ _
  omega
theorem endI {N : Nat} (hN : 1099000000000 ≤ N) {ts : Toks} (hne : ts ≠ []) (hl : ts.length ≤ 3000) (d : TDef) (hs : SzDef d) :
    ((m_i_DefOk N d).bind fun x7 => some (!x7)).bind (fun b7 => (if b7 then some ((⟨(⟨#[]⟩ : ByteArray), []⟩ : TDef), false) else ((m_i_DefText N d).bind fun x8 => ((m_i_Lex N x8).bind fun x9 => ((m_sl_Equal_Si_Token_i_Token N x9.1 ts).bind fun x10 => (if !x10 then some ((⟨(⟨#[]⟩ : ByteArray), []⟩ : TDef), false) else some (d, true))))))) = some (okOutI ts (some d)) := by
  rw [def_i hN d hs, Option.bind_some, Option.bind_some]
  unfold okOutI
  simp only
  cases h : okDef d with
  | false => simp
  | true =>
    simp only [Bool.not_true, Bool.false_eq_true, if_false, true_and]
    have hx := def_lx h
    obtain ⟨p, -, hp⟩ := lex_i hN (defText d) (defText_len h)
    rw [defT_i hN d hs, Option.bind_some, hp, Option.bind_some]
    have e : lexR (defText d) = if (toksDef d).length ≤ 3000 then some (toksDef d) else none := by
      unfold lexR
      rw [show lexL (defText d).data.toList = some (toksDef d) from hx, Option.bind_some]
    rw [e]
    by_cases c : (toksDef d).length ≤ 3000
    · rw [if_pos c]
      simp only
      rw [eqToks hN _ _ c, Option.bind_some]
      by_cases c2 : toksDef d = ts
      · simp [c2]
      · simp [c2]
    · rw [if_neg c]
      simp only
      rw [eqToks hN _ _ (by simp), Option.bind_some]
      have c2 : ¬ toksDef d = ts := fun e => c (by rw [e]; exact hl)
      have c3 : ¬ ([] : Toks) = ts := fun e => hne e.symm
      simp [c2, c3]
theorem endS' {N : Nat} (hN : 1099000000000 ≤ N) {ts : Toks} (d : TDef) (hs : SzDef d) :
    ((m_s_DefOk N d).bind fun x7 => some (!x7)).bind (fun b7 => (if b7 then some ((⟨(⟨#[]⟩ : ByteArray), []⟩ : TDef), false) else some (d, true))) = some (okOut ts (some d)) := by
  rw [def_s hN d hs, Option.bind_some, Option.bind_some]
  unfold okOut
  simp only
  cases h : okDef d with
  | false => simp
  | true => simp
theorem tkS {o : Option Toks} {r : Toks} (h : o.bind (fun r => some ((), r)) = some ((), r)) : o = some r := by
  cases o with
  | none => cases h
  | some x => cases h; rfl
theorem tkN {o : Option Toks} (h : o.bind (fun r => some ((), r)) = none) : o = none := by
  cases o with
  | none => rfl
  | some x => cases h
theorem header {z : Bool} {ts : Toks} {w : TToken} {n1 n2 n3 : Nat} {b1 b2 b3 : Bool}
    (f1 : b1 = false → false = false ∧ ((skipP 2 ⟨#[100, 101, 102]⟩ (ts.drop 0)).bind fun r => some ((), r)) = some ((), ts.drop n1)) (t1 : b1 = true → false = true ∨ ((skipP 2 ⟨#[100, 101, 102]⟩ (ts.drop 0)).bind fun r => some ((), r)) = none)
    (f2 : b2 = false → b1 = false ∧ wordP 2 (ts.drop n1) = some (w, ts.drop n2)) (t2 : b2 = true → b1 = true ∨ wordP 2 (ts.drop n1) = none)
    (f3 : b3 = false → b2 = false ∧ ((skipP 5 ⟨#[46]⟩ (ts.drop n2)).bind fun r => some ((), r)) = some ((), ts.drop n3)) (t3 : b3 = true → b2 = true ∨ ((skipP 5 ⟨#[46]⟩ (ts.drop n2)).bind fun r => some ((), r)) = none) :
    (b3 = false → defP z ts = (rulesP z 4000 (ts.drop n3)).bind fun l => some ⟨w.S, l⟩) ∧ (b3 = true → defP z ts = none) := by
  rw [List.drop_zero] at f1 t1
  have hd : defP z ts = ((skipP 2 ⟨#[100, 101, 102]⟩ ts).bind fun r0 => (wordP 2 r0).bind fun w => (skipP 5 ⟨#[46]⟩ w.2).bind fun r1 => (rulesP z 4000 r1).bind fun l => some ⟨w.1.S, l⟩) := rfl
  refine ⟨fun h => ?_, fun h => ?_⟩
  · obtain ⟨e2, h3⟩ := f3 h
    obtain ⟨e1, h2⟩ := f2 e2
    obtain ⟨-, h1⟩ := f1 e1
    rw [hd, tkS h1, Option.bind_some, h2, Option.bind_some, tkS h3, Option.bind_some]
  · cases b1 with
    | true =>
      rcases t1 rfl with h1 | h1
      · cases h1
      · rw [hd, tkN h1, Option.bind_none]
    | false =>
      obtain ⟨-, h1⟩ := f1 rfl
      cases b2 with
      | true =>
        rcases t2 rfl with h2 | h2
        · cases h2
        · rw [hd, tkS h1, Option.bind_some, h2, Option.bind_none]
      | false =>
        obtain ⟨-, h2⟩ := f2 rfl
        rcases t3 h with h3 | h3
        · cases h3
        · rw [hd, tkS h1, Option.bind_some, h2, Option.bind_some, tkN h3, Option.bind_none]
theorem AllOk.small {ts : Toks} (h : AllOk ts) : Small ts := fun t ht => tokOk_small (h t ht)
theorem parse_i {N : Nat} (hN : 1099000000000 ≤ N) {ts : Toks} (ho : AllOk ts) (hl : ts.length ≤ 3000) :
    ((m_i_parser_take N (⟨ts, 0, false⟩ : Tparser) 2 (⟨#[100, 101, 102]⟩ : ByteArray)).bind fun x2 => ((m_i_parser_word N (⟨ts, x2.at_, x2.bad⟩ : Tparser) 2).bind fun x3 => ((m_i_parser_take N (⟨ts, x3.2.at_, x3.2.bad⟩ : Tparser) 5 (⟨#[46]⟩ : ByteArray)).bind fun x4 => m_i_ParseDef_l1 N (ts, -1) x3 N ([] : List TRule) x4.at_ x4.bad))) = some (okOutI ts (defP false ts)) := by
  obtain ⟨⟨⟩, n1, b1, h1, l1, u1, f1, t1⟩ := ptake_i (N := N) ho.good hl (k := 2) (by decide) (by decide) (s := ⟨#[100, 101, 102]⟩) (bad := false) (Nat.zero_le ts.length)
  obtain ⟨w, n2, b2, h2, l2, u2, f2, t2⟩ := pword_i (N := N) hl (k := 2) (by decide) (bad := b1) u1
  obtain ⟨⟨⟩, n3, b3, h3, l3, u3, f3, t3⟩ := ptake_i (N := N) ho.good hl (k := 5) (by decide) (by decide) (s := ⟨#[46]⟩) (bad := b2) u2
  obtain ⟨g1, g2⟩ := header (z := false) f1 t1 f2 t2 f3 t3
  rw [show (⟨ts, 0, false⟩ : Tparser) = pI ts ((0 : Nat)) false from rfl, h1, Option.bind_some, h2, Option.bind_some, h3, Option.bind_some]
  have hB : ∀ k s1 n, m_i_ParseDef_l1 N (ts, -1) (w, pI ts n2 b2) (k + 1) s1 n true = some (⟨e0, []⟩, false) := fun k s1 n => by
    simp only [m_i_ParseDef_l1, Bool.not_true, Bool.false_eq_true, if_false, Option.bind_some, if_true]
  cases b3 with
  | true =>
    obtain ⟨M, hM⟩ : ∃ M, N = M + 1 := ⟨N - 1, by omega⟩
    rw [g2 rfl]
    show m_i_ParseDef_l1 N (ts, -1) (w, pI ts n2 b2) N [] (n3 : Int) true = _
    have := hB M [] (n3 : Int)
    rw [← hM] at this
    exact this
  | false =>
    have key := rulesL ho.small hl (z := false) (KI ts) (m_i_ParseDef_l1 N (ts, -1) (w, pI ts n2 b2)) (fun n => m_i_parser_rule N (pI ts n false)) (fun s1 => m_i_ParseDef_l1 N (ts, -1) (w, pI ts n2 b2) 1 s1 (ts.length : Int) false) (some (⟨e0, []⟩, false))
      (fun n hn => rule_i' hN ho hl hn) hB (fun k s1 => by simp only [m_i_ParseDef_l1, Bool.not_false, if_true, Int.lt_irrefl, decide_false, Option.bind_some, Bool.false_eq_true, if_false])
      (fun k s1 n x n' b' hlt hs hr => by
        have ha : app s1 [x] = some (s1 ++ [x]) := app_ok (by simp; omega)
        have hr' : m_i_parser_rule N (pI ts n false) = some (x, pI ts n' b') := hr
        have hc : decide ((n : Int) < (ts.length : Int)) = true := decide_eq_true (by omega)
        simp only [m_i_ParseDef_l1, Bool.not_false, if_true, hc, Option.bind_some, hr', ha]) N 4000 n3 [] u3 (by omega) (by omega) (by simp)
    show m_i_ParseDef_l1 N (ts, -1) (w, pI ts n2 b2) N [] (n3 : Int) false = _
    rw [key, g1 rfl]
    cases hr : rulesP false 4000 (ts.drop n3) with
    | none => rfl
    | some l =>
      have hd := g1 rfl
      rw [hr] at hd
      have hz := def_z hd ho.small (by omega)
      have hne : ts ≠ [] := by rintro rfl; cases hd
      simp only [List.nil_append, Option.bind_some]
      rw [← endI hN hne hl ⟨w.S, l⟩ hz]
      simp only [m_i_ParseDef_l1, Bool.not_false, if_true, Int.lt_irrefl, decide_false, Option.bind_some, Bool.false_eq_true, if_false]
theorem parse_s {N : Nat} (hN : 1099000000000 ≤ N) {ts : Toks} (ho : AllOk ts) (hl : ts.length ≤ 3000) :
    ((m_s_l10Word N (⟨ts, 0, false⟩ : Tl10Reader) (⟨#[100, 101, 102]⟩ : ByteArray)).bind fun x2 => ((m_s_l10Next N (⟨ts, x2.at_, x2.bad⟩ : Tl10Reader) 2).bind fun x3 => ((m_s_l10Mark N (⟨ts, x3.2.at_, x3.2.bad⟩ : Tl10Reader) (⟨#[46]⟩ : ByteArray)).bind fun x4 => m_s_ParseDef_l1 N (ts, -1) x3 N ([] : List TRule) x4.at_ x4.bad))) = some (okOut ts (defP true ts)) := by
  have ho' : AllOkS ts := ho
  obtain ⟨⟨⟩, n1, b1, h1, l1, u1, f1, t1⟩ := pname_s (N := N) ho.good hl (s := ⟨#[100, 101, 102]⟩) (bad := false) (Nat.zero_le ts.length)
  obtain ⟨w, n2, b2, h2, l2, u2, f2, t2⟩ := pword_s (N := N) hl (k := 2) (bad := b1) u1
  obtain ⟨⟨⟩, n3, b3, h3, l3, u3, f3, t3⟩ := pmark_s (N := N) ho.good hl (s := ⟨#[46]⟩) (bad := b2) u2
  obtain ⟨g1, g2⟩ := header (z := true) f1 t1 f2 t2 f3 t3
  rw [show (⟨ts, 0, false⟩ : Tl10Reader) = pS ts ((0 : Nat)) false from rfl, h1, Option.bind_some, h2, Option.bind_some, h3, Option.bind_some]
  have hB : ∀ k s1 n, m_s_ParseDef_l1 N (ts, -1) (w, pS ts n2 b2) (k + 1) s1 n true = some (⟨e0, []⟩, false) := fun k s1 n => by
    cases hc : decide (n < (ts.length : Int)) <;> simp only [m_s_ParseDef_l1, hc, Bool.not_true, Bool.false_eq_true, if_false, Option.bind_some, if_true]
  cases b3 with
  | true =>
    obtain ⟨M, hM⟩ : ∃ M, N = M + 1 := ⟨N - 1, by omega⟩
    rw [g2 rfl]
    show m_s_ParseDef_l1 N (ts, -1) (w, pS ts n2 b2) N [] (n3 : Int) true = _
    have := hB M [] (n3 : Int)
    rw [← hM] at this
    exact this
  | false =>
    have key := rulesL ho.small hl (z := true) (KS ts) (m_s_ParseDef_l1 N (ts, -1) (w, pS ts n2 b2)) (fun n => m_s_l10Rule N (pS ts n false)) (fun s1 => m_s_ParseDef_l1 N (ts, -1) (w, pS ts n2 b2) 1 s1 (ts.length : Int) false) (some (⟨e0, []⟩, false))
      (fun n hn => prule_s hN ho' hl hn) hB (fun k s1 => by simp only [m_s_ParseDef_l1, Int.lt_irrefl, decide_false, Option.bind_some, Bool.false_eq_true, if_false])
      (fun k s1 n x n' b' hlt hs hr => by
        have ha : app s1 [x] = some (s1 ++ [x]) := app_ok (by simp; omega)
        have hr' : m_s_l10Rule N (pS ts n false) = some (x, pS ts n' b') := hr
        have hc : decide ((n : Int) < (ts.length : Int)) = true := decide_eq_true (by omega)
        simp only [m_s_ParseDef_l1, Bool.not_false, if_true, hc, Option.bind_some, hr', ha]) N 4000 n3 [] u3 (by omega) (by omega) (by simp)
    show m_s_ParseDef_l1 N (ts, -1) (w, pS ts n2 b2) N [] (n3 : Int) false = _
    rw [key, g1 rfl]
    cases hr : rulesP true 4000 (ts.drop n3) with
    | none => rfl
    | some l =>
      have hd := g1 rfl
      rw [hr] at hd
      have hz := def_z hd ho.small (by omega)
      simp only [List.nil_append, Option.bind_some]
      rw [← endS' (ts := ts) hN ⟨w.S, l⟩ hz]
      simp only [m_s_ParseDef_l1, Int.lt_irrefl, decide_false, Option.bind_some, Bool.false_eq_true, if_false]
theorem parse_s0 {N : Nat} (hN : 1099000000000 ≤ N) (p : Int) :
    ((m_s_l10Word N (⟨[], 0, true⟩ : Tl10Reader) (⟨#[100, 101, 102]⟩ : ByteArray)).bind fun x2 => ((m_s_l10Next N (⟨[], x2.at_, x2.bad⟩ : Tl10Reader) 2).bind fun x3 => ((m_s_l10Mark N (⟨[], x3.2.at_, x3.2.bad⟩ : Tl10Reader) (⟨#[46]⟩ : ByteArray)).bind fun x4 => m_s_ParseDef_l1 N ([], p) x3 N ([] : List TRule) x4.at_ x4.bad))) = some (⟨e0, []⟩, false) := by
  have hg : Good ([] : Toks) := by intro t ht; cases ht
  have hl : ([] : Toks).length ≤ 3000 := by simp
  obtain ⟨⟨⟩, n1, b1, h1, l1, u1, f1, t1⟩ := pname_s (N := N) hg hl (s := ⟨#[100, 101, 102]⟩) (bad := true) (Nat.zero_le _)
  obtain ⟨w, n2, b2, h2, l2, u2, f2, t2⟩ := pword_s (N := N) hl (k := 2) (bad := b1) u1
  obtain ⟨⟨⟩, n3, b3, h3, l3, u3, f3, t3⟩ := pmark_s (N := N) hg hl (s := ⟨#[46]⟩) (bad := b2) u2
  rw [show (⟨[], 0, true⟩ : Tl10Reader) = pS [] ((0 : Nat)) true from rfl, h1, Option.bind_some, h2, Option.bind_some, h3, Option.bind_some]
  have hb : b3 = true := by
    cases b3 with
    | true => rfl
    | false =>
      have := (f1 (f2 (f3 rfl).1).1).1
      cases this
  subst hb
  obtain ⟨M, hM⟩ : ∃ M, N = M + 1 := ⟨N - 1, by omega⟩
  show m_s_ParseDef_l1 N ([], p) (w, pS [] n2 b2) N [] (n3 : Int) true = _
  have hB : ∀ k s1 n, m_s_ParseDef_l1 N ([], p) (w, pS [] n2 b2) (k + 1) s1 n true = some (⟨e0, []⟩, false) := fun k s1 n => by
    cases hc : decide (n < (([] : Toks).length : Int)) <;> simp only [m_s_ParseDef_l1, hc, Bool.not_true, Bool.false_eq_true, if_false, Option.bind_some, if_true]
  have := hB M [] (n3 : Int)
  rw [← hM] at this
  exact this
theorem lexR_ok {s : ByteArray} {ts : Toks} (h : lexR s = some ts) : AllOk ts ∧ ts.length ≤ 3000 := by
  unfold lexR at h
  obtain ⟨l, h1, h2⟩ := bind_some h
  split at h2
  · cases h2
    exact ⟨lexF_ok _ _ _ h1, by omega⟩
  · cases h2
def parsed (s : ByteArray) : TDef × Bool := match lexR s with | some ts => okOut ts (defP true ts) | none => (⟨e0, []⟩, false)
theorem pd_i {N : Nat} (hN : 1099000000000 ≤ N) (s : ByteArray) (hs : s.size ≤ 1048576) : m_i_ParseDef N s = some (parsed s) := by
  obtain ⟨p, hp, h⟩ := lex_i hN s hs
  unfold m_i_ParseDef parsed
  rw [h, Option.bind_some]
  cases hx : lexR s with
  | none =>
    simp only
    have c : ¬ p = -1 := by omega
    simp only [c, decide_false, Bool.not_false, if_true]
  | some ts =>
    simp only [decide_true, Bool.not_true, Bool.false_eq_true, if_false]
    obtain ⟨g1, g2⟩ := lexR_ok hx
    rw [← out_eq g1.good]
    exact parse_i hN g1 g2
theorem pd_s {N : Nat} (hN : 1099000000000 ≤ N) (s : ByteArray) (hs : s.size ≤ 1048576) : m_s_ParseDef N s = some (parsed s) := by
  obtain ⟨p, hp, h⟩ := lex_s hN s hs
  unfold m_s_ParseDef parsed
  rw [h, Option.bind_some]
  cases hx : lexR s with
  | none =>
    simp only
    have c : ¬ p = -1 := by omega
    simp only [c, decide_false, Bool.not_false]
    exact parse_s0 hN p
  | some ts =>
    simp only [decide_true, Bool.not_true]
    obtain ⟨g1, g2⟩ := lexR_ok hx
    exact parse_s hN g1 g2
theorem parsed_ok (s : ByteArray) : (∃ d, parsed s = (d, true) ∧ okDef d = true ∧ SzDef d) ∨ parsed s = (⟨e0, []⟩, false) := by
  unfold parsed
  cases hx : lexR s with
  | none => exact .inr rfl
  | some ts =>
    obtain ⟨g1, g2⟩ := lexR_ok hx
    simp only
    cases hd : defP true ts with
    | none => exact .inr rfl
    | some d =>
      unfold okOut
      simp only
      by_cases c : okDef d = true
      · rw [if_pos c]; exact .inl ⟨d, rfl, c, def_z hd g1.small (by omega)⟩
      · rw [if_neg c]; exact .inr rfl
theorem lexR_text {d : TDef} (h : okDef d = true) : lexR (defText d) = if (toksDef d).length ≤ 3000 then some (toksDef d) else none := by
  have hx := def_lx h
  unfold lexR
  rw [show lexL (defText d).data.toList = some (toksDef d) from hx, Option.bind_some]
theorem parsed_toks {s : ByteArray} {d : TDef} (h : parsed s = (d, true)) : okDef d = true ∧ SzDef d ∧ (toksDef d).length ≤ 3000 ∧ lexR s = some (toksDef d) := by
  unfold parsed at h
  cases hx : lexR s with
  | none => rw [hx] at h; cases h
  | some ts =>
    obtain ⟨g1, g2⟩ := lexR_ok hx
    rw [hx] at h
    simp only at h
    cases hd : defP true ts with
    | none => rw [hd] at h; cases h
    | some x =>
      rw [hd] at h
      unfold okOut at h
      simp only at h
      by_cases c : okDef x = true
      · rw [if_pos c] at h
        cases h
        have e := def_snd hd g1.good
        exact ⟨c, def_z hd g1.small (by omega), by rw [← e]; exact g2, by rw [e]⟩
      · rw [if_neg c] at h; cases h
theorem parsed_cases (s : ByteArray) : (∃ d, parsed s = (d, true)) ∨ parsed s = (⟨e0, []⟩, false) := by
  rcases parsed_ok s with ⟨d, e, -⟩ | e
  · exact .inl ⟨d, e⟩
  · exact .inr e
theorem and_le (i : Int) (m : Nat) (h : m < 4611686018427387904) : 0 ≤ andI .i64 i (m : Int) ∧ andI .i64 i (m : Int) ≤ (m : Int) := by
  unfold andI
  have h1 : ((BitVec.ofInt IntKind.i64.bits i) &&& (BitVec.ofInt IntKind.i64.bits (m : Int))).toNat ≤ m := by
    rw [BitVec.toNat_and]
    have h2 : (BitVec.ofInt IntKind.i64.bits (m : Int)).toNat = m := by
      rw [BitVec.toNat_ofInt]
      have : ((2 ^ IntKind.i64.bits : Nat) : Int) = 18446744073709551616 := by decide
      rw [this, Int.emod_eq_of_lt (by omega) (by omega)]
      simp
    rw [h2]; exact Nat.and_le_right
  rw [wr (by omega) (by omega)]
  omega
theorem and255 (i : Int) : 0 ≤ andI .i64 i 255 ∧ andI .i64 i 255 ≤ 255 := and_le i 255 (by omega)
def GC (b : List Int) (c : Tl1Cur) : Prop := c.b = b ∧ 0 ≤ c.i ∧ c.i ≤ (b.length : Int)
theorem GC.re {b : List Int} {c d : Tl1Cur} (h : GC b c) (h' : d.b = b) : GC b (⟨d.b, c.i, c.h⟩ : Tl1Cur) := ⟨h', h.2⟩
theorem new_ok {N : Nat} (hN : 1099000000000 ≤ N) (b : List Int) (hb : b.length ≤ 1048576) : ∃ c, m_s_l1New N b = some c ∧ GC b c := by
  unfold m_s_l1New
  have : ∀ (n i : Nat) (h : Int), i ≤ b.length → b.length - i < n → ∃ c, m_s_l1New_l1 N b n h i = some c ∧ GC b c := by
    intro n
    induction n with
    | zero => intro i h _ h'; omega
    | succ n ih =>
      intro i h hi hn
      simp only [m_s_l1New_l1]
      by_cases hlt : i < b.length
      · have c1 : decide ((i : Int) < (b.length : Int)) = true := decide_eq_true (by omega)
        simp only [c1, if_true, Option.bind_some, idx_nat_lt hlt, wr1 i (by omega)]
        split
        · exact ih (i + 1) _ (by omega) (by omega)
        · exact ⟨_, rfl, rfl, by simp, by simp⟩
      · have c1 : decide ((i : Int) < (b.length : Int)) = false := decide_eq_false (by omega)
        simp only [c1, Bool.false_eq_true, if_false, Option.bind_some]
        exact ⟨_, rfl, rfl, by simp, by simp⟩
  exact this N 0 _ (by omega) (by omega)
theorem byte_ok {N : Nat} (b : List Int) (hb : b.length ≤ 1048576) (c : Tl1Cur) (hc : GC b c) : ∃ v d, m_s_l1Byte N c = some (v, d) ∧ GC b d ∧ 0 ≤ v ∧ v ≤ 255 := by
  obtain ⟨rfl, h0, h1⟩ := hc
  unfold m_s_l1Byte
  by_cases hlt : c.i < (c.b.length : Int)
  · obtain ⟨i, hi⟩ : ∃ i : Nat, c.i = (i : Int) := ⟨c.i.toNat, by omega⟩
    have c1 : decide (c.i < (c.b.length : Int)) = true := decide_eq_true hlt
    rw [hi] at h0 h1 hlt ⊢
    rw [hi] at c1
    simp only [c1, if_true, idx_nat_lt (show i < c.b.length by omega), Option.bind_some, wr1 i (by omega)]
    exact ⟨_, _, rfl, ⟨rfl, by simp; omega, by simp; omega⟩, and255 _⟩
  · have c1 : decide (c.i < (c.b.length : Int)) = false := decide_eq_false hlt
    simp only [c1, Bool.false_eq_true, if_false]
    exact ⟨_, _, rfl, ⟨rfl, h0, h1⟩, and255 _⟩
theorem rem_ok {v n : Int} (hv : 0 ≤ v) (hn : 0 < n) : ∃ r, remI v n = some r ∧ 0 ≤ r ∧ r < n := by
  unfold remI
  rw [if_neg (by omega), Int.tmod_eq_emod_of_nonneg hv]
  exact ⟨_, rfl, Int.emod_nonneg _ (by omega), Int.emod_lt_of_pos _ hn⟩
theorem below_ok {N : Nat} (b : List Int) (hb : b.length ≤ 1048576) (c : Tl1Cur) (hc : GC b c) (n : Int) : ∃ v d, m_s_l1Below N c n = some (v, d) ∧ GC b d ∧ 0 ≤ v ∧ (0 < n → v < n) ∧ (n ≤ 0 → v = 0) := by
  unfold m_s_l1Below
  by_cases h0 : n ≤ 0
  · simp only [h0, decide_true, if_true]
    exact ⟨_, _, rfl, hc, by omega, by omega, fun _ => rfl⟩
  · simp only [h0, decide_false, Bool.false_eq_true, if_false]
    by_cases h1 : n ≤ 256
    · simp only [h1, decide_true, if_true]
      obtain ⟨v, d, e, g, a1, a2⟩ := byte_ok (N := N) b hb c hc
      obtain ⟨r, er, r0, r1⟩ := rem_ok a1 (show 0 < n by omega)
      simp only [e, Option.bind_some, er]
      exact ⟨_, _, rfl, g.re hc.1 |> fun _ => ⟨hc.1, g.2⟩, r0, fun _ => r1, fun h => h.elim⟩
    · simp only [h1, decide_false, Bool.false_eq_true, if_false]
      obtain ⟨v1, d1, e1, g1, a1, a1'⟩ := byte_ok (N := N) b hb c hc
      simp only [e1, Option.bind_some]
      obtain ⟨v2, d2, e2, g2, a2, a2'⟩ := byte_ok (N := N) b hb ⟨c.b, d1.i, d1.h⟩ ⟨hc.1, g1.2⟩
      simp only [e2, Option.bind_some]
      obtain ⟨v3, d3, e3, g3, a3, a3'⟩ := byte_ok (N := N) b hb ⟨c.b, d2.i, d2.h⟩ ⟨hc.1, g2.2⟩
      simp only [e3, Option.bind_some]
      rw [wr (n := v1 * 65536) (by omega) (by omega), wr (n := v2 * 256) (by omega) (by omega), wr (n := v1 * 65536 + v2 * 256) (by omega) (by omega), wr (n := v1 * 65536 + v2 * 256 + v3) (by omega) (by omega)]
      obtain ⟨r, er, r0, r1⟩ := rem_ok (show 0 ≤ v1 * 65536 + v2 * 256 + v3 by omega) (show 0 < n by omega)
      simp only [er, Option.bind_some]
      exact ⟨_, _, rfl, ⟨hc.1, g3.2⟩, r0, fun _ => r1, fun h => h.elim⟩
theorem wrm {s : Int} (h : 0 < s) (h' : s ≤ 4611686018427387904) : IntKind.i64.wrap (s - 1) = s - 1 := wr (by omega) (by omega)
def Dr {α : Type} (b : List Int) (Q : α → Prop) (o : Option (α × Tl1Cur)) : Prop := ∃ v d, o = some (v, d) ∧ GC b d ∧ Q v
theorem Dr.bind {α β : Type} {b : List Int} {Q : α → Prop} {R : β → Prop} {o : Option (α × Tl1Cur)} {f : α × Tl1Cur → Option (β × Tl1Cur)} (h : Dr b Q o) (k : ∀ v d, GC b d → Q v → Dr b R (f (v, d))) : Dr b R (o.bind f) := by
  obtain ⟨v, d, rfl, g, q⟩ := h; exact k v d g q
theorem Dr.bindO {γ β : Type} {b : List Int} {R : β → Prop} {x : γ} {o : Option γ} {f : γ → Option (β × Tl1Cur)} (h : o = some x) (k : Dr b R (f x)) : Dr b R (o.bind f) := by
  rw [h]; exact k
theorem Dr.ret {α : Type} {b : List Int} {Q : α → Prop} {v : α} {c : Tl1Cur} (g : GC b c) (q : Q v) : Dr b Q (some (v, c)) := ⟨v, c, rfl, g, q⟩
theorem Dr.ite {α : Type} {b : List Int} {Q : α → Prop} {x y : Option (α × Tl1Cur)} {p : Bool} (h1 : p = true → Dr b Q x) (h2 : p = false → Dr b Q y) : Dr b Q (if p = true then x else y) := by
  cases p with
  | true => exact h1 rfl
  | false => exact h2 rfl
theorem GC.at {b : List Int} {c d : Tl1Cur} (g : GC b d) (h : c.b = b) : GC b (⟨c.b, d.i, d.h⟩ : Tl1Cur) := ⟨h, g.2⟩
theorem below_d {N : Nat} {b : List Int} (hb : b.length ≤ 1048576) {c : Tl1Cur} (g : GC b c) (n : Int) (hn : 0 < n) : Dr b (fun v => 0 ≤ v ∧ v < n) (m_s_l1Below N c n) := by
  obtain ⟨v, d, e, g, h1, h2, -⟩ := below_ok (N := N) b hb c g n
  exact ⟨v, d, e, g, h1, h2 hn⟩
theorem below_d' {N : Nat} {b : List Int} (hb : b.length ≤ 1048576) {c : Tl1Cur} (g : GC b c) (n : Int) : Dr b (fun v => 0 ≤ v ∧ (0 < n → v < n)) (m_s_l1Below N c n) := by
  obtain ⟨v, d, e, g, h1, h2, -⟩ := below_ok (N := N) b hb c g n
  exact ⟨v, d, e, g, h1, h2⟩
theorem app_sm {α : Type} {xs ys : List α} (h : xs.length ≤ 4194304) (h' : ys.length ≤ 4194304) : app xs ys = some (xs ++ ys) := app_ok (by omega)
theorem mem_snoc {α : Type} {P : α → Prop} {xs : List α} {x : α} (h : ∀ a ∈ xs, P a) (h' : P x) : ∀ a ∈ xs ++ [x], P a := fun a ha => by
  rcases List.mem_append.1 ha with h1 | h1
  · exact h a h1
  · simp at h1; rw [h1]; exact h'
theorem once_d {N : Nat} {b : List Int} (hb : b.length ≤ 1048576) {c : Tl1Cur} (g : GC b c) (n : Int) : Dr b (fun _ => True) (m_s_l1Once N c n) := by
  unfold m_s_l1Once
  exact (below_d' hb g n).bind fun v d gd _ => .ret (gd.at g.1) trivial
theorem str_d {N : Nat} {b : List Int} (hb : b.length ≤ 1048576) {c : Tl1Cur} (g : GC b c) (l : List ByteArray) (h : 0 < l.length) : Dr b (fun s => s ∈ l) (m_s_l1Str N c l) := by
  unfold m_s_l1Str
  refine (below_d hb g (l.length : Int) (by omega)).bind fun v d gd q => ?_
  obtain ⟨j, rfl⟩ : ∃ j : Nat, v = (j : Int) := ⟨v.toNat, by omega⟩
  exact .bindO (idx_nat_lt (show j < l.length by omega)) (.ret (gd.at g.1) (List.getElem_mem _))
def drVal (v : TVal) : Prop := (∃ n : Int, 1 ≤ n ∧ n ≤ 3 ∧ v = ⟨1, n, ⟨#[]⟩⟩) ∨ ∃ s ∈ ([⟨#[97]⟩, ⟨#[98]⟩] : List ByteArray), v = ⟨2, 0, s⟩
theorem small_d {N : Nat} {b : List Int} (hb : b.length ≤ 1048576) {c : Tl1Cur} (g : GC b c) : Dr b drVal (m_s_l3Small N c) := by
  unfold m_s_l3Small
  refine (once_d hb g 2).bind fun v d gd _ => .ite (fun _ => ?_) fun _ => ?_
  · exact (below_d hb (gd.at g.1) 3 (by omega)).bind fun w e ge q => .ret (ge.at g.1) (.inl ⟨_, by dsimp only; rw [wr (by omega) (by omega)]; omega, by dsimp only; rw [wr (by omega) (by omega)]; omega, rfl⟩)
  · exact (str_d hb (gd.at g.1) _ (by decide)).bind fun w e ge q => .ret (ge.at g.1) (.inr ⟨w, q, rfl⟩)
theorem drVal_sz {v : TVal} (h : drVal v) : v.S.size ≤ 16 := by
  rcases h with ⟨n, _, _, rfl⟩ | ⟨s, hs, rfl⟩
  · show (0 : Nat) ≤ 16; omega
  · exact (show ∀ s ∈ ([⟨#[97]⟩, ⟨#[98]⟩] : List ByteArray), s.size ≤ 16 by decide) s hs
def shArg (a : TArg) : Prop := a.S.size ≤ 16 ∧ a.V.S.size ≤ 16
def shPat (p : TPat) : Prop := p.Kind.size ≤ 16 ∧ p.Args.length ≤ 16 ∧ ∀ a ∈ p.Args, shArg a
def drArg (a : TArg) : Prop := a = ⟨3, ⟨#[]⟩, ⟨0, 0, ⟨#[]⟩⟩⟩ ∨ (∃ v, drVal v ∧ a = ⟨2, ⟨#[]⟩, v⟩) ∨ ∃ s ∈ ([⟨#[88]⟩, ⟨#[89]⟩, ⟨#[90]⟩, ⟨#[88]⟩] : List ByteArray), a = ⟨1, s, ⟨0, 0, ⟨#[]⟩⟩⟩
theorem drArg_sz {a : TArg} (h : drArg a) : shArg a := by
  rcases h with rfl | ⟨v, hv, rfl⟩ | ⟨s, hs, rfl⟩
  · exact ⟨Nat.zero_le _, Nat.zero_le _⟩
  · exact ⟨Nat.zero_le _, drVal_sz hv⟩
  · exact ⟨(show ∀ s ∈ ([⟨#[88]⟩, ⟨#[89]⟩, ⟨#[90]⟩, ⟨#[88]⟩] : List ByteArray), s.size ≤ 16 by decide) s hs, Nat.zero_le _⟩
theorem arg_d {N : Nat} {b : List Int} (hb : b.length ≤ 1048576) {c : Tl1Cur} (g : GC b c) : Dr b drArg (m_s_l6Arg N c) := by
  unfold m_s_l6Arg
  refine (below_d hb g 6 (by omega)).bind fun v d gd _ => .ite (fun _ => .ret (gd.at g.1) (.inl rfl)) fun _ => .ite (fun _ => ?_) fun _ => ?_
  · exact (small_d hb (gd.at g.1)).bind fun w e ge q => .bindO rfl (.ret (ge.at g.1) (.inr (.inl ⟨w, q, rfl⟩)))
  · exact (str_d hb (gd.at g.1) _ (by decide)).bind fun w e ge q => .bindO rfl (.ret (ge.at g.1) (.inr (.inr ⟨w, q, rfl⟩)))
def drPat (n : Bool) (p : TPat) : Prop := p.Not = n ∧ p.Kind ∈ ([⟨#[111, 114, 100, 101, 114]⟩, ⟨#[112, 97, 105, 100]⟩, ⟨#[105, 116, 101, 109]⟩, ⟨#[111, 114, 100, 101, 114]⟩] : List ByteArray) ∧ p.Args.length ≤ 2 ∧ ∀ a ∈ p.Args, drArg a
theorem drPat_sz {n : Bool} {p : TPat} (h : drPat n p) : shPat p := by
  obtain ⟨_, h1, h2, h3⟩ := h
  exact ⟨(show ∀ s ∈ ([⟨#[111, 114, 100, 101, 114]⟩, ⟨#[112, 97, 105, 100]⟩, ⟨#[105, 116, 101, 109]⟩, ⟨#[111, 114, 100, 101, 114]⟩] : List ByteArray), s.size ≤ 16 by decide) _ h1, by omega, fun a ha => drArg_sz (h3 a ha)⟩
theorem pat_d {N : Nat} (hN : 1099000000000 ≤ N) {b : List Int} (hb : b.length ≤ 1048576) {c : Tl1Cur} (g : GC b c) (nt : Bool) : Dr b (drPat nt) (m_s_l6Draw N c nt) := by
  unfold m_s_l6Draw
  refine (str_d hb g _ (by decide)).bind fun k d gd hk => ?_
  have lp : ∀ (m : Nat), m ≤ 2 → ∀ (n i : Nat) (s : List TArg) (x h : Int), i ≤ m → m - i < n → s.length = i → (∀ a ∈ s, drArg a) → GC b ⟨c.b, x, h⟩ → Dr b (drPat nt) (m_s_l6Draw_l2 N c nt (k, d) (m : Int) n s (i : Int) x h) := by
    intro m hm n
    induction n with
    | zero => intro i _ _ _ _ h; omega
    | succ n ih =>
      intro i s x h hi hn hs ha gx
      simp only [m_s_l6Draw_l2]
      refine .ite (fun hlt => ?_) (fun hge => .ret gx ⟨rfl, hk, by dsimp only; omega, ha⟩)
      have hlt := of_decide_eq_true hlt
      refine (arg_d hb gx).bind fun a e ge q => .bindO (app_sm (by omega) (by simp)) ?_
      rw [wr1 i (by omega)]
      exact ih (i + 1) _ _ _ (by omega) (by omega) (by simp; omega) (mem_snoc ha q) (ge.at (c := ⟨c.b, x, h⟩) gx.1)
  exact .ite (fun _ => lp 2 (by omega) N 0 [] _ _ (by omega) (by omega) rfl (by simp) (gd.at g.1)) (fun _ => lp 1 (by omega) N 0 [] _ _ (by omega) (by omega) rfl (by simp) (gd.at g.1))
def shCond (c : TCond) : Prop := shArg c.L ∧ shArg c.R
def drTerm (a : TArg) : Prop := (∃ v, drVal v ∧ a = ⟨2, ⟨#[]⟩, v⟩) ∨ ∃ s ∈ ([⟨#[88]⟩, ⟨#[89]⟩, ⟨#[90]⟩, ⟨#[88]⟩] : List ByteArray), a = ⟨1, s, ⟨0, 0, ⟨#[]⟩⟩⟩
theorem term_d {N : Nat} {b : List Int} (hb : b.length ≤ 1048576) {c : Tl1Cur} (g : GC b c) : Dr b drTerm (m_s_l7Arg N c) := by
  unfold m_s_l7Arg
  refine (once_d hb g 3).bind fun v d gd _ => .ite (fun _ => ?_) fun _ => ?_
  · exact (small_d hb (gd.at g.1)).bind fun w e ge q => .bindO rfl (.ret (ge.at g.1) (.inl ⟨w, q, rfl⟩))
  · exact (str_d hb (gd.at g.1) _ (by decide)).bind fun w e ge q => .bindO rfl (.ret (ge.at g.1) (.inr ⟨w, (show ∀ s ∈ ([⟨#[88]⟩, ⟨#[89]⟩] : List ByteArray), s ∈ ([⟨#[88]⟩, ⟨#[89]⟩, ⟨#[90]⟩, ⟨#[88]⟩] : List ByteArray) by simp) w q, rfl⟩))
def drCond (c : TCond) : Prop := 1 ≤ c.Op ∧ c.Op ≤ 3 ∧ drTerm c.L ∧ drTerm c.R
theorem cond_d {N : Nat} {b : List Int} (hb : b.length ≤ 1048576) {c : Tl1Cur} (g : GC b c) : Dr b drCond (m_s_l7Draw N c) := by
  unfold m_s_l7Draw
  refine (below_d hb g 3 (by omega)).bind fun v d gd q => (term_d hb (gd.at g.1)).bind fun l e ge ql => (term_d hb (ge.at g.1)).bind fun r f gf qr => .ret (gf.at g.1) ⟨?_, ?_, ql, qr⟩
  · dsimp only; rw [wr (by omega) (by omega)]; omega
  · dsimp only; rw [wr (by omega) (by omega)]; omega
theorem int_d {N : Nat} {b : List Int} (hb : b.length ≤ 1048576) {c : Tl1Cur} (g : GC b c) (l : List Int) (h : 0 < l.length) : Dr b (fun s => s ∈ l) (m_s_l1Int N c l) := by
  unfold m_s_l1Int
  refine (below_d hb g (l.length : Int) (by omega)).bind fun v d gd q => ?_
  obtain ⟨j, rfl⟩ : ∃ j : Nat, v = (j : Int) := ⟨v.toNat, by omega⟩
  exact .bindO (idx_nat_lt (show j < l.length by omega)) (.ret (gd.at g.1) (List.getElem_mem _))
def shExpr (e : TExpr) : Prop := e.Op.size ≤ 16 ∧ shArg e.L ∧ shArg e.R
def shAct (a : TAct) : Prop := a.Name.size ≤ 16 ∧ a.Args.length ≤ 16 ∧ (∀ e ∈ a.Args, shExpr e) ∧ a.Undo.size ≤ 16
def noArg : TArg := ⟨0, ⟨#[]⟩, ⟨0, 0, ⟨#[]⟩⟩⟩
def exprW (T : TArg → Prop) (e : TExpr) : Prop := T e.L ∧ ((e.Op = ⟨#[]⟩ ∧ e.R = noArg) ∨ e.Op ∈ ([⟨#[43]⟩, ⟨#[45]⟩] : List ByteArray) ∧ T e.R)
theorem exprW_sz {T : TArg → Prop} (hT : ∀ a, T a → shArg a) {e : TExpr} (h : exprW T e) : shExpr e := by
  obtain ⟨h1, ⟨h2, h3⟩ | ⟨h2, h3⟩⟩ := h
  · exact ⟨by rw [h2]; exact Nat.zero_le _, hT _ h1, by rw [h3]; exact ⟨Nat.zero_le _, Nat.zero_le _⟩⟩
  · exact ⟨(show ∀ s ∈ ([⟨#[43]⟩, ⟨#[45]⟩] : List ByteArray), s.size ≤ 16 by decide) _ h2, hT _ h1, hT _ h3⟩
theorem expr_d {N : Nat} {b : List Int} (hb : b.length ≤ 1048576) {c : Tl1Cur} (g : GC b c) : Dr b (exprW drTerm) (m_s_l8Expr N c) := by
  unfold m_s_l8Expr
  refine (term_d hb g).bind fun l d gd ql => (once_d hb (gd.at g.1) 4).bind fun v e ge _ => .ite (fun _ => ?_) fun _ => ?_
  · exact (str_d hb (ge.at g.1) _ (by decide)).bind fun o f gf qo => (term_d hb (gf.at g.1)).bind fun r k gk qr => .ret (gk.at g.1) ⟨ql, .inr ⟨qo, qr⟩⟩
  · exact .ret (ge.at g.1) ⟨ql, .inl ⟨rfl, rfl⟩⟩
def actW (T : TArg → Prop) (pos : Int) (a : TAct) : Prop := a.Args.length ≤ 2 ∧ (∀ e ∈ a.Args, exprW T e) ∧
  ((a.Kind = 2 ∧ a.Name = ⟨#[]⟩ ∧ a.Args = [] ∧ 0 ≤ a.N ∧ (0 < pos → a.N < pos) ∧ a.Undo = ⟨#[]⟩) ∨
   ((a.Kind = 5 ∨ a.Kind = 6) ∧ a.Name = ⟨#[]⟩ ∧ a.Args = [] ∧ a.N = 0 ∧ a.Undo = ⟨#[]⟩) ∨
   ((a.Kind = 1 ∨ a.Kind = 3 ∨ a.Kind = 4) ∧ a.Name ∈ ([⟨#[111, 114, 100, 101, 114]⟩, ⟨#[112, 97, 105, 100]⟩, ⟨#[105, 116, 101, 109]⟩, ⟨#[115, 104, 105, 112]⟩, ⟨#[99, 104, 97, 114, 103, 101]⟩] : List ByteArray) ∧
     (a.N = 0 ∨ a.Kind = 4 ∧ a.N ∈ ([0, 1, 5, 100000] : List Int)) ∧ (a.Undo = ⟨#[]⟩ ∨ a.Kind = 3 ∧ a.Undo ∈ ([⟨#[114, 101, 102, 117, 110, 100]⟩, ⟨#[99, 97, 110, 99, 101, 108]⟩] : List ByteArray))))
theorem actW_sz {T : TArg → Prop} (hT : ∀ a, T a → shArg a) {pos : Int} {a : TAct} (h : actW T pos a) : shAct a := by
  obtain ⟨h1, h2, h3⟩ := h
  refine ⟨?_, by omega, fun e he => exprW_sz hT (h2 e he), ?_⟩
  · rcases h3 with h | h | h
    · rw [h.2.1]; exact Nat.zero_le _
    · rw [h.2.1]; exact Nat.zero_le _
    · exact (show ∀ s ∈ ([⟨#[111, 114, 100, 101, 114]⟩, ⟨#[112, 97, 105, 100]⟩, ⟨#[105, 116, 101, 109]⟩, ⟨#[115, 104, 105, 112]⟩, ⟨#[99, 104, 97, 114, 103, 101]⟩] : List ByteArray), s.size ≤ 16 by decide) _ h.2.1
  · rcases h3 with h | h | h
    · rw [h.2.2.2.2.2]; exact Nat.zero_le _
    · rw [h.2.2.2.2]; exact Nat.zero_le _
    · rcases h.2.2.2 with h | h
      · rw [h]; exact Nat.zero_le _
      · exact (show ∀ s ∈ ([⟨#[114, 101, 102, 117, 110, 100]⟩, ⟨#[99, 97, 110, 99, 101, 108]⟩] : List ByteArray), s.size ≤ 16 by decide) _ h.2
theorem act_d {N : Nat} (hN : 1099000000000 ≤ N) {b : List Int} (hb : b.length ≤ 1048576) {c : Tl1Cur} (g : GC b c) (pos : Int) : Dr b (actW drTerm pos) (m_s_l8Draw N c pos) := by
  unfold m_s_l8Draw
  refine (int_d hb g _ (by decide)).bind fun k d gd hk => ?_
  dsimp only
  by_cases k2 : k = 2
  · refine .ite (fun _ => ?_) (fun h => absurd k2 (of_decide_eq_false h))
    exact (below_d' hb (gd.at g.1) pos).bind fun v e ge q => .ret (ge.at g.1) ⟨by simp, by simp, .inl ⟨k2, rfl, rfl, q.1, q.2, rfl⟩⟩
  refine .ite (fun h => absurd (of_decide_eq_true h) k2) (fun _ => ?_)
  have j5 : ∀ (nm : ByteArray) (d0 : Tl1Cur) (s3 : List TExpr) (n : Int) (q : Bool) (x h : Int), GC b ⟨c.b, x, h⟩ → (q = true → k = 3) →
      (∀ u, (u = (⟨#[]⟩ : ByteArray) ∨ k = 3 ∧ u ∈ ([⟨#[114, 101, 102, 117, 110, 100]⟩, ⟨#[99, 97, 110, 99, 101, 108]⟩] : List ByteArray)) → actW drTerm pos ⟨k, nm, s3, n, u⟩) → Dr b (actW drTerm pos) (m_s_l8Draw_j5 N c (k, d) (nm, d0) s3 n q x h) := by
    intro nm d0 s3 n q x h gx hq hu
    unfold m_s_l8Draw_j5
    refine .ite (fun hq' => ?_) (fun _ => .ret gx (hu _ (.inl rfl)))
    exact (str_d hb gx _ (by decide)).bind fun u e ge qu => .ret (ge.at (c := ⟨c.b, x, h⟩) gx.1) (hu _ (.inr ⟨hq hq', qu⟩))
  have j4 : ∀ (nm : ByteArray) (d0 : Tl1Cur) (s3 : List TExpr) (n : Int) (x h : Int), GC b ⟨c.b, x, h⟩ →
      (∀ u, (u = (⟨#[]⟩ : ByteArray) ∨ k = 3 ∧ u ∈ ([⟨#[114, 101, 102, 117, 110, 100]⟩, ⟨#[99, 97, 110, 99, 101, 108]⟩] : List ByteArray)) → actW drTerm pos ⟨k, nm, s3, n, u⟩) → Dr b (actW drTerm pos) (m_s_l8Draw_j4 N c (k, d) (nm, d0) s3 x h n) := by
    intro nm d0 s3 n x h gx hu
    unfold m_s_l8Draw_j4
    refine .ite (fun h3 => ?_) (fun _ => j5 _ _ _ _ _ _ _ gx (fun h => by simp at h) hu)
    exact (once_d hb gx 2).bind fun u e ge _ => j5 _ _ _ _ _ _ _ (ge.at (c := ⟨c.b, x, h⟩) gx.1) (fun _ => of_decide_eq_true h3) hu
  have lp : ∀ (nm : ByteArray) (d0 : Tl1Cur), nm ∈ ([⟨#[111, 114, 100, 101, 114]⟩, ⟨#[112, 97, 105, 100]⟩, ⟨#[105, 116, 101, 109]⟩, ⟨#[115, 104, 105, 112]⟩, ⟨#[99, 104, 97, 114, 103, 101]⟩] : List ByteArray) → (k = 1 ∨ k = 3 ∨ k = 4) →
      ∀ (m : Nat), m ≤ 2 → ∀ (n i : Nat) (s : List TExpr) (x h : Int), i ≤ m → m - i < n → s.length = i → (∀ a ∈ s, exprW drTerm a) → GC b ⟨c.b, x, h⟩ → Dr b (actW drTerm pos) (m_s_l8Draw_l3 N c (k, d) (nm, d0) (m : Int) n s (i : Int) x h) := by
    intro nm d0 hnm hk3 m hm n
    induction n with
    | zero => intro i _ _ _ _ h; omega
    | succ n ih =>
      intro i s x h hi hn hs ha gx
      simp only [m_s_l8Draw_l3]
      refine .ite (fun hlt => ?_) (fun hge => .ite (fun h4 => ?_) (fun _ => ?_))
      · have hlt := of_decide_eq_true hlt
        refine (expr_d hb gx).bind fun a e ge q => .bindO (app_sm (by omega) (by simp)) ?_
        rw [wr1 i (by omega)]
        exact ih (i + 1) _ _ _ (by omega) (by omega) (by simp; omega) (mem_snoc ha q) (ge.at (c := ⟨c.b, x, h⟩) gx.1)
      · have h4 : k = 4 := of_decide_eq_true h4
        exact (int_d hb gx _ (by decide)).bind fun v e ge q => j4 _ _ _ _ _ _ (ge.at (c := ⟨c.b, x, h⟩) gx.1) fun u hu => ⟨by dsimp only; omega, ha, .inr (.inr ⟨hk3, hnm, .inr ⟨h4, q⟩, hu⟩)⟩
      · exact j4 _ _ _ _ _ _ gx fun u hu => ⟨by dsimp only; omega, ha, .inr (.inr ⟨hk3, hnm, .inl rfl, hu⟩)⟩
  have j1 : Dr b (actW drTerm pos) (m_s_l8Draw_j1 N c (k, d) true) → k = 5 ∨ k = 6 → Dr b (actW drTerm pos) (m_s_l8Draw_j1 N c (k, d) true) := fun h _ => h
  have jt : k = 5 ∨ k = 6 → Dr b (actW drTerm pos) (m_s_l8Draw_j1 N c (k, d) true) := by
    intro h56
    unfold m_s_l8Draw_j1
    simp only [if_true]
    exact .ret (gd.at g.1) ⟨by simp, by simp, .inr (.inl ⟨h56, rfl, rfl, rfl, rfl⟩)⟩
  have jf : k = 1 ∨ k = 3 ∨ k = 4 → Dr b (actW drTerm pos) (m_s_l8Draw_j1 N c (k, d) false) := by
    intro h134
    unfold m_s_l8Draw_j1
    simp only [Bool.false_eq_true, if_false]
    refine (str_d hb (gd.at g.1) _ (by decide)).bind fun nm e ge hnm => ?_
    unfold m_s_l8Draw_j2
    exact .ite (fun _ => lp nm e hnm h134 2 (by omega) N 0 [] _ _ (by omega) (by omega) rfl (by simp) (ge.at g.1)) (fun _ => lp nm e hnm h134 1 (by omega) N 0 [] _ _ (by omega) (by omega) rfl (by simp) (ge.at g.1))
  have hk' : k = 1 ∨ k = 3 ∨ k = 4 ∨ k = 5 ∨ k = 6 := by
    simp at hk; omega
  by_cases k5 : k = 5
  · rw [decide_eq_true k5]; simp only [if_true]; exact jt (.inl k5)
  · rw [decide_eq_false k5]; simp only [Bool.false_eq_true, if_false]
    by_cases k6 : k = 6
    · rw [decide_eq_true k6]; exact jt (.inr k6)
    · rw [decide_eq_false k6]; exact jf (by omega)
def shRule (r : TRule) : Prop := r.Name.size ≤ 16 ∧ (r.Pats.length ≤ 16 ∧ ∀ p ∈ r.Pats, shPat p) ∧ (r.Conds.length ≤ 16 ∧ ∀ c ∈ r.Conds, shCond c) ∧ r.Acts.length ≤ 16 ∧ ∀ a ∈ r.Acts, shAct a
def fitTerm (vs : List ByteArray) (a : TArg) : Prop := (∃ v, drVal v ∧ a = ⟨2, ⟨#[]⟩, v⟩) ∨ ∃ s ∈ vs, a = ⟨1, s, ⟨0, 0, ⟨#[]⟩⟩⟩
theorem fit_ok {N : Nat} (hN : 1099000000000 ≤ N) {vs : List ByteArray} (hv : vs.length ≤ 4194304) {a : TArg} (h : drTerm a) : ∃ a', m_s_l9Fit N a vs = some a' ∧ fitTerm vs a' := by
  unfold m_s_l9Fit
  rw [known_s hN a vs (by omega), Option.bind_some]
  rcases h with ⟨v, hv, rfl⟩ | ⟨s, hs, rfl⟩
  · exact ⟨_, by simp [known], .inl ⟨v, hv, rfl⟩⟩
  · by_cases hm : s ∈ vs
    · exact ⟨_, by simp [known, hm], .inr ⟨s, hm, rfl⟩⟩
    · have e1 : known vs ⟨1, s, ⟨0, 0, ⟨#[]⟩⟩⟩ = false := by simp [known, hm]
      simp only [e1, Bool.false_eq_true, if_false]
      cases vs with
      | nil => exact ⟨_, rfl, .inl ⟨⟨1, 1, ⟨#[]⟩⟩, .inl ⟨1, by omega, by omega, rfl⟩, rfl⟩⟩
      | cons x t =>
        have e2 : decide (((x :: t).length : Int) = 0) = false := decide_eq_false (by simp only [List.length_cons]; omega)
        have e3 : idx (x :: t) 0 = some x := idx_nat_lt (xs := x :: t) (i := 0) (by simp)
        simp only [e2, Bool.false_eq_true, if_false, e3, Option.bind_some]
        exact ⟨_, rfl, .inr ⟨x, by simp, rfl⟩⟩
theorem fitTerm_sz {vs : List ByteArray} (hv : ∀ s ∈ vs, s.size ≤ 16) {a : TArg} (h : fitTerm vs a) : shArg a := by
  rcases h with ⟨v, h, rfl⟩ | ⟨s, h, rfl⟩
  · exact ⟨Nat.zero_le _, drVal_sz h⟩
  · exact ⟨hv s h, Nat.zero_le _⟩
def drPats (l : List TPat) : Prop := ∃ ps ns, l = ps ++ ns ∧ 1 ≤ ps.length ∧ ps.length ≤ 3 ∧ ns.length ≤ 1 ∧ (∀ p ∈ ps, drPat false p) ∧ ∀ p ∈ ns, drPat true p
theorem drPats_pat {l : List TPat} (h : drPats l) : ∀ p ∈ l, ∃ n, drPat n p := by
  obtain ⟨ps, ns, rfl, -, -, -, h1, h2⟩ := h
  intro p hp
  rcases List.mem_append.1 hp with h | h
  · exact ⟨_, h1 p h⟩
  · exact ⟨_, h2 p h⟩
theorem drPats_len {l : List TPat} (h : drPats l) : 1 ≤ l.length ∧ l.length ≤ 4 := by
  obtain ⟨ps, ns, rfl, h1, h2, h3, -⟩ := h
  rw [List.length_append]; omega
theorem nArgs_le {B : Nat} : ∀ {l : List TPat}, (∀ p ∈ l, p.Args.length ≤ B) → nArgs l ≤ l.length * B
  | [], _ => by simp [nArgs]
  | p :: t, h => by
    have h1 := nArgs_le (l := t) fun q hq => h q (by simp [hq])
    have h2 := h p (by simp)
    have h3 : nArgs (p :: t) = p.Args.length + nArgs t := by simp [nArgs]
    rw [h3, List.length_cons, Nat.succ_mul]; omega
theorem drPats_args {l : List TPat} (h : drPats l) : nArgs l ≤ 8 := by
  have h1 := nArgs_le (B := 2) fun p hp => (drPats_pat h p hp).elim fun n hn => hn.2.2.1
  have := drPats_len h
  omega
theorem argVars_size {B : Nat} {l : List TArg} (h : ∀ a ∈ l, a.S.size ≤ B) : ∀ x ∈ argVars l, x.size ≤ B := fun x hx => by
  obtain ⟨a, ha, _, rfl⟩ := mem_argVars.1 hx; exact h a ha
theorem posNames_size {B : Nat} : ∀ {l : List TPat}, (∀ p ∈ l, ∀ a ∈ p.Args, a.S.size ≤ B) → ∀ x ∈ posNames l, x.size ≤ B
  | [], _, x, hx => by simp [posNames] at hx
  | p :: t, h, x, hx => by
    unfold posNames at hx
    split at hx
    · exact posNames_size (fun q hq => h q (by simp [hq])) x hx
    · rcases List.mem_append.1 hx with hx | hx
      · exact argVars_size (h p (by simp)) x hx
      · exact posNames_size (fun q hq => h q (by simp [hq])) x hx
def bnd (l : List TPat) : List ByteArray := (posNames l).foldl once []
theorem bnd_sz {l : List TPat} (h : drPats l) : ∀ s ∈ bnd l, s.size ≤ 16 := onces_size (posNames_size fun p hp a ha => (drPats_pat h p hp).elim fun n hn => (drArg_sz (hn.2.2.2 a ha)).1) (by simp)
theorem bnd_len {l : List TPat} (h : drPats l) : (bnd l).length ≤ 8 := by
  have h1 := onces_len (posNames l) []
  have h2 := posNames_len l
  have h3 := drPats_args h
  simp only [List.length_nil] at h1
  unfold bnd; omega
def drRule (nm : ByteArray) (r : TRule) : Prop := r.Name = nm ∧ r.Sal ∈ ([0, 0, 5, (-5), 100] : List Int) ∧ drPats r.Pats ∧ (r.Conds.length ≤ 1 ∧ ∀ c ∈ r.Conds, 1 ≤ c.Op ∧ c.Op ≤ 3 ∧ fitTerm (bnd r.Pats) c.L ∧ fitTerm (bnd r.Pats) c.R) ∧
  (1 ≤ r.Acts.length ∧ r.Acts.length ≤ 3 ∧ ∀ a ∈ r.Acts, actW (fitTerm (bnd r.Pats)) (posCount r.Pats) a)
theorem drRule_sz {nm : ByteArray} {r : TRule} (hn : nm.size ≤ 16) (h : drRule nm r) : shRule r := by
  obtain ⟨h1, _, h3, ⟨h4, h4'⟩, h5, h6, h7⟩ := h
  have hT : ∀ a, fitTerm (bnd r.Pats) a → shArg a := fun a ha => fitTerm_sz (bnd_sz h3) ha
  have := drPats_len h3
  exact ⟨by rw [h1]; exact hn, ⟨by omega, fun p hp => (drPats_pat h3 p hp).elim fun n hn => drPat_sz hn⟩, ⟨by omega, fun c hc => ⟨hT _ (h4' c hc).2.2.1, hT _ (h4' c hc).2.2.2⟩⟩, by omega, fun a ha => actW_sz hT (h7 a ha)⟩
theorem fits {N : Nat} (hN : 1099000000000 ≤ N) {b : List Int} {vs : List ByteArray} (hv : vs.length ≤ 4194304) (s11 : List TAct) (s12 : Int) (K : List TAct → Int → Int → Int → Option (TRule × Tl1Cur)) (x10 : TAct × Tl1Cur) {R : TRule → Prop} {m : Nat} (hm : m ≤ 4194304)
    (hK : ∀ es : List TExpr, es.length = m → (∀ e ∈ es, exprW (fitTerm vs) e) → Dr b R ((app s11 [⟨x10.1.Kind, x10.1.Name, es, x10.1.N, x10.1.Undo⟩]).bind fun x14 => K x14 (IntKind.i64.wrap (s12 - 1)) x10.2.i x10.2.h)) :
    ∀ (n : Nat) (todo done : List TExpr), todo.length < n → done.length + todo.length = m → (∀ e ∈ done, exprW (fitTerm vs) e) → (∀ e ∈ todo, exprW drTerm e) → Dr b R (m_s_l9Draw_l5 N vs s11 s12 K x10 n (done ++ todo) (done.length : Int)) := by
  intro n
  induction n with
  | zero => intro _ _ h; omega
  | succ n ih =>
    intro todo done hn hl hd ht
    simp only [m_s_l9Draw_l5]
    cases todo with
    | nil =>
      have e1 : decide ((done.length : Int) < ((done ++ ([] : List TExpr)).length : Int)) = false := decide_eq_false (by simp)
      rw [e1]
      simp only [Bool.false_eq_true, if_false, List.append_nil]
      exact hK done (by simpa using hl) hd
    | cons e t =>
      have e1 : decide ((done.length : Int) < ((done ++ e :: t).length : Int)) = true := decide_eq_true (by simp; omega)
      have e2 : idx (done ++ e :: t) (done.length : Int) = some e := by
        rw [idx_nat_lt (show done.length < (done ++ e :: t).length by simp)]; simp
      have hset : ∀ y, (done ++ e :: t).set ((done.length : Int)).toNat y = (done ++ [y]) ++ t := fun y => by
        rw [Int.toNat_natCast, List.set_append_right _ _ (Nat.le_refl _)]; simp
      simp only [List.length_cons] at hn hl
      rw [e1]
      simp only [if_true]
      refine .bindO e2 ?_
      obtain ⟨hL, hR⟩ := ht e (by simp)
      obtain ⟨l', el, hl'⟩ := fit_ok hN hv hL
      refine .bindO el ?_
      have next : ∀ y, exprW (fitTerm vs) y → Dr b R (m_s_l9Draw_l5 N vs s11 s12 K x10 n ((done ++ e :: t).set ((done.length : Int)).toNat y) (IntKind.i64.wrap ((done.length : Int) + 1))) := by
        intro y hy
        rw [hset, wr1 _ (by omega)]
        have := ih t (done ++ [y]) (by omega) (by simp; omega) (mem_snoc hd hy) (fun a ha => ht a (by simp [ha]))
        simpa using this
      rcases hR with ⟨hO, hR⟩ | ⟨hO, hR⟩
      · have e3 : (!seq e.Op ⟨#[]⟩) = false := by rw [seq_eq, hO]; simp
        rw [e3]
        exact next _ ⟨hl', .inl ⟨hO, hR⟩⟩
      · have e3 : (!seq e.Op ⟨#[]⟩) = true := by
          have : e.Op ≠ ⟨#[]⟩ := (show ∀ s ∈ ([⟨#[43]⟩, ⟨#[45]⟩] : List ByteArray), s ≠ ⟨#[]⟩ by decide) _ hO
          rw [seq_eq]; simp [this]
        rw [e3]
        obtain ⟨r', er, hr'⟩ := fit_ok hN hv hR
        exact .bindO er (next _ ⟨hl', .inr ⟨hO, hr'⟩⟩)
theorem posVars_d {N : Nat} (hN : 1099000000000 ≤ N) (r : TRule) (h : drPats r.Pats) : m_s_PosVars N r = some (bnd r.Pats) := by
  have h1 := drPats_len h
  have h2 := drPats_args h
  exact posVars_s hN r (by omega) (by omega) fun p hp => by
    obtain ⟨n, hn⟩ := drPats_pat h p hp
    have := hn.2.2.1
    omega
theorem rule_d {N : Nat} (hN : 1099000000000 ≤ N) {b : List Int} (hb : b.length ≤ 1048576) {c : Tl1Cur} (g : GC b c) (nm : ByteArray) : Dr b (drRule nm) (m_s_l9Draw N c nm) := by
  unfold m_s_l9Draw
  refine (int_d hb g _ (by decide)).bind fun sal d gd hs => (below_d hb (gd.at g.1) 3 (by omega)).bind fun v0 e0 ge0 q0 => ?_
  -- the acts
  have l4 : ∀ (pats : List TPat) (conds : List TCond), drPats pats → (conds.length ≤ 1 ∧ ∀ c ∈ conds, 1 ≤ c.Op ∧ c.Op ≤ 3 ∧ fitTerm (bnd pats) c.L ∧ fitTerm (bnd pats) c.R) →
      ∀ (n : Nat) (s : List TAct) (k x h : Int), 0 ≤ k → k < n → 1 ≤ s.length + k → s.length + k ≤ 3 → (∀ a ∈ s, actW (fitTerm (bnd pats)) (posCount pats) a) → GC b ⟨c.b, x, h⟩ → Dr b (drRule nm) (m_s_l9Draw_l4 N c nm (sal, d) pats (bnd pats) conds n s k x h) := by
    intro pats conds hp hc n
    have hpl := drPats_len hp
    induction n with
    | zero => intro s k x h h0 h1; omega
    | succ n ih =>
      intro s k x h h0 h1 h2 h3 ha gx
      simp only [m_s_l9Draw_l4]
      refine .ite (fun hk => ?_) (fun hk => ?_)
      · have hk := of_decide_eq_true hk
        refine .bindO (count_s hN _ (show pats.length ≤ 1048576 by omega)) ((act_d hN hb gx _).bind fun a f gf qa => ?_)
        have hal := qa.1
        have := fits hN (b := b) (vs := bnd pats) (by have := bnd_len hp; omega) s k (m_s_l9Draw_l4 N c nm (sal, d) pats (bnd pats) conds n) (a, f) (R := drRule nm) (m := a.Args.length) (by omega) (fun es hl he => by
          refine .bindO (app_sm (by omega) (by simp)) ?_
          rw [wrm hk (by omega)]
          refine ih _ (k - 1) _ _ (by omega) (by omega) (by simp; omega) (by simp; omega) (mem_snoc ha ?_) (gf.at (c := ⟨c.b, x, h⟩) gx.1)
          refine ⟨by dsimp only; omega, he, ?_⟩
          rcases qa.2.2 with h | h | h
          · exact .inl ⟨h.1, h.2.1, by have := h.2.2.1; rw [this] at hl; exact List.eq_nil_of_length_eq_zero hl, h.2.2.2⟩
          · exact .inr (.inl ⟨h.1, h.2.1, by have := h.2.2.1; rw [this] at hl; exact List.eq_nil_of_length_eq_zero hl, h.2.2.2⟩)
          · exact .inr (.inr h)) N a.Args [] (by omega) (by simp) (by simp) qa.2.1
        exact this
      · have hk := of_decide_eq_false hk
        exact .ret gx ⟨rfl, hs, hp, hc, by dsimp only; omega, by dsimp only; omega, ha⟩
  have j3 : ∀ (pats : List TPat) (conds : List TCond), drPats pats → (conds.length ≤ 1 ∧ ∀ c ∈ conds, 1 ≤ c.Op ∧ c.Op ≤ 3 ∧ fitTerm (bnd pats) c.L ∧ fitTerm (bnd pats) c.R) → ∀ (x h : Int), GC b ⟨c.b, x, h⟩ → Dr b (drRule nm) (m_s_l9Draw_j3 N c nm (sal, d) pats (bnd pats) conds x h) := by
    intro pats conds hp hc x h gx
    unfold m_s_l9Draw_j3
    refine (below_d hb gx 3 (by omega)).bind fun v e ge q => ?_
    dsimp only
    rw [wr (show -9223372036854775808 ≤ 1 + v by omega) (by omega)]
    exact l4 pats conds hp hc N [] _ _ _ (by omega) (by omega) (by simp; omega) (by simp; omega) (by simp) (ge.at (c := ⟨c.b, x, h⟩) gx.1)
  have j2 : ∀ (pats : List TPat), drPats pats → ∀ (x h : Int), GC b ⟨c.b, x, h⟩ → Dr b (drRule nm) (m_s_l9Draw_j2 N c nm (sal, d) pats x h) := by
    intro pats hp x h gx
    unfold m_s_l9Draw_j2
    have hv : (bnd pats).length ≤ 4194304 := by have := bnd_len hp; omega
    refine .bindO (posVars_d hN _ hp) ((once_d hb gx 3).bind fun v e ge _ => .ite (fun _ => ?_) (fun _ => ?_))
    · refine (cond_d hb (ge.at (c := ⟨c.b, x, h⟩) gx.1)).bind fun cd f gf qc => ?_
      obtain ⟨l', el, hl⟩ := fit_ok hN hv qc.2.2.1
      obtain ⟨r', er, hr⟩ := fit_ok hN hv qc.2.2.2
      refine .bindO el (.bindO er (.bindO (app_sm (by simp) (by simp)) ?_))
      exact j3 pats _ hp ⟨by simp, by simp; exact ⟨qc.1, qc.2.1, hl, hr⟩⟩ _ _ (gf.at (c := ⟨c.b, x, h⟩) gx.1)
    · exact j3 pats [] hp ⟨by simp, by simp⟩ _ _ (ge.at (c := ⟨c.b, x, h⟩) gx.1)
  have l1 : ∀ (n : Nat) (s : List TPat) (k x h : Int), 0 ≤ k → k < n → 1 ≤ s.length + k → s.length + k ≤ 3 → (∀ p ∈ s, drPat false p) → GC b ⟨c.b, x, h⟩ → Dr b (drRule nm) (m_s_l9Draw_l1 N c nm (sal, d) n s k x h) := by
    intro n
    induction n with
    | zero => intro s k x h h0 h1; omega
    | succ n ih =>
      intro s k x h h0 h1 h2 h3 hp gx
      simp only [m_s_l9Draw_l1]
      refine .ite (fun hk => ?_) (fun hk => ?_)
      · have hk := of_decide_eq_true hk
        refine (pat_d hN hb gx false).bind fun p f gf qp => .bindO (app_sm (by omega) (by simp)) ?_
        rw [wrm hk (by omega)]
        exact ih _ (k - 1) _ _ (by omega) (by omega) (by simp; omega) (by simp; omega) (mem_snoc hp qp) (gf.at (c := ⟨c.b, x, h⟩) gx.1)
      · have hk := of_decide_eq_false hk
        refine (once_d hb gx 3).bind fun v f gf _ => .ite (fun _ => ?_) (fun _ => ?_)
        · refine (pat_d hN hb (gf.at (c := ⟨c.b, x, h⟩) gx.1) true).bind fun p f' gf' qp => .bindO (app_sm (by omega) (by simp)) ?_
          exact j2 _ ⟨s, [p], rfl, by omega, by omega, by simp, hp, by simpa using qp⟩ _ _ (gf'.at (c := ⟨c.b, x, h⟩) gx.1)
        · exact j2 _ ⟨s, [], by simp, by omega, by omega, by simp, hp, by simp⟩ _ _ (gf.at (c := ⟨c.b, x, h⟩) gx.1)
  dsimp only
  rw [wr (show -9223372036854775808 ≤ 1 + v0 by omega) (by omega)]
  exact l1 N [] _ _ _ (by omega) (by omega) (by simp; omega) (by simp; omega) (by simp) (ge0.at g.1)
theorem shArg_Sz {a : TArg} (h : shArg a) : SzArg a := by have := h.1; have := h.2; exact ⟨by omega, by omega⟩
theorem shPat_Sz {p : TPat} (h : shPat p) : SzPat p := by
  obtain ⟨h1, h2, h3⟩ := h
  exact ⟨by omega, by omega, fun a ha => shArg_Sz (h3 a ha)⟩
theorem shCond_Sz {c : TCond} (h : shCond c) : SzCond c := ⟨shArg_Sz h.1, shArg_Sz h.2⟩
theorem shExpr_Sz {e : TExpr} (h : shExpr e) : SzExpr e := by
  obtain ⟨h1, h2, h3⟩ := h
  exact ⟨by omega, shArg_Sz h2, shArg_Sz h3⟩
theorem shAct_Sz {a : TAct} (h : shAct a) : SzAct a := by
  obtain ⟨h1, h2, h3, h4⟩ := h
  exact ⟨by omega, by omega, by omega, fun a ha => shExpr_Sz (h3 a ha)⟩
theorem nExprs_le {B : Nat} : ∀ {l : List TAct}, (∀ p ∈ l, p.Args.length ≤ B) → nExprs l ≤ l.length * B
  | [], _ => by simp [nExprs]
  | p :: t, h => by
    have h1 := nExprs_le (l := t) fun q hq => h q (by simp [hq])
    have h2 := h p (by simp)
    have h3 : nExprs (p :: t) = p.Args.length + nExprs t := by simp [nExprs]
    rw [h3, List.length_cons, Nat.succ_mul]; omega
theorem shRule_Sz {r : TRule} (h : shRule r) : SzRule r := by
  obtain ⟨h1, ⟨h2, h2'⟩, ⟨h3, h3'⟩, h4, h4'⟩ := h
  have h5 := nArgs_le (B := 16) fun p hp => (h2' p hp).2.1
  have h6 := nExprs_le (B := 16) fun a ha => (h4' a ha).2.1
  exact ⟨by omega, ⟨by omega, fun p hp => shPat_Sz (h2' p hp)⟩, ⟨by omega, fun c hc => shCond_Sz (h3' c hc)⟩, ⟨by omega, fun a ha => shAct_Sz (h4' a ha)⟩, by omega, by
    have : nExprs r.Acts ≤ 1048576 := by omega
    exact this⟩
def shDef (d : TDef) : Prop := d.Name.size ≤ 16 ∧ d.Rules.length ≤ 16 ∧ ∀ r ∈ d.Rules, shRule r
def rNames : List ByteArray := [⟨#[114, 49]⟩, ⟨#[114, 50]⟩, ⟨#[114, 51]⟩, ⟨#[114, 52]⟩]
def drDef (d : TDef) : Prop := d.Name ∈ ([⟨#[102, 108, 111, 119]⟩, ⟨#[115, 104, 105, 112]⟩, ⟨#[120]⟩] : List ByteArray) ∧ 1 ≤ d.Rules.length ∧ d.Rules.length ≤ 4 ∧ ∀ (i : Nat) (r : TRule), d.Rules[i]? = some r → ∃ nm, rNames[i]? = some nm ∧ drRule nm r
theorem rNames_sz : ∀ s ∈ rNames, s.size ≤ 16 := by decide
theorem drDef_sz {d : TDef} (h : drDef d) : shDef d := by
  obtain ⟨h1, h2, h3, h4⟩ := h
  refine ⟨(show ∀ s ∈ ([⟨#[102, 108, 111, 119]⟩, ⟨#[115, 104, 105, 112]⟩, ⟨#[120]⟩] : List ByteArray), s.size ≤ 16 by decide) _ h1, by omega, fun r hr => ?_⟩
  obtain ⟨i, hi, e⟩ := List.getElem_of_mem hr
  obtain ⟨nm, e1, e2⟩ := h4 i r (by rw [List.getElem?_eq_getElem hi, e])
  exact drRule_sz (rNames_sz nm (List.mem_of_getElem? e1)) e2
theorem def_d {N : Nat} (hN : 1099000000000 ≤ N) {b : List Int} (hb : b.length ≤ 1048576) {c : Tl1Cur} (g : GC b c) : Dr b drDef (m_s_l10Draw N c) := by
  unfold m_s_l10Draw
  refine (str_d hb g _ (by decide)).bind fun nm d gd hnm => ?_
  have lp : ∀ (n i : Nat) (s : List TRule) (x h : Int), i ≤ 4 → 4 - i < n → s.length = i → (∀ (j : Nat) (r : TRule), s[j]? = some r → ∃ nm, rNames[j]? = some nm ∧ drRule nm r) → GC b ⟨c.b, x, h⟩ → Dr b drDef (m_s_l10Draw_l1 N c (nm, d) n s (i : Int) x h) := by
    intro n
    induction n with
    | zero => intro i _ _ _ _ h; omega
    | succ n ih =>
      intro i s x h hi hn hs hr gx
      simp only [m_s_l10Draw_l1]
      refine (below_d hb gx 4 (by omega)).bind fun v e ge q => ?_
      dsimp only
      rw [wr (show -9223372036854775808 ≤ 1 + v by omega) (by omega)]
      by_cases h1 : (i : Int) < 1 + v ∧ i < 4
      · have e1 : decide ((i : Int) < 1 + v) = true := decide_eq_true h1.1
        have e2 : decide ((i : Int) < 4) = true := decide_eq_true (by omega)
        have e3 : idx rNames (i : Int) = some (rNames[i]'(by unfold rNames; simp; omega)) := idx_nat_lt (by unfold rNames; simp; omega)
        simp only [e1, e2, if_true, Option.bind_some]
        refine .bindO e3 ((rule_d hN hb (ge.at (c := ⟨c.b, x, h⟩) gx.1) _).bind fun r f gf qr => .bindO (app_sm (by omega) (by simp)) ?_)
        rw [wr1 i (by omega)]
        refine ih (i + 1) _ _ _ (by omega) (by omega) (by simp; omega) ?_ (gf.at (c := ⟨c.b, x, h⟩) gx.1)
        intro j r' hj
        by_cases hji : j < s.length
        · rw [List.getElem?_append_left hji] at hj; exact hr j r' hj
        · rw [List.getElem?_append_right (by omega)] at hj
          have : j = i := by
            have := (List.getElem?_eq_some_iff.1 hj).1
            simp at this; omega
          subst this
          have h0 : j - s.length = 0 := by omega
          rw [h0] at hj
          simp at hj
          subst hj
          exact ⟨_, List.getElem?_eq_getElem _, qr⟩
      · have e1 : (if decide ((i : Int) < 1 + v) = true then some (decide ((i : Int) < 4)) else some false) = some false := by
          by_cases h2 : (i : Int) < 1 + v
          · have h3 : ¬ (i : Int) < 4 := by omega
            simp [h2, h3]
          · simp [h2]
        rw [e1, Option.bind_some]
        simp only [Bool.false_eq_true, if_false]
        exact .ret (ge.at (c := ⟨c.b, x, h⟩) gx.1) ⟨hnm, by dsimp only; omega, by dsimp only; omega, hr⟩
  exact lp N 0 [] _ _ (by omega) (by omega) rfl (by simp) (gd.at g.1)
theorem shDef_Sz {d : TDef} (h : shDef d) : SzDef d := by
  obtain ⟨h1, h2, h3⟩ := h
  exact ⟨by omega, by omega, fun r hr => shRule_Sz (h3 r hr)⟩
theorem defText_le (d : TDef) : (defText d).size ≤ 1000000 := by
  unfold defText
  by_cases h : okDef d = true
  · rw [if_pos h]
    have hh := def_has h
    have hr := okDef_rule h
    have : ∀ (l : List TRule), (∀ r ∈ l, okRule r = true) → (texts l).size ≤ l.length * 5000 := by
      intro l
      induction l with
      | nil => intro _; exact Nat.le_refl _
      | cons r t ih =>
        intro h
        have h1 := ruleText_len (h r (by simp))
        have h2 := ih fun x hx => h x (by simp [hx])
        simp only [texts, ByteArray.size_append, List.length_cons]
        omega
    have h3 := this _ hr
    simp only [ByteArray.size_append]
    show 4 + _ + 2 + _ ≤ _
    omega
  · rw [if_neg h]; exact Nat.zero_le _
theorem sst_len {s : ByteArray} {i j : Int} (h0 : 0 ≤ i) (h1 : i ≤ j) (h2 : j ≤ (s.size : Int)) : ∃ t, sst s i j = some t ∧ (t.size : Int) = j - i := by
  unfold sst
  rw [if_pos ⟨h0, h1, h2⟩]
  refine ⟨_, rfl, ?_⟩
  rw [ByteArray.size_extract]
  omega
theorem read_d {N : Nat} (hN : 1099000000000 ≤ N) {b : List Int} (hb : b.length ≤ 1048576) : ∃ s, m_s_DrawParseDef N b = some s ∧ s.size ≤ 1048576 := by
  obtain ⟨c, e0', g0⟩ := new_ok hN b hb
  obtain ⟨d, k, e1, g1, hd⟩ := def_d hN hb g0
  have sd := shDef_Sz (drDef_sz hd)
  have hl := defText_le d
  unfold m_s_DrawParseDef
  rw [e0', Option.bind_some, e1, Option.bind_some, defT_s hN d sd, Option.bind_some]
  by_cases c0 : ((defText d).size : Int) = 0
  · rw [if_pos (by simpa using c0)]
    exact ⟨_, rfl, by omega⟩
  rw [if_neg (by simpa using c0)]
  obtain ⟨v, k2, e2, g2, h2, h2'⟩ := below_d (N := N) hb (g1.at (c := c) g0.1) 6 (by omega)
  rw [e2, Option.bind_some]
  dsimp only
  by_cases c1 : v = 0
  · rw [if_pos (by simpa using c1)]
    obtain ⟨w, k3, e3, g3, h3, h3'⟩ := below_d (N := N) hb (g2.at (c := c) g0.1) ((defText d).size : Int) (by omega)
    rw [e3, Option.bind_some]
    obtain ⟨z1, f1, l1⟩ := sst_len (s := defText d) (i := 0) (j := w) (by omega) h3 (by omega)
    obtain ⟨z2, f2, l2⟩ := sst_len (s := defText d) (i := w) (j := ((defText d).size : Int)) h3 (by omega) (by omega)
    dsimp only
    rw [f1, Option.bind_some, f2, Option.bind_some]
    obtain ⟨x, k4, e4, g4, h4⟩ := str_d (N := N) hb (g3.at (c := c) g0.1) ([(⟨#[32]⟩ : ByteArray), (⟨#[40]⟩ : ByteArray), (⟨#[120]⟩ : ByteArray), (⟨#[44]⟩ : ByteArray), (⟨#[37, 32, 110, 111, 10]⟩ : ByteArray), (⟨#[45]⟩ : ByteArray), (⟨#[46]⟩ : ByteArray), (⟨#[33]⟩ : ByteArray)] : List ByteArray) (by decide)
    have hx : x.size ≤ 16 := (show ∀ s ∈ ([(⟨#[32]⟩ : ByteArray), (⟨#[40]⟩ : ByteArray), (⟨#[120]⟩ : ByteArray), (⟨#[44]⟩ : ByteArray), (⟨#[37, 32, 110, 111, 10]⟩ : ByteArray), (⟨#[45]⟩ : ByteArray), (⟨#[46]⟩ : ByteArray), (⟨#[33]⟩ : ByteArray)] : List ByteArray), s.size ≤ 16 by decide) _ h4
    rw [e4, Option.bind_some]
    dsimp only
    rw [cat_k (by omega), Option.bind_some, cat_k (by rw [ByteArray.size_append]; omega), Option.bind_some]
    exact ⟨_, rfl, by rw [ByteArray.size_append, ByteArray.size_append]; omega⟩
  rw [if_neg (by simpa using c1)]
  by_cases c2 : v = 1
  · rw [if_pos (by simpa using c2), wr (by omega) (by omega)]
    obtain ⟨w, k3, e3, g3, h3, h3'⟩ := below_d (N := N) hb (g2.at (c := c) g0.1) ((defText d).size + 1 : Int) (by omega)
    rw [e3, Option.bind_some]
    dsimp only
    obtain ⟨z1, f1, l1⟩ := sst_len (s := defText d) (i := 0) (j := w) (by omega) h3 (by omega)
    rw [f1, Option.bind_some]
    exact ⟨_, rfl, by omega⟩
  rw [if_neg (by simpa using c2)]
  by_cases c3 : v = 2
  · rw [if_pos (by simpa using c3)]
    obtain ⟨x, k4, e4, g4, h4⟩ := str_d (N := N) hb (g2.at (c := c) g0.1) ([(⟨#[]⟩ : ByteArray), (⟨#[100, 101, 102, 32, 120, 46]⟩ : ByteArray), (⟨#[100, 101, 102, 32, 120, 46, 32, 114, 117, 108, 101, 32, 114, 32, 48, 58, 32, 97, 40, 41, 32, 45, 62, 32, 100, 111, 110, 101, 46]⟩ : ByteArray), (⟨#[100, 101, 102, 32, 120, 46, 32, 114, 117, 108, 101, 32, 114, 32, 45, 48, 58, 32, 97, 40, 41, 32, 45, 62, 32, 100, 111, 110, 101, 46]⟩ : ByteArray), (⟨#[100, 101, 102, 32, 120, 46, 32, 114, 117, 108, 101, 32, 114, 32, 48, 58, 32, 33, 97, 40, 41, 32, 45, 62, 32, 100, 111, 110, 101, 46]⟩ : ByteArray), (⟨#[100, 101, 102, 32, 120, 46, 32, 114, 117, 108, 101, 32, 114, 32, 48, 58, 32, 97, 40, 88, 41, 32, 43, 32, 88, 32, 60, 32, 45, 53, 32, 45, 62, 32, 97, 115, 115, 101, 114, 116, 32, 98, 40, 88, 32, 45, 32, 45, 49, 41, 46]⟩ : ByteArray), (⟨#[100, 101, 102, 32, 120, 46, 32, 114, 117, 108, 101, 32, 114, 32, 48, 58, 32, 97, 40, 88, 41, 32, 45, 62, 32, 97, 115, 115, 101, 114, 116, 32, 98, 40, 89, 41, 46]⟩ : ByteArray)] : List ByteArray) (by decide)
    rw [e4, Option.bind_some]
    exact ⟨_, rfl, Nat.le_trans ((show ∀ s ∈ ([(⟨#[]⟩ : ByteArray), (⟨#[100, 101, 102, 32, 120, 46]⟩ : ByteArray), (⟨#[100, 101, 102, 32, 120, 46, 32, 114, 117, 108, 101, 32, 114, 32, 48, 58, 32, 97, 40, 41, 32, 45, 62, 32, 100, 111, 110, 101, 46]⟩ : ByteArray), (⟨#[100, 101, 102, 32, 120, 46, 32, 114, 117, 108, 101, 32, 114, 32, 45, 48, 58, 32, 97, 40, 41, 32, 45, 62, 32, 100, 111, 110, 101, 46]⟩ : ByteArray), (⟨#[100, 101, 102, 32, 120, 46, 32, 114, 117, 108, 101, 32, 114, 32, 48, 58, 32, 33, 97, 40, 41, 32, 45, 62, 32, 100, 111, 110, 101, 46]⟩ : ByteArray), (⟨#[100, 101, 102, 32, 120, 46, 32, 114, 117, 108, 101, 32, 114, 32, 48, 58, 32, 97, 40, 88, 41, 32, 43, 32, 88, 32, 60, 32, 45, 53, 32, 45, 62, 32, 97, 115, 115, 101, 114, 116, 32, 98, 40, 88, 32, 45, 32, 45, 49, 41, 46]⟩ : ByteArray), (⟨#[100, 101, 102, 32, 120, 46, 32, 114, 117, 108, 101, 32, 114, 32, 48, 58, 32, 97, 40, 88, 41, 32, 45, 62, 32, 97, 115, 115, 101, 114, 116, 32, 98, 40, 89, 41, 46]⟩ : ByteArray)] : List ByteArray), s.size ≤ 100 by decide) _ h4) (by omega)⟩
  · rw [if_neg (by simpa using c3)]
    exact ⟨_, rfl, by omega⟩
theorem sameTok {N : Nat} (hN : 1099000000000 ≤ N) (x : Toks) (hl : x.length ≤ 3000) : m_l_sameTokens N x x = some true := by
  unfold m_l_sameTokens
  rw [if_neg (by simp)]
  refine (eqloop (m_l_sameTokens_l1 N x x) x x rfl (by omega) (fun a b => some (eqT_TToken a b)) (fun a _ b _ => by rw [eqT_TToken_eq]) (fun k i => rfl) N 0 (by omega) (by omega)).trans ?_
  simp
theorem law_FnDefsRead {N : Nat} (hN : 1099000000000 ≤ N) (b : List Int) : m_l_FnDefsRead N b = some true := by
  unfold m_l_FnDefsRead m_l_big
  by_cases hb : b.length ≤ 1048576
  · have c1 : decide (1048576 < (b.length : Int)) = false := decide_eq_false (by omega)
    obtain ⟨s, e1, hs⟩ := read_d hN hb
    have h1 := pd_i hN s hs
    have h2 := pd_s hN s hs
    rcases parsed_cases s with ⟨d, hd⟩ | hd
    · obtain ⟨hok, sd, hl, hx⟩ := parsed_toks hd
      obtain ⟨p, -, x1⟩ := lex_i hN s hs
      obtain ⟨q, -, x2⟩ := lex_i hN (defText d) (defText_len hok)
      rw [hx] at x1
      rw [lexR_text hok, if_pos hl] at x2
      simp only at x1 x2
      rw [hd] at h1 h2
      simp only [c1, Option.bind_some, Bool.false_eq_true, if_false, e1, h1, h2, bne_self_eq_false, Bool.not_true, x1, defT_i hN d sd, x2, def_i hN d sd, hok, if_true, decide_true, sameTok hN _ hl]
    · rw [hd] at h1 h2
      simp only [c1, Option.bind_some, Bool.false_eq_true, if_false, e1, h1, h2, bne_self_eq_false, Bool.not_false, if_true, beq_self_eq_true, List.length_nil, Int.natCast_zero, decide_true]
  · have c1 : decide (1048576 < (b.length : Int)) = true := decide_eq_true (by omega)
    simp only [c1, Option.bind_some, if_true]
namespace fnDefsRead
theorem law {x0 : List Int} (w0 : (WfL (WfI .u8)) x0) : m_l_FnDefsRead 1099511627776 x0 = some true := law_FnDefsRead (by omega) x0
end fnDefsRead
end Go.Proofs.YteipbimepilcfaaGreatDoor
