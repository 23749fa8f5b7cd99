/- Plain laws: cores of SameAlpha, Passes, EffectOk, Compute. -/
import Derived.Test.YtpajhchhkfnieaaPAPur
namespace Go.Proofs.Ytpajhchhkfnieaa
open Eng
set_option linter.unusedVariables false
set_option linter.unusedSimpArgs false

/-- Two loops of one step are one loop. -/
theorem loopEq {σ α : Type} (f g : Nat → σ → Option α) (h0 : ∀ s, f 0 s = none) (h0' : ∀ s, g 0 s = none) (h : ∀ k s, (∀ s', f k s' = g k s') → f (k + 1) s = g (k + 1) s) : ∀ n s, f n s = g n s := by
  intro n
  induction n with
  | zero => intro s; rw [h0, h0']
  | succ n ih => intro s; exact h n s ih

/-- A loop that goes through a list as long as a test holds. -/
theorem allloop (f : Nat → Int → Option Bool) (n0 : Nat) (hm : n0 ≤ 4611686018427387903) (e : Nat → Bool) (z : Bool)
    (h : ∀ k (i : Nat), i < n0 → f (k + 1) i = if e i then f k (IntKind.i64.wrap ((i : Int) + 1)) else some false) (hz : ∀ k (i : Nat), i = n0 → f (k + 1) i = some z) :
    ∀ (n i : Nat), i ≤ n0 → n0 - i < n → f n i = some (((List.range n0).drop i).all e && z) := by
  intro n
  induction n with
  | zero => intro i _ h; omega
  | succ n ih =>
    intro i hi hn
    by_cases hlt : i < n0
    · rw [h n i hlt, List.drop_eq_getElem_cons (by simpa using hlt), List.getElem_range, List.all_cons]
      cases he : e i with
      | false => simp
      | true => simp only [if_true, Bool.true_and]; rw [wr1 i (by omega), ih (i + 1) (by omega) (by omega)]
    · have : i = n0 := by omega
      rw [hz n i this, List.drop_of_length_le (by simp; omega)]
      simp

/-! ### SameAlpha -/
theorem eqInt {N : Nat} (hN : 1048578 ≤ N) (x y : List Int) (hl : x.length ≤ 1048576) : m_sl_Equal_Sint_int N x y = some (decide (x = y)) := by
  unfold m_sl_Equal_Sint_int
  by_cases c : x.length = y.length
  · rw [if_neg (by simp; omega)]
    refine (eqloop (m_sl_Equal_Sint_int_l1 N x y) x y c (by omega) (fun a b => some (decide (a = b))) (fun a _ b _ => rfl) (fun k i => rfl) N 0 (by omega) (by omega)).trans ?_
    simp
  · rw [if_pos (by simp; omega)]
    have : ¬ x = y := fun e => c (by rw [e])
    simp [this]
theorem eqInt' {N : Nat} (hN : 1048578 ≤ N) (x y : List Int) (hl : x.length ≤ 1048576) : m_s_l11Same N x y = some (decide (x = y)) := by
  unfold m_s_l11Same
  by_cases c : x.length = y.length
  · rw [if_neg (by simp; omega)]
    refine (eqloop (m_s_l11Same_l1 N x y) x y c (by omega) (fun a b => some (decide (a = b))) (fun a _ b _ => rfl) (fun k i => rfl) N 0 (by omega) (by omega)).trans ?_
    simp
  · rw [if_pos (by simp; omega)]
    have : ¬ x = y := fun e => c (by rw [e])
    simp [this]
theorem eqVals {N : Nat} (hN : 1048578 ≤ N) (x y : List TVal) (hl : x.length ≤ 1048576) : m_sl_Equal_Si_Val_i_Val N x y = some (decide (x = y)) := by
  unfold m_sl_Equal_Si_Val_i_Val
  by_cases c : x.length = y.length
  · rw [if_neg (by simp; omega)]
    refine (eqloop (m_sl_Equal_Si_Val_i_Val_l1 N x y) x y c (by omega) (fun a b => some (eqT_TVal a b)) (fun a _ b _ => by rw [eqT_TVal_eq]) (fun k i => rfl) N 0 (by omega) (by omega)).trans ?_
    simp
  · rw [if_pos (by simp; omega)]
    have : ¬ x = y := fun e => c (by rw [e])
    simp [this]
theorem eqVals' {N : Nat} (hN : 1048578 ≤ N) (x y : List TVal) (hl : x.length ≤ 1048576) : m_s_l3SameVals N x y = some (decide (x = y)) := by
  unfold m_s_l3SameVals
  by_cases c : x.length = y.length
  · rw [if_neg (by simp; omega)]
    refine (eqloop (m_s_l3SameVals_l1 N x y) x y c (by omega) (fun a b => some (eqT_TVal a b)) (fun a _ b _ => by rw [eqT_TVal_eq]) (fun k i => rfl) N 0 (by omega) (by omega)).trans ?_
    simp
  · rw [if_pos (by simp; omega)]
    have : ¬ x = y := fun e => c (by rw [e])
    simp [this]

theorem core_SameAlpha {N : Nat} (hN : 1048578 ≤ N) (x y : TAlpha) (lx : LimTAlpha x) (ly : LimTAlpha y) : ∃ r, m_s_SameAlpha N x y = some r ∧ m_i_SameAlpha N x y = some r := by
  unfold m_s_SameAlpha m_i_SameAlpha
  rw [eqInt hN _ _ (by unfold LimTAlpha at lx; omega), eqInt' hN _ _ (by unfold LimTAlpha at lx; omega), eqVals hN _ _ (by unfold LimTAlpha at lx; omega), eqVals' hN _ _ (by unfold LimTAlpha at lx; omega)]
  cases seq x.Kind y.Kind <;> by_cases c1 : x.N = y.N <;> by_cases c2 : x.At = y.At <;> by_cases c3 : x.Consts = y.Consts <;> simp [c1, c2, c3]

/-! ### Passes -/
theorem in0 (N : Nat) (a b c : Int) : m_s_l1In N a b c = some (decide (b ≤ a) && decide (a ≤ c)) := by
  unfold m_s_l1In
  by_cases h : b ≤ a <;> simp [h]

theorem core_Passes {N : Nat} (hN : 1048578 ≤ N) (x : TAlpha) (y : TFact) (lx : LimTAlpha x) (ly : LimTFact y) : ∃ r, m_s_Passes N x y = some r ∧ m_i_Passes N x y = some r := by
  have hAt : x.At.length ≤ 1048576 := by unfold LimTAlpha at lx; omega
  have hF : y.Fields.length ≤ 1048576 := by unfold LimTFact at ly; omega
  have hw : IntKind.i64.wrap ((y.Fields.length : Int) - 1) = (y.Fields.length : Int) - 1 := wr (by omega) (by omega)
  let e : Nat → Bool := fun i => match x.At[i]?, x.Consts[i]? with
    | some a, some c => match idx y.Fields a with
      | some v => eqT_TVal v c
      | none => false
    | _, _ => false
  have key : ∀ (a : Int) (b : Bool), (idx y.Fields a = none → b = true) → (∀ v, idx y.Fields a = some v → b = false) → True := fun _ _ _ _ => trivial
  have hout : ∀ a : Int, (a < 0 ∨ (y.Fields.length : Int) ≤ a) → idx y.Fields a = none := by
    intro a ha
    unfold idx
    rcases ha with ha | ha
    · rw [if_neg (by omega)]
    · rw [if_pos (by omega), List.getElem?_eq_none (by omega)]
  have hin : ∀ a : Int, ¬ (a < 0 ∨ (y.Fields.length : Int) ≤ a) → ∃ v, idx y.Fields a = some v := by
    intro a ha
    unfold idx
    rw [if_pos (by omega), List.getElem?_eq_getElem (by omega)]
    exact ⟨_, rfl⟩
  have hs : m_s_Passes_l1 N x y N 0 = some (((List.range x.At.length).drop 0).all e && true) := by
    refine allloop (fun n i => m_s_Passes_l1 N x y n i) x.At.length (by omega) e true (fun k i hi => ?_) (fun k i hi => ?_) N 0 (by omega) (by omega)
    · simp only [m_s_Passes_l1, idx_nat_lt hi, hw, in0, Option.bind_some]
      rw [if_pos (by simp; omega)]
      by_cases hc : i < x.Consts.length
      · rw [idx_nat_lt hc]
        have : e i = match idx y.Fields x.At[i] with | some v => eqT_TVal v x.Consts[i] | none => false := by
          show (match x.At[i]?, x.Consts[i]? with | some a, some c => _ | _, _ => false) = _
          rw [List.getElem?_eq_getElem hi, List.getElem?_eq_getElem hc]
        rw [this, if_neg (by simp; omega)]
        by_cases ho : x.At[i] < 0 ∨ (y.Fields.length : Int) ≤ x.At[i]
        · rw [hout _ ho]
          have : (decide (0 ≤ x.At[i]) && decide (x.At[i] ≤ (y.Fields.length : Int) - 1)) = false := by
            rw [Bool.eq_false_iff]; simp; omega
          simp [this]
        · obtain ⟨v, hv⟩ := hin _ ho
          rw [hv]
          have : (decide (0 ≤ x.At[i]) && decide (x.At[i] ≤ (y.Fields.length : Int) - 1)) = true := by
            simp; omega
          simp only [this, Option.bind_some, Bool.not_true, Bool.false_eq_true, if_false]
          by_cases hq : eqT_TVal v x.Consts[i] = true <;> simp [hq]
      · have : e i = false := by
          show (match x.At[i]?, x.Consts[i]? with | some a, some c => _ | _, _ => false) = _
          rw [List.getElem?_eq_getElem hi, List.getElem?_eq_none (by omega)]
        rw [this, if_pos (by simp; omega)]
        simp
    · simp only [m_s_Passes_l1]
      rw [if_neg (by simp; omega)]
  have hi : m_i_Passes_l1 N x y N 0 = some (((List.range x.At.length).drop 0).all e && true) := by
    refine allloop (fun n i => m_i_Passes_l1 N x y n i) x.At.length (by omega) e true (fun k i hi => ?_) (fun k i hi => ?_) N 0 (by omega) (by omega)
    · simp only [m_i_Passes_l1, idx_nat_lt hi, Option.bind_some]
      rw [if_pos (by simp; omega)]
      by_cases ho : x.At[i] < 0 ∨ (y.Fields.length : Int) ≤ x.At[i]
      · have he : e i = false := by
          show (match x.At[i]?, x.Consts[i]? with | some a, some c => _ | _, _ => false) = _
          rw [List.getElem?_eq_getElem hi]
          cases x.Consts[i]? with
          | none => rfl
          | some c => simp only [hout _ ho]
        rw [he]
        by_cases h0 : x.At[i] < 0
        · simp [h0]
        · have : (y.Fields.length : Int) ≤ x.At[i] := by omega
          simp [h0, this]
      · have h1 : ¬ x.At[i] < 0 := by omega
        have h2 : ¬ (y.Fields.length : Int) ≤ x.At[i] := by omega
        obtain ⟨v, hv⟩ := hin _ ho
        by_cases hc : i < x.Consts.length
        · have : e i = eqT_TVal v x.Consts[i] := by
            show (match x.At[i]?, x.Consts[i]? with | some a, some c => _ | _, _ => false) = _
            rw [List.getElem?_eq_getElem hi, List.getElem?_eq_getElem hc]
            simp only [hv]
          rw [this, idx_nat_lt hc, hv]
          have h3 : ¬ (x.Consts.length : Int) ≤ (i : Int) := by omega
          simp only [h1, h2, h3, decide_false, Option.bind_some, Bool.false_eq_true, if_false]
          by_cases hq : eqT_TVal v x.Consts[i] = true <;> simp [hq]
        · have : e i = false := by
            show (match x.At[i]?, x.Consts[i]? with | some a, some c => _ | _, _ => false) = _
            rw [List.getElem?_eq_getElem hi, List.getElem?_eq_none (by omega)]
          have h3 : (x.Consts.length : Int) ≤ (i : Int) := by omega
          rw [this]
          simp [h1, h2, h3]
    · simp only [m_i_Passes_l1]
      rw [if_neg (by simp; omega)]
  unfold m_s_Passes m_i_Passes
  rw [hs, hi]
  have h1 : seq y.Kind x.Kind = seq x.Kind y.Kind := by rw [seq_eq, seq_eq, decide_eq_decide]; exact ⟨Eq.symm, Eq.symm⟩
  have h2 : decide ((y.Fields.length : Int) = x.N) = decide (x.N = (y.Fields.length : Int)) := by rw [decide_eq_decide]; exact ⟨Eq.symm, Eq.symm⟩
  rw [h1, h2]
  generalize (((List.range x.At.length).drop 0).all e && true) = q
  cases seq x.Kind y.Kind <;> cases decide (x.N = (y.Fields.length : Int)) <;> exact ⟨_, rfl, rfl⟩

theorem andS (a b : Bool) : (if a = true then some b else some false) = some (a && b) := by cases a <;> rfl
theorem orS (a b : Bool) : (if a = true then some true else some b) = some (a || b) := by cases a <;> rfl
/-! ### EffectOk -/
theorem in1 (N : Nat) (a b c : Int) : m_i_inRange N a b c = some (decide (b ≤ a) && decide (a ≤ c)) := by
  unfold m_i_inRange
  by_cases h : b ≤ a <;> simp [h]
theorem wrU (y : UInt8) : IntKind.i64.wrap (y.toNat : Int) = (y.toNat : Int) := wr (by omega) (by have := y.toNat_lt; omega)
def letter (y : UInt8) : Bool := (decide (97 ≤ (y.toNat : Int)) && decide ((y.toNat : Int) ≤ 122)) || (decide (48 ≤ (y.toNat : Int)) && decide ((y.toNat : Int) ≤ 57)) || decide ((y.toNat : Int) = 95)
theorem letter_s (N : Nat) (y : UInt8) : m_s_l1Letter N (y.toNat : Int) = some (letter y) := by
  unfold m_s_l1Letter letter
  simp only [wrU, in0, Option.bind_some]
  by_cases h1 : (decide (97 ≤ (y.toNat : Int)) && decide ((y.toNat : Int) ≤ 122)) = true
  · simp [h1]
  · rw [if_neg h1]
    simp only [Option.bind_some]
    rw [Bool.eq_false_iff.2 h1, Bool.false_or]
    by_cases h2 : (decide (48 ≤ (y.toNat : Int)) && decide ((y.toNat : Int) ≤ 57)) = true
    · simp [h2]
    · rw [if_neg h2, Bool.eq_false_iff.2 h2, Bool.false_or]; rfl
theorem letter_i (N : Nat) (y : UInt8) : m_i_isWordByte N (y.toNat : Int) = some (letter y) := by
  unfold m_i_isWordByte m_i_isSmall m_i_isDigit letter
  generalize (y.toNat : Int) = n
  rw [andS, andS, Option.bind_some, Option.bind_some, Option.bind_some, Option.bind_some, orS, Option.bind_some, orS]
  rfl
def small (y : UInt8) : Bool := decide (97 ≤ (y.toNat : Int)) && decide ((y.toNat : Int) ≤ 122)

def wordAll (s : ByteArray) : Bool := ((List.range s.size).drop 0).all (fun i => match s.data.toList[i]? with | some y => letter y | none => false)
theorem size_data (s : ByteArray) : s.data.toList.length = s.size := rfl

theorem plain_s {N : Nat} (hN : 1048578 ≤ N) (s : ByteArray) (hs : s.size ≤ 1048576) : m_s_l2Plain N s = some (wordAll s && decide ((s.size : Int) ≤ 20)) := by
  unfold m_s_l2Plain
  refine allloop (fun n i => m_s_l2Plain_l1 N s n i) s.size (by omega) _ _ (fun k i hi => ?_) (fun k i hi => ?_) N 0 (by omega) (by omega)
  · have hi' : i < s.data.toList.length := by rw [size_data]; exact hi
    simp only [m_s_l2Plain_l1, idx_nat_lt hi', Option.bind_some, letter_s, List.getElem?_eq_getElem hi']
    rw [if_pos (by simp; omega)]
    cases letter s.data.toList[i] <;> simp
  · simp only [m_s_l2Plain_l1]
    rw [if_neg (by simp; omega)]
theorem word_i {N : Nat} (hN : 1048578 ≤ N) (s : ByteArray) (n : Int) (hs : s.size ≤ 1048576) : m_i_isWord N s n = some (wordAll s && decide ((s.size : Int) ≤ n)) := by
  unfold m_i_isWord
  have : m_i_isWord_l1 N s N 0 = some (wordAll s && true) := by
    refine allloop (fun n i => m_i_isWord_l1 N s n i) s.size (by omega) _ _ (fun k i hi => ?_) (fun k i hi => ?_) N 0 (by omega) (by omega)
    · have hi' : i < s.data.toList.length := by rw [size_data]; exact hi
      simp only [m_i_isWord_l1, idx_nat_lt hi', Option.bind_some, letter_i, List.getElem?_eq_getElem hi']
      rw [if_pos (by simp; omega)]
      cases letter s.data.toList[i] <;> simp
    · simp only [m_i_isWord_l1]
      rw [if_neg (by simp; omega)]
  rw [this]
  by_cases h : n < (s.size : Int)
  · rw [if_pos (by simpa using h), decide_eq_false (by omega), Bool.and_false]
  · rw [if_neg (by simpa using h), decide_eq_true (show (s.size : Int) ≤ n by omega)]

theorem name_i {N : Nat} (hN : 1048578 ≤ N) (s : ByteArray) (hs : s.size ≤ 1048576) : m_i_NameOk N s = some ((match s.data.toList[0]? with | some y => small y | none => false) && (wordAll s && decide ((s.size : Int) ≤ 12))) := by
  unfold m_i_NameOk
  rw [word_i hN s 12 hs]
  by_cases h : 0 < s.size
  · have hi' : 0 < s.data.toList.length := by rw [size_data]; exact h
    have hidx : idx s.data.toList 0 = some s.data.toList[0] := by simpa using idx_nat_lt (i := 0) hi'
    rw [if_pos (by simpa using h), hidx, List.getElem?_eq_getElem hi']
    have : m_i_isSmall N (s.data.toList[0].toNat : Int) = some (small s.data.toList[0]) := by
      unfold m_i_isSmall small
      generalize (s.data.toList[0].toNat : Int) = n
      by_cases h1 : 97 ≤ n <;> simp [h1]
    simp only [Option.bind_some, this]
    cases small s.data.toList[0] <;> simp
  · rw [if_neg (by simpa using h), List.getElem?_eq_none (by rw [size_data]; omega)]
    rfl

theorem name_s {N : Nat} (hN : 1048578 ≤ N) (s : ByteArray) (hs : s.size ≤ 1048576) : m_s_NameOk N s = some ((match s.data.toList[0]? with | some y => small y | none => false) && (wordAll s && decide ((s.size : Int) ≤ 12))) := by
  unfold m_s_NameOk
  have := allloop (fun n i => m_s_NameOk_l1 N s n i) s.size (by omega) (fun i => match s.data.toList[i]? with | some y => letter y && (decide (¬ i = 0) || small y) | none => false) (decide (1 ≤ (s.size : Int)) && decide ((s.size : Int) ≤ 12)) (fun k i hi => by
    have hi' : i < s.data.toList.length := by rw [size_data]; exact hi
    simp only [m_s_NameOk_l1, idx_nat_lt hi', Option.bind_some, letter_s, List.getElem?_eq_getElem hi', wrU, in0]
    rw [if_pos (by simp; omega)]
    have h0 : decide ((i : Int) = 0) = decide (i = 0) := by rw [decide_eq_decide]; omega
    rw [h0]
    unfold small
    simp only [andS, orS, Option.bind_some]
    generalize letter s.data.toList[i] = a
    generalize (decide (97 ≤ (s.data.toList[i].toNat : Int)) && decide ((s.data.toList[i].toNat : Int) ≤ 122)) = b
    cases a <;> cases b <;> by_cases hz : i = 0 <;> simp [hz]) (fun k i hi => by
    simp only [m_s_NameOk_l1, in0, Option.bind_some]
    rw [if_neg (by simp; omega)]) N 0 (by omega) (by omega)
  rw [show m_s_NameOk_l1 N s N 0 = _ from this]
  congr 1
  unfold wordAll
  simp only [List.drop_zero]
  cases hsz : s.size with
  | zero =>
    rw [List.getElem?_eq_none (by rw [size_data]; omega)]
    simp
  | succ n =>
    have hi' : 0 < s.data.toList.length := by rw [size_data]; omega
    rw [List.getElem?_eq_getElem hi', List.range_succ_eq_map]
    simp only [List.all_cons, List.getElem?_eq_getElem hi', List.all_map, Function.comp_def, Nat.succ_eq_add_one]
    have : ∀ i, (match s.data.toList[i + 1]? with | some y => letter y && (decide (¬ i + 1 = 0) || small y) | none => false) = (match s.data.toList[i + 1]? with | some y => letter y | none => false) := by
      intro i; cases s.data.toList[i + 1]? <;> simp
    simp only [this]
    have h1 : decide (1 ≤ ((n + 1 : Nat) : Int)) = true := by simp; omega
    simp only [h1, Bool.true_and, not_true, decide_false, Bool.false_or]
    cases letter s.data.toList[0] <;> cases small s.data.toList[0] <;> simp

theorem val_s {N : Nat} (hN : 1048578 ≤ N) (v : TVal) (hs : v.S.size ≤ 1048576) : m_s_ValOk N v = m_i_ValOk N v := by
  unfold m_s_ValOk m_i_ValOk
  rw [plain_s hN _ hs, word_i hN _ _ hs, in0, in1]
  by_cases h1 : v.K = 1
  · simp [h1]
  · by_cases h2 : v.K = 2
    · simp only [h2, andS, orS, Option.bind_some]
      cases decide (v.N = 0) <;> cases wordAll v.S <;> cases decide ((v.S.size : Int) ≤ 20) <;> rfl
    · simp [h1, h2]
def okVal (v : TVal) : Bool := if v.K = 1 then (decide (-1000000000 ≤ v.N) && decide (v.N ≤ 1000000000)) && seq v.S ⟨#[]⟩ else if v.K = 2 then decide (v.N = 0) && (wordAll v.S && decide ((v.S.size : Int) ≤ 20)) else false
theorem val_i {N : Nat} (hN : 1048578 ≤ N) (v : TVal) (hs : v.S.size ≤ 1048576) : m_i_ValOk N v = some (okVal v) := by
  unfold m_i_ValOk okVal
  rw [word_i hN _ _ hs, in1]
  by_cases h1 : v.K = 1
  · simp only [h1, decide_true, if_true, Option.bind_some]
    cases (decide (-1000000000 ≤ v.N) && decide (v.N ≤ 1000000000)) <;> simp
  · by_cases h2 : v.K = 2
    · by_cases h3 : v.N = 0 <;> simp [h2, h3]
    · simp [h1, h2]
theorem vals_s {N : Nat} (hN : 1048578 ≤ N) (xs : List TVal) (hl : xs.length ≤ 1048576) (hs : ∀ v ∈ xs, v.S.size ≤ 1048576) : m_s_l3Vals N xs = some (((List.range xs.length).drop 0).all (fun i => match xs[i]? with | some v => okVal v | none => false) && decide ((xs.length : Int) ≤ 5)) := by
  unfold m_s_l3Vals
  refine allloop (fun n i => m_s_l3Vals_l1 N xs n i) xs.length (by omega) _ _ (fun k i hi => ?_) (fun k i hi => ?_) N 0 (by omega) (by omega)
  · simp only [m_s_l3Vals_l1, idx_nat_lt hi, Option.bind_some, val_s hN _ (hs _ (List.getElem_mem hi)), val_i hN _ (hs _ (List.getElem_mem hi)), List.getElem?_eq_getElem hi]
    rw [if_pos (by simp; omega)]
    cases okVal xs[i] <;> simp
  · simp only [m_s_l3Vals_l1]
    rw [if_neg (by simp; omega)]
def okFact (x : TFact) : Bool := ((match x.Kind.data.toList[0]? with | some y => small y | none => false) && (wordAll x.Kind && decide ((x.Kind.size : Int) ≤ 12))) && (((List.range x.Fields.length).drop 0).all (fun i => match x.Fields[i]? with | some v => okVal v | none => false) && decide ((x.Fields.length : Int) ≤ 5))
def SzFact (x : TFact) : Prop := x.Kind.size ≤ 1048576 ∧ x.Fields.length ≤ 1048576 ∧ ∀ v ∈ x.Fields, v.S.size ≤ 1048576
theorem fact_s {N : Nat} (hN : 1048578 ≤ N) (x : TFact) (h : SzFact x) : m_s_FactOk N x = some (okFact x) := by
  unfold m_s_FactOk okFact
  rw [name_s hN _ h.1, vals_s hN _ h.2.1 h.2.2]
  simp only [Option.bind_some, andS]
theorem fact_i {N : Nat} (hN : 1048578 ≤ N) (x : TFact) (h : SzFact x) : m_i_FactOk N x = some (okFact x) := by
  unfold m_i_FactOk okFact
  rw [name_i hN _ h.1]
  have : m_i_FactOk_l1 N x N 0 = some (((List.range x.Fields.length).drop 0).all (fun i => match x.Fields[i]? with | some v => okVal v | none => false) && true) := by
    have hl := h.2.1
    refine allloop (fun n i => m_i_FactOk_l1 N x n i) x.Fields.length (by omega) _ _ (fun k i hi => ?_) (fun k i hi => ?_) N 0 (by omega) (by omega)
    · simp only [m_i_FactOk_l1, idx_nat_lt hi, Option.bind_some, val_i hN _ (h.2.2 _ (List.getElem_mem hi)), List.getElem?_eq_getElem hi]
      rw [if_pos (by simp; omega)]
      cases okVal x.Fields[i] <;> simp
    · simp only [m_i_FactOk_l1]
      rw [if_neg (by simp; omega)]
  rw [this]
  simp only [Option.bind_some]
  generalize ((match x.Kind.data.toList[0]? with | some y => small y | none => false) && (wordAll x.Kind && decide ((x.Kind.size : Int) ≤ 12))) = a
  generalize ((List.range x.Fields.length).drop 0).all _ = b
  by_cases h5 : (x.Fields.length : Int) ≤ 5
  · have : ¬ 5 < (x.Fields.length : Int) := by omega
    cases a <;> cases b <;> simp [h5, this]
  · have : 5 < (x.Fields.length : Int) := by omega
    cases a <;> cases b <;> simp [h5, this]

theorem core_EffectOk {N : Nat} (hN : 1048578 ≤ N) (x : TEffect) (hk : SzFact x.F) (hu : x.Undo.size ≤ 1048576) : ∃ r, m_s_EffectOk N x = some r ∧ m_i_EffectOk N x = some r := by
  unfold m_s_EffectOk m_i_EffectOk m_s_EffectOk_j1 m_i_EffectOk_j1 m_i_isUndo
  simp only [fact_s hN _ hk, fact_i hN _ hk, name_s hN _ hu, name_i hN _ hu, in0, in1, Option.bind_some, andS, orS]
  by_cases h1 : x.Kind = 1
  · simp only [h1, decide_true, if_true]; exact ⟨_, rfl, rfl⟩
  by_cases h2 : x.Kind = 2
  · simp only [h2, decide_true, if_true]; exact ⟨_, rfl, rfl⟩
  by_cases h3 : x.Kind = 3
  · simp only [h3, decide_true, if_true]; exact ⟨_, rfl, rfl⟩
  by_cases h4 : x.Kind = 4
  · simp only [h4, decide_true, if_true]; exact ⟨_, rfl, rfl⟩
  simp only [h1, h2, h3, h4, decide_false, Bool.false_eq_true, if_false]
  by_cases h5 : x.Kind = 5
  · simp only [h5, decide_true, if_true]; exact ⟨_, rfl, rfl⟩
  simp only [h5, decide_false, Bool.false_eq_true, if_false]
  exact ⟨_, rfl, rfl⟩

/-! ### Compute -/
theorem bindOf (N : Nat) (p0 : List TBind) (p1 : ByteArray) : m_s_BindOf N p0 p1 = m_i_BindOf N p0 p1 := by
  unfold m_s_BindOf m_i_BindOf
  have : ∀ n i, m_s_BindOf_l1 N p0 p1 n i = m_i_BindOf_l1 N p0 p1 n i := by
    intro n
    induction n with
    | zero => intro i; rfl
    | succ n ih =>
      intro i
      simp only [m_s_BindOf_l1, m_i_BindOf_l1, ih]
      split
      · cases idx p0 i with
        | none => rfl
        | some b => rfl
      · rfl
  exact this N 0
theorem bindOf_some {N : Nat} (hN : 1048578 ≤ N) (p0 : List TBind) (p1 : ByteArray) (hl : p0.length ≤ 1048576) (P : TVal → Prop) (hz : P ⟨0, 0, ⟨#[]⟩⟩) (hp : ∀ b ∈ p0, P b.V) : ∃ v b, m_i_BindOf N p0 p1 = some (v, b) ∧ P v ∧ (b = false → v = ⟨0, 0, ⟨#[]⟩⟩) := by
  unfold m_i_BindOf
  have : ∀ n i : Nat, i ≤ p0.length → p0.length - i < n → ∃ v b, m_i_BindOf_l1 N p0 p1 n i = some (v, b) ∧ P v ∧ (b = false → v = ⟨0, 0, ⟨#[]⟩⟩) := by
    intro n
    induction n with
    | zero => intro i _ h; omega
    | succ n ih =>
      intro i hi hn
      simp only [m_i_BindOf_l1]
      by_cases hlt : i < p0.length
      · rw [if_pos (by simp; omega), idx_nat_lt hlt, Option.bind_some]
        split
        · exact ⟨_, _, rfl, hp _ (List.getElem_mem hlt), fun h => by cases h⟩
        · rw [wr1 i (by omega)]; exact ih (i + 1) (by omega) (by omega)
      · rw [if_neg (by simp; omega)]
        exact ⟨_, _, rfl, hz, fun _ => rfl⟩
  exact this N 0 (by omega) (by omega)

def zv : TVal := ⟨0, 0, ⟨#[]⟩⟩
theorem argVal_some {N : Nat} (hN : 1048578 ≤ N) (a : TArg) (p : List TBind) (hl : p.length ≤ 1048576) (hs : ∀ b ∈ p, b.V.S.size ≤ 1048576) (ha : a.V.S.size ≤ 1048576) :
    ∃ v b, m_i_ArgVal N a p = some (v, b) ∧ m_s_ArgVal N a p = some (v, b) ∧ v.S.size ≤ 1048576 ∧ (b = false → v = zv) := by
  unfold m_i_ArgVal m_s_ArgVal
  rw [bindOf]
  obtain ⟨v, b, h, hv, hb⟩ := bindOf_some hN p a.S hl (fun v => v.S.size ≤ 1048576) (by decide) hs
  rw [h]
  by_cases h2 : a.K = 2
  · simp only [h2, decide_true, if_true]; exact ⟨_, _, rfl, rfl, ha, fun h => by cases h⟩
  by_cases h1 : a.K = 1
  · simp only [h1, decide_true, if_true]
    exact ⟨v, b, rfl, rfl, hv, hb⟩
  · simp only [h1, h2, decide_false, Bool.false_eq_true, if_false]; exact ⟨_, _, rfl, rfl, by decide, fun _ => rfl⟩

theorem sum_eq {N : Nat} (hN : 1048578 ≤ N) (a b : TVal) (n : Int) (ha : a.S.size ≤ 1048576) (hb : b.S.size ≤ 1048576) :
    m_s_l2Sum N a b n = some (if (decide (a.K = 1) && decide (b.K = 1) && okVal a && okVal b && okVal ⟨1, n, ⟨#[]⟩⟩) = true then (⟨1, n, ⟨#[]⟩⟩, true) else (zv, false)) := by
  unfold m_s_l2Sum
  simp only [val_s hN _ ha, val_s hN _ hb, val_s hN ⟨1, n, ⟨#[]⟩⟩ (Nat.zero_le _), val_i hN _ ha, val_i hN _ hb, val_i hN ⟨1, n, ⟨#[]⟩⟩ (Nat.zero_le _), Option.bind_some, orS]
  cases decide (a.K = 1) <;> cases decide (b.K = 1) <;> cases okVal a <;> cases okVal b <;> cases okVal ⟨1, n, ⟨#[]⟩⟩ <;> rfl
theorem ints_eq {N : Nat} (hN : 1048578 ≤ N) (a b : TVal) (n : Int) (ha : a.S.size ≤ 1048576) (hb : b.S.size ≤ 1048576) :
    ((m_i_areInts N a b).bind fun x1 => (if !x1 then some ((⟨0, 0, (⟨#[]⟩ : ByteArray)⟩ : TVal), false) else ((m_i_intVal N n).bind fun x2 => some (x2.1, x2.2)))) = some (if (decide (a.K = 1) && decide (b.K = 1) && okVal a && okVal b && okVal ⟨1, n, ⟨#[]⟩⟩) = true then (⟨1, n, ⟨#[]⟩⟩, true) else (zv, false)) := by
  unfold m_i_areInts m_i_intVal
  simp only [val_i hN _ ha, val_i hN _ hb, val_i hN ⟨1, n, ⟨#[]⟩⟩ (Nat.zero_le _), Option.bind_some, andS]
  cases decide (a.K = 1) <;> cases decide (b.K = 1) <;> cases okVal a <;> cases okVal b <;> cases okVal ⟨1, n, ⟨#[]⟩⟩ <;> rfl

theorem core_Compute {N : Nat} (hN : 1048578 ≤ N) (e : TExpr) (p : List TBind) (hl : p.length ≤ 1048576) (hs : ∀ b ∈ p, b.V.S.size ≤ 1048576) (h1 : e.L.V.S.size ≤ 1048576) (h2 : e.R.V.S.size ≤ 1048576) : ∃ r, m_s_Compute N e p = some r ∧ m_i_Compute N e p = some r := by
  unfold m_s_Compute m_i_Compute m_s_AddVals m_s_SubVals m_i_AddVals m_i_SubVals
  obtain ⟨v, b, hi, hs', hv, hz⟩ := argVal_some hN e.L p hl hs h1
  obtain ⟨v', b', hi', hs'', hv', hz'⟩ := argVal_some hN e.R p hl hs h2
  simp only [hi, hs', hi', hs'', Option.bind_some, sum_eq hN _ _ _ hv hv', ints_eq hN _ _ _ hv hv', orS, andS]
  cases b with
  | false => rw [hz rfl]; exact ⟨_, rfl, rfl⟩
  | true =>
    cases seq e.Op ⟨#[]⟩ with
    | true => exact ⟨_, rfl, rfl⟩
    | false =>
      cases b' with
      | false => exact ⟨_, rfl, rfl⟩
      | true =>
        cases seq e.Op ⟨#[43]⟩ with
        | true => exact ⟨_, rfl, rfl⟩
        | false => cases seq e.Op ⟨#[45]⟩ <;> exact ⟨_, rfl, rfl⟩

/-! ### The cores, out of the sizes -/
theorem val_sz (v : TVal) : totTVal v = (v.S.size : Int) := by unfold totTVal; rfl
theorem szFact_of (x : TFact) (h : totTFact x ≤ 1048576) : SzFact x := by
  unfold totTFact at h
  have nn : ∀ y ∈ x.Fields, 0 ≤ totTVal y := fun y _ => totTVal_nn y
  have := sum_nonneg _ _ nn
  refine ⟨by omega, by omega, fun v hv => ?_⟩
  have h1 := sum_mem _ _ nn v hv
  rw [val_sz] at h1; omega
theorem c_SameAlpha {N : Nat} (hN : 1048578 ≤ N) (x y : TAlpha) (hx : totTAlpha x ≤ 1048576) (hy : totTAlpha y ≤ 1048576) : ∃ r, m_s_SameAlpha N x y = some r ∧ m_i_SameAlpha N x y = some r := core_SameAlpha hN x y (LimTAlpha_of x hx) (LimTAlpha_of y hy)
theorem c_Passes {N : Nat} (hN : 1048578 ≤ N) (x : TAlpha) (y : TFact) (hx : totTAlpha x ≤ 1048576) (hy : totTFact y ≤ 1048576) : ∃ r, m_s_Passes N x y = some r ∧ m_i_Passes N x y = some r := core_Passes hN x y (LimTAlpha_of x hx) (LimTFact_of y hy)
theorem c_EffectOk {N : Nat} (hN : 1048578 ≤ N) (x : TEffect) (hx : totTEffect x ≤ 1048576) : ∃ r, m_s_EffectOk N x = some r ∧ m_i_EffectOk N x = some r := by
  unfold totTEffect at hx
  have := totTFact_nn x.F
  exact core_EffectOk hN x (szFact_of _ (by omega)) (by omega)
theorem c_Compute {N : Nat} (hN : 1048578 ≤ N) (e : TExpr) (p : List TBind) (he : totTExpr e ≤ 1048576) (hp : (p.length : Int) + (p.map totTBind).sum ≤ 1048576) : ∃ r, m_s_Compute N e p = some r ∧ m_i_Compute N e p = some r := by
  unfold totTExpr at he
  have := totTArg_nn e.L
  have := totTArg_nn e.R
  have nn : ∀ y ∈ p, 0 ≤ totTBind y := fun y _ => totTBind_nn y
  have := sum_nonneg _ _ nn
  have arg : ∀ a : TArg, totTArg a ≤ 1048576 → a.V.S.size ≤ 1048576 := by
    intro a h; unfold totTArg at h; rw [val_sz] at h; omega
  refine core_Compute hN e p (by omega) (fun b hb => ?_) (arg _ (by omega)) (arg _ (by omega))
  have h1 := sum_mem _ _ nn b hb
  have h2 : totTBind b = (b.Name.size : Int) + (b.V.S.size : Int) := by unfold totTBind; rw [val_sz]
  rw [h2] at h1; omega
end Go.Proofs.Ytpajhchhkfnieaa
