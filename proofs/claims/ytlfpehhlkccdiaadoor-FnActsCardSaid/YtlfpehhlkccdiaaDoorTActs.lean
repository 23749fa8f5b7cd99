/- Plain laws, one after the other: PLActs. -/
import Derived.Test.YtlfpehhlkccdiaaDoorPLib
import Derived.Test.YtlfpehhlkccdiaaDoorWActsPur
import Derived.Test.YtlfpehhlkccdiaaDoorWActsMod
/-
  Plain laws of common loops, for the cores. No program.
-/
namespace Go.Proofs.YtlfpehhlkccdiaaDoor
open Eng
set_option linter.unusedVariables false
set_option linter.unusedSimpArgs false
theorem app_ok {α : Type} {xs ys : List α} (h : xs.length + ys.length ≤ 4294967296) : app xs ys = some (xs ++ ys) := by unfold app; rw [if_pos h]
theorem allfrom {α : Type} (f : Nat → Int → Option Bool) (xs : List α) (hl : xs.length ≤ 4294967296) (p : α → Bool) (z : Bool) (i0 : Nat)
    (hs : ∀ n (i : Nat) (x : α), i0 ≤ i → idx xs (i : Int) = some x → x ∈ xs → decide ((i : Int) < (xs.length : Int)) = true → IntKind.i64.wrap ((i : Int) + 1) = ((i + 1 : Nat) : Int) → f (n + 1) i = if p x then f n ((i + 1 : Nat) : Int) else some false)
    (he : ∀ n (i : Nat), decide ((i : Int) < (xs.length : Int)) = false → f (n + 1) i = some z) :
    ∀ (n i : Nat), i0 ≤ i → i ≤ xs.length → xs.length - i < n → f n i = some ((xs.drop i).all p && z) := by
  intro n
  induction n with
  | zero => intro i _ _ h; omega
  | succ n ih =>
    intro i h0 hi hn
    by_cases hlt : i < xs.length
    · rw [List.drop_eq_getElem_cons hlt, List.all_cons, hs n i xs[i] h0 (idx_nat_lt hlt) (List.getElem_mem hlt) (decide_eq_true (by omega)) (wr1 i (by omega)), ih (i + 1) (by omega) (by omega) (by omega)]
      cases p xs[i] <;> simp
    · rw [he n i (decide_eq_false (by omega)), List.drop_of_length_le (by omega), List.all_nil, Bool.true_and]
theorem andS (a b : Bool) : (if a = true then some b else some false) = some (a && b) := by cases a <;> rfl
theorem orS (a b : Bool) : (if a = true then some true else some b) = some (a || b) := by cases a <;> rfl
end Go.Proofs.YtlfpehhlkccdiaaDoor
/-
  Plain laws of loops over lists, one law for all. No program.
-/
namespace Go.Proofs.YtlfpehhlkccdiaaDoor
open Eng
set_option linter.unusedVariables false
set_option linter.unusedSimpArgs false
theorem lp {σ α β : Type} (xs : List α) (hl : xs.length ≤ 4294967296) (f : Nat → σ → Int → Option β) (G : List α → σ → Option β) (I : σ → List α → Prop)
    (hs : ∀ n s (i : Nat) (x : α) (t : List α), xs.drop i = x :: t → x ∈ xs → i < xs.length → idx xs (i : Int) = some x → decide ((i : Int) < (xs.length : Int)) = true → IntKind.i64.wrap ((i : Int) + 1) = ((i + 1 : Nat) : Int) → I s (x :: t) →
      (∀ s', I s' t → f n s' ((i + 1 : Nat) : Int) = G t s') → f (n + 1) s i = G (x :: t) s)
    (he : ∀ n s (i : Nat), i = xs.length → decide ((i : Int) < (xs.length : Int)) = false → I s [] → f (n + 1) s i = G [] s) :
    ∀ (n i : Nat) (s : σ), i ≤ xs.length → xs.length - i < n → I s (xs.drop i) → f n s i = G (xs.drop i) s := by
  intro n
  induction n with
  | zero => intro i s _ h; omega
  | succ n ih =>
    intro i s hi hn hI
    by_cases hlt : i < xs.length
    · have hd := List.drop_eq_getElem_cons hlt
      rw [hd] at hI ⊢
      exact hs n s i _ _ hd (List.getElem_mem hlt) hlt (idx_nat_lt hlt) (decide_eq_true (by omega)) (wr1 i (by omega)) hI (fun s' hs' => ih (i + 1) s' (by omega) (by omega) hs')
    · have hd : xs.drop i = [] := List.drop_of_length_le (by omega)
      rw [hd] at hI ⊢
      exact he n s i (by omega) (decide_eq_false (by omega)) hI
theorem lp' {σ α β : Type} {N : Nat} (hN : 1099000000000 ≤ N) (xs : List α) (hl : xs.length ≤ 4294967296) (f : Nat → σ → Int → Option β) (G : List α → σ → Option β) (I : σ → List α → Prop) (s : σ) (h0 : I s xs)
    (hs : ∀ n s (i : Nat) (x : α) (t : List α), xs.drop i = x :: t → x ∈ xs → i < xs.length → idx xs (i : Int) = some x → decide ((i : Int) < (xs.length : Int)) = true → IntKind.i64.wrap ((i : Int) + 1) = ((i + 1 : Nat) : Int) → I s (x :: t) →
      (∀ s', I s' t → f n s' ((i + 1 : Nat) : Int) = G t s') → f (n + 1) s i = G (x :: t) s)
    (he : ∀ n s (i : Nat), i = xs.length → decide ((i : Int) < (xs.length : Int)) = false → I s [] → f (n + 1) s i = G [] s) : f N s 0 = G xs s := by
  have := lp xs hl f G I hs he N 0 s (by omega) (by omega) (by simpa using h0)
  simpa using this
end Go.Proofs.YtlfpehhlkccdiaaDoor
namespace Go.Proofs.YtlfpehhlkccdiaaDoor
open Eng
set_option linter.unusedVariables false
set_option linter.unusedSimpArgs false
theorem rangeloop (f : Nat → Int → Option Bool) (n0 : Nat) (hm : n0 ≤ 4611686018427387903) (e : Nat → Bool) (z : Bool)
    (h : ∀ k (i : Nat), i < n0 → f (k + 1) i = if e i then f k (IntKind.i64.wrap ((i : Int) + 1)) else some false) (hz : ∀ k (i : Nat), i = n0 → f (k + 1) i = some z) :
    ∀ (n i : Nat), i ≤ n0 → n0 - i < n → f n i = some (((List.range n0).drop i).all e && z) := by
  intro n
  induction n with
  | zero => intro i _ h; omega
  | succ n ih =>
    intro i hi hn
    by_cases hlt : i < n0
    · rw [h n i hlt, List.drop_eq_getElem_cons (by simpa using hlt), List.getElem_range, List.all_cons]
      cases he : e i with
      | false => simp
      | true => simp only [if_true, Bool.true_and]; rw [wr1 i (by omega), ih (i + 1) (by omega) (by omega)]
    · have : i = n0 := by omega
      rw [hz n i this, List.drop_of_length_le (by simp; omega)]
      simp
theorem in0 (N : Nat) (a b c : Int) : m_s_l1In N a b c = some (decide (b ≤ a) && decide (a ≤ c)) := by
  unfold m_s_l1In
  by_cases h : b ≤ a <;> simp [h]
theorem in1 (N : Nat) (a b c : Int) : m_i_inRange N a b c = some (decide (b ≤ a) && decide (a ≤ c)) := by
  unfold m_i_inRange
  by_cases h : b ≤ a <;> simp [h]
theorem wrU (y : UInt8) : IntKind.i64.wrap (y.toNat : Int) = (y.toNat : Int) := wr (by omega) (by have := y.toNat_lt; omega)
def letter (y : UInt8) : Bool := (decide (97 ≤ (y.toNat : Int)) && decide ((y.toNat : Int) ≤ 122)) || (decide (48 ≤ (y.toNat : Int)) && decide ((y.toNat : Int) ≤ 57)) || decide ((y.toNat : Int) = 95)
theorem letter_s (N : Nat) (y : UInt8) : m_s_l1Letter N (y.toNat : Int) = some (letter y) := by
  unfold m_s_l1Letter letter
  simp only [wrU, in0, Option.bind_some]
  by_cases h1 : (decide (97 ≤ (y.toNat : Int)) && decide ((y.toNat : Int) ≤ 122)) = true
  · simp [h1]
  · rw [if_neg h1]
    simp only [Option.bind_some]
    rw [Bool.eq_false_iff.2 h1, Bool.false_or]
    by_cases h2 : (decide (48 ≤ (y.toNat : Int)) && decide ((y.toNat : Int) ≤ 57)) = true
    · simp [h2]
    · rw [if_neg h2, Bool.eq_false_iff.2 h2, Bool.false_or]; rfl
theorem letter_i (N : Nat) (y : UInt8) : m_i_isWordByte N (y.toNat : Int) = some (letter y) := by
  unfold m_i_isWordByte m_i_isSmall m_i_isDigit letter
  generalize (y.toNat : Int) = n
  rw [andS, andS, Option.bind_some, Option.bind_some, Option.bind_some, Option.bind_some, orS, Option.bind_some, orS]
  rfl
def small (y : UInt8) : Bool := decide (97 ≤ (y.toNat : Int)) && decide ((y.toNat : Int) ≤ 122)
def wordAll (s : ByteArray) : Bool := ((List.range s.size).drop 0).all (fun i => match s.data.toList[i]? with | some y => letter y | none => false)
theorem size_data (s : ByteArray) : s.data.toList.length = s.size := rfl
theorem plain_s {N : Nat} (hN : 1048578 ≤ N) (s : ByteArray) (hs : s.size ≤ 1048576) : m_s_l2Plain N s = some (wordAll s && decide ((s.size : Int) ≤ 20)) := by
  unfold m_s_l2Plain
  refine rangeloop (fun n i => m_s_l2Plain_l1 N s n i) s.size (by omega) _ _ (fun k i hi => ?_) (fun k i hi => ?_) N 0 (by omega) (by omega)
  · have hi' : i < s.data.toList.length := by rw [size_data]; exact hi
    simp only [m_s_l2Plain_l1, idx_nat_lt hi', Option.bind_some, letter_s, List.getElem?_eq_getElem hi']
    rw [if_pos (by simp; omega)]
    cases letter s.data.toList[i] <;> simp
  · simp only [m_s_l2Plain_l1]
    rw [if_neg (by simp; omega)]
theorem word_i {N : Nat} (hN : 1048578 ≤ N) (s : ByteArray) (n : Int) (hs : s.size ≤ 1048576) : m_i_isWord N s n = some (wordAll s && decide ((s.size : Int) ≤ n)) := by
  unfold m_i_isWord
  have : m_i_isWord_l1 N s N 0 = some (wordAll s && true) := by
    refine rangeloop (fun n i => m_i_isWord_l1 N s n i) s.size (by omega) _ _ (fun k i hi => ?_) (fun k i hi => ?_) N 0 (by omega) (by omega)
    · have hi' : i < s.data.toList.length := by rw [size_data]; exact hi
      simp only [m_i_isWord_l1, idx_nat_lt hi', Option.bind_some, letter_i, List.getElem?_eq_getElem hi']
      rw [if_pos (by simp; omega)]
      cases letter s.data.toList[i] <;> simp
    · simp only [m_i_isWord_l1]
      rw [if_neg (by simp; omega)]
  rw [this]
  by_cases h : n < (s.size : Int)
  · rw [if_pos (by simpa using h), decide_eq_false (by omega), Bool.and_false]
  · rw [if_neg (by simpa using h), decide_eq_true (show (s.size : Int) ≤ n by omega)]
theorem name_i {N : Nat} (hN : 1048578 ≤ N) (s : ByteArray) (hs : s.size ≤ 1048576) : m_i_NameOk N s = some ((match s.data.toList[0]? with | some y => small y | none => false) && (wordAll s && decide ((s.size : Int) ≤ 12))) := by
  unfold m_i_NameOk
  rw [word_i hN s 12 hs]
  by_cases h : 0 < s.size
  · have hi' : 0 < s.data.toList.length := by rw [size_data]; exact h
    have hidx : idx s.data.toList 0 = some s.data.toList[0] := by simpa using idx_nat_lt (i := 0) hi'
    rw [if_pos (by simpa using h), hidx, List.getElem?_eq_getElem hi']
    have : m_i_isSmall N (s.data.toList[0].toNat : Int) = some (small s.data.toList[0]) := by
      unfold m_i_isSmall small
      generalize (s.data.toList[0].toNat : Int) = n
      by_cases h1 : 97 ≤ n <;> simp [h1]
    simp only [Option.bind_some, this]
    cases small s.data.toList[0] <;> simp
  · rw [if_neg (by simpa using h), List.getElem?_eq_none (by rw [size_data]; omega)]
    rfl
theorem name_s {N : Nat} (hN : 1048578 ≤ N) (s : ByteArray) (hs : s.size ≤ 1048576) : m_s_NameOk N s = some ((match s.data.toList[0]? with | some y => small y | none => false) && (wordAll s && decide ((s.size : Int) ≤ 12))) := by
  unfold m_s_NameOk
  have := rangeloop (fun n i => m_s_NameOk_l1 N s n i) s.size (by omega) (fun i => match s.data.toList[i]? with | some y => letter y && (decide (¬ i = 0) || small y) | none => false) (decide (1 ≤ (s.size : Int)) && decide ((s.size : Int) ≤ 12)) (fun k i hi => by
    have hi' : i < s.data.toList.length := by rw [size_data]; exact hi
    simp only [m_s_NameOk_l1, idx_nat_lt hi', Option.bind_some, letter_s, List.getElem?_eq_getElem hi', wrU, in0]
    rw [if_pos (by simp; omega)]
    have h0 : decide ((i : Int) = 0) = decide (i = 0) := by rw [decide_eq_decide]; omega
    rw [h0]
    unfold small
    simp only [andS, orS, Option.bind_some]
    generalize letter s.data.toList[i] = a
    generalize (decide (97 ≤ (s.data.toList[i].toNat : Int)) && decide ((s.data.toList[i].toNat : Int) ≤ 122)) = b
    cases a <;> cases b <;> by_cases hz : i = 0 <;> simp [hz]) (fun k i hi => by
    simp only [m_s_NameOk_l1, in0, Option.bind_some]
    rw [if_neg (by simp; omega)]) N 0 (by omega) (by omega)
  rw [show m_s_NameOk_l1 N s N 0 = _ from this]
  congr 1
  unfold wordAll
  simp only [List.drop_zero]
  cases hsz : s.size with
  | zero =>
    rw [List.getElem?_eq_none (by rw [size_data]; omega)]
    simp
  | succ n =>
    have hi' : 0 < s.data.toList.length := by rw [size_data]; omega
    rw [List.getElem?_eq_getElem hi', List.range_succ_eq_map]
    simp only [List.all_cons, List.getElem?_eq_getElem hi', List.all_map, Function.comp_def, Nat.succ_eq_add_one]
    have : ∀ i, (match s.data.toList[i + 1]? with | some y => letter y && (decide (¬ i + 1 = 0) || small y) | none => false) = (match s.data.toList[i + 1]? with | some y => letter y | none => false) := by
      intro i; cases s.data.toList[i + 1]? <;> simp
    simp only [this]
    have h1 : decide (1 ≤ ((n + 1 : Nat) : Int)) = true := by simp; omega
    simp only [h1, Bool.true_and, not_true, decide_false, Bool.false_or]
    cases letter s.data.toList[0] <;> cases small s.data.toList[0] <;> simp
theorem val_s {N : Nat} (hN : 1048578 ≤ N) (v : TVal) (hs : v.S.size ≤ 1048576) : m_s_ValOk N v = m_i_ValOk N v := by
  unfold m_s_ValOk m_i_ValOk
  rw [plain_s hN _ hs, word_i hN _ _ hs, in0, in1]
  by_cases h1 : v.K = 1
  · simp [h1]
  · by_cases h2 : v.K = 2
    · simp only [h2, andS, orS, Option.bind_some]
      cases decide (v.N = 0) <;> cases wordAll v.S <;> cases decide ((v.S.size : Int) ≤ 20) <;> rfl
    · simp [h1, h2]
def okVal (v : TVal) : Bool := if v.K = 1 then (decide (-1000000000 ≤ v.N) && decide (v.N ≤ 1000000000)) && seq v.S ⟨#[]⟩ else if v.K = 2 then decide (v.N = 0) && (wordAll v.S && decide ((v.S.size : Int) ≤ 20)) else false
theorem val_i {N : Nat} (hN : 1048578 ≤ N) (v : TVal) (hs : v.S.size ≤ 1048576) : m_i_ValOk N v = some (okVal v) := by
  unfold m_i_ValOk okVal
  rw [word_i hN _ _ hs, in1]
  by_cases h1 : v.K = 1
  · simp only [h1, decide_true, if_true, Option.bind_some]
    cases (decide (-1000000000 ≤ v.N) && decide (v.N ≤ 1000000000)) <;> simp
  · by_cases h2 : v.K = 2
    · by_cases h3 : v.N = 0 <;> simp [h2, h3]
    · simp [h1, h2]
end Go.Proofs.YtlfpehhlkccdiaaDoor
namespace Go.Proofs.YtlfpehhlkccdiaaDoor
open Eng
set_option linter.unusedVariables false
set_option linter.unusedSimpArgs false
def large (y : UInt8) : Bool := decide (65 ≤ (y.toNat : Int)) && decide ((y.toNat : Int) ≤ 90)
theorem large_i (N : Nat) (y : UInt8) : m_i_isLarge N (y.toNat : Int) = some (large y) := by
  unfold m_i_isLarge large; cases decide (65 ≤ (y.toNat : Int)) <;> rfl
theorem large_s (N : Nat) (y : UInt8) : m_s_l5Large N (y.toNat : Int) = some (large y) := by
  unfold m_s_l5Large large; rw [wrU, in0]; rfl
def varOk (s : ByteArray) : Bool := match s.data.toList with
  | [] => false
  | b :: t => large b && (t.all (fun y => letter y || large y) && decide ((s.size : Int) ≤ 12))
theorem var_i {N : Nat} (hN : 1099000000000 ≤ N) (s : ByteArray) (hs : s.size ≤ 1048576) : m_i_isVar N s = some (varOk s) := by
  have hsz : s.size = s.data.toList.length := rfl
  have lp := allfrom (m_i_isVar_l1 N s) s.data.toList (by omega) (fun y => letter y || large y) true 0 (fun n i y _ hx _ hc hw => by
    rw [← hsz] at hc
    simp only [m_i_isVar_l1, hc, if_true, hx, Option.bind_some, letter_i, large_i, hw]
    cases letter y <;> cases large y <;> rfl) (fun n i hc => by rw [← hsz] at hc; simp only [m_i_isVar_l1, hc, Bool.false_eq_true, if_false])
  unfold m_i_isVar varOk
  cases hd : s.data.toList with
  | nil =>
    have : s.size = 0 := by rw [hsz, hd]; rfl
    rw [this]; rfl
  | cons b t =>
    have h1 : s.size = t.length + 1 := by rw [hsz, hd]; rfl
    have c1 : decide ((s.size : Int) < 1) = false := decide_eq_false (by omega)
    have := lp N 0 (by omega) (by omega) (by omega)
    rw [hd] at this
    have hi : idx (b :: t) 0 = some b := rfl
    simp only [c1, Bool.false_eq_true, if_false, Option.bind_some, hi, large_i]
    by_cases c2 : (s.size : Int) ≤ 12
    · have c3 : decide (12 < (s.size : Int)) = false := decide_eq_false (by omega)
      simp only [c2, c3, decide_true, Bool.and_true, Bool.false_eq_true, if_false, Option.bind_some]
      cases hb : large b with
      | false => rfl
      | true =>
        simp only [Bool.not_true, Bool.false_eq_true, if_false, Bool.true_and]
        refine this.trans ?_
        simp [hb]
    · have c3 : decide (12 < (s.size : Int)) = true := decide_eq_true (by omega)
      simp only [c2, c3, decide_false, Bool.and_false, if_true, Option.bind_some]
theorem var_s {N : Nat} (hN : 1099000000000 ≤ N) (s : ByteArray) (hs : s.size ≤ 1048576) : m_s_l5VarOk N s = some (varOk s) := by
  have hsz : s.size = s.data.toList.length := rfl
  have lp := allfrom (m_s_l5VarOk_l1 N s) s.data.toList (by omega) (fun y => letter y || large y) (decide (1 ≤ (s.size : Int)) && decide ((s.size : Int) ≤ 12)) 1 (fun n i y h1 hx _ hc hw => by
    rw [← hsz] at hc
    have h0 : decide ((i : Int) = 0) = false := decide_eq_false (by omega)
    simp only [m_s_l5VarOk_l1, hc, if_true, hx, Option.bind_some, letter_s, large_s, hw, h0, Bool.false_eq_true, if_false]
    cases letter y <;> cases large y <;> rfl) (fun n i hc => by rw [← hsz] at hc; simp only [m_s_l5VarOk_l1, hc, Bool.false_eq_true, if_false, in0, Option.bind_some])
  unfold m_s_l5VarOk varOk
  obtain ⟨n, rfl⟩ : ∃ n, N = n + 1 := ⟨N - 1, by omega⟩
  cases hd : s.data.toList with
  | nil =>
    have : s.size = 0 := by rw [hsz, hd]; rfl
    simp only [m_s_l5VarOk_l1, this, in0]; rfl
  | cons b t =>
    have h1 : s.size = t.length + 1 := by rw [hsz, hd]; rfl
    have c1 : decide ((0 : Int) < (s.size : Int)) = true := decide_eq_true (by omega)
    have := lp n 1 (by omega) (by omega) (by omega)
    rw [hd] at this
    have hi : idx (b :: t) 0 = some b := rfl
    simp only [m_s_l5VarOk_l1, c1, if_true, hd, hi, Option.bind_some, large_s, decide_true]
    cases hb : large b with
    | false => rfl
    | true =>
      simp only [Bool.not_true, Bool.false_eq_true, if_false, Option.bind_some, Bool.true_and]
      rw [show IntKind.i64.wrap ((0 : Int) + 1) = ((1 : Nat) : Int) from wr1 0 (by omega)]
      refine this.trans ?_
      simp [show (1 : Int) ≤ (s.size : Int) by omega]
def SzArg (a : TArg) : Prop := a.S.size ≤ 1048576 ∧ a.V.S.size ≤ 1048576
def okArg (a : TArg) : Bool := if a.K = 1 then varOk a.S && eqT_TVal a.V ⟨0, 0, ⟨#[]⟩⟩ else if a.K = 2 then okVal a.V && seq a.S ⟨#[]⟩ else if a.K = 3 then seq a.S ⟨#[]⟩ && eqT_TVal a.V ⟨0, 0, ⟨#[]⟩⟩ else false
theorem arg_s {N : Nat} (hN : 1099000000000 ≤ N) (a : TArg) (h : SzArg a) : m_s_ArgOk N a = some (okArg a) := by
  unfold m_s_ArgOk okArg
  rw [var_s hN _ h.1, val_s (by omega) _ h.2, val_i (by omega) _ h.2]
  simp only [Option.bind_some, andS, decide_eq_true_eq]
  split <;> (try split) <;> (try split) <;> rfl
theorem arg_i {N : Nat} (hN : 1099000000000 ≤ N) (a : TArg) (h : SzArg a) : m_i_ArgOk N a = some (okArg a) := by
  unfold m_i_ArgOk okArg
  rw [var_i hN _ h.1, val_i (by omega) _ h.2]
  simp only [Option.bind_some, andS, decide_eq_true_eq, Bool.and_comm]
  split <;> (try split) <;> (try split) <;> simp [Bool.and_comm]
def given (a : TArg) : Bool := okArg a && !decide (a.K = 3)
theorem given_s {N : Nat} (hN : 1099000000000 ≤ N) (a : TArg) (h : SzArg a) : m_s_l8Given N a = some (given a) := by
  unfold m_s_l8Given given; simp only [arg_s hN a h, Option.bind_some, andS]
theorem given_i {N : Nat} (hN : 1099000000000 ≤ N) (a : TArg) (h : SzArg a) : m_i_isTerm N a = some (given a) := by
  unfold m_i_isTerm given; simp only [arg_i hN a h, Option.bind_some, andS, Bool.and_comm]
def SzExpr (e : TExpr) : Prop := e.Op.size ≤ 1048576 ∧ SzArg e.L ∧ SzArg e.R
def okExpr (e : TExpr) : Bool := if seq e.Op ⟨#[]⟩ then given e.L && eqT_TArg e.R ⟨0, ⟨#[]⟩, ⟨0, 0, ⟨#[]⟩⟩⟩ else (seq e.Op ⟨#[43]⟩ || seq e.Op ⟨#[45]⟩) && (given e.L && given e.R)
theorem expr_s {N : Nat} (hN : 1099000000000 ≤ N) (e : TExpr) (h : SzExpr e) : m_s_ExprOk N e = some (okExpr e) := by
  unfold m_s_ExprOk m_s_ExprOk_j1 okExpr
  simp only [given_s hN _ h.2.1, given_s hN _ h.2.2, Option.bind_some, andS]
  cases seq e.Op ⟨#[]⟩ <;> cases seq e.Op ⟨#[43]⟩ <;> cases seq e.Op ⟨#[45]⟩ <;> rfl
theorem expr_i {N : Nat} (hN : 1099000000000 ≤ N) (e : TExpr) (h : SzExpr e) : m_i_ExprOk N e = some (okExpr e) := by
  unfold m_i_ExprOk m_i_ExprOk_j1 okExpr
  simp only [given_i hN _ h.2.1, given_i hN _ h.2.2, Option.bind_some, andS]
  cases seq e.Op ⟨#[]⟩ <;> cases seq e.Op ⟨#[43]⟩ <;> cases seq e.Op ⟨#[45]⟩ <;> rfl
def okName (s : ByteArray) : Bool := (match s.data.toList[0]? with | some y => small y | none => false) && (wordAll s && decide ((s.size : Int) ≤ 12))
theorem okName_s {N : Nat} (hN : 1099000000000 ≤ N) (s : ByteArray) (hs : s.size ≤ 1048576) : m_s_NameOk N s = some (okName s) := name_s (by omega) s hs
theorem okName_i {N : Nat} (hN : 1099000000000 ≤ N) (s : ByteArray) (hs : s.size ≤ 1048576) : m_i_NameOk N s = some (okName s) := name_i (by omega) s hs
def SzAct (a : TAct) : Prop := a.Name.size ≤ 1048576 ∧ a.Undo.size ≤ 1048576 ∧ a.Args.length ≤ 1048576 ∧ ∀ e ∈ a.Args, SzExpr e
theorem args_s {N : Nat} (hN : 1099000000000 ≤ N) (xs : List TExpr) (hl : xs.length ≤ 1048576) (h : ∀ e ∈ xs, SzExpr e) : m_s_l8Args N xs = some (xs.all okExpr && decide ((xs.length : Int) ≤ 5)) := by
  unfold m_s_l8Args
  have := allfrom (m_s_l8Args_l1 N xs) xs (by omega) okExpr (decide ((xs.length : Int) ≤ 5)) 0 (fun n i y _ hx hm hc hw => by
    simp only [m_s_l8Args_l1, hc, if_true, hx, Option.bind_some, expr_s hN y (h y hm), hw]; cases okExpr y <;> rfl) (fun n i hc => by simp only [m_s_l8Args_l1, hc, Bool.false_eq_true, if_false]) N 0 (by omega) (by omega) (by omega)
  simpa using this
theorem args_i {N : Nat} (hN : 1099000000000 ≤ N) (a : TAct) (h : SzAct a) : m_i_argsOk N a = some (okName a.Name && (a.Args.all okExpr && decide ((a.Args.length : Int) ≤ 5))) := by
  obtain ⟨h1, h2, h3, h4⟩ := h
  unfold m_i_argsOk
  have := allfrom (m_i_argsOk_l1 N a) a.Args (by omega) okExpr true 0 (fun n i y _ hx hm hc hw => by
    simp only [m_i_argsOk_l1, hc, if_true, hx, Option.bind_some, expr_i hN y (h4 y hm), hw]; cases okExpr y <;> rfl) (fun n i hc => by simp only [m_i_argsOk_l1, hc, Bool.false_eq_true, if_false]) N 0 (by omega) (by omega) (by omega)
  have this' : m_i_argsOk_l1 N a N 0 = some (a.Args.all okExpr) := by simpa using this
  simp only [okName_i hN _ h1, Option.bind_some, this']
  cases okName a.Name with
  | false => rfl
  | true =>
    by_cases c : (a.Args.length : Int) ≤ 5
    · have c' : decide (5 < (a.Args.length : Int)) = false := decide_eq_false (by omega)
      simp only [c, c', decide_true, Bool.and_true, Bool.true_and, Bool.not_true, Bool.false_eq_true, if_false, Option.bind_some]
    · have c' : decide (5 < (a.Args.length : Int)) = true := decide_eq_true (by omega)
      simp only [c, c', decide_false, Bool.and_false, Bool.not_true, Bool.false_eq_true, if_false, if_true, Option.bind_some]
def okAct (a : TAct) : Bool :=
  let na := okName a.Name && (a.Args.all okExpr && decide ((a.Args.length : Int) ≤ 5))
  let bare := seq a.Name ⟨#[]⟩ && decide ((a.Args.length : Int) = 0)
  if a.Kind = 1 then na && decide (a.N = 0) && seq a.Undo ⟨#[]⟩
  else if a.Kind = 2 then bare && (decide (0 ≤ a.N) && decide (a.N ≤ 7)) && seq a.Undo ⟨#[]⟩
  else if a.Kind = 3 then na && decide (a.N = 0) && (seq a.Undo ⟨#[]⟩ || okName a.Undo)
  else if a.Kind = 4 then na && (decide (0 ≤ a.N) && decide (a.N ≤ 100000)) && seq a.Undo ⟨#[]⟩
  else if a.Kind = 5 ∨ a.Kind = 6 then bare && decide (a.N = 0) && seq a.Undo ⟨#[]⟩
  else false
theorem act_s {N : Nat} (hN : 1099000000000 ≤ N) (a : TAct) (h : SzAct a) : m_s_ActOk N a = some (okAct a) := by
  obtain ⟨h1, h2, h3, h4⟩ := h
  unfold m_s_ActOk m_s_ActOk_j1 okAct
  simp only [args_s hN _ h3 h4, okName_s hN _ h1, okName_s hN _ h2, in0, Option.bind_some, andS, orS, decide_eq_true_eq]
  generalize okName a.Name = n; generalize a.Args.all okExpr = e; generalize okName a.Undo = u; generalize seq a.Name ⟨#[]⟩ = sn; generalize seq a.Undo ⟨#[]⟩ = su
  by_cases k1 : a.Kind = 1
  · simp [k1] <;> (cases n <;> cases e <;> simp)
  by_cases k3 : a.Kind = 3
  · simp [k3] <;> (cases n <;> cases e <;> simp)
  by_cases k4 : a.Kind = 4
  · simp [k4] <;> (cases n <;> cases e <;> simp)
  by_cases k2 : a.Kind = 2
  · simp [k2] <;> (cases sn <;> cases su <;> simp)
  by_cases k5 : a.Kind = 5
  · simp [k5] <;> (cases sn <;> cases su <;> simp)
  · by_cases k6 : a.Kind = 6
    · simp [k6] <;> (cases sn <;> cases su <;> simp)
    · simp [k1, k2, k3, k4, k5, k6]
theorem act_i {N : Nat} (hN : 1099000000000 ≤ N) (a : TAct) (h : SzAct a) : m_i_ActOk N a = some (okAct a) := by
  have hi := args_i hN a h
  obtain ⟨h1, h2, h3, h4⟩ := h
  unfold m_i_ActOk m_i_ActOk_j1 m_i_isUndo okAct
  simp only [hi, okName_i hN _ h2, in1, Option.bind_some, andS, orS, decide_eq_true_eq]
  generalize okName a.Name = n; generalize a.Args.all okExpr = e; generalize okName a.Undo = u; generalize seq a.Name ⟨#[]⟩ = sn; generalize seq a.Undo ⟨#[]⟩ = su
  by_cases k1 : a.Kind = 1
  · simp [k1] <;> (cases n <;> cases e <;> simp)
  by_cases k3 : a.Kind = 3
  · simp [k3] <;> (cases n <;> cases e <;> simp)
  by_cases k4 : a.Kind = 4
  · simp [k4] <;> (cases n <;> cases e <;> simp)
  by_cases k2 : a.Kind = 2
  · simp [k2] <;> (cases sn <;> cases su <;> simp)
  by_cases k5 : a.Kind = 5
  · simp [k5] <;> (cases sn <;> cases su <;> simp)
  · by_cases k6 : a.Kind = 6
    · simp [k6] <;> (cases sn <;> cases su <;> simp)
    · simp [k1, k2, k3, k4, k5, k6]
end Go.Proofs.YtlfpehhlkccdiaaDoor
namespace Go.Proofs.YtlfpehhlkccdiaaDoor
open Eng
set_option linter.unusedVariables false
set_option linter.unusedSimpArgs false
theorem cat_ok {x y : ByteArray} (h : x.size + y.size ≤ 9223372036854775807) : cat x y = some (x ++ y) := by unfold cat; rw [if_pos h]
def num (n : Int) : ByteArray := ⟨(Go.Lib.itoa n).toArray⟩
theorem itoa_i {N : Nat} {n : Int} (h0 : -9223372036854775808 ≤ n) (h1 : n ≤ 9223372036854775807) : m_strconv_Itoa N n = some (num n) := by unfold m_strconv_Itoa; rw [if_pos ⟨h0, h1⟩]; rfl
theorem wr8 {n : Int} (h : 0 ≤ n) (h' : n < 256) : IntKind.u8.wrap n = n := by
  simp only [IntKind.wrap, IntKind.bits, IntKind.signed]
  have e1 : (2 : Int) ^ 8 = 256 := by decide
  simp only [e1, Bool.false_and, Bool.false_eq_true, if_false]
  omega
theorem digits_len : ∀ (k u : Nat), u < 10 ^ (k + 1) → (Go.Lib.decDigits u).length ≤ k + 1
  | 0, u, h => by rw [Go.Lib.decDigits, dif_pos (by simpa using h)]; simp
  | k + 1, u, h => by
    rw [Go.Lib.decDigits]
    split
    · simp
    · have := digits_len k (u / 10) (by rw [Nat.pow_succ] at h; omega)
      simp; omega
theorem digit_b (u : Nat) (h : u < 10) : bstr ([(IntKind.u8.wrap (IntKind.i64.wrap (48 + (u : Int))))] : List Int) = ⟨#[UInt8.ofNat (48 + u)]⟩ := by
  rw [wr (by omega) (by omega), wr8 (by omega) (by omega)]
  unfold bstr
  have : ((48 : Int) + (u : Int)).toNat = 48 + u := by omega
  simp [this]
theorem num_nn : ∀ (N u : Nat), u < N → u < 1000000000000 → m_s_l2Num N (u : Int) = some ⟨(Go.Lib.decDigits u).toArray⟩ := by
  intro N
  induction N with
  | zero => intro u h; omega
  | succ N ih =>
    intro u hu hb
    have c1 : decide ((u : Int) < 0) = false := decide_eq_false (by omega)
    rw [Go.Lib.decDigits]
    simp only [m_s_l2Num, c1, Bool.false_eq_true, if_false]
    by_cases h : u < 10
    · have c2 : decide ((u : Int) < 10) = true := decide_eq_true (by omega)
      rw [dif_pos h]
      simp only [c2, if_true, digit_b u h]
    · have c2 : decide ((u : Int) < 10) = false := decide_eq_false (by omega)
      have e1 : IntKind.i64.wrap ((u : Int).tdiv 10) = ((u / 10 : Nat) : Int) := by
        rw [show (10 : Int) = ((10 : Nat) : Int) from rfl, ← Int.ofNat_tdiv]; exact wr (by omega) (by omega)
      have e2 : (u : Int).tmod 10 = ((u % 10 : Nat) : Int) := by
        rw [show (10 : Int) = ((10 : Nat) : Int) from rfl, ← Int.ofNat_tmod]
      have hl := digits_len 12 (u / 10) (by omega)
      rw [dif_neg h]
      simp only [c2, Bool.false_eq_true, if_false, e1, e2, digit_b (u % 10) (by omega), ih (u / 10) (by omega) (by omega), Option.bind_some]
      rw [cat_ok (show _ + _ ≤ _ by show (Go.Lib.decDigits (u / 10)).toArray.size + 1 ≤ _; simp; omega), Option.bind_some]
      unfold m_s_l2Num_j1
      refine congrArg some (ByteArray.ext ?_)
      simp [ByteArray.data_append]
theorem num_s {N : Nat} (hN : 1099000000000 ≤ N) {n : Int} (h0 : -1000000000 ≤ n) (h1 : n ≤ 1000000000) : m_s_l2Num N n = some (num n) := by
  unfold num Go.Lib.itoa
  by_cases h : n < 0
  · obtain ⟨N, rfl⟩ : ∃ m, N = m + 1 := ⟨N - 1, by omega⟩
    have c1 : decide (n < 0) = true := decide_eq_true h
    have e1 : IntKind.i64.wrap (0 - n) = ((n.natAbs : Nat) : Int) := by rw [wr (by omega) (by omega)]; omega
    have hl := digits_len 12 n.natAbs (by omega)
    rw [if_pos h]
    simp only [m_s_l2Num, c1, if_true, e1, num_nn N n.natAbs (by omega) (by omega), Option.bind_some]
    rw [cat_ok (show _ + _ ≤ _ by show 1 + (Go.Lib.decDigits n.natAbs).toArray.size ≤ _; simp; omega), Option.bind_some]
    refine congrArg some (ByteArray.ext ?_)
    simp [ByteArray.data_append]
  · rw [if_neg h]
    have := num_nn N n.toNat (by omega) (by omega)
    rw [show ((n.toNat : Nat) : Int) = n by omega] at this
    exact this
theorem num_len {n : Int} (h0 : -1000000000 ≤ n) (h1 : n ≤ 1000000000) : (num n).size ≤ 14 := by
  show (Go.Lib.itoa n).toArray.size ≤ 14
  unfold Go.Lib.itoa
  split
  · have := digits_len 12 n.natAbs (by omega); simp; omega
  · have := digits_len 12 n.toNat (by omega); simp; omega
def valText (v : TVal) : ByteArray := if v.K = 1 then num v.N else (⟨#[39]⟩ ++ v.S) ++ ⟨#[39]⟩
theorem valText_len {v : TVal} (h : okVal v = true) : (valText v).size ≤ 30 := by
  unfold okVal at h
  unfold valText
  split
  · rename_i k; rw [if_pos k] at h; simp only [Bool.and_eq_true, decide_eq_true_eq] at h
    have := num_len h.1.1 h.1.2; omega
  · rename_i k; rw [if_neg k] at h
    split at h
    · simp only [Bool.and_eq_true, decide_eq_true_eq] at h
      have h2 := h.2.2
      simp only [ByteArray.size_append]
      show 1 + v.S.size + 1 ≤ 30
      omega
    · cases h
theorem valN {v : TVal} (h : okVal v = true) (k : v.K = 1) : -1000000000 ≤ v.N ∧ v.N ≤ 1000000000 := by
  unfold okVal at h
  rw [if_pos k] at h; simp only [Bool.and_eq_true, decide_eq_true_eq] at h
  exact h.1
theorem quote_ok (s : ByteArray) (h : s.size ≤ 1048576) {β : Type} (f : ByteArray → Option β) : ((cat ⟨#[39]⟩ s).bind fun z1 => (cat z1 ⟨#[39]⟩).bind f) = f ((⟨#[39]⟩ ++ s) ++ ⟨#[39]⟩) := by
  rw [cat_ok (by show 1 + _ ≤ _; omega), Option.bind_some, cat_ok (by rw [ByteArray.size_append]; show 1 + _ + 1 ≤ _; omega), Option.bind_some]
theorem valT_i {N : Nat} (hN : 1099000000000 ≤ N) (v : TVal) (hs : v.S.size ≤ 1048576) (h : okVal v = true) : m_i_ValText N v = some (valText v) := by
  unfold m_i_ValText valText
  rw [val_i (by omega) v hs, h, Option.bind_some]
  by_cases k : v.K = 1
  · obtain ⟨h0, h1⟩ := valN h k
    simp only [k, decide_true, Bool.not_true, Bool.false_eq_true, if_false, if_true, itoa_i (N := N) (show -9223372036854775808 ≤ v.N by omega) (show v.N ≤ 9223372036854775807 by omega), Option.bind_some]
  · simp only [k, decide_false, Bool.not_true, Bool.false_eq_true, if_false]
    exact quote_ok v.S hs some
theorem valT_s {N : Nat} (hN : 1099000000000 ≤ N) (v : TVal) (hs : v.S.size ≤ 1048576) (h : okVal v = true) : m_s_l2Text N v = some (valText v) := by
  unfold m_s_l2Text valText
  by_cases k : v.K = 1
  · obtain ⟨h0, h1⟩ := valN h k
    simp only [k, decide_true, if_true, num_s hN h0 h1, Option.bind_some]
  · simp only [k, decide_false, Bool.false_eq_true, if_false]
    exact quote_ok v.S hs some
def argText (a : TArg) : ByteArray := if a.K = 1 then a.S else if a.K = 2 then valText a.V else ⟨#[95]⟩
theorem argVal {a : TArg} (h : okArg a = true) (k : a.K = 2) : okVal a.V = true := by
  unfold okArg at h
  rw [if_neg (by omega), if_pos k] at h
  simp only [Bool.and_eq_true] at h; exact h.1
theorem argT_i {N : Nat} (hN : 1099000000000 ≤ N) (a : TArg) (hs : SzArg a) (h : okArg a = true) : m_i_argText N a = some (argText a) := by
  unfold m_i_argText argText
  by_cases k1 : a.K = 1
  · simp only [k1, decide_true, if_true]
  · by_cases k2 : a.K = 2
    · have := valT_i hN a.V hs.2 (argVal h k2)
      simp only [k2, this, decide_true, if_true, Option.bind_some, show ¬ (2 : Int) = 1 by omega, decide_false, Bool.false_eq_true, if_false]
    · simp only [k1, k2, decide_false, Bool.false_eq_true, if_false]
theorem argT_s {N : Nat} (hN : 1099000000000 ≤ N) (a : TArg) (hs : SzArg a) (h : okArg a = true) : m_s_l6ArgText N a = some (argText a) := by
  unfold m_s_l6ArgText argText
  by_cases k1 : a.K = 1
  · simp only [k1, decide_true, if_true]
  · by_cases k2 : a.K = 2
    · have := valT_s hN a.V hs.2 (argVal h k2)
      simp only [k2, this, decide_true, if_true, Option.bind_some, show ¬ (2 : Int) = 1 by omega, decide_false, Bool.false_eq_true, if_false]
    · simp only [k1, k2, decide_false, Bool.false_eq_true, if_false]
theorem argText_len {a : TArg} (h : okArg a = true) : (argText a).size ≤ 30 := by
  unfold argText
  split
  · rename_i k
    unfold okArg at h
    rw [if_pos k] at h
    simp only [Bool.and_eq_true] at h
    have h1 := h.1
    unfold varOk at h1
    split at h1
    · cases h1
    · simp only [Bool.and_eq_true, decide_eq_true_eq] at h1; omega
  · split
    · rename_i k; exact valText_len (argVal h k)
    · show 1 ≤ 30; omega
def exprText (e : TExpr) : ByteArray := if okExpr e then (if seq e.Op ⟨#[]⟩ then argText e.L else (((argText e.L ++ ⟨#[32]⟩) ++ e.Op) ++ ⟨#[32]⟩) ++ argText e.R) else ⟨#[]⟩
theorem expr_args {e : TExpr} (h : okExpr e = true) : okArg e.L = true ∧ (seq e.Op ⟨#[]⟩ = false → okArg e.R = true ∧ e.Op.size ≤ 1) := by
  unfold okExpr at h
  cases c : seq e.Op ⟨#[]⟩ with
  | true =>
    rw [c] at h
    simp only [if_true, Bool.and_eq_true, given] at h
    exact ⟨h.1.1, fun h => by cases h⟩
  | false =>
    rw [c] at h
    simp only [Bool.false_eq_true, if_false, Bool.and_eq_true, Bool.or_eq_true, given] at h
    refine ⟨h.2.1.1, fun _ => ⟨h.2.2.1, ?_⟩⟩
    rcases h.1 with h1 | h1
    · rw [seq_eq, decide_eq_true_eq] at h1; rw [h1]; decide
    · rw [seq_eq, decide_eq_true_eq] at h1; rw [h1]; decide
theorem five_ok {a b c d e : ByteArray} (h : a.size + b.size + c.size + d.size + e.size ≤ 9223372036854775807) {β : Type} (f : ByteArray → Option β) :
    ((cat a b).bind fun z1 => (cat z1 c).bind fun z2 => (cat z2 d).bind fun z3 => (cat z3 e).bind f) = f ((((a ++ b) ++ c) ++ d) ++ e) := by
  rw [cat_ok (by omega), Option.bind_some, cat_ok (by rw [ByteArray.size_append]; omega), Option.bind_some, cat_ok (by rw [ByteArray.size_append, ByteArray.size_append]; omega), Option.bind_some, cat_ok (by rw [ByteArray.size_append, ByteArray.size_append, ByteArray.size_append]; omega), Option.bind_some]
theorem exprText_len (e : TExpr) : (exprText e).size ≤ 70 := by
  unfold exprText
  split
  · rename_i h
    obtain ⟨h1, h2⟩ := expr_args h
    have := argText_len h1
    split
    · omega
    · rename_i c
      obtain ⟨h3, h4⟩ := h2 (by simpa using c)
      have := argText_len h3
      simp only [ByteArray.size_append]
      show _ + 1 + _ + 1 + _ ≤ _
      omega
  · show 0 ≤ 70; omega
theorem exprT_i {N : Nat} (hN : 1099000000000 ≤ N) (e : TExpr) (hs : SzExpr e) : m_i_ExprText N e = some (exprText e) := by
  unfold m_i_ExprText exprText
  rw [expr_i hN e hs, Option.bind_some]
  cases h : okExpr e with
  | false => simp
  | true =>
    obtain ⟨h1, h2⟩ := expr_args h
    simp only [Bool.not_true, Bool.false_eq_true, if_false, if_true, argT_i hN e.L hs.2.1 h1, Option.bind_some]
    cases c : seq e.Op ⟨#[]⟩ with
    | true => simp
    | false =>
      obtain ⟨h3, h4⟩ := h2 c
      have l1 := argText_len h1
      have l2 := argText_len h3
      simp only [Bool.false_eq_true, if_false, argT_i hN e.R hs.2.2 h3, Option.bind_some]
      exact five_ok (show _ + 1 + _ + 1 + _ ≤ _ by omega) some
theorem exprT_s {N : Nat} (hN : 1099000000000 ≤ N) (e : TExpr) (hs : SzExpr e) : m_s_ExprText N e = some (exprText e) := by
  unfold m_s_ExprText exprText
  rw [expr_s hN e hs, Option.bind_some]
  cases h : okExpr e with
  | false => simp
  | true =>
    obtain ⟨h1, h2⟩ := expr_args h
    simp only [Bool.not_true, Bool.false_eq_true, if_false, if_true, argT_s hN e.L hs.2.1 h1, Option.bind_some]
    cases c : seq e.Op ⟨#[]⟩ with
    | true => simp
    | false =>
      obtain ⟨h3, h4⟩ := h2 c
      have l1 := argText_len h1
      have l2 := argText_len h3
      simp only [Bool.false_eq_true, if_false, argT_s hN e.R hs.2.2 h3, Option.bind_some]
      exact five_ok (show _ + 1 + _ + 1 + _ ≤ _ by omega) some
end Go.Proofs.YtlfpehhlkccdiaaDoor
namespace Go.Proofs.YtlfpehhlkccdiaaDoor
open Eng
set_option linter.unusedVariables false
set_option linter.unusedSimpArgs false
theorem cat_k {x y : ByteArray} (h : x.size + y.size ≤ 9223372036854775807) : cat x y = some (x ++ y) := by unfold cat; rw [if_pos h]
theorem ba_assoc (a b c : ByteArray) : (a ++ b) ++ c = a ++ (b ++ c) := ByteArray.append_assoc
theorem ba_nil (a : ByteArray) : a ++ ⟨#[]⟩ = a := by apply ByteArray.ext; simp [ByteArray.data_append]
def commas (l : List ByteArray) : ByteArray := ⟨(Go.Lib.join (l.map (·.data.toList)) [44, 32]).toArray⟩
def tails (l : List ByteArray) : ByteArray := ⟨(Go.Lib.joinTail [44, 32] (l.map (·.data.toList))).toArray⟩
theorem commas_nil : commas [] = ⟨#[]⟩ := rfl
theorem tails_nil : tails [] = ⟨#[]⟩ := rfl
theorem commas_cons (x : ByteArray) (t : List ByteArray) : commas (x :: t) = x ++ tails t := by
  unfold commas tails
  apply ByteArray.ext
  simp [ByteArray.data_append, Go.Lib.join_cons]
theorem tails_cons (x : ByteArray) (t : List ByteArray) : tails (x :: t) = (⟨#[44, 32]⟩ ++ x) ++ tails t := by
  unfold tails Go.Lib.joinTail
  apply ByteArray.ext
  simp [ByteArray.data_append]
theorem tails_len {C : Nat} : ∀ (l : List ByteArray), (∀ x ∈ l, x.size ≤ C) → (tails l).size ≤ l.length * (C + 2)
  | [], _ => by rw [tails_nil]; exact Nat.zero_le _
  | x :: t, h => by
    have h1 := tails_len t fun y hy => h y (by simp [hy])
    have h2 := h x (by simp)
    rw [tails_cons, List.length_cons, Nat.add_mul]
    simp only [ByteArray.size_append]
    show 2 + _ + _ ≤ _
    omega
theorem commas_len {C : Nat} : ∀ (l : List ByteArray), (∀ x ∈ l, x.size ≤ C) → (commas l).size ≤ l.length * (C + 2)
  | [], _ => by rw [commas_nil]; exact Nat.zero_le _
  | x :: t, h => by
    have h1 := tails_len t fun y hy => h y (by simp [hy])
    have h2 := h x (by simp)
    rw [commas_cons, List.length_cons, Nat.add_mul]
    simp only [ByteArray.size_append]
    omega
theorem join_i {N : Nat} {l : List ByteArray} {C : Nat} (hl : l.length ≤ 4096) (hC : ∀ x ∈ l, x.size ≤ C) (hc : C ≤ 1073741824) : m_strings_Join N l ⟨#[44, 32]⟩ = some (commas l) := by
  have h := commas_len l hC
  have h2 : l.length * (C + 2) ≤ 4096 * 1073741826 := Nat.mul_le_mul hl (by omega)
  have h3 : (commas l).size = (Go.Lib.join (l.map (·.data.toList)) [44, 32]).length := by show (Go.Lib.join _ _).toArray.size = _; simp
  unfold m_strings_Join
  rw [if_pos ⟨by omega, by show (Go.Lib.join (l.map (·.data.toList)) [44, 32]).length ≤ _; omega⟩]
  rfl
def restT (i : Nat) (l : List ByteArray) : ByteArray := if i = 0 then commas l else tails l
theorem commaLoop {α β : Type} (xs : List α) (T : α → ByteArray) (C : Nat) (hC : ∀ x ∈ xs, (T x).size ≤ C) (f : Nat → ByteArray → Int → Option β) (fin : ByteArray → Option β)
    (h1 : ∀ n (i : Nat) s x, xs[i]? = some x → i < xs.length → s.size ≤ 1099511627776 → f (n + 1) s (i : Int) = if i = 0 then f n (s ++ T x) ((i + 1 : Nat) : Int) else f n ((s ++ ⟨#[44, 32]⟩) ++ T x) ((i + 1 : Nat) : Int))
    (h2 : ∀ n s, s.size ≤ 1099511627776 → f (n + 1) s (xs.length : Int) = fin s) :
    ∀ (n i : Nat) (s : ByteArray), i ≤ xs.length → xs.length - i < n → s.size + (xs.length - i) * (C + 2) ≤ 1099511627776 → f n s (i : Int) = fin (s ++ restT i ((xs.drop i).map T)) := by
  intro n
  induction n with
  | zero => intro i s _ h; omega
  | succ n ih =>
    intro i s hi hn hs
    by_cases hlt : i < xs.length
    · have hm : (xs.length - i) * (C + 2) = (xs.length - (i + 1)) * (C + 2) + (C + 2) := by
        rw [show xs.length - i = (xs.length - (i + 1)) + 1 by omega, Nat.add_mul]; omega
      have hx := hC _ (List.getElem_mem hlt)
      rw [h1 n i s _ (List.getElem?_eq_getElem hlt) hlt (by omega), List.drop_eq_getElem_cons hlt, List.map_cons]
      unfold restT
      by_cases h0 : i = 0
      · rw [if_pos h0, if_pos h0, ih (i + 1) _ (by omega) (by omega) (by rw [ByteArray.size_append]; omega), commas_cons]
        unfold restT
        rw [if_neg (by omega), ba_assoc]
      · rw [if_neg h0, if_neg h0, ih (i + 1) _ (by omega) (by omega) (by rw [ByteArray.size_append, ByteArray.size_append]; show _ + 2 + _ + _ ≤ _; omega), tails_cons]
        unfold restT
        rw [if_neg (by omega)]
        simp only [ba_assoc]
    · have he : i = xs.length := by omega
      subst he
      rw [h2 n s (by omega), List.drop_length, List.map_nil]
      congr 1
      unfold restT
      split
      · rw [commas_nil, ba_nil]
      · rw [tails_nil, ba_nil]
end Go.Proofs.YtlfpehhlkccdiaaDoor
namespace Go.Proofs.YtlfpehhlkccdiaaDoor
open Eng
set_option linter.unusedVariables false
set_option linter.unusedSimpArgs false
def callText (a : TAct) : ByteArray := ((a.Name ++ ⟨#[40]⟩) ++ commas (a.Args.map exprText)) ++ ⟨#[41]⟩
theorem snoc_le {C : Nat} {s : List ByteArray} {x : ByteArray} (h : ∀ y ∈ s, y.size ≤ C) (h' : x.size ≤ C) : ∀ y ∈ s ++ [x], y.size ≤ C := fun y hy => by
  rcases List.mem_append.1 hy with h1 | h1
  · exact h y h1
  · simp at h1; rw [h1]; exact h'
theorem call_i {N : Nat} (hN : 1099000000000 ≤ N) (a : TAct) (h : SzAct a) (hl : a.Args.length ≤ 5) : m_i_callText N a = some (callText a) := by
  unfold m_i_callText
  have hn := h.1
  refine (lp' hN a.Args (by omega) (m_i_callText_l1 N a) (fun t s => some (((a.Name ++ ⟨#[40]⟩) ++ commas (s ++ t.map exprText)) ++ ⟨#[41]⟩)) (fun s t => s.length + t.length ≤ 5 ∧ ∀ x ∈ s, x.size ≤ 70) [] ⟨by simpa using hl, by simp⟩ (fun n s i x t g1 g2 g3 g4 g5 g6 gI ih => ?_) (fun n s i g1 g2 gI => ?_)).trans (by simp [callText])
  · obtain ⟨i1, i2⟩ := gI
    simp only [List.length_cons] at i1
    simp only [m_i_callText_l1, g5, if_true, g4, Option.bind_some, exprT_i hN x (h.2.2.2 x g2), app_ok (show s.length + [exprText x].length ≤ 4294967296 by simp; omega), g6]
    rw [ih _ ⟨by simp; omega, snoc_le i2 (exprText_len x)⟩]; simp
  · obtain ⟨i1, i2⟩ := gI
    simp only [List.length_nil, Nat.add_zero] at i1
    have hc := commas_len s i2
    have h5 : s.length * (70 + 2) ≤ 5 * 72 := Nat.mul_le_mul i1 (by omega)
    simp only [m_i_callText_l1, g2, Bool.false_eq_true, if_false]
    rw [cat_k (by show _ + 1 ≤ _; omega), Option.bind_some, join_i (N := N) (by omega) i2 (by omega), Option.bind_some, cat_k (by rw [ByteArray.size_append]; show _ + 1 + _ ≤ _; omega), Option.bind_some, cat_k (by rw [ByteArray.size_append, ByteArray.size_append]; show _ + 1 + _ + 1 ≤ _; omega)]
    simp
theorem call_s {N : Nat} (hN : 1099000000000 ≤ N) (a : TAct) (h : SzAct a) (hl : a.Args.length ≤ 5) : m_s_l8ArgsText N a = some (callText a) := by
  unfold m_s_l8ArgsText
  have hn := h.1
  have h5 : a.Args.length * (70 + 2) ≤ 5 * 72 := Nat.mul_le_mul hl (by omega)
  rw [cat_k (by show _ + 1 ≤ _; omega), Option.bind_some]
  have := commaLoop a.Args exprText 70 (fun x _ => exprText_len x) (m_s_l8ArgsText_l1 N a) (fun s => (cat s ⟨#[41]⟩).bind fun z => some z) (fun n i s x hx hlt hs => by
    have c0 : decide ((i : Int) < (a.Args.length : Int)) = true := decide_eq_true (by omega)
    have hx' : idx a.Args (i : Int) = some x := by rw [idx_nat_lt hlt]; rw [List.getElem?_eq_getElem hlt] at hx; exact hx
    have e := exprT_s hN x (h.2.2.2 x (List.mem_of_getElem? hx))
    have hl := exprText_len x
    simp only [m_s_l8ArgsText_l1, m_s_l8ArgsText_j2, c0, if_true, hx', Option.bind_some, e, wr1 i (by omega)]
    by_cases h0 : i = 0
    · have c1 : decide ((0 : Int) < (i : Int)) = false := decide_eq_false (by omega)
      simp only [c1, Bool.false_eq_true, if_false, if_pos h0]
      rw [cat_k (by omega), Option.bind_some]
    · have c1 : decide ((0 : Int) < (i : Int)) = true := decide_eq_true (by omega)
      simp only [c1, if_true, if_neg h0]
      rw [cat_k (by show _ + 2 ≤ _; omega), Option.bind_some, cat_k (by rw [ByteArray.size_append]; show _ + 2 + _ ≤ _; omega), Option.bind_some]) (fun n s hs => by
    have c0 : decide ((a.Args.length : Int) < (a.Args.length : Int)) = false := decide_eq_false (by omega)
    simp only [m_s_l8ArgsText_l1, c0, Bool.false_eq_true, if_false]) N 0 (a.Name ++ ⟨#[40]⟩) (by omega) (by omega) (by rw [ByteArray.size_append]; show _ + 1 + _ ≤ _; omega)
  refine this.trans ?_
  have hc := commas_len (C := 70) (a.Args.map exprText) (fun x hx => by obtain ⟨e, _, rfl⟩ := List.mem_map.1 hx; exact exprText_len e)
  rw [List.length_map] at hc
  unfold restT callText
  rw [if_pos rfl, List.drop_zero, cat_k (by rw [ByteArray.size_append, ByteArray.size_append]; show _ + 1 + _ + 1 ≤ _; omega)]
  rfl
theorem call_len {a : TAct} (hl : a.Args.length ≤ 5) (hn : a.Name.size ≤ 12) : (callText a).size ≤ 400 := by
  have hc := commas_len (C := 70) (a.Args.map exprText) (fun x hx => by obtain ⟨e, _, rfl⟩ := List.mem_map.1 hx; exact exprText_len e)
  have h5 : (a.Args.map exprText).length * (70 + 2) ≤ 5 * 72 := Nat.mul_le_mul (by simpa using hl) (by omega)
  unfold callText
  simp only [ByteArray.size_append]
  show _ + 1 + _ + 1 ≤ _
  omega
theorem okName_len {s : ByteArray} (h : okName s = true) : s.size ≤ 12 := by
  unfold okName at h
  simp only [Bool.and_eq_true, decide_eq_true_eq] at h
  omega
def actText (a : TAct) : ByteArray :=
  if okAct a = true then
    if a.Kind = 1 then ⟨#[97, 115, 115, 101, 114, 116, 32]⟩ ++ callText a
    else if a.Kind = 2 then ⟨#[100, 114, 111, 112, 32]⟩ ++ num a.N
    else if a.Kind = 3 then (if seq a.Undo ⟨#[]⟩ = true then ⟨#[116, 97, 115, 107, 32]⟩ ++ callText a else ((⟨#[116, 97, 115, 107, 32]⟩ ++ callText a) ++ ⟨#[32, 117, 110, 100, 111, 32]⟩) ++ a.Undo)
    else if a.Kind = 4 then ((⟨#[116, 105, 109, 101, 114, 32]⟩ ++ num a.N) ++ ⟨#[32]⟩) ++ callText a
    else if a.Kind = 5 then ⟨#[100, 111, 110, 101]⟩ else ⟨#[102, 97, 105, 108]⟩
  else ⟨#[]⟩
theorem act_has {a : TAct} (h : okAct a = true) : (a.Kind = 1 ∧ a.Args.length ≤ 5 ∧ a.Name.size ≤ 12) ∨ (a.Kind = 2 ∧ 0 ≤ a.N ∧ a.N ≤ 7) ∨ (a.Kind = 3 ∧ (a.Args.length ≤ 5 ∧ a.Name.size ≤ 12) ∧ a.Undo.size ≤ 12) ∨ (a.Kind = 4 ∧ (a.Args.length ≤ 5 ∧ a.Name.size ≤ 12) ∧ 0 ≤ a.N ∧ a.N ≤ 100000) ∨ a.Kind = 5 ∨ a.Kind = 6 := by
  unfold okAct at h
  by_cases k1 : a.Kind = 1
  · simp only [k1, if_true, Bool.and_eq_true, decide_eq_true_eq] at h
    exact .inl ⟨k1, by omega, okName_len h.1.1.1⟩
  · by_cases k2 : a.Kind = 2
    · simp only [k2, if_true, Bool.and_eq_true, decide_eq_true_eq, show ¬ (2 : Int) = 1 by omega, if_false] at h
      exact .inr (.inl ⟨k2, h.1.2.1, h.1.2.2⟩)
    · by_cases k3 : a.Kind = 3
      · simp only [k3, if_true, Bool.and_eq_true, Bool.or_eq_true, decide_eq_true_eq, show ¬ (3 : Int) = 1 by omega, show ¬ (3 : Int) = 2 by omega, if_false] at h
        refine .inr (.inr (.inl ⟨k3, ⟨by omega, okName_len h.1.1.1⟩, ?_⟩))
        rcases h.2 with h1 | h1
        · rw [seq_eq, decide_eq_true_eq] at h1; rw [h1]; decide
        · exact okName_len h1
      · by_cases k4 : a.Kind = 4
        · simp only [k4, if_true, Bool.and_eq_true, decide_eq_true_eq, show ¬ (4 : Int) = 1 by omega, show ¬ (4 : Int) = 2 by omega, show ¬ (4 : Int) = 3 by omega, if_false] at h
          exact .inr (.inr (.inr (.inl ⟨k4, ⟨by omega, okName_len h.1.1.1⟩, h.1.2.1, h.1.2.2⟩)))
        · by_cases k5 : a.Kind = 5
          · exact .inr (.inr (.inr (.inr (.inl k5))))
          · by_cases k6 : a.Kind = 6
            · exact .inr (.inr (.inr (.inr (.inr k6))))
            · simp [k1, k2, k3, k4, k5, k6] at h
theorem cat2 {a b : ByteArray} (h : a.size + b.size ≤ 1048576) {β : Type} (f : ByteArray → Option β) : ((cat a b).bind f) = f (a ++ b) := by
  rw [cat_k (by omega), Option.bind_some]
theorem cat4 {a b c d : ByteArray} (h : a.size + b.size + c.size + d.size ≤ 1048576) {β : Type} (f : ByteArray → Option β) : ((cat a b).bind fun z1 => (cat z1 c).bind fun z2 => (cat z2 d).bind f) = f (((a ++ b) ++ c) ++ d) := by
  rw [cat_k (by omega), Option.bind_some, cat_k (by rw [ByteArray.size_append]; omega), Option.bind_some, cat_k (by rw [ByteArray.size_append, ByteArray.size_append]; omega), Option.bind_some]
theorem actT_i {N : Nat} (hN : 1099000000000 ≤ N) (a : TAct) (hs : SzAct a) : m_i_ActText N a = some (actText a) := by
  unfold m_i_ActText actText
  rw [act_i hN a hs, Option.bind_some]
  cases h : okAct a with
  | false => simp
  | true =>
    simp only [Bool.not_true, Bool.false_eq_true, if_false, if_true]
    rcases act_has h with ⟨k, h1, h2⟩ | ⟨k, h1, h2⟩ | ⟨k, ⟨h1, h2⟩, h3⟩ | ⟨k, ⟨h1, h2⟩, h3, h4⟩ | k | k
    · have := call_len h1 h2
      simp only [k, decide_true, if_true, call_i hN a hs h1, Option.bind_some]
      exact cat2 (show 7 + _ ≤ _ by omega) some
    · have := num_len (n := a.N) (by omega) (by omega)
      simp only [k, decide_true, if_true, show ¬ (2 : Int) = 1 by omega, decide_false, Bool.false_eq_true, if_false, itoa_i (N := N) (n := a.N) (by omega) (by omega), Option.bind_some]
      exact cat2 (show 5 + _ ≤ _ by omega) some
    · have := call_len h1 h2
      simp only [k, decide_true, if_true, show ¬ (3 : Int) = 1 by omega, show ¬ (3 : Int) = 2 by omega, decide_false, Bool.false_eq_true, if_false, call_i hN a hs h1, Option.bind_some]
      cases c : seq a.Undo ⟨#[]⟩ with
      | true =>
        simp only [Bool.not_true, Bool.false_eq_true, if_false, if_true]
        exact cat2 (show 5 + _ ≤ _ by omega) some
      | false =>
        simp only [Bool.not_false, Bool.false_eq_true, if_false, if_true]
        exact cat4 (show 5 + _ + 6 + _ ≤ _ by omega) some
    · have := call_len h1 h2
      have := num_len (n := a.N) (by omega) (by omega)
      simp only [k, decide_true, if_true, show ¬ (4 : Int) = 1 by omega, show ¬ (4 : Int) = 2 by omega, show ¬ (4 : Int) = 3 by omega, decide_false, Bool.false_eq_true, if_false, itoa_i (N := N) (n := a.N) (by omega) (by omega), call_i hN a hs h1, Option.bind_some]
      exact cat4 (show 6 + _ + 1 + _ ≤ _ by omega) some
    · simp only [k, decide_true, if_true, show ¬ (5 : Int) = 1 by omega, show ¬ (5 : Int) = 2 by omega, show ¬ (5 : Int) = 3 by omega, show ¬ (5 : Int) = 4 by omega, decide_false, Bool.false_eq_true, if_false]
    · simp only [k, show ¬ (6 : Int) = 1 by omega, show ¬ (6 : Int) = 2 by omega, show ¬ (6 : Int) = 3 by omega, show ¬ (6 : Int) = 4 by omega, show ¬ (6 : Int) = 5 by omega, decide_false, Bool.false_eq_true, if_false]
theorem actT_s {N : Nat} (hN : 1099000000000 ≤ N) (a : TAct) (hs : SzAct a) : m_s_ActText N a = some (actText a) := by
  unfold m_s_ActText actText
  rw [act_s hN a hs, Option.bind_some]
  cases h : okAct a with
  | false => simp
  | true =>
    simp only [Bool.not_true, Bool.false_eq_true, if_false, if_true]
    rcases act_has h with ⟨k, h1, h2⟩ | ⟨k, h1, h2⟩ | ⟨k, ⟨h1, h2⟩, h3⟩ | ⟨k, ⟨h1, h2⟩, h3, h4⟩ | k | k
    · have := call_len h1 h2
      simp only [k, decide_true, if_true, call_s hN a hs h1, Option.bind_some]
      exact cat2 (show 7 + _ ≤ _ by omega) some
    · have := num_len (n := a.N) (by omega) (by omega)
      simp only [k, decide_true, if_true, show ¬ (2 : Int) = 1 by omega, decide_false, Bool.false_eq_true, if_false, num_s hN (n := a.N) (by omega) (by omega), Option.bind_some]
      exact cat2 (show 5 + _ ≤ _ by omega) some
    · have := call_len h1 h2
      simp only [k, decide_true, if_true, show ¬ (3 : Int) = 1 by omega, show ¬ (3 : Int) = 2 by omega, show ¬ (3 : Int) = 4 by omega, show ¬ (3 : Int) = 5 by omega, show ¬ (3 : Int) = 6 by omega, decide_false, Bool.false_eq_true, if_false, call_s hN a hs h1, Option.bind_some]
      cases c : seq a.Undo ⟨#[]⟩ with
      | true =>
        simp only [if_true]
        exact cat2 (show 5 + _ ≤ _ by omega) some
      | false =>
        simp only [Bool.false_eq_true, if_false]
        exact cat4 (show 5 + _ + 6 + _ ≤ _ by omega) some
    · have := call_len h1 h2
      have := num_len (n := a.N) (by omega) (by omega)
      simp only [k, decide_true, if_true, show ¬ (4 : Int) = 1 by omega, show ¬ (4 : Int) = 2 by omega, show ¬ (4 : Int) = 3 by omega, decide_false, Bool.false_eq_true, if_false, num_s hN (n := a.N) (by omega) (by omega), call_s hN a hs h1, Option.bind_some]
      exact cat4 (show 6 + _ + 1 + _ ≤ _ by omega) some
    · simp only [k, decide_true, if_true, show ¬ (5 : Int) = 1 by omega, show ¬ (5 : Int) = 2 by omega, show ¬ (5 : Int) = 3 by omega, show ¬ (5 : Int) = 4 by omega, decide_false, Bool.false_eq_true, if_false]
    · simp only [k, decide_true, if_true, show ¬ (6 : Int) = 1 by omega, show ¬ (6 : Int) = 2 by omega, show ¬ (6 : Int) = 3 by omega, show ¬ (6 : Int) = 4 by omega, show ¬ (6 : Int) = 5 by omega, decide_false, Bool.false_eq_true, if_false]
end Go.Proofs.YtlfpehhlkccdiaaDoor
namespace Go.Proofs.YtlfpehhlkccdiaaDoor
open Eng
set_option linter.unusedVariables false
set_option linter.unusedSimpArgs false
theorem ne_seq {s : ByteArray} (h : 0 < s.size) : seq s ⟨#[]⟩ = false := by
  rw [seq_eq, decide_eq_false_iff_not]
  rintro rfl
  exact absurd h (by decide)
theorem digits_pos (u : Nat) : 0 < (Go.Lib.decDigits u).length := by
  rw [Go.Lib.decDigits]
  split <;> simp
theorem num_pos (n : Int) : 0 < (num n).size := by
  show 0 < (Go.Lib.itoa n).toArray.size
  unfold Go.Lib.itoa
  split
  · simp
  · simpa using digits_pos n.toNat
theorem argText_pos {a : TArg} (h : okArg a = true) : 0 < (argText a).size := by
  unfold argText
  split
  · rename_i k
    unfold okArg at h
    rw [if_pos k] at h
    simp only [Bool.and_eq_true] at h
    have h1 := h.1
    unfold varOk at h1
    split at h1
    · cases h1
    · rename_i b t hd
      have : a.S.data.toList.length = a.S.size := rfl
      rw [hd] at this; simp at this; omega
  · split
    · unfold valText
      split
      · exact num_pos _
      · simp only [ByteArray.size_append]; show 0 < 1 + _ + 1; omega
    · show 0 < 1; omega
theorem exprText_ne (e : TExpr) : seq (exprText e) ⟨#[]⟩ = !okExpr e := by
  unfold exprText
  cases h : okExpr e with
  | false => rw [if_neg (by decide)]; exact seq_self _
  | true =>
    obtain ⟨h1, h2⟩ := expr_args h
    have := argText_pos h1
    simp only [if_true, Bool.not_true]
    split
    · exact ne_seq this
    · exact ne_seq (by simp only [ByteArray.size_append]; omega)
theorem actText_ne (a : TAct) : seq (actText a) ⟨#[]⟩ = !okAct a := by
  unfold actText
  cases h : okAct a with
  | false => rw [if_neg (by decide)]; exact seq_self _
  | true =>
    simp only [if_true, Bool.not_true]
    split
    · exact ne_seq (by simp only [ByteArray.size_append]; show 0 < 7 + _; omega)
    · split
      · exact ne_seq (by simp only [ByteArray.size_append]; show 0 < 5 + _; omega)
      · split
        · split
          · exact ne_seq (by simp only [ByteArray.size_append]; show 0 < 5 + _; omega)
          · exact ne_seq (by simp only [ByteArray.size_append]; show 0 < 5 + _ + _ + _; omega)
        · split
          · exact ne_seq (by simp only [ByteArray.size_append]; show 0 < 6 + _ + _ + _; omega)
          · split
            · exact ne_seq (by decide)
            · exact ne_seq (by decide)
end Go.Proofs.YtlfpehhlkccdiaaDoor
namespace Go.Proofs.YtlfpehhlkccdiaaDoor
open Eng
set_option linter.unusedVariables false
set_option linter.unusedSimpArgs false
theorem and_le (i : Int) (m : Nat) (h : m < 4611686018427387904) : 0 ≤ andI .i64 i (m : Int) ∧ andI .i64 i (m : Int) ≤ (m : Int) := by
  unfold andI
  have h1 : ((BitVec.ofInt IntKind.i64.bits i) &&& (BitVec.ofInt IntKind.i64.bits (m : Int))).toNat ≤ m := by
    rw [BitVec.toNat_and]
    have h2 : (BitVec.ofInt IntKind.i64.bits (m : Int)).toNat = m := by
      rw [BitVec.toNat_ofInt]
      have : ((2 ^ IntKind.i64.bits : Nat) : Int) = 18446744073709551616 := by decide
      rw [this, Int.emod_eq_of_lt (by omega) (by omega)]
      simp
    rw [h2]; exact Nat.and_le_right
  rw [wr (by omega) (by omega)]
  omega
theorem and255 (i : Int) : 0 ≤ andI .i64 i 255 ∧ andI .i64 i 255 ≤ 255 := and_le i 255 (by omega)
def GC (b : List Int) (c : Tl1Cur) : Prop := c.b = b ∧ 0 ≤ c.i ∧ c.i ≤ (b.length : Int)
theorem GC.re {b : List Int} {c d : Tl1Cur} (h : GC b c) (h' : d.b = b) : GC b (⟨d.b, c.i, c.h⟩ : Tl1Cur) := ⟨h', h.2⟩
theorem new_ok {N : Nat} (hN : 1099000000000 ≤ N) (b : List Int) (hb : b.length ≤ 1048576) : ∃ c, m_s_l1New N b = some c ∧ GC b c := by
  unfold m_s_l1New
  have : ∀ (n i : Nat) (h : Int), i ≤ b.length → b.length - i < n → ∃ c, m_s_l1New_l1 N b n h i = some c ∧ GC b c := by
    intro n
    induction n with
    | zero => intro i h _ h'; omega
    | succ n ih =>
      intro i h hi hn
      simp only [m_s_l1New_l1]
      by_cases hlt : i < b.length
      · have c1 : decide ((i : Int) < (b.length : Int)) = true := decide_eq_true (by omega)
        simp only [c1, if_true, Option.bind_some, idx_nat_lt hlt, wr1 i (by omega)]
        split
        · exact ih (i + 1) _ (by omega) (by omega)
        · exact ⟨_, rfl, rfl, by simp, by simp⟩
      · have c1 : decide ((i : Int) < (b.length : Int)) = false := decide_eq_false (by omega)
        simp only [c1, Bool.false_eq_true, if_false, Option.bind_some]
        exact ⟨_, rfl, rfl, by simp, by simp⟩
  exact this N 0 _ (by omega) (by omega)
theorem byte_ok {N : Nat} (b : List Int) (hb : b.length ≤ 1048576) (c : Tl1Cur) (hc : GC b c) : ∃ v d, m_s_l1Byte N c = some (v, d) ∧ GC b d ∧ 0 ≤ v ∧ v ≤ 255 := by
  obtain ⟨rfl, h0, h1⟩ := hc
  unfold m_s_l1Byte
  by_cases hlt : c.i < (c.b.length : Int)
  · obtain ⟨i, hi⟩ : ∃ i : Nat, c.i = (i : Int) := ⟨c.i.toNat, by omega⟩
    have c1 : decide (c.i < (c.b.length : Int)) = true := decide_eq_true hlt
    rw [hi] at h0 h1 hlt ⊢
    rw [hi] at c1
    simp only [c1, if_true, idx_nat_lt (show i < c.b.length by omega), Option.bind_some, wr1 i (by omega)]
    exact ⟨_, _, rfl, ⟨rfl, by simp; omega, by simp; omega⟩, and255 _⟩
  · have c1 : decide (c.i < (c.b.length : Int)) = false := decide_eq_false hlt
    simp only [c1, Bool.false_eq_true, if_false]
    exact ⟨_, _, rfl, ⟨rfl, h0, h1⟩, and255 _⟩
theorem rem_ok {v n : Int} (hv : 0 ≤ v) (hn : 0 < n) : ∃ r, remI v n = some r ∧ 0 ≤ r ∧ r < n := by
  unfold remI
  rw [if_neg (by omega), Int.tmod_eq_emod_of_nonneg hv]
  exact ⟨_, rfl, Int.emod_nonneg _ (by omega), Int.emod_lt_of_pos _ hn⟩
theorem below_ok {N : Nat} (b : List Int) (hb : b.length ≤ 1048576) (c : Tl1Cur) (hc : GC b c) (n : Int) : ∃ v d, m_s_l1Below N c n = some (v, d) ∧ GC b d ∧ 0 ≤ v ∧ (0 < n → v < n) ∧ (n ≤ 0 → v = 0) := by
  unfold m_s_l1Below
  by_cases h0 : n ≤ 0
  · simp only [h0, decide_true, if_true]
    exact ⟨_, _, rfl, hc, by omega, by omega, fun _ => rfl⟩
  · simp only [h0, decide_false, Bool.false_eq_true, if_false]
    by_cases h1 : n ≤ 256
    · simp only [h1, decide_true, if_true]
      obtain ⟨v, d, e, g, a1, a2⟩ := byte_ok (N := N) b hb c hc
      obtain ⟨r, er, r0, r1⟩ := rem_ok a1 (show 0 < n by omega)
      simp only [e, Option.bind_some, er]
      exact ⟨_, _, rfl, g.re hc.1 |> fun _ => ⟨hc.1, g.2⟩, r0, fun _ => r1, fun h => h.elim⟩
    · simp only [h1, decide_false, Bool.false_eq_true, if_false]
      obtain ⟨v1, d1, e1, g1, a1, a1'⟩ := byte_ok (N := N) b hb c hc
      simp only [e1, Option.bind_some]
      obtain ⟨v2, d2, e2, g2, a2, a2'⟩ := byte_ok (N := N) b hb ⟨c.b, d1.i, d1.h⟩ ⟨hc.1, g1.2⟩
      simp only [e2, Option.bind_some]
      obtain ⟨v3, d3, e3, g3, a3, a3'⟩ := byte_ok (N := N) b hb ⟨c.b, d2.i, d2.h⟩ ⟨hc.1, g2.2⟩
      simp only [e3, Option.bind_some]
      rw [wr (n := v1 * 65536) (by omega) (by omega), wr (n := v2 * 256) (by omega) (by omega), wr (n := v1 * 65536 + v2 * 256) (by omega) (by omega), wr (n := v1 * 65536 + v2 * 256 + v3) (by omega) (by omega)]
      obtain ⟨r, er, r0, r1⟩ := rem_ok (show 0 ≤ v1 * 65536 + v2 * 256 + v3 by omega) (show 0 < n by omega)
      simp only [er, Option.bind_some]
      exact ⟨_, _, rfl, ⟨hc.1, g3.2⟩, r0, fun _ => r1, fun h => h.elim⟩
end Go.Proofs.YtlfpehhlkccdiaaDoor
namespace Go.Proofs.YtlfpehhlkccdiaaDoor
open Eng
set_option linter.unusedVariables false
set_option linter.unusedSimpArgs false
def Dr {α : Type} (b : List Int) (Q : α → Prop) (o : Option (α × Tl1Cur)) : Prop := ∃ v d, o = some (v, d) ∧ GC b d ∧ Q v
theorem Dr.bind {α β : Type} {b : List Int} {Q : α → Prop} {R : β → Prop} {o : Option (α × Tl1Cur)} {f : α × Tl1Cur → Option (β × Tl1Cur)} (h : Dr b Q o) (k : ∀ v d, GC b d → Q v → Dr b R (f (v, d))) : Dr b R (o.bind f) := by
  obtain ⟨v, d, rfl, g, q⟩ := h; exact k v d g q
theorem Dr.bindO {γ β : Type} {b : List Int} {R : β → Prop} {x : γ} {o : Option γ} {f : γ → Option (β × Tl1Cur)} (h : o = some x) (k : Dr b R (f x)) : Dr b R (o.bind f) := by
  rw [h]; exact k
theorem Dr.ret {α : Type} {b : List Int} {Q : α → Prop} {v : α} {c : Tl1Cur} (g : GC b c) (q : Q v) : Dr b Q (some (v, c)) := ⟨v, c, rfl, g, q⟩
theorem Dr.ite {α : Type} {b : List Int} {Q : α → Prop} {x y : Option (α × Tl1Cur)} {p : Bool} (h1 : p = true → Dr b Q x) (h2 : p = false → Dr b Q y) : Dr b Q (if p = true then x else y) := by
  cases p with
  | true => exact h1 rfl
  | false => exact h2 rfl
theorem GC.at {b : List Int} {c d : Tl1Cur} (g : GC b d) (h : c.b = b) : GC b (⟨c.b, d.i, d.h⟩ : Tl1Cur) := ⟨h, g.2⟩
theorem below_d {N : Nat} {b : List Int} (hb : b.length ≤ 1048576) {c : Tl1Cur} (g : GC b c) (n : Int) (hn : 0 < n) : Dr b (fun v => 0 ≤ v ∧ v < n) (m_s_l1Below N c n) := by
  obtain ⟨v, d, e, g, h1, h2, -⟩ := below_ok (N := N) b hb c g n
  exact ⟨v, d, e, g, h1, h2 hn⟩
theorem below_d' {N : Nat} {b : List Int} (hb : b.length ≤ 1048576) {c : Tl1Cur} (g : GC b c) (n : Int) : Dr b (fun v => 0 ≤ v ∧ (0 < n → v < n)) (m_s_l1Below N c n) := by
  obtain ⟨v, d, e, g, h1, h2, -⟩ := below_ok (N := N) b hb c g n
  exact ⟨v, d, e, g, h1, h2⟩
theorem app_sm {α : Type} {xs ys : List α} (h : xs.length ≤ 4194304) (h' : ys.length ≤ 4194304) : app xs ys = some (xs ++ ys) := app_ok (by omega)
theorem mem_snoc {α : Type} {P : α → Prop} {xs : List α} {x : α} (h : ∀ a ∈ xs, P a) (h' : P x) : ∀ a ∈ xs ++ [x], P a := fun a ha => by
  rcases List.mem_append.1 ha with h1 | h1
  · exact h a h1
  · simp at h1; rw [h1]; exact h'
end Go.Proofs.YtlfpehhlkccdiaaDoor
namespace Go.Proofs.YtlfpehhlkccdiaaDoor
open Eng
theorem once_d {N : Nat} {b : List Int} (hb : b.length ≤ 1048576) {c : Tl1Cur} (g : GC b c) (n : Int) : Dr b (fun _ => True) (m_s_l1Once N c n) := by
  unfold m_s_l1Once
  exact (below_d' hb g n).bind fun v d gd _ => .ret (gd.at g.1) trivial
end Go.Proofs.YtlfpehhlkccdiaaDoor
namespace Go.Proofs.YtlfpehhlkccdiaaDoor
open Eng
theorem str_d {N : Nat} {b : List Int} (hb : b.length ≤ 1048576) {c : Tl1Cur} (g : GC b c) (l : List ByteArray) (h : 0 < l.length) : Dr b (fun s => s ∈ l) (m_s_l1Str N c l) := by
  unfold m_s_l1Str
  refine (below_d hb g (l.length : Int) (by omega)).bind fun v d gd q => ?_
  obtain ⟨j, rfl⟩ : ∃ j : Nat, v = (j : Int) := ⟨v.toNat, by omega⟩
  exact .bindO (idx_nat_lt (show j < l.length by omega)) (.ret (gd.at g.1) (List.getElem_mem _))
end Go.Proofs.YtlfpehhlkccdiaaDoor
namespace Go.Proofs.YtlfpehhlkccdiaaDoor
open Eng
def drVal (v : TVal) : Prop := (∃ n : Int, 1 ≤ n ∧ n ≤ 3 ∧ v = ⟨1, n, ⟨#[]⟩⟩) ∨ ∃ s ∈ ([⟨#[97]⟩, ⟨#[98]⟩] : List ByteArray), v = ⟨2, 0, s⟩
theorem small_d {N : Nat} {b : List Int} (hb : b.length ≤ 1048576) {c : Tl1Cur} (g : GC b c) : Dr b drVal (m_s_l3Small N c) := by
  unfold m_s_l3Small
  refine (once_d hb g 2).bind fun v d gd _ => .ite (fun _ => ?_) fun _ => ?_
  · exact (below_d hb (gd.at g.1) 3 (by omega)).bind fun w e ge q => .ret (ge.at g.1) (.inl ⟨_, by dsimp only; rw [wr (by omega) (by omega)]; omega, by dsimp only; rw [wr (by omega) (by omega)]; omega, rfl⟩)
  · exact (str_d hb (gd.at g.1) _ (by decide)).bind fun w e ge q => .ret (ge.at g.1) (.inr ⟨w, q, rfl⟩)
theorem drVal_sz {v : TVal} (h : drVal v) : v.S.size ≤ 16 := by
  rcases h with ⟨n, _, _, rfl⟩ | ⟨s, hs, rfl⟩
  · show (0 : Nat) ≤ 16; omega
  · exact (show ∀ s ∈ ([⟨#[97]⟩, ⟨#[98]⟩] : List ByteArray), s.size ≤ 16 by decide) s hs
end Go.Proofs.YtlfpehhlkccdiaaDoor
namespace Go.Proofs.YtlfpehhlkccdiaaDoor
open Eng
set_option linter.unusedVariables false
def shArg (a : TArg) : Prop := a.S.size ≤ 16 ∧ a.V.S.size ≤ 16
def drArg (a : TArg) : Prop := a = ⟨3, ⟨#[]⟩, ⟨0, 0, ⟨#[]⟩⟩⟩ ∨ (∃ v, drVal v ∧ a = ⟨2, ⟨#[]⟩, v⟩) ∨ ∃ s ∈ ([⟨#[88]⟩, ⟨#[89]⟩, ⟨#[90]⟩, ⟨#[88]⟩] : List ByteArray), a = ⟨1, s, ⟨0, 0, ⟨#[]⟩⟩⟩
theorem drArg_sz {a : TArg} (h : drArg a) : shArg a := by
  rcases h with rfl | ⟨v, hv, rfl⟩ | ⟨s, hs, rfl⟩
  · exact ⟨Nat.zero_le _, Nat.zero_le _⟩
  · exact ⟨Nat.zero_le _, drVal_sz hv⟩
  · exact ⟨(show ∀ s ∈ ([⟨#[88]⟩, ⟨#[89]⟩, ⟨#[90]⟩, ⟨#[88]⟩] : List ByteArray), s.size ≤ 16 by decide) s hs, Nat.zero_le _⟩
theorem arg_d {N : Nat} {b : List Int} (hb : b.length ≤ 1048576) {c : Tl1Cur} (g : GC b c) : Dr b drArg (m_s_l6Arg N c) := by
  unfold m_s_l6Arg
  refine (below_d hb g 6 (by omega)).bind fun v d gd _ => .ite (fun _ => .ret (gd.at g.1) (.inl rfl)) fun _ => .ite (fun _ => ?_) fun _ => ?_
  · exact (small_d hb (gd.at g.1)).bind fun w e ge q => .bindO rfl (.ret (ge.at g.1) (.inr (.inl ⟨w, q, rfl⟩)))
  · exact (str_d hb (gd.at g.1) _ (by decide)).bind fun w e ge q => .bindO rfl (.ret (ge.at g.1) (.inr (.inr ⟨w, q, rfl⟩)))
end Go.Proofs.YtlfpehhlkccdiaaDoor
namespace Go.Proofs.YtlfpehhlkccdiaaDoor
open Eng
set_option linter.unusedVariables false
def drTerm (a : TArg) : Prop := (∃ v, drVal v ∧ a = ⟨2, ⟨#[]⟩, v⟩) ∨ ∃ s ∈ ([⟨#[88]⟩, ⟨#[89]⟩, ⟨#[90]⟩, ⟨#[88]⟩] : List ByteArray), a = ⟨1, s, ⟨0, 0, ⟨#[]⟩⟩⟩
theorem drTerm_arg {a : TArg} (h : drTerm a) : drArg a := .inr h
theorem term_d {N : Nat} {b : List Int} (hb : b.length ≤ 1048576) {c : Tl1Cur} (g : GC b c) : Dr b drTerm (m_s_l7Arg N c) := by
  unfold m_s_l7Arg
  refine (once_d hb g 3).bind fun v d gd _ => .ite (fun _ => ?_) fun _ => ?_
  · exact (small_d hb (gd.at g.1)).bind fun w e ge q => .bindO rfl (.ret (ge.at g.1) (.inl ⟨w, q, rfl⟩))
  · exact (str_d hb (gd.at g.1) _ (by decide)).bind fun w e ge q => .bindO rfl (.ret (ge.at g.1) (.inr ⟨w, (show ∀ s ∈ ([⟨#[88]⟩, ⟨#[89]⟩] : List ByteArray), s ∈ ([⟨#[88]⟩, ⟨#[89]⟩, ⟨#[90]⟩, ⟨#[88]⟩] : List ByteArray) by simp) w q, rfl⟩))
end Go.Proofs.YtlfpehhlkccdiaaDoor
namespace Go.Proofs.YtlfpehhlkccdiaaDoor
open Eng
theorem int_d {N : Nat} {b : List Int} (hb : b.length ≤ 1048576) {c : Tl1Cur} (g : GC b c) (l : List Int) (h : 0 < l.length) : Dr b (fun s => s ∈ l) (m_s_l1Int N c l) := by
  unfold m_s_l1Int
  refine (below_d hb g (l.length : Int) (by omega)).bind fun v d gd q => ?_
  obtain ⟨j, rfl⟩ : ∃ j : Nat, v = (j : Int) := ⟨v.toNat, by omega⟩
  exact .bindO (idx_nat_lt (show j < l.length by omega)) (.ret (gd.at g.1) (List.getElem_mem _))
end Go.Proofs.YtlfpehhlkccdiaaDoor
namespace Go.Proofs.YtlfpehhlkccdiaaDoor
open Eng
set_option linter.unusedVariables false
def shExpr (e : TExpr) : Prop := e.Op.size ≤ 16 ∧ shArg e.L ∧ shArg e.R
def shAct (a : TAct) : Prop := a.Name.size ≤ 16 ∧ a.Args.length ≤ 16 ∧ (∀ e ∈ a.Args, shExpr e) ∧ a.Undo.size ≤ 16
def noArg : TArg := ⟨0, ⟨#[]⟩, ⟨0, 0, ⟨#[]⟩⟩⟩
def exprW (T : TArg → Prop) (e : TExpr) : Prop := T e.L ∧ ((e.Op = ⟨#[]⟩ ∧ e.R = noArg) ∨ e.Op ∈ ([⟨#[43]⟩, ⟨#[45]⟩] : List ByteArray) ∧ T e.R)
theorem exprW_sz {T : TArg → Prop} (hT : ∀ a, T a → shArg a) {e : TExpr} (h : exprW T e) : shExpr e := by
  obtain ⟨h1, ⟨h2, h3⟩ | ⟨h2, h3⟩⟩ := h
  · exact ⟨by rw [h2]; exact Nat.zero_le _, hT _ h1, by rw [h3]; exact ⟨Nat.zero_le _, Nat.zero_le _⟩⟩
  · exact ⟨(show ∀ s ∈ ([⟨#[43]⟩, ⟨#[45]⟩] : List ByteArray), s.size ≤ 16 by decide) _ h2, hT _ h1, hT _ h3⟩
theorem expr_d {N : Nat} {b : List Int} (hb : b.length ≤ 1048576) {c : Tl1Cur} (g : GC b c) : Dr b (exprW drTerm) (m_s_l8Expr N c) := by
  unfold m_s_l8Expr
  refine (term_d hb g).bind fun l d gd ql => (once_d hb (gd.at g.1) 4).bind fun v e ge _ => .ite (fun _ => ?_) fun _ => ?_
  · exact (str_d hb (ge.at g.1) _ (by decide)).bind fun o f gf qo => (term_d hb (gf.at g.1)).bind fun r k gk qr => .ret (gk.at g.1) ⟨ql, .inr ⟨qo, qr⟩⟩
  · exact .ret (ge.at g.1) ⟨ql, .inl ⟨rfl, rfl⟩⟩
def actW (T : TArg → Prop) (pos : Int) (a : TAct) : Prop := a.Args.length ≤ 2 ∧ (∀ e ∈ a.Args, exprW T e) ∧
  ((a.Kind = 2 ∧ a.Name = ⟨#[]⟩ ∧ a.Args = [] ∧ 0 ≤ a.N ∧ (0 < pos → a.N < pos) ∧ a.Undo = ⟨#[]⟩) ∨
   ((a.Kind = 5 ∨ a.Kind = 6) ∧ a.Name = ⟨#[]⟩ ∧ a.Args = [] ∧ a.N = 0 ∧ a.Undo = ⟨#[]⟩) ∨
   ((a.Kind = 1 ∨ a.Kind = 3 ∨ a.Kind = 4) ∧ a.Name ∈ ([⟨#[111, 114, 100, 101, 114]⟩, ⟨#[112, 97, 105, 100]⟩, ⟨#[105, 116, 101, 109]⟩, ⟨#[115, 104, 105, 112]⟩, ⟨#[99, 104, 97, 114, 103, 101]⟩] : List ByteArray) ∧
     (a.N = 0 ∨ a.Kind = 4 ∧ a.N ∈ ([0, 1, 5, 100000] : List Int)) ∧ (a.Undo = ⟨#[]⟩ ∨ a.Kind = 3 ∧ a.Undo ∈ ([⟨#[114, 101, 102, 117, 110, 100]⟩, ⟨#[99, 97, 110, 99, 101, 108]⟩] : List ByteArray))))
theorem actW_sz {T : TArg → Prop} (hT : ∀ a, T a → shArg a) {pos : Int} {a : TAct} (h : actW T pos a) : shAct a := by
  obtain ⟨h1, h2, h3⟩ := h
  refine ⟨?_, by omega, fun e he => exprW_sz hT (h2 e he), ?_⟩
  · rcases h3 with h | h | h
    · rw [h.2.1]; exact Nat.zero_le _
    · rw [h.2.1]; exact Nat.zero_le _
    · exact (show ∀ s ∈ ([⟨#[111, 114, 100, 101, 114]⟩, ⟨#[112, 97, 105, 100]⟩, ⟨#[105, 116, 101, 109]⟩, ⟨#[115, 104, 105, 112]⟩, ⟨#[99, 104, 97, 114, 103, 101]⟩] : List ByteArray), s.size ≤ 16 by decide) _ h.2.1
  · rcases h3 with h | h | h
    · rw [h.2.2.2.2.2]; exact Nat.zero_le _
    · rw [h.2.2.2.2]; exact Nat.zero_le _
    · rcases h.2.2.2 with h | h
      · rw [h]; exact Nat.zero_le _
      · exact (show ∀ s ∈ ([⟨#[114, 101, 102, 117, 110, 100]⟩, ⟨#[99, 97, 110, 99, 101, 108]⟩] : List ByteArray), s.size ≤ 16 by decide) _ h.2
theorem act_d {N : Nat} (hN : 1099000000000 ≤ N) {b : List Int} (hb : b.length ≤ 1048576) {c : Tl1Cur} (g : GC b c) (pos : Int) : Dr b (actW drTerm pos) (m_s_l8Draw N c pos) := by
  unfold m_s_l8Draw
  refine (int_d hb g _ (by decide)).bind fun k d gd hk => ?_
  dsimp only
  by_cases k2 : k = 2
  · refine .ite (fun _ => ?_) (fun h => absurd k2 (of_decide_eq_false h))
    exact (below_d' hb (gd.at g.1) pos).bind fun v e ge q => .ret (ge.at g.1) ⟨by simp, by simp, .inl ⟨k2, rfl, rfl, q.1, q.2, rfl⟩⟩
  refine .ite (fun h => absurd (of_decide_eq_true h) k2) (fun _ => ?_)
  have j5 : ∀ (nm : ByteArray) (d0 : Tl1Cur) (s3 : List TExpr) (n : Int) (q : Bool) (x h : Int), GC b ⟨c.b, x, h⟩ → (q = true → k = 3) →
      (∀ u, (u = (⟨#[]⟩ : ByteArray) ∨ k = 3 ∧ u ∈ ([⟨#[114, 101, 102, 117, 110, 100]⟩, ⟨#[99, 97, 110, 99, 101, 108]⟩] : List ByteArray)) → actW drTerm pos ⟨k, nm, s3, n, u⟩) → Dr b (actW drTerm pos) (m_s_l8Draw_j5 N c (k, d) (nm, d0) s3 n q x h) := by
    intro nm d0 s3 n q x h gx hq hu
    unfold m_s_l8Draw_j5
    refine .ite (fun hq' => ?_) (fun _ => .ret gx (hu _ (.inl rfl)))
    exact (str_d hb gx _ (by decide)).bind fun u e ge qu => .ret (ge.at (c := ⟨c.b, x, h⟩) gx.1) (hu _ (.inr ⟨hq hq', qu⟩))
  have j4 : ∀ (nm : ByteArray) (d0 : Tl1Cur) (s3 : List TExpr) (n : Int) (x h : Int), GC b ⟨c.b, x, h⟩ →
      (∀ u, (u = (⟨#[]⟩ : ByteArray) ∨ k = 3 ∧ u ∈ ([⟨#[114, 101, 102, 117, 110, 100]⟩, ⟨#[99, 97, 110, 99, 101, 108]⟩] : List ByteArray)) → actW drTerm pos ⟨k, nm, s3, n, u⟩) → Dr b (actW drTerm pos) (m_s_l8Draw_j4 N c (k, d) (nm, d0) s3 x h n) := by
    intro nm d0 s3 n x h gx hu
    unfold m_s_l8Draw_j4
    refine .ite (fun h3 => ?_) (fun _ => j5 _ _ _ _ _ _ _ gx (fun h => by simp at h) hu)
    exact (once_d hb gx 2).bind fun u e ge _ => j5 _ _ _ _ _ _ _ (ge.at (c := ⟨c.b, x, h⟩) gx.1) (fun _ => of_decide_eq_true h3) hu
  have lp : ∀ (nm : ByteArray) (d0 : Tl1Cur), nm ∈ ([⟨#[111, 114, 100, 101, 114]⟩, ⟨#[112, 97, 105, 100]⟩, ⟨#[105, 116, 101, 109]⟩, ⟨#[115, 104, 105, 112]⟩, ⟨#[99, 104, 97, 114, 103, 101]⟩] : List ByteArray) → (k = 1 ∨ k = 3 ∨ k = 4) →
      ∀ (m : Nat), m ≤ 2 → ∀ (n i : Nat) (s : List TExpr) (x h : Int), i ≤ m → m - i < n → s.length = i → (∀ a ∈ s, exprW drTerm a) → GC b ⟨c.b, x, h⟩ → Dr b (actW drTerm pos) (m_s_l8Draw_l3 N c (k, d) (nm, d0) (m : Int) n s (i : Int) x h) := by
    intro nm d0 hnm hk3 m hm n
    induction n with
    | zero => intro i _ _ _ _ h; omega
    | succ n ih =>
      intro i s x h hi hn hs ha gx
      simp only [m_s_l8Draw_l3]
      refine .ite (fun hlt => ?_) (fun hge => .ite (fun h4 => ?_) (fun _ => ?_))
      · have hlt := of_decide_eq_true hlt
        refine (expr_d hb gx).bind fun a e ge q => .bindO (app_sm (by omega) (by simp)) ?_
        rw [wr1 i (by omega)]
        exact ih (i + 1) _ _ _ (by omega) (by omega) (by simp; omega) (mem_snoc ha q) (ge.at (c := ⟨c.b, x, h⟩) gx.1)
      · have h4 : k = 4 := of_decide_eq_true h4
        exact (int_d hb gx _ (by decide)).bind fun v e ge q => j4 _ _ _ _ _ _ (ge.at (c := ⟨c.b, x, h⟩) gx.1) fun u hu => ⟨by dsimp only; omega, ha, .inr (.inr ⟨hk3, hnm, .inr ⟨h4, q⟩, hu⟩)⟩
      · exact j4 _ _ _ _ _ _ gx fun u hu => ⟨by dsimp only; omega, ha, .inr (.inr ⟨hk3, hnm, .inl rfl, hu⟩)⟩
  have j1 : Dr b (actW drTerm pos) (m_s_l8Draw_j1 N c (k, d) true) → k = 5 ∨ k = 6 → Dr b (actW drTerm pos) (m_s_l8Draw_j1 N c (k, d) true) := fun h _ => h
  have jt : k = 5 ∨ k = 6 → Dr b (actW drTerm pos) (m_s_l8Draw_j1 N c (k, d) true) := by
    intro h56
    unfold m_s_l8Draw_j1
    simp only [if_true]
    exact .ret (gd.at g.1) ⟨by simp, by simp, .inr (.inl ⟨h56, rfl, rfl, rfl, rfl⟩)⟩
  have jf : k = 1 ∨ k = 3 ∨ k = 4 → Dr b (actW drTerm pos) (m_s_l8Draw_j1 N c (k, d) false) := by
    intro h134
    unfold m_s_l8Draw_j1
    simp only [Bool.false_eq_true, if_false]
    refine (str_d hb (gd.at g.1) _ (by decide)).bind fun nm e ge hnm => ?_
    unfold m_s_l8Draw_j2
    exact .ite (fun _ => lp nm e hnm h134 2 (by omega) N 0 [] _ _ (by omega) (by omega) rfl (by simp) (ge.at g.1)) (fun _ => lp nm e hnm h134 1 (by omega) N 0 [] _ _ (by omega) (by omega) rfl (by simp) (ge.at g.1))
  have hk' : k = 1 ∨ k = 3 ∨ k = 4 ∨ k = 5 ∨ k = 6 := by
    simp at hk; omega
  by_cases k5 : k = 5
  · rw [decide_eq_true k5]; simp only [if_true]; exact jt (.inl k5)
  · rw [decide_eq_false k5]; simp only [Bool.false_eq_true, if_false]
    by_cases k6 : k = 6
    · rw [decide_eq_true k6]; exact jt (.inr k6)
    · rw [decide_eq_false k6]; exact jf (by omega)
end Go.Proofs.YtlfpehhlkccdiaaDoor
namespace Go.Proofs.YtlfpehhlkccdiaaDoor
open Eng
set_option linter.unusedVariables false
set_option linter.unusedSimpArgs false
theorem exprAny {N : Nat} (hN : 1099000000000 ≤ N) {b : List Int} (hb : b.length ≤ 1048576) : ∃ e, m_s_DrawExprOk N b = some e ∧ shExpr e := by
  unfold m_s_DrawExprOk m_s_DrawExprOk_j1
  obtain ⟨c, e0, g0⟩ := new_ok hN b hb
  obtain ⟨e, c1, e1, g1, he⟩ := expr_d (N := N) hb g0
  obtain ⟨v, c2, e2, g2, hv⟩ := below_d (N := N) hb (g1.at g0.1) 6 (by omega)
  obtain ⟨o, c3, e3, g3, ho⟩ := str_d (N := N) hb (g2.at (c := c) g0.1) [⟨#[]⟩, ⟨#[42]⟩, ⟨#[45]⟩] (by decide)
  obtain ⟨a, c4, e4, g4, ha⟩ := arg_d (N := N) hb (g2.at (c := c) g0.1)
  obtain ⟨s1, s2, s3⟩ := exprW_sz (fun a h => drArg_sz (drTerm_arg h)) he
  have sa := drArg_sz ha
  simp only [e0, Option.bind_some, e1, e2]
  split
  · simp only [e3, Option.bind_some]
    exact ⟨_, rfl, (show ∀ s ∈ ([⟨#[]⟩, ⟨#[42]⟩, ⟨#[45]⟩] : List ByteArray), s.size ≤ 16 by decide) _ ho, s2, s3⟩
  · split
    · simp only [e4, Option.bind_some]
      exact ⟨_, rfl, s1, sa, s3⟩
    · split
      · simp only [e4, Option.bind_some]
        exact ⟨_, rfl, s1, s2, sa⟩
      · exact ⟨_, rfl, s1, s2, s3⟩
end Go.Proofs.YtlfpehhlkccdiaaDoor
namespace Go.Proofs.YtlfpehhlkccdiaaDoor
open Eng
set_option linter.unusedVariables false
set_option linter.unusedSimpArgs false
instance memDec (v : ByteArray) (xs : List ByteArray) : Decidable (v ∈ xs) := @List.instDecidableMemOfLawfulBEq _ instBEqOfDecidableEq _ v xs
end Go.Proofs.YtlfpehhlkccdiaaDoor
namespace Go.Proofs.YtlfpehhlkccdiaaDoor
open Eng
set_option linter.unusedVariables false
set_option linter.unusedSimpArgs false
theorem str3 : ∀ s ∈ ([⟨#[]⟩, ⟨#[65]⟩, ⟨#[120]⟩] : List ByteArray), s.size ≤ 16 := by decide
theorem actAny_d {N : Nat} (hN : 1099000000000 ≤ N) {b : List Int} (hb : b.length ≤ 1048576) {c : Tl1Cur} (g : GC b c) : Dr b shAct (m_s_l8Any N c) := by
  unfold m_s_l8Any
  refine (act_d hN hb g 2).bind fun a d gd ha => (below_d hb (gd.at g.1) 10 (by omega)).bind fun v e ge _ => ?_
  obtain ⟨s1, s2, s3, s4⟩ := actW_sz (fun a h => drArg_sz (drTerm_arg h)) ha
  refine .ite (fun _ => ?_) fun _ => .ite (fun _ => ?_) fun _ => .ite (fun _ => ?_) fun _ => .ite (fun _ => ?_) fun _ => .ite (fun _ => ?_) fun _ => .ret (ge.at g.1) ⟨s1, s2, s3, s4⟩
  · exact (below_d hb (ge.at g.1) 8 (by omega)).bind fun k f gf _ => .ret (gf.at g.1) ⟨s1, s2, s3, s4⟩
  · exact (str_d hb (ge.at g.1) _ (by decide)).bind fun k f gf hk => .ret (gf.at g.1) ⟨str3 _ hk, s2, s3, s4⟩
  · exact (int_d hb (ge.at g.1) _ (by decide)).bind fun k f gf hk => .ret (gf.at g.1) ⟨s1, s2, s3, s4⟩
  · exact (str_d hb (ge.at g.1) _ (by decide)).bind fun k f gf hk => .ret (gf.at g.1) ⟨s1, s2, s3, str3 _ hk⟩
  · refine (str_d hb (ge.at g.1) _ (by decide)).bind fun k f gf hk => (arg_d hb (gf.at g.1)).bind fun l f1 g1 ql => (arg_d hb (g1.at g.1)).bind fun r f2 g2 qr => .bindO (app_sm (show a.Args.length ≤ 4194304 by omega) (by simp)) (.ret (g2.at g.1) ⟨s1, ?_, mem_snoc s3 ⟨?_, drArg_sz ql, drArg_sz qr⟩, s4⟩)
    · have := ha.1; simp; omega
    · exact (show ∀ s ∈ ([⟨#[]⟩, ⟨#[42]⟩] : List ByteArray), s.size ≤ 16 by decide) _ hk
end Go.Proofs.YtlfpehhlkccdiaaDoor
namespace Go.Proofs.YtlfpehhlkccdiaaDoor
open Eng
theorem shArg_Sz {a : TArg} (h : shArg a) : SzArg a := by have := h.1; have := h.2; exact ⟨by omega, by omega⟩
theorem shExpr_Sz {e : TExpr} (h : shExpr e) : SzExpr e := by
  obtain ⟨h1, h2, h3⟩ := h
  exact ⟨by omega, shArg_Sz h2, shArg_Sz h3⟩
theorem shAct_Sz {a : TAct} (h : shAct a) : SzAct a := by
  obtain ⟨h1, h2, h3, h4⟩ := h
  exact ⟨by omega, by omega, by omega, fun a ha => shExpr_Sz (h3 a ha)⟩
end Go.Proofs.YtlfpehhlkccdiaaDoor
namespace Go.Proofs.YtlfpehhlkccdiaaDoor
open Eng
set_option linter.unusedVariables false
set_option linter.unusedSimpArgs false
theorem law_FnActs {N : Nat} (hN : 1099000000000 ≤ N) (b : List Int) : m_l_FnActs N b = some true := by
  unfold m_l_FnActs m_l_big
  by_cases hb : b.length ≤ 1048576
  · have c1 : decide (1048576 < (b.length : Int)) = false := decide_eq_false (by omega)
    obtain ⟨c, e0, g0⟩ := new_ok hN b hb
    obtain ⟨a, d, e1, g1, ha⟩ := actAny_d hN hb g0
    obtain ⟨e, e2, he⟩ := exprAny hN hb
    have sa := shAct_Sz ha
    have se := shExpr_Sz he
    unfold m_s_DrawActOk m_s_DrawExprText
    simp only [c1, Option.bind_some, Bool.false_eq_true, if_false, e0, e1, e2, actT_i hN a sa, actT_s hN a sa, act_i hN a sa, act_s hN a sa, exprT_i hN e se, expr_s hN e se, actText_ne, exprText_ne, Bool.not_not, beq_self_eq_true, if_true, seq_self]
  · have c1 : decide (1048576 < (b.length : Int)) = true := decide_eq_true (by omega)
    simp only [c1, Option.bind_some, if_true]
namespace fnActs
theorem law {x0 : List Int} (w0 : (WfL (WfI .u8)) x0) : m_l_FnActs 1099511627776 x0 = some true := law_FnActs (by omega) x0
end fnActs
end Go.Proofs.YtlfpehhlkccdiaaDoor
