/- Plain laws, one after the other: PLExprText. -/
import Derived.Test.YtlfpehhlkccdiaaDoorPLib
import Derived.Test.YtlfpehhlkccdiaaDoorWExactExprTextPur
/-
  Plain laws of common loops, for the cores. No program.
-/
namespace Go.Proofs.YtlfpehhlkccdiaaDoor
open Eng
set_option linter.unusedVariables false
set_option linter.unusedSimpArgs false
theorem allfrom {α : Type} (f : Nat → Int → Option Bool) (xs : List α) (hl : xs.length ≤ 4294967296) (p : α → Bool) (z : Bool) (i0 : Nat)
    (hs : ∀ n (i : Nat) (x : α), i0 ≤ i → idx xs (i : Int) = some x → x ∈ xs → decide ((i : Int) < (xs.length : Int)) = true → IntKind.i64.wrap ((i : Int) + 1) = ((i + 1 : Nat) : Int) → f (n + 1) i = if p x then f n ((i + 1 : Nat) : Int) else some false)
    (he : ∀ n (i : Nat), decide ((i : Int) < (xs.length : Int)) = false → f (n + 1) i = some z) :
    ∀ (n i : Nat), i0 ≤ i → i ≤ xs.length → xs.length - i < n → f n i = some ((xs.drop i).all p && z) := by
  intro n
  induction n with
  | zero => intro i _ _ h; omega
  | succ n ih =>
    intro i h0 hi hn
    by_cases hlt : i < xs.length
    · rw [List.drop_eq_getElem_cons hlt, List.all_cons, hs n i xs[i] h0 (idx_nat_lt hlt) (List.getElem_mem hlt) (decide_eq_true (by omega)) (wr1 i (by omega)), ih (i + 1) (by omega) (by omega) (by omega)]
      cases p xs[i] <;> simp
    · rw [he n i (decide_eq_false (by omega)), List.drop_of_length_le (by omega), List.all_nil, Bool.true_and]
theorem andS (a b : Bool) : (if a = true then some b else some false) = some (a && b) := by cases a <;> rfl
theorem orS (a b : Bool) : (if a = true then some true else some b) = some (a || b) := by cases a <;> rfl
end Go.Proofs.YtlfpehhlkccdiaaDoor
/-
  Plain laws of loops over lists, one law for all. No program.
-/
namespace Go.Proofs.YtlfpehhlkccdiaaDoor
open Eng
set_option linter.unusedVariables false
set_option linter.unusedSimpArgs false
theorem lp {σ α β : Type} (xs : List α) (hl : xs.length ≤ 4294967296) (f : Nat → σ → Int → Option β) (G : List α → σ → Option β) (I : σ → List α → Prop)
    (hs : ∀ n s (i : Nat) (x : α) (t : List α), xs.drop i = x :: t → x ∈ xs → i < xs.length → idx xs (i : Int) = some x → decide ((i : Int) < (xs.length : Int)) = true → IntKind.i64.wrap ((i : Int) + 1) = ((i + 1 : Nat) : Int) → I s (x :: t) →
      (∀ s', I s' t → f n s' ((i + 1 : Nat) : Int) = G t s') → f (n + 1) s i = G (x :: t) s)
    (he : ∀ n s (i : Nat), i = xs.length → decide ((i : Int) < (xs.length : Int)) = false → I s [] → f (n + 1) s i = G [] s) :
    ∀ (n i : Nat) (s : σ), i ≤ xs.length → xs.length - i < n → I s (xs.drop i) → f n s i = G (xs.drop i) s := by
  intro n
  induction n with
  | zero => intro i s _ h; omega
  | succ n ih =>
    intro i s hi hn hI
    by_cases hlt : i < xs.length
    · have hd := List.drop_eq_getElem_cons hlt
      rw [hd] at hI ⊢
      exact hs n s i _ _ hd (List.getElem_mem hlt) hlt (idx_nat_lt hlt) (decide_eq_true (by omega)) (wr1 i (by omega)) hI (fun s' hs' => ih (i + 1) s' (by omega) (by omega) hs')
    · have hd : xs.drop i = [] := List.drop_of_length_le (by omega)
      rw [hd] at hI ⊢
      exact he n s i (by omega) (decide_eq_false (by omega)) hI
end Go.Proofs.YtlfpehhlkccdiaaDoor
namespace Go.Proofs.YtlfpehhlkccdiaaDoor
open Eng
set_option linter.unusedVariables false
set_option linter.unusedSimpArgs false
theorem rangeloop (f : Nat → Int → Option Bool) (n0 : Nat) (hm : n0 ≤ 4611686018427387903) (e : Nat → Bool) (z : Bool)
    (h : ∀ k (i : Nat), i < n0 → f (k + 1) i = if e i then f k (IntKind.i64.wrap ((i : Int) + 1)) else some false) (hz : ∀ k (i : Nat), i = n0 → f (k + 1) i = some z) :
    ∀ (n i : Nat), i ≤ n0 → n0 - i < n → f n i = some (((List.range n0).drop i).all e && z) := by
  intro n
  induction n with
  | zero => intro i _ h; omega
  | succ n ih =>
    intro i hi hn
    by_cases hlt : i < n0
    · rw [h n i hlt, List.drop_eq_getElem_cons (by simpa using hlt), List.getElem_range, List.all_cons]
      cases he : e i with
      | false => simp
      | true => simp only [if_true, Bool.true_and]; rw [wr1 i (by omega), ih (i + 1) (by omega) (by omega)]
    · have : i = n0 := by omega
      rw [hz n i this, List.drop_of_length_le (by simp; omega)]
      simp
theorem in0 (N : Nat) (a b c : Int) : m_s_l1In N a b c = some (decide (b ≤ a) && decide (a ≤ c)) := by
  unfold m_s_l1In
  by_cases h : b ≤ a <;> simp [h]
theorem in1 (N : Nat) (a b c : Int) : m_i_inRange N a b c = some (decide (b ≤ a) && decide (a ≤ c)) := by
  unfold m_i_inRange
  by_cases h : b ≤ a <;> simp [h]
theorem wrU (y : UInt8) : IntKind.i64.wrap (y.toNat : Int) = (y.toNat : Int) := wr (by omega) (by have := y.toNat_lt; omega)
def letter (y : UInt8) : Bool := (decide (97 ≤ (y.toNat : Int)) && decide ((y.toNat : Int) ≤ 122)) || (decide (48 ≤ (y.toNat : Int)) && decide ((y.toNat : Int) ≤ 57)) || decide ((y.toNat : Int) = 95)
theorem letter_s (N : Nat) (y : UInt8) : m_s_l1Letter N (y.toNat : Int) = some (letter y) := by
  unfold m_s_l1Letter letter
  simp only [wrU, in0, Option.bind_some]
  by_cases h1 : (decide (97 ≤ (y.toNat : Int)) && decide ((y.toNat : Int) ≤ 122)) = true
  · simp [h1]
  · rw [if_neg h1]
    simp only [Option.bind_some]
    rw [Bool.eq_false_iff.2 h1, Bool.false_or]
    by_cases h2 : (decide (48 ≤ (y.toNat : Int)) && decide ((y.toNat : Int) ≤ 57)) = true
    · simp [h2]
    · rw [if_neg h2, Bool.eq_false_iff.2 h2, Bool.false_or]; rfl
theorem letter_i (N : Nat) (y : UInt8) : m_i_isWordByte N (y.toNat : Int) = some (letter y) := by
  unfold m_i_isWordByte m_i_isSmall m_i_isDigit letter
  generalize (y.toNat : Int) = n
  rw [andS, andS, Option.bind_some, Option.bind_some, Option.bind_some, Option.bind_some, orS, Option.bind_some, orS]
  rfl
def wordAll (s : ByteArray) : Bool := ((List.range s.size).drop 0).all (fun i => match s.data.toList[i]? with | some y => letter y | none => false)
theorem size_data (s : ByteArray) : s.data.toList.length = s.size := rfl
theorem plain_s {N : Nat} (hN : 1048578 ≤ N) (s : ByteArray) (hs : s.size ≤ 1048576) : m_s_l2Plain N s = some (wordAll s && decide ((s.size : Int) ≤ 20)) := by
  unfold m_s_l2Plain
  refine rangeloop (fun n i => m_s_l2Plain_l1 N s n i) s.size (by omega) _ _ (fun k i hi => ?_) (fun k i hi => ?_) N 0 (by omega) (by omega)
  · have hi' : i < s.data.toList.length := by rw [size_data]; exact hi
    simp only [m_s_l2Plain_l1, idx_nat_lt hi', Option.bind_some, letter_s, List.getElem?_eq_getElem hi']
    rw [if_pos (by simp; omega)]
    cases letter s.data.toList[i] <;> simp
  · simp only [m_s_l2Plain_l1]
    rw [if_neg (by simp; omega)]
theorem word_i {N : Nat} (hN : 1048578 ≤ N) (s : ByteArray) (n : Int) (hs : s.size ≤ 1048576) : m_i_isWord N s n = some (wordAll s && decide ((s.size : Int) ≤ n)) := by
  unfold m_i_isWord
  have : m_i_isWord_l1 N s N 0 = some (wordAll s && true) := by
    refine rangeloop (fun n i => m_i_isWord_l1 N s n i) s.size (by omega) _ _ (fun k i hi => ?_) (fun k i hi => ?_) N 0 (by omega) (by omega)
    · have hi' : i < s.data.toList.length := by rw [size_data]; exact hi
      simp only [m_i_isWord_l1, idx_nat_lt hi', Option.bind_some, letter_i, List.getElem?_eq_getElem hi']
      rw [if_pos (by simp; omega)]
      cases letter s.data.toList[i] <;> simp
    · simp only [m_i_isWord_l1]
      rw [if_neg (by simp; omega)]
  rw [this]
  by_cases h : n < (s.size : Int)
  · rw [if_pos (by simpa using h), decide_eq_false (by omega), Bool.and_false]
  · rw [if_neg (by simpa using h), decide_eq_true (show (s.size : Int) ≤ n by omega)]
theorem val_s {N : Nat} (hN : 1048578 ≤ N) (v : TVal) (hs : v.S.size ≤ 1048576) : m_s_ValOk N v = m_i_ValOk N v := by
  unfold m_s_ValOk m_i_ValOk
  rw [plain_s hN _ hs, word_i hN _ _ hs, in0, in1]
  by_cases h1 : v.K = 1
  · simp [h1]
  · by_cases h2 : v.K = 2
    · simp only [h2, andS, orS, Option.bind_some]
      cases decide (v.N = 0) <;> cases wordAll v.S <;> cases decide ((v.S.size : Int) ≤ 20) <;> rfl
    · simp [h1, h2]
def okVal (v : TVal) : Bool := if v.K = 1 then (decide (-1000000000 ≤ v.N) && decide (v.N ≤ 1000000000)) && seq v.S ⟨#[]⟩ else if v.K = 2 then decide (v.N = 0) && (wordAll v.S && decide ((v.S.size : Int) ≤ 20)) else false
theorem val_i {N : Nat} (hN : 1048578 ≤ N) (v : TVal) (hs : v.S.size ≤ 1048576) : m_i_ValOk N v = some (okVal v) := by
  unfold m_i_ValOk okVal
  rw [word_i hN _ _ hs, in1]
  by_cases h1 : v.K = 1
  · simp only [h1, decide_true, if_true, Option.bind_some]
    cases (decide (-1000000000 ≤ v.N) && decide (v.N ≤ 1000000000)) <;> simp
  · by_cases h2 : v.K = 2
    · by_cases h3 : v.N = 0 <;> simp [h2, h3]
    · simp [h1, h2]
end Go.Proofs.YtlfpehhlkccdiaaDoor
namespace Go.Proofs.YtlfpehhlkccdiaaDoor
open Eng
set_option linter.unusedVariables false
set_option linter.unusedSimpArgs false
def large (y : UInt8) : Bool := decide (65 ≤ (y.toNat : Int)) && decide ((y.toNat : Int) ≤ 90)
theorem large_i (N : Nat) (y : UInt8) : m_i_isLarge N (y.toNat : Int) = some (large y) := by
  unfold m_i_isLarge large; cases decide (65 ≤ (y.toNat : Int)) <;> rfl
theorem large_s (N : Nat) (y : UInt8) : m_s_l5Large N (y.toNat : Int) = some (large y) := by
  unfold m_s_l5Large large; rw [wrU, in0]; rfl
def varOk (s : ByteArray) : Bool := match s.data.toList with
  | [] => false
  | b :: t => large b && (t.all (fun y => letter y || large y) && decide ((s.size : Int) ≤ 12))
theorem var_i {N : Nat} (hN : 1099000000000 ≤ N) (s : ByteArray) (hs : s.size ≤ 1048576) : m_i_isVar N s = some (varOk s) := by
  have hsz : s.size = s.data.toList.length := rfl
  have lp := allfrom (m_i_isVar_l1 N s) s.data.toList (by omega) (fun y => letter y || large y) true 0 (fun n i y _ hx _ hc hw => by
    rw [← hsz] at hc
    simp only [m_i_isVar_l1, hc, if_true, hx, Option.bind_some, letter_i, large_i, hw]
    cases letter y <;> cases large y <;> rfl) (fun n i hc => by rw [← hsz] at hc; simp only [m_i_isVar_l1, hc, Bool.false_eq_true, if_false])
  unfold m_i_isVar varOk
  cases hd : s.data.toList with
  | nil =>
    have : s.size = 0 := by rw [hsz, hd]; rfl
    rw [this]; rfl
  | cons b t =>
    have h1 : s.size = t.length + 1 := by rw [hsz, hd]; rfl
    have c1 : decide ((s.size : Int) < 1) = false := decide_eq_false (by omega)
    have := lp N 0 (by omega) (by omega) (by omega)
    rw [hd] at this
    have hi : idx (b :: t) 0 = some b := rfl
    simp only [c1, Bool.false_eq_true, if_false, Option.bind_some, hi, large_i]
    by_cases c2 : (s.size : Int) ≤ 12
    · have c3 : decide (12 < (s.size : Int)) = false := decide_eq_false (by omega)
      simp only [c2, c3, decide_true, Bool.and_true, Bool.false_eq_true, if_false, Option.bind_some]
      cases hb : large b with
      | false => rfl
      | true =>
        simp only [Bool.not_true, Bool.false_eq_true, if_false, Bool.true_and]
        refine this.trans ?_
        simp [hb]
    · have c3 : decide (12 < (s.size : Int)) = true := decide_eq_true (by omega)
      simp only [c2, c3, decide_false, Bool.and_false, if_true, Option.bind_some]
theorem var_s {N : Nat} (hN : 1099000000000 ≤ N) (s : ByteArray) (hs : s.size ≤ 1048576) : m_s_l5VarOk N s = some (varOk s) := by
  have hsz : s.size = s.data.toList.length := rfl
  have lp := allfrom (m_s_l5VarOk_l1 N s) s.data.toList (by omega) (fun y => letter y || large y) (decide (1 ≤ (s.size : Int)) && decide ((s.size : Int) ≤ 12)) 1 (fun n i y h1 hx _ hc hw => by
    rw [← hsz] at hc
    have h0 : decide ((i : Int) = 0) = false := decide_eq_false (by omega)
    simp only [m_s_l5VarOk_l1, hc, if_true, hx, Option.bind_some, letter_s, large_s, hw, h0, Bool.false_eq_true, if_false]
    cases letter y <;> cases large y <;> rfl) (fun n i hc => by rw [← hsz] at hc; simp only [m_s_l5VarOk_l1, hc, Bool.false_eq_true, if_false, in0, Option.bind_some])
  unfold m_s_l5VarOk varOk
  obtain ⟨n, rfl⟩ : ∃ n, N = n + 1 := ⟨N - 1, by omega⟩
  cases hd : s.data.toList with
  | nil =>
    have : s.size = 0 := by rw [hsz, hd]; rfl
    simp only [m_s_l5VarOk_l1, this, in0]; rfl
  | cons b t =>
    have h1 : s.size = t.length + 1 := by rw [hsz, hd]; rfl
    have c1 : decide ((0 : Int) < (s.size : Int)) = true := decide_eq_true (by omega)
    have := lp n 1 (by omega) (by omega) (by omega)
    rw [hd] at this
    have hi : idx (b :: t) 0 = some b := rfl
    simp only [m_s_l5VarOk_l1, c1, if_true, hd, hi, Option.bind_some, large_s, decide_true]
    cases hb : large b with
    | false => rfl
    | true =>
      simp only [Bool.not_true, Bool.false_eq_true, if_false, Option.bind_some, Bool.true_and]
      rw [show IntKind.i64.wrap ((0 : Int) + 1) = ((1 : Nat) : Int) from wr1 0 (by omega)]
      refine this.trans ?_
      simp [show (1 : Int) ≤ (s.size : Int) by omega]
def SzArg (a : TArg) : Prop := a.S.size ≤ 1048576 ∧ a.V.S.size ≤ 1048576
def okArg (a : TArg) : Bool := if a.K = 1 then varOk a.S && eqT_TVal a.V ⟨0, 0, ⟨#[]⟩⟩ else if a.K = 2 then okVal a.V && seq a.S ⟨#[]⟩ else if a.K = 3 then seq a.S ⟨#[]⟩ && eqT_TVal a.V ⟨0, 0, ⟨#[]⟩⟩ else false
theorem arg_s {N : Nat} (hN : 1099000000000 ≤ N) (a : TArg) (h : SzArg a) : m_s_ArgOk N a = some (okArg a) := by
  unfold m_s_ArgOk okArg
  rw [var_s hN _ h.1, val_s (by omega) _ h.2, val_i (by omega) _ h.2]
  simp only [Option.bind_some, andS, decide_eq_true_eq]
  split <;> (try split) <;> (try split) <;> rfl
theorem arg_i {N : Nat} (hN : 1099000000000 ≤ N) (a : TArg) (h : SzArg a) : m_i_ArgOk N a = some (okArg a) := by
  unfold m_i_ArgOk okArg
  rw [var_i hN _ h.1, val_i (by omega) _ h.2]
  simp only [Option.bind_some, andS, decide_eq_true_eq, Bool.and_comm]
  split <;> (try split) <;> (try split) <;> simp [Bool.and_comm]
def given (a : TArg) : Bool := okArg a && !decide (a.K = 3)
theorem given_s {N : Nat} (hN : 1099000000000 ≤ N) (a : TArg) (h : SzArg a) : m_s_l8Given N a = some (given a) := by
  unfold m_s_l8Given given; simp only [arg_s hN a h, Option.bind_some, andS]
theorem given_i {N : Nat} (hN : 1099000000000 ≤ N) (a : TArg) (h : SzArg a) : m_i_isTerm N a = some (given a) := by
  unfold m_i_isTerm given; simp only [arg_i hN a h, Option.bind_some, andS, Bool.and_comm]
def SzExpr (e : TExpr) : Prop := e.Op.size ≤ 1048576 ∧ SzArg e.L ∧ SzArg e.R
def okExpr (e : TExpr) : Bool := if seq e.Op ⟨#[]⟩ then given e.L && eqT_TArg e.R ⟨0, ⟨#[]⟩, ⟨0, 0, ⟨#[]⟩⟩⟩ else (seq e.Op ⟨#[43]⟩ || seq e.Op ⟨#[45]⟩) && (given e.L && given e.R)
theorem expr_s {N : Nat} (hN : 1099000000000 ≤ N) (e : TExpr) (h : SzExpr e) : m_s_ExprOk N e = some (okExpr e) := by
  unfold m_s_ExprOk m_s_ExprOk_j1 okExpr
  simp only [given_s hN _ h.2.1, given_s hN _ h.2.2, Option.bind_some, andS]
  cases seq e.Op ⟨#[]⟩ <;> cases seq e.Op ⟨#[43]⟩ <;> cases seq e.Op ⟨#[45]⟩ <;> rfl
theorem expr_i {N : Nat} (hN : 1099000000000 ≤ N) (e : TExpr) (h : SzExpr e) : m_i_ExprOk N e = some (okExpr e) := by
  unfold m_i_ExprOk m_i_ExprOk_j1 okExpr
  simp only [given_i hN _ h.2.1, given_i hN _ h.2.2, Option.bind_some, andS]
  cases seq e.Op ⟨#[]⟩ <;> cases seq e.Op ⟨#[43]⟩ <;> cases seq e.Op ⟨#[45]⟩ <;> rfl
end Go.Proofs.YtlfpehhlkccdiaaDoor
namespace Go.Proofs.YtlfpehhlkccdiaaDoor
open Eng
set_option linter.unusedVariables false
set_option linter.unusedSimpArgs false
theorem cat_ok {x y : ByteArray} (h : x.size + y.size ≤ 9223372036854775807) : cat x y = some (x ++ y) := by unfold cat; rw [if_pos h]
def num (n : Int) : ByteArray := ⟨(Go.Lib.itoa n).toArray⟩
theorem itoa_i {N : Nat} {n : Int} (h0 : -9223372036854775808 ≤ n) (h1 : n ≤ 9223372036854775807) : m_strconv_Itoa N n = some (num n) := by unfold m_strconv_Itoa; rw [if_pos ⟨h0, h1⟩]; rfl
theorem wr8 {n : Int} (h : 0 ≤ n) (h' : n < 256) : IntKind.u8.wrap n = n := by
  simp only [IntKind.wrap, IntKind.bits, IntKind.signed]
  have e1 : (2 : Int) ^ 8 = 256 := by decide
  simp only [e1, Bool.false_and, Bool.false_eq_true, if_false]
  omega
theorem digits_len : ∀ (k u : Nat), u < 10 ^ (k + 1) → (Go.Lib.decDigits u).length ≤ k + 1
  | 0, u, h => by rw [Go.Lib.decDigits, dif_pos (by simpa using h)]; simp
  | k + 1, u, h => by
    rw [Go.Lib.decDigits]
    split
    · simp
    · have := digits_len k (u / 10) (by rw [Nat.pow_succ] at h; omega)
      simp; omega
theorem digit_b (u : Nat) (h : u < 10) : bstr ([(IntKind.u8.wrap (IntKind.i64.wrap (48 + (u : Int))))] : List Int) = ⟨#[UInt8.ofNat (48 + u)]⟩ := by
  rw [wr (by omega) (by omega), wr8 (by omega) (by omega)]
  unfold bstr
  have : ((48 : Int) + (u : Int)).toNat = 48 + u := by omega
  simp [this]
theorem num_nn : ∀ (N u : Nat), u < N → u < 1000000000000 → m_s_l2Num N (u : Int) = some ⟨(Go.Lib.decDigits u).toArray⟩ := by
  intro N
  induction N with
  | zero => intro u h; omega
  | succ N ih =>
    intro u hu hb
    have c1 : decide ((u : Int) < 0) = false := decide_eq_false (by omega)
    rw [Go.Lib.decDigits]
    simp only [m_s_l2Num, c1, Bool.false_eq_true, if_false]
    by_cases h : u < 10
    · have c2 : decide ((u : Int) < 10) = true := decide_eq_true (by omega)
      rw [dif_pos h]
      simp only [c2, if_true, digit_b u h]
    · have c2 : decide ((u : Int) < 10) = false := decide_eq_false (by omega)
      have e1 : IntKind.i64.wrap ((u : Int).tdiv 10) = ((u / 10 : Nat) : Int) := by
        rw [show (10 : Int) = ((10 : Nat) : Int) from rfl, ← Int.ofNat_tdiv]; exact wr (by omega) (by omega)
      have e2 : (u : Int).tmod 10 = ((u % 10 : Nat) : Int) := by
        rw [show (10 : Int) = ((10 : Nat) : Int) from rfl, ← Int.ofNat_tmod]
      have hl := digits_len 12 (u / 10) (by omega)
      rw [dif_neg h]
      simp only [c2, Bool.false_eq_true, if_false, e1, e2, digit_b (u % 10) (by omega), ih (u / 10) (by omega) (by omega), Option.bind_some]
      rw [cat_ok (show _ + _ ≤ _ by show (Go.Lib.decDigits (u / 10)).toArray.size + 1 ≤ _; simp; omega), Option.bind_some]
      unfold m_s_l2Num_j1
      refine congrArg some (ByteArray.ext ?_)
      simp [ByteArray.data_append]
theorem num_s {N : Nat} (hN : 1099000000000 ≤ N) {n : Int} (h0 : -1000000000 ≤ n) (h1 : n ≤ 1000000000) : m_s_l2Num N n = some (num n) := by
  unfold num Go.Lib.itoa
  by_cases h : n < 0
  · obtain ⟨N, rfl⟩ : ∃ m, N = m + 1 := ⟨N - 1, by omega⟩
    have c1 : decide (n < 0) = true := decide_eq_true h
    have e1 : IntKind.i64.wrap (0 - n) = ((n.natAbs : Nat) : Int) := by rw [wr (by omega) (by omega)]; omega
    have hl := digits_len 12 n.natAbs (by omega)
    rw [if_pos h]
    simp only [m_s_l2Num, c1, if_true, e1, num_nn N n.natAbs (by omega) (by omega), Option.bind_some]
    rw [cat_ok (show _ + _ ≤ _ by show 1 + (Go.Lib.decDigits n.natAbs).toArray.size ≤ _; simp; omega), Option.bind_some]
    refine congrArg some (ByteArray.ext ?_)
    simp [ByteArray.data_append]
  · rw [if_neg h]
    have := num_nn N n.toNat (by omega) (by omega)
    rw [show ((n.toNat : Nat) : Int) = n by omega] at this
    exact this
theorem num_len {n : Int} (h0 : -1000000000 ≤ n) (h1 : n ≤ 1000000000) : (num n).size ≤ 14 := by
  show (Go.Lib.itoa n).toArray.size ≤ 14
  unfold Go.Lib.itoa
  split
  · have := digits_len 12 n.natAbs (by omega); simp; omega
  · have := digits_len 12 n.toNat (by omega); simp; omega
def valText (v : TVal) : ByteArray := if v.K = 1 then num v.N else (⟨#[39]⟩ ++ v.S) ++ ⟨#[39]⟩
theorem valText_len {v : TVal} (h : okVal v = true) : (valText v).size ≤ 30 := by
  unfold okVal at h
  unfold valText
  split
  · rename_i k; rw [if_pos k] at h; simp only [Bool.and_eq_true, decide_eq_true_eq] at h
    have := num_len h.1.1 h.1.2; omega
  · rename_i k; rw [if_neg k] at h
    split at h
    · simp only [Bool.and_eq_true, decide_eq_true_eq] at h
      have h2 := h.2.2
      simp only [ByteArray.size_append]
      show 1 + v.S.size + 1 ≤ 30
      omega
    · cases h
theorem valN {v : TVal} (h : okVal v = true) (k : v.K = 1) : -1000000000 ≤ v.N ∧ v.N ≤ 1000000000 := by
  unfold okVal at h
  rw [if_pos k] at h; simp only [Bool.and_eq_true, decide_eq_true_eq] at h
  exact h.1
theorem quote_ok (s : ByteArray) (h : s.size ≤ 1048576) {β : Type} (f : ByteArray → Option β) : ((cat ⟨#[39]⟩ s).bind fun z1 => (cat z1 ⟨#[39]⟩).bind f) = f ((⟨#[39]⟩ ++ s) ++ ⟨#[39]⟩) := by
  rw [cat_ok (by show 1 + _ ≤ _; omega), Option.bind_some, cat_ok (by rw [ByteArray.size_append]; show 1 + _ + 1 ≤ _; omega), Option.bind_some]
theorem valT_i {N : Nat} (hN : 1099000000000 ≤ N) (v : TVal) (hs : v.S.size ≤ 1048576) (h : okVal v = true) : m_i_ValText N v = some (valText v) := by
  unfold m_i_ValText valText
  rw [val_i (by omega) v hs, h, Option.bind_some]
  by_cases k : v.K = 1
  · obtain ⟨h0, h1⟩ := valN h k
    simp only [k, decide_true, Bool.not_true, Bool.false_eq_true, if_false, if_true, itoa_i (N := N) (show -9223372036854775808 ≤ v.N by omega) (show v.N ≤ 9223372036854775807 by omega), Option.bind_some]
  · simp only [k, decide_false, Bool.not_true, Bool.false_eq_true, if_false]
    exact quote_ok v.S hs some
theorem valT_s {N : Nat} (hN : 1099000000000 ≤ N) (v : TVal) (hs : v.S.size ≤ 1048576) (h : okVal v = true) : m_s_l2Text N v = some (valText v) := by
  unfold m_s_l2Text valText
  by_cases k : v.K = 1
  · obtain ⟨h0, h1⟩ := valN h k
    simp only [k, decide_true, if_true, num_s hN h0 h1, Option.bind_some]
  · simp only [k, decide_false, Bool.false_eq_true, if_false]
    exact quote_ok v.S hs some
def argText (a : TArg) : ByteArray := if a.K = 1 then a.S else if a.K = 2 then valText a.V else ⟨#[95]⟩
theorem argVal {a : TArg} (h : okArg a = true) (k : a.K = 2) : okVal a.V = true := by
  unfold okArg at h
  rw [if_neg (by omega), if_pos k] at h
  simp only [Bool.and_eq_true] at h; exact h.1
theorem argT_i {N : Nat} (hN : 1099000000000 ≤ N) (a : TArg) (hs : SzArg a) (h : okArg a = true) : m_i_argText N a = some (argText a) := by
  unfold m_i_argText argText
  by_cases k1 : a.K = 1
  · simp only [k1, decide_true, if_true]
  · by_cases k2 : a.K = 2
    · have := valT_i hN a.V hs.2 (argVal h k2)
      simp only [k2, this, decide_true, if_true, Option.bind_some, show ¬ (2 : Int) = 1 by omega, decide_false, Bool.false_eq_true, if_false]
    · simp only [k1, k2, decide_false, Bool.false_eq_true, if_false]
theorem argT_s {N : Nat} (hN : 1099000000000 ≤ N) (a : TArg) (hs : SzArg a) (h : okArg a = true) : m_s_l6ArgText N a = some (argText a) := by
  unfold m_s_l6ArgText argText
  by_cases k1 : a.K = 1
  · simp only [k1, decide_true, if_true]
  · by_cases k2 : a.K = 2
    · have := valT_s hN a.V hs.2 (argVal h k2)
      simp only [k2, this, decide_true, if_true, Option.bind_some, show ¬ (2 : Int) = 1 by omega, decide_false, Bool.false_eq_true, if_false]
    · simp only [k1, k2, decide_false, Bool.false_eq_true, if_false]
theorem argText_len {a : TArg} (h : okArg a = true) : (argText a).size ≤ 30 := by
  unfold argText
  split
  · rename_i k
    unfold okArg at h
    rw [if_pos k] at h
    simp only [Bool.and_eq_true] at h
    have h1 := h.1
    unfold varOk at h1
    split at h1
    · cases h1
    · simp only [Bool.and_eq_true, decide_eq_true_eq] at h1; omega
  · split
    · rename_i k; exact valText_len (argVal h k)
    · show 1 ≤ 30; omega
def exprText (e : TExpr) : ByteArray := if okExpr e then (if seq e.Op ⟨#[]⟩ then argText e.L else (((argText e.L ++ ⟨#[32]⟩) ++ e.Op) ++ ⟨#[32]⟩) ++ argText e.R) else ⟨#[]⟩
theorem expr_args {e : TExpr} (h : okExpr e = true) : okArg e.L = true ∧ (seq e.Op ⟨#[]⟩ = false → okArg e.R = true ∧ e.Op.size ≤ 1) := by
  unfold okExpr at h
  cases c : seq e.Op ⟨#[]⟩ with
  | true =>
    rw [c] at h
    simp only [if_true, Bool.and_eq_true, given] at h
    exact ⟨h.1.1, fun h => by cases h⟩
  | false =>
    rw [c] at h
    simp only [Bool.false_eq_true, if_false, Bool.and_eq_true, Bool.or_eq_true, given] at h
    refine ⟨h.2.1.1, fun _ => ⟨h.2.2.1, ?_⟩⟩
    rcases h.1 with h1 | h1
    · rw [seq_eq, decide_eq_true_eq] at h1; rw [h1]; decide
    · rw [seq_eq, decide_eq_true_eq] at h1; rw [h1]; decide
theorem five_ok {a b c d e : ByteArray} (h : a.size + b.size + c.size + d.size + e.size ≤ 9223372036854775807) {β : Type} (f : ByteArray → Option β) :
    ((cat a b).bind fun z1 => (cat z1 c).bind fun z2 => (cat z2 d).bind fun z3 => (cat z3 e).bind f) = f ((((a ++ b) ++ c) ++ d) ++ e) := by
  rw [cat_ok (by omega), Option.bind_some, cat_ok (by rw [ByteArray.size_append]; omega), Option.bind_some, cat_ok (by rw [ByteArray.size_append, ByteArray.size_append]; omega), Option.bind_some, cat_ok (by rw [ByteArray.size_append, ByteArray.size_append, ByteArray.size_append]; omega), Option.bind_some]
theorem exprT_i {N : Nat} (hN : 1099000000000 ≤ N) (e : TExpr) (hs : SzExpr e) : m_i_ExprText N e = some (exprText e) := by
  unfold m_i_ExprText exprText
  rw [expr_i hN e hs, Option.bind_some]
  cases h : okExpr e with
  | false => simp
  | true =>
    obtain ⟨h1, h2⟩ := expr_args h
    simp only [Bool.not_true, Bool.false_eq_true, if_false, if_true, argT_i hN e.L hs.2.1 h1, Option.bind_some]
    cases c : seq e.Op ⟨#[]⟩ with
    | true => simp
    | false =>
      obtain ⟨h3, h4⟩ := h2 c
      have l1 := argText_len h1
      have l2 := argText_len h3
      simp only [Bool.false_eq_true, if_false, argT_i hN e.R hs.2.2 h3, Option.bind_some]
      exact five_ok (show _ + 1 + _ + 1 + _ ≤ _ by omega) some
theorem exprT_s {N : Nat} (hN : 1099000000000 ≤ N) (e : TExpr) (hs : SzExpr e) : m_s_ExprText N e = some (exprText e) := by
  unfold m_s_ExprText exprText
  rw [expr_s hN e hs, Option.bind_some]
  cases h : okExpr e with
  | false => simp
  | true =>
    obtain ⟨h1, h2⟩ := expr_args h
    simp only [Bool.not_true, Bool.false_eq_true, if_false, if_true, argT_s hN e.L hs.2.1 h1, Option.bind_some]
    cases c : seq e.Op ⟨#[]⟩ with
    | true => simp
    | false =>
      obtain ⟨h3, h4⟩ := h2 c
      have l1 := argText_len h1
      have l2 := argText_len h3
      simp only [Bool.false_eq_true, if_false, argT_s hN e.R hs.2.2 h3, Option.bind_some]
      exact five_ok (show _ + 1 + _ + 1 + _ ≤ _ by omega) some
end Go.Proofs.YtlfpehhlkccdiaaDoor
namespace Go.Proofs.YtlfpehhlkccdiaaDoor
open Eng
set_option linter.unusedVariables false
set_option linter.unusedSimpArgs false
theorem szExpr_of (e : TExpr) (h : totTExpr e ≤ 1048576) : SzExpr e := by
  unfold totTExpr totTArg totTVal at h
  refine ⟨by omega, ⟨by omega, by omega⟩, ⟨by omega, by omega⟩⟩
end Go.Proofs.YtlfpehhlkccdiaaDoor
namespace Go.Proofs.YtlfpehhlkccdiaaDoor
open Eng
theorem c_ExprText {N : Nat} (hN : 1099000000000 ≤ N) (e : TExpr) (h : totTExpr e ≤ 1048576) : ∃ r, m_s_ExprText N e = some r ∧ m_i_ExprText N e = some r := ⟨_, exprT_s hN e (szExpr_of e h), exprT_i hN e (szExpr_of e h)⟩
end Go.Proofs.YtlfpehhlkccdiaaDoor
namespace Go.Proofs.YtlfpehhlkccdiaaDoor
open Eng
set_option linter.unusedVariables false
set_option linter.unusedSimpArgs false
set_option maxRecDepth 10000
theorem law_FnExactExprText {x0 : TExpr} (w0 : WfTExpr x0) {N : Nat} (hN0 : 1099400000000 ≤ N) : m_l_FnExactExprText N x0 = some true := by
  have hN : 1099000000000 ≤ N := by omega
  unfold m_l_FnExactExprText
  obtain ⟨v0, hv0, hs0⟩ := sz_m_l_szExpr hN x0 w0 1048576 (by omega) (by omega)
  rw [hv0]; simp only [Option.bind_some]
  by_cases c0 : v0 < 0
  · rw [if_pos (by simpa using c0)]
  rw [if_neg (by simpa using c0)]
  replace hs0 := hs0.resolve_left c0
  have n0 := totTExpr_nn x0
  have t0 : totTExpr x0 ≤ 1048576 := by omega
  obtain ⟨r, hr, hi⟩ := c_ExprText (N := N) (by omega) x0 t0
  simp only [to_m_l_toExpr hN x0, hr, hi, seq_self, Option.bind_some, decide_true, bne_self_eq_false, Bool.not_true, Bool.not_false, Bool.false_eq_true, if_false, if_true]
namespace fnExactExprText
theorem law {x0 : TExpr} (w0 : WfTExpr x0) : m_l_FnExactExprText 1099511627776 x0 = some true := law_FnExactExprText w0 (by omega)
end fnExactExprText
end Go.Proofs.YtlfpehhlkccdiaaDoor
