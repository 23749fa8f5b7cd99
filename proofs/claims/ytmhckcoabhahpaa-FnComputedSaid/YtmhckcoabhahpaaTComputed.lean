/- Plain laws, one after the other: PLComputed. -/
import Derived.Test.YtmhckcoabhahpaaPLib
import Derived.Test.YtmhckcoabhahpaaWComputedPur
import Derived.Test.YtmhckcoabhahpaaWComputedMod
/-
  Plain laws of common loops, for the cores. No program.
-/
namespace Go.Proofs.Ytmhckcoabhahpaa
open Eng
set_option linter.unusedVariables false
set_option linter.unusedSimpArgs false
theorem app_ok {α : Type} {xs ys : List α} (h : xs.length + ys.length ≤ 4294967296) : app xs ys = some (xs ++ ys) := by unfold app; rw [if_pos h]
/-- Are all, from i0 on? z: what is said at the end. -/
theorem allfrom {α : Type} (f : Nat → Int → Option Bool) (xs : List α) (hl : xs.length ≤ 4294967296) (p : α → Bool) (z : Bool) (i0 : Nat)
    (hs : ∀ n (i : Nat) (x : α), i0 ≤ i → idx xs (i : Int) = some x → x ∈ xs → decide ((i : Int) < (xs.length : Int)) = true → IntKind.i64.wrap ((i : Int) + 1) = ((i + 1 : Nat) : Int) → f (n + 1) i = if p x then f n ((i + 1 : Nat) : Int) else some false)
    (he : ∀ n (i : Nat), decide ((i : Int) < (xs.length : Int)) = false → f (n + 1) i = some z) :
    ∀ (n i : Nat), i0 ≤ i → i ≤ xs.length → xs.length - i < n → f n i = some ((xs.drop i).all p && z) := by
  intro n
  induction n with
  | zero => intro i _ _ h; omega
  | succ n ih =>
    intro i h0 hi hn
    by_cases hlt : i < xs.length
    · rw [List.drop_eq_getElem_cons hlt, List.all_cons, hs n i xs[i] h0 (idx_nat_lt hlt) (List.getElem_mem hlt) (decide_eq_true (by omega)) (wr1 i (by omega)), ih (i + 1) (by omega) (by omega) (by omega)]
      cases p xs[i] <;> simp
    · rw [he n i (decide_eq_false (by omega)), List.drop_of_length_le (by omega), List.all_nil, Bool.true_and]
theorem andS (a b : Bool) : (if a = true then some b else some false) = some (a && b) := by cases a <;> rfl
theorem orS (a b : Bool) : (if a = true then some true else some b) = some (a || b) := by cases a <;> rfl
end Go.Proofs.Ytmhckcoabhahpaa
/-
  Plain laws of loops over lists, one law for all. No program.
-/
namespace Go.Proofs.Ytmhckcoabhahpaa
open Eng
set_option linter.unusedVariables false
set_option linter.unusedSimpArgs false
/-- A loop over a row from place i on, with a state s, computes G of what is left and s; I is what holds of the state and what is left. -/
theorem lp {σ α β : Type} (xs : List α) (hl : xs.length ≤ 4294967296) (f : Nat → σ → Int → Option β) (G : List α → σ → Option β) (I : σ → List α → Prop)
    (hs : ∀ n s (i : Nat) (x : α) (t : List α), xs.drop i = x :: t → x ∈ xs → i < xs.length → idx xs (i : Int) = some x → decide ((i : Int) < (xs.length : Int)) = true → IntKind.i64.wrap ((i : Int) + 1) = ((i + 1 : Nat) : Int) → I s (x :: t) →
      (∀ s', I s' t → f n s' ((i + 1 : Nat) : Int) = G t s') → f (n + 1) s i = G (x :: t) s)
    (he : ∀ n s (i : Nat), i = xs.length → decide ((i : Int) < (xs.length : Int)) = false → I s [] → f (n + 1) s i = G [] s) :
    ∀ (n i : Nat) (s : σ), i ≤ xs.length → xs.length - i < n → I s (xs.drop i) → f n s i = G (xs.drop i) s := by
  intro n
  induction n with
  | zero => intro i s _ h; omega
  | succ n ih =>
    intro i s hi hn hI
    by_cases hlt : i < xs.length
    · have hd := List.drop_eq_getElem_cons hlt
      rw [hd] at hI ⊢
      exact hs n s i _ _ hd (List.getElem_mem hlt) hlt (idx_nat_lt hlt) (decide_eq_true (by omega)) (wr1 i (by omega)) hI (fun s' hs' => ih (i + 1) s' (by omega) (by omega) hs')
    · have hd : xs.drop i = [] := List.drop_of_length_le (by omega)
      rw [hd] at hI ⊢
      exact he n s i (by omega) (decide_eq_false (by omega)) hI
/-- The same from the start. -/
theorem lp' {σ α β : Type} {N : Nat} (hN : 1099000000000 ≤ N) (xs : List α) (hl : xs.length ≤ 4294967296) (f : Nat → σ → Int → Option β) (G : List α → σ → Option β) (I : σ → List α → Prop) (s : σ) (h0 : I s xs)
    (hs : ∀ n s (i : Nat) (x : α) (t : List α), xs.drop i = x :: t → x ∈ xs → i < xs.length → idx xs (i : Int) = some x → decide ((i : Int) < (xs.length : Int)) = true → IntKind.i64.wrap ((i : Int) + 1) = ((i + 1 : Nat) : Int) → I s (x :: t) →
      (∀ s', I s' t → f n s' ((i + 1 : Nat) : Int) = G t s') → f (n + 1) s i = G (x :: t) s)
    (he : ∀ n s (i : Nat), i = xs.length → decide ((i : Int) < (xs.length : Int)) = false → I s [] → f (n + 1) s i = G [] s) : f N s 0 = G xs s := by
  have := lp xs hl f G I hs he N 0 s (by omega) (by omega) (by simpa using h0)
  simpa using this
end Go.Proofs.Ytmhckcoabhahpaa
namespace Go.Proofs.Ytmhckcoabhahpaa
open Eng
set_option linter.unusedVariables false
set_option linter.unusedSimpArgs false
instance memDec (v : ByteArray) (xs : List ByteArray) : Decidable (v ∈ xs) := @List.instDecidableMemOfLawfulBEq _ instBEqOfDecidableEq _ v xs
end Go.Proofs.Ytmhckcoabhahpaa
namespace Go.Proofs.Ytmhckcoabhahpaa
open Eng
set_option linter.unusedVariables false
set_option linter.unusedSimpArgs false
/-- A loop that goes through a list as long as a test holds. -/
theorem rangeloop (f : Nat → Int → Option Bool) (n0 : Nat) (hm : n0 ≤ 4611686018427387903) (e : Nat → Bool) (z : Bool)
    (h : ∀ k (i : Nat), i < n0 → f (k + 1) i = if e i then f k (IntKind.i64.wrap ((i : Int) + 1)) else some false) (hz : ∀ k (i : Nat), i = n0 → f (k + 1) i = some z) :
    ∀ (n i : Nat), i ≤ n0 → n0 - i < n → f n i = some (((List.range n0).drop i).all e && z) := by
  intro n
  induction n with
  | zero => intro i _ h; omega
  | succ n ih =>
    intro i hi hn
    by_cases hlt : i < n0
    · rw [h n i hlt, List.drop_eq_getElem_cons (by simpa using hlt), List.getElem_range, List.all_cons]
      cases he : e i with
      | false => simp
      | true => simp only [if_true, Bool.true_and]; rw [wr1 i (by omega), ih (i + 1) (by omega) (by omega)]
    · have : i = n0 := by omega
      rw [hz n i this, List.drop_of_length_le (by simp; omega)]
      simp
theorem in0 (N : Nat) (a b c : Int) : m_s_l1In N a b c = some (decide (b ≤ a) && decide (a ≤ c)) := by
  unfold m_s_l1In
  by_cases h : b ≤ a <;> simp [h]
theorem in1 (N : Nat) (a b c : Int) : m_i_inRange N a b c = some (decide (b ≤ a) && decide (a ≤ c)) := by
  unfold m_i_inRange
  by_cases h : b ≤ a <;> simp [h]
theorem wrU (y : UInt8) : IntKind.i64.wrap (y.toNat : Int) = (y.toNat : Int) := wr (by omega) (by have := y.toNat_lt; omega)
def letter (y : UInt8) : Bool := (decide (97 ≤ (y.toNat : Int)) && decide ((y.toNat : Int) ≤ 122)) || (decide (48 ≤ (y.toNat : Int)) && decide ((y.toNat : Int) ≤ 57)) || decide ((y.toNat : Int) = 95)
theorem letter_s (N : Nat) (y : UInt8) : m_s_l1Letter N (y.toNat : Int) = some (letter y) := by
  unfold m_s_l1Letter letter
  simp only [wrU, in0, Option.bind_some]
  by_cases h1 : (decide (97 ≤ (y.toNat : Int)) && decide ((y.toNat : Int) ≤ 122)) = true
  · simp [h1]
  · rw [if_neg h1]
    simp only [Option.bind_some]
    rw [Bool.eq_false_iff.2 h1, Bool.false_or]
    by_cases h2 : (decide (48 ≤ (y.toNat : Int)) && decide ((y.toNat : Int) ≤ 57)) = true
    · simp [h2]
    · rw [if_neg h2, Bool.eq_false_iff.2 h2, Bool.false_or]; rfl
theorem letter_i (N : Nat) (y : UInt8) : m_i_isWordByte N (y.toNat : Int) = some (letter y) := by
  unfold m_i_isWordByte m_i_isSmall m_i_isDigit letter
  generalize (y.toNat : Int) = n
  rw [andS, andS, Option.bind_some, Option.bind_some, Option.bind_some, Option.bind_some, orS, Option.bind_some, orS]
  rfl
def wordAll (s : ByteArray) : Bool := ((List.range s.size).drop 0).all (fun i => match s.data.toList[i]? with | some y => letter y | none => false)
theorem size_data (s : ByteArray) : s.data.toList.length = s.size := rfl
theorem plain_s {N : Nat} (hN : 1048578 ≤ N) (s : ByteArray) (hs : s.size ≤ 1048576) : m_s_l2Plain N s = some (wordAll s && decide ((s.size : Int) ≤ 20)) := by
  unfold m_s_l2Plain
  refine rangeloop (fun n i => m_s_l2Plain_l1 N s n i) s.size (by omega) _ _ (fun k i hi => ?_) (fun k i hi => ?_) N 0 (by omega) (by omega)
  · have hi' : i < s.data.toList.length := by rw [size_data]; exact hi
    simp only [m_s_l2Plain_l1, idx_nat_lt hi', Option.bind_some, letter_s, List.getElem?_eq_getElem hi']
    rw [if_pos (by simp; omega)]
    cases letter s.data.toList[i] <;> simp
  · simp only [m_s_l2Plain_l1]
    rw [if_neg (by simp; omega)]
theorem word_i {N : Nat} (hN : 1048578 ≤ N) (s : ByteArray) (n : Int) (hs : s.size ≤ 1048576) : m_i_isWord N s n = some (wordAll s && decide ((s.size : Int) ≤ n)) := by
  unfold m_i_isWord
  have : m_i_isWord_l1 N s N 0 = some (wordAll s && true) := by
    refine rangeloop (fun n i => m_i_isWord_l1 N s n i) s.size (by omega) _ _ (fun k i hi => ?_) (fun k i hi => ?_) N 0 (by omega) (by omega)
    · have hi' : i < s.data.toList.length := by rw [size_data]; exact hi
      simp only [m_i_isWord_l1, idx_nat_lt hi', Option.bind_some, letter_i, List.getElem?_eq_getElem hi']
      rw [if_pos (by simp; omega)]
      cases letter s.data.toList[i] <;> simp
    · simp only [m_i_isWord_l1]
      rw [if_neg (by simp; omega)]
  rw [this]
  by_cases h : n < (s.size : Int)
  · rw [if_pos (by simpa using h), decide_eq_false (by omega), Bool.and_false]
  · rw [if_neg (by simpa using h), decide_eq_true (show (s.size : Int) ≤ n by omega)]
theorem val_s {N : Nat} (hN : 1048578 ≤ N) (v : TVal) (hs : v.S.size ≤ 1048576) : m_s_ValOk N v = m_i_ValOk N v := by
  unfold m_s_ValOk m_i_ValOk
  rw [plain_s hN _ hs, word_i hN _ _ hs, in0, in1]
  by_cases h1 : v.K = 1
  · simp [h1]
  · by_cases h2 : v.K = 2
    · simp only [h2, andS, orS, Option.bind_some]
      cases decide (v.N = 0) <;> cases wordAll v.S <;> cases decide ((v.S.size : Int) ≤ 20) <;> rfl
    · simp [h1, h2]
def okVal (v : TVal) : Bool := if v.K = 1 then (decide (-1000000000 ≤ v.N) && decide (v.N ≤ 1000000000)) && seq v.S ⟨#[]⟩ else if v.K = 2 then decide (v.N = 0) && (wordAll v.S && decide ((v.S.size : Int) ≤ 20)) else false
theorem val_i {N : Nat} (hN : 1048578 ≤ N) (v : TVal) (hs : v.S.size ≤ 1048576) : m_i_ValOk N v = some (okVal v) := by
  unfold m_i_ValOk okVal
  rw [word_i hN _ _ hs, in1]
  by_cases h1 : v.K = 1
  · simp only [h1, decide_true, if_true, Option.bind_some]
    cases (decide (-1000000000 ≤ v.N) && decide (v.N ≤ 1000000000)) <;> simp
  · by_cases h2 : v.K = 2
    · by_cases h3 : v.N = 0 <;> simp [h2, h3]
    · simp [h1, h2]
end Go.Proofs.Ytmhckcoabhahpaa
namespace Go.Proofs.Ytmhckcoabhahpaa
open Eng
set_option linter.unusedVariables false
set_option linter.unusedSimpArgs false
def large (y : UInt8) : Bool := decide (65 ≤ (y.toNat : Int)) && decide ((y.toNat : Int) ≤ 90)
theorem large_i (N : Nat) (y : UInt8) : m_i_isLarge N (y.toNat : Int) = some (large y) := by
  unfold m_i_isLarge large; cases decide (65 ≤ (y.toNat : Int)) <;> rfl
theorem large_s (N : Nat) (y : UInt8) : m_s_l5Large N (y.toNat : Int) = some (large y) := by
  unfold m_s_l5Large large; rw [wrU, in0]; rfl
def varOk (s : ByteArray) : Bool := match s.data.toList with
  | [] => false
  | b :: t => large b && (t.all (fun y => letter y || large y) && decide ((s.size : Int) ≤ 12))
theorem var_i {N : Nat} (hN : 1099000000000 ≤ N) (s : ByteArray) (hs : s.size ≤ 1048576) : m_i_isVar N s = some (varOk s) := by
  have hsz : s.size = s.data.toList.length := rfl
  have lp := allfrom (m_i_isVar_l1 N s) s.data.toList (by omega) (fun y => letter y || large y) true 0 (fun n i y _ hx _ hc hw => by
    rw [← hsz] at hc
    simp only [m_i_isVar_l1, hc, if_true, hx, Option.bind_some, letter_i, large_i, hw]
    cases letter y <;> cases large y <;> rfl) (fun n i hc => by rw [← hsz] at hc; simp only [m_i_isVar_l1, hc, Bool.false_eq_true, if_false])
  unfold m_i_isVar varOk
  cases hd : s.data.toList with
  | nil =>
    have : s.size = 0 := by rw [hsz, hd]; rfl
    rw [this]; rfl
  | cons b t =>
    have h1 : s.size = t.length + 1 := by rw [hsz, hd]; rfl
    have c1 : decide ((s.size : Int) < 1) = false := decide_eq_false (by omega)
    have := lp N 0 (by omega) (by omega) (by omega)
    rw [hd] at this
    have hi : idx (b :: t) 0 = some b := rfl
    simp only [c1, Bool.false_eq_true, if_false, Option.bind_some, hi, large_i]
    by_cases c2 : (s.size : Int) ≤ 12
    · have c3 : decide (12 < (s.size : Int)) = false := decide_eq_false (by omega)
      simp only [c2, c3, decide_true, Bool.and_true, Bool.false_eq_true, if_false, Option.bind_some]
      cases hb : large b with
      | false => rfl
      | true =>
        simp only [Bool.not_true, Bool.false_eq_true, if_false, Bool.true_and]
        refine this.trans ?_
        simp [hb]
    · have c3 : decide (12 < (s.size : Int)) = true := decide_eq_true (by omega)
      simp only [c2, c3, decide_false, Bool.and_false, if_true, Option.bind_some]
theorem var_s {N : Nat} (hN : 1099000000000 ≤ N) (s : ByteArray) (hs : s.size ≤ 1048576) : m_s_l5VarOk N s = some (varOk s) := by
  have hsz : s.size = s.data.toList.length := rfl
  have lp := allfrom (m_s_l5VarOk_l1 N s) s.data.toList (by omega) (fun y => letter y || large y) (decide (1 ≤ (s.size : Int)) && decide ((s.size : Int) ≤ 12)) 1 (fun n i y h1 hx _ hc hw => by
    rw [← hsz] at hc
    have h0 : decide ((i : Int) = 0) = false := decide_eq_false (by omega)
    simp only [m_s_l5VarOk_l1, hc, if_true, hx, Option.bind_some, letter_s, large_s, hw, h0, Bool.false_eq_true, if_false]
    cases letter y <;> cases large y <;> rfl) (fun n i hc => by rw [← hsz] at hc; simp only [m_s_l5VarOk_l1, hc, Bool.false_eq_true, if_false, in0, Option.bind_some])
  unfold m_s_l5VarOk varOk
  obtain ⟨n, rfl⟩ : ∃ n, N = n + 1 := ⟨N - 1, by omega⟩
  cases hd : s.data.toList with
  | nil =>
    have : s.size = 0 := by rw [hsz, hd]; rfl
    simp only [m_s_l5VarOk_l1, this, in0]; rfl
  | cons b t =>
    have h1 : s.size = t.length + 1 := by rw [hsz, hd]; rfl
    have c1 : decide ((0 : Int) < (s.size : Int)) = true := decide_eq_true (by omega)
    have := lp n 1 (by omega) (by omega) (by omega)
    rw [hd] at this
    have hi : idx (b :: t) 0 = some b := rfl
    simp only [m_s_l5VarOk_l1, c1, if_true, hd, hi, Option.bind_some, large_s, decide_true]
    cases hb : large b with
    | false => rfl
    | true =>
      simp only [Bool.not_true, Bool.false_eq_true, if_false, Option.bind_some, Bool.true_and]
      rw [show IntKind.i64.wrap ((0 : Int) + 1) = ((1 : Nat) : Int) from wr1 0 (by omega)]
      refine this.trans ?_
      simp [show (1 : Int) ≤ (s.size : Int) by omega]
def SzArg (a : TArg) : Prop := a.S.size ≤ 1048576 ∧ a.V.S.size ≤ 1048576
def okArg (a : TArg) : Bool := if a.K = 1 then varOk a.S && eqT_TVal a.V ⟨0, 0, ⟨#[]⟩⟩ else if a.K = 2 then okVal a.V && seq a.S ⟨#[]⟩ else if a.K = 3 then seq a.S ⟨#[]⟩ && eqT_TVal a.V ⟨0, 0, ⟨#[]⟩⟩ else false
theorem arg_s {N : Nat} (hN : 1099000000000 ≤ N) (a : TArg) (h : SzArg a) : m_s_ArgOk N a = some (okArg a) := by
  unfold m_s_ArgOk okArg
  rw [var_s hN _ h.1, val_s (by omega) _ h.2, val_i (by omega) _ h.2]
  simp only [Option.bind_some, andS, decide_eq_true_eq]
  split <;> (try split) <;> (try split) <;> rfl
theorem arg_i {N : Nat} (hN : 1099000000000 ≤ N) (a : TArg) (h : SzArg a) : m_i_ArgOk N a = some (okArg a) := by
  unfold m_i_ArgOk okArg
  rw [var_i hN _ h.1, val_i (by omega) _ h.2]
  simp only [Option.bind_some, andS, decide_eq_true_eq, Bool.and_comm]
  split <;> (try split) <;> (try split) <;> simp [Bool.and_comm]
def given (a : TArg) : Bool := okArg a && !decide (a.K = 3)
theorem given_s {N : Nat} (hN : 1099000000000 ≤ N) (a : TArg) (h : SzArg a) : m_s_l8Given N a = some (given a) := by
  unfold m_s_l8Given given; simp only [arg_s hN a h, Option.bind_some, andS]
theorem given_i {N : Nat} (hN : 1099000000000 ≤ N) (a : TArg) (h : SzArg a) : m_i_isTerm N a = some (given a) := by
  unfold m_i_isTerm given; simp only [arg_i hN a h, Option.bind_some, andS, Bool.and_comm]
def SzExpr (e : TExpr) : Prop := e.Op.size ≤ 1048576 ∧ SzArg e.L ∧ SzArg e.R
def okExpr (e : TExpr) : Bool := if seq e.Op ⟨#[]⟩ then given e.L && eqT_TArg e.R ⟨0, ⟨#[]⟩, ⟨0, 0, ⟨#[]⟩⟩⟩ else (seq e.Op ⟨#[43]⟩ || seq e.Op ⟨#[45]⟩) && (given e.L && given e.R)
theorem expr_s {N : Nat} (hN : 1099000000000 ≤ N) (e : TExpr) (h : SzExpr e) : m_s_ExprOk N e = some (okExpr e) := by
  unfold m_s_ExprOk m_s_ExprOk_j1 okExpr
  simp only [given_s hN _ h.2.1, given_s hN _ h.2.2, Option.bind_some, andS]
  cases seq e.Op ⟨#[]⟩ <;> cases seq e.Op ⟨#[43]⟩ <;> cases seq e.Op ⟨#[45]⟩ <;> rfl
theorem expr_i {N : Nat} (hN : 1099000000000 ≤ N) (e : TExpr) (h : SzExpr e) : m_i_ExprOk N e = some (okExpr e) := by
  unfold m_i_ExprOk m_i_ExprOk_j1 okExpr
  simp only [given_i hN _ h.2.1, given_i hN _ h.2.2, Option.bind_some, andS]
  cases seq e.Op ⟨#[]⟩ <;> cases seq e.Op ⟨#[43]⟩ <;> cases seq e.Op ⟨#[45]⟩ <;> rfl
end Go.Proofs.Ytmhckcoabhahpaa
namespace Go.Proofs.Ytmhckcoabhahpaa
open Eng
set_option linter.unusedVariables false
set_option linter.unusedSimpArgs false
theorem bindOf (N : Nat) (p0 : List TBind) (p1 : ByteArray) : m_s_BindOf N p0 p1 = m_i_BindOf N p0 p1 := by
  unfold m_s_BindOf m_i_BindOf
  have : ∀ n i, m_s_BindOf_l1 N p0 p1 n i = m_i_BindOf_l1 N p0 p1 n i := by
    intro n
    induction n with
    | zero => intro i; rfl
    | succ n ih =>
      intro i
      simp only [m_s_BindOf_l1, m_i_BindOf_l1, ih]
      split
      · cases idx p0 i with
        | none => rfl
        | some b => rfl
      · rfl
  exact this N 0
theorem bindOf_some {N : Nat} (hN : 1048578 ≤ N) (p0 : List TBind) (p1 : ByteArray) (hl : p0.length ≤ 1048576) (P : TVal → Prop) (hz : P ⟨0, 0, ⟨#[]⟩⟩) (hp : ∀ b ∈ p0, P b.V) : ∃ v b, m_i_BindOf N p0 p1 = some (v, b) ∧ P v ∧ (b = false → v = ⟨0, 0, ⟨#[]⟩⟩) := by
  unfold m_i_BindOf
  have : ∀ n i : Nat, i ≤ p0.length → p0.length - i < n → ∃ v b, m_i_BindOf_l1 N p0 p1 n i = some (v, b) ∧ P v ∧ (b = false → v = ⟨0, 0, ⟨#[]⟩⟩) := by
    intro n
    induction n with
    | zero => intro i _ h; omega
    | succ n ih =>
      intro i hi hn
      simp only [m_i_BindOf_l1]
      by_cases hlt : i < p0.length
      · rw [if_pos (by simp; omega), idx_nat_lt hlt, Option.bind_some]
        split
        · exact ⟨_, _, rfl, hp _ (List.getElem_mem hlt), fun h => by cases h⟩
        · rw [wr1 i (by omega)]; exact ih (i + 1) (by omega) (by omega)
      · rw [if_neg (by simp; omega)]
        exact ⟨_, _, rfl, hz, fun _ => rfl⟩
  exact this N 0 (by omega) (by omega)
def zv : TVal := ⟨0, 0, ⟨#[]⟩⟩
theorem argVal_some {N : Nat} (hN : 1048578 ≤ N) (a : TArg) (p : List TBind) (hl : p.length ≤ 1048576) (hs : ∀ b ∈ p, b.V.S.size ≤ 1048576) (ha : a.V.S.size ≤ 1048576) :
    ∃ v b, m_i_ArgVal N a p = some (v, b) ∧ m_s_ArgVal N a p = some (v, b) ∧ v.S.size ≤ 1048576 ∧ (b = false → v = zv) := by
  unfold m_i_ArgVal m_s_ArgVal
  rw [bindOf]
  obtain ⟨v, b, h, hv, hb⟩ := bindOf_some hN p a.S hl (fun v => v.S.size ≤ 1048576) (by decide) hs
  rw [h]
  by_cases h2 : a.K = 2
  · simp only [h2, decide_true, if_true]; exact ⟨_, _, rfl, rfl, ha, fun h => by cases h⟩
  by_cases h1 : a.K = 1
  · simp only [h1, decide_true, if_true]
    exact ⟨v, b, rfl, rfl, hv, hb⟩
  · simp only [h1, h2, decide_false, Bool.false_eq_true, if_false]; exact ⟨_, _, rfl, rfl, by decide, fun _ => rfl⟩
theorem sum_eq {N : Nat} (hN : 1048578 ≤ N) (a b : TVal) (n : Int) (ha : a.S.size ≤ 1048576) (hb : b.S.size ≤ 1048576) :
    m_s_l2Sum N a b n = some (if (decide (a.K = 1) && decide (b.K = 1) && okVal a && okVal b && okVal ⟨1, n, ⟨#[]⟩⟩) = true then (⟨1, n, ⟨#[]⟩⟩, true) else (zv, false)) := by
  unfold m_s_l2Sum
  simp only [val_s hN _ ha, val_s hN _ hb, val_s hN ⟨1, n, ⟨#[]⟩⟩ (Nat.zero_le _), val_i hN _ ha, val_i hN _ hb, val_i hN ⟨1, n, ⟨#[]⟩⟩ (Nat.zero_le _), Option.bind_some, orS]
  cases decide (a.K = 1) <;> cases decide (b.K = 1) <;> cases okVal a <;> cases okVal b <;> cases okVal ⟨1, n, ⟨#[]⟩⟩ <;> rfl
theorem ints_eq {N : Nat} (hN : 1048578 ≤ N) (a b : TVal) (n : Int) (ha : a.S.size ≤ 1048576) (hb : b.S.size ≤ 1048576) :
    ((m_i_areInts N a b).bind fun x1 => (if !x1 then some ((⟨0, 0, (⟨#[]⟩ : ByteArray)⟩ : TVal), false) else ((m_i_intVal N n).bind fun x2 => some (x2.1, x2.2)))) = some (if (decide (a.K = 1) && decide (b.K = 1) && okVal a && okVal b && okVal ⟨1, n, ⟨#[]⟩⟩) = true then (⟨1, n, ⟨#[]⟩⟩, true) else (zv, false)) := by
  unfold m_i_areInts m_i_intVal
  simp only [val_i hN _ ha, val_i hN _ hb, val_i hN ⟨1, n, ⟨#[]⟩⟩ (Nat.zero_le _), Option.bind_some, andS]
  cases decide (a.K = 1) <;> cases decide (b.K = 1) <;> cases okVal a <;> cases okVal b <;> cases okVal ⟨1, n, ⟨#[]⟩⟩ <;> rfl
theorem core_Compute {N : Nat} (hN : 1048578 ≤ N) (e : TExpr) (p : List TBind) (hl : p.length ≤ 1048576) (hs : ∀ b ∈ p, b.V.S.size ≤ 1048576) (h1 : e.L.V.S.size ≤ 1048576) (h2 : e.R.V.S.size ≤ 1048576) : ∃ r, m_s_Compute N e p = some r ∧ m_i_Compute N e p = some r := by
  unfold m_s_Compute m_i_Compute m_s_AddVals m_s_SubVals m_i_AddVals m_i_SubVals
  obtain ⟨v, b, hi, hs', hv, hz⟩ := argVal_some hN e.L p hl hs h1
  obtain ⟨v', b', hi', hs'', hv', hz'⟩ := argVal_some hN e.R p hl hs h2
  simp only [hi, hs', hi', hs'', Option.bind_some, sum_eq hN _ _ _ hv hv', ints_eq hN _ _ _ hv hv', orS, andS]
  cases b with
  | false => rw [hz rfl]; exact ⟨_, rfl, rfl⟩
  | true =>
    cases seq e.Op ⟨#[]⟩ with
    | true => exact ⟨_, rfl, rfl⟩
    | false =>
      cases b' with
      | false => exact ⟨_, rfl, rfl⟩
      | true =>
        cases seq e.Op ⟨#[43]⟩ with
        | true => exact ⟨_, rfl, rfl⟩
        | false => cases seq e.Op ⟨#[45]⟩ <;> exact ⟨_, rfl, rfl⟩
end Go.Proofs.Ytmhckcoabhahpaa
namespace Go.Proofs.Ytmhckcoabhahpaa
open Eng
set_option linter.unusedVariables false
set_option linter.unusedSimpArgs false
theorem and_le (i : Int) (m : Nat) (h : m < 4611686018427387904) : 0 ≤ andI .i64 i (m : Int) ∧ andI .i64 i (m : Int) ≤ (m : Int) := by
  unfold andI
  have h1 : ((BitVec.ofInt IntKind.i64.bits i) &&& (BitVec.ofInt IntKind.i64.bits (m : Int))).toNat ≤ m := by
    rw [BitVec.toNat_and]
    have h2 : (BitVec.ofInt IntKind.i64.bits (m : Int)).toNat = m := by
      rw [BitVec.toNat_ofInt]
      have : ((2 ^ IntKind.i64.bits : Nat) : Int) = 18446744073709551616 := by decide
      rw [this, Int.emod_eq_of_lt (by omega) (by omega)]
      simp
    rw [h2]; exact Nat.and_le_right
  rw [wr (by omega) (by omega)]
  omega
theorem and255 (i : Int) : 0 ≤ andI .i64 i 255 ∧ andI .i64 i 255 ≤ 255 := and_le i 255 (by omega)
/-- A cursor over the bytes b. -/
def GC (b : List Int) (c : Tl1Cur) : Prop := c.b = b ∧ 0 ≤ c.i ∧ c.i ≤ (b.length : Int)
theorem GC.re {b : List Int} {c d : Tl1Cur} (h : GC b c) (h' : d.b = b) : GC b (⟨d.b, c.i, c.h⟩ : Tl1Cur) := ⟨h', h.2⟩
theorem new_ok {N : Nat} (hN : 1099000000000 ≤ N) (b : List Int) (hb : b.length ≤ 1048576) : ∃ c, m_s_l1New N b = some c ∧ GC b c := by
  unfold m_s_l1New
  have : ∀ (n i : Nat) (h : Int), i ≤ b.length → b.length - i < n → ∃ c, m_s_l1New_l1 N b n h i = some c ∧ GC b c := by
    intro n
    induction n with
    | zero => intro i h _ h'; omega
    | succ n ih =>
      intro i h hi hn
      simp only [m_s_l1New_l1]
      by_cases hlt : i < b.length
      · have c1 : decide ((i : Int) < (b.length : Int)) = true := decide_eq_true (by omega)
        simp only [c1, if_true, Option.bind_some, idx_nat_lt hlt, wr1 i (by omega)]
        split
        · exact ih (i + 1) _ (by omega) (by omega)
        · exact ⟨_, rfl, rfl, by simp, by simp⟩
      · have c1 : decide ((i : Int) < (b.length : Int)) = false := decide_eq_false (by omega)
        simp only [c1, Bool.false_eq_true, if_false, Option.bind_some]
        exact ⟨_, rfl, rfl, by simp, by simp⟩
  exact this N 0 _ (by omega) (by omega)
theorem byte_ok {N : Nat} (b : List Int) (hb : b.length ≤ 1048576) (c : Tl1Cur) (hc : GC b c) : ∃ v d, m_s_l1Byte N c = some (v, d) ∧ GC b d ∧ 0 ≤ v ∧ v ≤ 255 := by
  obtain ⟨rfl, h0, h1⟩ := hc
  unfold m_s_l1Byte
  by_cases hlt : c.i < (c.b.length : Int)
  · obtain ⟨i, hi⟩ : ∃ i : Nat, c.i = (i : Int) := ⟨c.i.toNat, by omega⟩
    have c1 : decide (c.i < (c.b.length : Int)) = true := decide_eq_true hlt
    rw [hi] at h0 h1 hlt ⊢
    rw [hi] at c1
    simp only [c1, if_true, idx_nat_lt (show i < c.b.length by omega), Option.bind_some, wr1 i (by omega)]
    exact ⟨_, _, rfl, ⟨rfl, by simp; omega, by simp; omega⟩, and255 _⟩
  · have c1 : decide (c.i < (c.b.length : Int)) = false := decide_eq_false hlt
    simp only [c1, Bool.false_eq_true, if_false]
    exact ⟨_, _, rfl, ⟨rfl, h0, h1⟩, and255 _⟩
theorem rem_ok {v n : Int} (hv : 0 ≤ v) (hn : 0 < n) : ∃ r, remI v n = some r ∧ 0 ≤ r ∧ r < n := by
  unfold remI
  rw [if_neg (by omega), Int.tmod_eq_emod_of_nonneg hv]
  exact ⟨_, rfl, Int.emod_nonneg _ (by omega), Int.emod_lt_of_pos _ hn⟩
theorem below_ok {N : Nat} (b : List Int) (hb : b.length ≤ 1048576) (c : Tl1Cur) (hc : GC b c) (n : Int) : ∃ v d, m_s_l1Below N c n = some (v, d) ∧ GC b d ∧ 0 ≤ v ∧ (0 < n → v < n) ∧ (n ≤ 0 → v = 0) := by
  unfold m_s_l1Below
  by_cases h0 : n ≤ 0
  · simp only [h0, decide_true, if_true]
    exact ⟨_, _, rfl, hc, by omega, by omega, fun _ => rfl⟩
  · simp only [h0, decide_false, Bool.false_eq_true, if_false]
    by_cases h1 : n ≤ 256
    · simp only [h1, decide_true, if_true]
      obtain ⟨v, d, e, g, a1, a2⟩ := byte_ok (N := N) b hb c hc
      obtain ⟨r, er, r0, r1⟩ := rem_ok a1 (show 0 < n by omega)
      simp only [e, Option.bind_some, er]
      exact ⟨_, _, rfl, g.re hc.1 |> fun _ => ⟨hc.1, g.2⟩, r0, fun _ => r1, fun h => h.elim⟩
    · simp only [h1, decide_false, Bool.false_eq_true, if_false]
      obtain ⟨v1, d1, e1, g1, a1, a1'⟩ := byte_ok (N := N) b hb c hc
      simp only [e1, Option.bind_some]
      obtain ⟨v2, d2, e2, g2, a2, a2'⟩ := byte_ok (N := N) b hb ⟨c.b, d1.i, d1.h⟩ ⟨hc.1, g1.2⟩
      simp only [e2, Option.bind_some]
      obtain ⟨v3, d3, e3, g3, a3, a3'⟩ := byte_ok (N := N) b hb ⟨c.b, d2.i, d2.h⟩ ⟨hc.1, g2.2⟩
      simp only [e3, Option.bind_some]
      rw [wr (n := v1 * 65536) (by omega) (by omega), wr (n := v2 * 256) (by omega) (by omega), wr (n := v1 * 65536 + v2 * 256) (by omega) (by omega), wr (n := v1 * 65536 + v2 * 256 + v3) (by omega) (by omega)]
      obtain ⟨r, er, r0, r1⟩ := rem_ok (show 0 ≤ v1 * 65536 + v2 * 256 + v3 by omega) (show 0 < n by omega)
      simp only [er, Option.bind_some]
      exact ⟨_, _, rfl, ⟨hc.1, g3.2⟩, r0, fun _ => r1, fun h => h.elim⟩
theorem wrm {s : Int} (h : 0 < s) (h' : s ≤ 4611686018427387904) : IntKind.i64.wrap (s - 1) = s - 1 := wr (by omega) (by omega)
end Go.Proofs.Ytmhckcoabhahpaa
namespace Go.Proofs.Ytmhckcoabhahpaa
open Eng
set_option linter.unusedVariables false
set_option linter.unusedSimpArgs false
/-- A draw does not fail; what is drawn has Q. -/
def Dr {α : Type} (b : List Int) (Q : α → Prop) (o : Option (α × Tl1Cur)) : Prop := ∃ v d, o = some (v, d) ∧ GC b d ∧ Q v
theorem Dr.bind {α β : Type} {b : List Int} {Q : α → Prop} {R : β → Prop} {o : Option (α × Tl1Cur)} {f : α × Tl1Cur → Option (β × Tl1Cur)} (h : Dr b Q o) (k : ∀ v d, GC b d → Q v → Dr b R (f (v, d))) : Dr b R (o.bind f) := by
  obtain ⟨v, d, rfl, g, q⟩ := h; exact k v d g q
theorem Dr.bindO {γ β : Type} {b : List Int} {R : β → Prop} {x : γ} {o : Option γ} {f : γ → Option (β × Tl1Cur)} (h : o = some x) (k : Dr b R (f x)) : Dr b R (o.bind f) := by
  rw [h]; exact k
theorem Dr.ret {α : Type} {b : List Int} {Q : α → Prop} {v : α} {c : Tl1Cur} (g : GC b c) (q : Q v) : Dr b Q (some (v, c)) := ⟨v, c, rfl, g, q⟩
theorem Dr.ite {α : Type} {b : List Int} {Q : α → Prop} {x y : Option (α × Tl1Cur)} {p : Bool} (h1 : p = true → Dr b Q x) (h2 : p = false → Dr b Q y) : Dr b Q (if p = true then x else y) := by
  cases p with
  | true => exact h1 rfl
  | false => exact h2 rfl
theorem GC.at {b : List Int} {c d : Tl1Cur} (g : GC b d) (h : c.b = b) : GC b (⟨c.b, d.i, d.h⟩ : Tl1Cur) := ⟨h, g.2⟩
theorem below_d {N : Nat} {b : List Int} (hb : b.length ≤ 1048576) {c : Tl1Cur} (g : GC b c) (n : Int) (hn : 0 < n) : Dr b (fun v => 0 ≤ v ∧ v < n) (m_s_l1Below N c n) := by
  obtain ⟨v, d, e, g, h1, h2, -⟩ := below_ok (N := N) b hb c g n
  exact ⟨v, d, e, g, h1, h2 hn⟩
theorem below_d' {N : Nat} {b : List Int} (hb : b.length ≤ 1048576) {c : Tl1Cur} (g : GC b c) (n : Int) : Dr b (fun v => 0 ≤ v ∧ (0 < n → v < n)) (m_s_l1Below N c n) := by
  obtain ⟨v, d, e, g, h1, h2, -⟩ := below_ok (N := N) b hb c g n
  exact ⟨v, d, e, g, h1, h2⟩
/-- Two rows, the second not long. -/
theorem app_sm {α : Type} {xs ys : List α} (h : xs.length ≤ 4194304) (h' : ys.length ≤ 4194304) : app xs ys = some (xs ++ ys) := app_ok (by omega)
theorem mem_snoc {α : Type} {P : α → Prop} {xs : List α} {x : α} (h : ∀ a ∈ xs, P a) (h' : P x) : ∀ a ∈ xs ++ [x], P a := fun a ha => by
  rcases List.mem_append.1 ha with h1 | h1
  · exact h a h1
  · simp at h1; rw [h1]; exact h'
end Go.Proofs.Ytmhckcoabhahpaa
namespace Go.Proofs.Ytmhckcoabhahpaa
open Eng
theorem once_d {N : Nat} {b : List Int} (hb : b.length ≤ 1048576) {c : Tl1Cur} (g : GC b c) (n : Int) : Dr b (fun _ => True) (m_s_l1Once N c n) := by
  unfold m_s_l1Once
  exact (below_d' hb g n).bind fun v d gd _ => .ret (gd.at g.1) trivial
end Go.Proofs.Ytmhckcoabhahpaa
namespace Go.Proofs.Ytmhckcoabhahpaa
open Eng
theorem str_d {N : Nat} {b : List Int} (hb : b.length ≤ 1048576) {c : Tl1Cur} (g : GC b c) (l : List ByteArray) (h : 0 < l.length) : Dr b (fun s => s ∈ l) (m_s_l1Str N c l) := by
  unfold m_s_l1Str
  refine (below_d hb g (l.length : Int) (by omega)).bind fun v d gd q => ?_
  obtain ⟨j, rfl⟩ : ∃ j : Nat, v = (j : Int) := ⟨v.toNat, by omega⟩
  exact .bindO (idx_nat_lt (show j < l.length by omega)) (.ret (gd.at g.1) (List.getElem_mem _))
end Go.Proofs.Ytmhckcoabhahpaa
namespace Go.Proofs.Ytmhckcoabhahpaa
open Eng
theorem int_d {N : Nat} {b : List Int} (hb : b.length ≤ 1048576) {c : Tl1Cur} (g : GC b c) (l : List Int) (h : 0 < l.length) : Dr b (fun s => s ∈ l) (m_s_l1Int N c l) := by
  unfold m_s_l1Int
  refine (below_d hb g (l.length : Int) (by omega)).bind fun v d gd q => ?_
  obtain ⟨j, rfl⟩ : ∃ j : Nat, v = (j : Int) := ⟨v.toNat, by omega⟩
  exact .bindO (idx_nat_lt (show j < l.length by omega)) (.ret (gd.at g.1) (List.getElem_mem _))
end Go.Proofs.Ytmhckcoabhahpaa
namespace Go.Proofs.Ytmhckcoabhahpaa
open Eng
def drVal (v : TVal) : Prop := (∃ n : Int, 1 ≤ n ∧ n ≤ 3 ∧ v = ⟨1, n, ⟨#[]⟩⟩) ∨ ∃ s ∈ ([⟨#[97]⟩, ⟨#[98]⟩] : List ByteArray), v = ⟨2, 0, s⟩
theorem small_d {N : Nat} {b : List Int} (hb : b.length ≤ 1048576) {c : Tl1Cur} (g : GC b c) : Dr b drVal (m_s_l3Small N c) := by
  unfold m_s_l3Small
  refine (once_d hb g 2).bind fun v d gd _ => .ite (fun _ => ?_) fun _ => ?_
  · exact (below_d hb (gd.at g.1) 3 (by omega)).bind fun w e ge q => .ret (ge.at g.1) (.inl ⟨_, by dsimp only; rw [wr (by omega) (by omega)]; omega, by dsimp only; rw [wr (by omega) (by omega)]; omega, rfl⟩)
  · exact (str_d hb (gd.at g.1) _ (by decide)).bind fun w e ge q => .ret (ge.at g.1) (.inr ⟨w, q, rfl⟩)
theorem drVal_sz {v : TVal} (h : drVal v) : v.S.size ≤ 16 := by
  rcases h with ⟨n, _, _, rfl⟩ | ⟨s, hs, rfl⟩
  · show (0 : Nat) ≤ 16; omega
  · exact (show ∀ s ∈ ([⟨#[97]⟩, ⟨#[98]⟩] : List ByteArray), s.size ≤ 16 by decide) s hs
end Go.Proofs.Ytmhckcoabhahpaa
namespace Go.Proofs.Ytmhckcoabhahpaa
open Eng
set_option linter.unusedVariables false
def shArg (a : TArg) : Prop := a.S.size ≤ 16 ∧ a.V.S.size ≤ 16
def drArg (a : TArg) : Prop := a = ⟨3, ⟨#[]⟩, ⟨0, 0, ⟨#[]⟩⟩⟩ ∨ (∃ v, drVal v ∧ a = ⟨2, ⟨#[]⟩, v⟩) ∨ ∃ s ∈ ([⟨#[88]⟩, ⟨#[89]⟩, ⟨#[90]⟩, ⟨#[88]⟩] : List ByteArray), a = ⟨1, s, ⟨0, 0, ⟨#[]⟩⟩⟩
theorem drArg_sz {a : TArg} (h : drArg a) : shArg a := by
  rcases h with rfl | ⟨v, hv, rfl⟩ | ⟨s, hs, rfl⟩
  · exact ⟨Nat.zero_le _, Nat.zero_le _⟩
  · exact ⟨Nat.zero_le _, drVal_sz hv⟩
  · exact ⟨(show ∀ s ∈ ([⟨#[88]⟩, ⟨#[89]⟩, ⟨#[90]⟩, ⟨#[88]⟩] : List ByteArray), s.size ≤ 16 by decide) s hs, Nat.zero_le _⟩
theorem arg_d {N : Nat} {b : List Int} (hb : b.length ≤ 1048576) {c : Tl1Cur} (g : GC b c) : Dr b drArg (m_s_l6Arg N c) := by
  unfold m_s_l6Arg
  refine (below_d hb g 6 (by omega)).bind fun v d gd _ => .ite (fun _ => .ret (gd.at g.1) (.inl rfl)) fun _ => .ite (fun _ => ?_) fun _ => ?_
  · exact (small_d hb (gd.at g.1)).bind fun w e ge q => .bindO rfl (.ret (ge.at g.1) (.inr (.inl ⟨w, q, rfl⟩)))
  · exact (str_d hb (gd.at g.1) _ (by decide)).bind fun w e ge q => .bindO rfl (.ret (ge.at g.1) (.inr (.inr ⟨w, q, rfl⟩)))
end Go.Proofs.Ytmhckcoabhahpaa
namespace Go.Proofs.Ytmhckcoabhahpaa
open Eng
set_option linter.unusedVariables false
def drTerm (a : TArg) : Prop := (∃ v, drVal v ∧ a = ⟨2, ⟨#[]⟩, v⟩) ∨ ∃ s ∈ ([⟨#[88]⟩, ⟨#[89]⟩, ⟨#[90]⟩, ⟨#[88]⟩] : List ByteArray), a = ⟨1, s, ⟨0, 0, ⟨#[]⟩⟩⟩
theorem drTerm_arg {a : TArg} (h : drTerm a) : drArg a := .inr h
theorem term_d {N : Nat} {b : List Int} (hb : b.length ≤ 1048576) {c : Tl1Cur} (g : GC b c) : Dr b drTerm (m_s_l7Arg N c) := by
  unfold m_s_l7Arg
  refine (once_d hb g 3).bind fun v d gd _ => .ite (fun _ => ?_) fun _ => ?_
  · exact (small_d hb (gd.at g.1)).bind fun w e ge q => .bindO rfl (.ret (ge.at g.1) (.inl ⟨w, q, rfl⟩))
  · exact (str_d hb (gd.at g.1) _ (by decide)).bind fun w e ge q => .bindO rfl (.ret (ge.at g.1) (.inr ⟨w, (show ∀ s ∈ ([⟨#[88]⟩, ⟨#[89]⟩] : List ByteArray), s ∈ ([⟨#[88]⟩, ⟨#[89]⟩, ⟨#[90]⟩, ⟨#[88]⟩] : List ByteArray) by simp) w q, rfl⟩))
end Go.Proofs.Ytmhckcoabhahpaa
namespace Go.Proofs.Ytmhckcoabhahpaa
open Eng
set_option linter.unusedVariables false
def shExpr (e : TExpr) : Prop := e.Op.size ≤ 16 ∧ shArg e.L ∧ shArg e.R
def noArg : TArg := ⟨0, ⟨#[]⟩, ⟨0, 0, ⟨#[]⟩⟩⟩
/-- An expression whose arguments have T. -/
def exprW (T : TArg → Prop) (e : TExpr) : Prop := T e.L ∧ ((e.Op = ⟨#[]⟩ ∧ e.R = noArg) ∨ e.Op ∈ ([⟨#[43]⟩, ⟨#[45]⟩] : List ByteArray) ∧ T e.R)
theorem exprW_sz {T : TArg → Prop} (hT : ∀ a, T a → shArg a) {e : TExpr} (h : exprW T e) : shExpr e := by
  obtain ⟨h1, ⟨h2, h3⟩ | ⟨h2, h3⟩⟩ := h
  · exact ⟨by rw [h2]; exact Nat.zero_le _, hT _ h1, by rw [h3]; exact ⟨Nat.zero_le _, Nat.zero_le _⟩⟩
  · exact ⟨(show ∀ s ∈ ([⟨#[43]⟩, ⟨#[45]⟩] : List ByteArray), s.size ≤ 16 by decide) _ h2, hT _ h1, hT _ h3⟩
theorem expr_d {N : Nat} {b : List Int} (hb : b.length ≤ 1048576) {c : Tl1Cur} (g : GC b c) : Dr b (exprW drTerm) (m_s_l8Expr N c) := by
  unfold m_s_l8Expr
  refine (term_d hb g).bind fun l d gd ql => (once_d hb (gd.at g.1) 4).bind fun v e ge _ => .ite (fun _ => ?_) fun _ => ?_
  · exact (str_d hb (ge.at g.1) _ (by decide)).bind fun o f gf qo => (term_d hb (gf.at g.1)).bind fun r k gk qr => .ret (gk.at g.1) ⟨ql, .inr ⟨qo, qr⟩⟩
  · exact .ret (ge.at g.1) ⟨ql, .inl ⟨rfl, rfl⟩⟩
end Go.Proofs.Ytmhckcoabhahpaa
namespace Go.Proofs.Ytmhckcoabhahpaa
open Eng
set_option linter.unusedVariables false
set_option linter.unusedSimpArgs false
theorem drVal_ok {v : TVal} (h : drVal v) : okVal v = true := by
  rcases h with ⟨n, h1, h2, rfl⟩ | ⟨s, hs, rfl⟩
  · have a1 : decide (-1000000000 ≤ n) = true := decide_eq_true (by omega)
    have a2 : decide (n ≤ 1000000000) = true := decide_eq_true (by omega)
    unfold okVal
    simp only [if_true, a1, a2, seq_self, Bool.and_self]
  · exact (show ∀ s ∈ ([⟨#[97]⟩, ⟨#[98]⟩] : List ByteArray), okVal ⟨2, 0, s⟩ = true by decide) s hs
end Go.Proofs.Ytmhckcoabhahpaa
namespace Go.Proofs.Ytmhckcoabhahpaa
open Eng
set_option linter.unusedVariables false
set_option linter.unusedSimpArgs false
def drBind (x : TBind) : Prop := x.Name ∈ ([⟨#[88]⟩, ⟨#[89]⟩, ⟨#[87]⟩] : List ByteArray) ∧ drVal x.V
theorem binds_d {N : Nat} (hN : 1099000000000 ≤ N) {b : List Int} (hb : b.length ≤ 1048576) {c : Tl1Cur} (g : GC b c) : Dr b (fun l => l.length ≤ 3 ∧ ∀ x ∈ l, drBind x) (m_s_l6Binds N c) := by
  unfold m_s_l6Binds
  refine (below_d hb g 3 (by omega)).bind fun v e ge hv => ?_
  have lp : ∀ (n : Nat) (s : List TBind) (k x h : Int), 0 ≤ k → k < n → s.length + k ≤ 3 → (∀ m ∈ s, drBind m) → GC b ⟨c.b, x, h⟩ → Dr b (fun l => l.length ≤ 3 ∧ ∀ x ∈ l, drBind x) (m_s_l6Binds_l1 N c n s k x h) := by
    intro n
    induction n with
    | zero => intro s k x h h0 h1; omega
    | succ n ih =>
      intro s k x h h0 h1 h2 hs gx
      simp only [m_s_l6Binds_l1]
      refine .ite (fun hk => ?_) (fun _ => .ret gx ⟨by omega, hs⟩)
      have hk := of_decide_eq_true hk
      refine (str_d hb gx _ (by decide)).bind fun nm f gf qn => (small_d hb (gf.at (c := ⟨c.b, x, h⟩) gx.1)).bind fun w f2 gf2 qw => .bindO (app_sm (by omega) (by simp)) ?_
      rw [wrm hk (by omega)]
      exact ih _ (k - 1) _ _ (by omega) (by omega) (by simp; omega) (mem_snoc hs ⟨qn, qw⟩) (gf2.at (c := ⟨c.b, x, h⟩) gx.1)
  exact lp N [] v _ _ hv.1 (by omega) (by simp; omega) (by simp) (ge.at g.1)
end Go.Proofs.Ytmhckcoabhahpaa
namespace Go.Proofs.Ytmhckcoabhahpaa
open Eng
theorem shArg_Sz {a : TArg} (h : shArg a) : SzArg a := by have := h.1; have := h.2; exact ⟨by omega, by omega⟩
theorem shExpr_Sz {e : TExpr} (h : shExpr e) : SzExpr e := by
  obtain ⟨h1, h2, h3⟩ := h
  exact ⟨by omega, shArg_Sz h2, shArg_Sz h3⟩
end Go.Proofs.Ytmhckcoabhahpaa
namespace Go.Proofs.Ytmhckcoabhahpaa
open Eng
set_option linter.unusedVariables false
set_option linter.unusedSimpArgs false
def GoodV (v : TVal) : Prop := okVal v = true ∧ v.S.size ≤ 1048576
theorem drVal_good {v : TVal} (h : drVal v) : GoodV v := ⟨drVal_ok h, by have := drVal_sz h; omega⟩
theorem bind_ok {N : Nat} (hN : 1099000000000 ≤ N) (p0 : List TBind) (p1 : ByteArray) (hl : p0.length ≤ 1048576) (hp : ∀ b ∈ p0, GoodV b.V) : ∃ v b, m_i_BindOf N p0 p1 = some (v, b) ∧ (b = true → GoodV v) ∧ v.S.size ≤ 1048576 := by
  unfold m_i_BindOf
  have : ∀ n i : Nat, i ≤ p0.length → p0.length - i < n → ∃ v b, m_i_BindOf_l1 N p0 p1 n i = some (v, b) ∧ (b = true → GoodV v) ∧ v.S.size ≤ 1048576 := by
    intro n
    induction n with
    | zero => intro i _ h; omega
    | succ n ih =>
      intro i hi hn
      simp only [m_i_BindOf_l1]
      by_cases hlt : i < p0.length
      · have hb := hp _ (List.getElem_mem hlt)
        rw [if_pos (by simp; omega), idx_nat_lt hlt, Option.bind_some]
        split
        · exact ⟨_, _, rfl, fun _ => hb, hb.2⟩
        · rw [wr1 i (by omega)]; exact ih (i + 1) (by omega) (by omega)
      · rw [if_neg (by simp; omega)]
        exact ⟨_, _, rfl, (fun h => by cases h), Nat.zero_le _⟩
  exact this N 0 (by omega) (by omega)
theorem arg_good {N : Nat} (hN : 1099000000000 ≤ N) (a : TArg) (l : List TBind) (hl : l.length ≤ 1048576) (hp : ∀ b ∈ l, GoodV b.V) (ha : a.K = 2 → GoodV a.V) : ∃ v b, m_i_ArgVal N a l = some (v, b) ∧ (b = true → GoodV v) ∧ v.S.size ≤ 1048576 := by
  unfold m_i_ArgVal
  obtain ⟨v, b, h, h1, h2⟩ := bind_ok hN l a.S hl hp
  by_cases k2 : a.K = 2
  · have := ha k2
    rw [decide_eq_true k2]
    exact ⟨_, _, rfl, fun _ => this, this.2⟩
  · rw [decide_eq_false k2]
    by_cases k1 : a.K = 1
    · rw [decide_eq_true k1, h]
      exact ⟨v, b, rfl, h1, h2⟩
    · rw [decide_eq_false k1]
      exact ⟨_, _, rfl, (fun h => by cases h), Nat.zero_le _⟩
theorem comp_ok {N : Nat} (hN : 1099000000000 ≤ N) (e : TExpr) (l : List TBind) (hl : l.length ≤ 1048576) (hp : ∀ b ∈ l, GoodV b.V) (h1 : e.L.K = 2 → GoodV e.L.V) (h2 : e.R.K = 2 → GoodV e.R.V) : ∃ v b, m_i_Compute N e l = some (v, b) ∧ (b = true → GoodV v) := by
  obtain ⟨v, b, i1, g1, s1⟩ := arg_good hN e.L l hl hp h1
  obtain ⟨v', b', i2, g2, s2⟩ := arg_good hN e.R l hl hp h2
  have sm : ∀ (c : Bool) (n : Int), (c = true → okVal ⟨1, n, ⟨#[]⟩⟩ = true) → ∃ x y, (if c = true then ((⟨1, n, ⟨#[]⟩⟩ : TVal), true) else (zv, false)) = (x, y) ∧ (y = true → GoodV x) := by
    intro c n hc
    cases c with
    | true => exact ⟨_, _, rfl, fun _ => ⟨hc rfl, Nat.zero_le _⟩⟩
    | false => exact ⟨_, _, rfl, fun h => by cases h⟩
  unfold m_i_Compute m_i_AddVals m_i_SubVals
  simp only [i1, i2, Option.bind_some, ints_eq (show 1048578 ≤ N by omega) _ _ _ s1 s2, orS, andS]
  cases hb : b with
  | false => exact ⟨_, _, rfl, fun h => by cases h⟩
  | true =>
    cases seq e.Op ⟨#[]⟩ with
    | true => exact ⟨_, _, rfl, fun _ => g1 hb⟩
    | false =>
      cases b' with
      | false => exact ⟨_, _, rfl, fun h => by cases h⟩
      | true =>
        cases seq e.Op ⟨#[43]⟩ with
        | true =>
          obtain ⟨x, y, e1, e2⟩ := sm (decide (v.K = 1) && decide (v'.K = 1) && okVal v && okVal v' && okVal ⟨1, IntKind.i64.wrap (v.N + v'.N), ⟨#[]⟩⟩) (IntKind.i64.wrap (v.N + v'.N)) (fun h => by simp only [Bool.and_eq_true] at h; exact h.2)
          refine ⟨x, y, ?_, e2⟩
          simp only [e1]; rfl
        | false =>
          cases seq e.Op ⟨#[45]⟩ with
          | true =>
            obtain ⟨x, y, e1, e2⟩ := sm (decide (v.K = 1) && decide (v'.K = 1) && okVal v && okVal v' && okVal ⟨1, IntKind.i64.wrap (v.N - v'.N), ⟨#[]⟩⟩) (IntKind.i64.wrap (v.N - v'.N)) (fun h => by simp only [Bool.and_eq_true] at h; exact h.2)
            refine ⟨x, y, ?_, e2⟩
            simp only [e1]; rfl
          | false => exact ⟨_, _, rfl, fun h => by cases h⟩
theorem term_good {a : TArg} (h : drTerm a) : a.K = 2 → GoodV a.V := by
  intro k
  rcases h with ⟨v, hv, rfl⟩ | ⟨s, hs, rfl⟩
  · exact drVal_good hv
  · simp at k
theorem expr_good {e : TExpr} (h : exprW drTerm e) : (e.L.K = 2 → GoodV e.L.V) ∧ (e.R.K = 2 → GoodV e.R.V) := by
  obtain ⟨h1, ⟨_, h2⟩ | ⟨_, h2⟩⟩ := h
  · exact ⟨term_good h1, fun k => by rw [h2] at k; simp [noArg] at k⟩
  · exact ⟨term_good h1, term_good h2⟩
theorem binds_good {l : List TBind} (h : ∀ x ∈ l, drBind x) : ∀ x ∈ l, GoodV x.V := fun x hx => drVal_good (h x hx).2
theorem draw_all {N : Nat} (hN : 1099000000000 ≤ N) {b : List Int} (hb : b.length ≤ 1048576) : ∃ es l, m_s_DrawComputeAll N b = some (es, l) ∧ es.length ≤ 1048576 ∧ (∀ e ∈ es, exprW drTerm e) ∧ l.length ≤ 1048576 ∧ ∀ x ∈ l, GoodV x.V := by
  unfold m_s_DrawComputeAll
  obtain ⟨c, e0, g0⟩ := new_ok hN b hb
  rw [e0, Option.bind_some]
  obtain ⟨v, c1, e1, g1, hv⟩ := below_d (N := N) hb g0 3 (by omega)
  rw [e1, Option.bind_some]
  have lp : ∀ (n : Nat) (s : List TExpr) (k x h : Int), 0 ≤ k → k < n → s.length + k ≤ 3 → (∀ e ∈ s, exprW drTerm e) → GC b ⟨c.b, x, h⟩ → ∃ es l, m_s_DrawComputeAll_l1 N c n s k x h = some (es, l) ∧ es.length ≤ 1048576 ∧ (∀ e ∈ es, exprW drTerm e) ∧ l.length ≤ 1048576 ∧ ∀ x ∈ l, GoodV x.V := by
    intro n
    induction n with
    | zero => intro s k x h h0 h1; omega
    | succ n ih =>
      intro s k x h h0 h1 h2 hs gx
      simp only [m_s_DrawComputeAll_l1]
      by_cases hk : 0 < k
      · obtain ⟨e, c2, e2, g2, he⟩ := expr_d (N := N) hb gx
        simp only [hk, decide_true, if_true, e2, Option.bind_some, app_ok (show s.length + [e].length ≤ 4294967296 by simp; omega), wrm hk (by omega)]
        exact ih _ (k - 1) _ _ (by omega) (by omega) (by simp; omega) (mem_snoc hs he) (g2.at (c := ⟨c.b, x, h⟩) gx.1)
      · obtain ⟨l, c2, e2, g2, hl, hlb⟩ := binds_d hN hb gx
        simp only [hk, decide_false, Bool.false_eq_true, if_false, e2, Option.bind_some]
        rw [app_ok (show l.length + _ ≤ 4294967296 by simp; omega), Option.bind_some]
        refine ⟨_, _, rfl, by omega, hs, by simp; omega, fun y hy => ?_⟩
        rcases List.mem_append.1 hy with hy | hy
        · exact binds_good hlb y hy
        · have h3 : GoodV ⟨1, 3, ⟨#[]⟩⟩ := drVal_good (.inl ⟨3, by omega, by omega, rfl⟩)
          have h4 : GoodV ⟨1, 2, ⟨#[]⟩⟩ := drVal_good (.inl ⟨2, by omega, by omega, rfl⟩)
          simp only [List.mem_cons, List.not_mem_nil, or_false] at hy
          rcases hy with rfl | rfl
          · exact h3
          · exact h4
  exact lp N [] v _ _ hv.1 (by omega) (by simp; omega) (by simp) (g1.at g0.1)
theorem draw_expr {N : Nat} (hN : 1099000000000 ≤ N) {b : List Int} (hb : b.length ≤ 1048576) : ∃ e, m_s_DrawExprOk N b = some e ∧ shExpr e := by
  unfold m_s_DrawExprOk m_s_DrawExprOk_j1
  obtain ⟨c, e0, g0⟩ := new_ok hN b hb
  obtain ⟨e, c1, e1, g1, he⟩ := expr_d (N := N) hb g0
  obtain ⟨v, c2, e2, g2, hv⟩ := below_d (N := N) hb (g1.at g0.1) 6 (by omega)
  obtain ⟨o, c3, e3, g3, ho⟩ := str_d (N := N) hb (g2.at (c := c) g0.1) [⟨#[]⟩, ⟨#[42]⟩, ⟨#[45]⟩] (by decide)
  obtain ⟨a, c4, e4, g4, ha⟩ := arg_d (N := N) hb (g2.at (c := c) g0.1)
  obtain ⟨s1, s2, s3⟩ := exprW_sz (fun a h => drArg_sz (drTerm_arg h)) he
  have sa := drArg_sz ha
  simp only [e0, Option.bind_some, e1, e2]
  split
  · simp only [e3, Option.bind_some]
    exact ⟨_, rfl, (show ∀ s ∈ ([⟨#[]⟩, ⟨#[42]⟩, ⟨#[45]⟩] : List ByteArray), s.size ≤ 16 by decide) _ ho, s2, s3⟩
  · split
    · simp only [e4, Option.bind_some]
      exact ⟨_, rfl, s1, sa, s3⟩
    · split
      · simp only [e4, Option.bind_some]
        exact ⟨_, rfl, s1, s2, sa⟩
      · exact ⟨_, rfl, s1, s2, s3⟩
theorem draw_one {N : Nat} (hN : 1099000000000 ≤ N) {b : List Int} (hb : b.length ≤ 1048576) : ∃ e l, m_s_DrawCompute N b = some (e, l) ∧ shExpr e ∧ l.length ≤ 1048576 ∧ ∀ x ∈ l, x.V.S.size ≤ 1048576 := by
  unfold m_s_DrawCompute m_s_DrawCompute_j1
  obtain ⟨e, e0, he⟩ := draw_expr hN hb
  obtain ⟨c, e1, g0⟩ := new_ok hN b hb
  obtain ⟨l, c2, e2, g2, hl, hlb⟩ := binds_d hN hb g0
  obtain ⟨q, c3, e3, g3, -⟩ := once_d (N := N) hb (g2.at g0.1) 2
  obtain ⟨v, c4, e4, g4, -⟩ := int_d (N := N) hb (g3.at (c := c) g0.1) [1, 1000000000] (by decide)
  have hz : ∀ x ∈ l, x.V.S.size ≤ 1048576 := fun x hx => by have := drVal_sz (hlb x hx).2; omega
  simp only [e0, e1, e2, e3, Option.bind_some]
  cases q with
  | false =>
    simp only [Bool.false_eq_true, if_false]
    exact ⟨_, _, rfl, he, by omega, hz⟩
  | true =>
    simp only [if_true, e4, Option.bind_some]
    rw [app_ok (show l.length + _ ≤ 4294967296 by simp; omega), Option.bind_some]
    refine ⟨_, _, rfl, he, by simp; omega, fun x hx => ?_⟩
    rcases List.mem_append.1 hx with hx | hx
    · exact hz x hx
    · simp only [List.mem_cons, List.not_mem_nil, or_false] at hx
      rcases hx with rfl | rfl <;> exact Nat.zero_le _
theorem law_FnComputed {N : Nat} (hN : 1099000000000 ≤ N) (b : List Int) : m_l_FnComputed N b = some true := by
  unfold m_l_FnComputed m_l_big
  by_cases hb : b.length ≤ 1048576
  · have c1 : decide (1048576 < (b.length : Int)) = false := decide_eq_false (by omega)
    obtain ⟨es, l, e, he1, he2, hl1, hl2⟩ := draw_all hN hb
    obtain ⟨e', l', ee, sh, hl3, hl4⟩ := draw_one hN hb
    obtain ⟨r, r1, r2⟩ := core_Compute (show 1048578 ≤ N by omega) e' l' hl3 hl4 (by have := sh.2.1.2; omega) (by have := sh.2.2.2; omega)
    obtain ⟨C, hC⟩ : ∃ C : TExpr → TVal × Bool, ∀ e ∈ es, m_i_Compute N e l = some (C e) ∧ ((C e).2 = true → GoodV (C e).1) := by
      refine ⟨fun e => (m_i_Compute N e l).getD (zv, false), fun e he => ?_⟩
      obtain ⟨h1, h2⟩ := expr_good (he2 e he)
      obtain ⟨v, q, i1, i2⟩ := comp_ok hN e l hl1 hl2 h1 h2
      simp only [i1, Option.getD_some]
      exact ⟨trivial, i2⟩
    have hall : m_i_ComputeAll N es l = some (if es.all (fun e => (C e).2) = true then (es.map (fun e => (C e).1), true) else ([], false)) := by
      unfold m_i_ComputeAll
      refine (lp' hN es (by omega) (m_i_ComputeAll_l1 N es l) (fun t s => some (if t.all (fun e => (C e).2) = true then (s ++ t.map (fun e => (C e).1), true) else ([], false))) (fun s t => s.length + t.length ≤ 1048576) [] (by simpa using he1) (fun n s i x t g1 g2 g3 g4 g5 g6 gI ih => ?_) (fun n s i g1 g2 gI => ?_)).trans (by simp)
      · simp only [List.length_cons] at gI
        simp only [m_i_ComputeAll_l1, g5, if_true, g4, Option.bind_some, (hC x g2).1, g6, List.all_cons]
        by_cases hx : (C x).2 = true
        · simp only [hx, Bool.not_true, Bool.false_eq_true, if_false, app_ok (show s.length + [(C x).1].length ≤ 4294967296 by simp; omega), Option.bind_some, Bool.true_and]
          rw [ih _ (by simp; omega)]; simp
        · simp [hx]
      · simp only [m_i_ComputeAll_l1, g2, Bool.false_eq_true, if_false]; simp
    simp only [c1, Option.bind_some, Bool.false_eq_true, if_false, e, hall]
    have lp : ∀ (R : List TVal × Bool), R = (if es.all (fun e => (C e).2) = true then (es.map (fun e => (C e).1), true) else ([], false)) → ∀ (n i : Nat), i ≤ es.length → es.length - i < n → m_l_FnComputed_l1 N b (es, l) R n ((es.take i).all fun e => (C e).2) i = some true := by
      intro R hR n
      induction n with
      | zero => intro i _ h; omega
      | succ n ih =>
        intro i hi hn
        simp only [m_l_FnComputed_l1]
        by_cases hlt : i < es.length
        · have k1 : decide ((i : Int) < (es.length : Int)) = true := decide_eq_true (by omega)
          obtain ⟨i1, i2⟩ := hC _ (List.getElem_mem hlt)
          have htk : es.take (i + 1) = es.take i ++ [es[i]] := List.take_succ_eq_append_getElem hlt
          have hz : (if R.2 = true then (if decide ((R.1.length : Int) ≤ (i : Int)) = true then some true else (idx R.1 (i : Int)).bind fun x6 => some (!eqT_TVal x6 (C es[i]).1)).bind fun b3 => (if b3 = true then some true else (m_i_ValOk N (C es[i]).1).bind fun x7 => some (!x7)).bind fun b4 => some b4 else some false) = some false := by
            cases ha : es.all (fun e => (C e).2) with
            | false => rw [hR, ha]; rfl
            | true =>
              have hg := i2 (List.all_eq_true.1 ha _ (List.getElem_mem hlt))
              rw [hR, ha]
              have k2 : decide (((es.map fun e => (C e).1).length : Int) ≤ (i : Int)) = false := decide_eq_false (by rw [List.length_map]; omega)
              have k3 : idx (es.map fun e => (C e).1) (i : Int) = some (C es[i]).1 := by
                rw [idx_nat_lt (show i < (es.map fun e => (C e).1).length by rw [List.length_map]; exact hlt)]; simp
              simp only [if_true, k2, Bool.false_eq_true, if_false, k3, Option.bind_some, eqT_TVal_eq, decide_true, Bool.not_true, val_i (show 1048578 ≤ N by omega) _ hg.2, hg.1]
          simp only [k1, if_true, idx_nat_lt hlt, Option.bind_some, i1, hz, Bool.false_eq_true, if_false, wr1 i (by omega), andS]
          have := ih (i + 1) (by omega) (by omega)
          rw [htk, List.all_append] at this
          simpa using this
        · have k1 : decide ((i : Int) < (es.length : Int)) = false := decide_eq_false (by omega)
          rw [List.take_of_length_le (by omega)]
          simp only [k1, Bool.false_eq_true, if_false, ee, Option.bind_some, r1, r2, expr_i hN e' (shExpr_Sz sh), expr_s hN e' (shExpr_Sz sh), beq_self_eq_true]
          rw [hR]
          cases ha : es.all (fun e => (C e).2) with
          | false => simp
          | true => simp
    have := lp _ rfl N 0 (by omega) (by omega)
    simpa using this
  · have c1 : decide (1048576 < (b.length : Int)) = true := decide_eq_true (by omega)
    simp only [c1, Option.bind_some, if_true]
namespace fnComputed
theorem law {x0 : List Int} (w0 : (WfL (WfI .u8)) x0) : m_l_FnComputed 1099511627776 x0 = some true := law_FnComputed (by omega) x0
end fnComputed
end Go.Proofs.Ytmhckcoabhahpaa
