/- Plain laws, one after the other: PLRules. -/
import Derived.Test.YteipbimepilcfaaGreatDoorPLib
import Derived.Test.YteipbimepilcfaaGreatDoorWRulesPur
import Derived.Test.YteipbimepilcfaaGreatDoorWRulesMod
/-
 Plain laws of common loops, for the cores. No program.
-/
namespace Go.Proofs.YteipbimepilcfaaGreatDoor
open Eng
set_option linter.unusedVariables false
set_option linter.unusedSimpArgs false
theorem app_ok {α : Type} {xs ys : List α} (h : xs.length + ys.length ≤ 4294967296) : app xs ys = some (xs ++ ys) := by unfold app; rw [if_pos h]
theorem app_nil {α : Type} {ys : List α} (h : ys.length ≤ 4294967296) : app ([] : List α) ys = some ys := by rw [app_ok (by simpa using h)]; rfl
theorem allfrom {α : Type} (f : Nat → Int → Option Bool) (xs : List α) (hl : xs.length ≤ 4294967296) (p : α → Bool) (z : Bool) (i0 : Nat)
  (hs : ∀ n (i : Nat) (x : α), i0 ≤ i → idx xs (i : Int) = some x → x ∈ xs → decide ((i : Int) < (xs.length : Int)) = true → IntKind.i64.wrap ((i : Int) + 1) = ((i + 1 : Nat) : Int) → f (n + 1) i = if p x then f n ((i + 1 : Nat) : Int) else some false)
  (he : ∀ n (i : Nat), decide ((i : Int) < (xs.length : Int)) = false → f (n + 1) i = some z) :
  ∀ (n i : Nat), i0 ≤ i → i ≤ xs.length → xs.length - i < n → f n i = some ((xs.drop i).all p && z) := by
 intro n
 induction n with
 | zero => intro i _ _ h; omega
 | succ n ih =>
  intro i h0 hi hn
  by_cases hlt : i < xs.length
  ·rw [List.drop_eq_getElem_cons hlt, List.all_cons, hs n i xs[i] h0 (idx_nat_lt hlt) (List.getElem_mem hlt) (decide_eq_true (by omega)) (wr1 i (by omega)), ih (i + 1) (by omega) (by omega) (by omega)]
   cases p xs[i] <;> simp
  ·rw [he n i (decide_eq_false (by omega)), List.drop_of_length_le (by omega), List.all_nil, Bool.true_and]
theorem findloop {α : Type} (f : Nat → Int → Option Int) (xs : List α) (hl : xs.length ≤ 4294967296) (p : α → Bool)
  (hs : ∀ n (i : Nat) (x : α), idx xs (i : Int) = some x → x ∈ xs → decide ((i : Int) < (xs.length : Int)) = true → IntKind.i64.wrap ((i : Int) + 1) = ((i + 1 : Nat) : Int) → f (n + 1) i = if p x then some (i : Int) else f n ((i + 1 : Nat) : Int))
  (he : ∀ n (i : Nat), decide ((i : Int) < (xs.length : Int)) = false → f (n + 1) i = some (-1)) :
  ∀ (n i : Nat), i ≤ xs.length → xs.length - i < n → f n i = some (match (xs.drop i).findIdx? p with | some j => ((i + j : Nat) : Int) | none => -1) := by
 intro n
 induction n with
 | zero => intro i _ h; omega
 | succ n ih =>
  intro i hi hn
  by_cases hlt : i < xs.length
  ·rw [List.drop_eq_getElem_cons hlt, List.findIdx?_cons, hs n i xs[i] (idx_nat_lt hlt) (List.getElem_mem hlt) (decide_eq_true (by omega)) (wr1 i (by omega)), ih (i + 1) (by omega) (by omega)]
   cases p xs[i]
   ·simp only [Bool.false_eq_true, if_false]
    cases (xs.drop (i + 1)).findIdx? p with
    | none => rfl
    | some j => simp only [Option.map_some]; congr 2; omega
   ·simp
  ·rw [he n i (decide_eq_false (by omega)), List.drop_of_length_le (by omega)]; rfl
theorem find_any {α : Type} (xs : List α) (p : α → Bool) : decide (0 ≤ (match xs.findIdx? p with | some j => ((0 + j : Nat) : Int) | none => -1)) = xs.any p := by
 cases h : xs.findIdx? p with
 | none =>
  rw [List.findIdx?_eq_none_iff] at h
  simp only [show ¬ (0 : Int) ≤ -1 by omega, decide_false]
  symm; rw [List.any_eq_false]; intro x hx; simp [h x hx]
 | some j =>
  simp only [Nat.zero_add, show (0 : Int) ≤ (j : Int) by omega, decide_true]
  rw [List.findIdx?_eq_some_iff_getElem] at h
  obtain ⟨hj, hp, _⟩ := h
  symm; rw [List.any_eq_true]; exact ⟨_, List.getElem_mem hj, hp⟩
theorem andS (a b : Bool) : (if a = true then some b else some false) = some (a && b) := by cases a <;> rfl
theorem orS (a b : Bool) : (if a = true then some true else some b) = some (a || b) := by cases a <;> rfl
end Go.Proofs.YteipbimepilcfaaGreatDoor
/-
 Plain laws of loops over lists, one law for all. No program.
-/
namespace Go.Proofs.YteipbimepilcfaaGreatDoor
open Eng
set_option linter.unusedVariables false
set_option linter.unusedSimpArgs false
theorem lp {σ α β : Type} (xs : List α) (hl : xs.length ≤ 4294967296) (f : Nat → σ → Int → Option β) (G : List α → σ → Option β) (I : σ → List α → Prop)
  (hs : ∀ n s (i : Nat) (x : α) (t : List α), xs.drop i = x :: t → x ∈ xs → i < xs.length → idx xs (i : Int) = some x → decide ((i : Int) < (xs.length : Int)) = true → IntKind.i64.wrap ((i : Int) + 1) = ((i + 1 : Nat) : Int) → I s (x :: t) →
   (∀ s', I s' t → f n s' ((i + 1 : Nat) : Int) = G t s') → f (n + 1) s i = G (x :: t) s)
  (he : ∀ n s (i : Nat), i = xs.length → decide ((i : Int) < (xs.length : Int)) = false → I s [] → f (n + 1) s i = G [] s) :
  ∀ (n i : Nat) (s : σ), i ≤ xs.length → xs.length - i < n → I s (xs.drop i) → f n s i = G (xs.drop i) s := by
 intro n
 induction n with
 | zero => intro i s _ h; omega
 | succ n ih =>
  intro i s hi hn hI
  by_cases hlt : i < xs.length
  ·have hd := List.drop_eq_getElem_cons hlt
   rw [hd] at hI ⊢
   exact hs n s i _ _ hd (List.getElem_mem hlt) hlt (idx_nat_lt hlt) (decide_eq_true (by omega)) (wr1 i (by omega)) hI (fun s' hs' => ih (i + 1) s' (by omega) (by omega) hs')
  ·have hd : xs.drop i = [] := List.drop_of_length_le (by omega)
   rw [hd] at hI ⊢
   exact he n s i (by omega) (decide_eq_false (by omega)) hI
theorem lp' {σ α β : Type} {N : Nat} (hN : 1099000000000 ≤ N) (xs : List α) (hl : xs.length ≤ 4294967296) (f : Nat → σ → Int → Option β) (G : List α → σ → Option β) (I : σ → List α → Prop) (s : σ) (h0 : I s xs)
  (hs : ∀ n s (i : Nat) (x : α) (t : List α), xs.drop i = x :: t → x ∈ xs → i < xs.length → idx xs (i : Int) = some x → decide ((i : Int) < (xs.length : Int)) = true → IntKind.i64.wrap ((i : Int) + 1) = ((i + 1 : Nat) : Int) → I s (x :: t) →
   (∀ s', I s' t → f n s' ((i + 1 : Nat) : Int) = G t s') → f (n + 1) s i = G (x :: t) s)
  (he : ∀ n s (i : Nat), i = xs.length → decide ((i : Int) < (xs.length : Int)) = false → I s [] → f (n + 1) s i = G [] s) : f N s 0 = G xs s := by
 have := lp xs hl f G I hs he N 0 s (by omega) (by omega) (by simpa using h0)
 simpa using this
theorem lp0 {α β : Type} {N : Nat} (hN : 1099000000000 ≤ N) (xs : List α) (hl : xs.length ≤ 4294967296) (f : Nat → Int → Option β) (G : List α → Option β)
  (hs : ∀ n (i : Nat) (x : α) (t : List α), xs.drop i = x :: t → x ∈ xs → i < xs.length → idx xs (i : Int) = some x → decide ((i : Int) < (xs.length : Int)) = true → IntKind.i64.wrap ((i : Int) + 1) = ((i + 1 : Nat) : Int) →
   f n ((i + 1 : Nat) : Int) = G t → f (n + 1) i = G (x :: t))
  (he : ∀ n (i : Nat), i = xs.length → decide ((i : Int) < (xs.length : Int)) = false → f (n + 1) i = G []) : f N 0 = G xs := by
 have := lp' (σ := Unit) hN xs hl (fun n _ i => f n i) (fun t _ => G t) (fun _ _ => True) () trivial (fun n _ i x t h1 h2 h3 h4 h5 h6 _ h8 => hs n i x t h1 h2 h3 h4 h5 h6 (h8 () trivial)) (fun n _ i h1 h2 _ => he n i h1 h2)
 simpa using this
theorem dropLen {α : Type} {xs : List α} {i : Nat} {x : α} {t : List α} (h : xs.drop i = x :: t) : t.length + (i + 1) = xs.length := by
 have := congrArg List.length h
 simp at this
 omega
theorem orNB (a b : Bool) : (if (!a) = true then some true else some b) = some (!a || b) := by cases a <;> rfl
theorem rangeloop (f : Nat → Int → Option Bool) (n0 : Nat) (hm : n0 ≤ 4611686018427387903) (e : Nat → Bool) (z : Bool)
  (h : ∀ k (i : Nat), i < n0 → f (k + 1) i = if e i then f k (IntKind.i64.wrap ((i : Int) + 1)) else some false) (hz : ∀ k (i : Nat), i = n0 → f (k + 1) i = some z) :
  ∀ (n i : Nat), i ≤ n0 → n0 - i < n → f n i = some (((List.range n0).drop i).all e && z) := by
 intro n
 induction n with
 | zero => intro i _ h; omega
 | succ n ih =>
  intro i hi hn
  by_cases hlt : i < n0
  ·rw [h n i hlt, List.drop_eq_getElem_cons (by simpa using hlt), List.getElem_range, List.all_cons]
   cases he : e i with
   | false => simp
   | true => simp only [if_true, Bool.true_and]; rw [wr1 i (by omega), ih (i + 1) (by omega) (by omega)]
  ·have : i = n0 := by omega
   rw [hz n i this, List.drop_of_length_le (by simp; omega)]
   simp
theorem in0 (N : Nat) (a b c : Int) : m_s_l1In N a b c = some (decide (b ≤ a) && decide (a ≤ c)) := by
 unfold m_s_l1In
 by_cases h : b ≤ a <;> simp [h]
theorem in1 (N : Nat) (a b c : Int) : m_i_inRange N a b c = some (decide (b ≤ a) && decide (a ≤ c)) := by
 unfold m_i_inRange
 by_cases h : b ≤ a <;> simp [h]
theorem wrU (y : UInt8) : IntKind.i64.wrap (y.toNat : Int) = (y.toNat : Int) := wr (by omega) (by have := y.toNat_lt; omega)
def letter (y : UInt8) : Bool := (decide (97 ≤ (y.toNat : Int)) && decide ((y.toNat : Int) ≤ 122)) || (decide (48 ≤ (y.toNat : Int)) && decide ((y.toNat : Int) ≤ 57)) || decide ((y.toNat : Int) = 95)
theorem letter_s (N : Nat) (y : UInt8) : m_s_l1Letter N (y.toNat : Int) = some (letter y) := by
 unfold m_s_l1Letter letter
 simp only [wrU, in0, Option.bind_some]
 by_cases h1 : (decide (97 ≤ (y.toNat : Int)) && decide ((y.toNat : Int) ≤ 122)) = true
 ·simp [h1]
 ·rw [if_neg h1]
  simp only [Option.bind_some]
  rw [Bool.eq_false_iff.2 h1, Bool.false_or]
  by_cases h2 : (decide (48 ≤ (y.toNat : Int)) && decide ((y.toNat : Int) ≤ 57)) = true
  ·simp [h2]
  ·rw [if_neg h2, Bool.eq_false_iff.2 h2, Bool.false_or]; rfl
theorem letter_i (N : Nat) (y : UInt8) : m_i_isWordByte N (y.toNat : Int) = some (letter y) := by
 unfold m_i_isWordByte m_i_isSmall m_i_isDigit letter
 generalize (y.toNat : Int) = n
 rw [andS, andS, Option.bind_some, Option.bind_some, Option.bind_some, Option.bind_some, orS, Option.bind_some, orS]
 rfl
def small (y : UInt8) : Bool := decide (97 ≤ (y.toNat : Int)) && decide ((y.toNat : Int) ≤ 122)
def wordAll (s : ByteArray) : Bool := ((List.range s.size).drop 0).all (fun i => match s.data.toList[i]? with | some y => letter y | none => false)
theorem size_data (s : ByteArray) : s.data.toList.length = s.size := rfl
theorem plain_s {N : Nat} (hN : 1048578 ≤ N) (s : ByteArray) (hs : s.size ≤ 1048576) : m_s_l2Plain N s = some (wordAll s && decide ((s.size : Int) ≤ 20)) := by
 unfold m_s_l2Plain
 refine rangeloop (fun n i => m_s_l2Plain_l1 N s n i) s.size (by omega) _ _ (fun k i hi => ?_) (fun k i hi => ?_) N 0 (by omega) (by omega)
 ·have hi' : i < s.data.toList.length := by rw [size_data]; exact hi
  simp only [m_s_l2Plain_l1, idx_nat_lt hi', Option.bind_some, letter_s, List.getElem?_eq_getElem hi']
  rw [if_pos (by simp; omega)]
  cases letter s.data.toList[i] <;> simp
 ·simp only [m_s_l2Plain_l1]
  rw [if_neg (by simp; omega)]
theorem word_i {N : Nat} (hN : 1048578 ≤ N) (s : ByteArray) (n : Int) (hs : s.size ≤ 1048576) : m_i_isWord N s n = some (wordAll s && decide ((s.size : Int) ≤ n)) := by
 unfold m_i_isWord
 have : m_i_isWord_l1 N s N 0 = some (wordAll s && true) := by
  refine rangeloop (fun n i => m_i_isWord_l1 N s n i) s.size (by omega) _ _ (fun k i hi => ?_) (fun k i hi => ?_) N 0 (by omega) (by omega)
  ·have hi' : i < s.data.toList.length := by rw [size_data]; exact hi
   simp only [m_i_isWord_l1, idx_nat_lt hi', Option.bind_some, letter_i, List.getElem?_eq_getElem hi']
   rw [if_pos (by simp; omega)]
   cases letter s.data.toList[i] <;> simp
  ·simp only [m_i_isWord_l1]
   rw [if_neg (by simp; omega)]
 rw [this]
 by_cases h : n < (s.size : Int)
 ·rw [if_pos (by simpa using h), decide_eq_false (by omega), Bool.and_false]
 ·rw [if_neg (by simpa using h), decide_eq_true (show (s.size : Int) ≤ n by omega)]
theorem name_i {N : Nat} (hN : 1048578 ≤ N) (s : ByteArray) (hs : s.size ≤ 1048576) : m_i_NameOk N s = some ((match s.data.toList[0]? with | some y => small y | none => false) && (wordAll s && decide ((s.size : Int) ≤ 12))) := by
 unfold m_i_NameOk
 rw [word_i hN s 12 hs]
 by_cases h : 0 < s.size
 ·have hi' : 0 < s.data.toList.length := by rw [size_data]; exact h
  have hidx : idx s.data.toList 0 = some s.data.toList[0] := by simpa using idx_nat_lt (i := 0) hi'
  rw [if_pos (by simpa using h), hidx, List.getElem?_eq_getElem hi']
  have : m_i_isSmall N (s.data.toList[0].toNat : Int) = some (small s.data.toList[0]) := by
   unfold m_i_isSmall small
   generalize (s.data.toList[0].toNat : Int) = n
   by_cases h1 : 97 ≤ n <;> simp [h1]
  simp only [Option.bind_some, this]
  cases small s.data.toList[0] <;> simp
 ·rw [if_neg (by simpa using h), List.getElem?_eq_none (by rw [size_data]; omega)]
  rfl
theorem name_s {N : Nat} (hN : 1048578 ≤ N) (s : ByteArray) (hs : s.size ≤ 1048576) : m_s_NameOk N s = some ((match s.data.toList[0]? with | some y => small y | none => false) && (wordAll s && decide ((s.size : Int) ≤ 12))) := by
 unfold m_s_NameOk
 have := rangeloop (fun n i => m_s_NameOk_l1 N s n i) s.size (by omega) (fun i => match s.data.toList[i]? with | some y => letter y && (decide (¬ i = 0) || small y) | none => false) (decide (1 ≤ (s.size : Int)) && decide ((s.size : Int) ≤ 12)) (fun k i hi => by
  have hi' : i < s.data.toList.length := by rw [size_data]; exact hi
  simp only [m_s_NameOk_l1, idx_nat_lt hi', Option.bind_some, letter_s, List.getElem?_eq_getElem hi', wrU, in0]
  rw [if_pos (by simp; omega)]
  have h0 : decide ((i : Int) = 0) = decide (i = 0) := by rw [decide_eq_decide]; omega
  rw [h0]
  unfold small
  simp only [andS, orS, Option.bind_some]
  generalize letter s.data.toList[i] = a
  generalize (decide (97 ≤ (s.data.toList[i].toNat : Int)) && decide ((s.data.toList[i].toNat : Int) ≤ 122)) = b
  cases a <;> cases b <;> by_cases hz : i = 0 <;> simp [hz]) (fun k i hi => by
  simp only [m_s_NameOk_l1, in0, Option.bind_some]
  rw [if_neg (by simp; omega)]) N 0 (by omega) (by omega)
 rw [show m_s_NameOk_l1 N s N 0 = _ from this]
 congr 1
 unfold wordAll
 simp only [List.drop_zero]
 cases hsz : s.size with
 | zero =>
  rw [List.getElem?_eq_none (by rw [size_data]; omega)]
  simp
 | succ n =>
  have hi' : 0 < s.data.toList.length := by rw [size_data]; omega
  rw [List.getElem?_eq_getElem hi', List.range_succ_eq_map]
  simp only [List.all_cons, List.getElem?_eq_getElem hi', List.all_map, Function.comp_def, Nat.succ_eq_add_one]
  have : ∀ i, (match s.data.toList[i + 1]? with | some y => letter y && (decide (¬ i + 1 = 0) || small y) | none => false) = (match s.data.toList[i + 1]? with | some y => letter y | none => false) := by
   intro i; cases s.data.toList[i + 1]? <;> simp
  simp only [this]
  have h1 : decide (1 ≤ ((n + 1 : Nat) : Int)) = true := by simp; omega
  simp only [h1, Bool.true_and, not_true, decide_false, Bool.false_or]
  cases letter s.data.toList[0] <;> cases small s.data.toList[0] <;> simp
theorem val_s {N : Nat} (hN : 1048578 ≤ N) (v : TVal) (hs : v.S.size ≤ 1048576) : m_s_ValOk N v = m_i_ValOk N v := by
 unfold m_s_ValOk m_i_ValOk
 rw [plain_s hN _ hs, word_i hN _ _ hs, in0, in1]
 by_cases h1 : v.K = 1
 ·simp [h1]
 ·by_cases h2 : v.K = 2
  ·simp only [h2, andS, orS, Option.bind_some]
   cases decide (v.N = 0) <;> cases wordAll v.S <;> cases decide ((v.S.size : Int) ≤ 20) <;> rfl
  ·simp [h1, h2]
def okVal (v : TVal) : Bool := if v.K = 1 then (decide (-1000000000 ≤ v.N) && decide (v.N ≤ 1000000000)) && seq v.S ⟨#[]⟩ else if v.K = 2 then decide (v.N = 0) && (wordAll v.S && decide ((v.S.size : Int) ≤ 20)) else false
theorem val_i {N : Nat} (hN : 1048578 ≤ N) (v : TVal) (hs : v.S.size ≤ 1048576) : m_i_ValOk N v = some (okVal v) := by
 unfold m_i_ValOk okVal
 rw [word_i hN _ _ hs, in1]
 by_cases h1 : v.K = 1
 ·simp only [h1, decide_true, if_true, Option.bind_some]
  cases (decide (-1000000000 ≤ v.N) && decide (v.N ≤ 1000000000)) <;> simp
 ·by_cases h2 : v.K = 2
  ·by_cases h3 : v.N = 0 <;> simp [h2, h3]
  ·simp [h1, h2]
def large (y : UInt8) : Bool := decide (65 ≤ (y.toNat : Int)) && decide ((y.toNat : Int) ≤ 90)
theorem large_i (N : Nat) (y : UInt8) : m_i_isLarge N (y.toNat : Int) = some (large y) := by
 unfold m_i_isLarge large; cases decide (65 ≤ (y.toNat : Int)) <;> rfl
theorem large_s (N : Nat) (y : UInt8) : m_s_l5Large N (y.toNat : Int) = some (large y) := by
 unfold m_s_l5Large large; rw [wrU, in0]; rfl
def varOk (s : ByteArray) : Bool := match s.data.toList with
 | [] => false
 | b :: t => large b && (t.all (fun y => letter y || large y) && decide ((s.size : Int) ≤ 12))
theorem var_i {N : Nat} (hN : 1099000000000 ≤ N) (s : ByteArray) (hs : s.size ≤ 1048576) : m_i_isVar N s = some (varOk s) := by
 have hsz : s.size = s.data.toList.length := rfl
 have lp := allfrom (m_i_isVar_l1 N s) s.data.toList (by omega) (fun y => letter y || large y) true 0 (fun n i y _ hx _ hc hw => by
  rw [← hsz] at hc
  simp only [m_i_isVar_l1, hc, if_true, hx, Option.bind_some, letter_i, large_i, hw]
  cases letter y <;> cases large y <;> rfl) (fun n i hc => by rw [← hsz] at hc; simp only [m_i_isVar_l1, hc, Bool.false_eq_true, if_false])
 unfold m_i_isVar varOk
 cases hd : s.data.toList with
 | nil =>
  have : s.size = 0 := by rw [hsz, hd]; rfl
  rw [this]; rfl
 | cons b t =>
  have h1 : s.size = t.length + 1 := by rw [hsz, hd]; rfl
  have c1 : decide ((s.size : Int) < 1) = false := decide_eq_false (by omega)
  have := lp N 0 (by omega) (by omega) (by omega)
  rw [hd] at this
  have hi : idx (b :: t) 0 = some b := rfl
  simp only [c1, Bool.false_eq_true, if_false, Option.bind_some, hi, large_i]
  by_cases c2 : (s.size : Int) ≤ 12
  ·have c3 : decide (12 < (s.size : Int)) = false := decide_eq_false (by omega)
   simp only [c2, c3, decide_true, Bool.and_true, Bool.false_eq_true, if_false, Option.bind_some]
   cases hb : large b with
   | false => rfl
   | true =>
    simp only [Bool.not_true, Bool.false_eq_true, if_false, Bool.true_and]
    refine this.trans ?_
    simp [hb]
  ·have c3 : decide (12 < (s.size : Int)) = true := decide_eq_true (by omega)
   simp only [c2, c3, decide_false, Bool.and_false, if_true, Option.bind_some]
theorem var_s {N : Nat} (hN : 1099000000000 ≤ N) (s : ByteArray) (hs : s.size ≤ 1048576) : m_s_l5VarOk N s = some (varOk s) := by
 have hsz : s.size = s.data.toList.length := rfl
 have lp := allfrom (m_s_l5VarOk_l1 N s) s.data.toList (by omega) (fun y => letter y || large y) (decide (1 ≤ (s.size : Int)) && decide ((s.size : Int) ≤ 12)) 1 (fun n i y h1 hx _ hc hw => by
  rw [← hsz] at hc
  have h0 : decide ((i : Int) = 0) = false := decide_eq_false (by omega)
  simp only [m_s_l5VarOk_l1, hc, if_true, hx, Option.bind_some, letter_s, large_s, hw, h0, Bool.false_eq_true, if_false]
  cases letter y <;> cases large y <;> rfl) (fun n i hc => by rw [← hsz] at hc; simp only [m_s_l5VarOk_l1, hc, Bool.false_eq_true, if_false, in0, Option.bind_some])
 unfold m_s_l5VarOk varOk
 obtain ⟨n, rfl⟩ : ∃ n, N = n + 1 := ⟨N - 1, by omega⟩
 cases hd : s.data.toList with
 | nil =>
  have : s.size = 0 := by rw [hsz, hd]; rfl
  simp only [m_s_l5VarOk_l1, this, in0]; rfl
 | cons b t =>
  have h1 : s.size = t.length + 1 := by rw [hsz, hd]; rfl
  have c1 : decide ((0 : Int) < (s.size : Int)) = true := decide_eq_true (by omega)
  have := lp n 1 (by omega) (by omega) (by omega)
  rw [hd] at this
  have hi : idx (b :: t) 0 = some b := rfl
  simp only [m_s_l5VarOk_l1, c1, if_true, hd, hi, Option.bind_some, large_s, decide_true]
  cases hb : large b with
  | false => rfl
  | true =>
   simp only [Bool.not_true, Bool.false_eq_true, if_false, Option.bind_some, Bool.true_and]
   rw [show IntKind.i64.wrap ((0 : Int) + 1) = ((1 : Nat) : Int) from wr1 0 (by omega)]
   refine this.trans ?_
   simp [show (1 : Int) ≤ (s.size : Int) by omega]
def SzArg (a : TArg) : Prop := a.S.size ≤ 1048576 ∧ a.V.S.size ≤ 1048576
def okArg (a : TArg) : Bool := if a.K = 1 then varOk a.S && eqT_TVal a.V ⟨0, 0, ⟨#[]⟩⟩ else if a.K = 2 then okVal a.V && seq a.S ⟨#[]⟩ else if a.K = 3 then seq a.S ⟨#[]⟩ && eqT_TVal a.V ⟨0, 0, ⟨#[]⟩⟩ else false
theorem arg_s {N : Nat} (hN : 1099000000000 ≤ N) (a : TArg) (h : SzArg a) : m_s_ArgOk N a = some (okArg a) := by
 unfold m_s_ArgOk okArg
 rw [var_s hN _ h.1, val_s (by omega) _ h.2, val_i (by omega) _ h.2]
 simp only [Option.bind_some, andS, decide_eq_true_eq]
 split <;> (try split) <;> (try split) <;> rfl
theorem arg_i {N : Nat} (hN : 1099000000000 ≤ N) (a : TArg) (h : SzArg a) : m_i_ArgOk N a = some (okArg a) := by
 unfold m_i_ArgOk okArg
 rw [var_i hN _ h.1, val_i (by omega) _ h.2]
 simp only [Option.bind_some, andS, decide_eq_true_eq, Bool.and_comm]
 split <;> (try split) <;> (try split) <;> simp [Bool.and_comm]
def given (a : TArg) : Bool := okArg a && !decide (a.K = 3)
theorem given_s {N : Nat} (hN : 1099000000000 ≤ N) (a : TArg) (h : SzArg a) : m_s_l8Given N a = some (given a) := by
 unfold m_s_l8Given given; simp only [arg_s hN a h, Option.bind_some, andS]
theorem given_i {N : Nat} (hN : 1099000000000 ≤ N) (a : TArg) (h : SzArg a) : m_i_isTerm N a = some (given a) := by
 unfold m_i_isTerm given; simp only [arg_i hN a h, Option.bind_some, andS, Bool.and_comm]
def SzExpr (e : TExpr) : Prop := e.Op.size ≤ 1048576 ∧ SzArg e.L ∧ SzArg e.R
def okExpr (e : TExpr) : Bool := if seq e.Op ⟨#[]⟩ then given e.L && eqT_TArg e.R ⟨0, ⟨#[]⟩, ⟨0, 0, ⟨#[]⟩⟩⟩ else (seq e.Op ⟨#[43]⟩ || seq e.Op ⟨#[45]⟩) && (given e.L && given e.R)
theorem expr_s {N : Nat} (hN : 1099000000000 ≤ N) (e : TExpr) (h : SzExpr e) : m_s_ExprOk N e = some (okExpr e) := by
 unfold m_s_ExprOk m_s_ExprOk_j1 okExpr
 simp only [given_s hN _ h.2.1, given_s hN _ h.2.2, Option.bind_some, andS]
 cases seq e.Op ⟨#[]⟩ <;> cases seq e.Op ⟨#[43]⟩ <;> cases seq e.Op ⟨#[45]⟩ <;> rfl
theorem expr_i {N : Nat} (hN : 1099000000000 ≤ N) (e : TExpr) (h : SzExpr e) : m_i_ExprOk N e = some (okExpr e) := by
 unfold m_i_ExprOk m_i_ExprOk_j1 okExpr
 simp only [given_i hN _ h.2.1, given_i hN _ h.2.2, Option.bind_some, andS]
 cases seq e.Op ⟨#[]⟩ <;> cases seq e.Op ⟨#[43]⟩ <;> cases seq e.Op ⟨#[45]⟩ <;> rfl
def okName (s : ByteArray) : Bool := (match s.data.toList[0]? with | some y => small y | none => false) && (wordAll s && decide ((s.size : Int) ≤ 12))
theorem okName_s {N : Nat} (hN : 1099000000000 ≤ N) (s : ByteArray) (hs : s.size ≤ 1048576) : m_s_NameOk N s = some (okName s) := name_s (by omega) s hs
theorem okName_i {N : Nat} (hN : 1099000000000 ≤ N) (s : ByteArray) (hs : s.size ≤ 1048576) : m_i_NameOk N s = some (okName s) := name_i (by omega) s hs
def SzAct (a : TAct) : Prop := a.Name.size ≤ 1048576 ∧ a.Undo.size ≤ 1048576 ∧ a.Args.length ≤ 1048576 ∧ ∀ e ∈ a.Args, SzExpr e
theorem args_s {N : Nat} (hN : 1099000000000 ≤ N) (xs : List TExpr) (hl : xs.length ≤ 1048576) (h : ∀ e ∈ xs, SzExpr e) : m_s_l8Args N xs = some (xs.all okExpr && decide ((xs.length : Int) ≤ 5)) := by
 unfold m_s_l8Args
 have := allfrom (m_s_l8Args_l1 N xs) xs (by omega) okExpr (decide ((xs.length : Int) ≤ 5)) 0 (fun n i y _ hx hm hc hw => by
  simp only [m_s_l8Args_l1, hc, if_true, hx, Option.bind_some, expr_s hN y (h y hm), hw]; cases okExpr y <;> rfl) (fun n i hc => by simp only [m_s_l8Args_l1, hc, Bool.false_eq_true, if_false]) N 0 (by omega) (by omega) (by omega)
 simpa using this
theorem args_i {N : Nat} (hN : 1099000000000 ≤ N) (a : TAct) (h : SzAct a) : m_i_argsOk N a = some (okName a.Name && (a.Args.all okExpr && decide ((a.Args.length : Int) ≤ 5))) := by
 obtain ⟨h1, h2, h3, h4⟩ := h
 unfold m_i_argsOk
 have := allfrom (m_i_argsOk_l1 N a) a.Args (by omega) okExpr true 0 (fun n i y _ hx hm hc hw => by
  simp only [m_i_argsOk_l1, hc, if_true, hx, Option.bind_some, expr_i hN y (h4 y hm), hw]; cases okExpr y <;> rfl) (fun n i hc => by simp only [m_i_argsOk_l1, hc, Bool.false_eq_true, if_false]) N 0 (by omega) (by omega) (by omega)
 have this' : m_i_argsOk_l1 N a N 0 = some (a.Args.all okExpr) := by simpa using this
 simp only [okName_i hN _ h1, Option.bind_some, this']
 cases okName a.Name with
 | false => rfl
 | true =>
  by_cases c : (a.Args.length : Int) ≤ 5
  ·have c' : decide (5 < (a.Args.length : Int)) = false := decide_eq_false (by omega)
   simp only [c, c', decide_true, Bool.and_true, Bool.true_and, Bool.not_true, Bool.false_eq_true, if_false, Option.bind_some]
  ·have c' : decide (5 < (a.Args.length : Int)) = true := decide_eq_true (by omega)
   simp only [c, c', decide_false, Bool.and_false, Bool.not_true, Bool.false_eq_true, if_false, if_true, Option.bind_some]
def okAct (a : TAct) : Bool :=
 let na := okName a.Name && (a.Args.all okExpr && decide ((a.Args.length : Int) ≤ 5))
 let bare := seq a.Name ⟨#[]⟩ && decide ((a.Args.length : Int) = 0)
 if a.Kind = 1 then na && decide (a.N = 0) && seq a.Undo ⟨#[]⟩
 else if a.Kind = 2 then bare && (decide (0 ≤ a.N) && decide (a.N ≤ 7)) && seq a.Undo ⟨#[]⟩
 else if a.Kind = 3 then na && decide (a.N = 0) && (seq a.Undo ⟨#[]⟩ || okName a.Undo)
 else if a.Kind = 4 then na && (decide (0 ≤ a.N) && decide (a.N ≤ 100000)) && seq a.Undo ⟨#[]⟩
 else if a.Kind = 5 ∨ a.Kind = 6 then bare && decide (a.N = 0) && seq a.Undo ⟨#[]⟩
 else false
theorem act_s {N : Nat} (hN : 1099000000000 ≤ N) (a : TAct) (h : SzAct a) : m_s_ActOk N a = some (okAct a) := by
 obtain ⟨h1, h2, h3, h4⟩ := h
 unfold m_s_ActOk m_s_ActOk_j1 okAct
 simp only [args_s hN _ h3 h4, okName_s hN _ h1, okName_s hN _ h2, in0, Option.bind_some, andS, orS, decide_eq_true_eq]
 generalize okName a.Name = n; generalize a.Args.all okExpr = e; generalize okName a.Undo = u; generalize seq a.Name ⟨#[]⟩ = sn; generalize seq a.Undo ⟨#[]⟩ = su
 by_cases k1 : a.Kind = 1
 ·simp [k1] <;> (cases n <;> cases e <;> simp)
 by_cases k3 : a.Kind = 3
 ·simp [k3] <;> (cases n <;> cases e <;> simp)
 by_cases k4 : a.Kind = 4
 ·simp [k4] <;> (cases n <;> cases e <;> simp)
 by_cases k2 : a.Kind = 2
 ·simp [k2] <;> (cases sn <;> cases su <;> simp)
 by_cases k5 : a.Kind = 5
 ·simp [k5] <;> (cases sn <;> cases su <;> simp)
 ·by_cases k6 : a.Kind = 6
  ·simp [k6] <;> (cases sn <;> cases su <;> simp)
  ·simp [k1, k2, k3, k4, k5, k6]
theorem act_i {N : Nat} (hN : 1099000000000 ≤ N) (a : TAct) (h : SzAct a) : m_i_ActOk N a = some (okAct a) := by
 have hi := args_i hN a h
 obtain ⟨h1, h2, h3, h4⟩ := h
 unfold m_i_ActOk m_i_ActOk_j1 m_i_isUndo okAct
 simp only [hi, okName_i hN _ h2, in1, Option.bind_some, andS, orS, decide_eq_true_eq]
 generalize okName a.Name = n; generalize a.Args.all okExpr = e; generalize okName a.Undo = u; generalize seq a.Name ⟨#[]⟩ = sn; generalize seq a.Undo ⟨#[]⟩ = su
 by_cases k1 : a.Kind = 1
 ·simp [k1] <;> (cases n <;> cases e <;> simp)
 by_cases k3 : a.Kind = 3
 ·simp [k3] <;> (cases n <;> cases e <;> simp)
 by_cases k4 : a.Kind = 4
 ·simp [k4] <;> (cases n <;> cases e <;> simp)
 by_cases k2 : a.Kind = 2
 ·simp [k2] <;> (cases sn <;> cases su <;> simp)
 by_cases k5 : a.Kind = 5
 ·simp [k5] <;> (cases sn <;> cases su <;> simp)
 ·by_cases k6 : a.Kind = 6
  ·simp [k6] <;> (cases sn <;> cases su <;> simp)
  ·simp [k1, k2, k3, k4, k5, k6]
def SzPat (p : TPat) : Prop := p.Kind.size ≤ 1048576 ∧ p.Args.length ≤ 1048576 ∧ ∀ a ∈ p.Args, SzArg a
def okPat (p : TPat) : Bool := okName p.Kind && (decide ((p.Args.length : Int) ≤ 5) && p.Args.all okArg)
theorem pat_i {N : Nat} (hN : 1099000000000 ≤ N) (p : TPat) (h : SzPat p) : m_i_PatOk N p = some (okPat p) := by
 obtain ⟨h1, h2, h3⟩ := h
 have lp := lp0 hN p.Args (by omega) (m_i_PatOk_l1 N p) (fun t => some (t.all okArg)) (fun n i x t g1 g2 g3 g4 g5 g6 g7 => by
  simp only [m_i_PatOk_l1, g5, if_true, g4, Option.bind_some, arg_i hN x (h3 x g2), g6, g7, List.all_cons]; cases okArg x <;> rfl) (fun n i g1 g2 => by simp only [m_i_PatOk_l1, g2, Bool.false_eq_true, if_false]; rfl)
 unfold m_i_PatOk okPat
 simp only [okName_i hN _ h1, Option.bind_some, lp]
 by_cases c : (p.Args.length : Int) ≤ 5
 ·have c' : decide (5 < (p.Args.length : Int)) = false := decide_eq_false (by omega)
  simp only [c, c', decide_true]; cases okName p.Kind <;> simp
 ·have c' : decide (5 < (p.Args.length : Int)) = true := decide_eq_true (by omega)
  simp only [c, c', decide_false]; cases okName p.Kind <;> simp
theorem pat_s {N : Nat} (hN : 1099000000000 ≤ N) (p : TPat) (h : SzPat p) : m_s_PatOk N p = some (okPat p) := by
 obtain ⟨h1, h2, h3⟩ := h
 have lp := lp0 hN p.Args (by omega) (m_s_PatOk_l1 N p) (fun t => some (t.all okArg && (okName p.Kind && decide ((p.Args.length : Int) ≤ 5)))) (fun n i x t g1 g2 g3 g4 g5 g6 g7 => by
  simp only [m_s_PatOk_l1, g5, if_true, g4, Option.bind_some, arg_s hN x (h3 x g2), g6, g7, List.all_cons]; cases okArg x <;> simp) (fun n i g1 g2 => by
  simp only [m_s_PatOk_l1, g2, Bool.false_eq_true, if_false, okName_s hN _ h1, Option.bind_some, andS, List.all_nil, Bool.true_and])
 unfold m_s_PatOk okPat
 rw [lp]
 generalize okName p.Kind = a; generalize p.Args.all okArg = b; generalize decide ((p.Args.length : Int) ≤ 5) = c
 cases a <;> cases b <;> cases c <;> rfl
def SzCond (c : TCond) : Prop := SzArg c.L ∧ SzArg c.R
def okCond (c : TCond) : Bool := (decide (1 ≤ c.Op) && decide (c.Op ≤ 3)) && (given c.L && given c.R)
theorem cond_i {N : Nat} (hN : 1099000000000 ≤ N) (c : TCond) (h : SzCond c) : m_i_CondOk N c = some (okCond c) := by
 unfold m_i_CondOk okCond
 simp only [in1, given_i hN _ h.1, given_i hN _ h.2, Option.bind_some, andS, Bool.and_assoc]
theorem cond_s {N : Nat} (hN : 1099000000000 ≤ N) (c : TCond) (h : SzCond c) : m_s_CondOk N c = some (okCond c) := by
 unfold m_s_CondOk okCond given
 simp only [in0, arg_s hN _ h.1, arg_s hN _ h.2, Option.bind_some, andS]
 generalize okArg c.L = a; generalize okArg c.R = b; generalize (decide (c.L.K = 3)) = d; generalize (decide (c.R.K = 3)) = e; generalize (decide (1 ≤ c.Op) && decide (c.Op ≤ 3)) = f
 cases a <;> cases b <;> cases d <;> cases e <;> cases f <;> rfl
instance memDec (v : ByteArray) (xs : List ByteArray) : Decidable (v ∈ xs) := @List.instDecidableMemOfLawfulBEq _ instBEqOfDecidableEq _ v xs
theorem hasS {N : Nat} (hN : 1099000000000 ≤ N) (xs : List ByteArray) (v : ByteArray) (hl : xs.length ≤ 4294967296) : m_s_l6Has N xs v = some (decide (v ∈ xs)) := by
 unfold m_s_l6Has
 refine lp0 hN xs hl _ (fun t => some (decide (v ∈ t))) (fun n i x t h1 h2 h3 h4 h5 h6 h7 => ?_) (fun n i h1 h2 => ?_)
 ·simp only [m_s_l6Has_l1, h5, if_true, h4, Option.bind_some, h6, h7, seq_eq]
  by_cases h : x = v
  ·simp [h]
  ·have h' : ¬ v = x := fun e => h e.symm
   simp [h, h']
 ·simp only [m_s_l6Has_l1, h2, Bool.false_eq_true, if_false]; simp
def once (s : List ByteArray) (v : ByteArray) : List ByteArray := if v ∈ s then s else s ++ [v]
theorem once_len (s : List ByteArray) (v : ByteArray) : (once s v).length ≤ s.length + 1 := by unfold once; split <;> simp
theorem mem_once {s : List ByteArray} {v x : ByteArray} : x ∈ once s v ↔ x ∈ s ∨ x = v := by
 unfold once; split
 ·rename_i h
  constructor
  ·exact .inl
  ·rintro (h' | rfl)
   ·exact h'
   ·exact h
 ·simp
theorem mem_onces {x : ByteArray} : ∀ {vs s : List ByteArray}, x ∈ vs.foldl once s ↔ x ∈ s ∨ x ∈ vs
 | [], s => by simp
 | v :: vs, s => by rw [List.foldl_cons, mem_onces, mem_once, List.mem_cons, or_assoc]
theorem once_old {s : List ByteArray} {v : ByteArray} (h : v ∈ s) : once s v = s := by unfold once; rw [if_pos h]
theorem onces_len : ∀ (vs s : List ByteArray), (vs.foldl once s).length ≤ s.length + vs.length
 | [], s => by simp
 | v :: vs, s => by have := onces_len vs (once s v); have := once_len s v; simp only [List.foldl_cons, List.length_cons]; omega
theorem onces_once (s u : List ByteArray) (v : ByteArray) : (once u v).foldl once s = once (u.foldl once s) v := by
 by_cases h : v ∈ u
 ·rw [once_old h, once_old (mem_onces.2 (.inr h))]
 ·have : once u v = u ++ [v] := by unfold once; rw [if_neg h]
  rw [this, List.foldl_append]; rfl
theorem onces_onces : ∀ (vs u s : List ByteArray), (vs.foldl once u).foldl once s = vs.foldl once (u.foldl once s)
 | [], u, s => rfl
 | v :: vs, u, s => by rw [List.foldl_cons, onces_onces vs (once u v) s, onces_once, List.foldl_cons]
theorem onces_dedup (vs s : List ByteArray) : (vs.foldl once []).foldl once s = vs.foldl once s := onces_onces vs [] s
theorem onces_size {B : Nat} {vs s : List ByteArray} (h : ∀ x ∈ vs, x.size ≤ B) (h' : ∀ x ∈ s, x.size ≤ B) : ∀ x ∈ vs.foldl once s, x.size ≤ B := fun x hx => (mem_onces.1 hx).elim (h' x) (h x)
def argVars : List TArg → List ByteArray
 | [] => []
 | a :: t => if a.K = 1 then a.S :: argVars t else argVars t
theorem argVars_len : ∀ (l : List TArg), (argVars l).length ≤ l.length
 | [] => by simp [argVars]
 | a :: t => by have := argVars_len t; unfold argVars; split <;> simp <;> omega
theorem mem_argVars {x : ByteArray} : ∀ {l : List TArg}, x ∈ argVars l ↔ ∃ a ∈ l, a.K = 1 ∧ a.S = x
 | [] => by simp [argVars]
 | a :: t => by
  unfold argVars
  split
  ·rename_i h; simp [mem_argVars, h, eq_comm]
  ·rename_i h; simp [mem_argVars, h]
theorem vars_s {N : Nat} (hN : 1099000000000 ≤ N) (p : TPat) (hl : p.Args.length ≤ 1048576) : m_s_VarsOf N p = some ((argVars p.Args).foldl once []) := by
 unfold m_s_VarsOf
 refine lp' hN p.Args (by omega) (m_s_VarsOf_l1 N p) (fun t s => some ((argVars t).foldl once s)) (fun s t => s.length + t.length ≤ 4294967290) [] (by simp; omega) (fun n s i x t h1 h2 h3 h4 h5 h6 hI ih => ?_) (fun n s i h1 h2 hI => ?_)
 ·simp only [List.length_cons] at hI
  simp only [m_s_VarsOf_l1, h5, if_true, h4, Option.bind_some, h6, argVars, hasS hN s x.S (by omega)]
  by_cases h : x.K = 1
  ·simp only [h, decide_true, if_true, Option.bind_some, List.foldl_cons]
   have := ih (once s x.S) (by have := once_len s x.S; omega)
   unfold once at this ⊢
   by_cases hm : x.S ∈ s
   ·simp only [hm, if_true] at this
    simpa [hm] using this
   ·simp only [hm, if_false] at this
    simp only [hm, decide_false, Bool.not_false, if_true, app_ok (show s.length + [x.S].length ≤ 4294967296 by simp; omega), Option.bind_some, if_false]
    exact this
  ·simp only [h, decide_false, Bool.false_eq_true, if_false, Option.bind_some]
   exact ih _ (by omega)
 ·simp only [m_s_VarsOf_l1, h2, Bool.false_eq_true, if_false]; rfl
def posNames : List TPat → List ByteArray
 | [] => []
 | p :: t => if p.Not then posNames t else argVars p.Args ++ posNames t
def nArgs (l : List TPat) : Nat := (l.map fun p => p.Args.length).sum
theorem posNames_len : ∀ (l : List TPat), (posNames l).length ≤ nArgs l
 | [] => by simp [posNames, nArgs]
 | p :: t => by
  have h1 := posNames_len t
  have h2 := argVars_len p.Args
  have h3 : nArgs (p :: t) = p.Args.length + nArgs t := by simp [nArgs]
  rw [h3]
  unfold posNames
  split
  ·omega
  ·rw [List.length_append]; omega
theorem posVars_s {N : Nat} (hN : 1099000000000 ≤ N) (r : TRule) (hl : r.Pats.length ≤ 1048576) (ha : nArgs r.Pats ≤ 1048576) (hp : ∀ p ∈ r.Pats, p.Args.length ≤ 1048576) : m_s_PosVars N r = some ((posNames r.Pats).foldl once []) := by
 unfold m_s_PosVars
 refine lp' hN r.Pats (by omega) (m_s_PosVars_l1 N r) (fun t s => some ((posNames t).foldl once s)) (fun s t => s.length + nArgs t ≤ 4294967290) [] (by simp; omega) (fun n s i x t h1 h2 h3 h4 h5 h6 hI ih => ?_) (fun n s i h1 h2 hI => ?_)
 ·have hI' : s.length + (x.Args.length + nArgs t) ≤ 4294967290 := by simpa [nArgs] using hI
  have hpx := hp x h2
  simp only [m_s_PosVars_l1, h5, if_true, h4, Option.bind_some, vars_s hN x hpx, posNames]
  have hvl := onces_len (argVars x.Args) []
  have hal := argVars_len x.Args
  simp only [List.length_nil, Nat.zero_add] at hvl
  have key : m_s_PosVars_l2 N r i (m_s_PosVars_l1 N r n) ((argVars x.Args).foldl once []) N s 0 = if x.Not then some ((posNames t).foldl once s) else some ((posNames t).foldl once (((argVars x.Args).foldl once []).foldl once s)) := by
   cases hx : x.Not with
   | true =>
    obtain ⟨m, rfl⟩ : ∃ m, N = m + 1 := ⟨N - 1, by omega⟩
    have ih0 := ih s (by omega)
    simp only [m_s_PosVars_l2, h4, Option.bind_some, hx, Bool.not_true, h6, ih0]
    split <;> rfl
   | false =>
    refine lp' hN ((argVars x.Args).foldl once []) (by omega) (m_s_PosVars_l2 N r i (m_s_PosVars_l1 N r n) ((argVars x.Args).foldl once [])) (fun u s => some ((posNames t).foldl once (u.foldl once s))) (fun s u => s.length + u.length + nArgs t ≤ 4294967290) s (by omega) (fun n' s' i' y u g1 g2 g3 g4 g5 g6 gI gih => ?_) (fun n' s' i' g1 g2 gI => ?_)
    ·simp only [List.length_cons] at gI
     simp only [m_s_PosVars_l2, g5, if_true, h4, Option.bind_some, hx, Bool.not_false, g4, hasS hN s' y (by omega), List.foldl_cons, g6]
     have := gih (once s' y) (by have := once_len s' y; omega)
     unfold once at this ⊢
     by_cases hm : y ∈ s'
     ·simp only [hm, if_true] at this
      simpa [hm] using this
     ·simp only [hm, if_false] at this
      simp only [hm, decide_false, Bool.not_false, if_true, app_ok (show s'.length + [y].length ≤ 4294967296 by simp; omega), Option.bind_some, if_false]
      exact this
    ·simp only [m_s_PosVars_l2, g2, Bool.false_eq_true, if_false, Option.bind_some, h6]
     exact ih s' (by simp at gI; omega)
  rw [show (m_s_PosVars_l2 N r i (m_s_PosVars_l1 N r n) ((argVars x.Args).foldl once []) N s 0) = _ from key]
  cases hx : x.Not with
  | true => simp
  | false => simp [List.foldl_append, onces_dedup]
 ·simp only [m_s_PosVars_l1, h2, Bool.false_eq_true, if_false]; rfl
def bound (r : TRule) : List ByteArray := (posNames r.Pats).foldl once []
theorem bound_len {r : TRule} (h : nArgs r.Pats ≤ 1048576) : (bound r).length ≤ 1048576 := by
 have h1 := onces_len (posNames r.Pats) []
 have h2 := posNames_len r.Pats
 unfold bound; simp at h1; omega
theorem idxSl {N : Nat} (hN : 1099000000000 ≤ N) (xs : List ByteArray) (v : ByteArray) (hl : xs.length ≤ 4294967296) : ∃ r, m_sl_Index_Sstring_string N xs v = some r ∧ decide (0 ≤ r) = decide (v ∈ xs) := by
 unfold m_sl_Index_Sstring_string
 have := findloop (m_sl_Index_Sstring_string_l1 N xs v) xs hl (fun x => seq v x) (fun n i x hx _ hc hw => by simp only [m_sl_Index_Sstring_string_l1, hc, if_true, hx, Option.bind_some, hw]) (fun n i hc => by simp only [m_sl_Index_Sstring_string_l1, hc, Bool.false_eq_true, if_false]) N 0 (by omega) (by omega)
 rw [List.drop_zero, show ((0 : Nat) : Int) = 0 from rfl] at this
 refine ⟨_, this, ?_⟩
 rw [find_any, Bool.eq_iff_iff, List.any_eq_true, decide_eq_true_eq]
 simp only [seq_eq, decide_eq_true_eq]
 constructor
 ·rintro ⟨x, hx, rfl⟩; exact hx
 ·intro h; exact ⟨v, h, rfl⟩
theorem hasSl {N : Nat} (hN : 1099000000000 ≤ N) (xs : List ByteArray) (v : ByteArray) (hl : xs.length ≤ 4294967296) : m_sl_Contains_Sstring_string N xs v = some (decide (v ∈ xs)) := by
 unfold m_sl_Contains_Sstring_string
 obtain ⟨r, h1, h2⟩ := idxSl hN xs v hl
 rw [h1, Option.bind_some, h2]
theorem addOnce {N : Nat} (hN : 1099000000000 ≤ N) (s : List ByteArray) (v : ByteArray) (hl : s.length ≤ 4294967295) : m_i_addOnce N s v = some (once s v) := by
 unfold m_i_addOnce once
 rw [hasSl hN s v (by omega), Option.bind_some]
 by_cases h : v ∈ s
 ·simp [h]
 ·simp only [h, decide_false, Bool.false_eq_true, if_false, app_ok (show s.length + [v].length ≤ 4294967296 by simp; omega), Option.bind_some]
theorem addVars_i {N : Nat} (hN : 1099000000000 ≤ N) (l : List TArg) (s : List ByteArray) (hl : s.length + l.length ≤ 4294967290) : m_i_addVars N s l = some ((argVars l).foldl once s) := by
 unfold m_i_addVars
 refine lp' hN l (by omega) (m_i_addVars_l1 N l) (fun t s => some ((argVars t).foldl once s)) (fun s t => s.length + t.length ≤ 4294967290) s hl (fun n s i x t h1 h2 h3 h4 h5 h6 hI ih => ?_) (fun n s i h1 h2 hI => ?_)
 ·simp only [List.length_cons] at hI
  simp only [m_i_addVars_l1, h5, if_true, h4, Option.bind_some, h6, argVars, addOnce hN s x.S (by omega)]
  by_cases h : x.K = 1
  ·simp only [h, decide_true, if_true, List.foldl_cons]
   exact ih _ (by have := once_len s x.S; omega)
  ·simp only [h, decide_false, Bool.false_eq_true, if_false]
   exact ih _ (by omega)
 ·simp only [m_i_addVars_l1, h2, Bool.false_eq_true, if_false]; rfl
theorem posVars_i {N : Nat} (hN : 1099000000000 ≤ N) (r : TRule) (hl : r.Pats.length ≤ 1048576) (ha : nArgs r.Pats ≤ 1048576) : m_i_PosVars N r = some ((posNames r.Pats).foldl once []) := by
 unfold m_i_PosVars
 refine lp' hN r.Pats (by omega) (m_i_PosVars_l1 N r) (fun t s => some ((posNames t).foldl once s)) (fun s t => s.length + nArgs t ≤ 4294967290) [] (by simp; omega) (fun n s i x t h1 h2 h3 h4 h5 h6 hI ih => ?_) (fun n s i h1 h2 hI => ?_)
 ·have hI' : s.length + (x.Args.length + nArgs t) ≤ 4294967290 := by simpa [nArgs] using hI
  simp only [m_i_PosVars_l1, h5, if_true, h4, Option.bind_some, h6, posNames, addVars_i hN x.Args s (by omega)]
  cases hx : x.Not with
  | true => simpa using ih s (by omega)
  | false =>
   have h1 := argVars_len x.Args
   have h2 := onces_len (argVars x.Args) s
   simpa [List.foldl_append] using ih _ (show ((argVars x.Args).foldl once s).length + nArgs t ≤ 4294967290 by omega)
 ·simp only [m_i_PosVars_l1, h2, Bool.false_eq_true, if_false]; rfl
def posCount : List TPat → Nat
 | [] => 0
 | p :: t => if p.Not then posCount t else posCount t + 1
theorem count_s {N : Nat} (hN : 1099000000000 ≤ N) (r : TRule) (hl : r.Pats.length ≤ 1048576) : m_s_PosCount N r = some (posCount r.Pats : Int) := by
 unfold m_s_PosCount
 have := lp' hN r.Pats (by omega) (m_s_PosCount_l1 N r) (fun t s => some (s + (posCount t : Int))) (fun s t => 0 ≤ s ∧ s + t.length ≤ 1048576) (0 : Int) (by simp; omega) (fun n s i x t h1 h2 h3 h4 h5 h6 hI ih => by
  simp only [List.length_cons] at hI
  simp only [m_s_PosCount_l1, h5, if_true, h4, Option.bind_some, h6, posCount]
  cases hx : x.Not with
  | true => simpa using ih s (by omega)
  | false =>
   rw [wr (n := s + 1) (by omega) (by omega)]
   have := ih (s + 1) (by omega)
   simp only [Bool.not_false, if_true, this, Bool.false_eq_true, if_false]
   congr 1; omega) (fun n s i h1 h2 hI => by simp only [m_s_PosCount_l1, h2, Bool.false_eq_true, if_false, posCount]; simp)
 simpa using this
theorem count_i {N : Nat} (hN : 1099000000000 ≤ N) (r : TRule) (hl : r.Pats.length ≤ 1048576) : m_i_PosCount N r = some (posCount r.Pats : Int) := by
 unfold m_i_PosCount
 have := lp' hN r.Pats (by omega) (m_i_PosCount_l1 N r) (fun t s => some (s + (posCount t : Int))) (fun s t => 0 ≤ s ∧ s + t.length ≤ 1048576) (0 : Int) (by simp; omega) (fun n s i x t h1 h2 h3 h4 h5 h6 hI ih => by
  simp only [List.length_cons] at hI
  simp only [m_i_PosCount_l1, h5, if_true, h4, Option.bind_some, h6, posCount]
  cases hx : x.Not with
  | true => simpa using ih s (by omega)
  | false =>
   rw [wr (n := s + 1) (by omega) (by omega)]
   have := ih (s + 1) (by omega)
   simp only [Bool.not_false, if_true, this, Bool.false_eq_true, if_false]
   congr 1; omega) (fun n s i h1 h2 hI => by simp only [m_i_PosCount_l1, h2, Bool.false_eq_true, if_false, posCount]; simp)
 simpa using this
def known (vs : List ByteArray) (a : TArg) : Bool := !decide (a.K = 1) || decide (a.S ∈ vs)
theorem known_s {N : Nat} (hN : 1099000000000 ≤ N) (a : TArg) (vs : List ByteArray) (h : vs.length ≤ 4294967296) : m_s_l9Known N a vs = some (known vs a) := by
 unfold m_s_l9Known known
 simp only [hasS hN vs a.S h, Option.bind_some, orNB]
def patsFrom (c : Nat) : Nat → List TPat → Bool
 | _, [] => true
 | i, p :: t => okPat p && ((p.Not == decide (c ≤ i)) && patsFrom c (i + 1) t)
def okPats (l : List TPat) : Bool := (decide (1 ≤ l.length) && decide (l.length ≤ 6)) && ((decide (1 ≤ posCount l) && decide (posCount l ≤ 3)) && patsFrom (posCount l) 0 l)
theorem pats_i {N : Nat} (hN : 1099000000000 ≤ N) (r : TRule) (hl : r.Pats.length ≤ 1048576) (hp : ∀ p ∈ r.Pats, SzPat p) : m_i_patsOk N r = some (okPats r.Pats) := by
 have hc := count_i hN r hl
 have lp : ∀ (n i : Nat), i ≤ r.Pats.length → r.Pats.length - i < n → m_i_patsOk_l1 N r n i = some (patsFrom (posCount r.Pats) i (r.Pats.drop i)) := by
  intro n
  induction n with
  | zero => intro i _ h; omega
  | succ n ih =>
   intro i hi hn
   by_cases hlt : i < r.Pats.length
   ·have c1 : decide ((i : Int) < (r.Pats.length : Int)) = true := decide_eq_true (by omega)
    rw [List.drop_eq_getElem_cons hlt]
    simp only [m_i_patsOk_l1, c1, if_true, idx_nat_lt hlt, Option.bind_some, pat_i hN _ (hp _ (List.getElem_mem hlt)), hc, wr1 i (by omega), ih (i + 1) (by omega) (by omega), patsFrom]
    have hd : decide ((posCount r.Pats : Int) ≤ (i : Int)) = decide (posCount r.Pats ≤ i) := by rw [decide_eq_decide]; omega
    rw [hd]
    cases okPat r.Pats[i] <;> cases r.Pats[i].Not <;> cases decide (posCount r.Pats ≤ i) <;> rfl
   ·have c1 : decide ((i : Int) < (r.Pats.length : Int)) = false := decide_eq_false (by omega)
    rw [List.drop_of_length_le (by omega)]
    simp only [m_i_patsOk_l1, c1, Bool.false_eq_true, if_false]; rfl
 have l0 := lp N 0 (by omega) (by omega)
 have h1 : decide ((1 : Int) ≤ (r.Pats.length : Int)) = decide (1 ≤ r.Pats.length) := by rw [decide_eq_decide]; omega
 have h2 : decide ((r.Pats.length : Int) ≤ 6) = decide (r.Pats.length ≤ 6) := by rw [decide_eq_decide]; omega
 have h3 : decide ((1 : Int) ≤ (posCount r.Pats : Int)) = decide (1 ≤ posCount r.Pats) := by rw [decide_eq_decide]; omega
 have h4 : decide ((posCount r.Pats : Int) ≤ 3) = decide (posCount r.Pats ≤ 3) := by rw [decide_eq_decide]; omega
 unfold m_i_patsOk okPats
 simp only [in1, Option.bind_some, hc, h1, h2, h3, h4]
 rw [show m_i_patsOk_l1 N r N 0 = _ from l0, List.drop_zero]
 cases (decide (1 ≤ r.Pats.length) && decide (r.Pats.length ≤ 6)) <;> cases (decide (1 ≤ posCount r.Pats) && decide (posCount r.Pats ≤ 3)) <;> rfl
def patsS : Nat → Bool → List TPat → Bool
 | _, _, [] => true
 | i, b, p :: t => !(decide (2 < i) && !p.Not) && (okPat p && (!(decide (i = 0) && p.Not) && (!((decide (0 < i) && b) && !p.Not) && patsS (i + 1) p.Not t)))
theorem allNot : ∀ (l : List TPat) (i : Nat), 0 < i → patsS i true l = (l.all okPat && l.all fun p => p.Not)
 | [], i, h => rfl
 | p :: t, i, h => by
  have h1 : decide (i = 0) = false := decide_eq_false (by omega)
  have h2 : decide (0 < i) = true := decide_eq_true h
  unfold patsS
  simp only [h1, h2, Bool.false_and, Bool.not_false, Bool.true_and, List.all_cons]
  cases hp : p.Not with
  | false => cases okPat p <;> simp
  | true =>
   rw [allNot t (i + 1) (by omega)]
   cases okPat p <;> simp
theorem fromNot (c : Nat) : ∀ (l : List TPat) (i : Nat), c ≤ i → patsFrom c i l = (l.all okPat && l.all fun p => p.Not)
 | [], i, h => rfl
 | p :: t, i, h => by
  have h1 : decide (c ≤ i) = true := decide_eq_true h
  unfold patsFrom
  rw [fromNot c t (i + 1) (by omega), h1]
  simp only [List.all_cons]
  cases okPat p <;> cases p.Not <;> simp
theorem posCount_allNot : ∀ (l : List TPat), (l.all fun p => p.Not) = true ↔ posCount l = 0
 | [] => by simp [posCount]
 | p :: t => by
  unfold posCount
  have := posCount_allNot t
  cases hp : p.Not with
  | true => simp [hp]; simpa using this
  | false => simp [hp]
theorem patsS_iff : ∀ (l : List TPat) (i : Nat) (b : Bool), (0 < i → b = false) → i ≤ 3 → (patsS i b l = true ↔ (i = 0 → l = [] ∨ 0 < posCount l) ∧ i + posCount l ≤ 3 ∧ patsFrom (i + posCount l) i l = true)
 | [], i, b, hb, hi => by simp [patsS, posCount, patsFrom, hi]
 | p :: t, i, b, hb, hi => by
  have hb' : (decide (0 < i) && b) = false := by
   by_cases h : 0 < i
   ·simp [hb h]
   ·simp [h]
  unfold patsS patsFrom posCount
  rw [hb']
  cases hp : p.Not with
  | true =>
   simp only [Bool.not_true, Bool.and_false, Bool.not_false, Bool.true_and, if_true, Bool.and_true, Bool.false_and]
   by_cases h0 : i = 0
   ·subst h0
    simp only [decide_true, Bool.not_true, Bool.and_false, Bool.false_and, Bool.false_eq_true, false_iff]
    rintro ⟨h1, h2, h3⟩
    have h1 : 0 < posCount t := by simpa using h1
    simp only [Bool.and_eq_true, beq_iff_eq] at h3
    have := h3.2.1
    simp at this
    omega
   ·rw [decide_eq_false h0, allNot t (i + 1) (by omega)]
    simp only [Bool.not_false, Bool.true_and, Bool.and_eq_true, beq_iff_eq, h0, false_implies, true_and]
    constructor
    ·rintro ⟨h1, h2, h3⟩
     have h4 := (posCount_allNot t).1 h3
     rw [h4]
     refine ⟨by omega, h1, by simp, ?_⟩
     rw [fromNot _ t (i + 1) (by omega), h2, h3]; rfl
    ·rintro ⟨h1, h2, h3, h4⟩
     have h5 : i + posCount t ≤ i := by simpa using h3
     have h6 : posCount t = 0 := by omega
     exact ⟨h2, by
      rw [fromNot _ t (i + 1) (by omega)] at h4
      simp only [Bool.and_eq_true] at h4
      exact h4.1, (posCount_allNot t).2 h6⟩
  | false =>
   simp only [Bool.not_false, Bool.and_true, Bool.and_false, Bool.true_and, Bool.false_eq_true, if_false, Bool.and_eq_true, beq_iff_eq]
   have e1 : decide (i + (posCount t + 1) ≤ i) = false := decide_eq_false (by omega)
   rw [e1]
   have ar : i + (posCount t + 1) = i + 1 + posCount t := by omega
   by_cases h2 : 2 < i
   ·simp only [h2, decide_true, Bool.not_true, Bool.false_eq_true, false_and, false_iff]
    rintro ⟨_, h3, _⟩; omega
   ·have := patsS_iff t (i + 1) false (fun _ => rfl) (by omega)
    simp only [h2, decide_false, Bool.not_false, true_and]
    rw [this, ar]
    constructor
    ·rintro ⟨h3, _, h4, h5⟩
     refine ⟨fun _ => .inr (by omega), h4, h3, ?_⟩
     first | exact ⟨rfl, h5⟩ | exact h5
    ·rintro ⟨_, h4, h3, h5⟩
     refine ⟨h3, by omega, h4, ?_⟩
     first | exact h5.2 | exact h5
theorem okPats_eq (l : List TPat) : (patsS 0 false l && (decide (1 ≤ l.length) && decide (l.length ≤ 6))) = okPats l := by
 have := patsS_iff l 0 false (by simp) (by omega)
 simp only [true_implies, Nat.zero_add] at this
 rw [Bool.eq_iff_iff]
 unfold okPats
 simp only [Bool.and_eq_true, decide_eq_true_eq, this]
 constructor
 ·rintro ⟨⟨h1, h2, h3⟩, h4, h5⟩
  have h1 := h1.resolve_left (by rintro rfl; simp at h4)
  exact ⟨⟨h4, h5⟩, ⟨by omega, h2⟩, h3⟩
 ·rintro ⟨⟨h4, h5⟩, ⟨h1, h2⟩, h3⟩
  exact ⟨⟨.inr (by omega), h2, h3⟩, h4, h5⟩
theorem pats_s {N : Nat} (hN : 1099000000000 ≤ N) (l : List TPat) (hl : l.length ≤ 1048576) (hp : ∀ p ∈ l, SzPat p) : m_s_l9Pats N l = some (okPats l) := by
 have lp : ∀ (n i : Nat) (b : Bool), i ≤ l.length → l.length - i < n → (∀ (h : i - 1 < l.length), 0 < i → l[i - 1].Not = b) → m_s_l9Pats_l1 N l n i = some (patsS i b (l.drop i) && (decide (1 ≤ l.length) && decide (l.length ≤ 6))) := by
  intro n
  induction n with
  | zero => intro i b _ h; omega
  | succ n ih =>
   intro i b hi hn hb
   by_cases hlt : i < l.length
   ·have c1 : decide ((i : Int) < (l.length : Int)) = true := decide_eq_true (by omega)
    have h2 : decide ((2 : Int) < (i : Int)) = decide (2 < i) := by rw [decide_eq_decide]; omega
    have h3 : decide ((i : Int) = 0) = decide (i = 0) := by rw [decide_eq_decide]; omega
    have h4 : decide ((0 : Int) < (i : Int)) = decide (0 < i) := by rw [decide_eq_decide]; omega
    rw [List.drop_eq_getElem_cons hlt]
    simp only [m_s_l9Pats_l1, c1, if_true, idx_nat_lt hlt, Option.bind_some, pat_s hN _ (hp _ (List.getElem_mem hlt)), h2, h3, h4, wr1 i (by omega), ih (i + 1) l[i].Not (by omega) (by omega) (fun h _ => rfl), patsS]
    by_cases h0 : 0 < i
    ·have e1 : IntKind.i64.wrap ((i : Int) - 1) = ((i - 1 : Nat) : Int) := by rw [wr (by omega) (by omega)]; omega
     have e2 := hb (by omega) h0
     have e3 : decide (i = 0) = false := decide_eq_false (by omega)
     simp only [h0, decide_true, if_true, e1, idx_nat_lt (show i - 1 < l.length by omega), Option.bind_some, e2, e3]
     cases decide (2 < i) <;> cases l[i].Not <;> cases okPat l[i] <;> cases b <;> simp
    ·have e3 : decide (i = 0) = true := decide_eq_true (by omega)
     simp only [h0, decide_false, Bool.false_eq_true, if_false, Option.bind_some, e3]
     cases decide (2 < i) <;> cases l[i].Not <;> cases okPat l[i] <;> simp
   ·have c1 : decide ((i : Int) < (l.length : Int)) = false := decide_eq_false (by omega)
    have h1 : decide ((1 : Int) ≤ (l.length : Int)) = decide (1 ≤ l.length) := by rw [decide_eq_decide]; omega
    have h2 : decide ((l.length : Int) ≤ 6) = decide (l.length ≤ 6) := by rw [decide_eq_decide]; omega
    rw [List.drop_of_length_le (by omega)]
    simp only [m_s_l9Pats_l1, c1, Bool.false_eq_true, if_false, in0, Option.bind_some, h1, h2]; rfl
 unfold m_s_l9Pats
 rw [show m_s_l9Pats_l1 N l N 0 = _ from lp N 0 false (by omega) (by omega) (fun _ h => by omega), List.drop_zero, okPats_eq]
def okCondK (vs : List ByteArray) (c : TCond) : Bool := okCond c && (known vs c.L && known vs c.R)
theorem conds_s {N : Nat} (hN : 1099000000000 ≤ N) (l : List TCond) (vs : List ByteArray) (hl : l.length ≤ 1048576) (h : ∀ c ∈ l, SzCond c) (hv : vs.length ≤ 4294967296) : m_s_l9Conds N l vs = some (l.all (okCondK vs) && decide (l.length ≤ 6)) := by
 have h2 : decide ((l.length : Int) ≤ 6) = decide (l.length ≤ 6) := by rw [decide_eq_decide]; omega
 unfold m_s_l9Conds
 refine lp0 hN l (by omega) (m_s_l9Conds_l1 N l vs) (fun t => some (t.all (okCondK vs) && decide (l.length ≤ 6))) (fun n i x t g1 g2 g3 g4 g5 g6 g7 => ?_) (fun n i g1 g2 => ?_)
 ·simp only [m_s_l9Conds_l1, g5, if_true, g4, Option.bind_some, cond_s hN x (h x g2), known_s hN _ vs hv, g6, g7, List.all_cons, okCondK]
  cases okCond x <;> cases known vs x.L <;> cases known vs x.R <;> simp
 ·simp only [m_s_l9Conds_l1, g2, Bool.false_eq_true, if_false, h2]; rfl
def okExprK (vs : List ByteArray) (e : TExpr) : Bool := known vs e.L && known vs e.R
def okActK (vs : List ByteArray) (pos : Nat) (a : TAct) : Bool := okAct a && (!(decide (a.Kind = 2) && decide ((pos : Int) ≤ a.N)) && a.Args.all (okExprK vs))
theorem acts_s {N : Nat} (hN : 1099000000000 ≤ N) (l : List TAct) (vs : List ByteArray) (pos : Nat) (hl : l.length ≤ 1048576) (h : ∀ c ∈ l, SzAct c) (hv : vs.length ≤ 4294967296) : m_s_l9Acts N l vs pos = some (l.all (okActK vs pos) && (decide (1 ≤ l.length) && decide (l.length ≤ 6))) := by
 have h1 : decide ((1 : Int) ≤ (l.length : Int)) = decide (1 ≤ l.length) := by rw [decide_eq_decide]; omega
 have h2 : decide ((l.length : Int) ≤ 6) = decide (l.length ≤ 6) := by rw [decide_eq_decide]; omega
 unfold m_s_l9Acts
 refine lp0 hN l (by omega) (m_s_l9Acts_l1 N l vs pos) (fun t => some (t.all (okActK vs pos) && (decide (1 ≤ l.length) && decide (l.length ≤ 6)))) (fun n i x t g1 g2 g3 g4 g5 g6 g7 => ?_) (fun n i g1 g2 => ?_)
 ·have hx := h x g2
  have inner := lp0 hN x.Args (by have := hx.2.2.1; omega) (m_s_l9Acts_l2 N l vs i (m_s_l9Acts_l1 N l vs pos n)) (fun u => some (u.all (okExprK vs) && (t.all (okActK vs pos) && (decide (1 ≤ l.length) && decide (l.length ≤ 6))))) (fun n' i' y u k1 k2 k3 k4 k5 k6 k7 => by
   simp only [m_s_l9Acts_l2, g4, Option.bind_some, k5, if_true, k4, known_s hN _ vs hv, k6, k7, List.all_cons, okExprK]
   cases known vs y.L <;> cases known vs y.R <;> simp) (fun n' i' k1 k2 => by
   simp only [m_s_l9Acts_l2, g4, Option.bind_some, k2, Bool.false_eq_true, if_false, g6, g7, List.all_nil, Bool.true_and])
  simp only [m_s_l9Acts_l1, g5, if_true, g4, Option.bind_some, act_s hN x hx, inner, List.all_cons, okActK]
  cases okAct x <;> cases decide (x.Kind = 2) <;> cases decide ((pos : Int) ≤ x.N) <;> simp [Bool.and_assoc]
 ·simp only [m_s_l9Acts_l1, g2, Bool.false_eq_true, if_false, in0, Option.bind_some, h1, h2]; rfl
def SzRule (r : TRule) : Prop := r.Name.size ≤ 1048576 ∧ (r.Pats.length ≤ 1048576 ∧ ∀ p ∈ r.Pats, SzPat p) ∧ (r.Conds.length ≤ 1048576 ∧ ∀ c ∈ r.Conds, SzCond c) ∧ (r.Acts.length ≤ 1048576 ∧ ∀ a ∈ r.Acts, SzAct a) ∧ nArgs r.Pats ≤ 1048576 ∧ (r.Acts.map fun a => a.Args.length).sum ≤ 1048576
def okRule (r : TRule) : Bool := okName r.Name && ((decide (-100 ≤ r.Sal) && decide (r.Sal ≤ 100)) && (okPats r.Pats && ((r.Conds.all (okCondK (bound r)) && decide (r.Conds.length ≤ 6)) && (r.Acts.all (okActK (bound r) (posCount r.Pats)) && (decide (1 ≤ r.Acts.length) && decide (r.Acts.length ≤ 6))))))
theorem rule_s {N : Nat} (hN : 1099000000000 ≤ N) (r : TRule) (h : SzRule r) : m_s_RuleOk N r = some (okRule r) := by
 obtain ⟨h1, ⟨h2, h2'⟩, ⟨h3, h3'⟩, ⟨h4, h4'⟩, h5, h6⟩ := h
 have hb := bound_len h5
 unfold m_s_RuleOk okRule
 have e1 := conds_s hN _ (bound r) h3 h3' (by omega)
 have e2 := acts_s hN _ (bound r) (posCount r.Pats) h4 h4' (by omega)
 have e0 : m_s_PosVars N r = some (bound r) := posVars_s hN r h2 h5 (fun p hp => (h2' p hp).2.1)
 simp only [e0, Option.bind_some, okName_s hN _ h1, in0, pats_s hN _ h2 h2', e1, count_s hN r h2, e2, andS, Bool.and_assoc]
def condNames : List TCond → List ByteArray
 | [] => []
 | c :: t => argVars [c.L, c.R] ++ condNames t
def exprNames : List TExpr → List ByteArray
 | [] => []
 | e :: t => argVars [e.L, e.R] ++ exprNames t
def actNames : List TAct → List ByteArray
 | [] => []
 | a :: t => exprNames a.Args ++ actNames t
theorem condNames_len : ∀ (l : List TCond), (condNames l).length ≤ 2 * l.length
 | [] => by simp [condNames]
 | c :: t => by have := condNames_len t; have := argVars_len [c.L, c.R]; simp [condNames] at *; omega
theorem exprNames_len : ∀ (l : List TExpr), (exprNames l).length ≤ 2 * l.length
 | [] => by simp [exprNames]
 | c :: t => by have := exprNames_len t; have := argVars_len [c.L, c.R]; simp [exprNames] at *; omega
def nExprs (l : List TAct) : Nat := (l.map fun a => a.Args.length).sum
theorem actNames_len : ∀ (l : List TAct), (actNames l).length ≤ 2 * nExprs l
 | [] => by simp [actNames, nExprs]
 | a :: t => by have := actNames_len t; have := exprNames_len a.Args; simp [actNames, nExprs] at *; omega
theorem used3 {N : Nat} (hN : 1099000000000 ≤ N) (x : TAct) (s4 : Nat) (K : List ByteArray → Int → Option (List ByteArray)) (l : List TAct) (g : List ByteArray → Option (List ByteArray)) (s : List ByteArray) (hl : s.length + 2 * x.Args.length ≤ 4294967280) (hx : x.Args.length ≤ 1048576) (h4 : s4 ≤ 1048576)
  (hK : ∀ s', s'.length ≤ s.length + 2 * x.Args.length → K s' ((s4 + 1 : Nat) : Int) = g s') : m_i_usedVars_l3 N s4 K x N s 0 = g ((exprNames x.Args).foldl once s) := by
 refine lp' hN x.Args (by omega) (m_i_usedVars_l3 N s4 K x) (fun t s => g ((exprNames t).foldl once s)) (fun u t => u.length + 2 * t.length ≤ s.length + 2 * x.Args.length) s (by omega) (fun n u i y t h1 h2 h3 h4' h5 h6 hI ih => ?_) (fun n u i h1 h2 hI => ?_)
 ·simp only [List.length_cons] at hI
  have hv := onces_len (argVars [y.L, y.R]) u
  have ha := argVars_len [y.L, y.R]
  simp only [List.length_cons, List.length_nil] at ha
  simp only [m_i_usedVars_l3, h5, if_true, h4', Option.bind_some, addVars_i hN [y.L, y.R] u (by simp; omega), h6, exprNames, List.foldl_append]
  exact ih _ (by omega)
 ·simp only [m_i_usedVars_l3, h2, Bool.false_eq_true, if_false, wr1 s4 (by omega), exprNames]
  exact hK u (by simpa using hI)
theorem used_i {N : Nat} (hN : 1099000000000 ≤ N) (r : TRule) (hc : r.Conds.length ≤ 1048576) (ha : r.Acts.length ≤ 1048576) (hx : ∀ a ∈ r.Acts, a.Args.length ≤ 1048576) (he : nExprs r.Acts ≤ 1048576) : m_i_usedVars N r = some ((condNames r.Conds ++ actNames r.Acts).foldl once []) := by
 unfold m_i_usedVars
 have a2 : ∀ s : List ByteArray, s.length ≤ 4194304 → m_i_usedVars_l2 N r N s 0 = some ((actNames r.Acts).foldl once s) := fun s hs =>
  lp' hN r.Acts (by omega) (m_i_usedVars_l2 N r) (fun t s => some ((actNames t).foldl once s)) (fun s t => s.length + 2 * nExprs t ≤ 16777216) s (by omega) (fun n u i x t h1 h2 h3 h4 h5 h6 hI ih => by
   have hI' : u.length + 2 * (x.Args.length + nExprs t) ≤ 16777216 := by simpa [nExprs] using hI
   simp only [m_i_usedVars_l2, h5, if_true, h4, Option.bind_some, actNames, List.foldl_append]
   exact used3 hN x i (m_i_usedVars_l2 N r n) r.Acts (fun s' => some ((actNames t).foldl once s')) u (by omega) (hx x h2) (by omega) (fun s' hs' => ih s' (by omega))) (fun n u i h1 h2 hI => by simp only [m_i_usedVars_l2, h2, Bool.false_eq_true, if_false]; rfl)
 refine lp' hN r.Conds (by omega) (m_i_usedVars_l1 N r) (fun t s => some ((condNames t ++ actNames r.Acts).foldl once s)) (fun s t => s.length + 2 * t.length ≤ 4194304) [] (by simp; omega) (fun n u i x t h1 h2 h3 h4 h5 h6 hI ih => ?_) (fun n u i h1 h2 hI => ?_)
 ·simp only [List.length_cons] at hI
  have hv := onces_len (argVars [x.L, x.R]) u
  have ha := argVars_len [x.L, x.R]
  simp only [List.length_cons, List.length_nil] at ha
  simp only [m_i_usedVars_l1, h5, if_true, h4, Option.bind_some, addVars_i hN [x.L, x.R] u (by simp; omega), h6, condNames, List.append_assoc]
  rw [List.foldl_append]
  exact ih _ (by omega)
 ·simp only [m_i_usedVars_l1, h2, Bool.false_eq_true, if_false, condNames, List.nil_append]
  exact a2 u (by simpa using hI)
theorem known_iff (vs : List ByteArray) (a b : TArg) : (known vs a && known vs b) = true ↔ ∀ x ∈ argVars [a, b], x ∈ vs := by
 unfold known
 simp only [mem_argVars, List.mem_cons, List.not_mem_nil, or_false, Bool.and_eq_true, Bool.or_eq_true, Bool.not_eq_true', decide_eq_false_iff_not, decide_eq_true_eq]
 constructor
 ·rintro ⟨h1, h2⟩ x ⟨c, rfl | rfl, h3, rfl⟩
  ·exact h1.resolve_left (fun h => h h3)
  ·exact h2.resolve_left (fun h => h h3)
 ·intro h
  refine ⟨?_, ?_⟩
  ·by_cases h1 : a.K = 1
   ·exact .inr (h _ ⟨a, .inl rfl, h1, rfl⟩)
   ·exact .inl h1
  ·by_cases h1 : b.K = 1
   ·exact .inr (h _ ⟨b, .inr rfl, h1, rfl⟩)
   ·exact .inl h1
theorem condNames_iff (vs : List ByteArray) : ∀ (l : List TCond), (∀ x ∈ condNames l, x ∈ vs) ↔ ∀ c ∈ l, (known vs c.L && known vs c.R) = true
 | [] => by simp [condNames]
 | c :: t => by
  simp only [condNames, List.mem_append, or_imp, forall_and, condNames_iff vs t, List.mem_cons, forall_eq, known_iff]
theorem exprNames_iff (vs : List ByteArray) : ∀ (l : List TExpr), (∀ x ∈ exprNames l, x ∈ vs) ↔ ∀ c ∈ l, okExprK vs c = true
 | [] => by simp [exprNames]
 | c :: t => by
  simp only [exprNames, List.mem_append, or_imp, forall_and, exprNames_iff vs t, List.mem_cons, forall_eq, okExprK, known_iff]
theorem actNames_iff (vs : List ByteArray) : ∀ (l : List TAct), (∀ x ∈ actNames l, x ∈ vs) ↔ ∀ a ∈ l, a.Args.all (okExprK vs) = true
 | [] => by simp [actNames]
 | c :: t => by
  simp only [actNames, List.mem_append, or_imp, forall_and, actNames_iff vs t, List.mem_cons, forall_eq, exprNames_iff, List.all_eq_true]
theorem rule_i {N : Nat} (hN : 1099000000000 ≤ N) (r : TRule) (h : SzRule r) : m_i_RuleOk N r = some (okRule r) := by
 obtain ⟨h1, ⟨h2, h2'⟩, ⟨h3, h3'⟩, ⟨h4, h4'⟩, h5, h6⟩ := h
 have hb := bound_len h5
 have e0 : m_i_PosVars N r = some (bound r) := posVars_i hN r h2 h5
 have e1 := used_i hN r h3 h4 (fun a ha => (h4' a ha).2.2.1) h6
 have ul : ((condNames r.Conds ++ actNames r.Acts).foldl once []).length ≤ 4294967296 := by
  have a1 := onces_len (condNames r.Conds ++ actNames r.Acts) []
  have a2 := condNames_len r.Conds
  have a3 := actNames_len r.Acts
  have a4 : nExprs r.Acts ≤ 1048576 := h6
  simp only [List.length_append, List.length_nil] at a1; omega
 have l3 : m_i_RuleOk_l3 N (bound r) ((condNames r.Conds ++ actNames r.Acts).foldl once []) N 0 = some (((condNames r.Conds ++ actNames r.Acts).foldl once []).all fun x => decide (x ∈ bound r)) :=
  lp0 hN _ ul (m_i_RuleOk_l3 N (bound r) _) (fun t => some (t.all fun x => decide (x ∈ bound r))) (fun n i x t g1 g2 g3 g4 g5 g6 g7 => by
   simp only [m_i_RuleOk_l3, g5, if_true, g4, Option.bind_some, hasSl hN _ x (show (bound r).length ≤ 4294967296 by omega), g6, g7, List.all_cons]
   cases decide (x ∈ bound r) <;> rfl) (fun n i g1 g2 => by simp only [m_i_RuleOk_l3, g2, Bool.false_eq_true, if_false]; rfl)
 have l2 : m_i_RuleOk_l2 N r N 0 = some ((r.Acts.all fun a => okAct a && !(decide (a.Kind = 2) && decide ((posCount r.Pats : Int) ≤ a.N))) && ((condNames r.Conds ++ actNames r.Acts).foldl once []).all fun x => decide (x ∈ bound r)) :=
  lp0 hN r.Acts (by omega) (m_i_RuleOk_l2 N r) (fun t => some ((t.all fun a => okAct a && !(decide (a.Kind = 2) && decide ((posCount r.Pats : Int) ≤ a.N))) && ((condNames r.Conds ++ actNames r.Acts).foldl once []).all fun x => decide (x ∈ bound r))) (fun n i x t g1 g2 g3 g4 g5 g6 g7 => by
   simp only [m_i_RuleOk_l2, g5, if_true, g4, Option.bind_some, act_i hN x (h4' x g2), count_i hN r h2, g6, g7, List.all_cons]
   cases okAct x <;> cases decide (x.Kind = 2) <;> cases decide ((posCount r.Pats : Int) ≤ x.N) <;> simp) (fun n i g1 g2 => by
   simp only [m_i_RuleOk_l2, g2, Bool.false_eq_true, if_false, e0, e1, Option.bind_some, l3]; rfl)
 have l1 : m_i_RuleOk_l1 N r N 0 = some (r.Conds.all okCond && ((r.Acts.all fun a => okAct a && !(decide (a.Kind = 2) && decide ((posCount r.Pats : Int) ≤ a.N))) && ((condNames r.Conds ++ actNames r.Acts).foldl once []).all fun x => decide (x ∈ bound r))) :=
  lp0 hN r.Conds (by omega) (m_i_RuleOk_l1 N r) (fun t => some (t.all okCond && ((r.Acts.all fun a => okAct a && !(decide (a.Kind = 2) && decide ((posCount r.Pats : Int) ≤ a.N))) && ((condNames r.Conds ++ actNames r.Acts).foldl once []).all fun x => decide (x ∈ bound r)))) (fun n i x t g1 g2 g3 g4 g5 g6 g7 => by
   simp only [m_i_RuleOk_l1, g5, if_true, g4, Option.bind_some, cond_i hN x (h3' x g2), g6, g7, List.all_cons]
   cases okCond x <;> simp) (fun n i g1 g2 => by
   simp only [m_i_RuleOk_l1, g2, Bool.false_eq_true, if_false, l2]; rfl)
 have d1 : decide ((6 : Int) < (r.Conds.length : Int)) = !decide (r.Conds.length ≤ 6) := by rw [← decide_not, decide_eq_decide]; omega
 have d2 : decide ((1 : Int) ≤ (r.Acts.length : Int)) = decide (1 ≤ r.Acts.length) := by rw [decide_eq_decide]; omega
 have d3 : decide ((r.Acts.length : Int) ≤ 6) = decide (r.Acts.length ≤ 6) := by rw [decide_eq_decide]; omega
 have key : (r.Conds.all okCond && ((r.Acts.all fun a => okAct a && !(decide (a.Kind = 2) && decide ((posCount r.Pats : Int) ≤ a.N))) && ((condNames r.Conds ++ actNames r.Acts).foldl once []).all fun x => decide (x ∈ bound r))) = (r.Conds.all (okCondK (bound r)) && r.Acts.all (okActK (bound r) (posCount r.Pats))) := by
  rw [Bool.eq_iff_iff]
  have k1 : (((condNames r.Conds ++ actNames r.Acts).foldl once []).all fun x => decide (x ∈ bound r)) = true ↔ (∀ c ∈ r.Conds, (known (bound r) c.L && known (bound r) c.R) = true) ∧ ∀ a ∈ r.Acts, a.Args.all (okExprK (bound r)) = true := by
   rw [← condNames_iff, ← actNames_iff]
   simp only [List.all_eq_true, decide_eq_true_eq, mem_onces, List.not_mem_nil, false_or, List.mem_append, or_imp, forall_and]
  rw [Bool.and_eq_true, Bool.and_eq_true, Bool.and_eq_true, k1]
  simp only [List.all_eq_true, okCondK, okActK, Bool.and_eq_true, forall_and, and_imp]
  constructor
  ·rintro ⟨a1, ⟨a2, a3⟩, ⟨a4, a5⟩, a6⟩; exact ⟨⟨a1, a4, a5⟩, a2, a3, a6⟩
  ·rintro ⟨⟨a1, a4, a5⟩, a2, a3, a6⟩; exact ⟨a1, ⟨a2, a3⟩, ⟨a4, a5⟩, a6⟩
 unfold m_i_RuleOk okRule
 simp only [okName_i hN _ h1, Option.bind_some, in1, pats_i hN r h2 h2', d1, d2, d3, l1, key]
 generalize okName r.Name = a; generalize okPats r.Pats = b; generalize (decide (-100 ≤ r.Sal) && decide (r.Sal ≤ 100)) = c; generalize decide (r.Conds.length ≤ 6) = d; generalize (decide (1 ≤ r.Acts.length) && decide (r.Acts.length ≤ 6)) = e
 generalize r.Conds.all (okCondK (bound r)) = f; generalize r.Acts.all (okActK (bound r) (posCount r.Pats)) = g
 cases a <;> cases b <;> cases c <;> cases d <;> cases e <;> cases f <;> cases g <;> rfl
def ruleAt (l : List TRule) (v : ByteArray) : Int := match l.findIdx? (fun r => seq r.Name v) with | some j => (j : Int) | none => -1
theorem at_i {N : Nat} (hN : 1099000000000 ≤ N) (d : TDef) (v : ByteArray) (hl : d.Rules.length ≤ 1048576) : m_i_RuleAt N d v = some (ruleAt d.Rules v) := by
 unfold m_i_RuleAt m_sl_IndexFunc_Si_Rule_i_Rule ruleAt
 have b := findloop (m_sl_IndexFunc_Si_Rule_i_Rule_l1 N d.Rules (fun a0 => m_i_RuleAt_c1 N a0 v)) d.Rules (by omega) (fun x => seq x.Name v) (fun n i x hx _ hc hw => by simp only [m_sl_IndexFunc_Si_Rule_i_Rule_l1, m_i_RuleAt_c1, hc, if_true, hx, Option.bind_some, hw]) (fun n i hc => by simp only [m_sl_IndexFunc_Si_Rule_i_Rule_l1, hc, Bool.false_eq_true, if_false]) N 0 (by omega) (by omega)
 rw [show ((0 : Nat) : Int) = 0 from rfl, List.drop_zero] at b
 rw [b]
 cases d.Rules.findIdx? (fun r => seq r.Name v) <;> simp
def rulesFrom (all : List TRule) : Nat → List TRule → Bool
 | _, [] => true
 | i, r :: t => okRule r && (decide (ruleAt all r.Name = (i : Int)) && rulesFrom all (i + 1) t)
def okDef (d : TDef) : Bool := okName d.Name && ((decide (1 ≤ d.Rules.length) && decide (d.Rules.length ≤ 12)) && rulesFrom d.Rules 0 d.Rules)
def SzDef (d : TDef) : Prop := d.Name.size ≤ 1048576 ∧ d.Rules.length ≤ 1048576 ∧ ∀ r ∈ d.Rules, SzRule r
theorem def_i {N : Nat} (hN : 1099000000000 ≤ N) (d : TDef) (h : SzDef d) : m_i_DefOk N d = some (okDef d) := by
 obtain ⟨h1, h2, h3⟩ := h
 have lp : ∀ (n i : Nat), i ≤ d.Rules.length → d.Rules.length - i < n → m_i_DefOk_l1 N d n i = some (rulesFrom d.Rules i (d.Rules.drop i)) := by
  intro n
  induction n with
  | zero => intro i _ h; omega
  | succ n ih =>
   intro i hi hn
   by_cases hlt : i < d.Rules.length
   ·have c1 : decide ((i : Int) < (d.Rules.length : Int)) = true := decide_eq_true (by omega)
    rw [List.drop_eq_getElem_cons hlt]
    simp only [m_i_DefOk_l1, c1, if_true, idx_nat_lt hlt, Option.bind_some, rule_i hN _ (h3 _ (List.getElem_mem hlt)), at_i hN d _ h2, wr1 i (by omega), ih (i + 1) (by omega) (by omega), rulesFrom]
    cases okRule d.Rules[i] <;> cases decide (ruleAt d.Rules d.Rules[i].Name = (i : Int)) <;> simp
   ·have c1 : decide ((i : Int) < (d.Rules.length : Int)) = false := decide_eq_false (by omega)
    rw [List.drop_of_length_le (by omega)]
    simp only [m_i_DefOk_l1, c1, Bool.false_eq_true, if_false]; rfl
 have l0 := lp N 0 (by omega) (by omega)
 have d1 : decide ((1 : Int) ≤ (d.Rules.length : Int)) = decide (1 ≤ d.Rules.length) := by rw [decide_eq_decide]; omega
 have d2 : decide ((d.Rules.length : Int) ≤ 12) = decide (d.Rules.length ≤ 12) := by rw [decide_eq_decide]; omega
 unfold m_i_DefOk okDef
 simp only [okName_i hN _ h1, Option.bind_some, in1, d1, d2]
 rw [show m_i_DefOk_l1 N d N 0 = _ from l0, List.drop_zero]
 cases okName d.Name <;> cases (decide (1 ≤ d.Rules.length) && decide (d.Rules.length ≤ 12)) <;> rfl
theorem okDef_rule {d : TDef} (h : okDef d = true) : ∀ r ∈ d.Rules, okRule r = true := by
 unfold okDef at h
 simp only [Bool.and_eq_true] at h
 have : ∀ (l : List TRule) (i : Nat), rulesFrom d.Rules i l = true → ∀ r ∈ l, okRule r = true := by
  intro l
  induction l with
  | nil => intro i _ r hr; cases hr
  | cons x t ih =>
   intro i hi r hr
   unfold rulesFrom at hi
   simp only [Bool.and_eq_true] at hi
   rcases List.mem_cons.1 hr with rfl | hr
   ·exact hi.1
   ·exact ih _ hi.2.2 r hr
 exact this _ _ h.2.2
abbrev Toks := List TToken
abbrev e0 : ByteArray := ⟨#[]⟩
def mkT (s : ByteArray) : TToken := ⟨5, 0, s⟩
def wdT (s : ByteArray) : TToken := ⟨2, 0, s⟩
def inT (n : Int) : TToken := ⟨1, n, e0⟩
def skipP (k : Int) (s : ByteArray) : Toks → Option Toks
 | [] => none
 | t :: r => if t.K = k ∧ t.S = s then some r else none
def wordP (k : Int) : Toks → Option (TToken × Toks)
 | [] => none
 | t :: r => if t.K = k then some (t, r) else none
def numP (z : Bool) (ts : Toks) : Option (Int × Toks) :=
 match skipP 5 ⟨#[45]⟩ ts with
 | some r => (wordP 1 r).bind fun x => if z = true ∧ x.1.N = 0 then none else some (-x.1.N, x.2)
 | none => (wordP 1 ts).bind fun x => some (x.1.N, x.2)
def argP (z : Bool) : Toks → Option (TArg × Toks)
 | [] => none
 | t :: r => if t.K = 3 then some (⟨1, t.S, ⟨0, 0, e0⟩⟩, r) else if t.K = 4 then some (⟨2, e0, ⟨2, 0, t.S⟩⟩, r) else if t.K = 5 ∧ t.S = ⟨#[95]⟩ then some (⟨3, e0, ⟨0, 0, e0⟩⟩, r) else (numP z (t :: r)).bind fun x => some (⟨2, e0, ⟨1, x.1, e0⟩⟩, x.2)
def manyP {α : Type} (f : Toks → Option (α × Toks)) : Nat → Toks → Option (List α × Toks)
 | 0, _ => none
 | n + 1, ts => (f ts).bind fun x => match skipP 5 ⟨#[44]⟩ x.2 with
  | some r => (manyP f n r).bind fun y => some (x.1 :: y.1, y.2)
  | none => some ([x.1], x.2)
def listP {α : Type} (f : Toks → Option (α × Toks)) (ts : Toks) : Option (List α × Toks) :=
 (skipP 5 ⟨#[40]⟩ ts).bind fun r => match skipP 5 ⟨#[41]⟩ r with
  | some r' => some ([], r')
  | none => (manyP f 4000 r).bind fun x => (skipP 5 ⟨#[41]⟩ x.2).bind fun r' => some (x.1, r')
def exprP (z : Bool) (ts : Toks) : Option (TExpr × Toks) :=
 (argP z ts).bind fun x => match skipP 5 ⟨#[43]⟩ x.2 with
  | some r => (argP z r).bind fun y => some (⟨⟨#[43]⟩, x.1, y.1⟩, y.2)
  | none => match skipP 5 ⟨#[45]⟩ x.2 with
   | some r => (argP z r).bind fun y => some (⟨⟨#[45]⟩, x.1, y.1⟩, y.2)
   | none => some (⟨e0, x.1, ⟨0, e0, ⟨0, 0, e0⟩⟩⟩, x.2)
def opP (ts : Toks) : Option (Int × Toks) :=
 match skipP 5 ⟨#[61]⟩ ts with
 | some r => some (1, r)
 | none => match skipP 5 ⟨#[35]⟩ ts with
  | some r => some (2, r)
  | none => (skipP 5 ⟨#[60]⟩ ts).bind fun r => some (3, r)
def condP (z : Bool) (ts : Toks) : Option (TCond × Toks) :=
 (argP z ts).bind fun x => (opP x.2).bind fun o => (argP z o.2).bind fun y => some (⟨o.1, x.1, y.1⟩, y.2)
def bangP (ts : Toks) : Bool × Toks := match skipP 5 ⟨#[33]⟩ ts with
 | some r => (true, r)
 | none => (false, ts)
def patP (z : Bool) (ts : Toks) : Option (TPat × Toks) :=
 (wordP 2 (bangP ts).2).bind fun w => (listP (argP z) w.2).bind fun l => some (⟨w.1.S, l.1, (bangP ts).1⟩, l.2)
def callP (z : Bool) (ts : Toks) : Option ((ByteArray × List TExpr) × Toks) :=
 (wordP 2 ts).bind fun w => (listP (exprP z) w.2).bind fun l => some ((w.1.S, l.1), l.2)
def undoP (ts : Toks) : Option (ByteArray × Toks) := match skipP 2 ⟨#[117, 110, 100, 111]⟩ ts with
 | some r => (wordP 2 r).bind fun u => some (u.1.S, u.2)
 | none => some (e0, ts)
def actP (z : Bool) (ts : Toks) : Option (TAct × Toks) :=
 (wordP 2 ts).bind fun w =>
  if w.1.S = ⟨#[97, 115, 115, 101, 114, 116]⟩ then (callP z w.2).bind fun c => some (⟨1, c.1.1, c.1.2, 0, e0⟩, c.2)
  else if w.1.S = ⟨#[100, 114, 111, 112]⟩ then (wordP 1 w.2).bind fun n => some (⟨2, e0, [], n.1.N, e0⟩, n.2)
  else if w.1.S = ⟨#[116, 97, 115, 107]⟩ then (callP z w.2).bind fun c => (undoP c.2).bind fun u => some (⟨3, c.1.1, c.1.2, 0, u.1⟩, u.2)
  else if w.1.S = ⟨#[116, 105, 109, 101, 114]⟩ then (wordP 1 w.2).bind fun n => (callP z n.2).bind fun c => some (⟨4, c.1.1, c.1.2, n.1.N, e0⟩, c.2)
  else if w.1.S = ⟨#[100, 111, 110, 101]⟩ then some (⟨5, e0, [], 0, e0⟩, w.2)
  else if w.1.S = ⟨#[102, 97, 105, 108]⟩ then some (⟨6, e0, [], 0, e0⟩, w.2)
  else none
def condsP (z : Bool) (ts : Toks) : Option (List TCond × Toks) := match skipP 5 ⟨#[43]⟩ ts with
 | some r => manyP (condP z) 4000 r
 | none => some ([], ts)
def ruleP (z : Bool) (ts : Toks) : Option (TRule × Toks) :=
 (skipP 2 ⟨#[114, 117, 108, 101]⟩ ts).bind fun r0 => (wordP 2 r0).bind fun w => (numP z w.2).bind fun n => (skipP 5 ⟨#[58]⟩ n.2).bind fun r1 => (manyP (patP z) 4000 r1).bind fun ps =>
  (condsP z ps.2).bind fun cs => (skipP 5 ⟨#[45, 62]⟩ cs.2).bind fun r2 => (manyP (actP z) 4000 r2).bind fun as => (skipP 5 ⟨#[46]⟩ as.2).bind fun r3 => some (⟨w.1.S, n.1, ps.1, cs.1, as.1⟩, r3)
def rulesP (z : Bool) : Nat → Toks → Option (List TRule)
 | 0, _ => none
 | n + 1, [] => some []
 | n + 1, t :: ts => (ruleP z (t :: ts)).bind fun x => (rulesP z n x.2).bind fun l => some (x.1 :: l)
def defP (z : Bool) (ts : Toks) : Option TDef :=
 (skipP 2 ⟨#[100, 101, 102]⟩ ts).bind fun r0 => (wordP 2 r0).bind fun w => (skipP 5 ⟨#[46]⟩ w.2).bind fun r1 => (rulesP z 4000 r1).bind fun l => some ⟨w.1.S, l⟩
def toksInt (n : Int) : Toks := if n < 0 then [mkT ⟨#[45]⟩, inT (-n)] else [inT n]
def toksArg (a : TArg) : Toks := if a.K = 1 then [⟨3, 0, a.S⟩] else if a.K = 2 then (if a.V.K = 1 then toksInt a.V.N else [⟨4, 0, a.V.S⟩]) else [mkT ⟨#[95]⟩]
def toksMany {α : Type} (f : α → Toks) : List α → Toks
 | [] => []
 | [x] => f x
 | x :: y :: l => f x ++ mkT ⟨#[44]⟩ :: toksMany f (y :: l)
def toksList {α : Type} (f : α → Toks) (l : List α) : Toks := mkT ⟨#[40]⟩ :: (toksMany f l ++ [mkT ⟨#[41]⟩])
def toksExpr (e : TExpr) : Toks := toksArg e.L ++ (if e.Op = e0 then [] else mkT e.Op :: toksArg e.R)
def toksCond (c : TCond) : Toks := toksArg c.L ++ mkT (if c.Op = 1 then ⟨#[61]⟩ else if c.Op = 2 then ⟨#[35]⟩ else ⟨#[60]⟩) :: toksArg c.R
def toksPat (p : TPat) : Toks := (if p.Not = true then [mkT ⟨#[33]⟩] else []) ++ wdT p.Kind :: toksList toksArg p.Args
def toksCall (s : ByteArray) (l : List TExpr) : Toks := wdT s :: toksList toksExpr l
def toksAct (a : TAct) : Toks :=
 if a.Kind = 1 then wdT ⟨#[97, 115, 115, 101, 114, 116]⟩ :: toksCall a.Name a.Args
 else if a.Kind = 2 then [wdT ⟨#[100, 114, 111, 112]⟩, inT a.N]
 else if a.Kind = 3 then wdT ⟨#[116, 97, 115, 107]⟩ :: (toksCall a.Name a.Args ++ (if a.Undo = e0 then [] else [wdT ⟨#[117, 110, 100, 111]⟩, wdT a.Undo]))
 else if a.Kind = 4 then wdT ⟨#[116, 105, 109, 101, 114]⟩ :: inT a.N :: toksCall a.Name a.Args
 else if a.Kind = 5 then [wdT ⟨#[100, 111, 110, 101]⟩]
 else [wdT ⟨#[102, 97, 105, 108]⟩]
def toksConds (l : List TCond) : Toks := if l = [] then [] else mkT ⟨#[43]⟩ :: toksMany toksCond l
def toksRule (r : TRule) : Toks :=
 wdT ⟨#[114, 117, 108, 101]⟩ :: wdT r.Name :: (toksInt r.Sal ++ mkT ⟨#[58]⟩ :: (toksMany toksPat r.Pats ++ (toksConds r.Conds ++ mkT ⟨#[45, 62]⟩ :: (toksMany toksAct r.Acts ++ [mkT ⟨#[46]⟩]))))
def toksDef (d : TDef) : Toks := wdT ⟨#[100, 101, 102]⟩ :: wdT d.Name :: mkT ⟨#[46]⟩ :: d.Rules.flatMap toksRule
theorem skip_hit {k : Int} {s : ByteArray} {n : Int} {r : Toks} : skipP k s (⟨k, n, s⟩ :: r) = some r := by simp [skipP]
theorem skip_mk {s : ByteArray} {r : Toks} : skipP 5 s (mkT s :: r) = some r := skip_hit
theorem skip_wd {s : ByteArray} {r : Toks} : skipP 2 s (wdT s :: r) = some r := skip_hit
theorem skip_mkne {s s' : ByteArray} {r : Toks} (h : s' ≠ s) : skipP 5 s (mkT s' :: r) = none := by simp [skipP, mkT, h]
theorem skip_wd5 {s s' : ByteArray} {r : Toks} : skipP 5 s (wdT s' :: r) = none := by simp [skipP, wdT]
theorem skip_in5 {s : ByteArray} {n : Int} {r : Toks} : skipP 5 s (inT n :: r) = none := by simp [skipP, inT]
theorem skip_mk2 {s s' : ByteArray} {r : Toks} : skipP 2 s (mkT s' :: r) = none := by simp [skipP, mkT]
theorem word_wd {s : ByteArray} {r : Toks} : wordP 2 (wdT s :: r) = some (wdT s, r) := by simp [wordP, wdT]
theorem word_in {n : Int} {r : Toks} : wordP 1 (inT n :: r) = some (inT n, r) := by simp [wordP, inT]
theorem num_ok {z : Bool} {n : Int} {r : Toks} : numP z (toksInt n ++ r) = some (n, r) := by
 unfold toksInt
 by_cases h : n < 0
 ·rw [if_pos h]
  simp only [numP, List.cons_append, List.nil_append, skip_mk, word_in, Option.bind_some]
  rw [if_neg (by rintro ⟨_, h2⟩; simp [inT] at h2; omega)]
  show some (- -n, r) = _
  rw [Int.neg_neg]
 ·rw [if_neg h]
  simp only [numP, List.cons_append, List.nil_append, skip_in5, word_in, Option.bind_some]
  rfl
theorem eqT_zero {v : TVal} (h : eqT_TVal v ⟨0, 0, e0⟩ = true) : v = ⟨0, 0, e0⟩ := by rw [eqT_TVal_eq] at h; exact of_decide_eq_true h
theorem seq_e0 {s : ByteArray} (h : seq s e0 = true) : s = e0 := by rw [seq_eq] at h; exact of_decide_eq_true h
theorem argP_num {z : Bool} {t : TToken} {r : Toks} (h3 : t.K ≠ 3) (h4 : t.K ≠ 4) (h5 : ¬ (t.K = 5 ∧ t.S = ⟨#[95]⟩)) : argP z (t :: r) = (numP z (t :: r)).bind fun x => some (⟨2, e0, ⟨1, x.1, e0⟩⟩, x.2) := by
 simp only [argP]
 rw [if_neg h3, if_neg h4, if_neg h5]
theorem arg_ok {z : Bool} {a : TArg} (h : okArg a = true) {r : Toks} : argP z (toksArg a ++ r) = some (a, r) := by
 obtain ⟨K, S, V⟩ := a
 unfold okArg at h
 unfold toksArg
 by_cases h1 : K = 1
 ·subst h1
  simp only [if_true, Bool.and_eq_true] at h
  have := eqT_zero h.2
  subst this
  simp [argP]
 ·simp only [h1, if_false] at h ⊢
  by_cases h2 : K = 2
  ·subst h2
   simp only [if_true, Bool.and_eq_true] at h
   obtain ⟨hv, hs⟩ := h
   have := seq_e0 hs
   subst this
   obtain ⟨vk, vn, vs⟩ := V
   unfold okVal at hv
   by_cases k1 : vk = 1
   ·subst k1
    simp only [if_true, Bool.and_eq_true] at hv ⊢
    have := seq_e0 hv.2
    subst this
    have hn := num_ok (z := z) (n := vn) (r := r)
    unfold toksInt at hn ⊢
    split <;> rename_i hc
    ·rw [if_pos hc] at hn
     simp only [List.cons_append, List.nil_append] at hn ⊢
     rw [argP_num (by decide) (by decide) (by rintro ⟨_, h⟩; exact absurd h (by decide)), hn]
     rfl
    ·rw [if_neg hc] at hn
     simp only [List.cons_append, List.nil_append] at hn ⊢
     rw [argP_num (by show (1 : Int) ≠ 3; decide) (by show (1 : Int) ≠ 4; decide) (by rintro ⟨h, _⟩; exact absurd (show (1 : Int) = 5 from h) (by decide)), hn]
     rfl
   ·simp only [k1, if_false] at hv ⊢
    split at hv
    ·rename_i k2
     simp only [Bool.and_eq_true, decide_eq_true_eq] at hv
     have h0 := hv.1
     subst h0; subst k2
     simp [argP]
    ·cases hv
  ·simp only [h2, if_false] at h ⊢
   split at h
   ·rename_i h3
    simp only [Bool.and_eq_true] at h
    have h4 := seq_e0 h.1
    have h5 := eqT_zero h.2
    subst h3 h4 h5
    simp [argP, mkT]
   ·cases h
theorem many_ok {α : Type} {f : Toks → Option (α × Toks)} {tk : α → Toks} (Q : Toks → Prop) (hQ : ∀ r, Q (mkT ⟨#[44]⟩ :: r)) {r : Toks} (hr : Q r) (hc : skipP 5 ⟨#[44]⟩ r = none) :
  ∀ (l : List α) (n : Nat), l ≠ [] → l.length ≤ n → (∀ x ∈ l, ∀ r, Q r → f (tk x ++ r) = some (x, r)) → manyP f n (toksMany tk l ++ r) = some (l, r)
 | [], n, h, _, _ => absurd rfl h
 | [x], n + 1, _, _, H => by
  simp only [toksMany, manyP, H x (by simp) r hr, Option.bind_some, hc]
 | x :: y :: l, n + 1, _, hl, H => by
  have ih := many_ok Q hQ hr hc (y :: l) n (by simp) (by simpa using hl) fun z hz => H z (by simp at hz ⊢; exact .inr hz)
  have h1 := H x (by simp) (mkT ⟨#[44]⟩ :: (toksMany tk (y :: l) ++ r)) (hQ _)
  simp only [toksMany, manyP, List.append_assoc, List.cons_append, h1, Option.bind_some, skip_mk, ih]
theorem list_ok {α : Type} {f : Toks → Option (α × Toks)} {tk : α → Toks} (Q : Toks → Prop) (hQ : ∀ r, Q (mkT ⟨#[44]⟩ :: r)) (hQ2 : ∀ r, Q (mkT ⟨#[41]⟩ :: r)) {l : List α} {r : Toks} (hl : l.length ≤ 4000) (H : ∀ x ∈ l, ∀ r, Q r → f (tk x ++ r) = some (x, r))
  (H2 : ∀ x ∈ l, ∀ r, skipP 5 ⟨#[41]⟩ (tk x ++ r) = none) : listP f (toksList tk l ++ r) = some (l, r) := by
 unfold listP toksList
 simp only [List.cons_append, skip_mk, Option.bind_some, List.append_assoc]
 cases l with
 | nil => simp [toksMany, skip_mk]
 | cons x l =>
  have h0 : skipP 5 ⟨#[41]⟩ (toksMany tk (x :: l) ++ mkT ⟨#[41]⟩ :: r) = none := by
   cases l with
   | nil => exact H2 x (by simp) _
   | cons y l => simp only [toksMany, List.append_assoc]; exact H2 x (by simp) _
  have h1 := many_ok Q hQ (hQ2 r) (skip_mkne (by decide)) (x :: l) 4000 (by simp) hl H
  simp only [List.nil_append, h0, h1, Option.bind_some, skip_mk]
theorem toksArg_head (a : TArg) : ∃ t r, toksArg a = t :: r ∧ (t.K ≠ 5 ∨ t.S = ⟨#[45]⟩ ∨ t.S = ⟨#[95]⟩) ∧ t.K ≠ 2 := by
 unfold toksArg toksInt
 split
 ·exact ⟨_, _, rfl, .inl (by simp), by simp⟩
 ·split
  ·split
   ·split
    ·exact ⟨_, _, rfl, .inr (.inl rfl), by simp [mkT]⟩
    ·exact ⟨_, _, rfl, .inl (by simp [inT]), by simp [inT]⟩
   ·exact ⟨_, _, rfl, .inl (by simp), by simp⟩
  ·exact ⟨_, _, rfl, .inr (.inr rfl), by simp [mkT]⟩
theorem arg_skip {a : TArg} {s : ByteArray} {r : Toks} (h1 : s ≠ ⟨#[45]⟩) (h2 : s ≠ ⟨#[95]⟩) : skipP 5 s (toksArg a ++ r) = none := by
 obtain ⟨t, q, h, hk, -⟩ := toksArg_head a
 rw [h, List.cons_append]
 simp only [skipP]
 rw [if_neg]
 rintro ⟨e1, rfl⟩
 rcases hk with hk | hk | hk
 ·exact hk e1
 ·exact h1 hk
 ·exact h2 hk
def NoSign (r : Toks) : Prop := skipP 5 ⟨#[43]⟩ r = none ∧ skipP 5 ⟨#[45]⟩ r = none
theorem noSign_mk {s : ByteArray} {r : Toks} (h1 : s ≠ ⟨#[43]⟩) (h2 : s ≠ ⟨#[45]⟩) : NoSign (mkT s :: r) := ⟨skip_mkne h1, skip_mkne h2⟩
theorem given_ok {a : TArg} (h : given a = true) : okArg a = true := by unfold given at h; simp only [Bool.and_eq_true] at h; exact h.1
theorem expr_ok {z : Bool} {e : TExpr} (h : okExpr e = true) {r : Toks} (hr : NoSign r) : exprP z (toksExpr e ++ r) = some (e, r) := by
 obtain ⟨Op, L, R⟩ := e
 unfold okExpr at h
 unfold exprP toksExpr
 by_cases h0 : Op = e0
 ·subst h0
  rw [if_pos (seq_self _)] at h
  simp only [Bool.and_eq_true] at h
  have hR : R = ⟨0, e0, ⟨0, 0, e0⟩⟩ := by have := h.2; rw [eqT_TArg_eq] at this; exact of_decide_eq_true this
  subst hR
  simp only [if_true, List.append_nil, arg_ok (given_ok h.1), Option.bind_some, hr.1, hr.2]
 ·rw [if_neg (by rw [seq_eq]; simp only [decide_eq_true_eq]; exact h0)] at h
  simp only [Bool.and_eq_true, Bool.or_eq_true] at h
  obtain ⟨ho, hL, hR⟩ := h
  simp only [h0, if_false, List.append_assoc, List.cons_append, arg_ok (given_ok hL), Option.bind_some]
  rcases ho with ho | ho
  ·have : Op = ⟨#[43]⟩ := by rw [seq_eq] at ho; exact of_decide_eq_true ho
   subst this
   simp only [skip_mk, arg_ok (given_ok hR), Option.bind_some]
  ·have : Op = ⟨#[45]⟩ := by rw [seq_eq] at ho; exact of_decide_eq_true ho
   subst this
   simp only [skip_mk, skip_mkne (show (⟨#[45]⟩ : ByteArray) ≠ ⟨#[43]⟩ by decide), arg_ok (given_ok hR), Option.bind_some]
theorem cond_ok {z : Bool} {c : TCond} (h : okCond c = true) {r : Toks} : condP z (toksCond c ++ r) = some (c, r) := by
 obtain ⟨Op, L, R⟩ := c
 unfold okCond at h
 simp only [Bool.and_eq_true, decide_eq_true_eq] at h
 obtain ⟨⟨o1, o2⟩, hL, hR⟩ := h
 unfold condP toksCond opP
 simp only [List.append_assoc, List.cons_append, arg_ok (given_ok hL), Option.bind_some]
 have : Op = 1 ∨ Op = 2 ∨ Op = 3 := by omega
 rcases this with rfl | rfl | rfl
 ·simp only [if_true, skip_mk, Option.bind_some, arg_ok (given_ok hR)]
 ·simp only [show ¬ (2 : Int) = 1 by omega, if_false, if_true, skip_mk, skip_mkne (show (⟨#[35]⟩ : ByteArray) ≠ ⟨#[61]⟩ by decide), Option.bind_some, arg_ok (given_ok hR)]
 ·simp only [show ¬ (3 : Int) = 1 by omega, show ¬ (3 : Int) = 2 by omega, if_false, skip_mk, skip_mkne (show (⟨#[60]⟩ : ByteArray) ≠ ⟨#[61]⟩ by decide), skip_mkne (show (⟨#[60]⟩ : ByteArray) ≠ ⟨#[35]⟩ by decide), Option.bind_some, arg_ok (given_ok hR)]
theorem pat_ok {z : Bool} {p : TPat} (h : okPat p = true) {r : Toks} : patP z (toksPat p ++ r) = some (p, r) := by
 obtain ⟨Kind, Args, Not⟩ := p
 unfold okPat at h
 simp only [Bool.and_eq_true, decide_eq_true_eq, List.all_eq_true] at h
 have hl := list_ok (f := argP z) (tk := toksArg) (fun _ => True) (fun _ => trivial) (fun _ => trivial) (l := Args) (r := r) (by omega) (fun x hx r _ => arg_ok (h.2.2 x hx)) (fun x hx r => arg_skip (by decide) (by decide))
 unfold patP toksPat bangP
 cases Not
 ·simp only [Bool.false_eq_true, if_false, List.nil_append, List.cons_append, skip_wd5, word_wd, Option.bind_some, hl]
  rfl
 ·simp only [if_true, List.nil_append, List.cons_append, skip_mk, word_wd, Option.bind_some, hl]
  rfl
theorem expr_skip {e : TExpr} {r : Toks} : skipP 5 ⟨#[41]⟩ (toksExpr e ++ r) = none := by
 unfold toksExpr
 rw [List.append_assoc]
 exact arg_skip (by decide) (by decide)
theorem call_ok {z : Bool} {s : ByteArray} {l : List TExpr} (hl : l.length ≤ 4000) (h : ∀ e ∈ l, okExpr e = true) {r : Toks} : callP z (toksCall s l ++ r) = some ((s, l), r) := by
 have h1 := list_ok (f := exprP z) (tk := toksExpr) NoSign (fun _ => noSign_mk (by decide) (by decide)) (fun _ => noSign_mk (by decide) (by decide)) (l := l) (r := r) hl (fun x hx r hr => expr_ok (h x hx) hr) (fun x hx r => expr_skip)
 unfold callP toksCall
 simp only [List.cons_append, word_wd, Option.bind_some, h1]
 rfl
theorem okName_ne {s : ByteArray} (h : okName s = true) : s ≠ e0 := by
 rintro rfl
 simp [okName] at h
theorem wdT_S (s : ByteArray) : (wdT s).S = s := rfl
theorem inT_N (n : Int) : (inT n).N = n := rfl
theorem act_ok {z : Bool} {a : TAct} (h : okAct a = true) {r : Toks} (hr : skipP 2 ⟨#[117, 110, 100, 111]⟩ r = none) : actP z (toksAct a ++ r) = some (a, r) := by
 obtain ⟨Kind, Name, Args, M, Undo⟩ := a
 unfold okAct at h
 simp only at h
 unfold toksAct actP
 by_cases k1 : Kind = 1
 ·subst k1
  simp only [if_true, Bool.and_eq_true, decide_eq_true_eq] at h
  obtain ⟨⟨⟨hn, ha, hl⟩, hM⟩, hU⟩ := h
  have hU := seq_e0 hU
  subst hU hM
  simp only [if_true, List.cons_append, word_wd, Option.bind_some, wdT_S, call_ok (z := z) (s := Name) (l := Args) (by omega) (fun e he => List.all_eq_true.1 ha e he)]
 by_cases k2 : Kind = 2
 ·subst k2
  simp only [show ¬ (2 : Int) = 1 by omega, if_false, if_true, Bool.and_eq_true, decide_eq_true_eq] at h
  obtain ⟨⟨⟨hn, hl⟩, hM⟩, hU⟩ := h
  have hU := seq_e0 hU
  have hn := seq_e0 hn
  have hl : Args = [] := List.length_eq_zero_iff.1 (by omega)
  subst hU hn hl
  simp only [show ¬ (2 : Int) = 1 by omega, if_false, if_true, List.cons_append, List.nil_append, word_wd, Option.bind_some, wdT_S]
  rw [if_neg (by decide)]
  simp only [word_in, Option.bind_some, inT_N]
 by_cases k3 : Kind = 3
 ·subst k3
  simp only [show ¬ (3 : Int) = 1 by omega, show ¬ (3 : Int) = 2 by omega, if_false, if_true, Bool.and_eq_true, Bool.or_eq_true, decide_eq_true_eq] at h
  obtain ⟨⟨⟨hn, ha, hl⟩, hM⟩, hU⟩ := h
  subst hM
  simp only [show ¬ (3 : Int) = 1 by omega, show ¬ (3 : Int) = 2 by omega, if_false, if_true, List.cons_append, List.append_assoc, word_wd, Option.bind_some, wdT_S]
  rw [if_neg (by decide), if_neg (by decide)]
  simp only [call_ok (z := z) (s := Name) (l := Args) (by omega) (fun e he => List.all_eq_true.1 ha e he), Option.bind_some, undoP]
  rcases hU with hU | hU
  ·have hU := seq_e0 hU
   subst hU
   simp only [if_true, List.nil_append, hr, Option.bind_some]
  ·simp only [if_neg (okName_ne hU), List.cons_append, List.nil_append, skip_wd, word_wd, Option.bind_some, wdT_S]
 by_cases k4 : Kind = 4
 ·subst k4
  simp only [show ¬ (4 : Int) = 1 by omega, show ¬ (4 : Int) = 2 by omega, show ¬ (4 : Int) = 3 by omega, if_false, if_true, Bool.and_eq_true, decide_eq_true_eq] at h
  obtain ⟨⟨⟨hn, ha, hl⟩, hM⟩, hU⟩ := h
  have hU := seq_e0 hU
  subst hU
  simp only [show ¬ (4 : Int) = 1 by omega, show ¬ (4 : Int) = 2 by omega, show ¬ (4 : Int) = 3 by omega, if_false, if_true, List.cons_append, word_wd, Option.bind_some, wdT_S]
  rw [if_neg (by decide), if_neg (by decide), if_neg (by decide)]
  simp only [word_in, call_ok (z := z) (s := Name) (l := Args) (by omega) (fun e he => List.all_eq_true.1 ha e he), Option.bind_some, inT_N]
 simp only [k1, k2, k3, k4, if_false] at h ⊢
 split at h
 ·rename_i hk
  simp only [Bool.and_eq_true, decide_eq_true_eq] at h
  obtain ⟨⟨⟨hn, hl⟩, hM⟩, hU⟩ := h
  have hU := seq_e0 hU
  have hn := seq_e0 hn
  have hl : Args = [] := List.length_eq_zero_iff.1 (by omega)
  subst hU hn hl hM
  rcases hk with rfl | rfl
  ·simp only [if_true, List.cons_append, List.nil_append, word_wd, Option.bind_some, wdT_S]
   rw [if_neg (by decide), if_neg (by decide), if_neg (by decide), if_neg (by decide)]
  ·simp only [show ¬ (6 : Int) = 5 by omega, if_false, if_true, List.cons_append, List.nil_append, word_wd, Option.bind_some, wdT_S]
   rw [if_neg (by decide), if_neg (by decide), if_neg (by decide), if_neg (by decide), if_neg (by decide)]
 ·cases h
theorem patsFrom_ok {c : Nat} : ∀ (l : List TPat) (i : Nat), patsFrom c i l = true → ∀ p ∈ l, okPat p = true
 | [], i, h, p, hp => by cases hp
 | q :: l, i, h, p, hp => by
  unfold patsFrom at h
  simp only [Bool.and_eq_true] at h
  rcases List.mem_cons.1 hp with rfl | hp
  ·exact h.1
  ·exact patsFrom_ok l (i + 1) h.2.2 p hp
theorem rule_ok {z : Bool} {x : TRule} (h : okRule x = true) {r : Toks} : ruleP z (toksRule x ++ r) = some (x, r) := by
 unfold okRule at h
 simp only [Bool.and_eq_true, decide_eq_true_eq, List.all_eq_true] at h
 obtain ⟨hn, hs, hp, ⟨hc, hcl⟩, ha, hal⟩ := h
 unfold okPats at hp
 simp only [Bool.and_eq_true, decide_eq_true_eq] at hp
 have hp2 := patsFrom_ok _ _ hp.2.2
 have h3 := many_ok (f := actP z) (tk := toksAct) (fun r => skipP 2 ⟨#[117, 110, 100, 111]⟩ r = none) (fun r => skip_mk2) (r := mkT ⟨#[46]⟩ :: r) skip_mk2 (skip_mkne (by decide)) x.Acts 4000 (by intro e; rw [e] at hal; simp at hal) (by omega) (fun a hx r hr => act_ok (by have := ha a hx; unfold okActK at this; simp only [Bool.and_eq_true] at this; exact this.1) hr)
 have h2 : condsP z (toksConds x.Conds ++ mkT ⟨#[45, 62]⟩ :: (toksMany toksAct x.Acts ++ mkT ⟨#[46]⟩ :: r)) = some (x.Conds, mkT ⟨#[45, 62]⟩ :: (toksMany toksAct x.Acts ++ mkT ⟨#[46]⟩ :: r)) := by
  unfold condsP toksConds
  by_cases he : x.Conds = []
  ·rw [if_pos he, he]
   simp only [List.nil_append, skip_mkne (show (⟨#[45, 62]⟩ : ByteArray) ≠ ⟨#[43]⟩ by decide)]
  ·rw [if_neg he]
   simp only [List.cons_append, skip_mk]
   exact many_ok (f := condP z) (tk := toksCond) (fun _ => True) (fun _ => trivial) trivial (skip_mkne (by decide)) x.Conds 4000 he (by omega) (fun c hx r _ => cond_ok (by have := hc c hx; unfold okCondK at this; simp only [Bool.and_eq_true] at this; exact this.1))
 have h1 := many_ok (f := patP z) (tk := toksPat) (fun _ => True) (fun _ => trivial) (r := toksConds x.Conds ++ mkT ⟨#[45, 62]⟩ :: (toksMany toksAct x.Acts ++ mkT ⟨#[46]⟩ :: r)) trivial (by
  unfold toksConds
  split
  ·simp only [List.nil_append]; exact skip_mkne (by decide)
  ·simp only [List.cons_append]; exact skip_mkne (by decide)) x.Pats 4000 (by intro e; rw [e] at hp; simp at hp) (by omega) (fun p hx r _ => pat_ok (hp2 p hx))
 unfold ruleP toksRule
 simp only [List.cons_append, List.append_assoc, List.nil_append, skip_wd, word_wd, Option.bind_some, num_ok, skip_mk, h1, h2, h3, wdT_S]
theorem rules_ok {z : Bool} : ∀ (l : List TRule) (n : Nat), l.length < n → (∀ x ∈ l, okRule x = true) → rulesP z n (l.flatMap toksRule) = some l
 | [], n + 1, _, _ => rfl
 | x :: l, n + 1, hl, h => by
  have h1 := rule_ok (z := z) (h x (by simp)) (r := l.flatMap toksRule)
  have ih := rules_ok (z := z) l n (by simpa using hl) fun y hy => h y (by simp [hy])
  rw [List.flatMap_cons]
  have e : toksRule x = wdT ⟨#[114, 117, 108, 101]⟩ :: (toksRule x).tail := rfl
  rw [e, List.cons_append] at h1 ⊢
  simp only [rulesP, h1, Option.bind_some, ih]
theorem def_ok {z : Bool} {d : TDef} (h : okDef d = true) : defP z (toksDef d) = some d := by
 have hr := okDef_rule h
 unfold okDef at h
 simp only [Bool.and_eq_true, decide_eq_true_eq] at h
 unfold defP toksDef
 simp only [skip_wd, word_wd, Option.bind_some, skip_mk, wdT_S, rules_ok (z := z) d.Rules 4000 (by omega) hr]
def tk0 (t : TToken) : Prop := (t.K = 1 → t.S = e0 ∧ 0 ≤ t.N) ∧ (t.K ≠ 1 → t.N = 0) ∧ (t.K = 2 → t.S ≠ e0)
def Good (ts : Toks) : Prop := ∀ t ∈ ts, tk0 t
theorem Good.tail {t : TToken} {ts : Toks} (h : Good (t :: ts)) : Good ts := fun x hx => h x (by simp [hx])
theorem skip_snd {k : Int} {s : ByteArray} {ts r : Toks} (hk : k ≠ 1) (h : skipP k s ts = some r) (hg : Good ts) : ts = ⟨k, 0, s⟩ :: r ∧ Good r := by
 cases ts with
 | nil => cases h
 | cons t ts =>
  simp only [skipP] at h
  split at h
  ·rename_i c
   cases h
   obtain ⟨rfl, rfl⟩ := c
   have := (hg t (by simp)).2.1 hk
   refine ⟨?_, hg.tail⟩
   rw [← this]
  ·cases h
theorem mk_snd {s : ByteArray} {ts r : Toks} (h : skipP 5 s ts = some r) (hg : Good ts) : ts = mkT s :: r ∧ Good r := skip_snd (by decide) h hg
theorem wd_snd {s : ByteArray} {ts r : Toks} (h : skipP 2 s ts = some r) (hg : Good ts) : ts = wdT s :: r ∧ Good r := skip_snd (by decide) h hg
theorem word_snd {t : TToken} {ts r : Toks} (h : wordP 2 ts = some (t, r)) (hg : Good ts) : ts = wdT t.S :: r ∧ Good r ∧ t.S ≠ e0 := by
 cases ts with
 | nil => cases h
 | cons u ts =>
  simp only [wordP] at h
  split at h
  ·rename_i c
   cases h
   have h1 := hg t (by simp)
   refine ⟨?_, hg.tail, h1.2.2 c⟩
   have h2 := h1.2.1 (by omega)
   obtain ⟨K, M, S⟩ := t
   simp only at c h2
   subst c h2
   rfl
  ·cases h
theorem int_snd {t : TToken} {ts r : Toks} (h : wordP 1 ts = some (t, r)) (hg : Good ts) : ts = inT t.N :: r ∧ Good r ∧ 0 ≤ t.N := by
 cases ts with
 | nil => cases h
 | cons u ts =>
  simp only [wordP] at h
  split at h
  ·rename_i c
   cases h
   have h1 := (hg t (by simp)).1 c
   refine ⟨?_, hg.tail, h1.2⟩
   obtain ⟨K, M, S⟩ := t
   obtain ⟨h1, _⟩ := h1
   simp only at c h1
   subst c h1
   rfl
  ·cases h
theorem num_snd {n : Int} {ts r : Toks} (h : numP true ts = some (n, r)) (hg : Good ts) : ts = toksInt n ++ r ∧ Good r := by
 unfold numP at h
 split at h
 ·rename_i q hq
  obtain ⟨rfl, g1⟩ := mk_snd hq hg
  replace h := bind_some h
  obtain ⟨⟨t, q'⟩, h1, h⟩ := h
  obtain ⟨rfl, g2, h0⟩ := int_snd h1 g1
  simp only at h
  split at h
  ·cases h
  ·rename_i c
   cases h
   refine ⟨?_, g2⟩
   unfold toksInt
   have : t.N ≠ 0 := fun e => c ⟨trivial, e⟩
   rw [if_pos (by omega), Int.neg_neg]
   rfl
 ·obtain ⟨⟨t, q'⟩, h1, h⟩ := bind_some h
  obtain ⟨rfl, g2, h0⟩ := int_snd h1 hg
  cases h
  refine ⟨?_, g2⟩
  unfold toksInt
  rw [if_neg (by show ¬ t.N < 0; omega)]
  rfl
theorem arg_snd {a : TArg} {ts r : Toks} (h : argP true ts = some (a, r)) (hg : Good ts) : ts = toksArg a ++ r ∧ Good r := by
 cases ts with
 | nil => cases h
 | cons t ts =>
  have h1 := (hg t (by simp)).2.1
  simp only [argP] at h
  split at h
  ·rename_i c
   cases h
   refine ⟨?_, hg.tail⟩
   have h2 := h1 (by omega)
   obtain ⟨K, M, S⟩ := t
   simp only at c h2
   subst c h2
   simp [toksArg]
  ·split at h
   ·rename_i c
    cases h
    refine ⟨?_, hg.tail⟩
    have h2 := h1 (by omega)
    obtain ⟨K, M, S⟩ := t
    simp only at c h2
    subst c h2
    simp [toksArg]
   ·split at h
    ·rename_i c
     cases h
     refine ⟨?_, hg.tail⟩
     have h2 := h1 (by omega)
     obtain ⟨K, M, S⟩ := t
     simp only at c h2
     obtain ⟨c1, c2⟩ := c
     subst c1 c2 h2
     simp [toksArg, mkT]
    ·obtain ⟨⟨n, q⟩, h1, h⟩ := bind_some h
     obtain ⟨e, g⟩ := num_snd h1 hg
     cases h
     refine ⟨?_, g⟩
     rw [e]
     simp [toksArg]
theorem many_snd {α : Type} {f : Toks → Option (α × Toks)} {tk : α → Toks} (H : ∀ ts x r, f ts = some (x, r) → Good ts → ts = tk x ++ r ∧ Good r) :
  ∀ (n : Nat) (ts : Toks) (l : List α) (r : Toks), manyP f n ts = some (l, r) → Good ts → ts = toksMany tk l ++ r ∧ Good r ∧ l ≠ []
 | 0, ts, l, r, h, _ => by cases h
 | n + 1, ts, l, r, h, hg => by
  simp only [manyP] at h
  replace h := bind_some h
  obtain ⟨⟨x, q⟩, h1, h⟩ := h
  obtain ⟨rfl, g1⟩ := H _ _ _ h1 hg
  simp only at h
  split at h
  ·rename_i q' hq
   obtain ⟨rfl, g2⟩ := mk_snd hq g1
   replace h := bind_some h
   obtain ⟨⟨l', r'⟩, h2, h⟩ := h
   obtain ⟨rfl, g3, hl⟩ := many_snd H n _ _ _ h2 g2
   cases h
   refine ⟨?_, g3, by simp⟩
   cases l' with
   | nil => exact absurd rfl hl
   | cons y l' => simp [toksMany]
  ·cases h
   exact ⟨rfl, g1, by simp⟩
theorem list_snd {α : Type} {f : Toks → Option (α × Toks)} {tk : α → Toks} (H : ∀ ts x r, f ts = some (x, r) → Good ts → ts = tk x ++ r ∧ Good r) {ts r : Toks} {l : List α} (h : listP f ts = some (l, r)) (hg : Good ts) : ts = toksList tk l ++ r ∧ Good r := by
 unfold listP at h
 obtain ⟨q, h1, h0⟩ := bind_some h
 clear h
 obtain ⟨rfl, g1⟩ := mk_snd h1 hg
 cases hq : skipP 5 ⟨#[41]⟩ q with
 | some q' =>
  rw [hq] at h0
  obtain ⟨rfl, g2⟩ := mk_snd hq g1
  cases h0
  exact ⟨rfl, g2⟩
 | none =>
  rw [hq] at h0
  obtain ⟨⟨l', r'⟩, h2, h4⟩ := bind_some h0
  clear h0
  obtain ⟨rfl, g3, hl⟩ := many_snd H _ _ _ _ h2 g1
  obtain ⟨q2, h3, h5⟩ := bind_some h4
  clear h4
  obtain ⟨rfl, g4⟩ := mk_snd h3 g3
  cases h5
  exact ⟨by simp [toksList], g4⟩
theorem expr_snd {e : TExpr} {ts r : Toks} (h : exprP true ts = some (e, r)) (hg : Good ts) : ts = toksExpr e ++ r ∧ Good r := by
 unfold exprP at h
 replace h := bind_some h
 obtain ⟨⟨x, q⟩, h1, h⟩ := h
 obtain ⟨rfl, g1⟩ := arg_snd h1 hg
 simp only at h
 split at h
 ·rename_i q' hq
  obtain ⟨rfl, g2⟩ := mk_snd hq g1
  replace h := bind_some h
  obtain ⟨⟨y, q2⟩, h2, h⟩ := h
  obtain ⟨rfl, g3⟩ := arg_snd h2 g2
  cases h
  refine ⟨?_, g3⟩
  unfold toksExpr
  rw [if_neg (show ¬ (⟨#[43]⟩ : ByteArray) = e0 by decide)]
  simp
 ·split at h
  ·rename_i q' hq
   obtain ⟨rfl, g2⟩ := mk_snd hq g1
   replace h := bind_some h
   obtain ⟨⟨y, q2⟩, h2, h⟩ := h
   obtain ⟨rfl, g3⟩ := arg_snd h2 g2
   cases h
   refine ⟨?_, g3⟩
   unfold toksExpr
   rw [if_neg (show ¬ (⟨#[45]⟩ : ByteArray) = e0 by decide)]
   simp
  ·cases h
   refine ⟨?_, g1⟩
   unfold toksExpr
   rw [if_pos rfl]
   simp
theorem cond_snd {c : TCond} {ts r : Toks} (h : condP true ts = some (c, r)) (hg : Good ts) : ts = toksCond c ++ r ∧ Good r := by
 unfold condP at h
 replace h := bind_some h
 obtain ⟨⟨x, q⟩, h1, h⟩ := h
 obtain ⟨rfl, g1⟩ := arg_snd h1 hg
 replace h := bind_some h
 obtain ⟨⟨o, q1⟩, ho, h⟩ := h
 replace h := bind_some h
 obtain ⟨⟨y, q2⟩, h2, h⟩ := h
 cases h
 have key : q = mkT (if o = 1 then ⟨#[61]⟩ else if o = 2 then ⟨#[35]⟩ else ⟨#[60]⟩) :: q1 ∧ Good q1 := by
  unfold opP at ho
  split at ho
  ·rename_i hq
   cases ho
   exact mk_snd hq g1
  ·split at ho
   ·rename_i hq
    cases ho
    exact mk_snd hq g1
   ·obtain ⟨q', hq, ho⟩ := bind_some ho
    cases ho
    exact mk_snd hq g1
 obtain ⟨rfl, g2⟩ := key
 obtain ⟨rfl, g3⟩ := arg_snd h2 g2
 exact ⟨by simp [toksCond], g3⟩
theorem pat_snd {p : TPat} {ts r : Toks} (h : patP true ts = some (p, r)) (hg : Good ts) : ts = toksPat p ++ r ∧ Good r := by
 unfold patP at h
 replace h := bind_some h
 obtain ⟨⟨w, q⟩, h1, h⟩ := h
 replace h := bind_some h
 obtain ⟨⟨l, q1⟩, h2, h⟩ := h
 cases h
 have key : ts = (if (bangP ts).1 = true then [mkT ⟨#[33]⟩] else []) ++ (bangP ts).2 ∧ Good (bangP ts).2 := by
  unfold bangP
  split
  ·rename_i q' hq
   obtain ⟨rfl, g⟩ := mk_snd hq hg
   exact ⟨rfl, g⟩
  ·exact ⟨rfl, hg⟩
 obtain ⟨e, g1⟩ := key
 obtain ⟨e2, g2, -⟩ := word_snd h1 g1
 simp only at h2
 obtain ⟨e3, g3⟩ := list_snd (fun ts x r => arg_snd) h2 g2
 refine ⟨?_, g3⟩
 unfold toksPat
 rw [e3] at e2
 conv => lhs; rw [e, e2]
 simp
theorem call_snd {c : ByteArray × List TExpr} {ts r : Toks} (h : callP true ts = some (c, r)) (hg : Good ts) : ts = toksCall c.1 c.2 ++ r ∧ Good r := by
 unfold callP at h
 replace h := bind_some h
 obtain ⟨⟨w, q⟩, h1, h⟩ := h
 replace h := bind_some h
 obtain ⟨⟨l, q1⟩, h2, h⟩ := h
 cases h
 obtain ⟨rfl, g2, -⟩ := word_snd h1 hg
 obtain ⟨rfl, g3⟩ := list_snd (fun ts x r => expr_snd) h2 g2
 exact ⟨by simp [toksCall], g3⟩
theorem act_snd {a : TAct} {ts r : Toks} (h : actP true ts = some (a, r)) (hg : Good ts) : ts = toksAct a ++ r ∧ Good r := by
 unfold actP at h
 replace h := bind_some h
 obtain ⟨⟨w, q⟩, h1, h⟩ := h
 obtain ⟨rfl, g1, -⟩ := word_snd h1 hg
 simp only at h
 split at h
 ·rename_i c
  replace h := bind_some h
  obtain ⟨⟨x, q2⟩, h2, h⟩ := h
  obtain ⟨rfl, g2⟩ := call_snd h2 g1
  cases h
  exact ⟨by rw [c]; simp [toksAct], g2⟩
 split at h
 ·rename_i c
  replace h := bind_some h
  obtain ⟨⟨x, q2⟩, h2, h⟩ := h
  obtain ⟨rfl, g2, -⟩ := int_snd h2 g1
  cases h
  exact ⟨by rw [c]; simp [toksAct], g2⟩
 split at h
 ·rename_i c
  replace h := bind_some h
  obtain ⟨⟨x, q2⟩, h2, h⟩ := h
  obtain ⟨rfl, g2⟩ := call_snd h2 g1
  replace h := bind_some h
  obtain ⟨⟨u, q3⟩, h3, h⟩ := h
  cases h
  have key : q2 = (if u = e0 then [] else [wdT ⟨#[117, 110, 100, 111]⟩, wdT u]) ++ q3 ∧ Good q3 := by
   simp only at h3
   unfold undoP at h3
   split at h3
   ·rename_i hq
    obtain ⟨rfl, g3⟩ := wd_snd hq g2
    replace h3 := bind_some h3
    obtain ⟨⟨v, q4⟩, h4, h3⟩ := h3
    obtain ⟨rfl, g4, hne⟩ := word_snd h4 g3
    cases h3
    rw [if_neg hne]
    exact ⟨rfl, g4⟩
   ·cases h3
    exact ⟨rfl, g2⟩
  obtain ⟨rfl, g3⟩ := key
  exact ⟨by rw [c]; simp [toksAct], g3⟩
 split at h
 ·rename_i c
  replace h := bind_some h
  obtain ⟨⟨n, q2⟩, h2, h⟩ := h
  obtain ⟨rfl, g2, -⟩ := int_snd h2 g1
  replace h := bind_some h
  obtain ⟨⟨x, q3⟩, h3, h⟩ := h
  obtain ⟨rfl, g3⟩ := call_snd h3 g2
  cases h
  exact ⟨by rw [c]; simp [toksAct], g3⟩
 split at h
 ·rename_i c
  cases h
  exact ⟨by rw [c]; simp [toksAct], g1⟩
 split at h
 ·rename_i c
  cases h
  exact ⟨by rw [c]; simp [toksAct], g1⟩
 ·cases h
theorem conds_snd {l : List TCond} {ts r : Toks} (h : condsP true ts = some (l, r)) (hg : Good ts) : ts = toksConds l ++ r ∧ Good r := by
 unfold condsP at h
 split at h
 ·rename_i q hq
  obtain ⟨rfl, g⟩ := mk_snd hq hg
  obtain ⟨rfl, g2, hl⟩ := many_snd (fun ts x r => cond_snd) _ _ _ _ h g
  exact ⟨by simp [toksConds, hl], g2⟩
 ·cases h
  exact ⟨rfl, hg⟩
theorem rule_snd {x : TRule} {ts r : Toks} (h : ruleP true ts = some (x, r)) (hg : Good ts) : ts = toksRule x ++ r ∧ Good r := by
 unfold ruleP at h
 replace h := bind_some h
 obtain ⟨r0, h1, h⟩ := h
 obtain ⟨rfl, g1⟩ := wd_snd h1 hg
 replace h := bind_some h
 obtain ⟨⟨w, q⟩, h2, h⟩ := h
 obtain ⟨rfl, g2, -⟩ := word_snd h2 g1
 replace h := bind_some h
 obtain ⟨⟨n, q2⟩, h3, h⟩ := h
 obtain ⟨rfl, g3⟩ := num_snd h3 g2
 replace h := bind_some h
 obtain ⟨r1, h4, h⟩ := h
 obtain ⟨rfl, g4⟩ := mk_snd h4 g3
 replace h := bind_some h
 obtain ⟨⟨ps, q3⟩, h5, h⟩ := h
 obtain ⟨rfl, g5, -⟩ := many_snd (fun ts x r => pat_snd) _ _ _ _ h5 g4
 replace h := bind_some h
 obtain ⟨⟨cs, q4⟩, h6, h⟩ := h
 obtain ⟨rfl, g6⟩ := conds_snd h6 g5
 replace h := bind_some h
 obtain ⟨r2, h7, h⟩ := h
 obtain ⟨rfl, g7⟩ := mk_snd h7 g6
 replace h := bind_some h
 obtain ⟨⟨as, q5⟩, h8, h⟩ := h
 obtain ⟨rfl, g8, -⟩ := many_snd (fun ts x r => act_snd) _ _ _ _ h8 g7
 replace h := bind_some h
 obtain ⟨r3, h9, h⟩ := h
 obtain ⟨rfl, g9⟩ := mk_snd h9 g8
 cases h
 exact ⟨by simp [toksRule], g9⟩
theorem rules_snd : ∀ (n : Nat) (ts : Toks) (l : List TRule), rulesP true n ts = some l → Good ts → ts = l.flatMap toksRule
 | 0, ts, l, h, _ => by cases h
 | n + 1, [], l, h, _ => by cases h; rfl
 | n + 1, t :: ts, l, h, hg => by
  simp only [rulesP] at h
  replace h := bind_some h
  obtain ⟨⟨x, q⟩, h1, h⟩ := h
  obtain ⟨e, g⟩ := rule_snd h1 hg
  replace h := bind_some h
  obtain ⟨l', h2, h⟩ := h
  have ih := rules_snd n q l' h2 g
  cases h
  rw [e, ih, List.flatMap_cons]
theorem def_snd {d : TDef} {ts : Toks} (h : defP true ts = some d) (hg : Good ts) : ts = toksDef d := by
 unfold defP at h
 replace h := bind_some h
 obtain ⟨r0, h1, h⟩ := h
 obtain ⟨rfl, g1⟩ := wd_snd h1 hg
 replace h := bind_some h
 obtain ⟨⟨w, q⟩, h2, h⟩ := h
 obtain ⟨rfl, g2, -⟩ := word_snd h2 g1
 replace h := bind_some h
 obtain ⟨r1, h4, h⟩ := h
 obtain ⟨rfl, g4⟩ := mk_snd h4 g2
 replace h := bind_some h
 obtain ⟨l, h5, h⟩ := h
 have := rules_snd _ _ _ h5 g4
 cases h
 rw [this]
 rfl
def Does {α γ : Type} (ts : Toks) (K : α → Nat → Bool → γ) (m : Option γ) (n : Nat) (bad : Bool) (a : Toks → Option (α × Toks)) : Prop :=
 ∃ x n' bad', m = some (K x n' bad') ∧ n ≤ n' ∧ n' ≤ ts.length ∧ (bad' = false → bad = false ∧ a (ts.drop n) = some (x, ts.drop n')) ∧ (bad' = true → bad = true ∨ a (ts.drop n) = none)
variable {α β γ δ : Type} {ts : Toks} {n : Nat} {bad : Bool}
theorem Does.bind {K1 : α → Nat → Bool → γ} {K2 : β → Nat → Bool → δ} {m : Option γ} {F : γ → Option δ} {a : Toks → Option (α × Toks)} {g : α × Toks → Option (β × Toks)} (h : Does ts K1 m n bad a)
  (H : ∀ x n1 b1, n ≤ n1 → n1 ≤ ts.length → (b1 = false → a (ts.drop n) = some (x, ts.drop n1)) → Does ts K2 (F (K1 x n1 b1)) n1 b1 (fun r => g (x, r))) : Does ts K2 (m.bind F) n bad (fun r => (a r).bind g) := by
 obtain ⟨x, n1, b1, rfl, l1, u1, f1, t1⟩ := h
 obtain ⟨y, n2, b2, h2, l2, u2, f2, t2⟩ := H x n1 b1 l1 u1 (fun h => (f1 h).2)
 refine ⟨y, n2, b2, by rw [Option.bind_some, h2], by omega, u2, fun hb => ?_, fun hb => ?_⟩
 ·obtain ⟨e1, e2⟩ := f2 hb
  obtain ⟨e3, e4⟩ := f1 e1
  exact ⟨e3, by simp only [e4, Option.bind_some, e2]⟩
 ·cases b1 with
  | true =>
   rcases t1 rfl with h | h
   ·exact .inl h
   ·exact .inr (by simp only [h, Option.bind_none])
  | false =>
   obtain ⟨e3, e4⟩ := f1 rfl
   rcases t2 hb with h | h
   ·cases h
   ·exact .inr (by simp only [e4, Option.bind_some, h])
theorem Does.ret {K : α → Nat → Bool → γ} {x : α} (hn : n ≤ ts.length) : Does ts K (some (K x n bad)) n bad (fun r => some (x, r)) :=
 ⟨x, n, bad, rfl, Nat.le_refl _, hn, fun h => ⟨h, rfl⟩, fun h => .inl h⟩
theorem Does.ret' {K : α → Nat → Bool → γ} {x y : α} (hn : n ≤ ts.length) (h : bad = false → x = y) : Does ts K (some (K x n bad)) n bad (fun r => some (y, r)) :=
 ⟨x, n, bad, rfl, Nat.le_refl _, hn, fun hb => ⟨hb, by rw [h hb]⟩, fun h => .inl h⟩
theorem Does.fail {K : α → Nat → Bool → γ} {x : α} {a : Toks → Option (α × Toks)} (hn : n ≤ ts.length) (h : bad = false → a (ts.drop n) = none) : Does ts K (some (K x n true)) n bad a :=
 ⟨x, n, true, rfl, Nat.le_refl _, hn, fun h => (by cases h), fun _ => (by
  cases bad with
  | true => exact .inl rfl
  | false => exact .inr (h rfl))⟩
theorem Does.congr {K : α → Nat → Bool → γ} {m : Option γ} {a a' : Toks → Option (α × Toks)} (h : Does ts K m n bad a) (e : a (ts.drop n) = a' (ts.drop n)) : Does ts K m n bad a' := by
 obtain ⟨x, n1, b1, h0, l1, u1, f1, t1⟩ := h
 exact ⟨x, n1, b1, h0, l1, u1, fun hb => by rw [← e]; exact f1 hb, fun hb => by rw [← e]; exact t1 hb⟩
def ifS (k : Int) (s : ByteArray) (ts : Toks) (f : Toks → Option β) (g : Option β) : Option β := match skipP k s ts with
 | some r => f r
 | none => g
structure Skips (ts : Toks) (mkR : Nat → Bool → γ) (k : Int) (s : ByteArray) (n : Nat) (bad : Bool) (sk : Option (Bool × γ)) : Prop where
 hit : bad = false → ∀ r, skipP k s (ts.drop n) = some r → sk = some (true, mkR (n + 1) false) ∧ n + 1 ≤ ts.length ∧ r = ts.drop (n + 1)
 miss : bad = true ∨ skipP k s (ts.drop n) = none → sk = some (false, mkR n bad)
theorem Does.sk {mkR : Nat → Bool → γ} {K : β → Nat → Bool → δ} {k : Int} {s : ByteArray} {sk : Option (Bool × γ)} {F : Bool × γ → Option δ} {f g : Toks → Option (β × Toks)} (h : Skips ts mkR k s n bad sk)
  (H1 : n + 1 ≤ ts.length → Does ts K (F (true, mkR (n + 1) false)) (n + 1) false f) (H2 : Does ts K (F (false, mkR n bad)) n bad g) : Does ts K (sk.bind F) n bad (fun r => ifS k s r f (g r)) := by
 cases hb : bad with
 | true =>
  subst hb
  rw [h.miss (.inl rfl), Option.bind_some]
  obtain ⟨x, n1, b1, h0, l1, u1, f1, t1⟩ := H2
  exact ⟨x, n1, b1, h0, l1, u1, fun hb => (by cases (f1 hb).1), fun _ => .inl rfl⟩
 | false =>
  subst hb
  cases hs : skipP k s (ts.drop n) with
  | some r =>
   obtain ⟨e1, e2, rfl⟩ := h.hit rfl r hs
   rw [e1, Option.bind_some]
   obtain ⟨x, n1, b1, h0, l1, u1, f1, t1⟩ := H1 e2
   refine ⟨x, n1, b1, h0, by omega, u1, fun hb => ?_, fun hb => ?_⟩
   ·refine ⟨rfl, ?_⟩
    show ifS k s (ts.drop n) f (g (ts.drop n)) = _
    unfold ifS
    rw [hs]; exact (f1 hb).2
   ·rcases t1 hb with h | h
    ·cases h
    ·refine .inr ?_
     show ifS k s (ts.drop n) f (g (ts.drop n)) = _
     unfold ifS
     rw [hs]; exact h
  | none =>
   rw [h.miss (.inr hs), Option.bind_some]
   refine H2.congr ?_
   simp only [ifS, hs]
def Takes (ts : Toks) (mkR : Nat → Bool → γ) (k : Int) (s : ByteArray) (n : Nat) (bad : Bool) (sk : Option γ) : Prop := Does ts (fun (_ : Unit) n b => mkR n b) sk n bad (fun r => (skipP k s r).bind fun r => some ((), r))
theorem Does.tk {mkR : Nat → Bool → γ} {K : β → Nat → Bool → δ} {k : Int} {s : ByteArray} {sk : Option γ} {F : γ → Option δ} {g : Toks → Option (β × Toks)} (h : Takes ts mkR k s n bad sk)
  (H : ∀ n1 b1, n ≤ n1 → n1 ≤ ts.length → Does ts K (F (mkR n1 b1)) n1 b1 g) : Does ts K (sk.bind F) n bad (fun r => (skipP k s r).bind g) := by
 have := Does.bind (g := fun x => g x.2) h fun x n1 b1 h1 h2 _ => H n1 b1 h1 h2
 refine this.congr ?_
 cases skipP k s (ts.drop n) <;> rfl
theorem Does.many {K : β → Nat → Bool → δ} {f : Toks → Option (α × Toks)} (L : Nat → List α → Bool → Nat → Bool → Option δ) (fin : List α → Toks → Option (β × Toks))
  (hs : ∀ k s1 n, n ≤ ts.length → s1.length ≤ n → ∃ x n1 b1, n ≤ n1 ∧ n1 ≤ ts.length ∧ (b1 = false → f (ts.drop n) = some (x, ts.drop n1)) ∧ (b1 = true → f (ts.drop n) = none) ∧
   (b1 = false → ∀ r, skipP 5 ⟨#[44]⟩ (ts.drop n1) = some r → L (k + 1) s1 true n false = L k (s1 ++ [x]) true (n1 + 1) false ∧ n1 + 1 ≤ ts.length ∧ r = ts.drop (n1 + 1)) ∧
   (b1 = true ∨ skipP 5 ⟨#[44]⟩ (ts.drop n1) = none → L (k + 1) s1 true n false = L k (s1 ++ [x]) false n1 b1))
  (he : ∀ k s1 s2 n bad, n ≤ ts.length → (s2 = false ∨ bad = true) → Does ts K (L (k + 1) s1 s2 n bad) n bad (fin s1)) :
  ∀ (k n : Nat) (s1 : List α) (bad : Bool) (fuel : Nat), n ≤ ts.length → s1.length ≤ n → ts.length - n + 2 ≤ k → ts.length - n < fuel → Does ts K (L k s1 true n bad) n bad (fun r => (manyP f fuel r).bind fun x => fin (s1 ++ x.1) x.2) := by
 intro k
 induction k with
 | zero => intro n s1 bad fuel _ _ h; omega
 | succ k ih =>
  intro n s1 bad fuel hn hl hk hf
  cases bad with
  | true =>
   obtain ⟨x, n1, b1, h0, l1, u1, f1, t1⟩ := he k s1 true n true hn (.inr rfl)
   exact ⟨x, n1, b1, h0, l1, u1, fun hb => (by cases (f1 hb).1), fun _ => .inl rfl⟩
  | false =>
   obtain ⟨x, n1, b1, l1, u1, f1, t1, hh, hm⟩ := hs k s1 n hn hl
   obtain ⟨k, rfl⟩ : ∃ j, k = j + 1 := ⟨k - 1, by omega⟩
   obtain ⟨fuel, rfl⟩ : ∃ j, fuel = j + 1 := ⟨fuel - 1, by omega⟩
   cases b1 with
   | true =>
    rw [hm (.inl rfl)]
    obtain ⟨y, n2, b2, h0, l2, u2, f2, t2⟩ := he k (s1 ++ [x]) false n1 true u1 (.inl rfl)
    exact ⟨y, n2, b2, h0, by omega, u2, fun hb => (by cases (f2 hb).1), fun _ => .inr (by simp only [manyP, t1 rfl, Option.bind_none])⟩
   | false =>
    have e1 := f1 rfl
    cases hs : skipP 5 ⟨#[44]⟩ (ts.drop n1) with
    | some r =>
     obtain ⟨e2, e3, rfl⟩ := hh rfl r hs
     rw [e2]
     obtain ⟨y, n2, b2, h0, l2, u2, f2, t2⟩ := ih (n1 + 1) (s1 ++ [x]) false fuel e3 (by simp; omega) (by omega) (by omega)
     have key : (manyP f (fuel + 1) (ts.drop n)).bind (fun x => fin (s1 ++ x.1) x.2) = (manyP f fuel (ts.drop (n1 + 1))).bind fun y => fin ((s1 ++ [x]) ++ y.1) y.2 := by
      simp only [manyP, e1, Option.bind_some, hs]
      cases manyP f fuel (ts.drop (n1 + 1)) <;> simp
     refine ⟨y, n2, b2, h0, by omega, u2, fun hb => ⟨rfl, key.trans (f2 hb).2⟩, fun hb => ?_⟩
     ·rcases t2 hb with h | h
      ·cases h
      ·exact .inr (key.trans h)
    | none =>
     rw [hm (.inr hs)]
     obtain ⟨y, n2, b2, h0, l2, u2, f2, t2⟩ := he k (s1 ++ [x]) false n1 false u1 (.inl rfl)
     have key : (manyP f (fuel + 1) (ts.drop n)).bind (fun x => fin (s1 ++ x.1) x.2) = fin (s1 ++ [x]) (ts.drop n1) := by
      simp only [manyP, e1, Option.bind_some, hs]
     refine ⟨y, n2, b2, h0, by omega, u2, fun hb => ⟨rfl, key.trans (f2 hb).2⟩, fun hb => ?_⟩
     ·rcases t2 hb with h | h
      ·cases h
      ·exact .inr (key.trans h)
theorem numP_eq {z : Bool} : numP z = fun ts => ifS 5 ⟨#[45]⟩ ts (fun r => (wordP 1 r).bind fun x => if z = true ∧ x.1.N = 0 then none else some (-x.1.N, x.2)) ((wordP 1 ts).bind fun x => some (x.1.N, x.2)) := by
 funext ts; unfold numP ifS; cases skipP 5 ⟨#[45]⟩ ts <;> rfl
theorem exprP_eq {z : Bool} : exprP z = fun ts => (argP z ts).bind fun x => ifS 5 ⟨#[43]⟩ x.2 (fun r => (argP z r).bind fun y => some (⟨⟨#[43]⟩, x.1, y.1⟩, y.2)) (ifS 5 ⟨#[45]⟩ x.2 (fun r => (argP z r).bind fun y => some (⟨⟨#[45]⟩, x.1, y.1⟩, y.2)) (some (⟨e0, x.1, ⟨0, e0, ⟨0, 0, e0⟩⟩⟩, x.2))) := by
 funext ts; unfold exprP
 cases argP z ts with
 | none => rfl
 | some x =>
  simp only [Option.bind_some]
  unfold ifS
  cases skipP 5 ⟨#[43]⟩ x.2 with
  | some r => rfl
  | none => cases skipP 5 ⟨#[45]⟩ x.2 <;> rfl
theorem condP_eq {z : Bool} : condP z = fun ts => (argP z ts).bind fun x => ifS 5 ⟨#[61]⟩ x.2 (fun r => (argP z r).bind fun y => some (⟨1, x.1, y.1⟩, y.2)) (ifS 5 ⟨#[35]⟩ x.2 (fun r => (argP z r).bind fun y => some (⟨2, x.1, y.1⟩, y.2)) ((skipP 5 ⟨#[60]⟩ x.2).bind fun r => (argP z r).bind fun y => some (⟨3, x.1, y.1⟩, y.2))) := by
 funext ts; unfold condP
 congr 1; funext x; unfold ifS opP
 cases skipP 5 ⟨#[61]⟩ x.2 with
 | some r => rfl
 | none =>
  cases skipP 5 ⟨#[35]⟩ x.2 with
  | some r => rfl
  | none => cases skipP 5 ⟨#[60]⟩ x.2 <;> rfl
theorem listP_eq {f : Toks → Option (α × Toks)} : listP f = fun ts => (skipP 5 ⟨#[40]⟩ ts).bind fun r => ifS 5 ⟨#[41]⟩ r (fun r' => some ([], r')) ((manyP f 4000 r).bind fun x => (skipP 5 ⟨#[41]⟩ x.2).bind fun r' => some (x.1, r')) := by
 funext ts; unfold listP
 cases skipP 5 ⟨#[40]⟩ ts with
 | none => rfl
 | some x =>
  simp only [Option.bind_some]
  unfold ifS
  cases skipP 5 ⟨#[41]⟩ x <;> rfl
theorem patP_eq {z : Bool} : patP z = fun ts => ifS 5 ⟨#[33]⟩ ts (fun r => (wordP 2 r).bind fun w => (listP (argP z) w.2).bind fun l => some (⟨w.1.S, l.1, true⟩, l.2)) ((wordP 2 ts).bind fun w => (listP (argP z) w.2).bind fun l => some (⟨w.1.S, l.1, false⟩, l.2)) := by
 funext ts; unfold patP bangP ifS
 cases skipP 5 ⟨#[33]⟩ ts <;> rfl
theorem ruleP_eq {z : Bool} : ruleP z = fun ts => (skipP 2 ⟨#[114, 117, 108, 101]⟩ ts).bind fun r0 => (wordP 2 r0).bind fun w => (numP z w.2).bind fun n => (skipP 5 ⟨#[58]⟩ n.2).bind fun r1 => (manyP (patP z) 4000 r1).bind fun ps =>
  (condsP z ps.2).bind fun cs => (skipP 5 ⟨#[45, 62]⟩ cs.2).bind fun r2 => (manyP (actP z) 4000 r2).bind fun as => (skipP 5 ⟨#[46]⟩ as.2).bind fun r3 => some (⟨w.1.S, n.1, ps.1, cs.1, as.1⟩, r3) := rfl
set_option maxRecDepth 100000
abbrev Bs := List UInt8
def bA (l : Bs) : ByteArray := ⟨l.toArray⟩
theorem bA_of (s : ByteArray) : bA s.data.toList = s := rfl
def digitB (y : UInt8) : Bool := decide (48 ≤ (y.toNat : Int)) && decide ((y.toNat : Int) ≤ 57)
def blankB (y : UInt8) : Bool := y == 32 || y == 9 || y == 10 || y == 13
def wide (y : UInt8) : Bool := letter y || large y
def markB (s : ByteArray) : Bool := s = ⟨#[40]⟩ || s = ⟨#[41]⟩ || s = ⟨#[44]⟩ || s = ⟨#[46]⟩ || s = ⟨#[58]⟩ || s = ⟨#[45, 62]⟩ || s = ⟨#[45]⟩ || s = ⟨#[43]⟩ || s = ⟨#[61]⟩ || s = ⟨#[35]⟩ || s = ⟨#[60]⟩ || s = ⟨#[33]⟩ || s = ⟨#[95]⟩
def numOf (l : Bs) : Option Int := if l.length ≤ 10 then (Go.Lib.atoi l).bind fun n => if Go.Lib.itoa n = l then some n else none else none
def tokOk (t : TToken) : Bool :=
 if t.K = 1 then (decide (0 ≤ t.N) && decide (t.N ≤ 1000000000)) && seq t.S e0
 else if t.K = 2 then decide (t.N = 0) && okName t.S
 else if t.K = 3 then decide (t.N = 0) && varOk t.S
 else if t.K = 4 then decide (t.N = 0) && (wordAll t.S && decide ((t.S.size : Int) ≤ 20))
 else if t.K = 5 then decide (t.N = 0) && markB t.S
 else false
def ifOk (t : TToken) (r : Bs) : Option (TToken × Bs) := if tokOk t = true then some (t, r) else none
def oneL : Bs → Option (TToken × Bs)
 | [] => none
 | b :: l =>
  if digitB b = true then (numOf ((b :: l).takeWhile digitB)).bind fun n => ifOk (inT n) ((b :: l).dropWhile digitB)
  else if small b = true then ifOk (wdT (bA ((b :: l).takeWhile letter))) ((b :: l).dropWhile letter)
  else if large b = true then ifOk ⟨3, 0, bA ((b :: l).takeWhile wide)⟩ ((b :: l).dropWhile wide)
  else if b = 39 then (match l.dropWhile (fun y => y != 39) with
   | [] => none
   | _ :: r => ifOk ⟨4, 0, bA (l.takeWhile (fun y => y != 39))⟩ r)
  else if b = 45 ∧ l.head? = some 62 then ifOk (mkT ⟨#[45, 62]⟩) l.tail
  else ifOk (mkT (bA [b])) l
def lexF : Nat → Bs → Option Toks
 | 0, _ => none
 | n + 1, [] => some []
 | n + 1, b :: l => if blankB b = true then lexF n l else if b = 37 then lexF n ((b :: l).dropWhile fun y => y != 10) else (oneL (b :: l)).bind fun x => (lexF n x.2).bind fun ts => some (x.1 :: ts)
def lexL (l : Bs) : Option Toks := lexF (l.length + 1) l
def lexR (s : ByteArray) : Option Toks := (lexL s.data.toList).bind fun ts => if ts.length ≤ 3000 then some ts else none
theorem dropW_le {p : UInt8 → Bool} : ∀ (l : Bs), (l.dropWhile p).length ≤ l.length
 | [] => by simp
 | b :: l => by
  rw [List.dropWhile_cons]
  have := dropW_le (p := p) l
  split
  ·simp; omega
  ·simp
theorem dropW_lt {p : UInt8 → Bool} {b : UInt8} {l : Bs} (h : p b = true) : ((b :: l).dropWhile p).length < (b :: l).length := by
 rw [List.dropWhile_cons, if_pos h]
 have := dropW_le (p := p) l
 simp; omega
theorem ifOk_some {t u : TToken} {r q : Bs} (h : ifOk t r = some (u, q)) : u = t ∧ q = r ∧ tokOk t = true := by
 unfold ifOk at h
 split at h
 ·cases h; exact ⟨rfl, rfl, by assumption⟩
 ·cases h
theorem small_letter {b : UInt8} (h : small b = true) : letter b = true := by unfold small at h; unfold letter; simp only [Bool.or_eq_true]; exact .inl (.inl h)
theorem oneL_lt {l r : Bs} {t : TToken} (h : oneL l = some (t, r)) : r.length < l.length ∧ tokOk t = true := by
 cases l with
 | nil => cases h
 | cons b l =>
  simp only [oneL] at h
  split at h
  ·rename_i c
   obtain ⟨n, _, h1⟩ := bind_some h
   obtain ⟨rfl, rfl, ho⟩ := ifOk_some h1
   exact ⟨dropW_lt c, ho⟩
  split at h
  ·rename_i c
   obtain ⟨rfl, rfl, ho⟩ := ifOk_some h
   exact ⟨dropW_lt (small_letter c), ho⟩
  split at h
  ·rename_i c
   obtain ⟨rfl, rfl, ho⟩ := ifOk_some h
   exact ⟨dropW_lt (by unfold wide; simp [c]), ho⟩
  split at h
  ·have := dropW_le (p := fun y : UInt8 => y != 39) l
   split at h
   ·cases h
   ·rename_i e
    obtain ⟨rfl, rfl, ho⟩ := ifOk_some h
    rw [e] at this
    exact ⟨by simp at this ⊢; omega, ho⟩
  split at h
  ·obtain ⟨rfl, rfl, ho⟩ := ifOk_some h
   exact ⟨by simp; omega, ho⟩
  ·obtain ⟨rfl, rfl, ho⟩ := ifOk_some h
   exact ⟨by simp, ho⟩
theorem lexF_irr : ∀ (n m : Nat) (l : Bs), l.length < n → l.length < m → lexF n l = lexF m l
 | 0, m, l, h, _ => by omega
 | n + 1, 0, l, _, h => by omega
 | n + 1, m + 1, [], _, _ => rfl
 | n + 1, m + 1, b :: l, h, h' => by
  simp only [List.length_cons] at h h'
  simp only [lexF]
  split
  ·exact lexF_irr n m l (by omega) (by omega)
  split
  ·rename_i c
   have := dropW_lt (p := fun y : UInt8 => y != 10) (b := b) (l := l) (by subst c; decide)
   simp only [List.length_cons] at this
   exact lexF_irr n m _ (by omega) (by omega)
  ·cases h1 : oneL (b :: l) with
   | none => rfl
   | some x =>
    obtain ⟨t, r⟩ := x
    have := (oneL_lt h1).1
    simp only [List.length_cons] at this
    simp only [Option.bind_some, lexF_irr n m r (by omega) (by omega)]
theorem lexF_ok : ∀ (n : Nat) (l : Bs) (ts : Toks), lexF n l = some ts → ∀ t ∈ ts, tokOk t = true
 | 0, l, ts, h => by cases h
 | n + 1, [], ts, h => by cases h; simp
 | n + 1, b :: l, ts, h => by
  simp only [lexF] at h
  split at h
  ·exact lexF_ok n _ ts h
  split at h
  ·exact lexF_ok n _ ts h
  ·obtain ⟨⟨t, r⟩, h1, h2⟩ := bind_some h
   obtain ⟨ts', h3, h4⟩ := bind_some h2
   cases h4
   intro u hu
   rcases List.mem_cons.1 hu with rfl | hu
   ·exact (oneL_lt h1).2
   ·exact lexF_ok n _ ts' h3 u hu
theorem tokOk_tk0 {t : TToken} (h : tokOk t = true) : tk0 t := by
 unfold tokOk at h
 split at h
 ·rename_i c
  simp only [Bool.and_eq_true, decide_eq_true_eq] at h
  exact ⟨fun _ => ⟨seq_e0 h.2, h.1.1⟩, fun e => absurd c e, fun e => by omega⟩
 rename_i c1
 split at h
 ·rename_i c
  simp only [Bool.and_eq_true, decide_eq_true_eq] at h
  exact ⟨fun e => absurd e c1, fun _ => h.1, fun _ => okName_ne h.2⟩
 rename_i c2
 split at h
 ·simp only [Bool.and_eq_true, decide_eq_true_eq] at h
  exact ⟨fun e => absurd e c1, fun _ => h.1, fun e => absurd e c2⟩
 split at h
 ·simp only [Bool.and_eq_true, decide_eq_true_eq] at h
  exact ⟨fun e => absurd e c1, fun _ => h.1, fun e => absurd e c2⟩
 split at h
 ·simp only [Bool.and_eq_true, decide_eq_true_eq] at h
  exact ⟨fun e => absurd e c1, fun _ => h.1, fun e => absurd e c2⟩
 ·cases h
def Lx (l : Bs) (ts : Toks) : Prop := lexL l = some ts
theorem Lx.nil : Lx [] [] := rfl
theorem Lx.blank {b : UInt8} {l : Bs} {ts : Toks} (hb : blankB b = true) (h : Lx l ts) : Lx (b :: l) ts := by
 unfold Lx lexL at h ⊢
 rw [List.length_cons, lexF, if_pos hb]
 exact h
theorem Lx.one {l r : Bs} {t : TToken} {ts : Toks} (h0 : ∀ b, l.head? = some b → blankB b = false ∧ b ≠ 37) (h1 : oneL l = some (t, r)) (h : Lx r ts) : Lx l (t :: ts) := by
 cases l with
 | nil => cases h1
 | cons b l =>
  unfold Lx lexL at h ⊢
  obtain ⟨hb, hp⟩ := h0 b rfl
  have := (oneL_lt h1).1
  rw [List.length_cons] at this
  rw [List.length_cons, lexF, if_neg (by rw [hb]; simp), if_neg hp, h1, Option.bind_some, lexF_irr _ (r.length + 1) r (by omega) (by omega), h, Option.bind_some]
def Edge (p : UInt8 → Bool) (r : Bs) : Prop := ∀ b, r.head? = some b → p b = false
theorem takeW {p : UInt8 → Bool} {l r : Bs} (h : ∀ b ∈ l, p b = true) (hr : Edge p r) : (l ++ r).takeWhile p = l ∧ (l ++ r).dropWhile p = r := by
 rw [List.takeWhile_append_of_pos h, List.dropWhile_append_of_pos h]
 cases r with
 | nil => simp
 | cons b r =>
  have := hr b rfl
  simp [this]
theorem wordAll_iff {s : ByteArray} (h : wordAll s = true) : ∀ b ∈ s.data.toList, letter b = true := by
 intro b hb
 obtain ⟨i, hi, rfl⟩ := List.getElem_of_mem hb
 unfold wordAll at h
 rw [List.drop_zero, List.all_eq_true] at h
 have := h i (List.mem_range.2 (by rw [← size_data]; exact hi))
 rwa [List.getElem?_eq_getElem hi] at this
theorem all8 {p : UInt8 → Prop} (h : ∀ i : Fin 256, p (UInt8.ofNat i.val)) (b : UInt8) : p b := by
 have := h ⟨b.toNat, b.toNat_lt⟩
 rwa [UInt8.ofNat_toNat] at this
theorem small_not {b : UInt8} (h : small b = true) : digitB b = false ∧ large b = false ∧ blankB b = false ∧ b ≠ 37 := by
 have : ∀ b : UInt8, small b = true → digitB b = false ∧ large b = false ∧ blankB b = false ∧ b ≠ 37 := all8 (by decide)
 exact this b h
theorem large_not {b : UInt8} (h : large b = true) : digitB b = false ∧ small b = false ∧ blankB b = false ∧ b ≠ 37 := by
 have : ∀ b : UInt8, large b = true → digitB b = false ∧ small b = false ∧ blankB b = false ∧ b ≠ 37 := all8 (by decide)
 exact this b h
theorem digit_not {b : UInt8} (h : digitB b = true) : blankB b = false ∧ b ≠ 37 := by
 have : ∀ b : UInt8, digitB b = true → blankB b = false ∧ b ≠ 37 := all8 (by decide)
 exact this b h
theorem Lx.word {s : ByteArray} {r : Bs} {ts : Toks} (hs : okName s = true) (hr : Edge letter r) (h : Lx r ts) : Lx (s.data.toList ++ r) (wdT s :: ts) := by
 have ho : tokOk (wdT s) = true := by simp [tokOk, wdT, hs]
 unfold okName at hs
 simp only [Bool.and_eq_true] at hs
 obtain ⟨h0, h1, -⟩ := hs
 have hw := wordAll_iff h1
 obtain ⟨e1, e2⟩ := takeW hw hr
 cases hd : s.data.toList with
 | nil => rw [hd] at h0; simp at h0
 | cons b l =>
  rw [hd] at h0 e1 e2
  simp only [List.getElem?_cons_zero] at h0
  obtain ⟨n1, n2, n3, n4⟩ := small_not h0
  refine Lx.one (fun c hc => by simp at hc; subst hc; exact ⟨n3, n4⟩) ?_ h
  rw [List.cons_append] at e1 e2 ⊢
  simp only [oneL, n1, h0, Bool.false_eq_true, if_false, if_true, e1, e2]
  rw [← hd, bA_of, ifOk, if_pos ho]
theorem Lx.var {s : ByteArray} {r : Bs} {ts : Toks} (hs : varOk s = true) (hr : Edge wide r) (h : Lx r ts) : Lx (s.data.toList ++ r) (⟨3, 0, s⟩ :: ts) := by
 have ho : tokOk ⟨3, 0, s⟩ = true := by simp [tokOk, hs]
 unfold varOk at hs
 cases hd : s.data.toList with
 | nil => rw [hd] at hs; simp at hs
 | cons b l =>
  rw [hd] at hs
  simp only [Bool.and_eq_true, List.all_eq_true] at hs
  obtain ⟨h0, h1, -⟩ := hs
  obtain ⟨n1, n2, n3, n4⟩ := large_not h0
  obtain ⟨e1, e2⟩ := takeW (p := wide) (l := b :: l) (r := r) (by
   intro c hc
   rcases List.mem_cons.1 hc with rfl | hc
   ·unfold wide; simp [h0]
   ·exact h1 c hc) hr
  refine Lx.one (fun c hc => by simp at hc; subst hc; exact ⟨n3, n4⟩) ?_ h
  rw [List.cons_append] at e1 e2 ⊢
  simp only [oneL, n1, n2, h0, Bool.false_eq_true, if_false, if_true, e1, e2]
  rw [← hd, bA_of, ifOk, if_pos ho]
theorem Lx.text {s : ByteArray} {r : Bs} {ts : Toks} (hs : wordAll s = true) (hl : (s.size : Int) ≤ 20) (h : Lx r ts) : Lx (39 :: (s.data.toList ++ 39 :: r)) (⟨4, 0, s⟩ :: ts) := by
 have ho : tokOk ⟨4, 0, s⟩ = true := by simp [tokOk, hs, hl]
 obtain ⟨e1, e2⟩ := takeW (p := fun y => y != 39) (l := s.data.toList) (r := 39 :: r) (by
  intro c hc
  have : ∀ c : UInt8, letter c = true → (c != 39) = true := all8 (by decide)
  exact this c (wordAll_iff hs c hc)) (by intro c hc; simp at hc; subst hc; rfl)
 refine Lx.one (fun c hc => by simp at hc; subst hc; decide) ?_ h
 simp only [oneL, show digitB 39 = false by decide, show small 39 = false by decide, show large 39 = false by decide, Bool.false_eq_true, if_false, if_true, e1, e2]
 rw [bA_of, ifOk, if_pos ho]
def isMk (b : UInt8) : Bool := b == 40 || b == 41 || b == 44 || b == 46 || b == 58 || b == 45 || b == 43 || b == 61 || b == 35 || b == 60 || b == 33 || b == 95
theorem isMk_not {b : UInt8} (h : isMk b = true) : digitB b = false ∧ small b = false ∧ large b = false ∧ b ≠ 39 ∧ blankB b = false ∧ b ≠ 37 := by
 have : ∀ b : UInt8, isMk b = true → digitB b = false ∧ small b = false ∧ large b = false ∧ b ≠ 39 ∧ blankB b = false ∧ b ≠ 37 := all8 (by decide)
 exact this b h
theorem isMk_mark {b : UInt8} (h : isMk b = true) : markB (bA [b]) = true := by
 unfold isMk at h
 simp only [Bool.or_eq_true, beq_iff_eq] at h
 rcases h with ((((((((((rfl | rfl) | rfl) | rfl) | rfl) | rfl) | rfl) | rfl) | rfl) | rfl) | rfl) | rfl <;> decide
theorem Lx.mark {b : UInt8} {r : Bs} {ts : Toks} (hb : isMk b = true) (hr : b = 45 → r.head? ≠ some 62) (h : Lx r ts) : Lx (b :: r) (mkT (bA [b]) :: ts) := by
 obtain ⟨n1, n2, n3, n4, n5, n6⟩ := isMk_not hb
 refine Lx.one (fun c hc => by simp at hc; subst hc; exact ⟨n5, n6⟩) ?_ h
 have ho : tokOk (mkT (bA [b])) = true := by simp [tokOk, mkT, isMk_mark hb]
 simp only [oneL, n1, n2, n3, n4, Bool.false_eq_true, if_false]
 rw [if_neg (fun e => hr e.1 e.2), ifOk, if_pos ho]
theorem Lx.arrow {r : Bs} {ts : Toks} (h : Lx r ts) : Lx (45 :: 62 :: r) (mkT ⟨#[45, 62]⟩ :: ts) := by
 refine Lx.one (fun c hc => by simp at hc; subst hc; decide) ?_ h
 simp only [oneL, show digitB 45 = false by decide, show small 45 = false by decide, show large 45 = false by decide, show ¬ (45 : UInt8) = 39 by decide, Bool.false_eq_true, if_false, List.head?_cons, and_self, if_true, List.tail_cons]
 rw [ifOk, if_pos (by decide)]
theorem decD_digits : ∀ (u : Nat), ∀ b ∈ Go.Lib.decDigits u, digitB b = true := by
 intro u
 induction u using Nat.strongRecOn with
 | _ u ih =>
  have hd : ∀ d : Nat, d < 10 → digitB (UInt8.ofNat (48 + d)) = true := fun d hd => (by decide : ∀ i : Fin 10, digitB (UInt8.ofNat (48 + i.val)) = true) ⟨d, hd⟩
  intro b hb
  rw [Go.Lib.decDigits] at hb
  split at hb
  ·rw [List.mem_singleton] at hb; subst hb; exact hd u (by assumption)
  ·rw [List.mem_append, List.mem_singleton] at hb
   rcases hb with hb | rfl
   ·exact ih (u / 10) (by omega) b hb
   ·exact hd (u % 10) (by omega)
theorem decFrom_app : ∀ (l : Bs) (a : Nat) (b : UInt8) (n d : Nat), Go.Lib.decFrom a l = some n → Go.Lib.digitVal b = some d → Go.Lib.decFrom a (l ++ [b]) = some (n * 10 + d)
 | [], a, b, n, d, h, hd => by simp only [Go.Lib.decFrom, Option.some.injEq] at h; subst h; simp [Go.Lib.decFrom, hd]
 | c :: l, a, b, n, d, h, hd => by
  simp only [Go.Lib.decFrom, List.cons_append] at h ⊢
  cases hc : Go.Lib.digitVal c with
  | none => rw [hc] at h; cases h
  | some e => rw [hc] at h; exact decFrom_app l _ b n d h hd
theorem digitVal_of {d : Nat} (h : d < 10) : Go.Lib.digitVal (UInt8.ofNat (48 + d)) = some d := by
 exact (by decide : ∀ i : Fin 10, Go.Lib.digitVal (UInt8.ofNat (48 + i.val)) = some i.val) ⟨d, h⟩
theorem decFrom_dec : ∀ (u : Nat), Go.Lib.decFrom 0 (Go.Lib.decDigits u) = some u := by
 intro u
 induction u using Nat.strongRecOn with
 | _ u ih =>
  rw [Go.Lib.decDigits]
  split
  ·simp only [Go.Lib.decFrom, digitVal_of (by assumption : u < 10), Nat.zero_mul, Nat.zero_add]
  ·have := decFrom_app _ _ _ _ _ (ih (u / 10) (by omega)) (digitVal_of (d := u % 10) (by omega))
   rw [this]
   congr 1; omega
theorem decD_ne (u : Nat) : Go.Lib.decDigits u ≠ [] := by
 rw [Go.Lib.decDigits]
 split <;> simp
theorem atoi_digits {l : Bs} (h : ∀ b ∈ l, digitB b = true) (h0 : l ≠ []) : Go.Lib.atoi l = (Go.Lib.decFrom 0 l).map fun (m : Nat) => (m : Int) := by
 cases l with
 | nil => exact absurd rfl h0
 | cons b l =>
  have hb := h b (by simp)
  have n1 : (b == 45) = false := by
   have : ∀ b : UInt8, digitB b = true → (b == 45) = false := all8 (by decide)
   exact this b hb
  have n2 : (b == 43) = false := by
   have : ∀ b : UInt8, digitB b = true → (b == 43) = false := all8 (by decide)
   exact this b hb
  simp [Go.Lib.atoi, n1, n2, Go.Lib.decNat]
theorem Lx.num {n : Int} {r : Bs} {ts : Toks} (h0 : 0 ≤ n) (h1 : n ≤ 1000000000) (hr : Edge digitB r) (h : Lx r ts) : Lx ((Go.Lib.itoa n) ++ r) (inT n :: ts) := by
 obtain ⟨u, rfl⟩ : ∃ u : Nat, n = (u : Int) := ⟨n.toNat, by omega⟩
 have e : Go.Lib.itoa (u : Int) = Go.Lib.decDigits u := by unfold Go.Lib.itoa; rw [if_neg (by omega)]; rfl
 have hl : (Go.Lib.decDigits u).length ≤ 10 := by
  have : ∀ (k u : Nat), u < 10 ^ (k + 1) → (Go.Lib.decDigits u).length ≤ k + 1 := by
   intro k
   induction k with
   | zero => intro u h; rw [Go.Lib.decDigits, dif_pos (by simpa using h)]; simp
   | succ k ih =>
    intro u h
    rw [Go.Lib.decDigits]
    split
    ·simp
    ·have := ih (u / 10) (by rw [Nat.pow_succ] at h; omega)
     simp; omega
  exact this 9 u (by omega)
 have hn : numOf (Go.Lib.decDigits u) = some (u : Int) := by
  unfold numOf
  rw [if_pos hl, atoi_digits (decD_digits u) (decD_ne u), decFrom_dec]
  simp [e]
 rw [e]
 obtain ⟨e1, e2⟩ := takeW (decD_digits u) hr
 have hd := decD_ne u
 have hh := decD_digits u
 have ho : tokOk (inT (u : Int)) = true := by simp [tokOk, inT, seq_self, h1]
 cases hc : Go.Lib.decDigits u with
 | nil => exact absurd hc hd
 | cons b l =>
  rw [hc] at e1 e2 hn hh
  have hb := hh b (by simp)
  refine Lx.one (fun c hc => by simp at hc; subst hc; exact digit_not hb) ?_ h
  rw [List.cons_append] at e1 e2 ⊢
  simp only [oneL, hb, if_true, e1, e2, hn, Option.bind_some]
  rw [ifOk, if_pos ho]
def zT : TToken := ⟨0, 0, e0⟩
def hdT : Toks → TToken
 | t :: _ => t
 | [] => zT
abbrev pI (ts : Toks) (n : Nat) (b : Bool) : Tparser := ⟨ts, (n : Int), b⟩
abbrev KI {α : Type} (ts : Toks) (x : α) (n : Nat) (b : Bool) : α × Tparser := (x, pI ts n b)
variable {ts : Toks}
theorem wrn {n : Nat} (h : n ≤ 3000) : IntKind.i64.wrap ((n : Int) + 1) = ((n + 1 : Nat) : Int) := wr1 n (by omega)
theorem pnext_i {N : Nat} {n : Nat} {bad : Bool} (hn : n ≤ ts.length) : m_i_parser_next N (pI ts n bad) = some (if bad = true then zT else hdT (ts.drop n)) := by
 unfold m_i_parser_next
 cases bad with
 | true => rfl
 | false =>
  simp only [Bool.false_eq_true, if_false]
  by_cases h : ts.length ≤ n
  ·rw [decide_eq_true (show (ts.length : Int) ≤ (n : Int) by omega), List.drop_of_length_le h]
   rfl
  ·have hlt : n < ts.length := by omega
   rw [decide_eq_false (show ¬ (ts.length : Int) ≤ (n : Int) by omega), Option.bind_some, if_neg (by simp), idx_nat_lt hlt, List.drop_eq_getElem_cons hlt]
   rfl
theorem pskip_i {N : Nat} (hg : Good ts) (hl : ts.length ≤ 3000) {k : Int} (hk : k ≠ 1) (hk0 : k ≠ 0) {s : ByteArray} {n : Nat} {bad : Bool} (hn : n ≤ ts.length) : Skips ts (pI ts) k s n bad (m_i_parser_skip N (pI ts n bad) k s) := by
 have hf : m_i_parser_skip N (pI ts n bad) k s = if decide ((if bad = true then zT else hdT (ts.drop n)) = ⟨k, 0, s⟩) = true then some (true, ⟨ts, IntKind.i64.wrap ((n : Int) + 1), bad⟩) else some (false, pI ts n bad) := by
  unfold m_i_parser_skip m_i_parser_is
  rw [pnext_i hn, Option.bind_some, Option.bind_some, eqT_TToken_eq]
  cases decide ((if bad = true then zT else hdT (ts.drop n)) = ⟨k, 0, s⟩) <;> rfl
 have hz : ¬ zT = ⟨k, 0, s⟩ := fun e => hk0 (congrArg TToken.K e).symm
 refine ⟨fun hb r hr => ?_, fun h => ?_⟩
 ·subst hb
  cases hd : ts.drop n with
  | nil => rw [hd] at hr; cases hr
  | cons t q =>
   obtain ⟨e1, e2⟩ := skip_snd hk hr (fun x hx => hg x (List.mem_of_mem_drop hx))
   rw [hd] at e1
   injection e1 with e1 e3
   have hlen := dropLen hd
   rw [hf, hd]
   refine ⟨?_, by omega, ?_⟩
   ·simp only [Bool.false_eq_true, if_false, hdT]
    rw [if_pos (decide_eq_true e1), wrn (by omega)]
   ·rw [← List.drop_drop, hd, ← e3]; rfl
 ·rw [hf]
  have : ¬ (if bad = true then zT else hdT (ts.drop n)) = ⟨k, 0, s⟩ := by
   cases bad with
   | true => exact hz
   | false =>
    rcases h with h | h
    ·cases h
    ·simp only [Bool.false_eq_true, if_false]
     cases hd : ts.drop n with
     | nil => exact hz
     | cons t q =>
      rw [hd] at h
      intro e
      simp only [hdT] at e
      subst e
      simp [skipP] at h
  rw [if_neg (by simpa using this)]
theorem ptake_i {N : Nat} (hg : Good ts) (hl : ts.length ≤ 3000) {k : Int} (hk : k ≠ 1) (hk0 : k ≠ 0) {s : ByteArray} {n : Nat} {bad : Bool} (hn : n ≤ ts.length) : Takes ts (pI ts) k s n bad (m_i_parser_take N (pI ts n bad) k s) := by
 unfold m_i_parser_take
 have h := Does.sk (K := fun (_ : Unit) n b => pI ts n b) (F := fun x1 => if (!x1.1) = true then some (⟨ts, x1.2.at_, true⟩ : Tparser) else some (⟨ts, x1.2.at_, x1.2.bad⟩ : Tparser)) (f := fun r => some ((), r)) (g := fun _ => none) (pskip_i (N := N) hg hl hk hk0 (s := s) (bad := bad) hn)
  (fun h => Does.ret h) (Does.fail (x := ()) hn fun _ => rfl)
 refine Does.congr h ?_
 unfold ifS
 cases skipP k s (ts.drop n) <;> rfl
theorem pword_i {N : Nat} (hl : ts.length ≤ 3000) {k : Int} (hk0 : k ≠ 0) {n : Nat} {bad : Bool} (hn : n ≤ ts.length) : Does ts (KI ts) (m_i_parser_word N (pI ts n bad) k) n bad (wordP k) := by
 unfold m_i_parser_word
 rw [pnext_i hn, Option.bind_some]
 cases bad with
 | true =>
  rw [if_pos (by simp [zT, Ne.symm hk0])]
  exact Does.fail hn fun h => by cases h
 | false =>
  simp only [Bool.false_eq_true, if_false]
  cases hd : ts.drop n with
  | nil =>
   rw [if_pos (by simp [hdT, zT, Ne.symm hk0])]
   exact Does.fail hn fun _ => by rw [hd]; rfl
  | cons t q =>
   have hlen := dropLen hd
   by_cases ht : t.K = k
   ·rw [if_neg (by simp [hdT, ht]), wrn (by omega)]
    refine ⟨t, n + 1, false, rfl, by omega, by omega, fun _ => ⟨rfl, ?_⟩, fun h => by cases h⟩
    rw [← List.drop_drop, hd]
    simp [wordP, ht]
   ·rw [if_pos (by simp [hdT, ht])]
    exact Does.fail hn fun _ => by rw [hd]; simp [wordP, ht]
theorem wordP_mem {k : Int} {t : TToken} {l r : Toks} (h : wordP k l = some (t, r)) : t ∈ l := by
 cases l with
 | nil => cases h
 | cons u l =>
  simp only [wordP] at h
  split at h
  ·cases h; simp
  ·cases h
def AllOk (ts : Toks) : Prop := ∀ t ∈ ts, tokOk t = true
theorem AllOk.good {ts : Toks} (h : AllOk ts) : Good ts := fun t ht => tokOk_tk0 (h t ht)
theorem AllOk.int {ts : Toks} (h : AllOk ts) {n : Nat} {t : TToken} {r : Toks} (hw : wordP 1 (ts.drop n) = some (t, r)) : 0 ≤ t.N ∧ t.N ≤ 1000000000 := by
 have h1 := h t (List.mem_of_mem_drop (wordP_mem hw))
 have h2 : t.K = 1 := by
  cases hd : ts.drop n with
  | nil => rw [hd] at hw; cases hw
  | cons u l =>
   rw [hd] at hw
   simp only [wordP] at hw
   split at hw
   ·cases hw; assumption
   ·cases hw
 unfold tokOk at h1
 rw [if_pos h2] at h1
 simp only [Bool.and_eq_true, decide_eq_true_eq] at h1
 exact h1.1
theorem pnumber_i {N : Nat} (ho : AllOk ts) (hl : ts.length ≤ 3000) {n : Nat} {bad : Bool} (hn : n ≤ ts.length) : Does ts (KI ts) (m_i_parser_number N (pI ts n bad)) n bad (numP false) := by
 rw [numP_eq]
 unfold m_i_parser_number
 refine Does.sk (pskip_i ho.good hl (by decide) (by decide) hn) (fun h => ?_) ?_
 ·refine Does.bind (pword_i hl (by decide) h) fun x n1 b1 h1 h2 h3 => ?_
  refine Does.congr (a := fun r => some (-x.N, r)) (Does.ret' h2 fun hb => ?_) (by simp)
  have := ho.int (h3 hb)
  show IntKind.i64.wrap (0 - x.N) = _
  rw [wr (by omega) (by omega)]; omega
 ·exact Does.bind (pword_i hl (by decide) hn) fun x n1 b1 h1 h2 h3 => Does.ret h2
theorem parg_i {N : Nat} (ho : AllOk ts) (hl : ts.length ≤ 3000) {n : Nat} {bad : Bool} (hn : n ≤ ts.length) : Does ts (KI ts) (m_i_parser_arg N (pI ts n bad)) n bad (argP false) := by
 have hnum : Does ts (KI ts) ((m_i_parser_number N (pI ts n bad)).bind fun x3 => some ((⟨2, (⟨#[]⟩ : ByteArray), (⟨1, x3.1, (⟨#[]⟩ : ByteArray)⟩ : TVal)⟩ : TArg), (⟨ts, x3.2.at_, x3.2.bad⟩ : Tparser))) n bad (fun r => (numP false r).bind fun x => some (⟨2, e0, ⟨1, x.1, e0⟩⟩, x.2)) :=
  Does.bind (pnumber_i ho hl hn) fun x n1 b1 h1 h2 h3 => Does.ret h2
 have hrest : Does ts (KI ts) ((m_i_parser_skip N (pI ts n bad) 5 (⟨#[95]⟩ : ByteArray)).bind fun x2 => if x2.1 = true then some ((⟨3, (⟨#[]⟩ : ByteArray), (⟨0, 0, (⟨#[]⟩ : ByteArray)⟩ : TVal)⟩ : TArg), (⟨ts, x2.2.at_, x2.2.bad⟩ : Tparser)) else ((m_i_parser_number N (⟨ts, x2.2.at_, x2.2.bad⟩ : Tparser)).bind fun x3 => some ((⟨2, (⟨#[]⟩ : ByteArray), (⟨1, x3.1, (⟨#[]⟩ : ByteArray)⟩ : TVal)⟩ : TArg), (⟨ts, x3.2.at_, x3.2.bad⟩ : Tparser)))) n bad
   (fun r => ifS 5 ⟨#[95]⟩ r (fun q => some (⟨3, e0, ⟨0, 0, e0⟩⟩, q)) ((numP false r).bind fun x => some (⟨2, e0, ⟨1, x.1, e0⟩⟩, x.2))) :=
  Does.sk (pskip_i ho.good hl (by decide) (by decide) hn) (fun h => Does.ret h) hnum
 unfold m_i_parser_arg
 rw [pnext_i hn, Option.bind_some]
 cases bad with
 | true =>
  simp only [if_true]
  rw [if_neg (by decide), if_neg (by decide)]
  obtain ⟨x, n', b', h0, h1, h2, h3, h4⟩ := hrest
  exact ⟨x, n', b', h0, h1, h2, fun hb => (by cases (h3 hb).1), fun _ => .inl rfl⟩
 | false =>
  simp only [Bool.false_eq_true, if_false]
  cases hd : ts.drop n with
  | nil =>
   rw [if_neg (by decide), if_neg (by decide)]
   refine hrest.congr ?_
   rw [hd]; rfl
  | cons t q =>
   have hlen := dropLen hd
   have hq : ts.drop (n + 1) = q := by rw [← List.drop_drop, hd]; rfl
   rw [show hdT (t :: q) = t from rfl]
   by_cases h3 : t.K = 3
   ·rw [if_pos (decide_eq_true h3), wrn (by omega)]
    exact ⟨_, n + 1, false, rfl, by omega, by omega, fun _ => ⟨rfl, by rw [hd, hq]; simp [argP, h3]⟩, fun h => by cases h⟩
   rw [if_neg (by simpa using h3)]
   by_cases h4 : t.K = 4
   ·rw [if_pos (decide_eq_true h4), wrn (by omega)]
    exact ⟨_, n + 1, false, rfl, by omega, by omega, fun _ => ⟨rfl, by rw [hd, hq]; simp [argP, h3, h4]⟩, fun h => by cases h⟩
   rw [if_neg (by simpa using h4)]
   refine hrest.congr ?_
   rw [hd]
   by_cases h5 : t.K = 5 ∧ t.S = ⟨#[95]⟩
   ·simp only [argP, h3, h4, if_false, ifS, skipP, if_pos h5]
   ·simp only [argP, h3, h4, if_false, ifS, skipP, if_neg h5]
theorem pmany_i {α β δ : Type} {N : Nat} (hN : 1099000000000 ≤ N) (ho : AllOk ts) (hl : ts.length ≤ 3000) {K : β → Nat → Bool → δ} {f : Toks → Option (α × Toks)} (m : Tparser → Option (α × Tparser)) (L : Nat → List α → Bool → Int → Bool → Option δ) (E : List α → Int → Bool → Option δ) (fin : List α → Toks → Option (β × Toks))
  (hL : ∀ k s1 s2 (n : Nat) b, L (k + 1) s1 s2 (n : Int) b = ((if s2 then some (!b) else some false).bind fun b3 => if b3 then ((m (pI ts n b)).bind fun x => (app s1 [x.1]).bind fun l => (m_i_parser_skip N (⟨ts, x.2.at_, x.2.bad⟩ : Tparser) 5 ⟨#[44]⟩).bind fun y => L k l y.1 y.2.at_ y.2.bad) else E s1 n b))
  (hm : ∀ n b, n ≤ ts.length → Does ts (KI ts) (m (pI ts n b)) n b f) (hE : ∀ s1 (n : Nat) b, n ≤ ts.length → Does ts K (E s1 n b) n b (fin s1)) (n : Nat) (b : Bool) (hn : n ≤ ts.length) :
  Does ts K (L N [] true n b) n b (fun r => (manyP f 4000 r).bind fun x => fin x.1 x.2) := by
 have := Does.many (ts := ts) (K := K) (f := f) (fun k s1 s2 n b => L k s1 s2 (n : Int) b) fin (fun k s1 n hn hs => by
  obtain ⟨x, n1, b1, h0, h1, h2, h3, h4⟩ := hm n false hn
  have ha : app s1 [x] = some (s1 ++ [x]) := app_ok (by simp; omega)
  have hsk := pskip_i (N := N) ho.good hl (k := 5) (by decide) (by decide) (s := ⟨#[44]⟩) (bad := b1) h2
  have e : L (k + 1) s1 true (n : Int) false = (m_i_parser_skip N (pI ts n1 b1) 5 ⟨#[44]⟩).bind fun y => L k (s1 ++ [x]) y.1 y.2.at_ y.2.bad := by
   rw [hL]
   simp only [if_true, Option.bind_some, Bool.not_false, h0, ha]
  refine ⟨x, n1, b1, h1, h2, fun hb => (h3 hb).2, fun hb => by rcases h4 hb with h | h; cases h; exact h, fun hb r hr => ?_, fun h => ?_⟩
  ·subst hb
   obtain ⟨q1, q2, q3⟩ := hsk.hit rfl r hr
   exact ⟨by rw [e, q1]; rfl, q2, q3⟩
  ·rw [e, hsk.miss h]; rfl) (fun k s1 s2 n b hn h => by
  simp only [hL]
  have : ((if s2 then some (!b) else some false) : Option Bool) = some false := by rcases h with rfl | rfl; rfl; cases s2 <;> rfl
  rw [this, Option.bind_some, if_neg (by simp)]
  exact hE s1 n b hn) N n [] b 4000 hn (by simp) (by omega) (by omega)
 exact this
theorem listPat_i {N : Nat} (hN : 1099000000000 ≤ N) (ho : AllOk ts) (hl : ts.length ≤ 3000) {n : Nat} {bad : Bool} (hn : n ≤ ts.length) (kd : ByteArray) (nt : Bool) :
  Does ts (fun l n b => (pI ts n b, (⟨kd, l, nt⟩ : TPat))) (m_i_parser_listOf_parser_pat_c1 N (pI ts n bad) ⟨kd, [], nt⟩) n bad (listP (argP false)) := by
 rw [listP_eq]
 unfold m_i_parser_listOf_parser_pat_c1
 refine Does.tk (ptake_i ho.good hl (by decide) (by decide) hn) fun n1 b1 h1 h2 => ?_
 refine Does.sk (pskip_i ho.good hl (by decide) (by decide) h2) (fun h => Does.ret (x := []) h) ?_
 exact pmany_i (K := fun l n b => (pI ts n b, (⟨kd, l, nt⟩ : TPat))) hN ho hl (m_i_parser_arg N) (fun k s1 s2 n' b' => m_i_parser_listOf_parser_pat_c1_l1 N (pI ts n bad) k s1 s2 n' b' kd nt)
  (fun s1 n b => (m_i_parser_take N (⟨ts, n, b⟩ : Tparser) 5 (⟨#[41]⟩ : ByteArray)).bind fun x5 => some ((⟨ts, x5.at_, x5.bad⟩ : Tparser), (⟨kd, s1, nt⟩ : TPat)))
  (fun s1 r => (skipP 5 ⟨#[41]⟩ r).bind fun r' => some (s1, r'))
  (fun k s1 s2 n b => by simp only [m_i_parser_listOf_parser_pat_c1_l1, m_i_parser_pat_c1, Option.bind_assoc, Option.bind_some])
  (fun n b hn => parg_i ho hl hn) (fun s1 n b hn => Does.tk (ptake_i ho.good hl (by decide) (by decide) hn) fun n1 b1 h1 h2 => Does.ret h2) n1 b1 h2
theorem pat_i' {N : Nat} (hN : 1099000000000 ≤ N) (ho : AllOk ts) (hl : ts.length ≤ 3000) {n : Nat} {bad : Bool} (hn : n ≤ ts.length) : Does ts (KI ts) (m_i_parser_pat N (pI ts n bad)) n bad (patP false) := by
 rw [patP_eq]
 unfold m_i_parser_pat
 exact Does.sk (pskip_i ho.good hl (by decide) (by decide) hn)
  (fun h => Does.bind (pword_i hl (by decide) h) fun x n1 b1 h1 h2 h3 => Does.bind (listPat_i hN ho hl h2 x.S true) fun l n2 b2 h4 h5 h6 => Does.ret h5)
  (Does.bind (pword_i hl (by decide) hn) fun x n1 b1 h1 h2 h3 => Does.bind (listPat_i hN ho hl h2 x.S false) fun l n2 b2 h4 h5 h6 => Does.ret h5)
theorem cond_i' {N : Nat} (hN : 1099000000000 ≤ N) (ho : AllOk ts) (hl : ts.length ≤ 3000) {n : Nat} {bad : Bool} (hn : n ≤ ts.length) : Does ts (KI ts) (m_i_parser_cond N (pI ts n bad)) n bad (condP false) := by
 rw [condP_eq]
 unfold m_i_parser_cond m_i_parser_cond_j1
 refine Does.bind (parg_i ho hl hn) fun x n1 b1 h1 h2 h3 => ?_
 dsimp only
 refine Does.sk (pskip_i ho.good hl (by decide) (by decide) h2) (fun h => Does.bind (parg_i ho hl h) fun y n2 b2 h4 h5 h6 => Does.ret h5) ?_
 simp only [Bool.false_eq_true, if_false]
 refine Does.sk (pskip_i ho.good hl (by decide) (by decide) h2) (fun h => Does.bind (parg_i ho hl h) fun y n2 b2 h4 h5 h6 => Does.ret h5) ?_
 simp only [Bool.false_eq_true, if_false]
 have h9 := Does.sk (K := KI ts) (F := fun x5 => if x5.1 = true then ((m_i_parser_arg N (⟨ts, x5.2.at_, x5.2.bad⟩ : Tparser)).bind fun x3 => some ((⟨3, x, x3.1⟩ : TCond), (⟨ts, x3.2.at_, x3.2.bad⟩ : Tparser))) else ((m_i_parser_arg N (⟨ts, x5.2.at_, true⟩ : Tparser)).bind fun x3 => some ((⟨0, x, x3.1⟩ : TCond), (⟨ts, x3.2.at_, x3.2.bad⟩ : Tparser))))
  (f := fun r => (argP false r).bind fun y => some (⟨3, x, y.1⟩, y.2)) (g := fun _ => none) (pskip_i (N := N) ho.good hl (k := 5) (s := ⟨#[60]⟩) (bad := b1) (by decide) (by decide) h2) (fun h => Does.bind (parg_i ho hl h) fun y n2 b2 h4 h5 h6 => Does.ret h5) (by
  obtain ⟨y, n2, b2, g0, g1, g2, g3, g4⟩ := parg_i (N := N) (bad := true) ho hl h2
  have hb : b2 = true := by
   cases b2 with
   | true => rfl
   | false => exact absurd (g3 rfl).1 (by decide)
  subst hb
  simp only [Bool.false_eq_true, if_false]
  rw [g0]
  exact ⟨_, n2, true, rfl, g1, g2, fun h => (by cases h), fun _ => .inr rfl⟩)
 refine Does.congr h9 ?_
 unfold ifS
 cases skipP 5 ⟨#[60]⟩ (ts.drop n1) <;> rfl
theorem expr_i' {N : Nat} (hN : 1099000000000 ≤ N) (ho : AllOk ts) (hl : ts.length ≤ 3000) {n : Nat} {bad : Bool} (hn : n ≤ ts.length) : Does ts (KI ts) (m_i_parser_expr N (pI ts n bad)) n bad (exprP false) := by
 rw [exprP_eq]
 obtain ⟨M, rfl⟩ : ∃ M, N = M + 3 := ⟨N - 3, by omega⟩
 unfold m_i_parser_expr
 refine Does.bind (parg_i ho hl hn) fun x n1 b1 h1 h2 h3 => ?_
 have e1 : ∀ (N k : Nat) (a : TArg × Tparser) (n : Int) (b : Bool), m_i_parser_expr_l1 N (pI ts n1 b1) a (k + 1) 0 n b = ((m_i_parser_skip N (⟨ts, n, b⟩ : Tparser) 5 ⟨#[43]⟩).bind fun x3 => (if x3.1 then ((m_i_parser_arg N (⟨ts, x3.2.at_, x3.2.bad⟩ : Tparser)).bind fun x4 => some ((⟨⟨#[43]⟩, a.1, x4.1⟩ : TExpr), (⟨ts, x4.2.at_, x4.2.bad⟩ : Tparser))) else m_i_parser_expr_l1 N (pI ts n1 b1) a k 1 x3.2.at_ x3.2.bad)) := fun N k a n b => rfl
 have e2 : ∀ (N k : Nat) (a : TArg × Tparser) (n : Int) (b : Bool), m_i_parser_expr_l1 N (pI ts n1 b1) a (k + 1) 1 n b = ((m_i_parser_skip N (⟨ts, n, b⟩ : Tparser) 5 ⟨#[45]⟩).bind fun x3 => (if x3.1 then ((m_i_parser_arg N (⟨ts, x3.2.at_, x3.2.bad⟩ : Tparser)).bind fun x4 => some ((⟨⟨#[45]⟩, a.1, x4.1⟩ : TExpr), (⟨ts, x4.2.at_, x4.2.bad⟩ : Tparser))) else m_i_parser_expr_l1 N (pI ts n1 b1) a k 2 x3.2.at_ x3.2.bad)) := fun N k a n b => rfl
 have e3 : ∀ (N k : Nat) (a : TArg × Tparser) (n : Int) (b : Bool), m_i_parser_expr_l1 N (pI ts n1 b1) a (k + 1) 2 n b = some ((⟨e0, a.1, ⟨0, e0, ⟨0, 0, e0⟩⟩⟩ : TExpr), (⟨ts, n, b⟩ : Tparser)) := fun N k a n b => rfl
 rw [show M + 3 = M + 2 + 1 from rfl]
 simp only [e1]
 refine Does.sk (pskip_i ho.good hl (by decide) (by decide) h2) (fun h => Does.bind (parg_i ho hl h) fun y n2 b2 h4 h5 h6 => Does.ret h5) ?_
 simp only [show M + 2 = M + 1 + 1 from rfl, e2, Bool.false_eq_true, if_false]
 refine Does.sk (pskip_i ho.good hl (by decide) (by decide) h2) (fun h => Does.bind (parg_i ho hl h) fun y n2 b2 h4 h5 h6 => Does.ret h5) ?_
 simp only [e3, Bool.false_eq_true, if_false]
 exact Does.ret h2
theorem listExpr_i {N : Nat} (hN : 1099000000000 ≤ N) (ho : AllOk ts) (hl : ts.length ≤ 3000) {n : Nat} {bad : Bool} (hn : n ≤ ts.length) (kd : Int) (nm : ByteArray) (m : Int) (ud : ByteArray) :
  Does ts (fun l n b => (pI ts n b, (⟨kd, nm, l, m, ud⟩ : TAct))) (m_i_parser_listOf_parser_call_c1 N (pI ts n bad) ⟨kd, nm, [], m, ud⟩) n bad (listP (exprP false)) := by
 rw [listP_eq]
 unfold m_i_parser_listOf_parser_call_c1
 refine Does.tk (ptake_i ho.good hl (by decide) (by decide) hn) fun n1 b1 h1 h2 => ?_
 refine Does.sk (pskip_i ho.good hl (by decide) (by decide) h2) (fun h => Does.ret (x := []) h) ?_
 exact pmany_i (K := fun l n b => (pI ts n b, (⟨kd, nm, l, m, ud⟩ : TAct))) hN ho hl (m_i_parser_expr N) (fun k s1 s2 n' b' => m_i_parser_listOf_parser_call_c1_l1 N (pI ts n bad) k s1 s2 n' b' kd nm m ud)
  (fun s1 n b => (m_i_parser_take N (⟨ts, n, b⟩ : Tparser) 5 (⟨#[41]⟩ : ByteArray)).bind fun x5 => some ((⟨ts, x5.at_, x5.bad⟩ : Tparser), (⟨kd, nm, s1, m, ud⟩ : TAct)))
  (fun s1 r => (skipP 5 ⟨#[41]⟩ r).bind fun r' => some (s1, r'))
  (fun k s1 s2 n b => by simp only [m_i_parser_listOf_parser_call_c1_l1, m_i_parser_call_c1, Option.bind_assoc, Option.bind_some])
  (fun n b hn => expr_i' hN ho hl hn) (fun s1 n b hn => Does.tk (ptake_i ho.good hl (by decide) (by decide) hn) fun n1 b1 h1 h2 => Does.ret h2) n1 b1 h2
theorem call_i' {N : Nat} (hN : 1099000000000 ≤ N) (ho : AllOk ts) (hl : ts.length ≤ 3000) {n : Nat} {bad : Bool} (hn : n ≤ ts.length) (kd : Int) (nm : ByteArray) (m : Int) (ud : ByteArray) :
  Does ts (fun (c : ByteArray × List TExpr) n b => (pI ts n b, (⟨kd, c.1, c.2, m, ud⟩ : TAct))) (m_i_parser_call N (pI ts n bad) ⟨kd, nm, [], m, ud⟩) n bad (callP false) := by
 unfold m_i_parser_call
 exact Does.bind (pword_i hl (by decide) hn) fun x n1 b1 h1 h2 h3 => Does.bind (listExpr_i hN ho hl h2 kd x.S m ud) fun l n2 b2 h4 h5 h6 => Does.ret (K := fun (c : ByteArray × List TExpr) n b => (pI ts n b, (⟨kd, c.1, c.2, m, ud⟩ : TAct))) (x := (x.S, l)) h5
theorem seq_dec' {s t : ByteArray} : (seq s t = true) = (s = t) := by rw [seq_eq]; exact decide_eq_true_eq
theorem act_i' {N : Nat} (hN : 1099000000000 ≤ N) (ho : AllOk ts) (hl : ts.length ≤ 3000) {n : Nat} {bad : Bool} (hn : n ≤ ts.length) : Does ts (KI ts) (m_i_parser_act N (pI ts n bad)) n bad (actP false) := by
 unfold m_i_parser_act
 refine Does.bind (g := fun w : TToken × Toks => (if w.1.S = ⟨#[97, 115, 115, 101, 114, 116]⟩ then (callP false w.2).bind fun c => some (⟨1, c.1.1, c.1.2, 0, e0⟩, c.2)
  else if w.1.S = ⟨#[100, 114, 111, 112]⟩ then (wordP 1 w.2).bind fun n => some (⟨2, e0, [], n.1.N, e0⟩, n.2)
  else if w.1.S = ⟨#[116, 97, 115, 107]⟩ then (callP false w.2).bind fun c => (undoP c.2).bind fun u => some (⟨3, c.1.1, c.1.2, 0, u.1⟩, u.2)
  else if w.1.S = ⟨#[116, 105, 109, 101, 114]⟩ then (wordP 1 w.2).bind fun n => (callP false n.2).bind fun c => some (⟨4, c.1.1, c.1.2, n.1.N, e0⟩, c.2)
  else if w.1.S = ⟨#[100, 111, 110, 101]⟩ then some (⟨5, e0, [], 0, e0⟩, w.2)
  else if w.1.S = ⟨#[102, 97, 105, 108]⟩ then some (⟨6, e0, [], 0, e0⟩, w.2)
  else none : Option (TAct × Toks))) (pword_i hl (by decide) hn) fun x n1 b1 h1 h2 h3 => ?_
 simp only [seq_dec', m_i_parser_act_j1]
 by_cases c1 : x.S = ⟨#[97, 115, 115, 101, 114, 116]⟩
 ·simp only [if_pos c1]
  exact Does.bind (call_i' hN ho hl h2 1 e0 0 e0) fun c n2 b2 h4 h5 h6 => Does.ret h5
 simp only [if_neg c1]
 by_cases c2 : x.S = ⟨#[100, 114, 111, 112]⟩
 ·simp only [if_pos c2]
  exact Does.bind (pword_i hl (by decide) h2) fun c n2 b2 h4 h5 h6 => Does.ret h5
 simp only [if_neg c2]
 by_cases c3 : x.S = ⟨#[116, 97, 115, 107]⟩
 ·simp only [if_pos c3]
  refine Does.bind (call_i' hN ho hl h2 3 e0 0 e0) fun c n2 b2 h4 h5 h6 => ?_
  have := Does.sk (K := KI ts) (F := fun x5 => if x5.1 = true then ((m_i_parser_word N (⟨ts, x5.2.at_, x5.2.bad⟩ : Tparser) 2).bind fun x6 => some ((⟨3, c.1, c.2, 0, x6.1.S⟩ : TAct), (⟨ts, x6.2.at_, x6.2.bad⟩ : Tparser))) else some ((⟨3, c.1, c.2, 0, e0⟩ : TAct), (⟨ts, x5.2.at_, x5.2.bad⟩ : Tparser)))
   (f := fun r => (wordP 2 r).bind fun u => some (⟨3, c.1, c.2, 0, u.1.S⟩, u.2)) (g := fun r => some (⟨3, c.1, c.2, 0, e0⟩, r))
   (pskip_i (N := N) (s := ⟨#[117, 110, 100, 111]⟩) (bad := b2) (k := 2) ho.good hl (by decide) (by decide) h5) (fun h => Does.bind (pword_i hl (by decide) h) fun y n3 b3 h7 h8 h9 => Does.ret h8) (Does.ret h5)
  refine Does.congr this ?_
  show ifS 2 ⟨#[117, 110, 100, 111]⟩ (ts.drop n2) _ _ = (undoP (ts.drop n2)).bind _
  unfold ifS undoP
  cases skipP 2 ⟨#[117, 110, 100, 111]⟩ (ts.drop n2) with
  | none => rfl
  | some r =>
   dsimp only
   cases wordP 2 r <;> rfl
 simp only [if_neg c3]
 by_cases c4 : x.S = ⟨#[116, 105, 109, 101, 114]⟩
 ·simp only [if_pos c4]
  exact Does.bind (pword_i hl (by decide) h2) fun w n2 b2 h4 h5 h6 => Does.bind (call_i' hN ho hl h5 4 e0 w.N e0) fun c n3 b3 h7 h8 h9 => Does.ret h8
 simp only [if_neg c4]
 by_cases c5 : x.S = ⟨#[100, 111, 110, 101]⟩
 ·simp only [if_pos c5]
  exact Does.ret h2
 simp only [if_neg c5]
 by_cases c6 : x.S = ⟨#[102, 97, 105, 108]⟩
 ·simp only [if_pos c6]
  exact Does.ret h2
 simp only [if_neg c6]
 exact Does.fail h2 fun _ => rfl
theorem rule_i' {N : Nat} (hN : 1099000000000 ≤ N) (ho : AllOk ts) (hl : ts.length ≤ 3000) {n : Nat} {bad : Bool} (hn : n ≤ ts.length) : Does ts (KI ts) (m_i_parser_rule N (pI ts n bad)) n bad (ruleP false) := by
 unfold m_i_parser_rule
 rw [ruleP_eq]
 refine Does.tk (ptake_i ho.good hl (by decide) (by decide) hn) fun n1 b1 h1 h2 => ?_
 refine Does.bind (pword_i hl (by decide) h2) fun w n2 b2 h3 h4 h5 => ?_
 dsimp only
 refine Does.bind (pnumber_i ho hl h4) fun v n3 b3 h6 h7 h8 => ?_
 dsimp only
 refine Does.tk (ptake_i ho.good hl (by decide) (by decide) h7) fun n4 b4 h9 h10 => ?_
 -- the acts, from place m on
 have acts : ∀ (ps : List TPat) (cs : List TCond) (m : Nat) (b : Bool), m ≤ ts.length → Does ts (KI ts) (m_i_parser_rule_j2 N (pI ts n bad) (w, pI ts n2 b2) (v, pI ts n3 b3) ps cs (m : Int) b) m b
   (fun r => (skipP 5 ⟨#[45, 62]⟩ r).bind fun r2 => (manyP (actP false) 4000 r2).bind fun as => (skipP 5 ⟨#[46]⟩ as.2).bind fun r3 => some (⟨w.S, v, ps, cs, as.1⟩, r3)) := by
  intro ps cs m b hm
  unfold m_i_parser_rule_j2
  refine Does.tk (ptake_i ho.good hl (by decide) (by decide) hm) fun m1 c1 g1 g2 => ?_
  exact pmany_i (K := KI ts) hN ho hl (m_i_parser_act N) (fun k s1 s2 n' b' => m_i_parser_rule_l3 N (pI ts n bad) (w, pI ts n2 b2) (v, pI ts n3 b3) ps cs k s1 s2 n' b')
   (fun s1 n' b' => (m_i_parser_take N (⟨ts, n', b'⟩ : Tparser) 5 (⟨#[46]⟩ : ByteArray)).bind fun x13 => some ((⟨w.S, v, ps, cs, s1⟩ : TRule), (⟨ts, x13.at_, x13.bad⟩ : Tparser)))
   (fun s1 r => (skipP 5 ⟨#[46]⟩ r).bind fun r3 => some (⟨w.S, v, ps, cs, s1⟩, r3))
   (fun k s1 s2 n b => by simp only [m_i_parser_rule_l3])
   (fun n b hn => act_i' hN ho hl hn) (fun s1 n b hn => Does.tk (ptake_i ho.good hl (by decide) (by decide) hn) fun n1 b1 h1 h2 => Does.ret h2) m1 c1 g2
 have conds : ∀ (ps : List TPat) (m : Nat) (b : Bool), m ≤ ts.length → Does ts (KI ts) ((m_i_parser_skip N (⟨ts, (m : Int), b⟩ : Tparser) 5 (⟨#[43]⟩ : ByteArray)).bind fun x8 => (if x8.1 then m_i_parser_rule_l4 N (pI ts n bad) (w, pI ts n2 b2) (v, pI ts n3 b3) ps N ([] : List TCond) true x8.2.at_ x8.2.bad else m_i_parser_rule_j2 N (pI ts n bad) (w, pI ts n2 b2) (v, pI ts n3 b3) ps ([] : List TCond) x8.2.at_ x8.2.bad)) m b
   (fun r => (condsP false r).bind fun cs => (skipP 5 ⟨#[45, 62]⟩ cs.2).bind fun r2 => (manyP (actP false) 4000 r2).bind fun as => (skipP 5 ⟨#[46]⟩ as.2).bind fun r3 => some (⟨w.S, v, ps, cs.1, as.1⟩, r3)) := by
  intro ps m b hm
  have := Does.sk (K := KI ts) (F := fun x8 => if x8.1 = true then m_i_parser_rule_l4 N (pI ts n bad) (w, pI ts n2 b2) (v, pI ts n3 b3) ps N ([] : List TCond) true x8.2.at_ x8.2.bad else m_i_parser_rule_j2 N (pI ts n bad) (w, pI ts n2 b2) (v, pI ts n3 b3) ps ([] : List TCond) x8.2.at_ x8.2.bad)
   (f := fun r => (manyP (condP false) 4000 r).bind fun cs => (skipP 5 ⟨#[45, 62]⟩ cs.2).bind fun r2 => (manyP (actP false) 4000 r2).bind fun as => (skipP 5 ⟨#[46]⟩ as.2).bind fun r3 => some (⟨w.S, v, ps, cs.1, as.1⟩, r3))
   (g := fun r => (skipP 5 ⟨#[45, 62]⟩ r).bind fun r2 => (manyP (actP false) 4000 r2).bind fun as => (skipP 5 ⟨#[46]⟩ as.2).bind fun r3 => some (⟨w.S, v, ps, [], as.1⟩, r3))
   (pskip_i (N := N) (s := ⟨#[43]⟩) (bad := b) (k := 5) ho.good hl (by decide) (by decide) hm)
   (fun h => pmany_i (K := KI ts) hN ho hl (m_i_parser_cond N) (fun k s1 s2 n' b' => m_i_parser_rule_l4 N (pI ts n bad) (w, pI ts n2 b2) (v, pI ts n3 b3) ps k s1 s2 n' b')
    (fun s1 n' b' => m_i_parser_rule_j2 N (pI ts n bad) (w, pI ts n2 b2) (v, pI ts n3 b3) ps s1 n' b')
    (fun s1 r => (skipP 5 ⟨#[45, 62]⟩ r).bind fun r2 => (manyP (actP false) 4000 r2).bind fun as => (skipP 5 ⟨#[46]⟩ as.2).bind fun r3 => some (⟨w.S, v, ps, s1, as.1⟩, r3))
    (fun k s1 s2 n b => by simp only [m_i_parser_rule_l4])
    (fun n b hn => cond_i' hN ho hl hn) (fun s1 n b hn => acts ps s1 n b hn) (m + 1) false h) (acts ps [] m b hm)
  refine Does.congr this ?_
  show ifS 5 ⟨#[43]⟩ (ts.drop m) _ _ = (condsP false (ts.drop m)).bind _
  unfold ifS condsP
  cases skipP 5 ⟨#[43]⟩ (ts.drop m) <;> rfl
 exact pmany_i (K := KI ts) hN ho hl (m_i_parser_pat N) (fun k s1 s2 n' b' => m_i_parser_rule_l1 N (pI ts n bad) (w, pI ts n2 b2) (v, pI ts n3 b3) k s1 s2 n' b')
  (fun s1 n' b' => (m_i_parser_skip N (⟨ts, n', b'⟩ : Tparser) 5 (⟨#[43]⟩ : ByteArray)).bind fun x8 => (if x8.1 then m_i_parser_rule_l4 N (pI ts n bad) (w, pI ts n2 b2) (v, pI ts n3 b3) s1 N ([] : List TCond) true x8.2.at_ x8.2.bad else m_i_parser_rule_j2 N (pI ts n bad) (w, pI ts n2 b2) (v, pI ts n3 b3) s1 ([] : List TCond) x8.2.at_ x8.2.bad))
  (fun s1 r => (condsP false r).bind fun cs => (skipP 5 ⟨#[45, 62]⟩ cs.2).bind fun r2 => (manyP (actP false) 4000 r2).bind fun as => (skipP 5 ⟨#[46]⟩ as.2).bind fun r3 => some (⟨w.S, v, s1, cs.1, as.1⟩, r3))
  (fun k s1 s2 n b => by simp only [m_i_parser_rule_l1])
  (fun n b hn => pat_i' hN ho hl hn) (fun s1 n b hn => conds s1 n b hn) n4 b4 h10
variable {ts : Toks}
theorem wordP_memS {k : Int} {t : TToken} {l r : Toks} (h : wordP k l = some (t, r)) : t ∈ l ∧ t.K = k := by
 cases l with
 | nil => cases h
 | cons u l =>
  simp only [wordP] at h
  split at h
  ·cases h; exact ⟨by simp, by assumption⟩
  ·cases h
def AllOkS (ts : Toks) : Prop := ∀ t ∈ ts, tokOk t = true
theorem AllOkS.good {ts : Toks} (h : AllOkS ts) : Good ts := fun t ht => tokOk_tk0 (h t ht)
theorem AllOkS.int {ts : Toks} (h : AllOkS ts) {n : Nat} {t : TToken} {r : Toks} (hw : wordP 1 (ts.drop n) = some (t, r)) : 0 ≤ t.N ∧ t.N ≤ 1000000000 := by
 have h1 := h t (List.mem_of_mem_drop (wordP_memS hw).1)
 unfold tokOk at h1
 rw [if_pos (wordP_memS hw).2] at h1
 simp only [Bool.and_eq_true, decide_eq_true_eq] at h1
 exact h1.1
def Small (ts : Toks) : Prop := ∀ t ∈ ts, t.S.size ≤ 1048576
theorem Small.tail {t : TToken} {ts : Toks} (h : Small (t :: ts)) : Small ts := fun x hx => h x (by simp [hx])
theorem tokOk_small {t : TToken} (h : tokOk t = true) : t.S.size ≤ 1048576 := by
 unfold tokOk at h
 split at h
 ·simp only [Bool.and_eq_true] at h
  rw [seq_e0 h.2]; decide
 split at h
 ·simp only [Bool.and_eq_true] at h
  have := h.2
  unfold okName at this
  simp only [Bool.and_eq_true, decide_eq_true_eq] at this
  omega
 split at h
 ·simp only [Bool.and_eq_true] at h
  have := h.2
  unfold varOk at this
  split at this
  ·cases this
  ·simp only [Bool.and_eq_true, decide_eq_true_eq] at this
   omega
 split at h
 ·simp only [Bool.and_eq_true, decide_eq_true_eq] at h
  omega
 split at h
 ·simp only [Bool.and_eq_true] at h
  have := h.2
  unfold markB at this
  simp only [Bool.or_eq_true, decide_eq_true_eq] at this
  rcases this with (((((((((((h | h) | h) | h) | h) | h) | h) | h) | h) | h) | h) | h) | h <;> (rw [h]; decide)
 ·cases h
theorem skip_z {k : Int} {s : ByteArray} {ts r : Toks} (h : skipP k s ts = some r) (hg : Small ts) : Small r ∧ r.length + 1 ≤ ts.length := by
 cases ts with
 | nil => cases h
 | cons t ts =>
  simp only [skipP] at h
  split at h
  ·cases h; exact ⟨hg.tail, by simp⟩
  ·cases h
theorem word_z {k : Int} {t : TToken} {ts r : Toks} (h : wordP k ts = some (t, r)) (hg : Small ts) : t.S.size ≤ 1048576 ∧ Small r ∧ r.length + 1 ≤ ts.length := by
 cases ts with
 | nil => cases h
 | cons u ts =>
  simp only [wordP] at h
  split at h
  ·cases h; exact ⟨hg t (by simp), hg.tail, by simp⟩
  ·cases h
theorem num_z {z : Bool} {n : Int} {ts r : Toks} (h : numP z ts = some (n, r)) (hg : Small ts) : Small r ∧ r.length + 1 ≤ ts.length := by
 unfold numP at h
 split at h
 ·rename_i q hq
  obtain ⟨g1, l1⟩ := skip_z hq hg
  obtain ⟨⟨t, q'⟩, h1, h2⟩ := bind_some h
  obtain ⟨-, g2, l2⟩ := word_z h1 g1
  simp only at h2
  split at h2
  ·cases h2
  ·cases h2; exact ⟨g2, by ((try dsimp only [List.length_nil, List.length_cons] at *); omega)⟩
 ·obtain ⟨⟨t, q'⟩, h1, h2⟩ := bind_some h
  obtain ⟨-, g2, l2⟩ := word_z h1 hg
  cases h2; exact ⟨g2, l2⟩
theorem e0_small : (e0 : ByteArray).size ≤ 1048576 := by decide
theorem arg_z {z : Bool} {a : TArg} {ts r : Toks} (h : argP z ts = some (a, r)) (hg : Small ts) : SzArg a ∧ Small r ∧ r.length + 1 ≤ ts.length := by
 cases ts with
 | nil => cases h
 | cons t ts =>
  have ht := hg t (by simp)
  simp only [argP] at h
  split at h
  ·cases h; exact ⟨⟨ht, e0_small⟩, hg.tail, by simp⟩
  split at h
  ·cases h; exact ⟨⟨e0_small, ht⟩, hg.tail, by simp⟩
  split at h
  ·cases h; exact ⟨⟨e0_small, e0_small⟩, hg.tail, by simp⟩
  ·obtain ⟨⟨n, q⟩, h1, h2⟩ := bind_some h
   obtain ⟨g2, l2⟩ := num_z h1 hg
   cases h2; exact ⟨⟨e0_small, e0_small⟩, g2, l2⟩
theorem many_z {α : Type} {f : Toks → Option (α × Toks)} {S : α → Prop} {c : α → Nat} (H : ∀ ts x r, f ts = some (x, r) → Small ts → S x ∧ Small r ∧ r.length + c x ≤ ts.length) :
  ∀ (n : Nat) (ts : Toks) (l : List α) (r : Toks), manyP f n ts = some (l, r) → Small ts → (∀ x ∈ l, S x) ∧ Small r ∧ r.length + (l.map c).sum ≤ ts.length
 | 0, ts, l, r, h, _ => by cases h
 | n + 1, ts, l, r, h, hg => by
  simp only [manyP] at h
  obtain ⟨⟨x, q⟩, h1, h2⟩ := bind_some h
  obtain ⟨s1, g1, l1⟩ := H _ _ _ h1 hg
  simp only at h2
  split at h2
  ·rename_i q' hq
   obtain ⟨g2, l2⟩ := skip_z hq g1
   obtain ⟨⟨l', r'⟩, h3, h4⟩ := bind_some h2
   obtain ⟨s3, g3, l3⟩ := many_z H n _ _ _ h3 g2
   cases h4
   refine ⟨fun y hy => ?_, g3, by simp; ((try dsimp only [List.length_nil, List.length_cons] at *); omega)⟩
   rcases List.mem_cons.1 hy with rfl | hy
   ·exact s1
   ·exact s3 y hy
  ·cases h2
   exact ⟨fun y hy => by simp at hy; subst hy; exact s1, g1, by simpa using l1⟩
theorem sum_one {α : Type} : ∀ (l : List α), (l.map fun _ => (1 : Nat)).sum = l.length
 | [] => rfl
 | x :: l => by
  have := sum_one l
  simp only [List.map_cons, List.sum_cons, List.length_cons]
  omega
theorem list_z {α : Type} {f : Toks → Option (α × Toks)} {S : α → Prop} (H : ∀ ts x r, f ts = some (x, r) → Small ts → S x ∧ Small r ∧ r.length + 1 ≤ ts.length) {ts r : Toks} {l : List α} (h : listP f ts = some (l, r)) (hg : Small ts) : (∀ x ∈ l, S x) ∧ Small r ∧ r.length + l.length ≤ ts.length := by
 unfold listP at h
 obtain ⟨q, h1, h2⟩ := bind_some h
 obtain ⟨g1, l1⟩ := skip_z h1 hg
 split at h2
 ·rename_i q' hq
  obtain ⟨g2, l2⟩ := skip_z hq g1
  cases h2
  exact ⟨by simp, g2, by ((try dsimp only [List.length_nil, List.length_cons] at *); omega)⟩
 ·obtain ⟨⟨l', r'⟩, h3, h4⟩ := bind_some h2
  obtain ⟨s3, g3, l3⟩ := many_z (c := fun _ => 1) H _ _ _ _ h3 g1
  obtain ⟨q2, h5, h6⟩ := bind_some h4
  obtain ⟨g4, l4⟩ := skip_z h5 g3
  cases h6
  have : ((l'.map fun _ => (1 : Nat)).sum) = l'.length := sum_one l'
  exact ⟨s3, g4, by ((try dsimp only [List.length_nil, List.length_cons] at *); omega)⟩
theorem expr_z {z : Bool} {e : TExpr} {ts r : Toks} (h : exprP z ts = some (e, r)) (hg : Small ts) : SzExpr e ∧ Small r ∧ r.length + 1 ≤ ts.length := by
 unfold exprP at h
 obtain ⟨⟨x, q⟩, h1, h2⟩ := bind_some h
 obtain ⟨s1, g1, l1⟩ := arg_z h1 hg
 simp only at h2
 have one : ∀ (s : ByteArray) (q' : Toks), s.size ≤ 1048576 → skipP 5 s q = some q' → ((argP z q').bind fun y => some ((⟨s, x, y.1⟩ : TExpr), y.2)) = some (e, r) → SzExpr e ∧ Small r ∧ r.length + 1 ≤ ts.length := by
  intro s q' hs hq h3
  obtain ⟨g2, l2⟩ := skip_z hq g1
  obtain ⟨⟨y, q2⟩, h4, h5⟩ := bind_some h3
  obtain ⟨s3, g3, l3⟩ := arg_z h4 g2
  cases h5
  exact ⟨⟨hs, s1, s3⟩, g3, by ((try dsimp only [List.length_nil, List.length_cons] at *); omega)⟩
 split at h2
 ·rename_i q' hq
  exact one _ _ (by decide) hq h2
 split at h2
 ·rename_i q' hq
  exact one _ _ (by decide) hq h2
 ·cases h2
  exact ⟨⟨e0_small, s1, e0_small, e0_small⟩, g1, l1⟩
theorem op_z {o : Int} {ts r : Toks} (h : opP ts = some (o, r)) (hg : Small ts) : Small r ∧ r.length ≤ ts.length := by
 unfold opP at h
 split at h
 ·rename_i hq
  cases h
  have := skip_z hq hg
  exact ⟨this.1, by ((try dsimp only [List.length_nil, List.length_cons] at *); omega)⟩
 split at h
 ·rename_i hq
  cases h
  have := skip_z hq hg
  exact ⟨this.1, by ((try dsimp only [List.length_nil, List.length_cons] at *); omega)⟩
 ·obtain ⟨q, hq, h2⟩ := bind_some h
  cases h2
  have := skip_z hq hg
  exact ⟨this.1, by ((try dsimp only [List.length_nil, List.length_cons] at *); omega)⟩
theorem cond_z {z : Bool} {c : TCond} {ts r : Toks} (h : condP z ts = some (c, r)) (hg : Small ts) : SzCond c ∧ Small r ∧ r.length + 1 ≤ ts.length := by
 unfold condP at h
 obtain ⟨⟨x, q⟩, h1, h2⟩ := bind_some h
 obtain ⟨s1, g1, l1⟩ := arg_z h1 hg
 obtain ⟨⟨o, q1⟩, h3, h4⟩ := bind_some h2
 obtain ⟨g2, l2⟩ := op_z h3 g1
 obtain ⟨⟨y, q2⟩, h5, h6⟩ := bind_some h4
 obtain ⟨s3, g3, l3⟩ := arg_z h5 g2
 cases h6
 exact ⟨⟨s1, s3⟩, g3, by ((try dsimp only [List.length_nil, List.length_cons] at *); omega)⟩
theorem pat_z {z : Bool} {p : TPat} {ts r : Toks} (h : patP z ts = some (p, r)) (hg : Small ts) : (SzPat p ∨ 1048576 < p.Args.length) ∧ Small r ∧ r.length + (1 + p.Args.length) ≤ ts.length := by
 unfold patP at h
 obtain ⟨⟨w, q⟩, h1, h2⟩ := bind_some h
 obtain ⟨⟨l, q1⟩, h3, h4⟩ := bind_some h2
 have hb : Small (bangP ts).2 ∧ (bangP ts).2.length ≤ ts.length := by
  unfold bangP
  split
  ·rename_i hq
   have := skip_z hq hg
   exact ⟨this.1, by ((try dsimp only [List.length_nil, List.length_cons] at *); omega)⟩
  ·exact ⟨hg, Nat.le_refl _⟩
 obtain ⟨s1, g1, l1⟩ := word_z h1 hb.1
 obtain ⟨s2, g2, l2⟩ := list_z (fun ts x r => arg_z) h3 g1
 cases h4
 refine ⟨?_, g2, by ((try dsimp only [List.length_nil, List.length_cons] at *); omega)⟩
 by_cases hl : l.length ≤ 1048576
 ·exact .inl ⟨s1, hl, s2⟩
 ·exact .inr (by ((try dsimp only [List.length_nil, List.length_cons] at *); omega))
theorem call_z {z : Bool} {c : ByteArray × List TExpr} {ts r : Toks} (h : callP z ts = some (c, r)) (hg : Small ts) : (c.1.size ≤ 1048576 ∧ ∀ e ∈ c.2, SzExpr e) ∧ Small r ∧ r.length + (1 + c.2.length) ≤ ts.length := by
 unfold callP at h
 obtain ⟨⟨w, q⟩, h1, h2⟩ := bind_some h
 obtain ⟨⟨l, q1⟩, h3, h4⟩ := bind_some h2
 obtain ⟨s1, g1, l1⟩ := word_z h1 hg
 obtain ⟨s2, g2, l2⟩ := list_z (fun ts x r => expr_z) h3 g1
 cases h4
 exact ⟨⟨s1, s2⟩, g2, by ((try dsimp only [List.length_nil, List.length_cons] at *); omega)⟩
def szA (a : TAct) : Prop := a.Name.size ≤ 1048576 ∧ a.Undo.size ≤ 1048576 ∧ ∀ e ∈ a.Args, SzExpr e
theorem act_z {z : Bool} {a : TAct} {ts r : Toks} (h : actP z ts = some (a, r)) (hg : Small ts) : szA a ∧ Small r ∧ r.length + (1 + a.Args.length) ≤ ts.length := by
 unfold actP at h
 obtain ⟨⟨w, q⟩, h1, h2⟩ := bind_some h
 obtain ⟨-, g1, l1⟩ := word_z h1 hg
 simp only at h2
 split at h2
 ·obtain ⟨⟨x, q2⟩, h3, h4⟩ := bind_some h2
  obtain ⟨s2, g2, l2⟩ := call_z h3 g1
  cases h4
  exact ⟨⟨s2.1, e0_small, s2.2⟩, g2, by ((try dsimp only [List.length_nil, List.length_cons] at *); omega)⟩
 split at h2
 ·obtain ⟨⟨x, q2⟩, h3, h4⟩ := bind_some h2
  obtain ⟨s2, g2, l2⟩ := word_z h3 g1
  cases h4
  exact ⟨⟨e0_small, e0_small, by simp⟩, g2, by ((try dsimp only [List.length_nil, List.length_cons] at *); omega)⟩
 split at h2
 ·obtain ⟨⟨x, q2⟩, h3, h4⟩ := bind_some h2
  obtain ⟨s2, g2, l2⟩ := call_z h3 g1
  obtain ⟨⟨u, q3⟩, h5, h6⟩ := bind_some h4
  have hu : u.size ≤ 1048576 ∧ Small q3 ∧ q3.length ≤ q2.length := by
   simp only at h5
   unfold undoP at h5
   split at h5
   ·rename_i hq
    obtain ⟨g3, l3⟩ := skip_z hq g2
    obtain ⟨⟨v, q4⟩, h7, h8⟩ := bind_some h5
    obtain ⟨s4, g4, l4⟩ := word_z h7 g3
    cases h8
    exact ⟨s4, g4, by ((try dsimp only [List.length_nil, List.length_cons] at *); omega)⟩
   ·cases h5
    exact ⟨e0_small, g2, Nat.le_refl _⟩
  cases h6
  exact ⟨⟨s2.1, hu.1, s2.2⟩, hu.2.1, by ((try dsimp only [List.length_nil, List.length_cons] at *); omega)⟩
 split at h2
 ·obtain ⟨⟨n, q2⟩, h3, h4⟩ := bind_some h2
  obtain ⟨-, g2, l2⟩ := word_z h3 g1
  obtain ⟨⟨x, q3⟩, h5, h6⟩ := bind_some h4
  obtain ⟨s3, g3, l3⟩ := call_z h5 g2
  cases h6
  exact ⟨⟨s3.1, e0_small, s3.2⟩, g3, by ((try dsimp only [List.length_nil, List.length_cons] at *); omega)⟩
 split at h2
 ·cases h2
  exact ⟨⟨e0_small, e0_small, by simp⟩, g1, by ((try dsimp only [List.length_nil, List.length_cons] at *); omega)⟩
 split at h2
 ·cases h2
  exact ⟨⟨e0_small, e0_small, by simp⟩, g1, by ((try dsimp only [List.length_nil, List.length_cons] at *); omega)⟩
 ·cases h2
theorem conds_z {z : Bool} {l : List TCond} {ts r : Toks} (h : condsP z ts = some (l, r)) (hg : Small ts) : (∀ c ∈ l, SzCond c) ∧ Small r ∧ r.length + l.length ≤ ts.length := by
 unfold condsP at h
 split at h
 ·rename_i q hq
  obtain ⟨g, l1⟩ := skip_z hq hg
  obtain ⟨s2, g2, l2⟩ := many_z (c := fun _ => 1) (fun ts x r => cond_z) _ _ _ _ h g
  have : ((l.map fun _ => (1 : Nat)).sum) = l.length := sum_one l
  exact ⟨s2, g2, by ((try dsimp only [List.length_nil, List.length_cons] at *); omega)⟩
 ·cases h
  exact ⟨by simp, hg, by ((try dsimp only [List.length_nil, List.length_cons] at *); omega)⟩
theorem sum_ge1 {α : Type} {c : α → Nat} : ∀ (l : List α), l.length ≤ (l.map fun x => 1 + c x).sum
 | [] => by simp
 | x :: l => by have := sum_ge1 (c := c) l; simp; omega
theorem mem_sum {α : Type} {c : α → Nat} : ∀ {l : List α} {x : α}, x ∈ l → c x ≤ (l.map c).sum
 | y :: l, x, h => by
  rcases List.mem_cons.1 h with rfl | h
  ·simp
  ·have := mem_sum (c := c) h; simp; omega
theorem sum_le2 {α : Type} {c : α → Nat} : ∀ (l : List α), (l.map c).sum ≤ (l.map fun x => 1 + c x).sum
 | [] => by simp
 | x :: l => by have := sum_le2 (c := c) l; simp; omega
theorem rule_z {z : Bool} {r : TRule} {ts q : Toks} (h : ruleP z ts = some (r, q)) (hg : Small ts) (hl : ts.length ≤ 1048576) : SzRule r ∧ Small q ∧ q.length + 1 ≤ ts.length := by
 unfold ruleP at h
 obtain ⟨r0, h0, h⟩ := bind_some h
 obtain ⟨g0, l0⟩ := skip_z h0 hg
 obtain ⟨⟨w, r1⟩, h1, h⟩ := bind_some h
 obtain ⟨s1, g1, l1⟩ := word_z h1 g0
 obtain ⟨⟨n, r2⟩, h2, h⟩ := bind_some h
 obtain ⟨g2, l2⟩ := num_z h2 g1
 obtain ⟨r3, h3, h⟩ := bind_some h
 obtain ⟨g3, l3⟩ := skip_z h3 g2
 obtain ⟨⟨ps, r4⟩, h4, h⟩ := bind_some h
 obtain ⟨s4, g4, l4⟩ := many_z (c := fun p : TPat => 1 + p.Args.length) (fun ts x r => pat_z) _ _ _ _ h4 g3
 obtain ⟨⟨cs, r5⟩, h5, h⟩ := bind_some h
 obtain ⟨s5, g5, l5⟩ := conds_z h5 g4
 obtain ⟨r6, h6, h⟩ := bind_some h
 obtain ⟨g6, l6⟩ := skip_z h6 g5
 obtain ⟨⟨as, r7⟩, h7, h⟩ := bind_some h
 obtain ⟨s7, g7, l7⟩ := many_z (c := fun a : TAct => 1 + a.Args.length) (fun ts x r => act_z) _ _ _ _ h7 g6
 obtain ⟨r8, h8, h⟩ := bind_some h
 obtain ⟨g8, l8⟩ := skip_z h8 g7
 cases h
 have a1 := sum_ge1 (c := fun p : TPat => p.Args.length) ps
 have a2 := sum_le2 (c := fun p : TPat => p.Args.length) ps
 have a3 := sum_ge1 (c := fun a : TAct => a.Args.length) as
 have a4 := sum_le2 (c := fun a : TAct => a.Args.length) as
 refine ⟨⟨s1, ⟨by ((try dsimp only [List.length_nil, List.length_cons] at *); omega), fun p hp => ?_⟩, ⟨by ((try dsimp only [List.length_nil, List.length_cons] at *); omega), s5⟩, ⟨by ((try dsimp only [List.length_nil, List.length_cons] at *); omega), fun a ha => ?_⟩, ?_, by ((try dsimp only [List.length_nil, List.length_cons] at *); omega)⟩, g8, by ((try dsimp only [List.length_nil, List.length_cons] at *); omega)⟩
 ·rcases s4 p hp with h | h
  ·exact h
  ·have := mem_sum (c := fun p : TPat => p.Args.length) hp
   ((try dsimp only [List.length_nil, List.length_cons] at *); omega)
 ·have hs := s7 a ha
  have := mem_sum (c := fun a : TAct => a.Args.length) ha
  exact ⟨hs.1, hs.2.1, by ((try dsimp only [List.length_nil, List.length_cons] at *); omega), hs.2.2⟩
 ·exact Nat.le_trans a2 (by ((try dsimp only [List.length_nil, List.length_cons] at *); omega))
theorem rules_z {z : Bool} : ∀ (n : Nat) (ts : Toks) (l : List TRule), rulesP z n ts = some l → Small ts → ts.length ≤ 1048576 → (∀ r ∈ l, SzRule r) ∧ l.length ≤ ts.length
 | 0, ts, l, h, _, _ => by cases h
 | n + 1, [], l, h, _, _ => by
  simp only [rulesP] at h
  cases h
  exact ⟨by simp, by simp⟩
 | n + 1, t :: ts, l, h, hg, hl => by
  simp only [rulesP] at h
  obtain ⟨⟨r, q⟩, h1, h⟩ := bind_some h
  obtain ⟨s1, g1, l1⟩ := rule_z h1 hg hl
  obtain ⟨l', h2, h⟩ := bind_some h
  obtain ⟨s2, l2⟩ := rules_z n _ _ h2 g1 (by dsimp only at *; omega)
  cases h
  dsimp only at *
  refine ⟨fun x hx => ?_, by simp only [List.length_cons] at *; omega⟩
  rcases List.mem_cons.1 hx with rfl | hx
  ·exact s1
  ·exact s2 x hx
theorem def_z {z : Bool} {ts : Toks} {d : TDef} (h : defP z ts = some d) (hg : Small ts) (hl : ts.length ≤ 1048576) : SzDef d := by
 unfold defP at h
 obtain ⟨r0, h0, h⟩ := bind_some h
 obtain ⟨g0, l0⟩ := skip_z h0 hg
 obtain ⟨⟨w, r1⟩, h1, h⟩ := bind_some h
 obtain ⟨s1, g1, l1⟩ := word_z h1 g0
 obtain ⟨r2, h2, h⟩ := bind_some h
 obtain ⟨g2, l2⟩ := skip_z h2 g1
 obtain ⟨l, h3, h⟩ := bind_some h
 obtain ⟨s3, l3⟩ := rules_z _ _ _ h3 g2 (by ((try dsimp only [List.length_nil, List.length_cons] at *); omega))
 cases h
 exact ⟨s1, by ((try dsimp only [List.length_nil, List.length_cons] at *); omega), s3⟩
set_option maxRecDepth 100000
abbrev Dt (s : ByteArray) : Bs := s.data.toList
theorem scanB {β : Type} (xs : Bs) (hl : xs.length ≤ 4294967296) (f : Nat → Int → Option β) (p : UInt8 → Bool) (K : Int → Option β)
  (hs : ∀ k (i : Nat) y, i < xs.length → idx xs (i : Int) = some y → decide ((i : Int) < (xs.length : Int)) = true → IntKind.i64.wrap ((i : Int) + 1) = ((i + 1 : Nat) : Int) → f (k + 1) i = if p y = true then f k ((i + 1 : Nat) : Int) else K i)
  (he : ∀ k (i : Nat), decide ((i : Int) < (xs.length : Int)) = false → f (k + 1) i = K i) :
  ∀ (n i : Nat), i ≤ xs.length → xs.length - i < n → f n i = K ((i + ((xs.drop i).takeWhile p).length : Nat) : Int) := by
 intro n
 induction n with
 | zero => intro i _ h; omega
 | succ n ih =>
  intro i hi hn
  by_cases hlt : i < xs.length
  ·rw [List.drop_eq_getElem_cons hlt, List.takeWhile_cons, hs n i xs[i] hlt (idx_nat_lt hlt) (decide_eq_true (by omega)) (wr1 i (by omega))]
   split
   ·rw [ih (i + 1) (by omega) (by omega), List.length_cons]
    congr 2; omega
   ·rfl
  ·rw [he n i (decide_eq_false (by omega)), List.drop_of_length_le (by omega)]
   rfl
theorem drop_takeW {p : UInt8 → Bool} : ∀ (l : Bs), l.drop (l.takeWhile p).length = l.dropWhile p
 | [] => rfl
 | b :: l => by
  rw [List.takeWhile_cons, List.dropWhile_cons]
  split
  ·rw [List.length_cons, List.drop_succ_cons]; exact drop_takeW l
  ·rfl
theorem take_takeW {p : UInt8 → Bool} : ∀ (l : Bs), l.take (l.takeWhile p).length = l.takeWhile p
 | [] => rfl
 | b :: l => by
  rw [List.takeWhile_cons]
  split
  ·rw [List.length_cons, List.take_succ_cons, take_takeW l]
  ·rfl
theorem takeW_le {p : UInt8 → Bool} : ∀ (l : Bs), (l.takeWhile p).length ≤ l.length
 | [] => by simp
 | b :: l => by
  rw [List.takeWhile_cons]
  have := takeW_le (p := p) l
  split
  ·simp; omega
  ·simp
theorem sst_of {s : ByteArray} {a b : Nat} (h1 : a ≤ b) (h2 : b ≤ s.size) : sst s (a : Int) (b : Int) = some (bA (((Dt s).drop a).take (b - a))) := by
 unfold sst
 rw [if_pos ⟨by omega, by omega, by omega⟩]
 congr 1
 apply ByteArray.ext
 apply Array.toList_inj.1
 rw [ByteArray.data_extract, Array.toList_extract]
 simp [bA, List.extract]
theorem sst_run {s : ByteArray} {n : Nat} {p : UInt8 → Bool} (hn : n ≤ s.size) : sst s (n : Int) ((n + (((Dt s).drop n).takeWhile p).length : Nat) : Int) = some (bA (((Dt s).drop n).takeWhile p)) := by
 have h1 := takeW_le (p := p) ((Dt s).drop n)
 have h2 : (Dt s).length = s.size := rfl
 rw [List.length_drop] at h1
 rw [sst_of (by omega) (by omega), Nat.add_sub_cancel_left, take_takeW]
theorem seq_bA {a b : Bs} : seq (bA a) (bA b) = decide (a = b) := by
 rw [seq_eq]
 apply decide_eq_decide.2
 constructor
 ·intro h; have := congrArg (fun s : ByteArray => s.data.toList) h; exact this
 ·rintro rfl; rfl
theorem run_le {s : ByteArray} {n : Nat} {p : UInt8 → Bool} (hn : n ≤ s.size) : n + (((Dt s).drop n).takeWhile p).length ≤ s.size := by
 have h1 := takeW_le (p := p) ((Dt s).drop n)
 have h2 : (Dt s).length = s.size := rfl
 rw [List.length_drop] at h1
 omega
theorem run_drop {s : ByteArray} {n : Nat} {p : UInt8 → Bool} : (Dt s).drop (n + (((Dt s).drop n).takeWhile p).length) = ((Dt s).drop n).dropWhile p := by
 rw [← List.drop_drop, drop_takeW]
theorem at_drop {xs : Bs} {n : Nat} {b : UInt8} {l : Bs} (h : xs.drop n = b :: l) : n < xs.length ∧ idx xs (n : Int) = some b ∧ l.length + (n + 1) = xs.length ∧ xs.drop (n + 1) = l := by
 have h1 := dropLen h
 have hn : n < xs.length := by omega
 refine ⟨hn, ?_, h1, ?_⟩
 ·rw [idx_nat_lt hn]
  rw [List.drop_eq_getElem_cons hn] at h
  injection h with h _
  rw [h]
 ·rw [← List.drop_drop, h]; rfl
def OneAt (s : ByteArray) (n : Nat) (t : TToken) (e : Int) (ok : Bool) : Prop := match oneL ((Dt s).drop n) with
 | some (t', r) => ok = true ∧ t = t' ∧ ∃ n' : Nat, e = (n' : Int) ∧ n < n' ∧ n' ≤ s.size ∧ (Dt s).drop n' = r
 | none => ok = false
theorem OneAt.run {s : ByteArray} {n : Nat} {p : UInt8 → Bool} {b : UInt8} {l : Bs} {t : TToken} (hd : (Dt s).drop n = b :: l) (hb : p b = true) (h : oneL (b :: l) = ifOk t ((b :: l).dropWhile p)) :
  OneAt s n t ((n + (((Dt s).drop n).takeWhile p).length : Nat) : Int) (tokOk t) := by
 have hn : n ≤ s.size := by have := (at_drop hd).1; exact Nat.le_of_lt this
 unfold OneAt
 rw [hd, h]
 unfold ifOk
 split
 ·rename_i e
  split at e
  ·cases e
   refine ⟨by assumption, rfl, _, rfl, ?_, ?_, ?_⟩
   ·rw [List.takeWhile_cons, if_pos hb, List.length_cons]; omega
   ·have := run_le (s := s) (n := n) (p := p) hn; rwa [hd] at this
   ·have := run_drop (s := s) (n := n) (p := p); rwa [hd] at this
  ·cases e
 ·rename_i e
  split at e
  ·cases e
  ·rename_i c; simpa using c
theorem lexL_cons (b : UInt8) (l : Bs) : lexL (b :: l) = if blankB b = true then lexL l else if b = 37 then lexL ((b :: l).dropWhile fun y => y != 10) else (oneL (b :: l)).bind fun x => (lexL x.2).bind fun ts => some (x.1 :: ts) := by
 unfold lexL
 rw [List.length_cons, lexF]
 split
 ·rfl
 split
 ·rename_i c
  have := dropW_lt (p := fun y : UInt8 => y != 10) (b := b) (l := l) (by subst c; decide)
  rw [List.length_cons] at this
  exact lexF_irr _ _ _ (by omega) (by omega)
 ·cases h1 : oneL (b :: l) with
  | none => rfl
  | some x =>
   obtain ⟨t, r⟩ := x
   have := (oneL_lt h1).1
   rw [List.length_cons] at this
   simp only [Option.bind_some]
   rw [lexF_irr _ (r.length + 1) r (by omega) (by omega)]
def resL (s1 : Toks) (o : Option Toks) (p : Int) : Toks × Int := match o with
 | some ts => if s1.length + ts.length ≤ 3000 then (s1 ++ ts, -1) else ([], p)
 | none => ([], p)
theorem blank_nat {b : UInt8} : blankB b = (decide ((b.toNat : Int) = 32) || decide ((b.toNat : Int) = 9) || decide ((b.toNat : Int) = 10) || decide ((b.toNat : Int) = 13)) := all8 (p := fun b => blankB b = (decide ((b.toNat : Int) = 32) || decide ((b.toNat : Int) = 9) || decide ((b.toNat : Int) = 10) || decide ((b.toNat : Int) = 13))) (by decide) b
theorem rem_nat {b : UInt8} : decide ((b.toNat : Int) = 37) = decide (b = 37) := all8 (p := fun b => decide ((b.toNat : Int) = 37) = decide (b = 37)) (by decide) b
theorem nl_nat {b : UInt8} : (!decide ((b.toNat : Int) = 10)) = (b != 10) := all8 (p := fun b => (!decide ((b.toNat : Int) = 10)) = (b != 10)) (by decide) b
theorem resL_step {s : ByteArray} {n : Nat} {b : UInt8} {l : Bs} {t : TToken} {e : Int} {ok : Bool} (hd : (Dt s).drop n = b :: l) (hb : blankB b = false) (h37 : b ≠ 37) (h1 : OneAt s n t e ok) {s1 : Toks} (hs1 : s1.length ≤ 3000) :
  ((ok = false ∨ s1.length = 3000) → ∀ p, resL s1 (lexL ((Dt s).drop n)) p = ([], p)) ∧
  (ok = true → s1.length ≠ 3000 → ∃ n' : Nat, e = (n' : Int) ∧ n < n' ∧ n' ≤ s.size ∧ ∀ p, resL s1 (lexL ((Dt s).drop n)) p = resL (s1 ++ [t]) (lexL ((Dt s).drop n')) p) := by
 have hL : lexL ((Dt s).drop n) = (oneL ((Dt s).drop n)).bind fun x => (lexL x.2).bind fun ts => some (x.1 :: ts) := by
  rw [hd, lexL_cons, if_neg (by rw [hb]; simp), if_neg h37]
 rw [hL]
 unfold OneAt at h1
 cases ho : oneL ((Dt s).drop n) with
 | none =>
  rw [ho] at h1
  simp only at h1
  subst h1
  exact ⟨fun _ p => rfl, fun h => by cases h⟩
 | some x =>
  obtain ⟨t', r⟩ := x
  rw [ho] at h1
  obtain ⟨rfl, rfl, n', rfl, h2, h3, rfl⟩ := h1
  simp only [Option.bind_some]
  refine ⟨fun h p => ?_, fun _ h => ⟨n', rfl, h2, h3, fun p => ?_⟩⟩
  ·rcases h with h | h
   ·cases h
   ·cases lexL ((Dt s).drop n') with
    | none => rfl
    | some ts =>
     simp only [Option.bind_some, resL]
     rw [if_neg (by rw [List.length_cons]; omega)]
  ·cases lexL ((Dt s).drop n') with
   | none => rfl
   | some ts =>
    simp only [Option.bind_some, resL]
    by_cases hc : s1.length + (t :: ts).length ≤ 3000
    ·rw [if_pos hc, if_pos (by simp at hc ⊢; omega)]
     simp
    ·rw [if_neg hc, if_neg (by simp at hc ⊢; omega)]
set_option maxRecDepth 100000
theorem runEnd_i {N : Nat} (hN : 1099000000000 ≤ N) (s : ByteArray) (hs : s.size ≤ 1048576) (p : UInt8 → Bool) (f : Int → Option Bool) (hf : ∀ y : UInt8, f (y.toNat : Int) = some (p y)) (n : Nat) (hn : n ≤ s.size) :
  m_i_runEnd N s n f = some ((n + (((Dt s).drop n).takeWhile p).length : Nat) : Int) := by
 have hsz : s.size = (Dt s).length := rfl
 refine scanB (Dt s) (by omega) (fun k i => m_i_runEnd_l1 N s f k i) p some (fun k i y hi hx hc hw => ?_) (fun k i hc => ?_) N n (by omega) (by omega)
 ·rw [← hsz] at hc
  simp only [m_i_runEnd_l1, hc, if_true, hx, Option.bind_some, hf, hw]
 ·rw [← hsz] at hc
  simp only [m_i_runEnd_l1, hc, Bool.false_eq_true, if_false, Option.bind_some]
theorem digit_i (N : Nat) (y : UInt8) : m_i_isDigit N (y.toNat : Int) = some (digitB y) := by
 unfold m_i_isDigit digitB
 cases decide (48 ≤ (y.toNat : Int)) <;> rfl
theorem small_i (N : Nat) (y : UInt8) : m_i_isSmall N (y.toNat : Int) = some (small y) := by
 unfold m_i_isSmall small
 cases decide (97 ≤ (y.toNat : Int)) <;> rfl
theorem wide_i (N : Nat) (y : UInt8) : m_i_tokenAt_c1 N (y.toNat : Int) = some (wide y) := by
 unfold m_i_tokenAt_c1 wide
 rw [letter_i, Option.bind_some]
 cases letter y
 ·simp only [Bool.false_eq_true, if_false, large_i, Option.bind_some, Bool.false_or]
 ·simp only [if_true, Option.bind_some, Bool.true_or]
theorem mark_i (N : Nat) (s : ByteArray) : m_i_isMark N s = some (markB s) := by
 unfold m_i_isMark markB
 simp only [seq_eq]
 generalize decide (s = ⟨#[40]⟩) = b0
 generalize decide (s = ⟨#[41]⟩) = b1
 generalize decide (s = ⟨#[44]⟩) = b2
 generalize decide (s = ⟨#[46]⟩) = b3
 generalize decide (s = ⟨#[58]⟩) = b4
 generalize decide (s = ⟨#[45, 62]⟩) = b5
 generalize decide (s = ⟨#[45]⟩) = b6
 generalize decide (s = ⟨#[43]⟩) = b7
 generalize decide (s = ⟨#[61]⟩) = b8
 generalize decide (s = ⟨#[35]⟩) = b9
 generalize decide (s = ⟨#[60]⟩) = b10
 generalize decide (s = ⟨#[33]⟩) = b11
 generalize decide (s = ⟨#[95]⟩) = b12
 cases b0
 case true => rfl
 cases b1
 case true => rfl
 cases b2
 case true => rfl
 cases b3
 case true => rfl
 cases b4
 case true => rfl
 cases b5
 case true => rfl
 cases b6
 case true => rfl
 cases b7
 case true => rfl
 cases b8
 case true => rfl
 cases b9
 case true => rfl
 cases b10
 case true => rfl
 cases b11
 case true => rfl
 cases b12 <;> rfl
theorem tokOk_i {N : Nat} (hN : 1099000000000 ≤ N) (t : TToken) (hs : t.S.size ≤ 1048576) : m_i_TokenOk N t = some (tokOk t) := by
 unfold m_i_TokenOk tokOk
 simp only [in1, okName_i hN _ hs, var_i hN _ hs, word_i (show 1048578 ≤ N by omega) _ _ hs, mark_i, Option.bind_some, decide_eq_true_eq]
 split
 ·cases (decide (0 ≤ t.N) && decide (t.N ≤ 1000000000)) <;> simp
 split
 ·by_cases h : t.N = 0 <;> simp [h]
 split
 ·by_cases h : t.N = 0 <;> simp [h]
 split
 ·by_cases h : t.N = 0 <;> simp [h]
 split
 ·by_cases h : t.N = 0 <;> simp [h]
 ·rfl
theorem itoa_i' {N : Nat} {n : Int} (h0 : -9223372036854775808 ≤ n) (h1 : n ≤ 9223372036854775807) : m_strconv_Itoa N n = some (bA (Go.Lib.itoa n)) := by unfold m_strconv_Itoa; rw [if_pos ⟨h0, h1⟩]; rfl
theorem digits_val {l : Bs} (h : ∀ b ∈ l, digitB b = true) : ∃ m, Go.Lib.decFrom 0 l = some m := by
 have key : ∀ (l : Bs) (a : Nat), (∀ b ∈ l, digitB b = true) → ∃ m, Go.Lib.decFrom a l = some m := by
  intro l
  induction l with
  | nil => intro a _; exact ⟨a, rfl⟩
  | cons b l ih =>
   intro a h
   have hb := h b (by simp)
   have hd : ∃ d, Go.Lib.digitVal b = some d := by
    have : ∀ b : UInt8, digitB b = true → (Go.Lib.digitVal b).isSome = true := all8 (by decide)
    exact Option.isSome_iff_exists.1 (this b hb)
   obtain ⟨d, hd⟩ := hd
   simp only [Go.Lib.decFrom, hd]
   exact ih _ fun c hc => h c (by simp [hc])
 exact key l 0 h
theorem trim_i {N : Nat} {b : UInt8} {l : Bs} (hb : digitB b = true) : m_strings_TrimPrefix N (bA (b :: l)) ⟨#[45]⟩ = some (bA (b :: l)) := by
 have hne : b ≠ 45 := by rintro rfl; exact absurd hb (by decide)
 unfold m_strings_TrimPrefix m_internal_stringslite_TrimPrefix m_internal_stringslite_HasPrefix
 have c : decide ((((⟨#[45]⟩ : ByteArray).size : Nat) : Int) ≤ ((bA (b :: l)).size : Int)) = true := decide_eq_true (by show (1 : Int) ≤ (((b :: l).length : Nat) : Int); simp; omega)
 have hz : sst (bA (b :: l)) 0 (((⟨#[45]⟩ : ByteArray).size : Nat) : Int) = some (bA [b]) := by
  have := sst_of (s := bA (b :: l)) (a := 0) (b := 1) (by omega) (by show 1 ≤ (b :: l).length; simp)
  exact this
 have hq : seq (bA [b]) ⟨#[45]⟩ = false := by
  have : seq (bA [b]) (bA [45]) = false := by rw [seq_bA]; simp [hne]
  exact this
 simp only [c, if_true, hz, Option.bind_some, hq, Bool.false_eq_true, if_false]
theorem number_i {N : Nat} {l : Bs} (h : ∀ b ∈ l, digitB b = true) (h0 : l ≠ []) (hl : l.length ≤ 1048576) :
  ∃ n, m_i_parseNumber N (bA l) 10 = some (n, (numOf l).isSome) ∧ (∀ m, numOf l = some m → n = m) := by
 obtain ⟨m, hm⟩ := digits_val h
 have ha := atoi_digits h h0
 rw [hm] at ha
 simp only [Option.map_some] at ha
 cases hc : l with
 | nil => exact absurd hc h0
 | cons b l' =>
  rw [hc] at h ha hl
  unfold m_i_parseNumber numOf
  rw [trim_i (h b (by simp)), Option.bind_some]
  have e1 : decide ((((bA (b :: l')).size : Nat) : Int) < 1) = false := decide_eq_false (by show ¬ (((b :: l').length : Nat) : Int) < 1; simp; omega)
  simp only [e1, Bool.false_eq_true, if_false, Option.bind_some]
  by_cases h10 : (b :: l').length ≤ 10
  ·have e2 : decide ((10 : Int) < (((bA (b :: l')).size : Nat) : Int)) = false := decide_eq_false (by show ¬ (10 : Int) < (((b :: l').length : Nat) : Int); omega)
   have e3 : m_strconv_Atoi N (bA (b :: l')) = some (m : Int) := by unfold m_strconv_Atoi; rw [if_pos (by show (b :: l').length ≤ 18; omega)]; exact ha
   have hlt := Go.Lib.decFrom_lt18 (by rw [← hc]; exact hm) (show (b :: l').length ≤ 18 by omega)
   simp only [e2, Bool.false_eq_true, if_false, if_true, e3, Option.bind_some, itoa_i' (N := N) (n := (m : Int)) (by omega) (by omega), h10, ha]
   rw [seq_bA]
   by_cases hi : Go.Lib.itoa (m : Int) = b :: l'
   ·rw [if_pos hi, decide_eq_true hi]
    exact ⟨_, rfl, fun k hk => by cases hk; rfl⟩
   ·rw [if_neg hi, decide_eq_false hi]
    exact ⟨_, rfl, fun k hk => by cases hk⟩
  ·have e2 : decide ((10 : Int) < (((bA (b :: l')).size : Nat) : Int)) = true := decide_eq_true (by show (10 : Int) < (((b :: l').length : Nat) : Int); omega)
   simp only [e2, if_true, h10, if_false, Option.bind_some]
   exact ⟨0, rfl, fun m hm => by cases hm⟩
theorem takeW_all {p : UInt8 → Bool} : ∀ (l : Bs), ∀ b ∈ l.takeWhile p, p b = true
 | [], b, h => by simp at h
 | c :: l, b, h => by
  rw [List.takeWhile_cons] at h
  split at h
  ·rename_i hc
   rcases List.mem_cons.1 h with rfl | h
   ·exact hc
   ·exact takeW_all l b h
  ·cases h
theorem ib_i {N : Nat} {l : Bs} : m_strings_IndexByte N (bA l) 39 = some (if 39 ∈ l then ((l.takeWhile fun y => y != 39).length : Int) else -1) := by
 unfold m_strings_IndexByte
 congr 1
 show Go.Lib.indexByte l 39 = _
 induction l with
 | nil => rfl
 | cons b l ih =>
  unfold Go.Lib.indexByte
  rw [ih]
  by_cases hb : b = 39
  ·subst hb
   simp
  ·have h1 : (b == 39) = false := by simpa using hb
   have h2 : (b != 39) = true := by simpa using hb
   rw [h1, List.takeWhile_cons, if_pos h2]
   by_cases hm : 39 ∈ l
   ·have hm2 : 39 ∈ b :: l := by simp [hm]
    have : ((((l.takeWhile fun y => y != 39).length : Nat) : Int) == -1) = false := by
     rw [beq_eq_false_iff_ne]; omega
    simp only [Bool.false_eq_true, if_false, hm, hm2, if_true, this, List.length_cons]
    omega
   ·have hm2 : ¬ 39 ∈ b :: l := by simp [hm, Ne.symm hb]
    simp only [hm, hm2, if_false, Bool.false_eq_true]
    rfl
theorem dropW_q {l : Bs} : (39 ∈ l → ∃ r, l.dropWhile (fun y => y != 39) = 39 :: r) ∧ (39 ∉ l → l.dropWhile (fun y => y != 39) = []) := by
 induction l with
 | nil => exact ⟨fun h => (by cases h), fun _ => rfl⟩
 | cons b l ih =>
  by_cases hb : b = 39
  ·subst hb
   exact ⟨fun _ => ⟨l, by simp⟩, fun h => by simp at h⟩
  ·have h2 : (b != 39) = true := by simpa using hb
   rw [List.dropWhile_cons, if_pos h2]
   exact ⟨fun h => ih.1 (by rcases List.mem_cons.1 h with e | h; exact absurd e.symm hb; exact h), fun h => ih.2 fun hm => h (by simp [hm])⟩
theorem has_i {N : Nat} {l : Bs} : m_strings_HasPrefix N (bA l) ⟨#[45, 62]⟩ = some (decide (l.take 2 = [45, 62])) := by
 unfold m_strings_HasPrefix m_internal_stringslite_HasPrefix
 by_cases h : 2 ≤ l.length
 ·have c : decide ((((⟨#[45, 62]⟩ : ByteArray).size : Nat) : Int) ≤ ((bA l).size : Int)) = true := decide_eq_true (by show (2 : Int) ≤ ((l.length : Nat) : Int); omega)
  have hz : sst (bA l) 0 (((⟨#[45, 62]⟩ : ByteArray).size : Nat) : Int) = some (bA (l.take 2)) := sst_of (s := bA l) (a := 0) (b := 2) (by omega) h
  have hq : seq (bA (l.take 2)) ⟨#[45, 62]⟩ = decide (l.take 2 = [45, 62]) := seq_bA (b := [45, 62])
  simp only [c, if_true, hz, Option.bind_some, hq]
 ·have c : decide ((((⟨#[45, 62]⟩ : ByteArray).size : Nat) : Int) ≤ ((bA l).size : Int)) = false := decide_eq_false (by show ¬ (2 : Int) ≤ ((l.length : Nat) : Int); omega)
  have h2 : ¬ l.take 2 = [45, 62] := fun e => by have := congrArg List.length e; simp at this; omega
  simp only [c, Bool.false_eq_true, if_false, Option.bind_some, h2, decide_false]
theorem sst_from {s : ByteArray} {n : Nat} (h : n ≤ s.size) : sst s (n : Int) (s.size : Int) = some (bA ((Dt s).drop n)) := by
 rw [sst_of h (Nat.le_refl _), List.take_of_length_le (by rw [List.length_drop]; exact Nat.le_refl _)]
theorem run_len_le {s : ByteArray} {n : Nat} {p : UInt8 → Bool} (hs : s.size ≤ 1048576) : (bA (((Dt s).drop n).takeWhile p)).size ≤ 1048576 := by
 show (((Dt s).drop n).takeWhile p).length ≤ _
 have h1 := takeW_le (p := p) ((Dt s).drop n)
 have : (Dt s).length = s.size := rfl
 rw [List.length_drop] at h1; omega
theorem tokenAt_i {N : Nat} (hN : 1099000000000 ≤ N) (s : ByteArray) (hs : s.size ≤ 1048576) (n : Nat) (b : UInt8) (l : Bs) (hd : (Dt s).drop n = b :: l) :
  ∃ t e ok, m_i_tokenAt N s n = some (t, e, ok) ∧ OneAt s n t e ok := by
 obtain ⟨hn, hx, hlen, hd1⟩ := at_drop hd
 have hsz : (Dt s).length = s.size := rfl
 have hn' : n ≤ s.size := by omega
 unfold m_i_tokenAt
 rw [hx, Option.bind_some, digit_i, Option.bind_some]
 by_cases c1 : digitB b = true
 ·rw [if_pos c1, runEnd_i hN s hs digitB _ (digit_i N) n hn', Option.bind_some, sst_run hn', Option.bind_some]
  obtain ⟨v, hv, hv2⟩ := number_i (N := N) (l := ((Dt s).drop n).takeWhile digitB) (takeW_all _) (by rw [hd, List.takeWhile_cons, if_pos c1]; simp) (by have := run_len_le (n := n) (p := digitB) hs; exact this)
  rw [hv, Option.bind_some]
  cases hm : numOf (((Dt s).drop n).takeWhile digitB) with
  | none =>
   simp only [Option.isSome_none, Bool.false_eq_true, if_false]
   refine ⟨_, _, _, rfl, ?_⟩
   unfold OneAt
   rw [hd] at hm ⊢
   simp only [oneL, c1, if_true, hm, Option.bind_none]
  | some w =>
   have := hv2 w hm
   subst this
   simp only [Option.isSome_some, if_true, tokOk_i hN ⟨1, v, ⟨#[]⟩⟩ (by show 0 ≤ 1048576; omega), Option.bind_some]
   refine ⟨_, _, _, rfl, ?_⟩
   have h1 : oneL (b :: l) = ifOk (inT v) ((b :: l).dropWhile digitB) := by
    rw [hd] at hm
    simp only [oneL, c1, if_true, hm, Option.bind_some]
   exact OneAt.run hd c1 h1
 rw [if_neg c1, small_i, Option.bind_some]
 by_cases c2 : small b = true
 ·rw [if_pos c2, runEnd_i hN s hs letter _ (letter_i N) n hn', Option.bind_some, sst_run hn', Option.bind_some, tokOk_i hN _ (run_len_le hs), Option.bind_some]
  refine ⟨_, _, _, rfl, ?_⟩
  refine OneAt.run hd (small_letter c2) ?_
  simp only [oneL, c1, c2, Bool.false_eq_true, if_false, if_true, hd]
  rfl
 rw [if_neg c2, large_i, Option.bind_some]
 by_cases c3 : large b = true
 ·rw [if_pos c3, runEnd_i hN s hs wide _ (wide_i N) n hn', Option.bind_some, sst_run hn', Option.bind_some, tokOk_i hN _ (run_len_le hs), Option.bind_some]
  refine ⟨_, _, _, rfl, ?_⟩
  refine OneAt.run hd (by unfold wide; simp [c3]) ?_
  simp only [oneL, c1, c2, c3, Bool.false_eq_true, if_false, if_true, hd]
 rw [if_neg c3]
 have hw : IntKind.i64.wrap ((n : Int) + 1) = ((n + 1 : Nat) : Int) := wr1 n (by omega)
 by_cases c4 : b = 39
 ·subst c4
  have e4 : decide (((39 : UInt8).toNat : Int) = 39) = true := by decide
  rw [if_pos e4, hw, sst_from (by omega), Option.bind_some, hd1, ib_i, Option.bind_some]
  by_cases hm : 39 ∈ l
  ·obtain ⟨r, hr⟩ := dropW_q.1 hm
   have hle := takeW_le (p := fun y => y != 39) l
   have e5 : decide ((if 39 ∈ l then ((l.takeWhile fun y => y != 39).length : Int) else -1) < 0) = false := decide_eq_false (by rw [if_pos hm]; omega)
   have hlt : (l.takeWhile fun y => y != 39).length < l.length := by
    have := congrArg List.length (drop_takeW (p := fun y => y != 39) l)
    rw [hr, List.length_drop, List.length_cons] at this; omega
   have w1 : IntKind.i64.wrap (((n + 1 : Nat) : Int) + ((l.takeWhile fun y => y != 39).length : Int)) = ((n + 1 + (l.takeWhile fun y => y != 39).length : Nat) : Int) := by rw [wr (by omega) (by omega)]; omega
   have w2 : IntKind.i64.wrap ((n : Int) + ((l.takeWhile fun y => y != 39).length : Int)) = ((n + (l.takeWhile fun y => y != 39).length : Nat) : Int) := by rw [wr (by omega) (by omega)]; omega
   have w3 : IntKind.i64.wrap (((n + (l.takeWhile fun y => y != 39).length : Nat) : Int) + 2) = ((n + (l.takeWhile fun y => y != 39).length + 2 : Nat) : Int) := by rw [wr (by omega) (by omega)]; omega
   have hz := sst_run (s := s) (n := n + 1) (p := fun y => y != 39) (by omega)
   rw [hd1] at hz
   rw [e5]
   simp only [Bool.false_eq_true, if_false, if_pos hm, w1, w2, w3, hz, Option.bind_some, tokOk_i hN ⟨4, 0, bA (l.takeWhile fun y => y != 39)⟩ (by show (l.takeWhile fun y => y != 39).length ≤ _; omega)]
   refine ⟨_, _, _, rfl, ?_⟩
   have h1 : oneL (39 :: l) = ifOk ⟨4, 0, bA (l.takeWhile fun y => y != 39)⟩ r := by
    simp only [oneL, c1, c2, c3, Bool.false_eq_true, if_false, if_true, hr]
   unfold OneAt
   rw [hd, h1]
   unfold ifOk
   by_cases ho : tokOk ⟨4, 0, bA (l.takeWhile fun y => y != 39)⟩ = true
   ·rw [if_pos ho]
    refine ⟨ho, rfl, _, rfl, by omega, by omega, ?_⟩
    have e6 : (Dt s).drop (n + 1 + (l.takeWhile fun y => y != 39).length) = 39 :: r := by
     rw [← List.drop_drop, hd1, drop_takeW, hr]
    rw [show n + (l.takeWhile fun y => y != 39).length + 2 = (n + 1 + (l.takeWhile fun y => y != 39).length) + 1 by omega, ← List.drop_drop, e6]
    rfl
   ·rw [if_neg ho]
    simpa using ho
  ·have e5 : decide ((if 39 ∈ l then ((l.takeWhile fun y => y != 39).length : Int) else -1) < 0) = true := decide_eq_true (by rw [if_neg hm]; omega)
   rw [if_pos e5]
   refine ⟨_, _, _, rfl, ?_⟩
   unfold OneAt
   rw [hd]
   simp only [oneL, c1, c2, c3, Bool.false_eq_true, if_false, if_true, dropW_q.2 hm]
 have e4 : decide ((b.toNat : Int) = 39) = false := decide_eq_false fun e => c4 (UInt8.toNat_inj.1 (by show b.toNat = 39; omega))
 rw [if_neg (by rw [e4]; simp), sst_from hn', Option.bind_some, has_i, Option.bind_some, hd]
 have w2 : IntKind.i64.wrap ((n : Int) + 2) = ((n + 2 : Nat) : Int) := by rw [wr (by omega) (by omega)]; omega
 by_cases c5 : b = 45 ∧ l.head? = some 62
 ·obtain ⟨rfl, h62⟩ := c5
  cases l with
  | nil => cases h62
  | cons c l =>
   simp only [List.head?_cons, Option.some.injEq] at h62
   subst h62
   simp only [List.length_cons] at hlen
   have hz : sst s (n : Int) ((n + 2 : Nat) : Int) = some ⟨#[45, 62]⟩ := by
    rw [sst_of (by omega) (by omega), hd, Nat.add_sub_cancel_left]
    rfl
   rw [if_pos (by simp), w2]
   unfold m_i_tokenAt_j1
   rw [hz, Option.bind_some, tokOk_i hN _ (by show 2 ≤ 1048576; omega), Option.bind_some]
   refine ⟨_, _, _, rfl, ?_⟩
   unfold OneAt
   rw [hd]
   simp only [oneL, c1, c2, c3, c4, Bool.false_eq_true, if_false, List.head?_cons, and_self, if_true]
   rw [ifOk, if_pos (by decide)]
   refine ⟨by decide, rfl, _, rfl, by omega, by omega, ?_⟩
   rw [← List.drop_drop, hd]
   rfl
 ·have h2 : ¬ (b :: l).take 2 = [45, 62] := by
   intro e
   cases l with
   | nil => simp at e
   | cons c l => simp at e; exact c5 ⟨e.1, by simp [e.2]⟩
  have hz : sst s (n : Int) ((n + 1 : Nat) : Int) = some (bA [b]) := by
   rw [sst_of (by omega) (by omega), hd, Nat.add_sub_cancel_left]
   rfl
  rw [if_neg (by simpa using h2), hw]
  unfold m_i_tokenAt_j1
  rw [hz, Option.bind_some, tokOk_i hN _ (by show 1 ≤ 1048576; omega), Option.bind_some]
  refine ⟨_, _, _, rfl, ?_⟩
  have h1 : oneL (b :: l) = ifOk (mkT (bA [b])) l := by
   simp only [oneL, c1, c2, c3, c4, c5, Bool.false_eq_true, if_false]
  unfold OneAt
  rw [hd, h1]
  unfold ifOk
  by_cases ho : tokOk (mkT (bA [b])) = true
  ·rw [if_pos ho]
   exact ⟨ho, rfl, _, rfl, by omega, by omega, hd1⟩
  ·rw [if_neg ho]
   exact (Bool.not_eq_true _).mp ho
theorem lex_i1 {N : Nat} (hN : 1099000000000 ≤ N) (s : ByteArray) (hs : s.size ≤ 1048576) : ∀ (k n : Nat) (s1 : Toks), n ≤ s.size → s.size - n < k → s1.length ≤ 3000 →
  ∃ p, 0 ≤ p ∧ m_i_Lex_l1 N s k s1 (n : Int) = some (resL s1 (lexL ((Dt s).drop n)) p) := by
 have hsz : (Dt s).length = s.size := rfl
 intro k
 induction k with
 | zero => intro n s1 _ h; omega
 | succ k ih =>
  intro n s1 hn hk hs1
  cases hd : (Dt s).drop n with
  | nil =>
   have : n = s.size := by have := congrArg List.length hd; rw [List.length_drop] at this; simp at this; omega
   have c : decide ((n : Int) < (s.size : Int)) = false := decide_eq_false (by omega)
   refine ⟨0, by omega, ?_⟩
   simp only [m_i_Lex_l1, c, Bool.false_eq_true, if_false]
   show some (s1, -1) = some (resL s1 (some []) 0)
   unfold resL
   simp only [List.length_nil, Nat.add_zero, hs1, if_true, List.append_nil]
  | cons b l =>
   obtain ⟨h1, hx, hlen, hd1⟩ := at_drop hd
   have c : decide ((n : Int) < (s.size : Int)) = true := decide_eq_true (by omega)
   have hw : IntKind.i64.wrap ((n : Int) + 1) = ((n + 1 : Nat) : Int) := wr1 n (by omega)
   have ihb := ih (n + 1) s1 (by omega) (by omega) hs1
   rw [hd1] at ihb
   simp only [m_i_Lex_l1, c, if_true, hx, Option.bind_some]
   have hbl := @blank_nat b
   have hL1 : blankB b = true → lexL (b :: l) = lexL l := fun h => by rw [lexL_cons, if_pos h]
   by_cases c1 : decide ((b.toNat : Int) = 32) = true
   ·rw [hL1 (by rw [hbl, c1]; rfl), if_pos c1, c1]
    simp only [m_i_Lex_j2, if_true, hw]
    exact ihb
   by_cases c2 : decide ((b.toNat : Int) = 9) = true
   ·rw [hL1 (by rw [hbl, c2]; simp), if_neg c1, if_pos c2, c2]
    simp only [m_i_Lex_j2, if_true, hw]
    exact ihb
   by_cases c3 : decide ((b.toNat : Int) = 10) = true
   ·rw [hL1 (by rw [hbl, c3]; simp), if_neg c1, if_neg c2, if_pos c3, c3]
    simp only [m_i_Lex_j2, if_true, hw]
    exact ihb
   rw [if_neg c1, if_neg c2, if_neg c3]
   by_cases c4 : decide ((b.toNat : Int) = 13) = true
   ·rw [hL1 (by rw [hbl, c4]; simp), c4]
    simp only [m_i_Lex_j2, if_true, hw]
    exact ihb
   have hb : blankB b = false := by
    rw [hbl]
    simp only [Bool.not_eq_true] at c1 c2 c3 c4
    rw [c1, c2, c3, c4]; rfl
   simp only [Bool.not_eq_true] at c4
   rw [c4]
   simp only [m_i_Lex_j2, Bool.false_eq_true, if_false, rem_nat]
   by_cases c5 : b = 37
   ·have hL2 : lexL (b :: l) = lexL ((b :: l).dropWhile fun y => y != 10) := by rw [lexL_cons, if_neg (by rw [hb]; simp), if_pos c5]
    rw [hL2, if_pos (decide_eq_true c5), runEnd_i hN s hs (fun y => y != 10) _ (fun y => by unfold m_i_Lex_c1; rw [nl_nat]) n hn, Option.bind_some]
    have hr := run_le (s := s) (n := n) (p := fun y => y != 10) hn
    have hpos : 0 < (((Dt s).drop n).takeWhile fun y => y != 10).length := by rw [hd, List.takeWhile_cons, if_pos (by subst c5; decide)]; simp
    have := ih _ s1 hr (by omega) hs1
    rw [run_drop, hd] at this
    rw [hd]
    exact this
   ·rw [if_neg (by simpa using c5)]
    obtain ⟨t, e, ok, ht, ho⟩ := tokenAt_i hN s hs n b l hd
    obtain ⟨r1, r2⟩ := resL_step hd hb c5 ho hs1
    rw [hd] at r1 r2
    rw [ht, Option.bind_some]
    simp only
    cases ok with
    | false =>
     refine ⟨n, by omega, ?_⟩
     rw [r1 (.inl rfl)]
     rfl
    | true =>
     by_cases h3 : s1.length = 3000
     ·refine ⟨n, by omega, ?_⟩
      rw [r1 (.inr h3)]
      have : decide ((s1.length : Int) = 3000) = true := decide_eq_true (by omega)
      simp only [Bool.not_true, Bool.false_eq_true, if_false, this, Option.bind_some, if_true]
     ·obtain ⟨n', rfl, g1, g2, g3⟩ := r2 rfl h3
      have : decide ((s1.length : Int) = 3000) = false := decide_eq_false (by omega)
      obtain ⟨p, hp, he⟩ := ih n' (s1 ++ [t]) g2 (by omega) (by simp; omega)
      refine ⟨p, hp, ?_⟩
      rw [g3]
      simp only [Bool.not_true, Bool.false_eq_true, if_false, this, Option.bind_some, app_ok (show s1.length + [t].length ≤ 4294967296 by simp; omega)]
      exact he
theorem lex_i {N : Nat} (hN : 1099000000000 ≤ N) (s : ByteArray) (hs : s.size ≤ 1048576) : ∃ p, 0 ≤ p ∧ m_i_Lex N s = some (match lexR s with | some ts => (ts, -1) | none => ([], p)) := by
 obtain ⟨p, hp, h⟩ := lex_i1 hN s hs N 0 [] (by omega) (by omega) (by simp)
 refine ⟨p, hp, ?_⟩
 unfold m_i_Lex
 rw [show ((0 : Nat) : Int) = 0 from rfl] at h
 rw [h, List.drop_zero]
 unfold lexR resL
 cases lexL (Dt s) with
 | none => rfl
 | some ts =>
  simp only [Option.bind_some, List.length_nil, Nat.zero_add, List.nil_append]
  by_cases hc : ts.length ≤ 3000
  ·rw [if_pos hc, if_pos hc]
  ·rw [if_neg hc, if_neg hc]
theorem cat_ok {x y : ByteArray} (h : x.size + y.size ≤ 9223372036854775807) : cat x y = some (x ++ y) := by unfold cat; rw [if_pos h]
def num (n : Int) : ByteArray := ⟨(Go.Lib.itoa n).toArray⟩
theorem itoa_i {N : Nat} {n : Int} (h0 : -9223372036854775808 ≤ n) (h1 : n ≤ 9223372036854775807) : m_strconv_Itoa N n = some (num n) := by unfold m_strconv_Itoa; rw [if_pos ⟨h0, h1⟩]; rfl
theorem digits_len : ∀ (k u : Nat), u < 10 ^ (k + 1) → (Go.Lib.decDigits u).length ≤ k + 1
 | 0, u, h => by rw [Go.Lib.decDigits, dif_pos (by simpa using h)]; simp
 | k + 1, u, h => by
  rw [Go.Lib.decDigits]
  split
  ·simp
  ·have := digits_len k (u / 10) (by rw [Nat.pow_succ] at h; omega)
   simp; omega
theorem num_len {n : Int} (h0 : -1000000000 ≤ n) (h1 : n ≤ 1000000000) : (num n).size ≤ 14 := by
 show (Go.Lib.itoa n).toArray.size ≤ 14
 unfold Go.Lib.itoa
 split
 ·have := digits_len 12 n.natAbs (by omega); simp; omega
 ·have := digits_len 12 n.toNat (by omega); simp; omega
def valText (v : TVal) : ByteArray := if v.K = 1 then num v.N else (⟨#[39]⟩ ++ v.S) ++ ⟨#[39]⟩
theorem valText_len {v : TVal} (h : okVal v = true) : (valText v).size ≤ 30 := by
 unfold okVal at h
 unfold valText
 split
 ·rename_i k; rw [if_pos k] at h; simp only [Bool.and_eq_true, decide_eq_true_eq] at h
  have := num_len h.1.1 h.1.2; omega
 ·rename_i k; rw [if_neg k] at h
  split at h
  ·simp only [Bool.and_eq_true, decide_eq_true_eq] at h
   have h2 := h.2.2
   simp only [ByteArray.size_append]
   show 1 + v.S.size + 1 ≤ 30
   omega
  ·cases h
theorem valN {v : TVal} (h : okVal v = true) (k : v.K = 1) : -1000000000 ≤ v.N ∧ v.N ≤ 1000000000 := by
 unfold okVal at h
 rw [if_pos k] at h; simp only [Bool.and_eq_true, decide_eq_true_eq] at h
 exact h.1
theorem quote_ok (s : ByteArray) (h : s.size ≤ 1048576) {β : Type} (f : ByteArray → Option β) : ((cat ⟨#[39]⟩ s).bind fun z1 => (cat z1 ⟨#[39]⟩).bind f) = f ((⟨#[39]⟩ ++ s) ++ ⟨#[39]⟩) := by
 rw [cat_ok (by show 1 + _ ≤ _; omega), Option.bind_some, cat_ok (by rw [ByteArray.size_append]; show 1 + _ + 1 ≤ _; omega), Option.bind_some]
theorem valT_i {N : Nat} (hN : 1099000000000 ≤ N) (v : TVal) (hs : v.S.size ≤ 1048576) (h : okVal v = true) : m_i_ValText N v = some (valText v) := by
 unfold m_i_ValText valText
 rw [val_i (by omega) v hs, h, Option.bind_some]
 by_cases k : v.K = 1
 ·obtain ⟨h0, h1⟩ := valN h k
  simp only [k, decide_true, Bool.not_true, Bool.false_eq_true, if_false, if_true, itoa_i (N := N) (show -9223372036854775808 ≤ v.N by omega) (show v.N ≤ 9223372036854775807 by omega), Option.bind_some]
 ·simp only [k, decide_false, Bool.not_true, Bool.false_eq_true, if_false]
  exact quote_ok v.S hs some
def argText (a : TArg) : ByteArray := if a.K = 1 then a.S else if a.K = 2 then valText a.V else ⟨#[95]⟩
theorem argVal {a : TArg} (h : okArg a = true) (k : a.K = 2) : okVal a.V = true := by
 unfold okArg at h
 rw [if_neg (by omega), if_pos k] at h
 simp only [Bool.and_eq_true] at h; exact h.1
theorem argT_i {N : Nat} (hN : 1099000000000 ≤ N) (a : TArg) (hs : SzArg a) (h : okArg a = true) : m_i_argText N a = some (argText a) := by
 unfold m_i_argText argText
 by_cases k1 : a.K = 1
 ·simp only [k1, decide_true, if_true]
 ·by_cases k2 : a.K = 2
  ·have := valT_i hN a.V hs.2 (argVal h k2)
   simp only [k2, this, decide_true, if_true, Option.bind_some, show ¬ (2 : Int) = 1 by omega, decide_false, Bool.false_eq_true, if_false]
  ·simp only [k1, k2, decide_false, Bool.false_eq_true, if_false]
theorem argText_len {a : TArg} (h : okArg a = true) : (argText a).size ≤ 30 := by
 unfold argText
 split
 ·rename_i k
  unfold okArg at h
  rw [if_pos k] at h
  simp only [Bool.and_eq_true] at h
  have h1 := h.1
  unfold varOk at h1
  split at h1
  ·cases h1
  ·simp only [Bool.and_eq_true, decide_eq_true_eq] at h1; omega
 ·split
  ·rename_i k; exact valText_len (argVal h k)
  ·show 1 ≤ 30; omega
def exprText (e : TExpr) : ByteArray := if okExpr e then (if seq e.Op ⟨#[]⟩ then argText e.L else (((argText e.L ++ ⟨#[32]⟩) ++ e.Op) ++ ⟨#[32]⟩) ++ argText e.R) else ⟨#[]⟩
theorem expr_args {e : TExpr} (h : okExpr e = true) : okArg e.L = true ∧ (seq e.Op ⟨#[]⟩ = false → okArg e.R = true ∧ e.Op.size ≤ 1) := by
 unfold okExpr at h
 cases c : seq e.Op ⟨#[]⟩ with
 | true =>
  rw [c] at h
  simp only [if_true, Bool.and_eq_true, given] at h
  exact ⟨h.1.1, fun h => by cases h⟩
 | false =>
  rw [c] at h
  simp only [Bool.false_eq_true, if_false, Bool.and_eq_true, Bool.or_eq_true, given] at h
  refine ⟨h.2.1.1, fun _ => ⟨h.2.2.1, ?_⟩⟩
  rcases h.1 with h1 | h1
  ·rw [seq_eq, decide_eq_true_eq] at h1; rw [h1]; decide
  ·rw [seq_eq, decide_eq_true_eq] at h1; rw [h1]; decide
theorem five_ok {a b c d e : ByteArray} (h : a.size + b.size + c.size + d.size + e.size ≤ 9223372036854775807) {β : Type} (f : ByteArray → Option β) :
  ((cat a b).bind fun z1 => (cat z1 c).bind fun z2 => (cat z2 d).bind fun z3 => (cat z3 e).bind f) = f ((((a ++ b) ++ c) ++ d) ++ e) := by
 rw [cat_ok (by omega), Option.bind_some, cat_ok (by rw [ByteArray.size_append]; omega), Option.bind_some, cat_ok (by rw [ByteArray.size_append, ByteArray.size_append]; omega), Option.bind_some, cat_ok (by rw [ByteArray.size_append, ByteArray.size_append, ByteArray.size_append]; omega), Option.bind_some]
theorem exprText_len (e : TExpr) : (exprText e).size ≤ 70 := by
 unfold exprText
 split
 ·rename_i h
  obtain ⟨h1, h2⟩ := expr_args h
  have := argText_len h1
  split
  ·omega
  ·rename_i c
   obtain ⟨h3, h4⟩ := h2 (by simpa using c)
   have := argText_len h3
   simp only [ByteArray.size_append]
   show _ + 1 + _ + 1 + _ ≤ _
   omega
 ·show 0 ≤ 70; omega
theorem exprT_i {N : Nat} (hN : 1099000000000 ≤ N) (e : TExpr) (hs : SzExpr e) : m_i_ExprText N e = some (exprText e) := by
 unfold m_i_ExprText exprText
 rw [expr_i hN e hs, Option.bind_some]
 cases h : okExpr e with
 | false => simp
 | true =>
  obtain ⟨h1, h2⟩ := expr_args h
  simp only [Bool.not_true, Bool.false_eq_true, if_false, if_true, argT_i hN e.L hs.2.1 h1, Option.bind_some]
  cases c : seq e.Op ⟨#[]⟩ with
  | true => simp
  | false =>
   obtain ⟨h3, h4⟩ := h2 c
   have l1 := argText_len h1
   have l2 := argText_len h3
   simp only [Bool.false_eq_true, if_false, argT_i hN e.R hs.2.2 h3, Option.bind_some]
   exact five_ok (show _ + 1 + _ + 1 + _ ≤ _ by omega) some
theorem cat_k {x y : ByteArray} (h : x.size + y.size ≤ 9223372036854775807) : cat x y = some (x ++ y) := by unfold cat; rw [if_pos h]
theorem ba_assoc (a b c : ByteArray) : (a ++ b) ++ c = a ++ (b ++ c) := ByteArray.append_assoc
theorem ba_nil (a : ByteArray) : a ++ ⟨#[]⟩ = a := by apply ByteArray.ext; simp [ByteArray.data_append]
def commas (l : List ByteArray) : ByteArray := ⟨(Go.Lib.join (l.map (·.data.toList)) [44, 32]).toArray⟩
def tails (l : List ByteArray) : ByteArray := ⟨(Go.Lib.joinTail [44, 32] (l.map (·.data.toList))).toArray⟩
theorem commas_nil : commas [] = ⟨#[]⟩ := rfl
theorem tails_nil : tails [] = ⟨#[]⟩ := rfl
theorem commas_cons (x : ByteArray) (t : List ByteArray) : commas (x :: t) = x ++ tails t := by
 unfold commas tails
 apply ByteArray.ext
 simp [ByteArray.data_append, Go.Lib.join_cons]
theorem tails_cons (x : ByteArray) (t : List ByteArray) : tails (x :: t) = (⟨#[44, 32]⟩ ++ x) ++ tails t := by
 unfold tails Go.Lib.joinTail
 apply ByteArray.ext
 simp [ByteArray.data_append]
theorem tails_len {C : Nat} : ∀ (l : List ByteArray), (∀ x ∈ l, x.size ≤ C) → (tails l).size ≤ l.length * (C + 2)
 | [], _ => by rw [tails_nil]; exact Nat.zero_le _
 | x :: t, h => by
  have h1 := tails_len t fun y hy => h y (by simp [hy])
  have h2 := h x (by simp)
  rw [tails_cons, List.length_cons, Nat.add_mul]
  simp only [ByteArray.size_append]
  show 2 + _ + _ ≤ _
  omega
theorem commas_len {C : Nat} : ∀ (l : List ByteArray), (∀ x ∈ l, x.size ≤ C) → (commas l).size ≤ l.length * (C + 2)
 | [], _ => by rw [commas_nil]; exact Nat.zero_le _
 | x :: t, h => by
  have h1 := tails_len t fun y hy => h y (by simp [hy])
  have h2 := h x (by simp)
  rw [commas_cons, List.length_cons, Nat.add_mul]
  simp only [ByteArray.size_append]
  omega
theorem join_i {N : Nat} {l : List ByteArray} {C : Nat} (hl : l.length ≤ 4096) (hC : ∀ x ∈ l, x.size ≤ C) (hc : C ≤ 1073741824) : m_strings_Join N l ⟨#[44, 32]⟩ = some (commas l) := by
 have h := commas_len l hC
 have h2 : l.length * (C + 2) ≤ 4096 * 1073741826 := Nat.mul_le_mul hl (by omega)
 have h3 : (commas l).size = (Go.Lib.join (l.map (·.data.toList)) [44, 32]).length := by show (Go.Lib.join _ _).toArray.size = _; simp
 unfold m_strings_Join
 rw [if_pos ⟨by omega, by show (Go.Lib.join (l.map (·.data.toList)) [44, 32]).length ≤ _; omega⟩]
 rfl
theorem partsLoop {α β : Type} {N : Nat} (hN : 1099000000000 ≤ N) (xs : List α) (hl : xs.length ≤ 4096) (T : α → ByteArray) (f : Nat → List ByteArray → Int → Option β) (fin : List ByteArray → Option β)
  (h1 : ∀ n (i : Nat) s x, idx xs (i : Int) = some x → x ∈ xs → decide ((i : Int) < (xs.length : Int)) = true → IntKind.i64.wrap ((i : Int) + 1) = ((i + 1 : Nat) : Int) → s.length ≤ 4096 → f (n + 1) s (i : Int) = f n (s ++ [T x]) ((i + 1 : Nat) : Int))
  (h2 : ∀ n (i : Nat) s, decide ((i : Int) < (xs.length : Int)) = false → f (n + 1) s (i : Int) = fin s) : f N [] 0 = fin (xs.map T) := by
 refine (lp' hN xs (by omega) f (fun t s => fin (s ++ t.map T)) (fun s t => s.length + t.length ≤ 4096) [] (by simpa using hl) (fun n s i x t g1 g2 g3 g4 g5 g6 gI ih => ?_) (fun n s i g1 g2 gI => ?_)).trans (by simp)
 ·simp only [List.length_cons] at gI
  rw [h1 n i s x g4 g2 g5 g6 (by omega), ih _ (by simp; omega)]; simp
 ·rw [h2 n i s g2]; simp
def callText (a : TAct) : ByteArray := ((a.Name ++ ⟨#[40]⟩) ++ commas (a.Args.map exprText)) ++ ⟨#[41]⟩
theorem snoc_le {C : Nat} {s : List ByteArray} {x : ByteArray} (h : ∀ y ∈ s, y.size ≤ C) (h' : x.size ≤ C) : ∀ y ∈ s ++ [x], y.size ≤ C := fun y hy => by
 rcases List.mem_append.1 hy with h1 | h1
 ·exact h y h1
 ·simp at h1; rw [h1]; exact h'
theorem call_i {N : Nat} (hN : 1099000000000 ≤ N) (a : TAct) (h : SzAct a) (hl : a.Args.length ≤ 5) : m_i_callText N a = some (callText a) := by
 unfold m_i_callText
 have hn := h.1
 refine (lp' hN a.Args (by omega) (m_i_callText_l1 N a) (fun t s => some (((a.Name ++ ⟨#[40]⟩) ++ commas (s ++ t.map exprText)) ++ ⟨#[41]⟩)) (fun s t => s.length + t.length ≤ 5 ∧ ∀ x ∈ s, x.size ≤ 70) [] ⟨by simpa using hl, by simp⟩ (fun n s i x t g1 g2 g3 g4 g5 g6 gI ih => ?_) (fun n s i g1 g2 gI => ?_)).trans (by simp [callText])
 ·obtain ⟨i1, i2⟩ := gI
  simp only [List.length_cons] at i1
  simp only [m_i_callText_l1, g5, if_true, g4, Option.bind_some, exprT_i hN x (h.2.2.2 x g2), app_ok (show s.length + [exprText x].length ≤ 4294967296 by simp; omega), g6]
  rw [ih _ ⟨by simp; omega, snoc_le i2 (exprText_len x)⟩]; simp
 ·obtain ⟨i1, i2⟩ := gI
  simp only [List.length_nil, Nat.add_zero] at i1
  have hc := commas_len s i2
  have h5 : s.length * (70 + 2) ≤ 5 * 72 := Nat.mul_le_mul i1 (by omega)
  simp only [m_i_callText_l1, g2, Bool.false_eq_true, if_false]
  rw [cat_k (by show _ + 1 ≤ _; omega), Option.bind_some, join_i (N := N) (by omega) i2 (by omega), Option.bind_some, cat_k (by rw [ByteArray.size_append]; show _ + 1 + _ ≤ _; omega), Option.bind_some, cat_k (by rw [ByteArray.size_append, ByteArray.size_append]; show _ + 1 + _ + 1 ≤ _; omega)]
  simp
theorem call_len {a : TAct} (hl : a.Args.length ≤ 5) (hn : a.Name.size ≤ 12) : (callText a).size ≤ 400 := by
 have hc := commas_len (C := 70) (a.Args.map exprText) (fun x hx => by obtain ⟨e, _, rfl⟩ := List.mem_map.1 hx; exact exprText_len e)
 have h5 : (a.Args.map exprText).length * (70 + 2) ≤ 5 * 72 := Nat.mul_le_mul (by simpa using hl) (by omega)
 unfold callText
 simp only [ByteArray.size_append]
 show _ + 1 + _ + 1 ≤ _
 omega
theorem okName_len {s : ByteArray} (h : okName s = true) : s.size ≤ 12 := by
 unfold okName at h
 simp only [Bool.and_eq_true, decide_eq_true_eq] at h
 omega
def actText (a : TAct) : ByteArray :=
 if okAct a = true then
  if a.Kind = 1 then ⟨#[97, 115, 115, 101, 114, 116, 32]⟩ ++ callText a
  else if a.Kind = 2 then ⟨#[100, 114, 111, 112, 32]⟩ ++ num a.N
  else if a.Kind = 3 then (if seq a.Undo ⟨#[]⟩ = true then ⟨#[116, 97, 115, 107, 32]⟩ ++ callText a else ((⟨#[116, 97, 115, 107, 32]⟩ ++ callText a) ++ ⟨#[32, 117, 110, 100, 111, 32]⟩) ++ a.Undo)
  else if a.Kind = 4 then ((⟨#[116, 105, 109, 101, 114, 32]⟩ ++ num a.N) ++ ⟨#[32]⟩) ++ callText a
  else if a.Kind = 5 then ⟨#[100, 111, 110, 101]⟩ else ⟨#[102, 97, 105, 108]⟩
 else ⟨#[]⟩
theorem act_has {a : TAct} (h : okAct a = true) : (a.Kind = 1 ∧ a.Args.length ≤ 5 ∧ a.Name.size ≤ 12) ∨ (a.Kind = 2 ∧ 0 ≤ a.N ∧ a.N ≤ 7) ∨ (a.Kind = 3 ∧ (a.Args.length ≤ 5 ∧ a.Name.size ≤ 12) ∧ a.Undo.size ≤ 12) ∨ (a.Kind = 4 ∧ (a.Args.length ≤ 5 ∧ a.Name.size ≤ 12) ∧ 0 ≤ a.N ∧ a.N ≤ 100000) ∨ a.Kind = 5 ∨ a.Kind = 6 := by
 unfold okAct at h
 by_cases k1 : a.Kind = 1
 ·simp only [k1, if_true, Bool.and_eq_true, decide_eq_true_eq] at h
  exact .inl ⟨k1, by omega, okName_len h.1.1.1⟩
 ·by_cases k2 : a.Kind = 2
  ·simp only [k2, if_true, Bool.and_eq_true, decide_eq_true_eq, show ¬ (2 : Int) = 1 by omega, if_false] at h
   exact .inr (.inl ⟨k2, h.1.2.1, h.1.2.2⟩)
  ·by_cases k3 : a.Kind = 3
   ·simp only [k3, if_true, Bool.and_eq_true, Bool.or_eq_true, decide_eq_true_eq, show ¬ (3 : Int) = 1 by omega, show ¬ (3 : Int) = 2 by omega, if_false] at h
    refine .inr (.inr (.inl ⟨k3, ⟨by omega, okName_len h.1.1.1⟩, ?_⟩))
    rcases h.2 with h1 | h1
    ·rw [seq_eq, decide_eq_true_eq] at h1; rw [h1]; decide
    ·exact okName_len h1
   ·by_cases k4 : a.Kind = 4
    ·simp only [k4, if_true, Bool.and_eq_true, decide_eq_true_eq, show ¬ (4 : Int) = 1 by omega, show ¬ (4 : Int) = 2 by omega, show ¬ (4 : Int) = 3 by omega, if_false] at h
     exact .inr (.inr (.inr (.inl ⟨k4, ⟨by omega, okName_len h.1.1.1⟩, h.1.2.1, h.1.2.2⟩)))
    ·by_cases k5 : a.Kind = 5
     ·exact .inr (.inr (.inr (.inr (.inl k5))))
     ·by_cases k6 : a.Kind = 6
      ·exact .inr (.inr (.inr (.inr (.inr k6))))
      ·simp [k1, k2, k3, k4, k5, k6] at h
theorem cat2 {a b : ByteArray} (h : a.size + b.size ≤ 1048576) {β : Type} (f : ByteArray → Option β) : ((cat a b).bind f) = f (a ++ b) := by
 rw [cat_k (by omega), Option.bind_some]
theorem cat4 {a b c d : ByteArray} (h : a.size + b.size + c.size + d.size ≤ 1048576) {β : Type} (f : ByteArray → Option β) : ((cat a b).bind fun z1 => (cat z1 c).bind fun z2 => (cat z2 d).bind f) = f (((a ++ b) ++ c) ++ d) := by
 rw [cat_k (by omega), Option.bind_some, cat_k (by rw [ByteArray.size_append]; omega), Option.bind_some, cat_k (by rw [ByteArray.size_append, ByteArray.size_append]; omega), Option.bind_some]
theorem actText_len (a : TAct) : (actText a).size ≤ 500 := by
 unfold actText
 split
 ·rename_i h
  rcases act_has h with ⟨k, h1, h2⟩ | ⟨k, h1, h2⟩ | ⟨k, ⟨h1, h2⟩, h3⟩ | ⟨k, ⟨h1, h2⟩, h3, h4⟩ | k | k
  ·have := call_len h1 h2
   simp only [k, if_true, ByteArray.size_append]; show 7 + _ ≤ _; omega
  ·have := num_len (n := a.N) (by omega) (by omega)
   simp only [k, if_true, show ¬ (2 : Int) = 1 by omega, if_false, ByteArray.size_append]; show 5 + _ ≤ _; omega
  ·have := call_len h1 h2
   simp only [k, if_true, show ¬ (3 : Int) = 1 by omega, show ¬ (3 : Int) = 2 by omega, if_false]
   split
   ·simp only [ByteArray.size_append]; show 5 + _ ≤ _; omega
   ·simp only [ByteArray.size_append]; show 5 + _ + 6 + _ ≤ _; omega
  ·have := call_len h1 h2
   have := num_len (n := a.N) (by omega) (by omega)
   simp only [k, if_true, show ¬ (4 : Int) = 1 by omega, show ¬ (4 : Int) = 2 by omega, show ¬ (4 : Int) = 3 by omega, if_false, ByteArray.size_append]; show 6 + _ + 1 + _ ≤ _; omega
  ·simp only [k, if_true, show ¬ (5 : Int) = 1 by omega, show ¬ (5 : Int) = 2 by omega, show ¬ (5 : Int) = 3 by omega, show ¬ (5 : Int) = 4 by omega, if_false]; show 4 ≤ _; omega
  ·simp only [k, show ¬ (6 : Int) = 1 by omega, show ¬ (6 : Int) = 2 by omega, show ¬ (6 : Int) = 3 by omega, show ¬ (6 : Int) = 4 by omega, show ¬ (6 : Int) = 5 by omega, if_false]; show 4 ≤ _; omega
 ·exact Nat.zero_le _
theorem actT_i {N : Nat} (hN : 1099000000000 ≤ N) (a : TAct) (hs : SzAct a) : m_i_ActText N a = some (actText a) := by
 unfold m_i_ActText actText
 rw [act_i hN a hs, Option.bind_some]
 cases h : okAct a with
 | false => simp
 | true =>
  simp only [Bool.not_true, Bool.false_eq_true, if_false, if_true]
  rcases act_has h with ⟨k, h1, h2⟩ | ⟨k, h1, h2⟩ | ⟨k, ⟨h1, h2⟩, h3⟩ | ⟨k, ⟨h1, h2⟩, h3, h4⟩ | k | k
  ·have := call_len h1 h2
   simp only [k, decide_true, if_true, call_i hN a hs h1, Option.bind_some]
   exact cat2 (show 7 + _ ≤ _ by omega) some
  ·have := num_len (n := a.N) (by omega) (by omega)
   simp only [k, decide_true, if_true, show ¬ (2 : Int) = 1 by omega, decide_false, Bool.false_eq_true, if_false, itoa_i (N := N) (n := a.N) (by omega) (by omega), Option.bind_some]
   exact cat2 (show 5 + _ ≤ _ by omega) some
  ·have := call_len h1 h2
   simp only [k, decide_true, if_true, show ¬ (3 : Int) = 1 by omega, show ¬ (3 : Int) = 2 by omega, decide_false, Bool.false_eq_true, if_false, call_i hN a hs h1, Option.bind_some]
   cases c : seq a.Undo ⟨#[]⟩ with
   | true =>
    simp only [Bool.not_true, Bool.false_eq_true, if_false, if_true]
    exact cat2 (show 5 + _ ≤ _ by omega) some
   | false =>
    simp only [Bool.not_false, Bool.false_eq_true, if_false, if_true]
    exact cat4 (show 5 + _ + 6 + _ ≤ _ by omega) some
  ·have := call_len h1 h2
   have := num_len (n := a.N) (by omega) (by omega)
   simp only [k, decide_true, if_true, show ¬ (4 : Int) = 1 by omega, show ¬ (4 : Int) = 2 by omega, show ¬ (4 : Int) = 3 by omega, decide_false, Bool.false_eq_true, if_false, itoa_i (N := N) (n := a.N) (by omega) (by omega), call_i hN a hs h1, Option.bind_some]
   exact cat4 (show 6 + _ + 1 + _ ≤ _ by omega) some
  ·simp only [k, decide_true, if_true, show ¬ (5 : Int) = 1 by omega, show ¬ (5 : Int) = 2 by omega, show ¬ (5 : Int) = 3 by omega, show ¬ (5 : Int) = 4 by omega, decide_false, Bool.false_eq_true, if_false]
  ·simp only [k, show ¬ (6 : Int) = 1 by omega, show ¬ (6 : Int) = 2 by omega, show ¬ (6 : Int) = 3 by omega, show ¬ (6 : Int) = 4 by omega, show ¬ (6 : Int) = 5 by omega, decide_false, Bool.false_eq_true, if_false]
def patBody (p : TPat) : ByteArray := ((p.Kind ++ ⟨#[40]⟩) ++ commas (p.Args.map argText)) ++ ⟨#[41]⟩
def patText (p : TPat) : ByteArray := if okPat p = true then (if p.Not = true then ⟨#[33]⟩ ++ patBody p else patBody p) else ⟨#[]⟩
theorem pat_has {p : TPat} (h : okPat p = true) : p.Kind.size ≤ 12 ∧ p.Args.length ≤ 5 ∧ ∀ a ∈ p.Args, okArg a = true := by
 unfold okPat at h
 simp only [Bool.and_eq_true, decide_eq_true_eq] at h
 exact ⟨okName_len h.1, by omega, fun a ha => List.all_eq_true.1 h.2.2 a ha⟩
theorem argTexts_le {l : List TArg} (h : ∀ a ∈ l, okArg a = true) : ∀ x ∈ l.map argText, x.size ≤ 30 := fun x hx => by
 obtain ⟨a, ha, rfl⟩ := List.mem_map.1 hx; exact argText_len (h a ha)
theorem patBody_len {p : TPat} (h : okPat p = true) : (patBody p).size ≤ 190 := by
 obtain ⟨h1, h2, h3⟩ := pat_has h
 have hc := commas_len (C := 30) (p.Args.map argText) (argTexts_le h3)
 have h5 : (p.Args.map argText).length * (30 + 2) ≤ 5 * 32 := Nat.mul_le_mul (by simpa using h2) (by omega)
 unfold patBody
 simp only [ByteArray.size_append]
 show _ + 1 + _ + 1 ≤ _
 omega
theorem patText_len (p : TPat) : (patText p).size ≤ 191 := by
 unfold patText
 split
 ·rename_i h
  have := patBody_len h
  split
  ·simp only [ByteArray.size_append]; show 1 + _ ≤ _; omega
  ·omega
 ·exact Nat.zero_le _
theorem patT_i {N : Nat} (hN : 1099000000000 ≤ N) (p : TPat) (hs : SzPat p) : m_i_PatText N p = some (patText p) := by
 unfold m_i_PatText patText
 rw [pat_i hN p hs, Option.bind_some]
 cases h : okPat p with
 | false => simp
 | true =>
  obtain ⟨h1, h2, h3⟩ := pat_has h
  have hb := patBody_len h
  have hc := commas_len (C := 30) (p.Args.map argText) (argTexts_le h3)
  have h5 : (p.Args.map argText).length * (30 + 2) ≤ 5 * 32 := Nat.mul_le_mul (by simpa using h2) (by omega)
  simp only [Bool.not_true, Bool.false_eq_true, if_false, if_true]
  refine (partsLoop hN p.Args (by omega) argText (m_i_PatText_l1 N p) (fun s => (cat p.Kind ⟨#[40]⟩).bind fun z1 => (m_strings_Join N s ⟨#[44, 32]⟩).bind fun x5 => (cat z1 x5).bind fun z2 => (cat z2 ⟨#[41]⟩).bind fun z3 => if p.Not = true then (cat ⟨#[33]⟩ z3).bind fun z4 => some z4 else some z3) (fun n i s x g4 g2 g5 g6 gl => ?_) (fun n i s g => ?_)).trans ?_
  ·simp only [m_i_PatText_l1, g5, if_true, g4, Option.bind_some, argT_i hN x (hs.2.2 x g2) (h3 x g2), app_ok (show s.length + [argText x].length ≤ 4294967296 by simp; omega), g6]
  ·simp only [m_i_PatText_l1, g, Bool.false_eq_true, if_false]
  ·rw [cat_k (by show _ + 1 ≤ _; omega), Option.bind_some, join_i (N := N) (C := 30) (by simp; omega) (argTexts_le h3) (by omega), Option.bind_some, cat_k (by rw [ByteArray.size_append]; show _ + 1 + _ ≤ _; omega), Option.bind_some, cat_k (by rw [ByteArray.size_append, ByteArray.size_append]; show _ + 1 + _ + 1 ≤ _; omega), Option.bind_some]
   show (if p.Not = true then (cat ⟨#[33]⟩ (patBody p)).bind fun z4 => some z4 else some (patBody p)) = _
   split
   ·rw [cat_k (by show 1 + _ ≤ _; omega)]; rfl
   ·rfl
def condSep (c : TCond) : ByteArray := if c.Op = 2 then ⟨#[32, 35, 32]⟩ else if c.Op = 3 then ⟨#[32, 60, 32]⟩ else ⟨#[32, 61, 32]⟩
def condText (c : TCond) : ByteArray := if okCond c = true then (argText c.L ++ condSep c) ++ argText c.R else ⟨#[]⟩
theorem cond_has {c : TCond} (h : okCond c = true) : (1 ≤ c.Op ∧ c.Op ≤ 3) ∧ okArg c.L = true ∧ okArg c.R = true := by
 unfold okCond given at h
 simp only [Bool.and_eq_true, decide_eq_true_eq] at h
 exact ⟨h.1, h.2.1.1, h.2.2.1⟩
theorem condSep_len (c : TCond) : (condSep c).size = 3 := by unfold condSep; split <;> (try split) <;> rfl
theorem condText_len (c : TCond) : (condText c).size ≤ 63 := by
 unfold condText
 split
 ·rename_i h
  obtain ⟨_, h1, h2⟩ := cond_has h
  have := argText_len h1
  have := argText_len h2
  have := condSep_len c
  simp only [ByteArray.size_append]; omega
 ·exact Nat.zero_le _
theorem condT_i {N : Nat} (hN : 1099000000000 ≤ N) (c : TCond) (hs : SzCond c) : m_i_CondText N c = some (condText c) := by
 unfold m_i_CondText condText
 rw [cond_i hN c hs, Option.bind_some]
 cases h : okCond c with
 | false => simp
 | true =>
  obtain ⟨_, h1, h2⟩ := cond_has h
  have l1 := argText_len h1
  have l2 := argText_len h2
  have lp : ∀ s : ByteArray, s.size = 3 → m_i_CondText_j1 N c s = some ((argText c.L ++ s) ++ argText c.R) := by
   intro s h3
   unfold m_i_CondText_j1
   rw [argT_i hN _ hs.1 h1, Option.bind_some, cat_k (by omega), Option.bind_some, argT_i hN _ hs.2 h2, Option.bind_some, cat_k (by rw [ByteArray.size_append]; omega)]
   rfl
  simp only [Bool.not_true, Bool.false_eq_true, if_false, if_true, condSep]
  by_cases k2 : c.Op = 2
  ·simp only [k2, decide_true, if_true, lp _ (show (⟨#[32, 35, 32]⟩ : ByteArray).size = 3 from rfl)]
  ·by_cases k3 : c.Op = 3
   ·simp only [k3, decide_true, if_true, show ¬ (3 : Int) = 2 by omega, decide_false, Bool.false_eq_true, if_false, lp _ (show (⟨#[32, 60, 32]⟩ : ByteArray).size = 3 from rfl)]
   ·simp only [k2, k3, decide_false, Bool.false_eq_true, if_false, lp _ (show (⟨#[32, 61, 32]⟩ : ByteArray).size = 3 from rfl)]
def ruleHead (r : TRule) : ByteArray := (((⟨#[114, 117, 108, 101, 32]⟩ ++ r.Name) ++ ⟨#[32]⟩) ++ num r.Sal) ++ ⟨#[58, 32]⟩
def condPart (l : List TCond) : ByteArray := match l with | [] => ⟨#[]⟩ | c :: t => ⟨#[32, 43, 32]⟩ ++ commas ((c :: t).map condText)
def ruleText (r : TRule) : ByteArray := ((((ruleHead r ++ commas (r.Pats.map patText)) ++ condPart r.Conds) ++ ⟨#[32, 45, 62, 32]⟩) ++ commas (r.Acts.map actText)) ++ ⟨#[46, 10]⟩
theorem rule_has {r : TRule} (h : okRule r = true) : r.Name.size ≤ 12 ∧ (-100 ≤ r.Sal ∧ r.Sal ≤ 100) ∧ r.Pats.length ≤ 6 ∧ r.Conds.length ≤ 6 ∧ r.Acts.length ≤ 6 := by
 unfold okRule okPats at h
 simp only [Bool.and_eq_true, decide_eq_true_eq] at h
 exact ⟨okName_len h.1, h.2.1, by omega, by omega, by omega⟩
theorem le_map {α : Type} {T : α → ByteArray} {C : Nat} (h : ∀ x, (T x).size ≤ C) (l : List α) : ∀ x ∈ l.map T, x.size ≤ C := fun x hx => by
 obtain ⟨a, _, rfl⟩ := List.mem_map.1 hx; exact h a
theorem com_le {α : Type} {T : α → ByteArray} {C : Nat} (h : ∀ x, (T x).size ≤ C) {l : List α} (hl : l.length ≤ 6) : (commas (l.map T)).size ≤ 6 * (C + 2) := by
 have hc := commas_len (C := C) (l.map T) (le_map h l)
 have h5 : (l.map T).length * (C + 2) ≤ 6 * (C + 2) := Nat.mul_le_mul (by simpa using hl) (by omega)
 omega
theorem head_len {r : TRule} (h : okRule r = true) : (ruleHead r).size ≤ 40 := by
 obtain ⟨h1, h2, _⟩ := rule_has h
 have := num_len (n := r.Sal) (by omega) (by omega)
 unfold ruleHead
 simp only [ByteArray.size_append]
 show 5 + _ + 1 + _ + 2 ≤ _
 omega
theorem condPart_len {l : List TCond} (h : l.length ≤ 6) : (condPart l).size ≤ 400 := by
 unfold condPart
 split
 ·exact Nat.zero_le _
 ·have := com_le condText_len h
  simp only [ByteArray.size_append]; show 3 + _ ≤ _; omega
theorem ruleText_len {r : TRule} (h : okRule r = true) : (ruleText r).size ≤ 5000 := by
 obtain ⟨h1, h2, h3, h4, h5⟩ := rule_has h
 have := head_len h
 have := com_le patText_len h3
 have := com_le actText_len h5
 have := condPart_len h4
 unfold ruleText
 simp only [ByteArray.size_append]
 show _ + _ + _ + 4 + _ + 2 ≤ _
 omega
theorem ruleBody_i {N : Nat} (hN : 1099000000000 ≤ N) (r : TRule) (hs : SzRule r) (h : okRule r = true) : m_i_ruleText N r = some (ruleText r) := by
 obtain ⟨h1, h2, h3, h4, h5⟩ := rule_has h
 have lh := head_len h
 have lp := com_le patText_len h3
 have la := com_le actText_len h5
 have lc := condPart_len h4
 have ln := num_len (n := r.Sal) (by omega) (by omega)
 unfold m_i_ruleText
 refine (partsLoop hN r.Pats (by omega) patText (m_i_ruleText_l1 N r) (fun s => m_i_ruleText_l2 N r s N [] 0) (fun n i s x g4 g2 g5 g6 gl => ?_) (fun n i s g => ?_)).trans ?_
 ·simp only [m_i_ruleText_l1, g5, if_true, g4, Option.bind_some, patT_i hN x (hs.2.1.2 x g2), app_ok (show s.length + [patText x].length ≤ 4294967296 by simp; omega), g6]
 ·simp only [m_i_ruleText_l1, g, Bool.false_eq_true, if_false]
 refine (partsLoop hN r.Conds (by omega) condText (m_i_ruleText_l2 N r (r.Pats.map patText)) (fun s => m_i_ruleText_l3 N r (r.Pats.map patText) s N [] 0) (fun n i s x g4 g2 g5 g6 gl => ?_) (fun n i s g => ?_)).trans ?_
 ·simp only [m_i_ruleText_l2, g5, if_true, g4, Option.bind_some, condT_i hN x (hs.2.2.1.2 x g2), app_ok (show s.length + [condText x].length ≤ 4294967296 by simp; omega), g6]
 ·simp only [m_i_ruleText_l2, g, Bool.false_eq_true, if_false]
 refine (partsLoop hN r.Acts (by omega) actText (m_i_ruleText_l3 N r (r.Pats.map patText) (r.Conds.map condText)) (fun s => if decide (0 < ((r.Conds.map condText).length : Int)) = true then (m_strings_Join N (r.Conds.map condText) ⟨#[44, 32]⟩).bind fun x13 => (cat ⟨#[32, 43, 32]⟩ x13).bind fun z9 => (cat (ruleHead r ++ commas (r.Pats.map patText)) z9).bind fun z10 => m_i_ruleText_j4 N s z10 else m_i_ruleText_j4 N s (ruleHead r ++ commas (r.Pats.map patText))) (fun n i s x g4 g2 g5 g6 gl => ?_) (fun n i s g => ?_)).trans ?_
 ·simp only [m_i_ruleText_l3, g5, if_true, g4, Option.bind_some, actT_i hN x (hs.2.2.2.1.2 x g2), app_ok (show s.length + [actText x].length ≤ 4294967296 by simp; omega), g6]
 ·simp only [m_i_ruleText_l3, g, Bool.false_eq_true, if_false]
  rw [cat_k (by show 5 + _ ≤ _; omega), Option.bind_some, cat_k (by simp only [ByteArray.size_append]; show 5 + _ + 1 ≤ _; omega), Option.bind_some, itoa_i (N := N) (n := r.Sal) (by omega) (by omega), Option.bind_some, cat_k (by simp only [ByteArray.size_append]; show 5 + _ + 1 + _ ≤ _; omega), Option.bind_some, cat_k (by simp only [ByteArray.size_append]; show 5 + _ + 1 + _ + 2 ≤ _; omega), Option.bind_some, join_i (N := N) (C := 191) (by simp; omega) (le_map patText_len _) (by omega), Option.bind_some]
  show ((cat (ruleHead r) (commas (r.Pats.map patText))).bind _) = _
  rw [cat_k (by omega), Option.bind_some]
 have j4 : ∀ z : ByteArray, z.size ≤ 100000 → m_i_ruleText_j4 N (r.Acts.map actText) z = some (((z ++ ⟨#[32, 45, 62, 32]⟩) ++ commas (r.Acts.map actText)) ++ ⟨#[46, 10]⟩) := by
  intro z hz
  unfold m_i_ruleText_j4
  rw [cat_k (by show _ + 4 ≤ _; omega), Option.bind_some, join_i (N := N) (C := 500) (by simp; omega) (le_map actText_len _) (by omega), Option.bind_some, cat_k (by simp only [ByteArray.size_append]; show _ + 4 + _ ≤ _; omega), Option.bind_some, cat_k (by simp only [ByteArray.size_append]; show _ + 4 + _ + 2 ≤ _; omega), Option.bind_some]
 unfold ruleText
 have hcp : (r.Conds = [] ∧ condPart r.Conds = ⟨#[]⟩) ∨ (0 < r.Conds.length ∧ condPart r.Conds = ⟨#[32, 43, 32]⟩ ++ commas (r.Conds.map condText)) := by
  cases r.Conds with
  | nil => exact .inl ⟨rfl, rfl⟩
  | cons c t => exact .inr ⟨by simp, rfl⟩
 rcases hcp with ⟨e1, e2⟩ | ⟨e1, e2⟩
 ·rw [e2, e1, if_neg (by decide), j4 _ (by simp only [ByteArray.size_append]; omega), ba_nil]
 ·have lc' := com_le condText_len h4
  rw [e2, if_pos (by simp; omega), join_i (N := N) (C := 63) (by simp; omega) (le_map condText_len _) (by omega), Option.bind_some, cat_k (by show 3 + _ ≤ _; omega), Option.bind_some, cat_k (by simp only [ByteArray.size_append]; show _ + _ + (3 + _) ≤ _; omega), Option.bind_some, j4 _ (by simp only [ByteArray.size_append]; show _ + _ + (3 + _) ≤ _; omega)]
theorem ruleT_i {N : Nat} (hN : 1099000000000 ≤ N) (r : TRule) (hs : SzRule r) : m_i_RuleText N r = some (if okRule r = true then ruleText r else ⟨#[]⟩) := by
 unfold m_i_RuleText
 rw [rule_i hN r hs, Option.bind_some]
 cases h : okRule r with
 | false => simp
 | true => simp [ruleBody_i hN r hs h]
end Go.Proofs.YteipbimepilcfaaGreatDoor
