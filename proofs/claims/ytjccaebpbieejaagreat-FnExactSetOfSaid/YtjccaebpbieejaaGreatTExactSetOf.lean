/- Plain laws, one after the other: PLSetOf. -/
import Derived.Test.YtjccaebpbieejaaGreatPLib
import Derived.Test.YtjccaebpbieejaaGreatWExactSetOfMod
import Derived.Test.YtjccaebpbieejaaGreatWExactSetOfPur
/-
 Plain laws of common loops, for the cores. No program.
-/
namespace Go.Proofs.YtjccaebpbieejaaGreat
open Eng
set_option linter.unusedVariables false
set_option linter.unusedSimpArgs false
theorem app_ok {α : Type} {xs ys : List α} (h : xs.length + ys.length ≤ 4294967296) : app xs ys = some (xs ++ ys) := by unfold app; rw [if_pos h]
theorem app_nil {α : Type} {ys : List α} (h : ys.length ≤ 4294967296) : app ([] : List α) ys = some ys := by rw [app_ok (by simpa using h)]; rfl
theorem andS (a b : Bool) : (if a = true then some b else some false) = some (a && b) := by cases a <;> rfl
theorem orS (a b : Bool) : (if a = true then some true else some b) = some (a || b) := by cases a <;> rfl
end Go.Proofs.YtjccaebpbieejaaGreat
/-
 Plain laws of loops over lists, one law for all. No program.
-/
namespace Go.Proofs.YtjccaebpbieejaaGreat
open Eng
set_option linter.unusedVariables false
set_option linter.unusedSimpArgs false
theorem lp {σ α β : Type} (xs : List α) (hl : xs.length ≤ 4294967296) (f : Nat → σ → Int → Option β) (G : List α → σ → Option β) (I : σ → List α → Prop)
  (hs : ∀ n s (i : Nat) (x : α) (t : List α), xs.drop i = x :: t → x ∈ xs → i < xs.length → idx xs (i : Int) = some x → decide ((i : Int) < (xs.length : Int)) = true → IntKind.i64.wrap ((i : Int) + 1) = ((i + 1 : Nat) : Int) → I s (x :: t) →
   (∀ s', I s' t → f n s' ((i + 1 : Nat) : Int) = G t s') → f (n + 1) s i = G (x :: t) s)
  (he : ∀ n s (i : Nat), i = xs.length → decide ((i : Int) < (xs.length : Int)) = false → I s [] → f (n + 1) s i = G [] s) :
  ∀ (n i : Nat) (s : σ), i ≤ xs.length → xs.length - i < n → I s (xs.drop i) → f n s i = G (xs.drop i) s := by
 intro n
 induction n with
 | zero => intro i s _ h; omega
 | succ n ih =>
  intro i s hi hn hI
  by_cases hlt : i < xs.length
  ·have hd := List.drop_eq_getElem_cons hlt
   rw [hd] at hI ⊢
   exact hs n s i _ _ hd (List.getElem_mem hlt) hlt (idx_nat_lt hlt) (decide_eq_true (by omega)) (wr1 i (by omega)) hI (fun s' hs' => ih (i + 1) s' (by omega) (by omega) hs')
  ·have hd : xs.drop i = [] := List.drop_of_length_le (by omega)
   rw [hd] at hI ⊢
   exact he n s i (by omega) (decide_eq_false (by omega)) hI
theorem lp' {σ α β : Type} {N : Nat} (hN : 1099000000000 ≤ N) (xs : List α) (hl : xs.length ≤ 4294967296) (f : Nat → σ → Int → Option β) (G : List α → σ → Option β) (I : σ → List α → Prop) (s : σ) (h0 : I s xs)
  (hs : ∀ n s (i : Nat) (x : α) (t : List α), xs.drop i = x :: t → x ∈ xs → i < xs.length → idx xs (i : Int) = some x → decide ((i : Int) < (xs.length : Int)) = true → IntKind.i64.wrap ((i : Int) + 1) = ((i + 1 : Nat) : Int) → I s (x :: t) →
   (∀ s', I s' t → f n s' ((i + 1 : Nat) : Int) = G t s') → f (n + 1) s i = G (x :: t) s)
  (he : ∀ n s (i : Nat), i = xs.length → decide ((i : Int) < (xs.length : Int)) = false → I s [] → f (n + 1) s i = G [] s) : f N s 0 = G xs s := by
 have := lp xs hl f G I hs he N 0 s (by omega) (by omega) (by simpa using h0)
 simpa using this
theorem lp0 {α β : Type} {N : Nat} (hN : 1099000000000 ≤ N) (xs : List α) (hl : xs.length ≤ 4294967296) (f : Nat → Int → Option β) (G : List α → Option β)
  (hs : ∀ n (i : Nat) (x : α) (t : List α), xs.drop i = x :: t → x ∈ xs → i < xs.length → idx xs (i : Int) = some x → decide ((i : Int) < (xs.length : Int)) = true → IntKind.i64.wrap ((i : Int) + 1) = ((i + 1 : Nat) : Int) →
   f n ((i + 1 : Nat) : Int) = G t → f (n + 1) i = G (x :: t))
  (he : ∀ n (i : Nat), i = xs.length → decide ((i : Int) < (xs.length : Int)) = false → f (n + 1) i = G []) : f N 0 = G xs := by
 have := lp' (σ := Unit) hN xs hl (fun n _ i => f n i) (fun t _ => G t) (fun _ _ => True) () trivial (fun n _ i x t h1 h2 h3 h4 h5 h6 _ h8 => hs n i x t h1 h2 h3 h4 h5 h6 (h8 () trivial)) (fun n _ i h1 h2 _ => he n i h1 h2)
 simpa using this
def cmp (a b : Int) : Int := if a < b then -1 else if b < a then 1 else 0
theorem cmp_eq (N : Nat) (a b : Int) : m_cmp_Compare_int N a b = some (cmp a b) := by
 unfold m_cmp_Compare_int m_cmp_isNaN_int cmp
 by_cases h1 : a < b
 ·simp [h1]
 ·by_cases h2 : b < a <;> simp [h1, h2]
theorem or_eq {N : Nat} (hN : 1048578 ≤ N) (a b : Int) : m_cmp_Or_int N [a, b] = some (if a = 0 then b else a) := by
 obtain ⟨n, rfl⟩ : ∃ n, N = n + 3 := ⟨N - 3, by omega⟩
 unfold m_cmp_Or_int
 have w1 : IntKind.i64.wrap ((0 : Int) + 1) = 1 := by decide
 have w2 : IntKind.i64.wrap ((1 : Int) + 1) = 2 := by decide
 have i0 : idx [a, b] 0 = some a := rfl
 have i1 : idx [a, b] 1 = some b := rfl
 have l2 : (([a, b] : List Int).length : Int) = 2 := rfl
 simp only [m_cmp_Or_int_l1, w1, w2, i0, i1, l2, Option.bind_some]
 by_cases ha : a = 0
 ·by_cases hb : b = 0 <;> simp [ha, hb]
 ·simp [ha]
def lexlt : List Int → List Int → Bool
 | a :: x, b :: y => if a = b then lexlt x y else decide (a < b)
 | _, _ => false
def less (x y : TMatch) : Bool := if x.Rule = y.Rule then (if x.Ids.length = y.Ids.length then lexlt x.Ids y.Ids else decide (x.Ids.length < y.Ids.length)) else decide (x.Rule < y.Rule)
theorem lex_anti : ∀ (x y : List Int), (lexlt x y && lexlt y x) = false
 | [], _ => by simp [lexlt]
 | _ :: _, [] => by simp [lexlt]
 | a :: x, b :: y => by
  unfold lexlt
  by_cases h : a = b
  ·simp only [h, if_true]; exact lex_anti x y
  ·have h' : ¬ b = a := fun e => h e.symm
   simp only [h, h', if_false]
   rw [← Bool.decide_and, decide_eq_false_iff_not]; omega
theorem lex_tot : ∀ (x y : List Int), x.length = y.length → (lexlt x y || lexlt y x) = !decide (x = y)
 | [], [], _ => by simp [lexlt]
 | [], _ :: _, h => by simp at h
 | _ :: _, [], h => by simp at h
 | a :: x, b :: y, hl => by
  unfold lexlt
  by_cases h : a = b
  ·subst h
   simp only [if_true, lex_tot x y (by simpa using hl), List.cons.injEq, true_and]
  ·have h' : ¬ b = a := fun e => h e.symm
   simp only [h, h', if_false, List.cons.injEq, false_and, decide_false, Bool.not_false]
   rw [← Bool.decide_or, decide_eq_true_eq]; omega
theorem less_anti (x y : TMatch) : (less x y && less y x) = false := by
 unfold less
 by_cases hr : x.Rule = y.Rule
 ·by_cases hl : x.Ids.length = y.Ids.length
  ·simp only [hr, hl, if_true]; exact lex_anti _ _
  ·have hl' : ¬ y.Ids.length = x.Ids.length := fun e => hl e.symm
   simp only [hr, hl, hl', if_true, if_false]
   rw [← Bool.decide_and, decide_eq_false_iff_not]; omega
 ·have hr' : ¬ y.Rule = x.Rule := fun e => hr e.symm
  simp only [hr, hr', if_false]
  rw [← Bool.decide_and, decide_eq_false_iff_not]; omega
theorem lex_trans : ∀ (x y z : List Int), lexlt x y = true → lexlt y z = true → x.length = y.length → y.length = z.length → lexlt x z = true
 | [], _, _, h, _, _, _ => by simp [lexlt] at h
 | a :: x, [], _, h, _, _, _ => by simp [lexlt] at h
 | a :: x, b :: y, [], _, h, _, _ => by simp [lexlt] at h
 | a :: x, b :: y, c :: z, h1, h2, l1, l2 => by
  unfold lexlt at h1 h2 ⊢
  by_cases e1 : a = b
  ·by_cases e2 : b = c
   ·rw [if_pos e1] at h1; rw [if_pos e2] at h2; rw [if_pos (e1.trans e2)]
    exact lex_trans x y z h1 h2 (by simpa using l1) (by simpa using l2)
   ·rw [if_neg e2] at h2; rw [if_neg (by omega)]
    simp only [decide_eq_true_eq] at h2 ⊢; omega
  ·rw [if_neg e1] at h1
   simp only [decide_eq_true_eq] at h1
   by_cases e2 : b = c
   ·rw [if_neg (by omega)]; simp only [decide_eq_true_eq]; omega
   ·rw [if_neg e2] at h2
    simp only [decide_eq_true_eq] at h2
    rw [if_neg (by omega)]; simp only [decide_eq_true_eq]; omega
theorem less_trans {x y z : TMatch} (h1 : less x y = true) (h2 : less y z = true) : less x z = true := by
 unfold less at h1 h2 ⊢
 by_cases e1 : x.Rule = y.Rule
 ·rw [if_pos e1] at h1
  by_cases e2 : y.Rule = z.Rule
  ·rw [if_pos e2] at h2
   rw [if_pos (e1.trans e2)]
   by_cases l1 : x.Ids.length = y.Ids.length
   ·rw [if_pos l1] at h1
    by_cases l2 : y.Ids.length = z.Ids.length
    ·rw [if_pos l2] at h2
     rw [if_pos (l1.trans l2)]
     exact lex_trans _ _ _ h1 h2 l1 l2
    ·rw [if_neg l2] at h2
     rw [if_neg (by omega)]
     simp only [decide_eq_true_eq] at h2 ⊢; omega
   ·rw [if_neg l1] at h1
    simp only [decide_eq_true_eq] at h1
    by_cases l2 : y.Ids.length = z.Ids.length
    ·rw [if_neg (by omega)]; simp only [decide_eq_true_eq]; omega
    ·rw [if_neg l2] at h2
     simp only [decide_eq_true_eq] at h2
     rw [if_neg (by omega)]; simp only [decide_eq_true_eq]; omega
  ·rw [if_neg e2] at h2
   rw [if_neg (by omega)]
   simp only [decide_eq_true_eq] at h2 ⊢; omega
 ·rw [if_neg e1] at h1
  simp only [decide_eq_true_eq] at h1
  by_cases e2 : y.Rule = z.Rule
  ·rw [if_neg (by omega)]; simp only [decide_eq_true_eq]; omega
  ·rw [if_neg e2] at h2
   simp only [decide_eq_true_eq] at h2
   rw [if_neg (by omega)]; simp only [decide_eq_true_eq]; omega
theorem cmpL {N : Nat} (x y : List Int) (hl : x.length = y.length) (hm : x.length ≤ 1048576) : ∀ n i : Nat, i ≤ x.length → x.length - i < n → ∃ c, m_sl_Compare_Sint_int_l1 N x y n i = some c ∧ decide (c < 0) = lexlt (x.drop i) (y.drop i) := by
 intro n
 induction n with
 | zero => intro i _ h; omega
 | succ n ih =>
  intro i hi hn
  simp only [m_sl_Compare_Sint_int_l1]
  by_cases hlt : i < x.length
  ·have hlt' : i < y.length := by omega
   have c1 : decide ((i : Int) < (x.length : Int)) = true := decide_eq_true (by omega)
   have c2 : decide ((y.length : Int) ≤ (i : Int)) = false := decide_eq_false (by omega)
   rw [List.drop_eq_getElem_cons hlt, List.drop_eq_getElem_cons hlt', lexlt]
   simp only [c1, c2, if_true, Bool.false_eq_true, if_false, idx_nat_lt hlt, idx_nat_lt hlt', Option.bind_some, cmp_eq, wr1 i (by omega)]
   by_cases he : x[i] = y[i]
   ·have e0 : cmp y[i] y[i] = 0 := by unfold cmp; simp
    simp only [e0, he, decide_true, Bool.not_true, Bool.false_eq_true, if_false, if_true]
    exact ih (i + 1) (by omega) (by omega)
   ·have e0 : cmp x[i] y[i] ≠ 0 := by unfold cmp; split <;> (try split) <;> omega
    simp only [e0, he, decide_false, Bool.not_false, if_true, if_false]
    refine ⟨_, rfl, ?_⟩
    rw [decide_eq_decide]
    unfold cmp; split <;> (try split) <;> omega
  ·have c1 : decide ((i : Int) < (x.length : Int)) = false := decide_eq_false (by omega)
   have c2 : decide ((x.length : Int) < (y.length : Int)) = false := decide_eq_false (by omega)
   simp only [c1, c2, Bool.false_eq_true, if_false]
   rw [List.drop_of_length_le (by omega), List.drop_of_length_le (by omega)]
   exact ⟨0, rfl, rfl⟩
def same (x y : TMatch) : Bool := decide (x.Rule = y.Rule) && decide (x.Ids = y.Ids)
theorem less_tot (x y : TMatch) : (less x y || less y x) = !same x y := by
 unfold less same
 by_cases hr : x.Rule = y.Rule
 ·by_cases hl : x.Ids.length = y.Ids.length
  ·simp only [hr, hl, if_true, decide_true, Bool.true_and]; exact lex_tot _ _ hl
  ·have hl' : ¬ y.Ids.length = x.Ids.length := fun e => hl e.symm
   have hd : ¬ x.Ids = y.Ids := fun e => hl (by rw [e])
   simp only [hr, hl, hl', hd, if_true, if_false, decide_true, decide_false, Bool.true_and, Bool.not_false]
   rw [← Bool.decide_or, decide_eq_true_eq]; omega
 ·have hr' : ¬ y.Rule = x.Rule := fun e => hr e.symm
  simp only [hr, hr', if_false, decide_false, Bool.false_and, Bool.not_false]
  rw [← Bool.decide_or, decide_eq_true_eq]; omega
variable {α : Type}
structure Ordr (lt : α → α → Bool) : Prop where
 asymm : ∀ a b, lt a b = true → lt b a = false
 trans : ∀ a b c, lt b a = false → lt c b = false → lt c a = false
abbrev Srt (lt : α → α → Bool) (l : List α) : Prop := l.Pairwise fun a b => lt b a = false
variable {lt : α → α → Bool}
theorem Srt.last (h : Ordr lt) {l : List α} (hs : Srt lt l) {y z : α} (hl : l[l.length - 1]? = some z) (hz : lt y z = false) : ∀ x ∈ l, lt y x = false := by
 intro x hx
 obtain ⟨i, hi, rfl⟩ := List.getElem_of_mem hx
 by_cases c : i = l.length - 1
 ·subst c
  rw [List.getElem?_eq_getElem hi] at hl
  cases hl
  exact hz
 ·have hlt : l.length - 1 < l.length := by omega
  rw [List.getElem?_eq_getElem hlt] at hl
  cases hl
  exact h.trans _ _ _ (List.pairwise_iff_getElem.1 hs i (l.length - 1) hi hlt (by omega)) hz
theorem Srt.first (h : Ordr lt) {l : List α} (hs : Srt lt l) {y z : α} (hl : l[0]? = some z) (hz : lt z y = false) : ∀ x ∈ l, lt x y = false := by
 intro x hx
 obtain ⟨i, hi, rfl⟩ := List.getElem_of_mem hx
 by_cases c : i = 0
 ·subst c
  rw [List.getElem?_eq_getElem hi] at hl
  cases hl
  exact hz
 ·have hlt : 0 < l.length := by omega
  rw [List.getElem?_eq_getElem hlt] at hl
  cases hl
  exact h.trans _ _ _ hz (List.pairwise_iff_getElem.1 hs 0 i hlt hi (by omega))
theorem split_ok (h : Ordr lt) {X Y : List α} (hX : Srt lt X) (hY : Srt lt Y) {s t : Nat} (hs : s ≤ X.length) (ht : t ≤ Y.length)
  (h1 : ∀ x y, 1 ≤ s → X[s - 1]? = some x → Y[t]? = some y → lt y x = false) (h2 : ∀ x y, 1 ≤ t → Y[t - 1]? = some y → X[s]? = some x → lt x y = false)
  {Z1 Z2 : List α} (s1 : Srt lt Z1) (p1 : Z1.Perm (X.take s ++ Y.take t)) (s2 : Srt lt Z2) (p2 : Z2.Perm (X.drop s ++ Y.drop t)) :
  Srt lt (Z1 ++ Z2) ∧ (Z1 ++ Z2).Perm (X ++ Y) := by
 have sX : Srt lt (X.take s ++ X.drop s) := by rw [List.take_append_drop]; exact hX
 have sY : Srt lt (Y.take t ++ Y.drop t) := by rw [List.take_append_drop]; exact hY
 obtain ⟨x1, x2, x3⟩ := List.pairwise_append.1 sX
 obtain ⟨y1, y2, y3⟩ := List.pairwise_append.1 sY
 have a1 : ∀ x ∈ X.take s, ∀ y ∈ Y.drop t, lt y x = false := by
  intro x hx y hy
  have ls : (X.take s).length = s := by simp; omega
  have hs1 : 1 ≤ s := by
   have := List.length_pos_of_mem hx
   omega
  have ht1 : t < Y.length := by
   have := List.length_pos_of_mem hy
   simp at this; omega
  have e1 : (X.take s)[(X.take s).length - 1]? = some (X[s - 1]'(by omega)) := by
   rw [ls, List.getElem?_take, if_pos (by omega), List.getElem?_eq_getElem]
  have e2 : (Y.drop t)[0]? = some (Y[t]'ht1) := by
   rw [List.getElem?_drop, Nat.add_zero, List.getElem?_eq_getElem]
  have k0 := h1 _ _ hs1 (List.getElem?_eq_getElem (by omega)) (List.getElem?_eq_getElem ht1)
  have k1 := Srt.first h y2 e2 k0 y hy
  exact Srt.last h x1 e1 k1 x hx
 have a2 : ∀ y ∈ Y.take t, ∀ x ∈ X.drop s, lt x y = false := by
  intro y hy x hx
  have lt' : (Y.take t).length = t := by simp; omega
  have ht1 : 1 ≤ t := by
   have := List.length_pos_of_mem hy
   omega
  have hs1 : s < X.length := by
   have := List.length_pos_of_mem hx
   simp at this; omega
  have e1 : (Y.take t)[(Y.take t).length - 1]? = some (Y[t - 1]'(by omega)) := by
   rw [lt', List.getElem?_take, if_pos (by omega), List.getElem?_eq_getElem]
  have e2 : (X.drop s)[0]? = some (X[s]'hs1) := by
   rw [List.getElem?_drop, Nat.add_zero, List.getElem?_eq_getElem]
  have k0 := h2 _ _ ht1 (List.getElem?_eq_getElem (by omega)) (List.getElem?_eq_getElem hs1)
  have k1 := Srt.first h x2 e2 k0 x hx
  exact Srt.last h y1 e1 k1 y hy
 refine ⟨List.pairwise_append.2 ⟨s1, s2, fun a ha b hb => ?_⟩, ?_⟩
 ·rcases List.mem_append.1 (p1.mem_iff.1 ha) with ha | ha <;> rcases List.mem_append.1 (p2.mem_iff.1 hb) with hb | hb
  ·exact x3 a ha b hb
  ·exact a1 a ha b hb
  ·exact a2 a ha b hb
  ·exact y3 a ha b hb
 ·have e : (X ++ Y).Perm ((X.take s ++ Y.take t) ++ (X.drop s ++ Y.drop t)) := by
   have e0 : X ++ Y = (X.take s ++ X.drop s) ++ (Y.take t ++ Y.drop t) := by rw [List.take_append_drop, List.take_append_drop]
   rw [e0]
   simp only [List.append_assoc]
   refine List.Perm.append_left _ ?_
   rw [← List.append_assoc, ← List.append_assoc]
   exact List.Perm.append_right _ List.perm_append_comm
  exact (p1.append p2).trans e.symm
theorem put_ok (h : Ordr lt) {x : α} {Y : List α} (hY : Srt lt Y) {k : Nat} (hk : k ≤ Y.length) (h1 : ∀ y, 1 ≤ k → Y[k - 1]? = some y → lt x y = false) (h2 : ∀ y, Y[k]? = some y → lt y x = false) :
  Srt lt (Y.take k ++ x :: Y.drop k) ∧ (Y.take k ++ x :: Y.drop k).Perm (x :: Y) := by
 have sY : Srt lt (Y.take k ++ Y.drop k) := by rw [List.take_append_drop]; exact hY
 obtain ⟨y1, y2, y3⟩ := List.pairwise_append.1 sY
 have lk : (Y.take k).length = k := by simp; omega
 refine ⟨List.pairwise_append.2 ⟨y1, List.pairwise_cons.2 ⟨fun y hy => ?_, y2⟩, fun a ha b hb => ?_⟩, ?_⟩
 ·have hk1 : k < Y.length := by
   have := List.length_pos_of_mem hy
   simp at this; omega
  exact Srt.first h y2 (z := Y[k]) (by rw [List.getElem?_drop, Nat.add_zero, List.getElem?_eq_getElem]) (h2 _ (List.getElem?_eq_getElem hk1)) y hy
 ·rcases List.mem_cons.1 hb with rfl | hb
  ·have hk1 : 1 ≤ k := by
    have := List.length_pos_of_mem ha
    omega
   exact Srt.last h y1 (z := Y[k - 1]'(by omega)) (by rw [lk, List.getElem?_take, if_pos (by omega), List.getElem?_eq_getElem]) (h1 _ hk1 (List.getElem?_eq_getElem (by omega))) a ha
  ·exact y3 a ha b hb
 ·have : (Y.take k ++ x :: Y.drop k).Perm (x :: (Y.take k ++ Y.drop k)) := List.perm_middle
  rwa [List.take_append_drop] at this
def swp (l : List α) (i j : Nat) : List α := match l[i]?, l[j]? with
 | some x, some y => (l.set i y).set j x
 | _, _ => l
theorem swp_at {P Q R : List α} {x y : α} : swp (P ++ x :: (Q ++ y :: R)) P.length (P.length + 1 + Q.length) = P ++ y :: (Q ++ x :: R) := by
 unfold swp
 have e1 : (P ++ x :: (Q ++ y :: R))[P.length]? = some x := by simp
 have e2 : (P ++ x :: (Q ++ y :: R))[P.length + 1 + Q.length]? = some y := by
  rw [List.getElem?_append_right (by omega), show P.length + 1 + Q.length - P.length = Q.length + 1 by omega, List.getElem?_cons_succ]
  simp
 rw [e1, e2]
 simp only
 rw [List.set_append_right _ _ (by omega), Nat.sub_self, List.set_cons_zero, List.set_append_right _ _ (by omega), show P.length + 1 + Q.length - P.length = Q.length + 1 by omega, List.set_cons_succ, List.set_append_right _ _ (by omega), Nat.sub_self, List.set_cons_zero]
def swpR (l : List α) (a b : Nat) : Nat → Nat → List α
 | _, 0 => l
 | k, n + 1 => swpR (swp l (a + k) (b + k)) a b (k + 1) n
theorem swpR_at : ∀ (U V U0 V0 : List α) {P M Q : List α}, U.length = V.length → U0.length = V0.length →
  swpR (P ++ V0 ++ U ++ M ++ U0 ++ V ++ Q) P.length (P.length + V0.length + U.length + M.length) U0.length U.length = P ++ V0 ++ V ++ M ++ U0 ++ U ++ Q
 | [], [], U0, V0, P, M, Q, _, _ => by simp [swpR]
 | u :: U, v :: V, U0, V0, P, M, Q, h, h0 => by
  simp only [List.length_cons] at h
  have hs : swp (P ++ V0 ++ (u :: U) ++ M ++ U0 ++ (v :: V) ++ Q) (P.length + U0.length) (P.length + V0.length + (U.length + 1) + M.length + U0.length) = P ++ V0 ++ (v :: U) ++ M ++ U0 ++ (u :: V) ++ Q := by
   have := swp_at (P := P ++ V0) (Q := U ++ M ++ U0) (R := V ++ Q) (x := u) (y := v)
   simp only [List.append_assoc, List.cons_append, List.length_append] at this ⊢
   rw [h0]
   rw [← this]
   congr 1
   omega
  show swpR (swp _ (P.length + U0.length) _) _ _ (U0.length + 1) U.length = _
  simp only [List.length_cons]
  rw [hs]
  have ih := swpR_at U V (U0 ++ [u]) (V0 ++ [v]) (P := P) (M := M) (Q := Q) (by omega) (by simp; omega)
  simp only [List.append_assoc, List.cons_append, List.nil_append, List.length_append, List.length_cons, List.length_nil] at ih ⊢
  rw [show P.length + V0.length + (U.length + 1) + M.length = P.length + (V0.length + (0 + 1)) + U.length + M.length by omega, show U0.length + 1 = U0.length + (0 + 1) by omega]
  exact ih
 | [], v :: V, _, _, _, _, _, h, _ => by simp at h
 | u :: U, [], _, _, _, _, _, h, _ => by simp at h
theorem swpR_ok {U V P M Q : List α} (h : U.length = V.length) : swpR (P ++ U ++ M ++ V ++ Q) P.length (P.length + U.length + M.length) 0 U.length = P ++ V ++ M ++ U ++ Q := by
 have := swpR_at U V [] [] (P := P) (M := M) (Q := Q) h rfl
 simpa using this
def rot (l : List α) (m : Nat) : Nat → Nat → Nat → List α
 | 0, _, _ => l
 | f + 1, i, j => if i = j then swpR l (m - i) m 0 i else if j < i then rot (swpR l (m - i) m 0 j) m f (i - j) j else rot (swpR l (m - i) (m + j - i) 0 i) m f i (j - i)
theorem rot_ok : ∀ (f : Nat) (U V P Q : List α), 0 < U.length → 0 < V.length → U.length + V.length ≤ f → rot (P ++ U ++ V ++ Q) (P.length + U.length) f U.length V.length = P ++ V ++ U ++ Q
 | 0, U, V, P, Q, h1, h2, h3 => by omega
 | f + 1, U, V, P, Q, h1, h2, h3 => by
  unfold rot
  by_cases c : U.length = V.length
  ·rw [if_pos c]
   have := swpR_ok (P := P) (M := []) (Q := Q) c
   simp only [List.append_nil, List.length_nil, Nat.add_zero] at this
   rw [Nat.add_sub_cancel]
   exact this
  ·rw [if_neg c]
   by_cases c2 : V.length < U.length
   ·rw [if_pos c2, Nat.add_sub_cancel]
    -- the first of U changes with V
    obtain ⟨U1, U2, rfl, hl⟩ : ∃ U1 U2, U = U1 ++ U2 ∧ U1.length = V.length := ⟨U.take V.length, U.drop V.length, by simp, by simp; omega⟩
    simp only [List.length_append] at h3 c2 ⊢
    have e := swpR_ok (P := P) (M := U2) (Q := Q) hl
    rw [hl] at e
    have e' : swpR (P ++ (U1 ++ U2) ++ V ++ Q) P.length (P.length + (U1.length + U2.length)) 0 V.length = P ++ V ++ U2 ++ U1 ++ Q := by
     rw [← e, hl]
     simp only [List.append_assoc, Nat.add_assoc]
    rw [e']
    have ih := rot_ok f U2 U1 (P ++ V) Q (by omega) (by omega) (by omega)
    rw [show U1.length + U2.length - V.length = U2.length by omega]
    rw [List.length_append] at ih
    rw [show P.length + (U1.length + U2.length) = P.length + V.length + U2.length by omega, ← hl]
    rw [← hl] at ih
    rw [ih]
    simp only [List.append_assoc]
   ·rw [if_neg c2, Nat.add_sub_cancel]
    obtain ⟨V1, V2, rfl, hl⟩ : ∃ V1 V2, V = V1 ++ V2 ∧ V2.length = U.length := ⟨V.take (V.length - U.length), V.drop (V.length - U.length), by simp, by simp; omega⟩
    simp only [List.length_append] at h3 c c2 ⊢
    have e := swpR_ok (U := U) (V := V2) (P := P) (M := V1) (Q := Q) hl.symm
    have e' : swpR (P ++ U ++ (V1 ++ V2) ++ Q) P.length (P.length + U.length + (V1.length + V2.length) - U.length) 0 U.length = P ++ V2 ++ V1 ++ U ++ Q := by
     rw [← e, show P.length + U.length + (V1.length + V2.length) - U.length = P.length + U.length + V1.length by omega]
     simp only [List.append_assoc]
    rw [e']
    have ih := rot_ok f V2 V1 P (U ++ Q) (by omega) (by omega) (by omega)
    rw [show V1.length + V2.length - U.length = V1.length by omega, ← hl]
    simp only [List.append_assoc] at ih ⊢
    exact ih
theorem less_sB {N : Nat} (hN : 1048578 ≤ N) (x y : TMatch) (h : x.Ids.length ≤ 1048576) : m_s_LessMatch N x y = some (less x y) := by
 unfold m_s_LessMatch less
 by_cases hr : x.Rule = y.Rule
 ·have dr : decide (x.Rule = y.Rule) = true := decide_eq_true hr
  rw [dr, if_pos hr]
  simp only [Bool.not_true, Bool.false_eq_true, if_false]
  by_cases hl : x.Ids.length = y.Ids.length
  ·have dl : decide ((x.Ids.length : Int) = (y.Ids.length : Int)) = true := decide_eq_true (by omega)
   rw [dl, if_pos hl]
   simp only [Bool.not_true, Bool.false_eq_true, if_false]
   have lp : ∀ n i : Nat, i ≤ x.Ids.length → x.Ids.length - i < n → m_s_LessMatch_l1 N x y n i = some (lexlt (x.Ids.drop i) (y.Ids.drop i)) := by
    intro n
    induction n with
    | zero => intro i _ h; omega
    | succ n ih =>
     intro i hi hn
     simp only [m_s_LessMatch_l1]
     by_cases hlt : i < x.Ids.length
     ·have hlt' : i < y.Ids.length := by omega
      have c1 : decide ((i : Int) < (x.Ids.length : Int)) = true := decide_eq_true (by omega)
      rw [List.drop_eq_getElem_cons hlt, List.drop_eq_getElem_cons hlt', lexlt]
      simp only [c1, if_true, idx_nat_lt hlt, idx_nat_lt hlt', Option.bind_some, wr1 i (by omega)]
      by_cases he : x.Ids[i] = y.Ids[i]
      ·simp only [he, decide_true, Bool.not_true, Bool.false_eq_true, if_false, if_true]
       exact ih (i + 1) (by omega) (by omega)
      ·simp only [he, decide_false, Bool.not_false, if_true, if_false]
     ·have c1 : decide ((i : Int) < (x.Ids.length : Int)) = false := decide_eq_false (by omega)
      rw [List.drop_of_length_le (by omega), List.drop_of_length_le (by omega)]
      simp only [c1, Bool.false_eq_true, if_false, lexlt]
   have := lp N 0 (by omega) (by omega)
   simpa using this
  ·have dl : decide ((x.Ids.length : Int) = (y.Ids.length : Int)) = false := decide_eq_false (by omega)
   rw [dl, if_neg hl]
   simp only [Bool.not_false, if_true]
   congr 1
   rw [decide_eq_decide]; omega
 ·have dr : decide (x.Rule = y.Rule) = false := decide_eq_false hr
  rw [dr, if_neg hr]
  simp only [Bool.not_false, if_true]
theorem cmp_less {N : Nat} (hN : 1048578 ≤ N) (x y : TMatch) (h : x.Ids.length ≤ 1048576) : ∃ v, m_i_compareMatches N x y = some v ∧ less x y = decide (v < 0) := by
 unfold m_i_compareMatches less m_sl_Compare_Sint_int
 simp only [cmp_eq, Option.bind_some, or_eq hN]
 by_cases hr : x.Rule = y.Rule
 ·have e0 : cmp x.Rule y.Rule = 0 := by unfold cmp; rw [hr]; simp
  rw [if_pos hr, if_pos e0]
  by_cases hl : x.Ids.length = y.Ids.length
  ·have e1 : cmp (x.Ids.length : Int) (y.Ids.length : Int) = 0 := by unfold cmp; rw [hl]; simp
   obtain ⟨c, h1, h2⟩ := cmpL (N := N) x.Ids y.Ids hl h N 0 (by omega) (by omega)
   simp only [List.drop_zero] at h2
   rw [show ((0 : Nat) : Int) = 0 from rfl] at h1
   rw [if_pos hl, e1]
   simp only [decide_true, if_true, h1, Option.bind_some]
   exact ⟨c, rfl, h2.symm⟩
  ·have e1 : cmp (x.Ids.length : Int) (y.Ids.length : Int) ≠ 0 := by unfold cmp; split <;> (try split) <;> omega
   rw [if_neg hl]
   simp only [e1, decide_false, Bool.false_eq_true, if_false]
   refine ⟨_, rfl, ?_⟩
   rw [decide_eq_decide]
   unfold cmp; split <;> (try split) <;> omega
 ·have e0 : cmp x.Rule y.Rule ≠ 0 := by unfold cmp; split <;> (try split) <;> omega
  rw [if_neg hr, if_neg e0]
  simp only [e0, decide_false, Bool.false_eq_true, if_false]
  refine ⟨_, rfl, ?_⟩
  rw [decide_eq_decide]
  unfold cmp; split <;> (try split) <;> omega
theorem less_of_same {x y z : TMatch} (h : same x y = true) : less x z = less y z ∧ less z x = less z y := by
 unfold same at h
 simp only [Bool.and_eq_true, decide_eq_true_eq] at h
 unfold less
 rw [h.1, h.2]
 exact ⟨rfl, rfl⟩
theorem less_ordr : Ordr less := by
 refine ⟨fun a b h => ?_, fun a b c h1 h2 => ?_⟩
 ·have := less_anti a b
  rw [h, Bool.true_and] at this; exact this
 ·cases e : less c a with
  | false => rfl
  | true =>
   have ht := less_tot c b
   rw [h2, Bool.false_or] at ht
   cases hs : same c b with
   | true =>
    have := (less_of_same hs (z := a)).1
    rw [e] at this; rw [← this] at h1; cases h1
   | false =>
    rw [hs] at ht
    have := less_trans ht e
    rw [h1] at this; cases this
variable {α : Type} {lt : α → α → Bool}
def bsr (ask : Nat → Bool) : Nat → Nat → Nat → Nat
 | 0, i, _ => i
 | f + 1, i, j => if i < j then (if ask ((i + j) / 2) = true then bsr ask f ((i + j) / 2 + 1) j else bsr ask f i ((i + j) / 2)) else i
theorem bsr_ok (ask : Nat → Bool) (lo hi : Nat) : ∀ (f i j : Nat), lo ≤ i → i ≤ j → j ≤ hi → j - i < f → (i = lo ∨ ask (i - 1) = true) → (j = hi ∨ ask j = false) →
  lo ≤ bsr ask f i j ∧ bsr ask f i j ≤ hi ∧ (bsr ask f i j = lo ∨ ask (bsr ask f i j - 1) = true) ∧ (bsr ask f i j = hi ∨ ask (bsr ask f i j) = false)
 | 0, i, j, _, _, _, h, _, _ => by omega
 | f + 1, i, j, h1, h2, h3, h4, h5, h6 => by
  unfold bsr
  by_cases c : i < j
  ·rw [if_pos c]
   cases e : ask ((i + j) / 2) with
   | true =>
    rw [if_pos rfl]
    exact bsr_ok ask lo hi f _ j (by omega) (by omega) h3 (by omega) (.inr (by rw [Nat.add_sub_cancel]; exact e)) h6
   | false =>
    rw [if_neg (by simp)]
    exact bsr_ok ask lo hi f i _ h1 (by omega) (by omega) (by omega) h5 (.inr e)
  ·rw [if_neg c]
   have : i = j := by omega
   subst this
   exact ⟨h1, h3, h5, h6⟩
def askL (lt : α → α → Bool) (l : List α) (i j : Nat) : Bool := match l[i]?, l[j]? with
 | some x, some y => lt x y
 | _, _ => false
theorem askL_some {l : List α} {i j : Nat} {x y : α} (h1 : l[i]? = some x) (h2 : l[j]? = some y) : askL lt l i j = lt x y := by
 unfold askL; rw [h1, h2]
def shR (l : List α) : Nat → Nat → List α
 | _, 0 => l
 | k, n + 1 => shR (swp l k (k + 1)) (k + 1) n
def shL (l : List α) : Nat → Nat → List α
 | _, 0 => l
 | k, n + 1 => shL (swp l (k - 1) k) (k - 1) n
theorem swp_one {P Q : List α} {x y : α} : swp (P ++ x :: y :: Q) P.length (P.length + 1) = P ++ y :: x :: Q := by
 have := swp_at (P := P) (Q := []) (R := Q) (x := x) (y := y)
 simpa using this
theorem shR_ok : ∀ (U P Q : List α) (x : α), shR (P ++ x :: (U ++ Q)) P.length U.length = P ++ U ++ x :: Q
 | [], P, Q, x => by simp [shR]
 | u :: U, P, Q, x => by
  show shR (swp (P ++ x :: u :: (U ++ Q)) P.length (P.length + 1)) (P.length + 1) U.length = _
  rw [swp_one]
  have := shR_ok U (P ++ [u]) Q x
  simp only [List.append_assoc, List.cons_append, List.nil_append, List.length_append, List.length_cons, List.length_nil] at this ⊢
  exact this
theorem shL_ok : ∀ (n : Nat) (U P Q : List α) (x : α), U.length = n → shL (P ++ U ++ x :: Q) (P.length + n) n = P ++ x :: (U ++ Q)
 | 0, U, P, Q, x, h => by
  have : U = [] := List.length_eq_zero_iff.1 h
  subst this; simp [shL]
 | n + 1, U, P, Q, x, h => by
  have hne : U ≠ [] := by rintro rfl; simp at h
  obtain ⟨V, u, rfl⟩ : ∃ V u, U = V ++ [u] := ⟨U.dropLast, U.getLast hne, (List.dropLast_concat_getLast hne).symm⟩
  simp at h
  show shL (swp (P ++ (V ++ [u]) ++ x :: Q) (P.length + (n + 1) - 1) (P.length + (n + 1))) (P.length + (n + 1) - 1) n = _
  have e := swp_one (P := P ++ V) (Q := Q) (x := u) (y := x)
  simp only [List.append_assoc, List.cons_append, List.nil_append, List.length_append, h] at e ⊢
  rw [show P.length + (n + 1) - 1 = P.length + n by omega, show P.length + (n + 1) = P.length + n + 1 by omega, e]
  have ih := shL_ok n V P (u :: Q) x h
  simp only [List.append_assoc, List.cons_append] at ih
  exact ih
def symM (lt : α → α → Bool) : Nat → List α → Nat → Nat → Nat → List α
 | 0, l, _, _, _ => l
 | f + 1, l, a, m, b =>
  if m - a = 1 then
   let i := bsr (fun h => askL lt l h a) (b - m + 1) m b
   shR l a (i - 1 - a)
  else if b - m = 1 then
   let i := bsr (fun h => !askL lt l m h) (m - a + 1) a m
   shL l m (m - i)
  else
   let mid := (a + b) / 2
   let n := mid + m
   let s0 := if mid < m then n - b else a
   let r0 := if mid < m then mid else m
   let s := bsr (fun c => !askL lt l (n - 1 - c) c) (r0 - s0 + 1) s0 r0
   let e := n - s
   let l1 := if s < m ∧ m < e then rot l m (e - s) (m - s) (e - m) else l
   let l2 := if a < s ∧ s < mid then symM lt f l1 a s mid else l1
   if mid < e ∧ e < b then symM lt f l2 mid e b else l2
theorem at_X {P X R : List α} {c : Nat} (h : c < X.length) : (P ++ (X ++ R))[P.length + c]? = X[c]? := by
 rw [List.getElem?_append_right (by omega), Nat.add_sub_cancel_left, List.getElem?_append_left h]
theorem at_Y {P X Y Q : List α} {c : Nat} (h : c < Y.length) : (P ++ (X ++ (Y ++ Q)))[P.length + X.length + c]? = Y[c]? := by
 rw [List.getElem?_append_right (by omega), List.getElem?_append_right (by omega), show P.length + X.length + c - P.length - X.length = c by omega, List.getElem?_append_left h]
theorem symM_ok (h : Ordr lt) : ∀ (f : Nat) (X Y P Q : List α), Srt lt X → Srt lt Y → 0 < X.length → 0 < Y.length → X.length + Y.length ≤ f →
  ∃ Z, symM lt f (P ++ (X ++ (Y ++ Q))) P.length (P.length + X.length) (P.length + X.length + Y.length) = P ++ (Z ++ Q) ∧ Srt lt Z ∧ Z.Perm (X ++ Y)
 | 0, X, Y, P, Q, _, _, h1, h2, h3 => by omega
 | f + 1, X, Y, P, Q, sX, sY, h1, h2, h3 => by
  unfold symM
  by_cases c1 : P.length + X.length - P.length = 1
  ·rw [if_pos c1]
   have hx : X.length = 1 := by omega
   obtain ⟨x, rfl⟩ : ∃ x, X = [x] := List.length_eq_one_iff.1 hx
   simp only [List.length_cons, List.length_nil]
   obtain ⟨k1, k2, k3, k4⟩ := bsr_ok (fun h => askL lt (P ++ ([x] ++ (Y ++ Q))) h P.length) (P.length + (0 + 1)) (P.length + (0 + 1) + Y.length) (P.length + (0 + 1) + Y.length - (P.length + (0 + 1)) + 1) (P.length + (0 + 1)) (P.length + (0 + 1) + Y.length)
    (Nat.le_refl _) (by omega) (Nat.le_refl _) (by omega) (.inl rfl) (.inl rfl)
   generalize hi : bsr (fun h => askL lt (P ++ ([x] ++ (Y ++ Q))) h P.length) (P.length + (0 + 1) + Y.length - (P.length + (0 + 1)) + 1) (P.length + (0 + 1)) (P.length + (0 + 1) + Y.length) = i at k1 k2 k3 k4
   obtain ⟨k, rfl⟩ : ∃ k, i = P.length + 1 + k := ⟨i - (P.length + 1), by omega⟩
   have hk : k ≤ Y.length := by omega
   have e0 : (P ++ ([x] ++ (Y ++ Q)))[P.length]? = some x := by simp
   have eY : ∀ c, c < Y.length → (P ++ ([x] ++ (Y ++ Q)))[P.length + 1 + c]? = Y[c]? := fun c hc => at_Y (X := [x]) hc
   obtain ⟨q1, q2⟩ := put_ok h (x := x) sY hk (fun y hk1 hy => by
    rcases k3 with k3 | k3
    ·omega
    ·have e1 : (P ++ ([x] ++ (Y ++ Q)))[P.length + 1 + k - 1]? = some y := by
      rw [show P.length + 1 + k - 1 = P.length + 1 + (k - 1) by omega, eY _ (by omega)]; exact hy
     rw [askL_some e1 e0] at k3
     exact h.asymm _ _ k3) (fun y hy => by
    have hlt := (List.getElem?_eq_some_iff.1 hy).1
    rcases k4 with k4 | k4
    ·omega
    ·rw [askL_some (by rw [eY _ hlt]; exact hy) e0] at k4
     exact k4)
   refine ⟨_, ?_, q1, by simpa using q2⟩
   have := shR_ok (Y.take k) P (Y.drop k ++ Q) x
   rw [← List.append_assoc (Y.take k), List.take_append_drop] at this
   have hl : (Y.take k).length = k := by simp; omega
   rw [hl] at this
   rw [show P.length + 1 + k - 1 - P.length = k by omega]
   simp only [List.cons_append, List.nil_append, List.append_assoc] at this ⊢
   exact this
  rw [if_neg c1]
  by_cases c2 : P.length + X.length + Y.length - (P.length + X.length) = 1
  ·rw [if_pos c2]
   obtain ⟨y, rfl⟩ : ∃ y, Y = [y] := List.length_eq_one_iff.1 (by omega)
   obtain ⟨k1, k2, k3, k4⟩ := bsr_ok (fun h => !askL lt (P ++ (X ++ ([y] ++ Q))) (P.length + X.length) h) P.length (P.length + X.length) (P.length + X.length - P.length + 1) P.length (P.length + X.length)
    (Nat.le_refl _) (by omega) (Nat.le_refl _) (by omega) (.inl rfl) (.inl rfl)
   simp only
   generalize hi : bsr (fun h => !askL lt (P ++ (X ++ ([y] ++ Q))) (P.length + X.length) h) (P.length + X.length - P.length + 1) P.length (P.length + X.length) = i at k1 k2 k3 k4
   obtain ⟨k, rfl⟩ : ∃ k, i = P.length + k := ⟨i - P.length, by omega⟩
   have hk : k ≤ X.length := by omega
   have e0 : (P ++ (X ++ ([y] ++ Q)))[P.length + X.length]? = some y := by
    have := at_Y (P := P) (X := X) (Y := [y]) (Q := Q) (c := 0) (by simp)
    rw [Nat.add_zero] at this; exact this
   obtain ⟨q1, q2⟩ := put_ok h (x := y) sX hk (fun x hk1 hx => by
    rcases k3 with k3 | k3
    ·omega
    ·have e1 : (P ++ (X ++ ([y] ++ Q)))[P.length + k - 1]? = some x := by
      rw [show P.length + k - 1 = P.length + (k - 1) by omega, at_X (by omega)]; exact hx
     rw [askL_some e0 e1] at k3
     simpa using k3) (fun x hx => by
    have hlt := (List.getElem?_eq_some_iff.1 hx).1
    rcases k4 with k4 | k4
    ·omega
    ·rw [askL_some e0 (by rw [at_X hlt]; exact hx)] at k4
     exact h.asymm _ _ (by simpa using k4))
   refine ⟨_, ?_, q1, q2.trans (List.perm_append_comm (l₁ := [y]) (l₂ := X))⟩
   have := shL_ok (X.length - k) (X.drop k) (P ++ X.take k) Q y (by simp)
   have hl : (X.take k).length = k := by simp; omega
   simp only [List.length_append, hl] at this
   rw [show P.length + k + (X.length - k) = P.length + X.length by omega] at this
   rw [show P.length + X.length - (P.length + k) = X.length - k by omega]
   simp only [List.append_assoc, List.cons_append, List.nil_append] at this ⊢
   rw [← List.append_assoc (X.take k), List.take_append_drop] at this
   exact this
  rw [if_neg c2]
  have x2 : 2 ≤ X.length := by omega
  have y2 : 2 ≤ Y.length := by omega
  -- the middle, from P on
  obtain ⟨d, hd⟩ : ∃ d, d = (X.length + Y.length) / 2 := ⟨_, rfl⟩
  have hmid : (P.length + (P.length + X.length + Y.length)) / 2 = P.length + d := by omega
  simp only [hmid]
  have hs0 : (if P.length + d < P.length + X.length then P.length + d + (P.length + X.length) - (P.length + X.length + Y.length) else P.length) = P.length + (if d < X.length then d - Y.length else 0) := by
   by_cases c : d < X.length
   ·rw [if_pos (by omega), if_pos c]; omega
   ·rw [if_neg (by omega), if_neg c]; omega
  have hr0 : (if P.length + d < P.length + X.length then P.length + d else P.length + X.length) = P.length + (if d < X.length then d else X.length) := by
   by_cases c : d < X.length
   ·rw [if_pos (by omega), if_pos c]
   ·rw [if_neg (by omega), if_neg c]
  rw [hs0, hr0]
  obtain ⟨lo, hlo⟩ : ∃ lo, lo = (if d < X.length then d - Y.length else 0) := ⟨_, rfl⟩
  obtain ⟨hi, hhi⟩ : ∃ hi, hi = (if d < X.length then d else X.length) := ⟨_, rfl⟩
  rw [← hlo, ← hhi]
  have hb : lo ≤ hi ∧ hi ≤ X.length ∧ hi ≤ d ∧ d ≤ lo + Y.length ∧ (lo = 0 ∨ lo + Y.length = d) ∧ (hi = d ∨ hi = X.length) := by
   by_cases c : d < X.length
   ·rw [if_pos c] at hlo hhi; omega
   ·rw [if_neg c] at hlo hhi; omega
  obtain ⟨b1, b2, b3, b4, b5, b6⟩ := hb
  obtain ⟨k1, k2, k3, k4⟩ := bsr_ok (fun c => !askL lt (P ++ (X ++ (Y ++ Q))) (P.length + d + (P.length + X.length) - 1 - c) c) (P.length + lo) (P.length + hi) (P.length + hi - (P.length + lo) + 1) (P.length + lo) (P.length + hi)
   (Nat.le_refl _) (by omega) (Nat.le_refl _) (by omega) (.inl rfl) (.inl rfl)
  generalize hi' : bsr (fun c => !askL lt (P ++ (X ++ (Y ++ Q))) (P.length + d + (P.length + X.length) - 1 - c) c) (P.length + hi - (P.length + lo) + 1) (P.length + lo) (P.length + hi) = i at k1 k2 k3 k4
  obtain ⟨s, rfl⟩ : ∃ s, i = P.length + s := ⟨i - P.length, by omega⟩
  obtain ⟨t, ht⟩ : ∃ t, t = d - s := ⟨_, rfl⟩
  have hst : s ≤ X.length ∧ t ≤ Y.length ∧ s + t = d := by omega
  obtain ⟨g1, g2, g3⟩ := hst
  have he : P.length + d + (P.length + X.length) - (P.length + s) = P.length + X.length + t := by omega
  rw [he]
  -- the halves
  have H := fun {Z1 Z2 : List α} => split_ok h sX sY g1 g2 (Z1 := Z1) (Z2 := Z2) (fun x y hs1 hx hy => by
   have hty := (List.getElem?_eq_some_iff.1 hy).1
   rcases k3 with k3 | k3
   ·rcases b5 with b5 | b5 <;> omega
   ·have e1 : (P ++ (X ++ (Y ++ Q)))[P.length + d + (P.length + X.length) - 1 - (P.length + s - 1)]? = some y := by
     rw [show P.length + d + (P.length + X.length) - 1 - (P.length + s - 1) = P.length + X.length + t by omega, at_Y hty]; exact hy
    have e2 : (P ++ (X ++ (Y ++ Q)))[P.length + s - 1]? = some x := by
     rw [show P.length + s - 1 = P.length + (s - 1) by omega, at_X (by omega)]; exact hx
    rw [askL_some e1 e2] at k3
    simpa using k3) (fun x y ht1 hy hx => by
   have hsx := (List.getElem?_eq_some_iff.1 hx).1
   rcases k4 with k4 | k4
   ·rcases b6 with b6 | b6 <;> omega
   ·have e1 : (P ++ (X ++ (Y ++ Q)))[P.length + d + (P.length + X.length) - 1 - (P.length + s)]? = some y := by
     rw [show P.length + d + (P.length + X.length) - 1 - (P.length + s) = P.length + X.length + (t - 1) by omega, at_Y (by omega)]; exact hy
    have e2 : (P ++ (X ++ (Y ++ Q)))[P.length + s]? = some x := by
     rw [at_X hsx]; exact hx
    rw [askL_some e1 e2] at k4
    exact h.asymm _ _ (by simpa using k4))
  -- turned round
  have hl1 : (if P.length + s < P.length + X.length ∧ P.length + X.length < P.length + X.length + t then rot (P ++ (X ++ (Y ++ Q))) (P.length + X.length) (P.length + X.length + t - (P.length + s)) (P.length + X.length - (P.length + s)) (P.length + X.length + t - (P.length + X.length)) else P ++ (X ++ (Y ++ Q)))
    = P ++ (X.take s ++ (Y.take t ++ (X.drop s ++ (Y.drop t ++ Q)))) := by
   by_cases c : s < X.length ∧ 0 < t
   ·rw [if_pos (by omega)]
    have lX : (X.take s).length = s := by simp; omega
    have lD : (X.drop s).length = X.length - s := by simp
    have lY : (Y.take t).length = t := by simp; omega
    have := rot_ok (X.length - s + t) (X.drop s) (Y.take t) (P ++ X.take s) (Y.drop t ++ Q) (by omega) (by omega) (by omega)
    simp only [List.length_append, lX, lD, lY] at this
    rw [show P.length + X.length + t - (P.length + s) = X.length - s + t by omega, show P.length + X.length - (P.length + s) = X.length - s by omega, show P.length + X.length + t - (P.length + X.length) = t by omega]
    rw [show P.length + s + (X.length - s) = P.length + X.length by omega] at this
    simp only [List.append_assoc] at this ⊢
    rw [← List.append_assoc (Y.take t) (Y.drop t) Q, List.take_append_drop, ← List.append_assoc (X.take s) (X.drop s), List.take_append_drop] at this
    exact this
   ·rw [if_neg (by omega)]
    by_cases c0 : s < X.length
    ·have : t = 0 := by omega
     subst this
     simp only [List.take_zero, List.drop_zero, List.nil_append]
     rw [← List.append_assoc (X.take s) (X.drop s), List.take_append_drop]
    ·have : s = X.length := by omega
     subst this
     simp only [List.take_length, List.drop_length, List.nil_append]
     rw [← List.append_assoc (Y.take t) (Y.drop t) Q, List.take_append_drop]
  rw [hl1]
  have lA1 : (X.take s).length = s := by simp; omega
  have lB1 : (Y.take t).length = t := by simp; omega
  have lA2 : (X.drop s).length = X.length - s := by simp
  have lB2 : (Y.drop t).length = Y.length - t := by simp
  have sX' : Srt lt (X.take s ++ X.drop s) := by rw [List.take_append_drop]; exact sX
  have sY' : Srt lt (Y.take t ++ Y.drop t) := by rw [List.take_append_drop]; exact sY
  obtain ⟨x1, x3, -⟩ := List.pairwise_append.1 sX'
  obtain ⟨y1, y3, -⟩ := List.pairwise_append.1 sY'
  -- the first half
  obtain ⟨Z1, f1, z1, p1⟩ : ∃ Z1, (if P.length < P.length + s ∧ P.length + s < P.length + d then symM lt f (P ++ (X.take s ++ (Y.take t ++ (X.drop s ++ (Y.drop t ++ Q))))) P.length (P.length + s) (P.length + d) else P ++ (X.take s ++ (Y.take t ++ (X.drop s ++ (Y.drop t ++ Q)))))
    = P ++ (Z1 ++ (X.drop s ++ (Y.drop t ++ Q))) ∧ Srt lt Z1 ∧ Z1.Perm (X.take s ++ Y.take t) := by
   by_cases c : 0 < s ∧ 0 < t
   ·rw [if_pos (by omega)]
    obtain ⟨Z, e1, e2, e3⟩ := symM_ok h f (X.take s) (Y.take t) P (X.drop s ++ (Y.drop t ++ Q)) x1 y1 (by omega) (by omega) (by omega)
    rw [lA1, lB1, show P.length + s + t = P.length + d by omega] at e1
    exact ⟨Z, e1, e2, e3⟩
   ·rw [if_neg (by omega)]
    by_cases c0 : 0 < s
    ·have : t = 0 := by omega
     subst this
     exact ⟨X.take s, by simp, x1, by simp⟩
    ·have : s = 0 := by omega
     subst this
     exact ⟨Y.take t, by simp, y1, by simp⟩
  rw [f1]
  have lZ1 : Z1.length = d := by rw [p1.length_eq, List.length_append, lA1, lB1]; omega
  obtain ⟨Z2, f2, z2, p2⟩ : ∃ Z2, (if P.length + d < P.length + X.length + t ∧ P.length + X.length + t < P.length + X.length + Y.length then symM lt f (P ++ (Z1 ++ (X.drop s ++ (Y.drop t ++ Q)))) (P.length + d) (P.length + X.length + t) (P.length + X.length + Y.length) else P ++ (Z1 ++ (X.drop s ++ (Y.drop t ++ Q))))
    = P ++ (Z1 ++ (Z2 ++ Q)) ∧ Srt lt Z2 ∧ Z2.Perm (X.drop s ++ Y.drop t) := by
   by_cases c : s < X.length ∧ t < Y.length
   ·rw [if_pos (by omega)]
    obtain ⟨Z, e1, e2, e3⟩ := symM_ok h f (X.drop s) (Y.drop t) (P ++ Z1) Q x3 y3 (by omega) (by omega) (by omega)
    rw [List.length_append, lA2, lB2, lZ1, show P.length + d + (X.length - s) = P.length + X.length + t by omega, show P.length + X.length + t + (Y.length - t) = P.length + X.length + Y.length by omega] at e1
    simp only [List.append_assoc] at e1
    exact ⟨Z, e1, e2, e3⟩
   ·rw [if_neg (by omega)]
    by_cases c0 : s < X.length
    ·have : t = Y.length := by omega
     exact ⟨X.drop s, by simp [this], x3, by simp [this]⟩
    ·have : s = X.length := by omega
     exact ⟨Y.drop t, by simp [this], y3, by simp [this]⟩
  rw [f2]
  obtain ⟨q1, q2⟩ := H z1 p1 z2 p2
  exact ⟨Z1 ++ Z2, by simp only [List.append_assoc], q1, q2⟩
variable {α : Type} {lt : α → α → Bool}
def insD (lt : α → α → Bool) : Nat → List α → Nat → Nat → List α
 | 0, l, _, _ => l
 | f + 1, l, a, j => if a < j ∧ askL lt l j (j - 1) = true then insD lt f (swp l (j - 1) j) a (j - 1) else l
theorem insD_ok (h : Ordr lt) : ∀ (f : Nat) (P S T Q : List α) (x : α), S.length < f → Srt lt (S ++ T) → (∀ t ∈ T, lt x t = true) →
  ∃ Z, insD lt f (P ++ (S ++ x :: (T ++ Q))) P.length (P.length + S.length) = P ++ (Z ++ Q) ∧ Srt lt Z ∧ Z.Perm (x :: (S ++ T))
 | 0, P, S, T, Q, x, h1, _, _ => by omega
 | f + 1, P, S, T, Q, x, h1, h2, h3 => by
  unfold insD
  have ht : ∀ t ∈ T, lt t x = false := fun t ht => h.asymm _ _ (h3 t ht)
  by_cases c : S.length = 0
  ·have : S = [] := List.length_eq_zero_iff.1 c
   subst this
   rw [if_neg (by simp)]
   exact ⟨x :: T, by simp, List.pairwise_cons.2 ⟨ht, by simpa using h2⟩, by simp⟩
  ·have hne : S ≠ [] := by rintro rfl; simp at c
   obtain ⟨S', u, rfl⟩ : ∃ S' u, S = S' ++ [u] := ⟨S.dropLast, S.getLast hne, (List.dropLast_concat_getLast hne).symm⟩
   have e1 : (P ++ ((S' ++ [u]) ++ x :: (T ++ Q)))[P.length + (S' ++ [u]).length]? = some x := by
    rw [List.getElem?_append_right (by omega), Nat.add_sub_cancel_left, List.getElem?_append_right (Nat.le_refl _), Nat.sub_self]; rfl
   have e2 : (P ++ ((S' ++ [u]) ++ x :: (T ++ Q)))[P.length + (S' ++ [u]).length - 1]? = some u := by
    have : P.length + (S' ++ [u]).length - 1 = P.length + S'.length := by simp
    rw [this, List.getElem?_append_right (by omega), Nat.add_sub_cancel_left, List.append_assoc, List.getElem?_append_right (Nat.le_refl _), Nat.sub_self]; rfl
   rw [askL_some e1 e2]
   cases q : lt x u with
   | true =>
    rw [if_pos ⟨by simp, rfl⟩]
    have hs := swp_one (P := P ++ S') (Q := T ++ Q) (x := u) (y := x)
    have hw : swp (P ++ ((S' ++ [u]) ++ x :: (T ++ Q))) (P.length + (S' ++ [u]).length - 1) (P.length + (S' ++ [u]).length) = P ++ (S' ++ x :: ((u :: T) ++ Q)) := by
     simp only [List.append_assoc, List.cons_append, List.nil_append, List.length_append, List.length_cons, List.length_nil] at hs ⊢
     rw [show P.length + (S'.length + (0 + 1)) - 1 = P.length + S'.length by omega, show P.length + (S'.length + (0 + 1)) = P.length + S'.length + 1 by omega]
     exact hs
    rw [hw]
    have h2' : Srt lt (S' ++ (u :: T)) := by simpa using h2
    obtain ⟨Z, z1, z2, z3⟩ := insD_ok h f P S' (u :: T) Q x (by simp at h1; omega) h2' (fun t ht => by
     rcases List.mem_cons.1 ht with rfl | ht
     ·exact q
     ·exact h3 t ht)
    rw [show P.length + (S' ++ [u]).length - 1 = P.length + S'.length by simp]
    exact ⟨Z, z1, z2, by simpa using z3⟩
   | false =>
    rw [if_neg (by simp)]
    obtain ⟨s1, s2, s3⟩ := List.pairwise_append.1 h2
    refine ⟨(S' ++ [u]) ++ x :: T, by simp, List.pairwise_append.2 ⟨s1, List.pairwise_cons.2 ⟨ht, s2⟩, fun a ha b hb => ?_⟩, List.perm_middle⟩
    rcases List.mem_cons.1 hb with rfl | hb
    ·exact Srt.last h s1 (z := u) (by simp) q a ha
    ·exact s3 a ha b hb
def insS (lt : α → α → Bool) : Nat → List α → Nat → Nat → Nat → List α
 | 0, l, _, _, _ => l
 | f + 1, l, a, i, b => if i < b then insS lt f (insD lt (i - a + 1) l a i) a (i + 1) b else l
theorem insS_ok (h : Ordr lt) : ∀ (f : Nat) (P S U Q : List α), U.length < f → Srt lt S →
  ∃ Z, insS lt f (P ++ (S ++ (U ++ Q))) P.length (P.length + S.length) (P.length + S.length + U.length) = P ++ (Z ++ Q) ∧ Srt lt Z ∧ Z.Perm (S ++ U)
 | 0, P, S, U, Q, h1, _ => by omega
 | f + 1, P, S, [], Q, h1, h2 => ⟨S, by unfold insS; rw [if_neg (by simp)]; simp, h2, by simp⟩
 | f + 1, P, S, u :: U, Q, h1, h2 => by
  unfold insS
  rw [if_pos (by simp)]
  obtain ⟨Z, z1, z2, z3⟩ := insD_ok h (P.length + S.length - P.length + 1) P S [] (U ++ Q) u (by omega) (by simpa using h2) (by simp)
  simp only [List.nil_append, List.append_nil] at z1 z3
  simp only [List.cons_append]
  rw [z1]
  have hl : Z.length = S.length + 1 := by rw [z3.length_eq]; simp
  obtain ⟨W, w1, w2, w3⟩ := insS_ok h f P Z U Q (by simp at h1; omega) z2
  rw [hl] at w1
  rw [show P.length + S.length + 1 = P.length + (S.length + 1) by omega, show P.length + S.length + (u :: U).length = P.length + (S.length + 1) + U.length by simp; omega]
  refine ⟨W, w1, w2, w3.trans ?_⟩
  refine (z3.append_right U).trans ?_
  exact (List.perm_middle (l₁ := S) (l₂ := U) (a := u)).symm
theorem insS_all (h : Ordr lt) (P X Q : List α) {f : Nat} (hf : X.length < f) : ∃ Z, insS lt f (P ++ (X ++ Q)) P.length (P.length + 1) (P.length + X.length) = P ++ (Z ++ Q) ∧ Srt lt Z ∧ Z.Perm X := by
 cases X with
 | nil =>
  refine ⟨[], ?_, List.Pairwise.nil, List.Perm.refl _⟩
  cases f with
  | zero => omega
  | succ f => unfold insS; rw [if_neg (by simp)]
 | cons x X =>
  obtain ⟨Z, z1, z2, z3⟩ := insS_ok h f P [x] X Q (by simp at hf; omega) (by simp)
  refine ⟨Z, ?_, z2, by simpa using z3⟩
  simp only [List.length_cons, List.length_nil, List.cons_append, List.nil_append] at z1 ⊢
  rw [show P.length + (X.length + 1) = P.length + (0 + 1) + X.length by omega]
  exact z1
def Blks (lt : α → α → Bool) (s : Nat) (l : List α) : Prop := ∀ k, Srt lt ((l.drop (k * s)).take s)
theorem Blks.cons {s : Nat} {Z R : List α} (hZ : Srt lt Z) (hl : Z.length = s) (hR : Blks lt s R) : Blks lt s (Z ++ R) := by
 intro k
 cases k with
 | zero => rw [Nat.zero_mul, List.drop_zero, ← hl, List.take_left]; exact hZ
 | succ k =>
  have := hR k
  rw [Nat.succ_mul, Nat.add_comm, ← List.drop_drop, ← hl, List.drop_left]
  rw [hl]; exact this
theorem Blks.short {s : Nat} {Z : List α} (hZ : Srt lt Z) (hl : Z.length ≤ s) : Blks lt s Z := by
 intro k
 cases k with
 | zero => rw [Nat.zero_mul, List.drop_zero, List.take_of_length_le hl]; exact hZ
 | succ k => rw [List.drop_of_length_le (by rw [Nat.succ_mul]; omega)]; simp
theorem Blks.head {s : Nat} {X R : List α} (h : Blks lt s (X ++ R)) (hl : X.length = s) : Srt lt X ∧ Blks lt s R := by
 refine ⟨?_, fun k => ?_⟩
 ·have := h 0
  rwa [Nat.zero_mul, List.drop_zero, ← hl, List.take_left] at this
 ·have := h (k + 1)
  rw [Nat.succ_mul, Nat.add_comm, ← List.drop_drop] at this
  have e : (X ++ R).drop s = R := by rw [← hl, List.drop_left]
  rwa [e] at this
theorem Blks.all {s : Nat} {X : List α} (h : Blks lt s X) (hl : X.length ≤ s) : Srt lt X := by
 have := h 0
 rwa [Nat.zero_mul, List.drop_zero, List.take_of_length_le hl] at this
def blk1 (lt : α → α → Bool) (s : Nat) : Nat → List α → Nat → Nat → List α
 | 0, l, _, _ => l
 | f + 1, l, a, n => if a + s ≤ n then blk1 lt s f (insS lt (s + 1) l a (a + 1) (a + s)) (a + s) n else insS lt (n - a + 1) l a (a + 1) n
theorem cut {s : Nat} {R : List α} (h : s ≤ R.length) : ∃ X R2, R = X ++ R2 ∧ X.length = s := ⟨R.take s, R.drop s, by simp, by simp; omega⟩
theorem blk1_ok (h : Ordr lt) {s : Nat} (hs : 0 < s) : ∀ (f : Nat) (D R : List α), R.length < f → ∃ R', blk1 lt s f (D ++ R) D.length (D.length + R.length) = D ++ R' ∧ R'.Perm R ∧ Blks lt s R'
 | 0, D, R, h1 => by omega
 | f + 1, D, R, h1 => by
  unfold blk1
  by_cases c : s ≤ R.length
  ·rw [if_pos (by omega)]
   obtain ⟨X, R2, rfl, hl⟩ := cut c
   obtain ⟨Z, z1, z2, z3⟩ := insS_all h D X R2 (f := s + 1) (by omega)
   rw [hl] at z1
   rw [z1]
   have hz : Z.length = s := by rw [z3.length_eq, hl]
   simp only [List.length_append] at h1
   obtain ⟨R', r1, r2, r3⟩ := blk1_ok h hs f (D ++ Z) R2 (by omega)
   rw [List.length_append, hz, List.append_assoc] at r1
   rw [List.length_append, hl, ← Nat.add_assoc, r1]
   exact ⟨Z ++ R', by simp, z3.append r2, Blks.cons z2 hz r3⟩
  ·rw [if_neg (by omega)]
   obtain ⟨Z, z1, z2, z3⟩ := insS_all h D R [] (f := D.length + R.length - D.length + 1) (by omega)
   simp only [List.append_nil] at z1
   rw [z1]
   exact ⟨Z, rfl, z3, Blks.short z2 (by rw [z3.length_eq]; omega)⟩
def pas (lt : α → α → Bool) (F s : Nat) : Nat → List α → Nat → Nat → List α
 | 0, l, _, _ => l
 | f + 1, l, a, n => if a + 2 * s ≤ n then pas lt F s f (symM lt F l a (a + s) (a + 2 * s)) (a + 2 * s) n else if a + s < n then symM lt F l a (a + s) n else l
theorem pas_ok (h : Ordr lt) {F s : Nat} (hs : 0 < s) : ∀ (f : Nat) (D R : List α), R.length < f → R.length ≤ F → Blks lt s R → ∃ R', pas lt F s f (D ++ R) D.length (D.length + R.length) = D ++ R' ∧ R'.Perm R ∧ Blks lt (2 * s) R'
 | 0, D, R, h1, _, _ => by omega
 | f + 1, D, R, h1, hF, hB => by
  unfold pas
  by_cases c : 2 * s ≤ R.length
  ·rw [if_pos (by omega)]
   obtain ⟨X, R1, rfl, hX⟩ := cut (s := s) (R := R) (by omega)
   obtain ⟨bX, bR1⟩ := hB.head hX
   rw [List.length_append] at c h1 hF
   obtain ⟨Y, R2, rfl, hY⟩ := cut (s := s) (R := R1) (by omega)
   obtain ⟨bY, bR2⟩ := bR1.head hY
   rw [List.length_append] at c h1 hF
   obtain ⟨Z, z1, z2, z3⟩ := symM_ok h F X Y D R2 bX bY (by omega) (by omega) (by omega)
   rw [hX, hY, show D.length + s + s = D.length + 2 * s by omega] at z1
   rw [z1]
   have hz : Z.length = 2 * s := by rw [z3.length_eq, List.length_append]; omega
   obtain ⟨R', r1, r2, r3⟩ := pas_ok h (F := F) hs f (D ++ Z) R2 (by omega) (by omega) bR2
   rw [List.length_append, hz, List.append_assoc] at r1
   rw [List.length_append, List.length_append, hX, hY, show D.length + (s + (s + R2.length)) = D.length + 2 * s + R2.length by omega, r1]
   refine ⟨Z ++ R', by simp, ?_, Blks.cons z2 hz r3⟩
   have := z3.append r2
   rwa [List.append_assoc] at this
  ·rw [if_neg (by omega)]
   by_cases c2 : s < R.length
   ·rw [if_pos (by omega)]
    obtain ⟨X, Y, rfl, hX⟩ := cut (s := s) (R := R) (by omega)
    obtain ⟨bX, bY⟩ := hB.head hX
    rw [List.length_append] at c c2 h1 hF
    obtain ⟨Z, z1, z2, z3⟩ := symM_ok h F X Y D [] bX (bY.all (by omega)) (by omega) (by omega) (by omega)
    simp only [List.append_nil] at z1
    rw [hX] at z1
    rw [List.length_append, hX, ← Nat.add_assoc, z1]
    exact ⟨Z, rfl, z3, Blks.short z2 (by rw [z3.length_eq, List.length_append]; omega)⟩
   ·rw [if_neg (by omega)]
    exact ⟨R, rfl, List.Perm.refl _, Blks.short (hB.all (by omega)) (by omega)⟩
def stL (lt : α → α → Bool) (F : Nat) : Nat → List α → Nat → Nat → List α
 | 0, l, _, _ => l
 | f + 1, l, n, s => if s < n then stL lt F f (pas lt F s (n + 1) l 0 n) n (2 * s) else l
theorem stL_ok (h : Ordr lt) {F : Nat} : ∀ (f : Nat) (l : List α) (s : Nat), 0 < s → l.length - s < f → l.length ≤ F → Blks lt s l → Srt lt (stL lt F f l l.length s) ∧ (stL lt F f l l.length s).Perm l
 | 0, l, s, _, h1, _, _ => by omega
 | f + 1, l, s, hs, h1, hF, hB => by
  unfold stL
  by_cases c : s < l.length
  ·rw [if_pos c]
   obtain ⟨R', r1, r2, r3⟩ := pas_ok h (F := F) hs (l.length + 1) [] l (by omega) hF hB
   simp only [List.nil_append, List.length_nil, Nat.zero_add] at r1
   rw [r1]
   have hl : R'.length = l.length := r2.length_eq
   obtain ⟨g1, g2⟩ := stL_ok (F := F) h f R' (2 * s) (by omega) (by omega) (by omega) r3
   rw [hl] at g1 g2
   exact ⟨g1, g2.trans r2⟩
  ·rw [if_neg c]
   exact ⟨hB.all (by omega), List.Perm.refl _⟩
def stable (lt : α → α → Bool) (F : Nat) (l : List α) : List α := stL lt F (l.length + 1) (blk1 lt 20 (l.length + 1) l 0 l.length) l.length 20
theorem stable_ok (h : Ordr lt) {F : Nat} (l : List α) (hF : l.length ≤ F) : Srt lt (stable lt F l) ∧ (stable lt F l).Perm l := by
 obtain ⟨R, r1, r2, r3⟩ := blk1_ok h (s := 20) (by omega) (l.length + 1) [] l (by omega)
 simp only [List.nil_append, List.length_nil, Nat.zero_add] at r1
 unfold stable
 rw [r1]
 have hl : R.length = l.length := r2.length_eq
 obtain ⟨g1, g2⟩ := stL_ok h (F := F) (l.length + 1) R 20 (by omega) (by omega) (by omega) r3
 rw [hl] at g1 g2
 exact ⟨g1, g2.trans r2⟩
variable {α : Type} {lt : α → α → Bool}
theorem srt_eq' : ∀ (A B : List α), (∀ a ∈ A, ∀ b ∈ A, lt a b = false → lt b a = false → a = b) → Srt lt A → Srt lt B → A.Perm B → A = B
 | [], B, _, _, _, h => (List.perm_nil.1 h.symm).symm
 | a :: A, [], _, _, _, h => by have := h.length_eq; simp at this
 | a :: A, b :: B, he, hA, hB, h => by
  obtain ⟨a1, a2⟩ := List.pairwise_cons.1 hA
  obtain ⟨b1, b2⟩ := List.pairwise_cons.1 hB
  have m2 : b ∈ a :: A := h.mem_iff.2 (by simp)
  have e : a = b := by
   have m1 : a ∈ b :: B := h.mem_iff.1 (by simp)
   rcases List.mem_cons.1 m1 with m1 | m1
   ·exact m1
   ·rcases List.mem_cons.1 m2 with m2' | m2'
    ·exact m2'.symm
    ·exact he a (by simp) b m2 (b1 a m1) (a1 b m2')
  subst e
  rw [srt_eq' A B (fun x hx y hy => he x (by simp [hx]) y (by simp [hy])) a2 b2 (List.Perm.cons_inv h)]
def zv : TVal := ⟨0, 0, ⟨#[]⟩⟩
def look (p : List TBind) (n : ByteArray) : TVal × Bool := match p.find? (fun b => seq b.Name n) with
 | some b => (b.V, true)
 | none => (zv, false)
theorem look_cons (b : TBind) (p : List TBind) (n : ByteArray) : look (b :: p) n = if seq b.Name n = true then (b.V, true) else look p n := by
 unfold look; rw [List.find?_cons]
 cases seq b.Name n <;> simp
theorem look_s {N : Nat} (hN : 1099000000000 ≤ N) (p : List TBind) (n : ByteArray) (hl : p.length ≤ 4294967296) : m_s_BindOf N p n = some (look p n) := by
 unfold m_s_BindOf
 have : ∀ (k i : Nat), i ≤ p.length → p.length - i < k → m_s_BindOf_l1 N p n k i = some (look (p.drop i) n) := by
  intro k
  induction k with
  | zero => intro i _ h; omega
  | succ k ih =>
   intro i hi hk
   simp only [m_s_BindOf_l1]
   by_cases hlt : i < p.length
   ·have c1 : decide ((i : Int) < (p.length : Int)) = true := decide_eq_true (by omega)
    rw [List.drop_eq_getElem_cons hlt, look_cons]
    simp only [c1, if_true, idx_nat_lt hlt, Option.bind_some, wr1 i (by omega), ih (i + 1) (by omega) (by omega)]
    cases seq p[i].Name n <;> rfl
   ·have c1 : decide ((i : Int) < (p.length : Int)) = false := decide_eq_false (by omega)
    simp only [c1, Bool.false_eq_true, if_false]
    rw [List.drop_of_length_le (by omega)]; rfl
 exact this N 0 (by omega) (by omega)
def matchArgs (b0 : List TBind) : List TArg → List TVal → List TBind → List TBind × Bool
 | a :: as, v :: vs, s =>
  if a.K = 2 then (if eqT_TVal a.V v = true then matchArgs b0 as vs s else (b0, false))
  else if a.K = 1 then (if (look s a.S).2 = true then (if eqT_TVal (look s a.S).1 v = true then matchArgs b0 as vs s else (b0, false)) else matchArgs b0 as vs (s ++ [⟨a.S, v⟩]))
  else matchArgs b0 as vs s
 | _, _, s => (s, true)
theorem match_loopS {N : Nat} (hN : 1099000000000 ≤ N) (p : TPat) (f : TFact) (b : List TBind) (he : p.Args.length = f.Fields.length) (hl : p.Args.length ≤ 1048576) (hb : b.length ≤ 2147483648) : ∀ (n i : Nat) (s : List TBind), i ≤ p.Args.length → p.Args.length - i < n → s.length ≤ 2147483648 + i →
  m_s_MatchPat_l1 N p f b n s i = some (matchArgs b (p.Args.drop i) (f.Fields.drop i) s) := by
 intro n
 induction n with
 | zero => intro i s _ h; omega
 | succ n ih =>
  intro i s hi hn hs
  simp only [m_s_MatchPat_l1]
  by_cases hlt : i < p.Args.length
  ·have c1 : decide ((i : Int) < (p.Args.length : Int)) = true := decide_eq_true (by omega)
   have hlt' : i < f.Fields.length := by omega
   rw [List.drop_eq_getElem_cons hlt, List.drop_eq_getElem_cons hlt', matchArgs]
   simp only [c1, if_true, idx_nat_lt hlt, idx_nat_lt hlt', Option.bind_some, look_s hN s _ (show s.length ≤ 4294967296 by omega), app_nil (show b.length ≤ 4294967296 by omega), app_ok (show s.length + [(⟨p.Args[i].S, f.Fields[i]⟩ : TBind)].length ≤ 4294967296 by simp; omega), wr1 i (by omega), andS, orS]
   have ih1 := ih (i + 1) s (by omega) (by omega) (by omega)
   have ih2 := ih (i + 1) (s ++ [⟨p.Args[i].S, f.Fields[i]⟩]) (by omega) (by omega) (by simp; omega)
   by_cases k2 : p.Args[i].K = 2
   ·have k1 : ¬ p.Args[i].K = 1 := by omega
    simp only [k2, k1, decide_true, decide_false, if_true, if_false, Bool.true_and, Bool.false_and, Bool.or_false, Bool.false_eq_true, Option.bind_some, show ¬ (2 : Int) = 1 by omega]
    cases eqT_TVal p.Args[i].V f.Fields[i] with
    | true => simpa using ih1
    | false => simp
   ·by_cases k1 : p.Args[i].K = 1
    ·simp only [k1, decide_true, decide_false, if_true, if_false, Bool.true_and, Bool.false_and, Bool.false_or, Bool.false_eq_true, Option.bind_some, show ¬ (1 : Int) = 2 by omega]
     cases (look s p.Args[i].S).2 with
     | true =>
      simp only [if_true, Bool.not_true, Bool.true_and, Bool.false_eq_true, if_false]
      cases eqT_TVal (look s p.Args[i].S).1 f.Fields[i] with
      | true => simpa using ih1
      | false => simp
     | false => simpa using ih2
    ·simp only [k1, k2, decide_false, if_false, Bool.false_and, Bool.false_or, Bool.or_false, Bool.false_eq_true, Option.bind_some]
     simpa using ih1
  ·have c1 : decide ((i : Int) < (p.Args.length : Int)) = false := decide_eq_false (by omega)
   simp only [c1, Bool.false_eq_true, if_false]
   rw [List.drop_of_length_le (by omega)]
   rfl
def matchPat (p : TPat) (f : TFact) (b : List TBind) : List TBind × Bool := if seq p.Kind f.Kind = true ∧ p.Args.length = f.Fields.length then matchArgs b p.Args f.Fields b else (b, false)
theorem match_s {N : Nat} (hN : 1099000000000 ≤ N) (p : TPat) (f : TFact) (b : List TBind) (hl : p.Args.length ≤ 1048576) (hb : b.length ≤ 2147483648) : m_s_MatchPat N p f b = some (matchPat p f b) := by
 unfold m_s_MatchPat matchPat
 rw [app_nil (by omega)]
 simp only [Option.bind_some, orS]
 cases hk : seq p.Kind f.Kind with
 | false => simp
 | true =>
  by_cases he : p.Args.length = f.Fields.length
  ·have he' : decide ((p.Args.length : Int) = (f.Fields.length : Int)) = true := decide_eq_true (by omega)
   have := (match_loopS hN p f b he hl hb N 0 b (by omega) (by omega) (by omega))
   simp only [he', he, Bool.not_true, Bool.or_false, Bool.false_eq_true, if_false, true_and, if_true]
   simpa using this
  ·have he' : decide ((p.Args.length : Int) = (f.Fields.length : Int)) = false := decide_eq_false (by omega)
   simp [he', he]
theorem matchArgs_len {b0 : List TBind} : ∀ (as : List TArg) (vs : List TVal) (s : List TBind), (matchArgs b0 as vs s).1.length ≤ b0.length ∨ (matchArgs b0 as vs s).1.length ≤ s.length + as.length
 | [], vs, s => .inr (by simp [matchArgs])
 | a :: as, [], s => .inr (by simp [matchArgs])
 | a :: as, v :: vs, s => by
  have h1 := matchArgs_len (b0 := b0) as vs s
  have h2 := matchArgs_len (b0 := b0) as vs (s ++ [⟨a.S, v⟩])
  simp only [List.length_append, List.length_cons, List.length_nil] at h1 h2 ⊢
  unfold matchArgs
  split
  ·split
   ·omega
   ·exact .inl (Nat.le_refl _)
  ·split
   ·split
    ·split
     ·omega
     ·exact .inl (Nat.le_refl _)
    ·omega
   ·omega
theorem matchPat_len (p : TPat) (f : TFact) (b : List TBind) : (matchPat p f b).1.length ≤ b.length + p.Args.length := by
 unfold matchPat
 split
 ·have := matchArgs_len (b0 := b) p.Args f.Fields b; omega
 ·simp
def sumArgs (l : List TPat) : Nat := (l.map fun p => p.Args.length).sum
theorem sumArgs_cons (p : TPat) (t : List TPat) : sumArgs (p :: t) = p.Args.length + sumArgs t := by simp [sumArgs]
def pos (l : List TPat) : List TPat := l.filter fun p => !p.Not
theorem sumArgs_pos : ∀ (l : List TPat), sumArgs (pos l) ≤ sumArgs l
 | [] => by simp [pos]
 | p :: t => by
  have := sumArgs_pos t
  unfold pos at this ⊢
  rw [List.filter_cons, sumArgs_cons]
  split
  ·rw [sumArgs_cons]; omega
  ·omega
theorem pos_eq (l : List TPat) : (l.filter fun p => p.Not == false) = pos l := by
 unfold pos; congr 1; funext p; cases p.Not <;> rfl
def noFact : TFact := ⟨⟨#[]⟩, []⟩
def factOf (xs : List TItem) (v : Int) : TFact × Bool := match xs.find? (fun x => decide (x.Id = v)) with | some x => (x.F, true) | none => (noFact, false)
theorem factOf_cons (x : TItem) (xs : List TItem) (v : Int) : factOf (x :: xs) v = if x.Id = v then (x.F, true) else factOf xs v := by
 unfold factOf
 rw [List.find?_cons]
 by_cases h : x.Id = v <;> simp [h]
def bindsP (xs : List TItem) : List TPat → List Int → List TBind → List TBind × Bool
 | [], [], l => (l, true)
 | p :: t, v :: ids, l => if (factOf xs v).2 = true ∧ (matchPat p (factOf xs v).1 l).2 = true then bindsP xs t ids (matchPat p (factOf xs v).1 l).1 else ([], false)
 | _, _, _ => ([], false)
theorem bindsP_ne {xs : List TItem} : ∀ {ps : List TPat} {ids : List Int} {l : List TBind}, ps.length ≠ ids.length → bindsP xs ps ids l = ([], false)
 | [], [], l, h => absurd rfl h
 | [], v :: ids, l, h => rfl
 | p :: t, [], l, h => rfl
 | p :: t, v :: ids, l, h => by
  unfold bindsP
  split
  ·exact bindsP_ne (by simpa using h)
  ·rfl
theorem bindsP_len {xs : List TItem} : ∀ (ps : List TPat) (ids : List Int) (l : List TBind), (bindsP xs ps ids l).1.length ≤ l.length + sumArgs ps
 | [], [], l => by simp [bindsP]
 | [], v :: ids, l => by simp [bindsP]
 | p :: t, [], l => by simp [bindsP]
 | p :: t, v :: ids, l => by
  have h1 := matchPat_len p (factOf xs v).1 l
  have h2 := bindsP_len (xs := xs) t ids (matchPat p (factOf xs v).1 l).1
  rw [sumArgs_cons]
  unfold bindsP
  split
  ·omega
  ·simp
def argVal (a : TArg) (l : List TBind) : TVal × Bool := if a.K = 2 then (a.V, true) else if a.K = 1 then look l a.S else (zv, false)
def lessV (x y : TVal) : Bool := if x.K = y.K then (if x.N = y.N then slt x.S y.S else decide (x.N < y.N)) else decide (x.K < y.K)
def holds (c : TCond) (l : List TBind) : Bool := ((argVal c.L l).2 && (argVal c.R l).2) && (if c.Op = 1 then decide ((argVal c.L l).1 = (argVal c.R l).1) else if c.Op = 2 then !decide ((argVal c.L l).1 = (argVal c.R l).1) else if c.Op = 3 then lessV (argVal c.L l).1 (argVal c.R l).1 else false)
theorem argVal_s {N : Nat} (hN : 1099000000000 ≤ N) (a : TArg) (l : List TBind) (hl : l.length ≤ 4294967296) : m_s_ArgVal N a l = some (argVal a l) := by
 unfold m_s_ArgVal argVal
 rw [look_s hN l a.S hl]
 by_cases h2 : a.K = 2
 ·simp [h2]
 ·by_cases h1 : a.K = 1 <;> simp [h1, h2, zv]
theorem lessV_s (N : Nat) (x y : TVal) : m_s_LessVal N x y = some (lessV x y) := by
 unfold m_s_LessVal lessV
 by_cases h1 : x.K = y.K
 ·by_cases h2 : x.N = y.N <;> simp [h1, h2]
 ·simp [h1]
theorem holds_s {N : Nat} (hN : 1099000000000 ≤ N) (c : TCond) (l : List TBind) (hl : l.length ≤ 4294967296) : m_s_Holds N c l = some (holds c l) := by
 unfold m_s_Holds holds
 rw [argVal_s hN c.L l hl, argVal_s hN c.R l hl]
 simp only [Option.bind_some, lessV_s, eqT_TVal_eq]
 cases (argVal c.L l).2 with
 | false => simp
 | true =>
  cases (argVal c.R l).2 with
  | false => simp
  | true =>
   by_cases h1 : c.Op = 1
   ·simp [h1]
   ·by_cases h2 : c.Op = 2
    ·simp [h2]
    ·by_cases h3 : c.Op = 3 <;> simp [h1, h2, h3]
theorem holdAll_s {N : Nat} (hN : 1099000000000 ≤ N) (cs : List TCond) (l : List TBind) (hc : cs.length ≤ 4194304) (hl : l.length ≤ 4294967296) : m_s_HoldAll N cs l = some (cs.all fun c => holds c l) := by
 unfold m_s_HoldAll
 refine lp0 hN cs (by omega) (m_s_HoldAll_l1 N cs l) (fun t => some (t.all fun c => holds c l)) (fun n i x t h1 h2 h3 h4 h5 h6 h7 => ?_) (fun n i h1 h2 => ?_)
 ·simp only [m_s_HoldAll_l1, h5, if_true, h4, Option.bind_some, holds_s hN x l hl, h6, h7, List.all_cons]
  cases holds x l <;> simp
 ·simp only [m_s_HoldAll_l1, h2, Bool.false_eq_true, if_false]; rfl
def freeT (t : TTok) : Bool := t.Hits.all fun n => decide (n = 0)
def pickM (xs : List TItem) (i : Int) (r : TRule) (t : TTok) : List TMatch := if ((bindsP xs (pos r.Pats) t.Ids []).2 && (freeT t && r.Conds.all fun c => holds c (bindsP xs (pos r.Pats) t.Ids []).1)) = true then [⟨i, t.Ids, (bindsP xs (pos r.Pats) t.Ids []).1⟩] else []
def selM (xs : List TItem) (i : Int) (r : TRule) (l : List TTok) : List TMatch := l.flatMap (pickM xs i r)
def lastT (w : TRow) : List TTok := match w.Levels[w.Levels.length - 1]? with
 | some L => L.Toks
 | none => []
def ordM (l : List TMatch) : List TMatch := stable less l.length l
def setT (xs : List TItem) : Nat → List TRule → List TRow → List TMatch
 | i, r :: rs, w :: ws => ordM (selM xs (i : Int) r (lastT w)) ++ setT xs (i + 1) rs ws
 | _, _, _ => []
theorem selM_mem {xs : List TItem} {i : Int} {r : TRule} {l : List TTok} {x : TMatch} (h : x ∈ selM xs i r l) : ∃ t ∈ l, x = ⟨i, t.Ids, (bindsP xs (pos r.Pats) t.Ids []).1⟩ := by
 obtain ⟨t, ht, hx⟩ := List.mem_flatMap.1 h
 unfold pickM at hx
 split at hx
 ·simp only [List.mem_singleton] at hx
  exact ⟨t, ht, hx⟩
 ·cases hx
theorem selM_len {xs : List TItem} {i : Int} {r : TRule} : ∀ (l : List TTok), (selM xs i r l).length ≤ l.length
 | [] => by simp [selM]
 | t :: l => by
  have h1 := selM_len (xs := xs) (i := i) (r := r) l
  unfold selM at h1 ⊢
  rw [List.flatMap_cons, List.length_append, List.length_cons]
  have h2 : (pickM xs i r t).length ≤ 1 := by unfold pickM; split <;> simp
  omega
theorem selM_one {xs : List TItem} {i : Int} {r : TRule} {l : List TTok} {x y : TMatch} (hx : x ∈ selM xs i r l) (hy : y ∈ selM xs i r l) (h1 : less x y = false) (h2 : less y x = false) : x = y := by
 have ht := less_tot x y
 rw [h1, h2] at ht
 have hs : same x y = true := by
  cases e : same x y with
  | true => rfl
  | false => rw [e] at ht; cases ht
 unfold same at hs
 simp only [Bool.and_eq_true, decide_eq_true_eq] at hs
 obtain ⟨t, _, rfl⟩ := selM_mem hx
 obtain ⟨u, _, rfl⟩ := selM_mem hy
 simp only at hs
 rw [hs.2]
theorem ordM_ok (l : List TMatch) : Srt less (ordM l) ∧ (ordM l).Perm l := stable_ok less_ordr l (Nat.le_refl _)
theorem ordM_eq {xs : List TItem} {i : Int} {r : TRule} {l : List TTok} {A : List TMatch} (h1 : Srt less A) (h2 : A.Perm (selM xs i r l)) : A = ordM (selM xs i r l) := by
 obtain ⟨g1, g2⟩ := ordM_ok (selM xs i r l)
 exact srt_eq' A _ (fun a ha b hb q1 q2 => selM_one (h2.mem_iff.1 ha) (h2.mem_iff.1 hb) q1 q2) h1 g1 (h2.trans g2.symm)
section
variable {α : Type} {lt : α → α → Bool}
theorem swp_len (l : List α) (i j : Nat) : (swp l i j).length = l.length := by
 unfold swp; split <;> simp
theorem mem_swp {l : List α} {i j : Nat} {x : α} (h : x ∈ swp l i j) : x ∈ l := by
 unfold swp at h
 split at h
 ·rename_i a b ha hb
  rcases List.mem_or_eq_of_mem_set h with h | h
  ·rcases List.mem_or_eq_of_mem_set h with h | h
   ·exact h
   ·rw [h]; exact List.mem_of_getElem? hb
  ·rw [h]; exact List.mem_of_getElem? ha
 ·exact h
theorem swpR_len (a b : Nat) : ∀ (n k : Nat) (l : List α), (swpR l a b k n).length = l.length
 | 0, _, _ => rfl
 | n + 1, k, l => by unfold swpR; rw [swpR_len a b n, swp_len]
theorem mem_swpR {a b : Nat} {x : α} : ∀ (n k : Nat) (l : List α), x ∈ swpR l a b k n → x ∈ l
 | 0, _, _, h => h
 | n + 1, k, l, h => mem_swp (mem_swpR n (k + 1) _ h)
theorem rot_len (m : Nat) : ∀ (f i j : Nat) (l : List α), (rot l m f i j).length = l.length
 | 0, _, _, _ => rfl
 | f + 1, i, j, l => by
  unfold rot
  split
  ·rw [swpR_len]
  ·split <;> rw [rot_len m f, swpR_len]
theorem mem_rot {m : Nat} {x : α} : ∀ (f i j : Nat) (l : List α), x ∈ rot l m f i j → x ∈ l
 | 0, _, _, _, h => h
 | f + 1, i, j, l, h => by
  unfold rot at h
  split at h
  ·exact mem_swpR _ _ _ h
  ·split at h
   ·exact mem_swpR _ _ _ (mem_rot f _ _ _ h)
   ·exact mem_swpR _ _ _ (mem_rot f _ _ _ h)
theorem shR_len : ∀ (n k : Nat) (l : List α), (shR l k n).length = l.length
 | 0, _, _ => rfl
 | n + 1, k, l => by unfold shR; rw [shR_len n, swp_len]
theorem mem_shR {x : α} : ∀ (n k : Nat) (l : List α), x ∈ shR l k n → x ∈ l
 | 0, _, _, h => h
 | n + 1, k, l, h => mem_swp (mem_shR n _ _ h)
theorem shL_len : ∀ (n k : Nat) (l : List α), (shL l k n).length = l.length
 | 0, _, _ => rfl
 | n + 1, k, l => by unfold shL; rw [shL_len n, swp_len]
theorem mem_shL {x : α} : ∀ (n k : Nat) (l : List α), x ∈ shL l k n → x ∈ l
 | 0, _, _, h => h
 | n + 1, k, l, h => mem_swp (mem_shL n _ _ h)
theorem symM_keep : ∀ (f : Nat) (l : List α) (a m b : Nat), (symM lt f l a m b).length = l.length ∧ ∀ x ∈ symM lt f l a m b, x ∈ l
 | 0, l, a, m, b => ⟨rfl, fun x h => h⟩
 | f + 1, l, a, m, b => by
  unfold symM
  split
  ·exact ⟨shR_len _ _ _, fun x h => mem_shR _ _ _ h⟩
  ·split
   ·exact ⟨shL_len _ _ _, fun x h => mem_shL _ _ _ h⟩
   ·simp only
    generalize bsr _ _ _ _ = s
    have k1 : ∀ c : Prop, [Decidable c] → (if c then rot l m ((a + b) / 2 + m - s - s) (m - s) ((a + b) / 2 + m - s - m) else l).length = l.length ∧ ∀ x ∈ (if c then rot l m ((a + b) / 2 + m - s - s) (m - s) ((a + b) / 2 + m - s - m) else l), x ∈ l := fun c _ => by
     split
     ·exact ⟨rot_len _ _ _ _ _, fun x h => mem_rot _ _ _ _ h⟩
     ·exact ⟨rfl, fun x h => h⟩
    have k2 : ∀ (c : Prop) [Decidable c] (u : List α) (p q r : Nat), (if c then symM lt f u p q r else u).length = u.length ∧ ∀ x ∈ (if c then symM lt f u p q r else u), x ∈ u := fun c _ u p q r => by
     split
     ·exact symM_keep f u p q r
     ·exact ⟨rfl, fun x h => h⟩
    obtain ⟨a1, a2⟩ := k1 (s < m ∧ m < (a + b) / 2 + m - s)
    obtain ⟨b1, b2⟩ := k2 (a < s ∧ s < (a + b) / 2) (if s < m ∧ m < (a + b) / 2 + m - s then rot l m ((a + b) / 2 + m - s - s) (m - s) ((a + b) / 2 + m - s - m) else l) a s ((a + b) / 2)
    obtain ⟨c1, c2⟩ := k2 ((a + b) / 2 < (a + b) / 2 + m - s ∧ (a + b) / 2 + m - s < b) (if a < s ∧ s < (a + b) / 2 then symM lt f (if s < m ∧ m < (a + b) / 2 + m - s then rot l m ((a + b) / 2 + m - s - s) (m - s) ((a + b) / 2 + m - s - m) else l) a s ((a + b) / 2) else (if s < m ∧ m < (a + b) / 2 + m - s then rot l m ((a + b) / 2 + m - s - s) (m - s) ((a + b) / 2 + m - s - m) else l)) ((a + b) / 2) ((a + b) / 2 + m - s) b
    exact ⟨by rw [c1, b1, a1], fun x h => a2 x (b2 x (c2 x h))⟩
theorem insD_keep : ∀ (f : Nat) (l : List α) (a j : Nat), (insD lt f l a j).length = l.length ∧ ∀ x ∈ insD lt f l a j, x ∈ l
 | 0, l, a, j => ⟨rfl, fun x h => h⟩
 | f + 1, l, a, j => by
  unfold insD
  split
  ·obtain ⟨h1, h2⟩ := insD_keep f (swp l (j - 1) j) a (j - 1)
   exact ⟨by rw [h1, swp_len], fun x h => mem_swp (h2 x h)⟩
  ·exact ⟨rfl, fun x h => h⟩
theorem insS_keep : ∀ (f : Nat) (l : List α) (a i b : Nat), (insS lt f l a i b).length = l.length ∧ ∀ x ∈ insS lt f l a i b, x ∈ l
 | 0, l, a, i, b => ⟨rfl, fun x h => h⟩
 | f + 1, l, a, i, b => by
  unfold insS
  split
  ·obtain ⟨h1, h2⟩ := insS_keep f (insD lt (i - a + 1) l a i) a (i + 1) b
   obtain ⟨g1, g2⟩ := insD_keep (lt := lt) (i - a + 1) l a i
   exact ⟨by rw [h1, g1], fun x h => g2 x (h2 x h)⟩
  ·exact ⟨rfl, fun x h => h⟩
end
theorem wA {x y : Nat} (h : x + y ≤ 4611686018427387904) : IntKind.i64.wrap ((x : Int) + (y : Int)) = ((x + y : Nat) : Int) := by
 rw [wr (by omega) (by omega)]; omega
theorem wS {x y : Nat} (h : y ≤ x) (hx : x ≤ 4611686018427387904) : IntKind.i64.wrap ((x : Int) - (y : Int)) = ((x - y : Nat) : Int) := by
 rw [wr (by omega) (by omega)]; omega
theorem wS1 {x : Nat} (h : 1 ≤ x) (hx : x ≤ 4611686018427387904) : IntKind.i64.wrap ((x : Int) - 1) = ((x - 1 : Nat) : Int) := by
 rw [wr (by omega) (by omega)]; omega
theorem half {x y : Nat} (h : x + y ≤ 4611686018427387904) : IntKind.i64.wrap (shrI .u64 (IntKind.u64.wrap (IntKind.i64.wrap ((x : Int) + (y : Int)))) 1) = (((x + y) / 2 : Nat) : Int) := by
 rw [wA h]
 have hu : IntKind.u64.wrap ((x + y : Nat) : Int) = ((x + y : Nat) : Int) := by
  simp only [IntKind.wrap, IntKind.bits, IntKind.signed, Bool.false_and, Bool.false_eq_true, if_false]
  have e1 : (2 : Int) ^ 64 = 18446744073709551616 := by decide
  rw [e1]; omega
 rw [hu]
 have hs : shrI .u64 ((x + y : Nat) : Int) 1 = (((x + y) / 2 : Nat) : Int) := by
  unfold shrI
  have e : (2 : Int) ^ (min (1 : Int).toNat IntKind.u64.bits) = 2 := by decide
  rw [e, Int.fdiv_eq_ediv_of_nonneg _ (by omega)]
  omega
 rw [hs]
 exact wr (by omega) (by omega)
theorem swp_some {α : Type} {l : List α} {i j : Nat} {x y : α} (h1 : l[i]? = some x) (h2 : l[j]? = some y) : swp l i j = (l.set i y).set j x := by
 unfold swp; rw [h1, h2]
theorem swapR_m (N a b n : Nat) : ∀ (fuel : Nat) (l : List TMatch) (i : Nat), n - i < fuel → i ≤ n → a + n ≤ l.length → b + n ≤ l.length → l.length ≤ 4294967296 →
  m_sl_swapRangeCmpFunc_i_Match_l1 N (a : Int) (b : Int) (n : Int) fuel l (i : Int) = some (swpR l a b i (n - i))
 | 0, l, i, h, _, _, _, _ => by omega
 | fuel + 1, l, i, h, hi, ha, hb, hl => by
  by_cases c : i < n
  ·have c1 : decide ((i : Int) < (n : Int)) = true := decide_eq_true (by omega)
   have a1 : a + i < l.length := by omega
   have b1 : b + i < l.length := by omega
   have b2 : b + i < (l.set (a + i) l[b + i]).length := by rw [List.length_set]; omega
   have ih := swapR_m N a b n fuel (swp l (a + i) (b + i)) (i + 1) (by omega) (by omega) (by rw [swp_len]; exact ha) (by rw [swp_len]; exact hb) (by rw [swp_len]; exact hl)
   rw [swp_some (List.getElem?_eq_getElem a1) (List.getElem?_eq_getElem b1)] at ih
   rw [show n - i = (n - (i + 1)) + 1 by omega, swpR, swp_some (List.getElem?_eq_getElem a1) (List.getElem?_eq_getElem b1)]
   simp only [m_sl_swapRangeCmpFunc_i_Match_l1, c1, if_true, wA (x := b) (y := i) (by omega), wA (x := a) (y := i) (by omega), idx_nat_lt a1, idx_nat_lt b1, Option.bind_some, Int.toNat_natCast, idx_nat_lt b2, wr1 i (by omega), ih]
  ·have c1 : decide ((i : Int) < (n : Int)) = false := decide_eq_false (by omega)
   rw [show n - i = 0 by omega]
   simp only [m_sl_swapRangeCmpFunc_i_Match_l1, c1, Bool.false_eq_true, if_false, swpR]
theorem swap_m {N a b n : Nat} (p : TMatch → TMatch → Option Int) (l : List TMatch) (hN : n < N) (ha : a + n ≤ l.length) (hb : b + n ≤ l.length) (hl : l.length ≤ 4294967296) : m_sl_swapRangeCmpFunc_i_Match N l (a : Int) (b : Int) (n : Int) p = some (swpR l a b 0 n) := by
 unfold m_sl_swapRangeCmpFunc_i_Match
 have := swapR_m N a b n N l 0 (by omega) (by omega) ha hb hl
 simpa using this
theorem rot_m {N m : Nat} (p : TMatch → TMatch → Option Int) : ∀ (f fuel : Nat) (l : List TMatch) (i j : Nat), i + j ≤ f → f < fuel → f < N → 0 < i → 0 < j → i ≤ m → m + j ≤ l.length → l.length ≤ 4294967296 →
  m_sl_rotateCmpFunc_i_Match_l1 N (m : Int) p fuel l (i : Int) (j : Int) = some (rot l m f i j)
 | 0, _, _, _, _, h1, _, _, h3, _, _, _, _ => by omega
 | f + 1, 0, _, _, _, _, h2, _, _, _, _, _, _ => by omega
 | f + 1, fuel + 1, l, i, j, h1, h2, hN, h3, h4, h5, h6, h7 => by
  unfold rot
  by_cases c : i = j
  ·subst c
   have := swap_m (N := N) (a := m - i) (b := m) (n := i) p l (by omega) (by omega) h6 h7
   simp only [m_sl_rotateCmpFunc_i_Match_l1, decide_true, Bool.not_true, Bool.false_eq_true, if_false, wS (x := m) (y := i) h5 (by omega), this, Option.bind_some, if_true]
  ·have c1 : decide ((i : Int) = (j : Int)) = false := decide_eq_false (by omega)
   by_cases c2 : j < i
   ·have c3 : decide ((j : Int) < (i : Int)) = true := decide_eq_true (by omega)
    have h8 := swap_m (N := N) (a := m - i) (b := m) (n := j) p l (by omega) (by omega) h6 h7
    have ih := rot_m (N := N) (m := m) p f fuel (swpR l (m - i) m 0 j) (i - j) j (by omega) (by omega) (by omega) (by omega) h4 (by omega) (by rw [swpR_len]; exact h6) (by rw [swpR_len]; exact h7)
    simp only [m_sl_rotateCmpFunc_i_Match_l1, c1, Bool.not_false, if_true, c3, wS (x := m) (y := i) h5 (by omega), h8, Option.bind_some, wS (x := i) (y := j) (by omega) (by omega), ih, if_neg c, if_pos c2]
   ·have c3 : decide ((j : Int) < (i : Int)) = false := decide_eq_false (by omega)
    have h8 := swap_m (N := N) (a := m - i) (b := m + j - i) (n := i) p l (by omega) (by omega) (by omega) h7
    have ih := rot_m (N := N) (m := m) p f fuel (swpR l (m - i) (m + j - i) 0 i) i (j - i) (by omega) (by omega) (by omega) h3 (by omega) h5 (by rw [swpR_len]; omega) (by rw [swpR_len]; exact h7)
    simp only [m_sl_rotateCmpFunc_i_Match_l1, c1, Bool.not_false, if_true, c3, Bool.false_eq_true, if_false, wS (x := m) (y := i) h5 (by omega), wA (x := m) (y := j) (by omega), wS (x := m + j) (y := i) (by omega) (by omega), h8, Option.bind_some, wS (x := j) (y := i) (by omega) (by omega), ih, if_neg c, if_neg c2]
theorem rotate_m {N a m b : Nat} (p : TMatch → TMatch → Option Int) (l : List TMatch) (hN : b - a < N) (h1 : a < m) (h2 : m < b) (h3 : b ≤ l.length) (hl : l.length ≤ 4294967296) :
  m_sl_rotateCmpFunc_i_Match N l (a : Int) (m : Int) (b : Int) p = some (rot l m (b - a) (m - a) (b - m)) := by
 unfold m_sl_rotateCmpFunc_i_Match
 rw [wS (x := m) (y := a) (by omega) (by omega), wS (x := b) (y := m) (by omega) (by omega)]
 exact rot_m p (b - a) N l (m - a) (b - m) (by omega) hN hN (by omega) (by omega) (by omega) (by omega) hl
def Says (p : TMatch → TMatch → Option Int) (lt : TMatch → TMatch → Bool) (l : List TMatch) : Prop := ∀ x ∈ l, ∀ y ∈ l, ∃ v, p x y = some v ∧ lt x y = decide (v < 0)
theorem Says.sub {p : TMatch → TMatch → Option Int} {lt : TMatch → TMatch → Bool} {l u : List TMatch} (h : Says p lt l) (hs : ∀ x ∈ u, x ∈ l) : Says p lt u := fun x hx y hy => h x (hs x hx) y (hs y hy)
theorem Says.at_ {p : TMatch → TMatch → Option Int} {lt : TMatch → TMatch → Bool} {l : List TMatch} (h : Says p lt l) {i j : Nat} (hi : i < l.length) (hj : j < l.length) : ∃ v, p l[i] l[j] = some v ∧ askL lt l i j = decide (v < 0) := by
 obtain ⟨v, h1, h2⟩ := h _ (List.getElem_mem hi) _ (List.getElem_mem hj)
 exact ⟨v, h1, by rw [askL_some (List.getElem?_eq_getElem hi) (List.getElem?_eq_getElem hj), h2]⟩
theorem shR_m (N i1 : Nat) : ∀ (fuel : Nat) (l : List TMatch) (k : Nat), i1 - k < fuel → 1 ≤ i1 → i1 ≤ l.length → l.length ≤ 4294967296 → m_sl_symMergeCmpFunc_i_Match_l2 N (i1 : Int) fuel l (k : Int) = some (shR l k (i1 - 1 - k))
 | 0, l, k, h, _, _, _ => by omega
 | fuel + 1, l, k, h, h1, h2, hl => by
  rw [m_sl_symMergeCmpFunc_i_Match_l2, wS1 h1 (by omega)]
  by_cases c : k < i1 - 1
  ·have c1 : decide ((k : Int) < ((i1 - 1 : Nat) : Int)) = true := decide_eq_true (by omega)
   have a1 : k < l.length := by omega
   have b1 : k + 1 < l.length := by omega
   have b2 : k + 1 < (l.set k l[k + 1]).length := by rw [List.length_set]; omega
   have ih := shR_m N i1 fuel (swp l k (k + 1)) (k + 1) (by omega) h1 (by rw [swp_len]; exact h2) (by rw [swp_len]; exact hl)
   rw [swp_some (List.getElem?_eq_getElem a1) (List.getElem?_eq_getElem b1)] at ih
   rw [show i1 - 1 - k = (i1 - 1 - (k + 1)) + 1 by omega, shR, swp_some (List.getElem?_eq_getElem a1) (List.getElem?_eq_getElem b1)]
   simp only [c1, if_true, wr1 k (by omega), idx_nat_lt a1, idx_nat_lt b1, Option.bind_some, Int.toNat_natCast, idx_nat_lt b2, ih]
  ·have c1 : decide ((k : Int) < ((i1 - 1 : Nat) : Int)) = false := decide_eq_false (by omega)
   rw [show i1 - 1 - k = 0 by omega]
   simp only [c1, Bool.false_eq_true, if_false, shR]
theorem shL_m (N i1 : Nat) : ∀ (fuel : Nat) (l : List TMatch) (k : Nat), k - i1 < fuel → k < l.length → l.length ≤ 4294967296 → m_sl_symMergeCmpFunc_i_Match_l4 N (i1 : Int) fuel l (k : Int) = some (shL l k (k - i1))
 | 0, l, k, h, _, _ => by omega
 | fuel + 1, l, k, h, h2, hl => by
  rw [m_sl_symMergeCmpFunc_i_Match_l4]
  by_cases c : i1 < k
  ·have c1 : decide ((i1 : Int) < (k : Int)) = true := decide_eq_true (by omega)
   have a1 : k - 1 < l.length := by omega
   have b2 : k - 1 < (l.set k l[k - 1]).length := by rw [List.length_set]; omega
   have ih := shL_m N i1 fuel (swp l (k - 1) k) (k - 1) (by omega) (by rw [swp_len]; omega) (by rw [swp_len]; exact hl)
   have e := swp_some (List.getElem?_eq_getElem a1) (List.getElem?_eq_getElem h2)
   rw [List.set_comm _ _ (show k - 1 ≠ k by omega)] at e
   rw [e] at ih
   rw [show k - i1 = (k - 1 - i1) + 1 by omega, shL, e]
   simp only [c1, if_true, wS1 (x := k) (by omega) (by omega), idx_nat_lt a1, idx_nat_lt h2, Option.bind_some, Int.toNat_natCast, idx_nat_lt b2, ih]
  ·have c1 : decide ((i1 : Int) < (k : Int)) = false := decide_eq_false (by omega)
   rw [show k - i1 = 0 by omega]
   simp only [c1, Bool.false_eq_true, if_false, shL]
theorem bs1_m {N a : Nat} {p : TMatch → TMatch → Option Int} {lt : TMatch → TMatch → Bool} {l : List TMatch} (hs : Says p lt l) (ha : a < l.length) (hl : l.length ≤ 4294967296) (hN : l.length < N) :
  ∀ (f fuel i j : Nat), j - i < f → j - i < fuel → a < i → i ≤ j → j ≤ l.length → m_sl_symMergeCmpFunc_i_Match_l1 N l (a : Int) p fuel (i : Int) (j : Int) = some (shR l a (bsr (fun h => askL lt l h a) f i j - 1 - a))
 | 0, _, _, _, h, _, _, _, _ => by omega
 | f + 1, 0, _, _, _, h, _, _, _ => by omega
 | f + 1, fuel + 1, i, j, h1, h2, h3, h4, h5 => by
  rw [m_sl_symMergeCmpFunc_i_Match_l1, bsr]
  by_cases c : i < j
  ·have c1 : decide ((i : Int) < (j : Int)) = true := decide_eq_true (by omega)
   have hm : (i + j) / 2 < l.length := by omega
   obtain ⟨v, v1, v2⟩ := hs.at_ hm ha
   simp only [c1, if_true, half (x := i) (y := j) (by omega), idx_nat_lt hm, idx_nat_lt ha, Option.bind_some, v1, if_pos c, v2]
   by_cases cv : v < 0
   ·simp only [cv, decide_true, if_true, wr1 ((i + j) / 2) (by omega)]
    exact bs1_m hs ha hl hN f fuel _ _ (by omega) (by omega) (by omega) (by omega) h5
   ·simp only [cv, decide_false, Bool.false_eq_true, if_false]
    exact bs1_m hs ha hl hN f fuel _ _ (by omega) (by omega) h3 (by omega) (by omega)
  ·have c1 : decide ((i : Int) < (j : Int)) = false := decide_eq_false (by omega)
   simp only [c1, Bool.false_eq_true, if_false, if_neg c]
   exact shR_m N i N l a (by omega) (by omega) (by omega) hl
theorem bs3_m {N m : Nat} {p : TMatch → TMatch → Option Int} {lt : TMatch → TMatch → Bool} {l : List TMatch} (hs : Says p lt l) (ha : m < l.length) (hl : l.length ≤ 4294967296) (hN : l.length < N) :
  ∀ (f fuel i j : Nat), j - i < f → j - i < fuel → i ≤ j → j ≤ m → m_sl_symMergeCmpFunc_i_Match_l3 N l (m : Int) p fuel (i : Int) (j : Int) = some (shL l m (m - bsr (fun h => !askL lt l m h) f i j))
 | 0, _, _, _, h, _, _, _ => by omega
 | f + 1, 0, _, _, _, h, _, _ => by omega
 | f + 1, fuel + 1, i, j, h1, h2, h4, h5 => by
  rw [m_sl_symMergeCmpFunc_i_Match_l3, bsr]
  by_cases c : i < j
  ·have c1 : decide ((i : Int) < (j : Int)) = true := decide_eq_true (by omega)
   have hm : (i + j) / 2 < l.length := by omega
   obtain ⟨v, v1, v2⟩ := hs.at_ ha hm
   simp only [c1, if_true, half (x := i) (y := j) (by omega), idx_nat_lt hm, idx_nat_lt ha, Option.bind_some, v1, if_pos c, v2]
   by_cases cv : v < 0
   ·simp only [cv, decide_true, Bool.not_true, Bool.false_eq_true, if_false]
    exact bs3_m hs ha hl hN f fuel _ _ (by omega) (by omega) (by omega) (by omega)
   ·simp only [cv, decide_false, Bool.not_false, if_true, wr1 ((i + j) / 2) (by omega)]
    exact bs3_m hs ha hl hN f fuel _ _ (by omega) (by omega) (by omega) h5
  ·have c1 : decide ((i : Int) < (j : Int)) = false := decide_eq_false (by omega)
   simp only [c1, Bool.false_eq_true, if_false, if_neg c]
   exact shL_m N i N l m (by omega) ha hl
theorem andIf {a b : Prop} [Decidable a] [Decidable b] : (if decide a = true then some (decide b) else some false) = some (decide (a ∧ b)) := by
 by_cases h : a <;> simp [h]
theorem sym_j8 {N f a m b s : Nat} {p : TMatch → TMatch → Option Int} {lt : TMatch → TMatch → Bool} {RF : List TMatch → Int → Int → Int → (TMatch → TMatch → Option Int) → Option (List TMatch)} (u : List TMatch) (hu : u.length ≤ 4294967296) (hm : m < b) (ham : a < m) (hb : b ≤ u.length) (hs : s ≤ (a + b) / 2)
  (hRF : (a + b) / 2 < (a + b) / 2 + m - s → (a + b) / 2 + m - s < b → RF u (((a + b) / 2 : Nat) : Int) (((a + b) / 2 + m - s : Nat) : Int) (b : Int) p = some (symM lt f u ((a + b) / 2) ((a + b) / 2 + m - s) b)) :
  m_sl_symMergeCmpFunc_i_Match_j8 N (a : Int) (m : Int) (b : Int) p RF (s : Int) u = some (if (a + b) / 2 < (a + b) / 2 + m - s ∧ (a + b) / 2 + m - s < b then symM lt f u ((a + b) / 2) ((a + b) / 2 + m - s) b else u) := by
 have e1 : ((((a + b) / 2 : Nat) : Int) < (((a + b) / 2 + m - s : Nat) : Int)) = ((a + b) / 2 < (a + b) / 2 + m - s) := propext Int.ofNat_lt
 have e2 : ((((a + b) / 2 + m - s : Nat) : Int) < (b : Int)) = ((a + b) / 2 + m - s < b) := propext Int.ofNat_lt
 unfold m_sl_symMergeCmpFunc_i_Match_j8
 simp only [half (x := a) (y := b) (by omega), wA (x := (a + b) / 2) (y := m) (by omega), wS (x := (a + b) / 2 + m) (y := s) (by omega) (by omega), andIf, Option.bind_some, e1, e2]
 by_cases c : (a + b) / 2 < (a + b) / 2 + m - s ∧ (a + b) / 2 + m - s < b
 ·simp only [c, and_self, decide_true, if_true, hRF c.1 c.2, Option.bind_some]
 ·simp only [c, decide_false, Bool.false_eq_true, if_false]
theorem sym_j7 {N f a m b s : Nat} {p : TMatch → TMatch → Option Int} {lt : TMatch → TMatch → Bool} {RF : List TMatch → Int → Int → Int → (TMatch → TMatch → Option Int) → Option (List TMatch)} (l u : List TMatch) (hul : u.length = l.length) (hum : ∀ x ∈ u, x ∈ l) (hu : l.length ≤ 4294967296) (hm : m < b) (ham : a < m) (hb : b ≤ l.length) (hs : s ≤ (a + b) / 2) (hf : b - a ≤ f + 1)
  (hRF : ∀ (v : List TMatch) (a' m' b' : Nat), v.length = l.length → (∀ x ∈ v, x ∈ l) → a' < m' → m' < b' → b' ≤ l.length → b' - a' ≤ f → RF v (a' : Int) (m' : Int) (b' : Int) p = some (symM lt f v a' m' b')) :
  m_sl_symMergeCmpFunc_i_Match_j7 N (a : Int) (m : Int) (b : Int) p RF (s : Int) u = some (if (a + b) / 2 < (a + b) / 2 + m - s ∧ (a + b) / 2 + m - s < b then symM lt f (if a < s ∧ s < (a + b) / 2 then symM lt f u a s ((a + b) / 2) else u) ((a + b) / 2) ((a + b) / 2 + m - s) b else (if a < s ∧ s < (a + b) / 2 then symM lt f u a s ((a + b) / 2) else u)) := by
 have e1 : ((a : Int) < (s : Int)) = (a < s) := propext Int.ofNat_lt
 have e2 : ((s : Int) < (((a + b) / 2 : Nat) : Int)) = (s < (a + b) / 2) := propext Int.ofNat_lt
 unfold m_sl_symMergeCmpFunc_i_Match_j7
 simp only [half (x := a) (y := b) (by omega), andIf, Option.bind_some, e1, e2]
 have j8 := fun (v : List TMatch) (h1 : v.length = l.length) (h2 : ∀ x ∈ v, x ∈ l) => sym_j8 (N := N) (f := f) (lt := lt) (RF := RF) (p := p) (s := s) v (by omega) hm ham (by omega) hs (fun q1 q2 => hRF v _ _ _ h1 h2 q1 q2 hb (by omega))
 by_cases c : a < s ∧ s < (a + b) / 2
 ·obtain ⟨k1, k2⟩ := symM_keep (lt := lt) f u a s ((a + b) / 2)
  simp only [c, and_self, decide_true, if_true, hRF u a s ((a + b) / 2) hul hum c.1 c.2 (by omega) (by omega), Option.bind_some]
  exact j8 _ (by rw [k1, hul]) (fun x hx => hum x (k2 x hx))
 ·simp only [c, decide_false, Bool.false_eq_true, if_false]
  exact j8 u hul hum
theorem sym_l6 {N f a m b : Nat} {p : TMatch → TMatch → Option Int} {lt : TMatch → TMatch → Bool} {RF : List TMatch → Int → Int → Int → (TMatch → TMatch → Option Int) → Option (List TMatch)} (l : List TMatch) (hs : Says p lt l) (hu : l.length ≤ 4294967296) (hN : l.length < N) (hm : m < b) (ham : a < m) (hb : b ≤ l.length) (hf : b - a ≤ f + 1)
  (hRF : ∀ (v : List TMatch) (a' m' b' : Nat), v.length = l.length → (∀ x ∈ v, x ∈ l) → a' < m' → m' < b' → b' ≤ l.length → b' - a' ≤ f → RF v (a' : Int) (m' : Int) (b' : Int) p = some (symM lt f v a' m' b')) :
  ∀ (g fuel i j : Nat), j - i < g → j - i < fuel → i ≤ j → j ≤ (a + b) / 2 → j ≤ m → a ≤ i → (a + b) / 2 + m ≤ b + i →
   m_sl_symMergeCmpFunc_i_Match_l6 N l (a : Int) (m : Int) (b : Int) p RF fuel (i : Int) (j : Int) = some (
    let s := bsr (fun c => !askL lt l ((a + b) / 2 + m - 1 - c) c) g i j
    let e := (a + b) / 2 + m - s
    let l1 := if s < m ∧ m < e then rot l m (e - s) (m - s) (e - m) else l
    let l2 := if a < s ∧ s < (a + b) / 2 then symM lt f l1 a s ((a + b) / 2) else l1
    if (a + b) / 2 < e ∧ e < b then symM lt f l2 ((a + b) / 2) e b else l2)
 | 0, _, _, _, h, _, _, _, _, _, _ => by omega
 | g + 1, 0, _, _, _, h, _, _, _, _, _ => by omega
 | g + 1, fuel + 1, i, j, h1, h2, h3, h4, h5, h6, h7 => by
  rw [m_sl_symMergeCmpFunc_i_Match_l6, bsr]
  by_cases c : i < j
  ·have c1 : decide ((i : Int) < (j : Int)) = true := decide_eq_true (by omega)
   have hc : (i + j) / 2 < l.length := by omega
   have hp : (a + b) / 2 + m - 1 - (i + j) / 2 < l.length := by omega
   obtain ⟨v, v1, v2⟩ := hs.at_ hp hc
   simp only [c1, if_true, half (x := a) (y := b) (by omega), half (x := i) (y := j) (by omega), wA (x := (a + b) / 2) (y := m) (by omega), wS1 (x := (a + b) / 2 + m) (by omega) (by omega), wS (x := (a + b) / 2 + m - 1) (y := (i + j) / 2) (by omega) (by omega), idx_nat_lt hc, idx_nat_lt hp, Option.bind_some, v1, if_pos c, v2]
   by_cases cv : v < 0
   ·simp only [cv, decide_true, Bool.not_true, Bool.false_eq_true, if_false]
    exact sym_l6 l hs hu hN hm ham hb hf hRF g fuel _ _ (by omega) (by omega) (by omega) (by omega) (by omega) h6 h7
   ·simp only [cv, decide_false, Bool.not_false, if_true, wr1 ((i + j) / 2) (by omega)]
    exact sym_l6 l hs hu hN hm ham hb hf hRF g fuel _ _ (by omega) (by omega) (by omega) h4 h5 (by omega) (by omega)
  ·have c1 : decide ((i : Int) < (j : Int)) = false := decide_eq_false (by omega)
   have e1 : ((i : Int) < (m : Int)) = (i < m) := propext Int.ofNat_lt
   have e2 : ((m : Int) < (((a + b) / 2 + m - i : Nat) : Int)) = (m < (a + b) / 2 + m - i) := propext Int.ofNat_lt
   simp only [c1, Bool.false_eq_true, if_false, if_neg c, half (x := a) (y := b) (by omega), wA (x := (a + b) / 2) (y := m) (by omega), wS (x := (a + b) / 2 + m) (y := i) (by omega) (by omega), andIf, Option.bind_some, e1, e2]
   by_cases c2 : i < m ∧ m < (a + b) / 2 + m - i
   ·have hr := rotate_m (N := N) (a := i) (m := m) (b := (a + b) / 2 + m - i) p l (by omega) c2.1 c2.2 (by omega) hu
    simp only [c2, and_self, decide_true, if_true, hr, Option.bind_some]
    exact sym_j7 l _ (rot_len _ _ _ _ _) (fun x hx => mem_rot _ _ _ _ hx) hu hm ham hb (by omega) hf hRF
   ·simp only [c2, decide_false, Bool.false_eq_true, if_false]
    exact sym_j7 l l rfl (fun x hx => hx) hu hm ham hb (by omega) hf hRF
theorem symM_m {p : TMatch → TMatch → Option Int} {lt : TMatch → TMatch → Bool} : ∀ (f N : Nat) (l : List TMatch) (a m b : Nat), Says p lt l → l.length ≤ 4294967296 → l.length + f < N → a < m → m < b → b ≤ l.length → b - a ≤ f →
  m_sl_symMergeCmpFunc_i_Match N l (a : Int) (m : Int) (b : Int) p = some (symM lt f l a m b)
 | 0, _, _, _, _, _, _, _, _, h1, h2, _, h3 => by omega
 | f + 1, 0, _, _, _, _, _, _, h, _, _, _, _ => by omega
 | f + 1, N + 1, l, a, m, b, hs, hl, hN, h1, h2, h3, h4 => by
  rw [m_sl_symMergeCmpFunc_i_Match, wS (x := m) (y := a) (by omega) (by omega), wS (x := b) (y := m) (by omega) (by omega), half (x := a) (y := b) (by omega)]
  unfold symM
  by_cases c1 : m - a = 1
  ·have d1 : decide (((m - a : Nat) : Int) = 1) = true := decide_eq_true (by omega)
   rw [d1, if_pos rfl, if_pos c1]
   exact bs1_m hs (by omega) hl (by omega) (b - m + 1) N m b (by omega) (by omega) h1 (by omega) h3
  ·have d1 : decide (((m - a : Nat) : Int) = 1) = false := decide_eq_false (by omega)
   rw [d1, if_neg (by simp), if_neg c1]
   by_cases c2 : b - m = 1
   ·have d2 : decide (((b - m : Nat) : Int) = 1) = true := decide_eq_true (by omega)
    rw [d2, if_pos rfl, if_pos c2]
    exact bs3_m hs (by omega) hl (by omega) (m - a + 1) N a m (by omega) (by omega) (by omega) (Nat.le_refl _)
   ·have d2 : decide (((b - m : Nat) : Int) = 1) = false := decide_eq_false (by omega)
    rw [d2, if_neg (by simp), if_neg c2]
    have hRF : ∀ (v : List TMatch) (a' m' b' : Nat), v.length = l.length → (∀ x ∈ v, x ∈ l) → a' < m' → m' < b' → b' ≤ l.length → b' - a' ≤ f → m_sl_symMergeCmpFunc_i_Match N v (a' : Int) (m' : Int) (b' : Int) p = some (symM lt f v a' m' b') :=
     fun v a' m' b' g1 g2 g3 g4 g5 g6 => symM_m f N v a' m' b' (hs.sub g2) (by omega) (by omega) g3 g4 (by omega) g6
    have L6 := sym_l6 (N := N) (f := f) (a := a) (m := m) (b := b) (lt := lt) l hs hl (by omega) h2 h1 h3 h4 hRF
    by_cases c3 : (a + b) / 2 < m
    ·have d3 : decide ((((a + b) / 2 : Nat) : Int) < (m : Int)) = true := decide_eq_true (by omega)
     simp only [d3, if_true, if_pos c3, m_sl_symMergeCmpFunc_i_Match_j5, wA (x := (a + b) / 2) (y := m) (by omega), wS (x := (a + b) / 2 + m) (y := b) (by omega) (by omega)]
     exact L6 ((a + b) / 2 - ((a + b) / 2 + m - b) + 1) N ((a + b) / 2 + m - b) ((a + b) / 2) (by omega) (by omega) (by omega) (Nat.le_refl _) (by omega) (by omega) (by omega)
    ·have d3 : decide ((((a + b) / 2 : Nat) : Int) < (m : Int)) = false := decide_eq_false (by omega)
     simp only [d3, Bool.false_eq_true, if_false, if_neg c3, m_sl_symMergeCmpFunc_i_Match_j5]
     exact L6 (m - a + 1) N a m (by omega) (by omega) (by omega) (by omega) (Nat.le_refl _) (Nat.le_refl _) (by omega)
section
variable {α : Type} {lt : α → α → Bool}
theorem blk1_keep (s : Nat) : ∀ (f : Nat) (l : List α) (a n : Nat), (blk1 lt s f l a n).length = l.length ∧ ∀ x ∈ blk1 lt s f l a n, x ∈ l
 | 0, l, a, n => ⟨rfl, fun x h => h⟩
 | f + 1, l, a, n => by
  unfold blk1
  split
  ·obtain ⟨h1, h2⟩ := insS_keep (lt := lt) (s + 1) l a (a + 1) (a + s)
   obtain ⟨g1, g2⟩ := blk1_keep s f (insS lt (s + 1) l a (a + 1) (a + s)) (a + s) n
   exact ⟨by rw [g1, h1], fun x h => h2 x (g2 x h)⟩
  ·exact insS_keep _ _ _ _ _
theorem pas_keep (F s : Nat) : ∀ (f : Nat) (l : List α) (a n : Nat), (pas lt F s f l a n).length = l.length ∧ ∀ x ∈ pas lt F s f l a n, x ∈ l
 | 0, l, a, n => ⟨rfl, fun x h => h⟩
 | f + 1, l, a, n => by
  unfold pas
  split
  ·obtain ⟨h1, h2⟩ := symM_keep (lt := lt) F l a (a + s) (a + 2 * s)
   obtain ⟨g1, g2⟩ := pas_keep F s f (symM lt F l a (a + s) (a + 2 * s)) (a + 2 * s) n
   exact ⟨by rw [g1, h1], fun x h => h2 x (g2 x h)⟩
  ·split
   ·exact symM_keep _ _ _ _ _
   ·exact ⟨rfl, fun x h => h⟩
end
variable {p : TMatch → TMatch → Option Int} {lt : TMatch → TMatch → Bool}
theorem insD_m {N a i : Nat} (K : List TMatch → Int → Option (List TMatch)) : ∀ (f fuel : Nat) (l : List TMatch) (j : Nat), j - a < f → j - a < fuel → j < l.length → Says p lt l → l.length ≤ 4294967296 →
  m_sl_insertionSortCmpFunc_i_Match_l2 N (a : Int) p (i : Int) K fuel l (j : Int) = K (insD lt f l a j) (IntKind.i64.wrap ((i : Int) + 1))
 | 0, _, _, _, h, _, _, _, _ => by omega
 | f + 1, 0, _, _, _, h, _, _, _ => by omega
 | f + 1, fuel + 1, l, j, h1, h2, h3, hs, hl => by
  rw [m_sl_insertionSortCmpFunc_i_Match_l2, insD]
  by_cases c : a < j
  ·have c1 : decide ((a : Int) < (j : Int)) = true := decide_eq_true (by omega)
   have j1 : j - 1 < l.length := by omega
   have b2 : j - 1 < (l.set j l[j - 1]).length := by rw [List.length_set]; omega
   obtain ⟨v, v1, v2⟩ := hs.at_ h3 j1
   simp only [c1, if_true, wS1 (x := j) (by omega) (by omega), idx_nat_lt h3, idx_nat_lt j1, Option.bind_some, v1, v2]
   by_cases cv : v < 0
   ·have e := swp_some (List.getElem?_eq_getElem j1) (List.getElem?_eq_getElem h3)
    rw [List.set_comm _ _ (show j - 1 ≠ j by omega)] at e
    have ih := insD_m (N := N) (a := a) (i := i) K f fuel (swp l (j - 1) j) (j - 1) (by omega) (by omega) (by rw [swp_len]; omega) (hs.sub fun x hx => mem_swp hx) (by rw [swp_len]; exact hl)
    rw [e] at ih
    simp only [cv, decide_true, if_true, Int.toNat_natCast, idx_nat_lt b2, Option.bind_some, c, and_self, e, ih]
   ·simp only [cv, decide_false, Bool.false_eq_true, if_false, and_false]
  ·have c1 : decide ((a : Int) < (j : Int)) = false := decide_eq_false (by omega)
   simp only [c1, Bool.false_eq_true, if_false, Option.bind_some, c, false_and]
theorem insS_m {N a b : Nat} (hN : b < N) : ∀ (f fuel : Nat) (l : List TMatch) (i : Nat), b - i < f → b - i < fuel → b ≤ l.length → Says p lt l → l.length ≤ 4294967296 →
  m_sl_insertionSortCmpFunc_i_Match_l1 N (a : Int) (b : Int) p fuel l (i : Int) = some (insS lt f l a i b)
 | 0, _, _, _, h, _, _, _, _ => by omega
 | f + 1, 0, _, _, _, h, _, _, _ => by omega
 | f + 1, fuel + 1, l, i, h1, h2, h3, hs, hl => by
  rw [m_sl_insertionSortCmpFunc_i_Match_l1, insS]
  by_cases c : i < b
  ·have c1 : decide ((i : Int) < (b : Int)) = true := decide_eq_true (by omega)
   obtain ⟨k1, k2⟩ := insD_keep (lt := lt) (i - a + 1) l a i
   rw [c1, if_pos rfl, if_pos c, insD_m (lt := lt) _ (i - a + 1) N l i (by omega) (by omega) (by omega) hs hl, wr1 i (by omega)]
   exact insS_m hN f fuel _ (i + 1) (by omega) (by omega) (by omega) (hs.sub k2) (by omega)
  ·have c1 : decide ((i : Int) < (b : Int)) = false := decide_eq_false (by omega)
   rw [c1, if_neg (by simp), if_neg c]
theorem ins_m {N a b f : Nat} (l : List TMatch) (hN : b < N) (hf : b - (a + 1) < f) (h3 : b ≤ l.length) (ha : a ≤ b) (hs : Says p lt l) (hl : l.length ≤ 4294967296) :
  m_sl_insertionSortCmpFunc_i_Match N l (a : Int) (b : Int) p = some (insS lt f l a (a + 1) b) := by
 unfold m_sl_insertionSortCmpFunc_i_Match
 rw [wr1 a (by omega)]
 exact insS_m hN f N l (a + 1) hf (by omega) h3 hs hl
theorem blk1_m {N n : Nat} (hN : n < N) : ∀ (f fuel : Nat) (l : List TMatch) (a : Nat), n - a < f → n - a < fuel → a ≤ n → n ≤ l.length → Says p lt l → l.length ≤ 4294967296 →
  m_sl_stableCmpFunc_i_Match_l1 N (n : Int) p fuel l (a : Int) ((a + 20 : Nat) : Int) = m_sl_stableCmpFunc_i_Match_l2 N (n : Int) p N (blk1 lt 20 f l a n) 20
 | 0, _, _, _, h, _, _, _, _, _ => by omega
 | f + 1, 0, _, _, _, h, _, _, _, _ => by omega
 | f + 1, fuel + 1, l, a, h1, h2, h3, h4, hs, hl => by
  rw [m_sl_stableCmpFunc_i_Match_l1, blk1]
  by_cases c : a + 20 ≤ n
  ·have c1 : decide (((a + 20 : Nat) : Int) ≤ (n : Int)) = true := decide_eq_true (by omega)
   obtain ⟨k1, k2⟩ := insS_keep (lt := lt) (20 + 1) l a (a + 1) (a + 20)
   have e : IntKind.i64.wrap (((a + 20 : Nat) : Int) + 20) = ((a + 20 + 20 : Nat) : Int) := wA (x := a + 20) (y := 20) (by omega)
   rw [c1, if_pos rfl, if_pos c, ins_m (lt := lt) (f := 20 + 1) l (by omega) (by omega) (by omega) (by omega) hs hl, Option.bind_some, e]
   exact blk1_m hN f fuel _ (a + 20) (by omega) (by omega) c (by omega) (hs.sub k2) (by omega)
  ·have c1 : decide (((a + 20 : Nat) : Int) ≤ (n : Int)) = false := decide_eq_false (by omega)
   rw [c1, if_neg (by simp), if_neg c, ins_m (lt := lt) (f := n - a + 1) l hN (by omega) h4 h3 hs hl, Option.bind_some]
theorem pas_m {N n F s : Nat} (hn : n ≤ 4294967296) (hs0 : 0 < s) (hsn : s < n) (hF : n ≤ F) (hN : n + F < N) (K : List TMatch → Int → Option (List TMatch)) : ∀ (f fuel : Nat) (l : List TMatch) (a : Nat), n - a < f → n - a < fuel → a ≤ n → l.length = n → Says p lt l →
  m_sl_stableCmpFunc_i_Match_l3 N (n : Int) p (s : Int) K fuel l (a : Int) ((a + 2 * s : Nat) : Int) = K (pas lt F s f l a n) ((2 * s : Nat) : Int)
 | 0, _, _, _, h, _, _, _, _ => by omega
 | f + 1, 0, _, _, _, h, _, _, _ => by omega
 | f + 1, fuel + 1, l, a, h1, h2, h3, h4, hs => by
  rw [m_sl_stableCmpFunc_i_Match_l3, pas]
  have e2 : IntKind.i64.wrap ((s : Int) * 2) = ((2 * s : Nat) : Int) := by rw [wr (by omega) (by omega)]; omega
  have e3 : IntKind.i64.wrap (2 * (s : Int)) = ((2 * s : Nat) : Int) := by rw [wr (by omega) (by omega)]; omega
  rw [wA (x := a) (y := s) (by omega), e2]
  by_cases c : a + 2 * s ≤ n
  ·have c1 : decide (((a + 2 * s : Nat) : Int) ≤ (n : Int)) = true := decide_eq_true (by omega)
   obtain ⟨k1, k2⟩ := symM_keep (lt := lt) F l a (a + s) (a + 2 * s)
   have hM := symM_m F N l a (a + s) (a + 2 * s) hs (by omega) (by omega) (by omega) (by omega) (by omega) (by omega)
   rw [c1, if_pos rfl, if_pos c, hM, Option.bind_some, e3, wA (x := a + 2 * s) (y := 2 * s) (by omega)]
   exact pas_m hn hs0 hsn hF hN K f fuel _ (a + 2 * s) (by omega) (by omega) c (by omega) (hs.sub k2)
  ·have c1 : decide (((a + 2 * s : Nat) : Int) ≤ (n : Int)) = false := decide_eq_false (by omega)
   rw [c1, if_neg (by simp), if_neg c]
   by_cases c2 : a + s < n
   ·have d1 : decide (((a + s : Nat) : Int) < (n : Int)) = true := decide_eq_true (by omega)
    have hM := symM_m F N l a (a + s) n hs (by omega) (by omega) (by omega) (by omega) (by omega) (by omega)
    rw [d1, if_pos rfl, if_pos c2, hM, Option.bind_some]
   ·have d1 : decide (((a + s : Nat) : Int) < (n : Int)) = false := decide_eq_false (by omega)
    rw [d1, if_neg (by simp), if_neg c2]
theorem stL_m {N n F : Nat} (hn : n ≤ 4294967296) (hF : n ≤ F) (hN : n + F < N) : ∀ (f fuel : Nat) (l : List TMatch) (s : Nat), 0 < s → n - s < f → n - s < fuel → l.length = n → Says p lt l →
  m_sl_stableCmpFunc_i_Match_l2 N (n : Int) p fuel l (s : Int) = some (stL lt F f l n s)
 | 0, _, _, _, _, h, _, _, _ => by omega
 | f + 1, 0, _, _, _, _, h, _, _ => by omega
 | f + 1, fuel + 1, l, s, h0, h1, h2, h4, hs => by
  rw [m_sl_stableCmpFunc_i_Match_l2, stL]
  by_cases c : s < n
  ·have c1 : decide ((s : Int) < (n : Int)) = true := decide_eq_true (by omega)
   have e3 : IntKind.i64.wrap (2 * (s : Int)) = ((0 + 2 * s : Nat) : Int) := by rw [wr (by omega) (by omega)]; omega
   obtain ⟨k1, k2⟩ := pas_keep (lt := lt) F s (n + 1) l 0 n
   rw [c1, if_pos rfl, if_pos c, e3]
   refine (pas_m (lt := lt) (a := 0) hn h0 c hF hN _ (n + 1) N l (by omega) (by omega) (by omega) h4 hs).trans ?_
   exact stL_m hn hF hN f fuel _ (2 * s) (by omega) (by omega) (by omega) (by omega) (hs.sub k2)
  ·have c1 : decide ((s : Int) < (n : Int)) = false := decide_eq_false (by omega)
   rw [c1, if_neg (by simp), if_neg c]
theorem sort_m {N : Nat} (l : List TMatch) (hs : Says p lt l) (hl : l.length ≤ 4294967296) (hN : l.length + l.length < N) : m_sl_SortStableFunc_Si_Match_i_Match N l p = some (stable lt l.length l) := by
 unfold m_sl_SortStableFunc_Si_Match_i_Match m_sl_stableCmpFunc_i_Match stable
 obtain ⟨k1, k2⟩ := blk1_keep (lt := lt) 20 (l.length + 1) l 0 l.length
 have h1 := blk1_m (lt := lt) (N := N) (n := l.length) (by omega) (l.length + 1) N l 0 (by omega) (by omega) (by omega) (Nat.le_refl _) hs hl
 simp only [Int.natCast_zero, Nat.zero_add] at h1
 have h1' : m_sl_stableCmpFunc_i_Match_l1 N (l.length : Int) p N l 0 20 = _ := h1
 have h2 := stL_m (lt := lt) (N := N) (n := l.length) (F := l.length) hl (Nat.le_refl _) hN (l.length + 1) N (blk1 lt 20 (l.length + 1) l 0 l.length) 20 (by omega) (by omega) (by omega) k1 (hs.sub k2)
 have h2' : m_sl_stableCmpFunc_i_Match_l2 N (l.length : Int) p N (blk1 lt 20 (l.length + 1) l 0 l.length) 20 = _ := h2
 rw [h1', h2', Option.bind_some]
theorem factOf_s {N : Nat} (hN : 1099000000000 ≤ N) (s : TStore) (v : Int) (hl : s.Items.length ≤ 1048576) (hx : ∀ x ∈ s.Items, x.F.Fields.length ≤ 1048576) : m_s_FactOf N s v = some (factOf s.Items v) := by
 unfold m_s_FactOf
 refine lp0 hN s.Items (by omega) (m_s_FactOf_l1 N s v) (fun t => some (factOf t v)) (fun n i x t h1 h2 h3 h4 h5 h6 h7 => ?_) (fun n i h1 h2 => ?_)
 ·have e : m_s_l3Copy N x.F = some x.F := by
   unfold m_s_l3Copy
   rw [app_nil (show x.F.Fields.length ≤ 4294967296 by have := hx x h2; omega)]; rfl
  simp only [m_s_FactOf_l1, h5, if_true, h4, Option.bind_some, h6, h7, e, factOf_cons]
  by_cases h : x.Id = v <;> simp [h]
 ·simp only [m_s_FactOf_l1, h2, Bool.false_eq_true, if_false]; rfl
theorem bindsFor_s {N : Nat} (hN : 1099000000000 ≤ N) (r : TRule) (s : TStore) (ids : List Int) (hl : r.Pats.length ≤ 1048576) (ha : sumArgs r.Pats ≤ 1048576) (hp : ∀ p ∈ r.Pats, p.Args.length ≤ 1048576) (hs : s.Items.length ≤ 1048576) (hx : ∀ x ∈ s.Items, x.F.Fields.length ≤ 1048576) (hi : ids.length ≤ 1048576) :
  m_s_BindsFor N r s ids = some (bindsP s.Items (pos r.Pats) ids []) := by
 unfold m_s_BindsFor
 refine (lp' hN r.Pats (by omega) (fun n (u : List TBind × Nat) i => m_s_BindsFor_l1 N r s ids n u.1 (u.2 : Int) i) (fun t u => some (bindsP s.Items (pos t) (ids.drop u.2) u.1)) (fun u t => u.1.length + sumArgs t ≤ 1048576 ∧ u.2 ≤ ids.length) ([], 0) ⟨by simpa using ha, by simp⟩ (fun n u i p t g1 g2 g3 g4 g5 g6 gI ih => ?_) (fun n u i g1 g2 gI => ?_)).trans (by simp)
 ·obtain ⟨i1, i2⟩ := gI
  rw [sumArgs_cons] at i1
  simp only [m_s_BindsFor_l1, g5, if_true, g4, Option.bind_some]
  have hpos : pos (p :: t) = if p.Not then pos t else p :: pos t := by
   unfold pos; rw [List.filter_cons]; cases p.Not <;> simp
  rw [hpos]
  cases hn : p.Not with
  | true =>
   simp only [if_true, g6]
   exact ih u ⟨by omega, i2⟩
  | false =>
   simp only [Bool.false_eq_true, if_false]
   by_cases hk : u.2 < ids.length
   ·have c1 : decide ((ids.length : Int) ≤ (u.2 : Int)) = false := decide_eq_false (by omega)
    have hml := matchPat_len p (factOf s.Items ids[u.2]).1 u.1
    rw [List.drop_eq_getElem_cons hk]
    simp only [c1, Bool.false_eq_true, if_false, idx_nat_lt hk, Option.bind_some, factOf_s hN s _ hs hx, m_s_BindsFor_j2, g4]
    rw [show (⟨(factOf s.Items ids[u.2]).1.Kind, (factOf s.Items ids[u.2]).1.Fields⟩ : TFact) = (factOf s.Items ids[u.2]).1 from rfl, match_s hN p _ _ (hp p g2) (show u.1.length ≤ 2147483648 by omega)]
    simp only [Option.bind_some, orS, bindsP, wr1 u.2 (by omega), g6]
    cases (factOf s.Items ids[u.2]).2 with
    | false => simp
    | true =>
     cases (matchPat p (factOf s.Items ids[u.2]).1 u.1).2 with
     | false => simp
     | true =>
      simp only [Bool.not_true, Bool.or_self, Bool.false_eq_true, if_false, and_self, if_true]
      exact ih ((matchPat p (factOf s.Items ids[u.2]).1 u.1).1, u.2 + 1) ⟨by simp only; omega, by simp only; omega⟩
   ·have c1 : decide ((ids.length : Int) ≤ (u.2 : Int)) = true := decide_eq_true (by omega)
    rw [List.drop_of_length_le (by omega)]
    simp only [c1, if_true, bindsP]
 ·obtain ⟨i1, i2⟩ := gI
  simp only [m_s_BindsFor_l1, g2, Bool.false_eq_true, if_false]
  by_cases hk : u.2 = ids.length
  ·have c1 : decide ((u.2 : Int) = (ids.length : Int)) = true := decide_eq_true (by omega)
   rw [List.drop_of_length_le (by omega), c1]
   simp [pos, bindsP]
  ·have c1 : decide ((u.2 : Int) = (ids.length : Int)) = false := decide_eq_false (by omega)
   rw [c1]
   cases hd : ids.drop u.2 with
   | nil => have := congrArg List.length hd; simp at this; omega
   | cons a b => simp [pos, bindsP]
theorem look_i {N : Nat} (hN : 1099000000000 ≤ N) (p : List TBind) (n : ByteArray) (hl : p.length ≤ 4294967296) : m_i_BindOf N p n = some (look p n) := by
 unfold m_i_BindOf
 have : ∀ (k i : Nat), i ≤ p.length → p.length - i < k → m_i_BindOf_l1 N p n k i = some (look (p.drop i) n) := by
  intro k
  induction k with
  | zero => intro i _ h; omega
  | succ k ih =>
   intro i hi hk
   simp only [m_i_BindOf_l1]
   by_cases hlt : i < p.length
   ·have c1 : decide ((i : Int) < (p.length : Int)) = true := decide_eq_true (by omega)
    rw [List.drop_eq_getElem_cons hlt, look_cons]
    simp only [c1, if_true, idx_nat_lt hlt, Option.bind_some, wr1 i (by omega), ih (i + 1) (by omega) (by omega)]
    cases seq p[i].Name n <;> rfl
   ·have c1 : decide ((i : Int) < (p.length : Int)) = false := decide_eq_false (by omega)
    simp only [c1, Bool.false_eq_true, if_false]
    rw [List.drop_of_length_le (by omega)]; rfl
 exact this N 0 (by omega) (by omega)
theorem match_loopI {N : Nat} (hN : 1099000000000 ≤ N) (p : TPat) (f : TFact) (b : List TBind) (he : p.Args.length = f.Fields.length) (hl : p.Args.length ≤ 1048576) (hb : b.length ≤ 2147483648) : ∀ (n i : Nat) (s : List TBind), i ≤ p.Args.length → p.Args.length - i < n → s.length ≤ 2147483648 + i →
  m_i_MatchPat_l1 N p f b n s i = some (matchArgs b (p.Args.drop i) (f.Fields.drop i) s) := by
 intro n
 induction n with
 | zero => intro i s _ h; omega
 | succ n ih =>
  intro i s hi hn hs
  simp only [m_i_MatchPat_l1]
  by_cases hlt : i < p.Args.length
  ·have c1 : decide ((i : Int) < (p.Args.length : Int)) = true := decide_eq_true (by omega)
   have hlt' : i < f.Fields.length := by omega
   rw [List.drop_eq_getElem_cons hlt, List.drop_eq_getElem_cons hlt', matchArgs]
   simp only [c1, if_true, idx_nat_lt hlt, idx_nat_lt hlt', Option.bind_some, look_i hN s _ (show s.length ≤ 4294967296 by omega), m_sl_Clone_Si_Bind_i_Bind, app_nil (show b.length ≤ 4294967296 by omega), app_ok (show s.length + [(⟨p.Args[i].S, f.Fields[i]⟩ : TBind)].length ≤ 4294967296 by simp; omega), wr1 i (by omega), andS, orS]
   have ih1 := ih (i + 1) s (by omega) (by omega) (by omega)
   have ih2 := ih (i + 1) (s ++ [⟨p.Args[i].S, f.Fields[i]⟩]) (by omega) (by omega) (by simp; omega)
   by_cases k2 : p.Args[i].K = 2
   ·have k1 : ¬ p.Args[i].K = 1 := by omega
    simp only [k2, k1, decide_true, decide_false, if_true, if_false, Bool.true_and, Bool.false_and, Bool.or_false, Bool.false_eq_true, Option.bind_some, show ¬ (2 : Int) = 1 by omega]
    cases eqT_TVal p.Args[i].V f.Fields[i] with
    | true => simpa using ih1
    | false => simp
   ·by_cases k1 : p.Args[i].K = 1
    ·simp only [k1, decide_true, decide_false, if_true, if_false, Bool.true_and, Bool.false_and, Bool.false_or, Bool.false_eq_true, Option.bind_some, show ¬ (1 : Int) = 2 by omega]
     cases (look s p.Args[i].S).2 with
     | true =>
      simp only [if_true, Bool.not_true, Bool.true_and, Bool.false_eq_true, if_false]
      cases eqT_TVal (look s p.Args[i].S).1 f.Fields[i] with
      | true => simpa using ih1
      | false => simp
     | false => simpa using ih2
    ·simp only [k1, k2, decide_false, if_false, Bool.false_and, Bool.false_or, Bool.or_false, Bool.false_eq_true, Option.bind_some]
     simpa using ih1
  ·have c1 : decide ((i : Int) < (p.Args.length : Int)) = false := decide_eq_false (by omega)
   simp only [c1, Bool.false_eq_true, if_false]
   rw [List.drop_of_length_le (by omega)]
   rfl
theorem seq_comm' (a b : ByteArray) : seq a b = seq b a := by rw [seq_eq, seq_eq]; simp [eq_comm]
theorem match_i {N : Nat} (hN : 1099000000000 ≤ N) (p : TPat) (f : TFact) (b : List TBind) (hl : p.Args.length ≤ 1048576) (hb : b.length ≤ 2147483648) : m_i_MatchPat N p f b = some (matchPat p f b) := by
 unfold m_i_MatchPat matchPat m_sl_Clone_Si_Bind_i_Bind
 rw [app_nil (by omega), seq_comm' f.Kind p.Kind]
 simp only [Option.bind_some, orS]
 cases hk : seq p.Kind f.Kind with
 | false => simp
 | true =>
  by_cases he : p.Args.length = f.Fields.length
  ·have he' : decide ((f.Fields.length : Int) = (p.Args.length : Int)) = true := decide_eq_true (by omega)
   have := (match_loopI hN p f b he hl hb N 0 b (by omega) (by omega) (by omega))
   simp only [he', he, Bool.not_true, Bool.or_false, Bool.false_eq_true, if_false, true_and, if_true]
   simpa using this
  ·have he' : decide ((f.Fields.length : Int) = (p.Args.length : Int)) = false := decide_eq_false (by omega)
   simp [he', he]
theorem factOf_i {N : Nat} (hN : 1099000000000 ≤ N) (s : TStore) (v : Int) (hl : s.Items.length ≤ 1048576) (hx : ∀ x ∈ s.Items, x.F.Fields.length ≤ 1048576) : m_i_FactOf N s v = some (factOf s.Items v) := by
 unfold m_i_FactOf
 refine lp0 hN s.Items (by omega) (m_i_FactOf_l1 N s v) (fun t => some (factOf t v)) (fun n i x t h1 h2 h3 h4 h5 h6 h7 => ?_) (fun n i h1 h2 => ?_)
 ·have e : m_i_copyFact N x.F = some x.F := by
   unfold m_i_copyFact m_sl_Clone_Si_Val_i_Val
   rw [app_nil (show x.F.Fields.length ≤ 4294967296 by have := hx x h2; omega)]; rfl
  simp only [m_i_FactOf_l1, h5, if_true, h4, Option.bind_some, h6, h7, e, factOf_cons]
  by_cases h : x.Id = v <;> simp [h]
 ·simp only [m_i_FactOf_l1, h2, Bool.false_eq_true, if_false]; rfl
theorem patsOf_i {N : Nat} (hN : 1099000000000 ≤ N) (r : TRule) (b : Bool) (hl : r.Pats.length ≤ 1048576) : m_i_pats N r b = some (r.Pats.filter fun p => p.Not == b) := by
 unfold m_i_pats
 refine (lp' hN r.Pats (by omega) (m_i_pats_l1 N r b) (fun t u => some (u ++ t.filter fun p => p.Not == b)) (fun u t => u.length + t.length ≤ 1048576) [] (by simpa using hl) (fun n u i p t g1 g2 g3 g4 g5 g6 gI ih => ?_) (fun n u i g1 g2 gI => ?_)).trans (by simp)
 ·simp only [List.length_cons] at gI
  simp only [m_i_pats_l1, g5, if_true, g4, Option.bind_some, List.filter_cons, g6]
  cases hb : (p.Not == b) with
  | true =>
   simp only [if_true, app_ok (show u.length + [p].length ≤ 4294967296 by simp; omega), Option.bind_some]
   rw [ih _ (by simp; omega)]; simp
  | false =>
   simp only [Bool.false_eq_true, if_false]
   exact ih u (by omega)
 ·simp only [m_i_pats_l1, g2, Bool.false_eq_true, if_false]; simp
theorem bindsOf_i {N : Nat} (hN : 1099000000000 ≤ N) (ps : List TPat) (s : TStore) (ids : List Int) (ha : sumArgs ps ≤ 1048576) (hp : ∀ p ∈ ps, p.Args.length ≤ 1048576) (hs : s.Items.length ≤ 1048576) (hx : ∀ x ∈ s.Items, x.F.Fields.length ≤ 1048576) (hi : ids.length ≤ 1048576) (he : ids.length = ps.length) :
  m_i_bindsOf N ps s ids = some (bindsP s.Items ps ids []) := by
 unfold m_i_bindsOf
 have lp : ∀ (n i : Nat) (l : List TBind), i ≤ ids.length → ids.length - i < n → l.length + sumArgs (ps.drop i) ≤ 1048576 → m_i_bindsOf_l1 N ps s ids n l i = some (bindsP s.Items (ps.drop i) (ids.drop i) l) := by
  intro n
  induction n with
  | zero => intro i _ _ h; omega
  | succ n ih =>
   intro i l h1 hn hl
   by_cases hlt : i < ids.length
   ·have c1 : decide ((i : Int) < (ids.length : Int)) = true := decide_eq_true (by omega)
    have hlt' : i < ps.length := by omega
    rw [List.drop_eq_getElem_cons hlt'] at hl
    rw [sumArgs_cons] at hl
    have hml := matchPat_len ps[i] (factOf s.Items ids[i]).1 l
    rw [List.drop_eq_getElem_cons hlt, List.drop_eq_getElem_cons hlt', bindsP]
    simp only [m_i_bindsOf_l1, c1, if_true, idx_nat_lt hlt, idx_nat_lt hlt', Option.bind_some, factOf_i hN s _ hs hx, match_i hN ps[i] _ l (hp _ (List.getElem_mem hlt')) (show l.length ≤ 2147483648 by omega), wr1 i (by omega)]
    cases (factOf s.Items ids[i]).2 with
    | false => simp
    | true =>
     cases (matchPat ps[i] (factOf s.Items ids[i]).1 l).2 with
     | false => simp
     | true =>
      simp only [Bool.not_true, Bool.false_eq_true, if_false, and_self, if_true]
      exact ih (i + 1) _ (by omega) (by omega) (by omega)
   ·have c1 : decide ((i : Int) < (ids.length : Int)) = false := decide_eq_false (by omega)
    simp only [m_i_bindsOf_l1, c1, Bool.false_eq_true, if_false]
    rw [List.drop_of_length_le (by omega), List.drop_of_length_le (by omega)]; rfl
 have := lp N 0 [] (by omega) (by omega) (by simpa using ha)
 simpa using this
theorem bindsFor_i {N : Nat} (hN : 1099000000000 ≤ N) (r : TRule) (s : TStore) (ids : List Int) (hl : r.Pats.length ≤ 1048576) (ha : sumArgs r.Pats ≤ 1048576) (hp : ∀ p ∈ r.Pats, p.Args.length ≤ 1048576) (hs : s.Items.length ≤ 1048576) (hx : ∀ x ∈ s.Items, x.F.Fields.length ≤ 1048576) (hi : ids.length ≤ 1048576) :
  m_i_BindsFor N r s ids = some (bindsP s.Items (pos r.Pats) ids []) := by
 unfold m_i_BindsFor
 rw [patsOf_i hN r false hl, Option.bind_some, pos_eq]
 by_cases he : ids.length = (pos r.Pats).length
 ·have c1 : decide ((ids.length : Int) = ((pos r.Pats).length : Int)) = true := decide_eq_true (by omega)
  have h1 := sumArgs_pos r.Pats
  rw [c1]
  simp only [Bool.not_true, Bool.false_eq_true, if_false, bindsOf_i hN (pos r.Pats) s ids (by omega) (fun p h => hp p ((List.mem_filter.1 h).1)) hs hx hi he, Option.bind_some]
 ·have c1 : decide ((ids.length : Int) = ((pos r.Pats).length : Int)) = false := decide_eq_false (by omega)
  rw [c1, bindsP_ne (fun h => he h.symm)]; rfl
theorem sumArgs_tot : ∀ (l : List TPat), (sumArgs l : Int) ≤ (l.map totTPat).sum
 | [] => by simp [sumArgs]
 | p :: t => by
  have h1 := sumArgs_tot t
  have h2 : (p.Args.length : Int) ≤ totTPat p := by
   unfold totTPat
   have := sum_nonneg totTArg p.Args (fun y _ => totTArg_nn y)
   omega
  rw [sumArgs_cons, List.map_cons, List.sum_cons]; omega
theorem argVal_i {N : Nat} (hN : 1099000000000 ≤ N) (a : TArg) (l : List TBind) (hl : l.length ≤ 4294967296) : m_i_ArgVal N a l = some (argVal a l) := by
 unfold m_i_ArgVal argVal
 rw [look_i hN l a.S hl]
 by_cases h2 : a.K = 2
 ·simp [h2]
 ·by_cases h1 : a.K = 1 <;> simp [h1, h2, zv]
theorem or3 {N : Nat} (hN : 1099000000000 ≤ N) (a b c : Int) : m_cmp_Or_int N [a, b, c] = some (if a = 0 then (if b = 0 then c else b) else a) := by
 obtain ⟨n, rfl⟩ : ∃ n, N = n + 4 := ⟨N - 4, by omega⟩
 unfold m_cmp_Or_int
 have w1 : IntKind.i64.wrap ((0 : Int) + 1) = 1 := by decide
 have w2 : IntKind.i64.wrap ((1 : Int) + 1) = 2 := by decide
 have w3 : IntKind.i64.wrap ((2 : Int) + 1) = 3 := by decide
 have i0 : idx [a, b, c] 0 = some a := rfl
 have i1 : idx [a, b, c] 1 = some b := rfl
 have i2 : idx [a, b, c] 2 = some c := rfl
 have l2 : (([a, b, c] : List Int).length : Int) = 3 := rfl
 simp only [m_cmp_Or_int_l1, w1, w2, w3, i0, i1, i2, l2, Option.bind_some]
 by_cases ha : a = 0
 ·by_cases hb : b = 0
  ·by_cases hc : c = 0 <;> simp [ha, hb, hc]
  ·simp [ha, hb]
 ·simp [ha]
theorem cmpS (N : Nat) (a b : ByteArray) : m_cmp_Compare_string N a b = some (if slt a b = true then -1 else if (!slt a b && !seq a b) = true then 1 else 0) := by
 unfold m_cmp_Compare_string m_cmp_isNaN_string
 simp only [seq_self, Bool.not_true, Option.bind_some, Bool.false_eq_true, if_false]
 cases slt a b with
 | true => simp
 | false => cases seq a b <;> simp
theorem lessV_i {N : Nat} (hN : 1099000000000 ≤ N) (x y : TVal) : m_i_LessVal N x y = some (lessV x y) := by
 unfold m_i_LessVal m_i_compareVals lessV
 simp only [cmp_eq, cmpS, Option.bind_some, or3 hN, cmp]
 congr 1
 by_cases h1 : x.K = y.K
 ·by_cases h2 : x.N = y.N
  ·simp only [h1, h2, Int.lt_irrefl, if_false, if_true]
   cases slt x.S y.S with
   | true => simp
   | false => cases seq x.S y.S <;> simp
  ·simp only [h1, h2, Int.lt_irrefl, if_false, if_true]
   by_cases h3 : x.N < y.N
   ·simp [h3]
   ·have h4 : y.N < x.N := by omega
    simp [h3, h4]
 ·simp only [h1, if_false]
  by_cases h3 : x.K < y.K
  ·simp [h3]
  ·have h4 : y.K < x.K := by omega
   simp [h3, h4]
theorem holds_i {N : Nat} (hN : 1099000000000 ≤ N) (c : TCond) (l : List TBind) (hl : l.length ≤ 4294967296) : m_i_Holds N c l = some (holds c l) := by
 unfold m_i_Holds holds
 rw [argVal_i hN c.L l hl, argVal_i hN c.R l hl]
 simp only [Option.bind_some, lessV_i hN, eqT_TVal_eq]
 cases (argVal c.L l).2 with
 | false => simp
 | true =>
  cases (argVal c.R l).2 with
  | false => simp
  | true =>
   by_cases h1 : c.Op = 1
   ·simp [h1]
   ·by_cases h2 : c.Op = 2
    ·simp [h2]
    ·by_cases h3 : c.Op = 3 <;> simp [h1, h2, h3]
theorem holdAll_i {N : Nat} (hN : 1099000000000 ≤ N) (cs : List TCond) (l : List TBind) (hc : cs.length ≤ 4194304) (hl : l.length ≤ 4294967296) : m_i_HoldAll N cs l = some (cs.all fun c => holds c l) := by
 unfold m_i_HoldAll
 refine lp0 hN cs (by omega) (m_i_HoldAll_l1 N cs l) (fun t => some (t.all fun c => holds c l)) (fun n i x t h1 h2 h3 h4 h5 h6 h7 => ?_) (fun n i h1 h2 => ?_)
 ·simp only [m_i_HoldAll_l1, h5, if_true, h4, Option.bind_some, holds_i hN x l hl, h6, h7, List.all_cons]
  cases holds x l <;> simp
 ·simp only [m_i_HoldAll_l1, h2, Bool.false_eq_true, if_false]; rfl
theorem free_s {N : Nat} (hN : 1099000000000 ≤ N) (t : TTok) (h : t.Hits.length ≤ 4294967296) : m_s_l14Free N t = some (freeT t) := by
 unfold m_s_l14Free freeT
 refine lp0 hN t.Hits h (m_s_l14Free_l1 N t) (fun l => some (l.all fun n => decide (n = 0))) (fun n i x l g1 g2 g3 g4 g5 g6 g7 => ?_) (fun n i g1 g2 => ?_)
 ·simp only [m_s_l14Free_l1, g5, if_true, g4, Option.bind_some, g6, g7, List.all_cons]
  by_cases c : x = 0 <;> simp [c]
 ·simp only [m_s_l14Free_l1, g2, Bool.false_eq_true, if_false]; rfl
theorem free_i {N : Nat} (hN : 1099000000000 ≤ N) (t : TTok) (h : t.Hits.length ≤ 4294967296) : m_i_isFree N t = some (freeT t) := by
 unfold m_i_isFree freeT
 refine lp0 hN t.Hits h (m_i_isFree_l1 N t) (fun l => some (l.all fun n => decide (n = 0))) (fun n i x l g1 g2 g3 g4 g5 g6 g7 => ?_) (fun n i g1 g2 => ?_)
 ·simp only [m_i_isFree_l1, g5, if_true, g4, Option.bind_some, g6, g7, List.all_cons]
  by_cases c : x = 0 <;> simp [c]
 ·simp only [m_i_isFree_l1, g2, Bool.false_eq_true, if_false]; rfl
theorem put_s {N : Nat} (hN : 1099000000000 ≤ N) (l : List TMatch) (x : TMatch) (hx : x.Ids.length ≤ 1048576) (hl : l.length ≤ 1048576) (hs : Srt less l) : ∃ q, m_s_l14Put N l x = some q ∧ Srt less q ∧ q.Perm (x :: l) := by
 have lp : ∀ (n k : Nat) (z : TMatch), k < n → k ≤ l.length → (∀ y, l[k]? = some y → less x y = true) → ∃ q, m_s_l14Put_l1 N x n (l.take k ++ z :: l.drop k) (k : Int) = some q ∧ Srt less q ∧ q.Perm (x :: l) := by
  intro n
  induction n with
  | zero => intro k _ h; omega
  | succ n ih =>
   intro k z hn hk hy
   have lk : (l.take k).length = k := by simp; omega
   have ez : idx (l.take k ++ z :: l.drop k) (k : Int) = some z := by rw [idx_nat, List.getElem?_append_right (by omega), lk, Nat.sub_self]; rfl
   have fin : (∀ y, 1 ≤ k → l[k - 1]? = some y → less x y = false) → Srt less (l.take k ++ x :: l.drop k) ∧ (l.take k ++ x :: l.drop k).Perm (x :: l) := fun h => put_ok less_ordr hs hk h (fun y h => less_ordr.asymm _ _ (hy y h))
   have eset : (l.take k ++ z :: l.drop k).set ((k : Int)).toNat x = l.take k ++ x :: l.drop k := by
    rw [Int.toNat_natCast, List.set_append_right _ _ (by omega), lk, Nat.sub_self, List.set_cons_zero]
   simp only [m_s_l14Put_l1]
   by_cases h0 : 0 < k
   ·have c1 : decide ((0 : Int) < (k : Int)) = true := decide_eq_true (by omega)
    have k1 : k - 1 < l.length := by omega
    have e1 : idx (l.take k ++ z :: l.drop k) ((k - 1 : Nat) : Int) = some l[k - 1] := by
     rw [idx_nat, List.getElem?_append_left (by omega), List.getElem?_take, if_pos (by omega), List.getElem?_eq_getElem k1]
    simp only [c1, if_true, wS1 (x := k) (by omega) (by omega), e1, Option.bind_some, less_sB (N := N) (by omega) x l[k - 1] hx]
    cases hc : less x l[k - 1] with
    | true =>
     have e2 : (l.take k ++ z :: l.drop k).set ((k : Int)).toNat l[k - 1] = l.take (k - 1) ++ l[k - 1] :: l.drop (k - 1) := by
      rw [Int.toNat_natCast, List.set_append_right _ _ (by omega), lk, Nat.sub_self, List.set_cons_zero]
      rw [List.drop_eq_getElem_cons k1, show k - 1 + 1 = k by omega]
      have : l.take k = l.take (k - 1) ++ [l[k - 1]] := by
       have := List.take_succ_eq_append_getElem (l := l) k1
       rw [show k - 1 + 1 = k by omega] at this; exact this
      rw [this, List.append_assoc]; rfl
     simp only [if_true, ez, Option.bind_some, e2]
     exact ih (k - 1) l[k - 1] (by omega) (by omega) (fun y hy' => by rw [List.getElem?_eq_getElem k1] at hy'; rw [← Option.some.inj hy']; exact hc)
    | false =>
     simp only [Bool.false_eq_true, if_false, ez, Option.bind_some, eset]
     obtain ⟨f1, f2⟩ := fin fun y _ hy' => by rw [List.getElem?_eq_getElem k1] at hy'; rw [← Option.some.inj hy']; exact hc
     exact ⟨_, rfl, f1, f2⟩
   ·have c1 : decide ((0 : Int) < (k : Int)) = false := decide_eq_false (by omega)
    simp only [c1, Bool.false_eq_true, if_false, Option.bind_some, ez, eset]
    obtain ⟨f1, f2⟩ := fin fun y h _ => by omega
    exact ⟨_, rfl, f1, f2⟩
 unfold m_s_l14Put
 rw [app_ok (show l.length + [x].length ≤ 4294967296 by simp; omega), Option.bind_some]
 have e : IntKind.i64.wrap (((l ++ [x]).length : Int) - 1) = ((l.length : Nat) : Int) := by
  rw [List.length_append]; rw [wS1 (x := l.length + [x].length) (by simp) (by simp; omega)]; simp
 rw [e]
 have := lp N l.length x (by omega) (Nat.le_refl _) (fun y hy => by simp at hy)
 simpa using this
structure SzP (r : TRule) (xs : List TItem) : Prop where
 pl : r.Pats.length ≤ 1048576
 sa : sumArgs r.Pats ≤ 1048576
 pa : ∀ p ∈ r.Pats, p.Args.length ≤ 1048576
 cl : r.Conds.length ≤ 1048576
 sl : xs.length ≤ 1048576
 fl : ∀ x ∈ xs, x.F.Fields.length ≤ 1048576
theorem SzP.binds {r : TRule} {xs : List TItem} (h : SzP r xs) (ids : List Int) : (bindsP xs (pos r.Pats) ids []).1.length ≤ 1048576 := by
 have h1 := bindsP_len (xs := xs) (pos r.Pats) ids []
 have h2 := sumArgs_pos r.Pats
 have h3 := h.sa
 simp at h1
 omega
theorem pickM_eq {xs : List TItem} {i : Int} {r : TRule} {t : TTok} {b : Bool} (h : ((bindsP xs (pos r.Pats) t.Ids []).2 && (freeT t && r.Conds.all fun c => holds c (bindsP xs (pos r.Pats) t.Ids []).1)) = b) : pickM xs i r t = if b = true then [⟨i, t.Ids, (bindsP xs (pos r.Pats) t.Ids []).1⟩] else [] := by
 unfold pickM; rw [h]
theorem sets_l2 {N : Nat} (hN : 1099000000000 ≤ N) (d : TDef) (s : TStore) (s1 : List TMatch) (i : Nat) (K : List TMatch → Int → Option (List TMatch)) (r : TRule) (L : TLevel) (hr : idx d.Rules (i : Int) = some r) (hz : SzP r s.Items) (hL : L.Toks.length ≤ 1048576) (ht : ∀ t ∈ L.Toks, t.Ids.length ≤ 1048576 ∧ t.Hits.length ≤ 1048576) :
  m_s_SetOf_l2 N d s s1 (i : Int) K L N [] 0 = (app s1 (ordM (selM s.Items (i : Int) r L.Toks))).bind fun x => K x (IntKind.i64.wrap ((i : Int) + 1)) := by
 have lp : ∀ (rest : List TTok) (n : Nat) (done : List TTok) (u : List TMatch), rest.length < n → L.Toks = done ++ rest → Srt less u → u.Perm (selM s.Items (i : Int) r done) →
   m_s_SetOf_l2 N d s s1 (i : Int) K L n u (done.length : Int) = (app s1 (ordM (selM s.Items (i : Int) r L.Toks))).bind fun x => K x (IntKind.i64.wrap ((i : Int) + 1)) := by
  intro rest
  induction rest with
  | nil =>
   intro n done u hn hd h1 h2
   obtain ⟨n, rfl⟩ : ∃ m, n = m + 1 := ⟨n - 1, by simp at hn; omega⟩
   have hd' : L.Toks = done := by simpa using hd
   have c1 : decide ((done.length : Int) < (L.Toks.length : Int)) = false := decide_eq_false (by rw [hd']; simp)
   simp only [m_s_SetOf_l2, c1, Bool.false_eq_true, if_false]
   rw [hd', ← ordM_eq h1 h2]
  | cons t rest ih =>
   intro n done u hn hd h1 h2
   obtain ⟨n, rfl⟩ : ∃ m, n = m + 1 := ⟨n - 1, by omega⟩
   simp only [List.length_cons] at hn
   have hlt : L.Toks.length = done.length + (rest.length + 1) := by rw [hd]; simp
   have c1 : decide ((done.length : Int) < (L.Toks.length : Int)) = true := decide_eq_true (by omega)
   have et : idx L.Toks (done.length : Int) = some t := by rw [hd, idx_nat]; simp
   obtain ⟨t1, t2⟩ := ht t (by rw [hd]; simp)
   have hb := hz.binds t.Ids
   have hcl := hz.cl
   have hul : u.length ≤ done.length := by rw [h2.length_eq]; exact selM_len _
   have hdl : (done ++ [t]).length = done.length + 1 := by simp
   have skip : ((bindsP s.Items (pos r.Pats) t.Ids []).2 && (freeT t && r.Conds.all fun c => holds c (bindsP s.Items (pos r.Pats) t.Ids []).1)) = false → m_s_SetOf_l2 N d s s1 (i : Int) K L n u ((done.length + 1 : Nat) : Int) = (app s1 (ordM (selM s.Items (i : Int) r L.Toks))).bind fun x => K x (IntKind.i64.wrap ((i : Int) + 1)) := fun h => by
    rw [← hdl]
    refine ih n (done ++ [t]) u (by omega) (by rw [hd]; simp) h1 ?_
    have : selM s.Items (i : Int) r (done ++ [t]) = selM s.Items (i : Int) r done := by unfold selM; rw [List.flatMap_append]; simp [pickM_eq h]
    rw [this]; exact h2
   simp only [m_s_SetOf_l2, c1, if_true, hr, et, Option.bind_some, bindsFor_s hN r s t.Ids hz.pl hz.sa hz.pa hz.sl hz.fl t1]
   cases hA : (bindsP s.Items (pos r.Pats) t.Ids []).2 with
   | false =>
    simp only [Bool.false_eq_true, if_false, Option.bind_some, wr1 done.length (by omega)]
    exact skip (by rw [hA]; rfl)
   | true =>
    simp only [if_true, free_s hN t (by omega), Option.bind_some]
    cases hF : freeT t with
    | false =>
     simp only [Bool.false_eq_true, if_false, Option.bind_some, wr1 done.length (by omega)]
     exact skip (by rw [hA, hF]; rfl)
    | true =>
     simp only [if_true, holdAll_s hN r.Conds _ (show r.Conds.length ≤ 4194304 by omega) (show (bindsP s.Items (pos r.Pats) t.Ids []).1.length ≤ 4294967296 by omega), Option.bind_some]
     cases hH : (r.Conds.all fun c => holds c (bindsP s.Items (pos r.Pats) t.Ids []).1) with
     | false =>
      simp only [Bool.false_eq_true, if_false, wr1 done.length (by omega)]
      exact skip (by rw [hA, hF, hH]; rfl)
     | true =>
      obtain ⟨q, q1, q2, q3⟩ := put_s hN u ⟨(i : Int), t.Ids, (bindsP s.Items (pos r.Pats) t.Ids []).1⟩ t1 (by omega) h1
      simp only [if_true, app_nil (show t.Ids.length ≤ 4294967296 by omega), Option.bind_some, q1, wr1 done.length (by omega)]
      rw [← hdl]
      refine ih n (done ++ [t]) q (by omega) (by rw [hd]; simp) q2 ?_
      have : selM s.Items (i : Int) r (done ++ [t]) = selM s.Items (i : Int) r done ++ [⟨(i : Int), t.Ids, (bindsP s.Items (pos r.Pats) t.Ids []).1⟩] := by
       unfold selM
       rw [List.flatMap_append]
       have hp := pickM_eq (i := (i : Int)) (xs := s.Items) (r := r) (t := t) (b := true) (by rw [hA, hF, hH]; rfl)
       simp [hp]
      rw [this]
      exact q3.trans ((h2.cons _).trans (List.perm_append_comm (l₁ := [_])))
 have := lp L.Toks N [] [] (by omega) rfl List.Pairwise.nil (by simp [selM])
 simpa using this
theorem seti_l2 {N : Nat} (hN : 1099000000000 ≤ N) (s : TStore) (s1 : List TMatch) (i : Nat) (K : List TMatch → Int → Option (List TMatch)) (r : TRule) (L : TLevel) (hz : SzP r s.Items) (hL : L.Toks.length ≤ 1048576) (ht : ∀ t ∈ L.Toks, t.Ids.length ≤ 1048576 ∧ t.Hits.length ≤ 1048576) :
  m_i_SetOf_l2 N s s1 (i : Int) K r L N [] 0 = (app s1 (ordM (selM s.Items (i : Int) r L.Toks))).bind fun x => K x (IntKind.i64.wrap ((i : Int) + 1)) := by
 refine (lp' hN L.Toks (by omega) (fun n (u : List TMatch) j => m_i_SetOf_l2 N s s1 (i : Int) K r L n u j) (fun t u => (app s1 (ordM (u ++ selM s.Items (i : Int) r t))).bind fun x => K x (IntKind.i64.wrap ((i : Int) + 1))) (fun u t => u.length + t.length ≤ 1048576 ∧ ∀ x ∈ u, x.Ids.length ≤ 1048576) [] ⟨by simpa using hL, by simp⟩ (fun n u j t l g1 g2 g3 g4 g5 g6 gI gh => ?_) (fun n u j g1 g2 gI => ?_)).trans (by simp)
 ·obtain ⟨i1, i2⟩ := gI
  simp only [List.length_cons] at i1
  obtain ⟨t1, t2⟩ := ht t g2
  have hb := hz.binds t.Ids
  have hcl := hz.cl
  have es : selM s.Items (i : Int) r (t :: l) = pickM s.Items (i : Int) r t ++ selM s.Items (i : Int) r l := rfl
  have skip : ((bindsP s.Items (pos r.Pats) t.Ids []).2 && (freeT t && r.Conds.all fun c => holds c (bindsP s.Items (pos r.Pats) t.Ids []).1)) = false → m_i_SetOf_l2 N s s1 (i : Int) K r L n u ((j + 1 : Nat) : Int) = (app s1 (ordM (u ++ selM s.Items (i : Int) r (t :: l)))).bind fun x => K x (IntKind.i64.wrap ((i : Int) + 1)) := fun h => by
   rw [gh u ⟨by omega, i2⟩, es, pickM_eq h]; simp
  simp only [m_i_SetOf_l2, g5, if_true, g4, Option.bind_some, bindsFor_i hN r s t.Ids hz.pl hz.sa hz.pa hz.sl hz.fl t1]
  cases hA : (bindsP s.Items (pos r.Pats) t.Ids []).2 with
  | false =>
   simp only [Bool.false_eq_true, if_false, Option.bind_some, g6]
   exact skip (by rw [hA]; rfl)
  | true =>
   simp only [if_true, free_i hN t (by omega), Option.bind_some]
   cases hF : freeT t with
   | false =>
    simp only [Bool.false_eq_true, if_false, Option.bind_some, g6]
    exact skip (by rw [hA, hF]; rfl)
   | true =>
    simp only [if_true, holdAll_i hN r.Conds _ (show r.Conds.length ≤ 4194304 by omega) (show (bindsP s.Items (pos r.Pats) t.Ids []).1.length ≤ 4294967296 by omega), Option.bind_some]
    cases hH : (r.Conds.all fun c => holds c (bindsP s.Items (pos r.Pats) t.Ids []).1) with
    | false =>
     simp only [Bool.false_eq_true, if_false, g6]
     exact skip (by rw [hA, hF, hH]; rfl)
    | true =>
     simp only [if_true, m_sl_Clone_Sint_int, app_nil (show t.Ids.length ≤ 4294967296 by omega), Option.bind_some, app_ok (show u.length + [(⟨(i : Int), t.Ids, (bindsP s.Items (pos r.Pats) t.Ids []).1⟩ : TMatch)].length ≤ 4294967296 by simp; omega), g6]
     rw [gh _ ⟨by simp; omega, fun x hx => by
      rcases List.mem_append.1 hx with hx | hx
      ·exact i2 x hx
      ·simp only [List.mem_singleton] at hx; rw [hx]; exact t1⟩, es, pickM_eq (b := true) (by rw [hA, hF, hH]; rfl)]
     simp
 ·obtain ⟨i1, i2⟩ := gI
  simp only [List.length_nil, Nat.add_zero] at i1
  have hs : Says (m_i_compareMatches N) less u := fun x hx y hy => cmp_less (by omega) x y (i2 x hx)
  simp only [m_i_SetOf_l2, g2, Bool.false_eq_true, if_false, sort_m (N := N) u hs (by omega) (by omega), Option.bind_some]
  simp [selM, ordM]
theorem ordM_nil : ordM [] = [] := by
 have := (ordM_ok []).2.length_eq
 exact List.length_eq_zero_iff.1 (by simpa using this)
theorem ordM_len (l : List TMatch) : (ordM l).length = l.length := (ordM_ok l).2.length_eq
theorem lastT_nil {w : TRow} (h : w.Levels.length = 0) : lastT w = [] := by
 unfold lastT
 rw [List.length_eq_zero_iff.1 h]; rfl
def sumL : List TRow → Nat
 | [] => 0
 | w :: ws => (lastT w).length + sumL ws
theorem sets_l1 {N : Nat} (hN : 1099000000000 ≤ N) (d : TDef) (m : TMem) (s : TStore) (hz : ∀ r ∈ d.Rules, SzP r s.Items) (hr : d.Rules.length ≤ 1048576) (hm : m.Rules.length ≤ 1048576) (hw : ∀ w ∈ m.Rules, w.Levels.length ≤ 1048576 ∧ ∀ t ∈ lastT w, t.Ids.length ≤ 1048576 ∧ t.Hits.length ≤ 1048576) :
  ∀ (n i : Nat) (u : List TMatch), d.Rules.length - i < n → i ≤ d.Rules.length → u.length + sumL (m.Rules.drop i) ≤ 1048576 →
   m_s_SetOf_l1 N d m s n u (i : Int) = some (u ++ setT s.Items i (d.Rules.drop i) (m.Rules.drop i)) ∧ m_i_SetOf_l1 N d m s n u (i : Int) = some (u ++ setT s.Items i (d.Rules.drop i) (m.Rules.drop i)) := by
 intro n
 induction n with
 | zero => intro i u h; omega
 | succ n ih =>
  intro i u hn hi hu
  rw [m_s_SetOf_l1, m_i_SetOf_l1]
  by_cases c : i < d.Rules.length
  ·have c1 : decide ((i : Int) < (d.Rules.length : Int)) = true := decide_eq_true (by omega)
   by_cases c2 : i < m.Rules.length
   ·have d1 : decide ((i : Int) < (m.Rules.length : Int)) = true := decide_eq_true (by omega)
    have d2 : decide ((m.Rules.length : Int) ≤ (i : Int)) = false := decide_eq_false (by omega)
    rw [List.drop_eq_getElem_cons c, List.drop_eq_getElem_cons c2, setT]
    rw [List.drop_eq_getElem_cons c2, sumL] at hu
    simp only [c1, d1, d2, if_true, Option.bind_some, idx_nat_lt c, idx_nat_lt c2, Bool.false_eq_true, if_false]
    obtain ⟨w1, w2⟩ := hw _ (List.getElem_mem c2)
    have hzr := hz _ (List.getElem_mem c)
    by_cases h0 : m.Rules[i].Levels.length = 0
    ·have e0 : decide ((m.Rules[i].Levels.length : Int) = 0) = true := decide_eq_true (by omega)
     have hl := lastT_nil h0
     rw [hl] at hu
     simp only [e0, if_true, wr1 i (by omega), hl]
     have := ih (i + 1) u (by omega) (by omega) (by simpa using hu)
     have e : ordM (selM s.Items (i : Int) d.Rules[i] []) = [] := ordM_nil
     rw [e, List.nil_append]
     exact this
    ·have e0 : decide ((m.Rules[i].Levels.length : Int) = 0) = false := decide_eq_false (by omega)
     have hlt : m.Rules[i].Levels.length - 1 < m.Rules[i].Levels.length := by omega
     have hL : lastT m.Rules[i] = m.Rules[i].Levels[m.Rules[i].Levels.length - 1].Toks := by unfold lastT; rw [List.getElem?_eq_getElem hlt]
     simp only [e0, Bool.false_eq_true, if_false, wS1 (x := m.Rules[i].Levels.length) (by omega) (by omega), idx_nat_lt hlt, Option.bind_some]
     rw [hL] at hu w2 ⊢
     have hsl := selM_len (xs := s.Items) (i := (i : Int)) (r := d.Rules[i]) m.Rules[i].Levels[m.Rules[i].Levels.length - 1].Toks
     have hol := ordM_len (selM s.Items (i : Int) d.Rules[i] m.Rules[i].Levels[m.Rules[i].Levels.length - 1].Toks)
     have happ : app u (ordM (selM s.Items (i : Int) d.Rules[i] m.Rules[i].Levels[m.Rules[i].Levels.length - 1].Toks)) = some (u ++ ordM (selM s.Items (i : Int) d.Rules[i] m.Rules[i].Levels[m.Rules[i].Levels.length - 1].Toks)) := app_ok (by omega)
     have := ih (i + 1) (u ++ ordM (selM s.Items (i : Int) d.Rules[i] m.Rules[i].Levels[m.Rules[i].Levels.length - 1].Toks)) (by omega) (by omega) (by rw [List.length_append]; omega)
     rw [sets_l2 hN d s u i _ d.Rules[i] _ (idx_nat_lt c) hzr (by omega) w2, seti_l2 hN s u i _ d.Rules[i] _ hzr (by omega) w2, happ, Option.bind_some, Option.bind_some, wr1 i (by omega), ← List.append_assoc]
     exact this
   ·have d1 : decide ((i : Int) < (m.Rules.length : Int)) = false := decide_eq_false (by omega)
    have d2 : decide ((m.Rules.length : Int) ≤ (i : Int)) = true := decide_eq_true (by omega)
    have hdr : m.Rules.drop i = [] := List.drop_of_length_le (by omega)
    have hdr2 : m.Rules.drop (i + 1) = [] := List.drop_of_length_le (by omega)
    have hnil : ∀ (k : Nat) (rs : List TRule), setT s.Items k rs [] = [] := fun k rs => by cases rs <;> rfl
    have := (ih (i + 1) u (by omega) (by omega) (by rw [hdr] at hu; rw [hdr2]; exact hu)).2
    rw [hdr2, hnil] at this
    rw [hdr, hnil]
    simp only [c1, d1, d2, if_true, Option.bind_some, Bool.false_eq_true, if_false, idx_nat_lt c, wr1 i (by omega), this, List.append_nil, and_self]
  ·have c1 : decide ((i : Int) < (d.Rules.length : Int)) = false := decide_eq_false (by omega)
   have hdr : d.Rules.drop i = [] := List.drop_of_length_le (by omega)
   have hnil : ∀ (k : Nat) (ws : List TRow), setT s.Items k [] ws = [] := fun k ws => by cases ws <;> rfl
   rw [hdr, hnil]
   simp only [c1, Bool.false_eq_true, if_false, Option.bind_some, List.append_nil, and_self]
theorem setT_mem {xs : List TItem} {P : TMatch → Prop} : ∀ (rs : List TRule) (ws : List TRow) (i : Nat), (∀ (k : Nat) (r : TRule) (w : TRow), r ∈ rs → w ∈ ws → ∀ x ∈ selM xs (k : Int) r (lastT w), P x) → ∀ x ∈ setT xs i rs ws, P x
 | [], ws, i, h, x, hx => by cases ws <;> cases hx
 | r :: rs, [], i, h, x, hx => by cases hx
 | r :: rs, w :: ws, i, h, x, hx => by
  rcases List.mem_append.1 hx with hx | hx
  ·exact h i r w (by simp) (by simp) x ((ordM_ok _).2.mem_iff.1 hx)
  ·exact setT_mem rs ws (i + 1) (fun k r' w' h1 h2 => h k r' w' (by simp [h1]) (by simp [h2])) x hx
theorem setT_len {xs : List TItem} : ∀ (rs : List TRule) (ws : List TRow) (i : Nat), (setT xs i rs ws).length ≤ sumL ws
 | [], ws, i => by cases ws <;> simp [setT]
 | r :: rs, [], i => by simp [setT]
 | r :: rs, w :: ws, i => by
  have h1 := setT_len (xs := xs) rs ws (i + 1)
  have h2 := selM_len (xs := xs) (i := (i : Int)) (r := r) (lastT w)
  unfold setT sumL
  rw [List.length_append, ordM_len]; omega
theorem cntL_bnd {α : Type} {f : α → Int} {B : Int} : ∀ (l : List α), (∀ x ∈ l, f x ≤ B) → cntL f l ≤ (l.length : Int) * B
 | [], _ => by simp [cntL]
 | x :: l, h => by
  have h1 := cntL_bnd l fun y hy => h y (by simp [hy])
  have h2 := h x (by simp)
  rw [cntL_cons, List.length_cons]
  have : ((l.length + 1 : Nat) : Int) * B = (l.length : Int) * B + B := by rw [Int.natCast_add, Int.add_mul]; simp
  omega
theorem lastT_mem {w : TRow} {t : TTok} (h : t ∈ lastT w) : ∃ L ∈ w.Levels, t ∈ L.Toks ∧ lastT w = L.Toks := by
 unfold lastT at h ⊢
 split at h
 ·rename_i L hL
  exact ⟨L, List.mem_of_getElem? hL, h, rfl⟩
 ·cases h
theorem sumL_le : ∀ (ws : List TRow), (sumL ws : Int) ≤ (ws.map totTRow).sum
 | [] => by simp [sumL]
 | w :: ws => by
  have h1 := sumL_le ws
  have h2 : ((lastT w).length : Int) ≤ totTRow w := by
   have n1 : ∀ y ∈ w.Levels, 0 ≤ totTLevel y := fun y _ => totTLevel_nn y
   have s1 := sum_nonneg _ _ n1
   have e : totTRow w = (w.Levels.length : Int) + (w.Levels.map totTLevel).sum := rfl
   unfold lastT
   split
   ·rename_i L hL
    have h3 := sum_mem _ _ n1 L (List.mem_of_getElem? hL)
    have h4 := sum_nonneg totTTok L.Toks (fun y _ => totTTok_nn y)
    have e2 : totTLevel L = (L.Toks.length : Int) + (L.Toks.map totTTok).sum := rfl
    omega
   ·simp; omega
  rw [sumL, List.map_cons, List.sum_cons]; omega
theorem szP_of {d : TDef} {s : TStore} (h1 : totTDef d ≤ 1048576) (h3 : totTStore s ≤ 1048576) : ∀ r ∈ d.Rules, SzP r s.Items := fun r hr => by
 have n0 : ∀ y ∈ d.Rules, 0 ≤ totTRule y := fun y _ => totTRule_nn y
 have q0 := sum_mem _ _ n0 r hr
 have e0 : totTDef d = (d.Name.size : Int) + ((d.Rules.length : Int) + (d.Rules.map totTRule).sum) := rfl
 have hr1 : totTRule r ≤ 1048576 := by omega
 have e1 : totTRule r = (r.Name.size : Int) + ((r.Pats.length : Int) + (r.Pats.map totTPat).sum) + ((r.Conds.length : Int) + (r.Conds.map totTCond).sum) + ((r.Acts.length : Int) + (r.Acts.map totTAct).sum) := rfl
 have n1 : ∀ y ∈ r.Pats, 0 ≤ totTPat y := fun y _ => totTPat_nn y
 have s1 := sum_nonneg _ _ n1
 have s2 := sum_nonneg totTCond r.Conds (fun y _ => totTCond_nn y)
 have s3 := sum_nonneg totTAct r.Acts (fun y _ => totTAct_nn y)
 have s5 := sumArgs_tot r.Pats
 have n4 : ∀ y ∈ s.Items, 0 ≤ totTItem y := fun y _ => totTItem_nn y
 have s4 := sum_nonneg _ _ n4
 have e3 : totTStore s = (s.Items.length : Int) + (s.Items.map totTItem).sum := rfl
 refine ⟨by omega, by omega, fun p hp => ?_, by omega, by omega, fun x hx => ?_⟩
 ·have h0 := sum_mem _ _ n1 p hp
  have e : totTPat p = (p.Kind.size : Int) + ((p.Args.length : Int) + (p.Args.map totTArg).sum) := rfl
  have := sum_nonneg totTArg p.Args (fun y _ => totTArg_nn y)
  omega
 ·have h0 := sum_mem _ _ n4 x hx
  have e : totTItem x = (x.F.Kind.size : Int) + ((x.F.Fields.length : Int) + (x.F.Fields.map totTVal).sum) := rfl
  have := sum_nonneg totTVal x.F.Fields (fun y _ => totTVal_nn y)
  omega
theorem c_SetOf {N : Nat} (hN : 1099000000000 ≤ N) (d : TDef) (m : TMem) (s : TStore) (h1 : totTDef d ≤ 1048576) (h2 : totTMem m ≤ 1048576) (h3 : totTStore s ≤ 1048576) :
  ∃ r, m_s_SetOf N d m s = some r ∧ m_i_SetOf N d m s = some r ∧ (r.length ≤ 4294967296 ∧ ∀ y ∈ r, LimTMatch y) ∧ cntL cntTMatch r ≤ 1125899906842624 := by
 have hz := szP_of h1 h3
 have n0 : ∀ y ∈ d.Rules, 0 ≤ totTRule y := fun y _ => totTRule_nn y
 have q0 := sum_nonneg _ _ n0
 have e0 : totTDef d = (d.Name.size : Int) + ((d.Rules.length : Int) + (d.Rules.map totTRule).sum) := rfl
 have nI : ∀ y ∈ m.Alphas, 0 ≤ totTIds y := fun y _ => totTIds_nn y
 have nR : ∀ y ∈ m.Rules, 0 ≤ totTRow y := fun y _ => totTRow_nn y
 have sI := sum_nonneg _ _ nI
 have sR := sum_nonneg _ _ nR
 have e1 : totTMem m = ((m.Alphas.length : Int) + (m.Alphas.map totTIds).sum) + ((m.Rules.length : Int) + (m.Rules.map totTRow).sum) := rfl
 have hsl := sumL_le m.Rules
 have hw : ∀ w ∈ m.Rules, w.Levels.length ≤ 1048576 ∧ ∀ t ∈ lastT w, t.Ids.length ≤ 1048576 ∧ t.Hits.length ≤ 1048576 := fun w hw => by
  have g0 := sum_mem _ _ nR w hw
  have g1 : totTRow w = (w.Levels.length : Int) + (w.Levels.map totTLevel).sum := rfl
  have n1 : ∀ y ∈ w.Levels, 0 ≤ totTLevel y := fun y _ => totTLevel_nn y
  have s1 := sum_nonneg _ _ n1
  refine ⟨by omega, fun t ht => ?_⟩
  obtain ⟨L, hL, htL, _⟩ := lastT_mem ht
  have g2 := sum_mem _ _ n1 L hL
  have g3 : totTLevel L = (L.Toks.length : Int) + (L.Toks.map totTTok).sum := rfl
  have n2 : ∀ y ∈ L.Toks, 0 ≤ totTTok y := fun y _ => totTTok_nn y
  have g4 := sum_mem _ _ n2 t htL
  have g5 : totTTok t = (t.Ids.length : Int) + (t.Hits.length : Int) := rfl
  omega
 have hl := sets_l1 hN d m s hz (by omega) (by omega) hw N 0 [] (by omega) (by omega) (by simp; omega)
 simp only [List.nil_append, List.drop_zero] at hl
 have hmem := setT_mem (xs := s.Items) (P := fun x => x.Ids.length ≤ 1048576 ∧ x.Binds.length ≤ 1048576) d.Rules m.Rules 0 (fun k r w hr hwm x hx => by
  obtain ⟨t, ht, rfl⟩ := selM_mem hx
  exact ⟨((hw w hwm).2 t ht).1, (hz r hr).binds t.Ids⟩)
 have hlen := setT_len (xs := s.Items) d.Rules m.Rules 0
 have hc := cntL_bnd (f := cntTMatch) (B := 5242881) (setT s.Items 0 d.Rules m.Rules) (fun x hx => by
  obtain ⟨a1, a2⟩ := hmem x hx
  have b2 := cntL_bnd (f := cntTBind) (B := 4) x.Binds (fun y _ => by unfold cntTBind; omega)
  unfold cntTMatch
  rw [cntL_one]
  omega)
 refine ⟨setT s.Items 0 d.Rules m.Rules, hl.1, hl.2, ⟨by omega, fun y hy => ?_⟩, by omega⟩
 obtain ⟨a1, a2⟩ := hmem y hy
 exact ⟨by omega, by omega⟩
set_option maxRecDepth 10000
theorem law_FnExactSetOf {x0 : TDef} (w0 : WfTDef x0) {x1 : TMem} (w1 : WfTMem x1) {x2 : TStore} (w2 : WfTStore x2) {N : Nat} (hN0 : 1099400000000 ≤ N) : m_l_FnExactSetOf N x0 x1 x2 = some true := by
 have hN : 1099000000000 ≤ N := by omega
 unfold m_l_FnExactSetOf
 obtain ⟨v0, hv0, hs0⟩ := sz_m_l_szDef hN x0 w0 1048576 (by omega) (by omega)
 rw [hv0]; simp only [Option.bind_some]
 by_cases c0 : v0 < 0
 ·rw [if_pos (by simpa using c0)]
 rw [if_neg (by simpa using c0)]
 replace hs0 := hs0.resolve_left c0
 have n0 := totTDef_nn x0
 obtain ⟨v1, hv1, hs1⟩ := sz_m_l_szMem hN x1 w1 v0 (by omega) (by omega)
 rw [hv1]; simp only [Option.bind_some]
 by_cases c1 : v1 < 0
 ·rw [if_pos (by simpa using c1)]
 rw [if_neg (by simpa using c1)]
 replace hs1 := hs1.resolve_left c1
 have n1 := totTMem_nn x1
 obtain ⟨v2, hv2, hs2⟩ := sz_m_l_szStore hN x2 w2 v1 (by omega) (by omega)
 rw [hv2]; simp only [Option.bind_some]
 by_cases c2 : v2 < 0
 ·rw [if_pos (by simpa using c2)]
 rw [if_neg (by simpa using c2)]
 replace hs2 := hs2.resolve_left c2
 have n2 := totTStore_nn x2
 have l0 : LimTDef x0 := LimTDef_of x0 (by omega)
 have l1 : LimTMem x1 := LimTMem_of x1 (by omega)
 have l2 : LimTStore x2 := LimTStore_of x2 (by omega)
 have t0 : totTDef x0 ≤ 1048576 := by omega
 have t1 : totTMem x1 ≤ 1048576 := by omega
 have t2 : totTStore x2 ≤ 1048576 := by omega
 obtain ⟨r, hr, hi, rl0, rt0⟩ := c_SetOf (N := N) (by omega) x0 x1 x2 t0 t1 t2
 have mn0 := mcnTDef_nn x0
 have ml0 := mcnTDef_le x0
 obtain ⟨y0_0, mk0⟩ := mk_m_l_markDef hN x0 l0 (1) (by omega) (by unfold big62; omega)
 have mp0 : decide (1 + mcnTDef x0 < 0) = false := decide_eq_false (by omega)
 have mn1 := mcnTMem_nn x1
 have ml1 := mcnTMem_le x1
 obtain ⟨y1_0, y1_1, mk1⟩ := mk_m_l_markMem hN x1 l1 (1 + mcnTDef x0) (by omega) (by unfold big62; omega)
 have mp1 : decide (1 + mcnTDef x0 + mcnTMem x1 < 0) = false := decide_eq_false (by omega)
 have mn2 := mcnTStore_nn x2
 have ml2 := mcnTStore_le x2
 obtain ⟨y2_0, mk2⟩ := mk_m_l_markStore hN x2 l2 (1 + mcnTDef x0 + mcnTMem x1) (by omega) (by unfold big62; omega)
 have mp2 : decide (1 + mcnTDef x0 + mcnTMem x1 + mcnTStore x2 < 0) = false := decide_eq_false (by omega)
 have rn0 := cntL_nn cntTMatch_nn (r)
 obtain ⟨z0_0, rk0, re0, rh0, rl0'⟩ := mk_m_l_markMatchS hN (r) rl0 (1) (by omega) (by unfold big62; omega)
 have rq0 := hd_m_l_heldMatchS hN z0_0 rl0' (1) (by omega) (by rw [re0]; unfold big62; omega) rh0
 rw [re0] at rq0
 have rp0 : decide (1 + cntL cntTMatch (r) < 0) = false := decide_eq_false (by omega)
 simp only [to_m_l_toDef hN x0 l0, eq_m_l_eqDef hN x0 x0 l0, to_m_l_toMem hN x1 l1, eq_m_l_eqMem hN x1 x1 l1, to_m_l_toStore hN x2 l2, eq_m_l_eqStore hN x2 x2 l2, hr, hi, eq_m_l_eqMatchS hN  (r) (r) rl0, mk0, mp0, mk1, mp1, mk2, mp2, rk0, rq0, rp0, seq_self, Option.bind_some, decide_true, bne_self_eq_false, Bool.not_true, Bool.not_false, Bool.false_eq_true, if_false, if_true]
namespace fnExactSetOf
theorem law {x0 : TDef} (w0 : WfTDef x0) {x1 : TMem} (w1 : WfTMem x1) {x2 : TStore} (w2 : WfTStore x2) : m_l_FnExactSetOf 1099511627776 x0 x1 x2 = some true := law_FnExactSetOf w0 w1 w2 (by omega)
end fnExactSetOf
end Go.Proofs.YtjccaebpbieejaaGreat
