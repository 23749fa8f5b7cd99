/- Plain laws: right rules. -/
import Derived.Test.YtjangilipfjcmaaGreatSPat
import Derived.Test.YtjangilipfjcmaaGreatSPosVars
import Derived.Test.YtjangilipfjcmaaGreatSCountI
import Derived.Test.YtjangilipfjcmaaGreatSKnown
namespace Go.Proofs.YtjangilipfjcmaaGreat
open Eng
set_option linter.unusedVariables false
set_option linter.unusedSimpArgs false

/-! ### The order of patterns: first those that are not Not. -/
/-- From place i on: PatOk of all, and Not just from c on. -/
def patsFrom (c : Nat) : Nat → List TPat → Bool
  | _, [] => true
  | i, p :: t => okPat p && ((p.Not == decide (c ≤ i)) && patsFrom c (i + 1) t)
def okPats (l : List TPat) : Bool := (decide (1 ≤ l.length) && decide (l.length ≤ 6)) && ((decide (1 ≤ posCount l) && decide (posCount l ≤ 3)) && patsFrom (posCount l) 0 l)
theorem pats_i {N : Nat} (hN : 1099000000000 ≤ N) (r : TRule) (hl : r.Pats.length ≤ 1048576) (hp : ∀ p ∈ r.Pats, SzPat p) : m_i_patsOk N r = some (okPats r.Pats) := by
  have hc := count_i hN r hl
  have lp : ∀ (n i : Nat), i ≤ r.Pats.length → r.Pats.length - i < n → m_i_patsOk_l1 N r n i = some (patsFrom (posCount r.Pats) i (r.Pats.drop i)) := by
    intro n
    induction n with
    | zero => intro i _ h; omega
    | succ n ih =>
      intro i hi hn
      by_cases hlt : i < r.Pats.length
      · have c1 : decide ((i : Int) < (r.Pats.length : Int)) = true := decide_eq_true (by omega)
        rw [List.drop_eq_getElem_cons hlt]
        simp only [m_i_patsOk_l1, c1, if_true, idx_nat_lt hlt, Option.bind_some, pat_i hN _ (hp _ (List.getElem_mem hlt)), hc, wr1 i (by omega), ih (i + 1) (by omega) (by omega), patsFrom]
        have hd : decide ((posCount r.Pats : Int) ≤ (i : Int)) = decide (posCount r.Pats ≤ i) := by rw [decide_eq_decide]; omega
        rw [hd]
        cases okPat r.Pats[i] <;> cases r.Pats[i].Not <;> cases decide (posCount r.Pats ≤ i) <;> rfl
      · have c1 : decide ((i : Int) < (r.Pats.length : Int)) = false := decide_eq_false (by omega)
        rw [List.drop_of_length_le (by omega)]
        simp only [m_i_patsOk_l1, c1, Bool.false_eq_true, if_false]; rfl
  have l0 := lp N 0 (by omega) (by omega)
  have h1 : decide ((1 : Int) ≤ (r.Pats.length : Int)) = decide (1 ≤ r.Pats.length) := by rw [decide_eq_decide]; omega
  have h2 : decide ((r.Pats.length : Int) ≤ 6) = decide (r.Pats.length ≤ 6) := by rw [decide_eq_decide]; omega
  have h3 : decide ((1 : Int) ≤ (posCount r.Pats : Int)) = decide (1 ≤ posCount r.Pats) := by rw [decide_eq_decide]; omega
  have h4 : decide ((posCount r.Pats : Int) ≤ 3) = decide (posCount r.Pats ≤ 3) := by rw [decide_eq_decide]; omega
  unfold m_i_patsOk okPats
  simp only [in1, Option.bind_some, hc, h1, h2, h3, h4]
  rw [show m_i_patsOk_l1 N r N 0 = _ from l0, List.drop_zero]
  cases (decide (1 ≤ r.Pats.length) && decide (r.Pats.length ≤ 6)) <;> cases (decide (1 ≤ posCount r.Pats) && decide (posCount r.Pats ≤ 3)) <;> rfl
/-- The same as the reference asks it: at place i, b: is the one before Not? -/
def patsS : Nat → Bool → List TPat → Bool
  | _, _, [] => true
  | i, b, p :: t => !(decide (2 < i) && !p.Not) && (okPat p && (!(decide (i = 0) && p.Not) && (!((decide (0 < i) && b) && !p.Not) && patsS (i + 1) p.Not t)))
theorem allNot : ∀ (l : List TPat) (i : Nat), 0 < i → patsS i true l = (l.all okPat && l.all fun p => p.Not)
  | [], i, h => rfl
  | p :: t, i, h => by
    have h1 : decide (i = 0) = false := decide_eq_false (by omega)
    have h2 : decide (0 < i) = true := decide_eq_true h
    unfold patsS
    simp only [h1, h2, Bool.false_and, Bool.not_false, Bool.true_and, List.all_cons]
    cases hp : p.Not with
    | false => cases okPat p <;> simp
    | true =>
      rw [allNot t (i + 1) (by omega)]
      cases okPat p <;> simp
theorem fromNot (c : Nat) : ∀ (l : List TPat) (i : Nat), c ≤ i → patsFrom c i l = (l.all okPat && l.all fun p => p.Not)
  | [], i, h => rfl
  | p :: t, i, h => by
    have h1 : decide (c ≤ i) = true := decide_eq_true h
    unfold patsFrom
    rw [fromNot c t (i + 1) (by omega), h1]
    simp only [List.all_cons]
    cases okPat p <;> cases p.Not <;> simp
theorem posCount_allNot : ∀ (l : List TPat), (l.all fun p => p.Not) = true ↔ posCount l = 0
  | [] => by simp [posCount]
  | p :: t => by
    unfold posCount
    have := posCount_allNot t
    cases hp : p.Not with
    | true => simp [hp]; simpa using this
    | false => simp [hp]
theorem patsFrom_ge {c : Nat} : ∀ (l : List TPat) (i : Nat), patsFrom c i l = true → i ≤ c → c ≤ i + l.length → posCount l = c - i
  | [], i, _, h, h' => by simp at h'; simp [posCount]; omega
  | p :: t, i, hp, h, h' => by
    unfold patsFrom at hp
    simp only [Bool.and_eq_true, beq_iff_eq] at hp
    obtain ⟨_, h1, h2⟩ := hp
    unfold posCount
    by_cases hc : c ≤ i
    · have e : (p :: t).all (fun p => p.Not) = true := by
        have := fromNot c t (i + 1) (by omega)
        rw [this] at h2
        simp only [Bool.and_eq_true] at h2
        simp only [List.all_cons, h1, decide_eq_true hc, h2.2, Bool.and_self]
      have := (posCount_allNot (p :: t)).1 e
      unfold posCount at this
      rw [this]; omega
    · rw [h1, decide_eq_false hc]
      have := patsFrom_ge t (i + 1) h2 (by omega) (by simp at h'; omega)
      simp only [Bool.false_eq_true, if_false, this]; omega
/-- What the reference asks is that at most three come first, and then those that are Not. -/
theorem patsS_iff : ∀ (l : List TPat) (i : Nat) (b : Bool), (0 < i → b = false) → i ≤ 3 → (patsS i b l = true ↔ (i = 0 → l = [] ∨ 0 < posCount l) ∧ i + posCount l ≤ 3 ∧ patsFrom (i + posCount l) i l = true)
  | [], i, b, hb, hi => by simp [patsS, posCount, patsFrom, hi]
  | p :: t, i, b, hb, hi => by
    have hb' : (decide (0 < i) && b) = false := by
      by_cases h : 0 < i
      · simp [hb h]
      · simp [h]
    unfold patsS patsFrom posCount
    rw [hb']
    cases hp : p.Not with
    | true =>
      simp only [Bool.not_true, Bool.and_false, Bool.not_false, Bool.true_and, if_true, Bool.and_true, Bool.false_and]
      by_cases h0 : i = 0
      · subst h0
        simp only [decide_true, Bool.not_true, Bool.and_false, Bool.false_and, Bool.false_eq_true, false_iff]
        rintro ⟨h1, h2, h3⟩
        have h1 : 0 < posCount t := by simpa using h1
        simp only [Bool.and_eq_true, beq_iff_eq] at h3
        have := h3.2.1
        simp at this
        omega
      · rw [decide_eq_false h0, allNot t (i + 1) (by omega)]
        simp only [Bool.not_false, Bool.true_and, Bool.and_eq_true, beq_iff_eq, h0, false_implies, true_and]
        constructor
        · rintro ⟨h1, h2, h3⟩
          have h4 := (posCount_allNot t).1 h3
          rw [h4]
          refine ⟨by omega, h1, by simp, ?_⟩
          rw [fromNot _ t (i + 1) (by omega), h2, h3]; rfl
        · rintro ⟨h1, h2, h3, h4⟩
          have h5 : i + posCount t ≤ i := by simpa using h3
          have h6 : posCount t = 0 := by omega
          exact ⟨h2, by
            rw [fromNot _ t (i + 1) (by omega)] at h4
            simp only [Bool.and_eq_true] at h4
            exact h4.1, (posCount_allNot t).2 h6⟩
    | false =>
      simp only [Bool.not_false, Bool.and_true, Bool.and_false, Bool.true_and, Bool.false_eq_true, if_false, Bool.and_eq_true, beq_iff_eq]
      have e1 : decide (i + (posCount t + 1) ≤ i) = false := decide_eq_false (by omega)
      rw [e1]
      have ar : i + (posCount t + 1) = i + 1 + posCount t := by omega
      by_cases h2 : 2 < i
      · simp only [h2, decide_true, Bool.not_true, Bool.false_eq_true, false_and, false_iff]
        rintro ⟨_, h3, _⟩; omega
      · have := patsS_iff t (i + 1) false (fun _ => rfl) (by omega)
        simp only [h2, decide_false, Bool.not_false, true_and]
        rw [this, ar]
        constructor
        · rintro ⟨h3, _, h4, h5⟩
          refine ⟨fun _ => .inr (by omega), h4, h3, ?_⟩
          first | exact ⟨rfl, h5⟩ | exact h5
        · rintro ⟨_, h4, h3, h5⟩
          refine ⟨h3, by omega, h4, ?_⟩
          first | exact h5.2 | exact h5
theorem okPats_eq (l : List TPat) : (patsS 0 false l && (decide (1 ≤ l.length) && decide (l.length ≤ 6))) = okPats l := by
  have := patsS_iff l 0 false (by simp) (by omega)
  simp only [true_implies, Nat.zero_add] at this
  rw [Bool.eq_iff_iff]
  unfold okPats
  simp only [Bool.and_eq_true, decide_eq_true_eq, this]
  constructor
  · rintro ⟨⟨h1, h2, h3⟩, h4, h5⟩
    have h1 := h1.resolve_left (by rintro rfl; simp at h4)
    exact ⟨⟨h4, h5⟩, ⟨by omega, h2⟩, h3⟩
  · rintro ⟨⟨h4, h5⟩, ⟨h1, h2⟩, h3⟩
    exact ⟨⟨.inr (by omega), h2, h3⟩, h4, h5⟩
theorem pats_s {N : Nat} (hN : 1099000000000 ≤ N) (l : List TPat) (hl : l.length ≤ 1048576) (hp : ∀ p ∈ l, SzPat p) : m_s_l9Pats N l = some (okPats l) := by
  have lp : ∀ (n i : Nat) (b : Bool), i ≤ l.length → l.length - i < n → (∀ (h : i - 1 < l.length), 0 < i → l[i - 1].Not = b) → m_s_l9Pats_l1 N l n i = some (patsS i b (l.drop i) && (decide (1 ≤ l.length) && decide (l.length ≤ 6))) := by
    intro n
    induction n with
    | zero => intro i b _ h; omega
    | succ n ih =>
      intro i b hi hn hb
      by_cases hlt : i < l.length
      · have c1 : decide ((i : Int) < (l.length : Int)) = true := decide_eq_true (by omega)
        have h2 : decide ((2 : Int) < (i : Int)) = decide (2 < i) := by rw [decide_eq_decide]; omega
        have h3 : decide ((i : Int) = 0) = decide (i = 0) := by rw [decide_eq_decide]; omega
        have h4 : decide ((0 : Int) < (i : Int)) = decide (0 < i) := by rw [decide_eq_decide]; omega
        rw [List.drop_eq_getElem_cons hlt]
        simp only [m_s_l9Pats_l1, c1, if_true, idx_nat_lt hlt, Option.bind_some, pat_s hN _ (hp _ (List.getElem_mem hlt)), h2, h3, h4, wr1 i (by omega), ih (i + 1) l[i].Not (by omega) (by omega) (fun h _ => rfl), patsS]
        by_cases h0 : 0 < i
        · have e1 : IntKind.i64.wrap ((i : Int) - 1) = ((i - 1 : Nat) : Int) := by rw [wr (by omega) (by omega)]; omega
          have e2 := hb (by omega) h0
          have e3 : decide (i = 0) = false := decide_eq_false (by omega)
          simp only [h0, decide_true, if_true, e1, idx_nat_lt (show i - 1 < l.length by omega), Option.bind_some, e2, e3]
          cases decide (2 < i) <;> cases l[i].Not <;> cases okPat l[i] <;> cases b <;> simp
        · have e3 : decide (i = 0) = true := decide_eq_true (by omega)
          simp only [h0, decide_false, Bool.false_eq_true, if_false, Option.bind_some, e3]
          cases decide (2 < i) <;> cases l[i].Not <;> cases okPat l[i] <;> simp
      · have c1 : decide ((i : Int) < (l.length : Int)) = false := decide_eq_false (by omega)
        have h1 : decide ((1 : Int) ≤ (l.length : Int)) = decide (1 ≤ l.length) := by rw [decide_eq_decide]; omega
        have h2 : decide ((l.length : Int) ≤ 6) = decide (l.length ≤ 6) := by rw [decide_eq_decide]; omega
        rw [List.drop_of_length_le (by omega)]
        simp only [m_s_l9Pats_l1, c1, Bool.false_eq_true, if_false, in0, Option.bind_some, h1, h2]; rfl
  unfold m_s_l9Pats
  rw [show m_s_l9Pats_l1 N l N 0 = _ from lp N 0 false (by omega) (by omega) (fun _ h => by omega), List.drop_zero, okPats_eq]
/-! ### What is bound -/
def okCondK (vs : List ByteArray) (c : TCond) : Bool := okCond c && (known vs c.L && known vs c.R)
theorem conds_s {N : Nat} (hN : 1099000000000 ≤ N) (l : List TCond) (vs : List ByteArray) (hl : l.length ≤ 1048576) (h : ∀ c ∈ l, SzCond c) (hv : vs.length ≤ 4294967296) : m_s_l9Conds N l vs = some (l.all (okCondK vs) && decide (l.length ≤ 6)) := by
  have h2 : decide ((l.length : Int) ≤ 6) = decide (l.length ≤ 6) := by rw [decide_eq_decide]; omega
  unfold m_s_l9Conds
  refine lp0 hN l (by omega) (m_s_l9Conds_l1 N l vs) (fun t => some (t.all (okCondK vs) && decide (l.length ≤ 6))) (fun n i x t g1 g2 g3 g4 g5 g6 g7 => ?_) (fun n i g1 g2 => ?_)
  · simp only [m_s_l9Conds_l1, g5, if_true, g4, Option.bind_some, cond_s hN x (h x g2), known_s hN _ vs hv, g6, g7, List.all_cons, okCondK]
    cases okCond x <;> cases known vs x.L <;> cases known vs x.R <;> simp
  · simp only [m_s_l9Conds_l1, g2, Bool.false_eq_true, if_false, h2]; rfl
def okExprK (vs : List ByteArray) (e : TExpr) : Bool := known vs e.L && known vs e.R
def okActK (vs : List ByteArray) (pos : Nat) (a : TAct) : Bool := okAct a && (!(decide (a.Kind = 2) && decide ((pos : Int) ≤ a.N)) && a.Args.all (okExprK vs))
theorem acts_s {N : Nat} (hN : 1099000000000 ≤ N) (l : List TAct) (vs : List ByteArray) (pos : Nat) (hl : l.length ≤ 1048576) (h : ∀ c ∈ l, SzAct c) (hv : vs.length ≤ 4294967296) : m_s_l9Acts N l vs pos = some (l.all (okActK vs pos) && (decide (1 ≤ l.length) && decide (l.length ≤ 6))) := by
  have h1 : decide ((1 : Int) ≤ (l.length : Int)) = decide (1 ≤ l.length) := by rw [decide_eq_decide]; omega
  have h2 : decide ((l.length : Int) ≤ 6) = decide (l.length ≤ 6) := by rw [decide_eq_decide]; omega
  unfold m_s_l9Acts
  refine lp0 hN l (by omega) (m_s_l9Acts_l1 N l vs pos) (fun t => some (t.all (okActK vs pos) && (decide (1 ≤ l.length) && decide (l.length ≤ 6)))) (fun n i x t g1 g2 g3 g4 g5 g6 g7 => ?_) (fun n i g1 g2 => ?_)
  · have hx := h x g2
    have inner := lp0 hN x.Args (by have := hx.2.2.1; omega) (m_s_l9Acts_l2 N l vs i (m_s_l9Acts_l1 N l vs pos n)) (fun u => some (u.all (okExprK vs) && (t.all (okActK vs pos) && (decide (1 ≤ l.length) && decide (l.length ≤ 6))))) (fun n' i' y u k1 k2 k3 k4 k5 k6 k7 => by
      simp only [m_s_l9Acts_l2, g4, Option.bind_some, k5, if_true, k4, known_s hN _ vs hv, k6, k7, List.all_cons, okExprK]
      cases known vs y.L <;> cases known vs y.R <;> simp) (fun n' i' k1 k2 => by
      simp only [m_s_l9Acts_l2, g4, Option.bind_some, k2, Bool.false_eq_true, if_false, g6, g7, List.all_nil, Bool.true_and])
    simp only [m_s_l9Acts_l1, g5, if_true, g4, Option.bind_some, act_s hN x hx, inner, List.all_cons, okActK]
    cases okAct x <;> cases decide (x.Kind = 2) <;> cases decide ((pos : Int) ≤ x.N) <;> simp [Bool.and_assoc]
  · simp only [m_s_l9Acts_l1, g2, Bool.false_eq_true, if_false, in0, Option.bind_some, h1, h2]; rfl
def SzRule (r : TRule) : Prop := r.Name.size ≤ 1048576 ∧ (r.Pats.length ≤ 1048576 ∧ ∀ p ∈ r.Pats, SzPat p) ∧ (r.Conds.length ≤ 1048576 ∧ ∀ c ∈ r.Conds, SzCond c) ∧ (r.Acts.length ≤ 1048576 ∧ ∀ a ∈ r.Acts, SzAct a) ∧ nArgs r.Pats ≤ 1048576 ∧ (r.Acts.map fun a => a.Args.length).sum ≤ 1048576
/-- Is a rule right? -/
def okRule (r : TRule) : Bool := okName r.Name && ((decide (-100 ≤ r.Sal) && decide (r.Sal ≤ 100)) && (okPats r.Pats && ((r.Conds.all (okCondK (bound r)) && decide (r.Conds.length ≤ 6)) && (r.Acts.all (okActK (bound r) (posCount r.Pats)) && (decide (1 ≤ r.Acts.length) && decide (r.Acts.length ≤ 6))))))
theorem rule_s {N : Nat} (hN : 1099000000000 ≤ N) (r : TRule) (h : SzRule r) : m_s_RuleOk N r = some (okRule r) := by
  obtain ⟨h1, ⟨h2, h2'⟩, ⟨h3, h3'⟩, ⟨h4, h4'⟩, h5, h6⟩ := h
  have hb := bound_len h5
  unfold m_s_RuleOk okRule
  have e1 := conds_s hN _ (bound r) h3 h3' (by omega)
  have e2 := acts_s hN _ (bound r) (posCount r.Pats) h4 h4' (by omega)
  have e0 : m_s_PosVars N r = some (bound r) := posVars_s hN r h2 h5 (fun p hp => (h2' p hp).2.1)
  simp only [e0, Option.bind_some, okName_s hN _ h1, in0, pats_s hN _ h2 h2', e1, count_s hN r h2, e2, andS, Bool.and_assoc]
/-! ### What is used -/
def condNames : List TCond → List ByteArray
  | [] => []
  | c :: t => argVars [c.L, c.R] ++ condNames t
def exprNames : List TExpr → List ByteArray
  | [] => []
  | e :: t => argVars [e.L, e.R] ++ exprNames t
def actNames : List TAct → List ByteArray
  | [] => []
  | a :: t => exprNames a.Args ++ actNames t
theorem condNames_len : ∀ (l : List TCond), (condNames l).length ≤ 2 * l.length
  | [] => by simp [condNames]
  | c :: t => by have := condNames_len t; have := argVars_len [c.L, c.R]; simp [condNames] at *; omega
theorem exprNames_len : ∀ (l : List TExpr), (exprNames l).length ≤ 2 * l.length
  | [] => by simp [exprNames]
  | c :: t => by have := exprNames_len t; have := argVars_len [c.L, c.R]; simp [exprNames] at *; omega
def nExprs (l : List TAct) : Nat := (l.map fun a => a.Args.length).sum
theorem actNames_len : ∀ (l : List TAct), (actNames l).length ≤ 2 * nExprs l
  | [] => by simp [actNames, nExprs]
  | a :: t => by have := actNames_len t; have := exprNames_len a.Args; simp [actNames, nExprs] at *; omega
theorem used3 {N : Nat} (hN : 1099000000000 ≤ N) (x : TAct) (s4 : Nat) (K : List ByteArray → Int → Option (List ByteArray)) (l : List TAct) (g : List ByteArray → Option (List ByteArray)) (s : List ByteArray) (hl : s.length + 2 * x.Args.length ≤ 4294967280) (hx : x.Args.length ≤ 1048576) (h4 : s4 ≤ 1048576)
    (hK : ∀ s', s'.length ≤ s.length + 2 * x.Args.length → K s' ((s4 + 1 : Nat) : Int) = g s') : m_i_usedVars_l3 N s4 K x N s 0 = g ((exprNames x.Args).foldl once s) := by
  refine lp' hN x.Args (by omega) (m_i_usedVars_l3 N s4 K x) (fun t s => g ((exprNames t).foldl once s)) (fun u t => u.length + 2 * t.length ≤ s.length + 2 * x.Args.length) s (by omega) (fun n u i y t h1 h2 h3 h4' h5 h6 hI ih => ?_) (fun n u i h1 h2 hI => ?_)
  · simp only [List.length_cons] at hI
    have hv := onces_len (argVars [y.L, y.R]) u
    have ha := argVars_len [y.L, y.R]
    simp only [List.length_cons, List.length_nil] at ha
    simp only [m_i_usedVars_l3, h5, if_true, h4', Option.bind_some, addVars_i hN [y.L, y.R] u (by simp; omega), h6, exprNames, List.foldl_append]
    exact ih _ (by omega)
  · simp only [m_i_usedVars_l3, h2, Bool.false_eq_true, if_false, wr1 s4 (by omega), exprNames]
    exact hK u (by simpa using hI)
theorem used_i {N : Nat} (hN : 1099000000000 ≤ N) (r : TRule) (hc : r.Conds.length ≤ 1048576) (ha : r.Acts.length ≤ 1048576) (hx : ∀ a ∈ r.Acts, a.Args.length ≤ 1048576) (he : nExprs r.Acts ≤ 1048576) : m_i_usedVars N r = some ((condNames r.Conds ++ actNames r.Acts).foldl once []) := by
  unfold m_i_usedVars
  have a2 : ∀ s : List ByteArray, s.length ≤ 4194304 → m_i_usedVars_l2 N r N s 0 = some ((actNames r.Acts).foldl once s) := fun s hs =>
    lp' hN r.Acts (by omega) (m_i_usedVars_l2 N r) (fun t s => some ((actNames t).foldl once s)) (fun s t => s.length + 2 * nExprs t ≤ 16777216) s (by omega) (fun n u i x t h1 h2 h3 h4 h5 h6 hI ih => by
      have hI' : u.length + 2 * (x.Args.length + nExprs t) ≤ 16777216 := by simpa [nExprs] using hI
      simp only [m_i_usedVars_l2, h5, if_true, h4, Option.bind_some, actNames, List.foldl_append]
      exact used3 hN x i (m_i_usedVars_l2 N r n) r.Acts (fun s' => some ((actNames t).foldl once s')) u (by omega) (hx x h2) (by omega) (fun s' hs' => ih s' (by omega))) (fun n u i h1 h2 hI => by simp only [m_i_usedVars_l2, h2, Bool.false_eq_true, if_false]; rfl)
  refine lp' hN r.Conds (by omega) (m_i_usedVars_l1 N r) (fun t s => some ((condNames t ++ actNames r.Acts).foldl once s)) (fun s t => s.length + 2 * t.length ≤ 4194304) [] (by simp; omega) (fun n u i x t h1 h2 h3 h4 h5 h6 hI ih => ?_) (fun n u i h1 h2 hI => ?_)
  · simp only [List.length_cons] at hI
    have hv := onces_len (argVars [x.L, x.R]) u
    have ha := argVars_len [x.L, x.R]
    simp only [List.length_cons, List.length_nil] at ha
    simp only [m_i_usedVars_l1, h5, if_true, h4, Option.bind_some, addVars_i hN [x.L, x.R] u (by simp; omega), h6, condNames, List.append_assoc]
    rw [List.foldl_append]
    exact ih _ (by omega)
  · simp only [m_i_usedVars_l1, h2, Bool.false_eq_true, if_false, condNames, List.nil_append]
    exact a2 u (by simpa using hI)
theorem known_iff (vs : List ByteArray) (a b : TArg) : (known vs a && known vs b) = true ↔ ∀ x ∈ argVars [a, b], x ∈ vs := by
  unfold known
  simp only [mem_argVars, List.mem_cons, List.not_mem_nil, or_false, Bool.and_eq_true, Bool.or_eq_true, Bool.not_eq_true', decide_eq_false_iff_not, decide_eq_true_eq]
  constructor
  · rintro ⟨h1, h2⟩ x ⟨c, rfl | rfl, h3, rfl⟩
    · exact h1.resolve_left (fun h => h h3)
    · exact h2.resolve_left (fun h => h h3)
  · intro h
    refine ⟨?_, ?_⟩
    · by_cases h1 : a.K = 1
      · exact .inr (h _ ⟨a, .inl rfl, h1, rfl⟩)
      · exact .inl h1
    · by_cases h1 : b.K = 1
      · exact .inr (h _ ⟨b, .inr rfl, h1, rfl⟩)
      · exact .inl h1
theorem condNames_iff (vs : List ByteArray) : ∀ (l : List TCond), (∀ x ∈ condNames l, x ∈ vs) ↔ ∀ c ∈ l, (known vs c.L && known vs c.R) = true
  | [] => by simp [condNames]
  | c :: t => by
    simp only [condNames, List.mem_append, or_imp, forall_and, condNames_iff vs t, List.mem_cons, forall_eq, known_iff]
theorem exprNames_iff (vs : List ByteArray) : ∀ (l : List TExpr), (∀ x ∈ exprNames l, x ∈ vs) ↔ ∀ c ∈ l, okExprK vs c = true
  | [] => by simp [exprNames]
  | c :: t => by
    simp only [exprNames, List.mem_append, or_imp, forall_and, exprNames_iff vs t, List.mem_cons, forall_eq, okExprK, known_iff]
theorem actNames_iff (vs : List ByteArray) : ∀ (l : List TAct), (∀ x ∈ actNames l, x ∈ vs) ↔ ∀ a ∈ l, a.Args.all (okExprK vs) = true
  | [] => by simp [actNames]
  | c :: t => by
    simp only [actNames, List.mem_append, or_imp, forall_and, actNames_iff vs t, List.mem_cons, forall_eq, exprNames_iff, List.all_eq_true]
theorem rule_i {N : Nat} (hN : 1099000000000 ≤ N) (r : TRule) (h : SzRule r) : m_i_RuleOk N r = some (okRule r) := by
  obtain ⟨h1, ⟨h2, h2'⟩, ⟨h3, h3'⟩, ⟨h4, h4'⟩, h5, h6⟩ := h
  have hb := bound_len h5
  have e0 : m_i_PosVars N r = some (bound r) := posVars_i hN r h2 h5
  have e1 := used_i hN r h3 h4 (fun a ha => (h4' a ha).2.2.1) h6
  have ul : ((condNames r.Conds ++ actNames r.Acts).foldl once []).length ≤ 4294967296 := by
    have a1 := onces_len (condNames r.Conds ++ actNames r.Acts) []
    have a2 := condNames_len r.Conds
    have a3 := actNames_len r.Acts
    have a4 : nExprs r.Acts ≤ 1048576 := h6
    simp only [List.length_append, List.length_nil] at a1; omega
  have l3 : m_i_RuleOk_l3 N (bound r) ((condNames r.Conds ++ actNames r.Acts).foldl once []) N 0 = some (((condNames r.Conds ++ actNames r.Acts).foldl once []).all fun x => decide (x ∈ bound r)) :=
    lp0 hN _ ul (m_i_RuleOk_l3 N (bound r) _) (fun t => some (t.all fun x => decide (x ∈ bound r))) (fun n i x t g1 g2 g3 g4 g5 g6 g7 => by
      simp only [m_i_RuleOk_l3, g5, if_true, g4, Option.bind_some, hasSl hN _ x (show (bound r).length ≤ 4294967296 by omega), g6, g7, List.all_cons]
      cases decide (x ∈ bound r) <;> rfl) (fun n i g1 g2 => by simp only [m_i_RuleOk_l3, g2, Bool.false_eq_true, if_false]; rfl)
  have l2 : m_i_RuleOk_l2 N r N 0 = some ((r.Acts.all fun a => okAct a && !(decide (a.Kind = 2) && decide ((posCount r.Pats : Int) ≤ a.N))) && ((condNames r.Conds ++ actNames r.Acts).foldl once []).all fun x => decide (x ∈ bound r)) :=
    lp0 hN r.Acts (by omega) (m_i_RuleOk_l2 N r) (fun t => some ((t.all fun a => okAct a && !(decide (a.Kind = 2) && decide ((posCount r.Pats : Int) ≤ a.N))) && ((condNames r.Conds ++ actNames r.Acts).foldl once []).all fun x => decide (x ∈ bound r))) (fun n i x t g1 g2 g3 g4 g5 g6 g7 => by
      simp only [m_i_RuleOk_l2, g5, if_true, g4, Option.bind_some, act_i hN x (h4' x g2), count_i hN r h2, g6, g7, List.all_cons]
      cases okAct x <;> cases decide (x.Kind = 2) <;> cases decide ((posCount r.Pats : Int) ≤ x.N) <;> simp) (fun n i g1 g2 => by
      simp only [m_i_RuleOk_l2, g2, Bool.false_eq_true, if_false, e0, e1, Option.bind_some, l3]; rfl)
  have l1 : m_i_RuleOk_l1 N r N 0 = some (r.Conds.all okCond && ((r.Acts.all fun a => okAct a && !(decide (a.Kind = 2) && decide ((posCount r.Pats : Int) ≤ a.N))) && ((condNames r.Conds ++ actNames r.Acts).foldl once []).all fun x => decide (x ∈ bound r))) :=
    lp0 hN r.Conds (by omega) (m_i_RuleOk_l1 N r) (fun t => some (t.all okCond && ((r.Acts.all fun a => okAct a && !(decide (a.Kind = 2) && decide ((posCount r.Pats : Int) ≤ a.N))) && ((condNames r.Conds ++ actNames r.Acts).foldl once []).all fun x => decide (x ∈ bound r)))) (fun n i x t g1 g2 g3 g4 g5 g6 g7 => by
      simp only [m_i_RuleOk_l1, g5, if_true, g4, Option.bind_some, cond_i hN x (h3' x g2), g6, g7, List.all_cons]
      cases okCond x <;> simp) (fun n i g1 g2 => by
      simp only [m_i_RuleOk_l1, g2, Bool.false_eq_true, if_false, l2]; rfl)
  have d1 : decide ((6 : Int) < (r.Conds.length : Int)) = !decide (r.Conds.length ≤ 6) := by rw [← decide_not, decide_eq_decide]; omega
  have d2 : decide ((1 : Int) ≤ (r.Acts.length : Int)) = decide (1 ≤ r.Acts.length) := by rw [decide_eq_decide]; omega
  have d3 : decide ((r.Acts.length : Int) ≤ 6) = decide (r.Acts.length ≤ 6) := by rw [decide_eq_decide]; omega
  have key : (r.Conds.all okCond && ((r.Acts.all fun a => okAct a && !(decide (a.Kind = 2) && decide ((posCount r.Pats : Int) ≤ a.N))) && ((condNames r.Conds ++ actNames r.Acts).foldl once []).all fun x => decide (x ∈ bound r))) = (r.Conds.all (okCondK (bound r)) && r.Acts.all (okActK (bound r) (posCount r.Pats))) := by
    rw [Bool.eq_iff_iff]
    have k1 : (((condNames r.Conds ++ actNames r.Acts).foldl once []).all fun x => decide (x ∈ bound r)) = true ↔ (∀ c ∈ r.Conds, (known (bound r) c.L && known (bound r) c.R) = true) ∧ ∀ a ∈ r.Acts, a.Args.all (okExprK (bound r)) = true := by
      rw [← condNames_iff, ← actNames_iff]
      simp only [List.all_eq_true, decide_eq_true_eq, mem_onces, List.not_mem_nil, false_or, List.mem_append, or_imp, forall_and]
    rw [Bool.and_eq_true, Bool.and_eq_true, Bool.and_eq_true, k1]
    simp only [List.all_eq_true, okCondK, okActK, Bool.and_eq_true, forall_and, and_imp]
    constructor
    · rintro ⟨a1, ⟨a2, a3⟩, ⟨a4, a5⟩, a6⟩; exact ⟨⟨a1, a4, a5⟩, a2, a3, a6⟩
    · rintro ⟨⟨a1, a4, a5⟩, a2, a3, a6⟩; exact ⟨a1, ⟨a2, a3⟩, ⟨a4, a5⟩, a6⟩
  unfold m_i_RuleOk okRule
  simp only [okName_i hN _ h1, Option.bind_some, in1, pats_i hN r h2 h2', d1, d2, d3, l1, key]
  generalize okName r.Name = a; generalize okPats r.Pats = b; generalize (decide (-100 ≤ r.Sal) && decide (r.Sal ≤ 100)) = c; generalize decide (r.Conds.length ≤ 6) = d; generalize (decide (1 ≤ r.Acts.length) && decide (r.Acts.length ≤ 6)) = e
  generalize r.Conds.all (okCondK (bound r)) = f; generalize r.Acts.all (okActK (bound r) (posCount r.Pats)) = g
  cases a <;> cases b <;> cases c <;> cases d <;> cases e <;> cases f <;> cases g <;> rfl
end Go.Proofs.YtjangilipfjcmaaGreat
