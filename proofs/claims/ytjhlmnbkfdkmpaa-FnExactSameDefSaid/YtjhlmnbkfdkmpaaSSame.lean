/- Plain law: the core of SameDef: both sides say whether the definitions are the same. -/
import Derived.Test.YtjhlmnbkfdkmpaaCL
import Derived.Test.YtjhlmnbkfdkmpaaWExactSameDefPur
namespace Go.Proofs.Ytjhlmnbkfdkmpaa
open Eng
set_option linter.unusedVariables false
set_option linter.unusedSimpArgs false

/-- Two rows, element by element, and then K. -/
theorem eqloopK {α : Type} [DecidableEq α] (f : Nat → Int → Option Bool) (a b : List α) (hl : a.length = b.length) (hm : a.length ≤ 4294967296) (K : Option Bool)
    (hs : ∀ n (i : Nat) (x y : α), idx a (i : Int) = some x → idx b (i : Int) = some y → x ∈ a → decide ((i : Int) < (a.length : Int)) = true → IntKind.i64.wrap ((i : Int) + 1) = ((i + 1 : Nat) : Int) → f (n + 1) i = if x = y then f n ((i + 1 : Nat) : Int) else some false)
    (he : ∀ n (i : Nat), decide ((i : Int) < (a.length : Int)) = false → i = a.length → f (n + 1) i = K) :
    ∀ (n i : Nat), i ≤ a.length → a.length - i < n → f n i = if a.drop i = b.drop i then K else some false := by
  intro n
  induction n with
  | zero => intro i _ h; omega
  | succ n ih =>
    intro i hi hn
    by_cases hlt : i < a.length
    · have hlt' : i < b.length := by omega
      rw [List.drop_eq_getElem_cons hlt, List.drop_eq_getElem_cons hlt', hs n i a[i] b[i] (idx_nat_lt hlt) (idx_nat_lt hlt') (List.getElem_mem hlt) (decide_eq_true (by omega)) (wr1 i (by omega)), ih (i + 1) (by omega) (by omega)]
      by_cases he' : a[i] = b[i]
      · simp only [he', if_true, List.cons.injEq, true_and]
      · simp only [he', if_false, List.cons.injEq, false_and]
    · rw [he n i (decide_eq_false (by omega)) (by omega), List.drop_of_length_le (by omega), List.drop_of_length_le (by omega), if_pos rfl]
theorem ifd {P : Prop} [Decidable P] : (if P then some true else some false) = some (decide P) := by split <;> simp [*]
theorem eqArg (x y : TArg) : eqT_TArg x y = decide (x = y) := by
  obtain ⟨k, s, ⟨a, b, c⟩⟩ := x; obtain ⟨k', s', ⟨a', b', c'⟩⟩ := y
  rw [Bool.eq_iff_iff]; simp [eqT_TArg, seq_eq]
theorem eqExpr (x y : TExpr) : eqT_TExpr x y = decide (x = y) := by
  obtain ⟨o, ⟨k, s, ⟨a, b, c⟩⟩, ⟨l, t, ⟨d, e, f⟩⟩⟩ := x; obtain ⟨o', ⟨k', s', ⟨a', b', c'⟩⟩, ⟨l', t', ⟨d', e', f'⟩⟩⟩ := y
  rw [Bool.eq_iff_iff]; simp [eqT_TExpr, seq_eq, and_assoc]
theorem eqCond (x y : TCond) : eqT_TCond x y = decide (x = y) := by
  obtain ⟨o, ⟨k, s, ⟨a, b, c⟩⟩, ⟨l, t, ⟨d, e, f⟩⟩⟩ := x; obtain ⟨o', ⟨k', s', ⟨a', b', c'⟩⟩, ⟨l', t', ⟨d', e', f'⟩⟩⟩ := y
  rw [Bool.eq_iff_iff]; simp [eqT_TCond, seq_eq, and_assoc]
theorem andS (a b : Bool) : (if a = true then some b else some false) = some (a && b) := by cases a <;> rfl
theorem orS (a b : Bool) : (if a = true then some true else some b) = some (a || b) := by cases a <;> rfl
theorem pat_dec (x y : TPat) : decide (x = y) = ((seq x.Kind y.Kind && (x.Not == y.Not)) && decide (x.Args = y.Args)) := by
  obtain ⟨a, b, c⟩ := x; obtain ⟨a', b', c'⟩ := y
  rw [Bool.eq_iff_iff]; simp [seq_eq]; constructor
  · rintro ⟨rfl, rfl, rfl⟩; simp
  · rintro ⟨⟨rfl, rfl⟩, rfl⟩; simp
theorem act_dec (x y : TAct) : decide (x = y) = ((((decide (x.Kind = y.Kind) && seq x.Name y.Name) && decide (x.N = y.N)) && seq x.Undo y.Undo) && decide (x.Args = y.Args)) := by
  obtain ⟨a, b, c, d, e⟩ := x; obtain ⟨a', b', c', d', e'⟩ := y
  rw [Bool.eq_iff_iff]; simp [seq_eq]; constructor
  · rintro ⟨rfl, rfl, rfl, rfl, rfl⟩; simp
  · rintro ⟨⟨⟨⟨rfl, rfl⟩, rfl⟩, rfl⟩, rfl⟩; simp
theorem rule_dec (x y : TRule) : decide (x = y) = ((((seq x.Name y.Name && decide (x.Sal = y.Sal)) && decide (x.Conds = y.Conds)) && decide (x.Pats = y.Pats)) && decide (x.Acts = y.Acts)) := by
  obtain ⟨a, b, c, d, e⟩ := x; obtain ⟨a', b', c', d', e'⟩ := y
  rw [Bool.eq_iff_iff]; simp [seq_eq]; constructor
  · rintro ⟨rfl, rfl, rfl, rfl, rfl⟩; simp
  · rintro ⟨⟨⟨⟨rfl, rfl⟩, rfl⟩, rfl⟩, rfl⟩; simp
theorem def_dec (x y : TDef) : decide (x = y) = (seq x.Name y.Name && decide (x.Rules = y.Rules)) := by
  obtain ⟨a, b⟩ := x; obtain ⟨a', b'⟩ := y
  rw [Bool.eq_iff_iff]; simp [seq_eq]
theorem ifB {P : Prop} [Decidable P] {A B : Option Bool} : (if (!decide P) = true then A else B) = if P then B else A := by by_cases h : P <;> simp [h]

theorem argsSl {N : Nat} (hN : 1099511627776 ≤ N) (x y : List TArg) (hl : x.length ≤ 1048576) : m_sl_Equal_Si_Arg_i_Arg N x y = some (decide (x = y)) := by
  unfold m_sl_Equal_Si_Arg_i_Arg
  by_cases c : x.length = y.length
  · rw [if_neg (by simp; omega)]
    refine (eqloopK (m_sl_Equal_Si_Arg_i_Arg_l1 N x y) x y c (by omega) (some true) (fun n i a b ha hb _ hc hw => by simp only [m_sl_Equal_Si_Arg_i_Arg_l1, hc, if_true, ha, hb, Option.bind_some, eqArg, hw, ifB]) (fun n i hc _ => by simp only [m_sl_Equal_Si_Arg_i_Arg_l1, hc, Bool.false_eq_true, if_false]) N 0 (by omega) (by omega)).trans ?_
    simp only [List.drop_zero, ifd]
  · rw [if_pos (by simp; omega)]
    have : ¬ x = y := fun e => c (by rw [e])
    simp [this]
theorem exprsSl {N : Nat} (hN : 1099511627776 ≤ N) (x y : List TExpr) (hl : x.length ≤ 1048576) : m_sl_Equal_Si_Expr_i_Expr N x y = some (decide (x = y)) := by
  unfold m_sl_Equal_Si_Expr_i_Expr
  by_cases c : x.length = y.length
  · rw [if_neg (by simp; omega)]
    refine (eqloopK (m_sl_Equal_Si_Expr_i_Expr_l1 N x y) x y c (by omega) (some true) (fun n i a b ha hb _ hc hw => by simp only [m_sl_Equal_Si_Expr_i_Expr_l1, hc, if_true, ha, hb, Option.bind_some, eqExpr, hw, ifB]) (fun n i hc _ => by simp only [m_sl_Equal_Si_Expr_i_Expr_l1, hc, Bool.false_eq_true, if_false]) N 0 (by omega) (by omega)).trans ?_
    simp only [List.drop_zero, ifd]
  · rw [if_pos (by simp; omega)]
    have : ¬ x = y := fun e => c (by rw [e])
    simp [this]
theorem condsSl {N : Nat} (hN : 1099511627776 ≤ N) (x y : List TCond) (hl : x.length ≤ 1048576) : m_sl_Equal_Si_Cond_i_Cond N x y = some (decide (x = y)) := by
  unfold m_sl_Equal_Si_Cond_i_Cond
  by_cases c : x.length = y.length
  · rw [if_neg (by simp; omega)]
    refine (eqloopK (m_sl_Equal_Si_Cond_i_Cond_l1 N x y) x y c (by omega) (some true) (fun n i a b ha hb _ hc hw => by simp only [m_sl_Equal_Si_Cond_i_Cond_l1, hc, if_true, ha, hb, Option.bind_some, eqCond, hw, ifB]) (fun n i hc _ => by simp only [m_sl_Equal_Si_Cond_i_Cond_l1, hc, Bool.false_eq_true, if_false]) N 0 (by omega) (by omega)).trans ?_
    simp only [List.drop_zero, ifd]
  · rw [if_pos (by simp; omega)]
    have : ¬ x = y := fun e => c (by rw [e])
    simp [this]

def ShR (r : TRule) : Prop := r.Conds.length ≤ 1048576 ∧ (r.Pats.length ≤ 1048576 ∧ ∀ p ∈ r.Pats, p.Args.length ≤ 1048576) ∧ (r.Acts.length ≤ 1048576 ∧ ∀ a ∈ r.Acts, a.Args.length ≤ 1048576)
theorem samePat {N : Nat} (hN : 1099511627776 ≤ N) (x y : TPat) (h : x.Args.length ≤ 1048576) : m_i_samePat N x y = some (decide (x = y)) := by
  unfold m_i_samePat
  simp only [argsSl hN _ _ h, Option.bind_some, andS, pat_dec]
theorem sameAct {N : Nat} (hN : 1099511627776 ≤ N) (x y : TAct) (h : x.Args.length ≤ 1048576) : m_i_sameAct N x y = some (decide (x = y)) := by
  unfold m_i_sameAct
  simp only [exprsSl hN _ _ h, Option.bind_some, andS, act_dec]
theorem patsF {N : Nat} (hN : 1099511627776 ≤ N) (x y : List TPat) (hl : x.length ≤ 1048576) (hx : ∀ p ∈ x, p.Args.length ≤ 1048576) : m_sl_EqualFunc_Si_Pat_Si_Pat_i_Pat_i_Pat N x y (m_i_samePat N) = some (decide (x = y)) := by
  unfold m_sl_EqualFunc_Si_Pat_Si_Pat_i_Pat_i_Pat
  by_cases c : x.length = y.length
  · rw [if_neg (by simp; omega)]
    refine (eqloopK (m_sl_EqualFunc_Si_Pat_Si_Pat_i_Pat_i_Pat_l1 N x y (m_i_samePat N)) x y c (by omega) (some true) (fun n i a b ha hb hm hc hw => by simp only [m_sl_EqualFunc_Si_Pat_Si_Pat_i_Pat_i_Pat_l1, hc, if_true, ha, hb, Option.bind_some, samePat hN a b (hx a hm), hw, ifB]) (fun n i hc _ => by simp only [m_sl_EqualFunc_Si_Pat_Si_Pat_i_Pat_i_Pat_l1, hc, Bool.false_eq_true, if_false]) N 0 (by omega) (by omega)).trans ?_
    simp only [List.drop_zero, ifd]
  · rw [if_pos (by simp; omega)]
    have : ¬ x = y := fun e => c (by rw [e])
    simp [this]
theorem actsF {N : Nat} (hN : 1099511627776 ≤ N) (x y : List TAct) (hl : x.length ≤ 1048576) (hx : ∀ p ∈ x, p.Args.length ≤ 1048576) : m_sl_EqualFunc_Si_Act_Si_Act_i_Act_i_Act N x y (m_i_sameAct N) = some (decide (x = y)) := by
  unfold m_sl_EqualFunc_Si_Act_Si_Act_i_Act_i_Act
  by_cases c : x.length = y.length
  · rw [if_neg (by simp; omega)]
    refine (eqloopK (m_sl_EqualFunc_Si_Act_Si_Act_i_Act_i_Act_l1 N x y (m_i_sameAct N)) x y c (by omega) (some true) (fun n i a b ha hb hm hc hw => by simp only [m_sl_EqualFunc_Si_Act_Si_Act_i_Act_i_Act_l1, hc, if_true, ha, hb, Option.bind_some, sameAct hN a b (hx a hm), hw, ifB]) (fun n i hc _ => by simp only [m_sl_EqualFunc_Si_Act_Si_Act_i_Act_i_Act_l1, hc, Bool.false_eq_true, if_false]) N 0 (by omega) (by omega)).trans ?_
    simp only [List.drop_zero, ifd]
  · rw [if_pos (by simp; omega)]
    have : ¬ x = y := fun e => c (by rw [e])
    simp [this]
theorem rule_i {N : Nat} (hN : 1099511627776 ≤ N) (x y : TRule) (h : ShR x) : m_i_sameRule N x y = some (decide (x = y)) := by
  unfold m_i_sameRule
  simp only [condsSl hN _ _ h.1, patsF hN _ _ h.2.1.1 h.2.1.2, actsF hN _ _ h.2.2.1 h.2.2.2, Option.bind_some, andS, orS, rule_dec]
  cases seq x.Name y.Name <;> cases decide (x.Sal = y.Sal) <;> cases decide (x.Conds = y.Conds) <;> simp
theorem def_i {N : Nat} (hN : 1099511627776 ≤ N) (x y : TDef) (hl : x.Rules.length ≤ 1048576) (hx : ∀ r ∈ x.Rules, ShR r) : m_i_SameDef N x y = some (decide (x = y)) := by
  unfold m_i_SameDef m_sl_EqualFunc_Si_Rule_Si_Rule_i_Rule_i_Rule
  have : (if (!decide ((x.Rules.length : Int) = (y.Rules.length : Int))) = true then some false else m_sl_EqualFunc_Si_Rule_Si_Rule_i_Rule_i_Rule_l1 N x.Rules y.Rules (m_i_sameRule N) N 0) = some (decide (x.Rules = y.Rules)) := by
    by_cases c : x.Rules.length = y.Rules.length
    · rw [if_neg (by simp; omega)]
      refine (eqloopK (m_sl_EqualFunc_Si_Rule_Si_Rule_i_Rule_i_Rule_l1 N x.Rules y.Rules (m_i_sameRule N)) x.Rules y.Rules c (by omega) (some true) (fun n i a b ha hb hm hc hw => by simp only [m_sl_EqualFunc_Si_Rule_Si_Rule_i_Rule_i_Rule_l1, hc, if_true, ha, hb, Option.bind_some, rule_i hN a b (hx a hm), hw, ifB]) (fun n i hc _ => by simp only [m_sl_EqualFunc_Si_Rule_Si_Rule_i_Rule_i_Rule_l1, hc, Bool.false_eq_true, if_false]) N 0 (by omega) (by omega)).trans ?_
      simp only [List.drop_zero, ifd]
    · rw [if_pos (by simp; omega)]
      have : ¬ x.Rules = y.Rules := fun e => c (by rw [e])
      simp [this]
  rw [this]
  simp only [Option.bind_some, andS, def_dec]

/-! ### The reference -/
theorem pats_s {N : Nat} (hN : 1099511627776 ≤ N) (x y : List TPat) (hl : x.length ≤ 1048576) (hx : ∀ p ∈ x, p.Args.length ≤ 1048576) : m_s_l10SamePats N x y = some (decide (x = y)) := by
  unfold m_s_l10SamePats
  by_cases c : x.length = y.length
  · rw [if_neg (by simp; omega)]
    refine (eqloopK (m_s_l10SamePats_l1 N x y) x y c (by omega) (some true) (fun n i a b ha hb hm hc hw => by
      simp only [m_s_l10SamePats_l1, hc, if_true, ha, hb, Option.bind_some, orS]
      by_cases hd : (seq a.Kind b.Kind && (a.Not == b.Not)) = true
      · obtain ⟨h1, h2⟩ := Bool.and_eq_true_iff.1 hd
        have h2' : (a.Not != b.Not) = false := by simp at h2; simp [h2]
        by_cases hal : a.Args.length = b.Args.length
        · have hal' : decide ((a.Args.length : Int) = (b.Args.length : Int)) = true := decide_eq_true (by omega)
          simp only [h1, h2', hal', Bool.not_true, Bool.or_false, Bool.false_eq_true, if_false]
          have l2 := eqloopK (m_s_l10SamePats_l2 N x y i (m_s_l10SamePats_l1 N x y n)) a.Args b.Args hal (by have := hx a hm; omega) (m_s_l10SamePats_l1 N x y n ((i + 1 : Nat) : Int)) (fun n' j a' b' ha' hb' _ hc' hw' => by
            simp only [m_s_l10SamePats_l2, ha, hb, Option.bind_some, hc', if_true, ha', hb', eqArg, hw', ifB]) (fun n' j hc' _ => by simp only [m_s_l10SamePats_l2, ha, Option.bind_some, hc', Bool.false_eq_true, if_false, hw]) N 0 (by omega) (by have := hx a hm; omega)
          rw [show ((0 : Nat) : Int) = 0 from rfl] at l2
          rw [l2]
          have hab : (a = b) ↔ (a.Args = b.Args) := by
            have := pat_dec a b
            rw [hd, Bool.true_and, decide_eq_decide] at this
            exact this
          simp only [List.drop_zero, hab]
        · have hal' : decide ((a.Args.length : Int) = (b.Args.length : Int)) = false := decide_eq_false (by omega)
          have hab : ¬ a = b := fun e => hal (by rw [e])
          simp only [hal', hab, Bool.not_false, Bool.or_true, if_true, if_false]
      · have hab : ¬ a = b := fun e => hd (by rw [e]; simp [seq_self])
        have h3 : (!seq a.Kind b.Kind || (a.Not != b.Not)) = true := by
          revert hd; cases seq a.Kind b.Kind <;> cases a.Not <;> cases b.Not <;> simp
        simp only [h3, Bool.true_or, if_true, hab, if_false]) (fun n i hc _ => by simp only [m_s_l10SamePats_l1, hc, Bool.false_eq_true, if_false]) N 0 (by omega) (by omega)).trans ?_
    simp only [List.drop_zero, ifd]
  · rw [if_pos (by simp; omega)]
    have : ¬ x = y := fun e => c (by rw [e])
    simp [this]
theorem acts_s {N : Nat} (hN : 1099511627776 ≤ N) (x y : List TAct) (hl : x.length ≤ 1048576) (hx : ∀ p ∈ x, p.Args.length ≤ 1048576) : m_s_l10SameActs N x y = some (decide (x = y)) := by
  unfold m_s_l10SameActs
  by_cases c : x.length = y.length
  · rw [if_neg (by simp; omega)]
    refine (eqloopK (m_s_l10SameActs_l1 N x y) x y c (by omega) (some true) (fun n i a b ha hb hm hc hw => by
      simp only [m_s_l10SameActs_l1, hc, if_true, ha, hb, Option.bind_some, orS]
      by_cases hd : (((decide (a.Kind = b.Kind) && seq a.Name b.Name) && decide (a.N = b.N)) && seq a.Undo b.Undo) = true
      · have h3 : ((!decide (a.Kind = b.Kind) || !seq a.Name b.Name) || !decide (a.N = b.N) || !seq a.Undo b.Undo) = false := by
          revert hd; cases decide (a.Kind = b.Kind) <;> cases seq a.Name b.Name <;> cases decide (a.N = b.N) <;> cases seq a.Undo b.Undo <;> simp
        by_cases hal : a.Args.length = b.Args.length
        · have hal' : decide ((a.Args.length : Int) = (b.Args.length : Int)) = true := decide_eq_true (by omega)
          simp only [h3, hal', Bool.not_true, Bool.or_false, Bool.false_eq_true, if_false]
          have l2 := eqloopK (m_s_l10SameActs_l2 N i (m_s_l10SameActs_l1 N x y n) a b) a.Args b.Args hal (by have := hx a hm; omega) (m_s_l10SameActs_l1 N x y n ((i + 1 : Nat) : Int)) (fun n' j a' b' ha' hb' _ hc' hw' => by
            simp only [m_s_l10SameActs_l2, Option.bind_some, hc', if_true, ha', hb', eqExpr, hw', ifB]) (fun n' j hc' _ => by simp only [m_s_l10SameActs_l2, hc', Bool.false_eq_true, if_false, hw]) N 0 (by omega) (by have := hx a hm; omega)
          rw [show ((0 : Nat) : Int) = 0 from rfl] at l2
          rw [l2]
          have hab : (a = b) ↔ (a.Args = b.Args) := by
            have := act_dec a b
            rw [hd, Bool.true_and, decide_eq_decide] at this
            exact this
          simp only [List.drop_zero, hab]
        · have hal' : decide ((a.Args.length : Int) = (b.Args.length : Int)) = false := decide_eq_false (by omega)
          have hab : ¬ a = b := fun e => hal (by rw [e])
          simp only [hal', hab, Bool.not_false, Bool.or_true, if_true, if_false]
      · have hab : ¬ a = b := fun e => hd (by rw [e]; simp [seq_self])
        have h3 : ((!decide (a.Kind = b.Kind) || !seq a.Name b.Name) || !decide (a.N = b.N) || !seq a.Undo b.Undo) = true := by
          revert hd; cases decide (a.Kind = b.Kind) <;> cases seq a.Name b.Name <;> cases decide (a.N = b.N) <;> cases seq a.Undo b.Undo <;> simp
        simp only [h3, Bool.true_or, if_true, hab, if_false]) (fun n i hc _ => by simp only [m_s_l10SameActs_l1, hc, Bool.false_eq_true, if_false]) N 0 (by omega) (by omega)).trans ?_
    simp only [List.drop_zero, ifd]
  · rw [if_pos (by simp; omega)]
    have : ¬ x = y := fun e => c (by rw [e])
    simp [this]
theorem rule_s {N : Nat} (hN : 1099511627776 ≤ N) (x y : TRule) (h : ShR x) : m_s_l10SameRule N x y = some (decide (x = y)) := by
  unfold m_s_l10SameRule
  simp only [Option.bind_some, orS]
  by_cases hd : (seq x.Name y.Name && decide (x.Sal = y.Sal)) = true
  · have h3 : (!seq x.Name y.Name || !decide (x.Sal = y.Sal)) = false := by
      revert hd; cases seq x.Name y.Name <;> cases decide (x.Sal = y.Sal) <;> simp
    by_cases hal : x.Conds.length = y.Conds.length
    · have hal' : decide ((x.Conds.length : Int) = (y.Conds.length : Int)) = true := decide_eq_true (by omega)
      simp only [h3, hal', Bool.not_true, Bool.or_false, Bool.false_eq_true, if_false]
      refine (eqloopK (m_s_l10SameRule_l1 N x y) x.Conds y.Conds hal (by have := h.1; omega) (some (decide (x.Pats = y.Pats) && decide (x.Acts = y.Acts))) (fun n i a b ha hb _ hc hw => by simp only [m_s_l10SameRule_l1, hc, if_true, ha, hb, Option.bind_some, eqCond, hw, ifB]) (fun n i hc _ => by
        simp only [m_s_l10SameRule_l1, hc, Bool.false_eq_true, if_false, pats_s hN _ _ h.2.1.1 h.2.1.2, acts_s hN _ _ h.2.2.1 h.2.2.2, Option.bind_some, andS]) N 0 (by omega) (by have := h.1; omega)).trans ?_
      have := rule_dec x y
      rw [hd, Bool.true_and] at this
      simp only [List.drop_zero, this]
      by_cases hc : x.Conds = y.Conds <;> simp [hc]
    · have hal' : decide ((x.Conds.length : Int) = (y.Conds.length : Int)) = false := decide_eq_false (by omega)
      have hab : ¬ x = y := fun e => hal (by rw [e])
      simp [hal', hab]
  · have hab : ¬ x = y := fun e => hd (by rw [e]; simp [seq_self])
    have h3 : (!seq x.Name y.Name || !decide (x.Sal = y.Sal)) = true := by
      revert hd; cases seq x.Name y.Name <;> cases decide (x.Sal = y.Sal) <;> simp
    simp [h3, hab]
theorem def_s {N : Nat} (hN : 1099511627776 ≤ N) (x y : TDef) (hl : x.Rules.length ≤ 1048576) (hx : ∀ r ∈ x.Rules, ShR r) : m_s_SameDef N x y = some (decide (x = y)) := by
  unfold m_s_SameDef
  simp only [Option.bind_some, orS, def_dec]
  cases hd : seq x.Name y.Name with
  | false => simp
  | true =>
    by_cases c : x.Rules.length = y.Rules.length
    · have c' : decide ((x.Rules.length : Int) = (y.Rules.length : Int)) = true := decide_eq_true (by omega)
      simp only [c', Bool.not_true, Bool.or_false, Bool.false_eq_true, if_false, Bool.true_and]
      refine (eqloopK (m_s_SameDef_l1 N x y) x.Rules y.Rules c (by omega) (some true) (fun n i a b ha hb hm hc hw => by simp only [m_s_SameDef_l1, hc, if_true, ha, hb, Option.bind_some, rule_s hN a b (hx a hm), hw, ifB]) (fun n i hc _ => by simp only [m_s_SameDef_l1, hc, Bool.false_eq_true, if_false]) N 0 (by omega) (by omega)).trans ?_
      simp only [List.drop_zero, ifd]
    · have c' : decide ((x.Rules.length : Int) = (y.Rules.length : Int)) = false := decide_eq_false (by omega)
      have : ¬ x.Rules = y.Rules := fun e => c (by rw [e])
      simp [c', this]
theorem ShR_of (r : TRule) (h : totTRule r ≤ 1048576) : ShR r := by
  unfold totTRule at h
  have n1 : ∀ y ∈ r.Pats, 0 ≤ totTPat y := fun y _ => totTPat_nn y
  have n3 : ∀ y ∈ r.Acts, 0 ≤ totTAct y := fun y _ => totTAct_nn y
  have h1 := sum_nonneg totTPat r.Pats n1
  have h2 := sum_nonneg totTCond r.Conds (fun y _ => totTCond_nn y)
  have h3 := sum_nonneg totTAct r.Acts n3
  refine ⟨by omega, ⟨by omega, fun p hp => ?_⟩, ⟨by omega, fun a ha => ?_⟩⟩
  · have h4 := sum_mem totTPat r.Pats n1 p hp
    have h5 : totTPat p ≤ 1048576 := by omega
    unfold totTPat at h5
    have := sum_nonneg totTArg p.Args (fun y _ => totTArg_nn y)
    omega
  · have h4 := sum_mem totTAct r.Acts n3 a ha
    have h5 : totTAct a ≤ 1048576 := by omega
    unfold totTAct at h5
    have := sum_nonneg totTExpr a.Args (fun y _ => totTExpr_nn y)
    omega
theorem c_SameDef {N : Nat} (hN : 1099511627776 ≤ N) (x y : TDef) (hx : totTDef x ≤ 1048576) (hy : totTDef y ≤ 1048576) : ∃ r, m_s_SameDef N x y = some r ∧ m_i_SameDef N x y = some r := by
  unfold totTDef at hx
  have n1 : ∀ r ∈ x.Rules, 0 ≤ totTRule r := fun r _ => totTRule_nn r
  have h1 := sum_nonneg totTRule x.Rules n1
  have hs : ∀ r ∈ x.Rules, ShR r := fun r hr => ShR_of r (by have := sum_mem totTRule x.Rules n1 r hr; omega)
  exact ⟨_, def_s hN x y (by omega) hs, def_i hN x y (by omega) hs⟩
end Go.Proofs.Ytjhlmnbkfdkmpaa
