/- Plain laws: right definitions. -/
import Derived.Test.YtjangilipfjcmaaGreatSRule
namespace Go.Proofs.YtjangilipfjcmaaGreat
open Eng
set_option linter.unusedVariables false
set_option linter.unusedSimpArgs false

/-- Where the first rule of this name stands; -1, if there is none. -/
def ruleAt (l : List TRule) (v : ByteArray) : Int := match l.findIdx? (fun r => seq r.Name v) with | some j => (j : Int) | none => -1
theorem at_s {N : Nat} (hN : 1099000000000 ≤ N) (d : TDef) (v : ByteArray) (hl : d.Rules.length ≤ 1048576) : m_s_RuleAt N d v = some (ruleAt d.Rules v) := by
  unfold m_s_RuleAt ruleAt
  have a := findloop (m_s_RuleAt_l1 N d v) d.Rules (by omega) (fun x => seq x.Name v) (fun n i x hx _ hc hw => by simp only [m_s_RuleAt_l1, hc, if_true, hx, Option.bind_some, hw]) (fun n i hc => by simp only [m_s_RuleAt_l1, hc, Bool.false_eq_true, if_false]) N 0 (by omega) (by omega)
  rw [show ((0 : Nat) : Int) = 0 from rfl, List.drop_zero] at a
  rw [a]
  cases d.Rules.findIdx? (fun r => seq r.Name v) <;> simp
theorem at_i {N : Nat} (hN : 1099000000000 ≤ N) (d : TDef) (v : ByteArray) (hl : d.Rules.length ≤ 1048576) : m_i_RuleAt N d v = some (ruleAt d.Rules v) := by
  unfold m_i_RuleAt m_sl_IndexFunc_Si_Rule_i_Rule ruleAt
  have b := findloop (m_sl_IndexFunc_Si_Rule_i_Rule_l1 N d.Rules (fun a0 => m_i_RuleAt_c1 N a0 v)) d.Rules (by omega) (fun x => seq x.Name v) (fun n i x hx _ hc hw => by simp only [m_sl_IndexFunc_Si_Rule_i_Rule_l1, m_i_RuleAt_c1, hc, if_true, hx, Option.bind_some, hw]) (fun n i hc => by simp only [m_sl_IndexFunc_Si_Rule_i_Rule_l1, hc, Bool.false_eq_true, if_false]) N 0 (by omega) (by omega)
  rw [show ((0 : Nat) : Int) = 0 from rfl, List.drop_zero] at b
  rw [b]
  cases d.Rules.findIdx? (fun r => seq r.Name v) <;> simp
/-- From place i on: each rule is right, and the first of its name. -/
def rulesFrom (all : List TRule) : Nat → List TRule → Bool
  | _, [] => true
  | i, r :: t => okRule r && (decide (ruleAt all r.Name = (i : Int)) && rulesFrom all (i + 1) t)
def okDef (d : TDef) : Bool := okName d.Name && ((decide (1 ≤ d.Rules.length) && decide (d.Rules.length ≤ 12)) && rulesFrom d.Rules 0 d.Rules)
def SzDef (d : TDef) : Prop := d.Name.size ≤ 1048576 ∧ d.Rules.length ≤ 1048576 ∧ ∀ r ∈ d.Rules, SzRule r
theorem def_i {N : Nat} (hN : 1099000000000 ≤ N) (d : TDef) (h : SzDef d) : m_i_DefOk N d = some (okDef d) := by
  obtain ⟨h1, h2, h3⟩ := h
  have lp : ∀ (n i : Nat), i ≤ d.Rules.length → d.Rules.length - i < n → m_i_DefOk_l1 N d n i = some (rulesFrom d.Rules i (d.Rules.drop i)) := by
    intro n
    induction n with
    | zero => intro i _ h; omega
    | succ n ih =>
      intro i hi hn
      by_cases hlt : i < d.Rules.length
      · have c1 : decide ((i : Int) < (d.Rules.length : Int)) = true := decide_eq_true (by omega)
        rw [List.drop_eq_getElem_cons hlt]
        simp only [m_i_DefOk_l1, c1, if_true, idx_nat_lt hlt, Option.bind_some, rule_i hN _ (h3 _ (List.getElem_mem hlt)), at_i hN d _ h2, wr1 i (by omega), ih (i + 1) (by omega) (by omega), rulesFrom]
        cases okRule d.Rules[i] <;> cases decide (ruleAt d.Rules d.Rules[i].Name = (i : Int)) <;> simp
      · have c1 : decide ((i : Int) < (d.Rules.length : Int)) = false := decide_eq_false (by omega)
        rw [List.drop_of_length_le (by omega)]
        simp only [m_i_DefOk_l1, c1, Bool.false_eq_true, if_false]; rfl
  have l0 := lp N 0 (by omega) (by omega)
  have d1 : decide ((1 : Int) ≤ (d.Rules.length : Int)) = decide (1 ≤ d.Rules.length) := by rw [decide_eq_decide]; omega
  have d2 : decide ((d.Rules.length : Int) ≤ 12) = decide (d.Rules.length ≤ 12) := by rw [decide_eq_decide]; omega
  unfold m_i_DefOk okDef
  simp only [okName_i hN _ h1, Option.bind_some, in1, d1, d2]
  rw [show m_i_DefOk_l1 N d N 0 = _ from l0, List.drop_zero]
  cases okName d.Name <;> cases (decide (1 ≤ d.Rules.length) && decide (d.Rules.length ≤ 12)) <;> rfl
theorem def_s {N : Nat} (hN : 1099000000000 ≤ N) (d : TDef) (h : SzDef d) : m_s_DefOk N d = some (okDef d) := by
  obtain ⟨h1, h2, h3⟩ := h
  have d1 : decide ((1 : Int) ≤ (d.Rules.length : Int)) = decide (1 ≤ d.Rules.length) := by rw [decide_eq_decide]; omega
  have d2 : decide ((d.Rules.length : Int) ≤ 12) = decide (d.Rules.length ≤ 12) := by rw [decide_eq_decide]; omega
  have lp : ∀ (n i : Nat), i ≤ d.Rules.length → d.Rules.length - i < n → m_s_DefOk_l1 N d n i = some (rulesFrom d.Rules i (d.Rules.drop i) && (okName d.Name && (decide (1 ≤ d.Rules.length) && decide (d.Rules.length ≤ 12)))) := by
    intro n
    induction n with
    | zero => intro i _ h; omega
    | succ n ih =>
      intro i hi hn
      by_cases hlt : i < d.Rules.length
      · have c1 : decide ((i : Int) < (d.Rules.length : Int)) = true := decide_eq_true (by omega)
        rw [List.drop_eq_getElem_cons hlt]
        simp only [m_s_DefOk_l1, c1, if_true, idx_nat_lt hlt, Option.bind_some, rule_s hN _ (h3 _ (List.getElem_mem hlt)), at_s hN d _ h2, wr1 i (by omega), ih (i + 1) (by omega) (by omega), rulesFrom]
        cases okRule d.Rules[i] <;> cases decide (ruleAt d.Rules d.Rules[i].Name = (i : Int)) <;> simp
      · have c1 : decide ((i : Int) < (d.Rules.length : Int)) = false := decide_eq_false (by omega)
        rw [List.drop_of_length_le (by omega)]
        simp only [m_s_DefOk_l1, c1, Bool.false_eq_true, if_false, okName_s hN _ h1, in0, Option.bind_some, d1, d2, andS, rulesFrom, Bool.true_and]
  have l0 := lp N 0 (by omega) (by omega)
  unfold m_s_DefOk okDef
  rw [show m_s_DefOk_l1 N d N 0 = _ from l0, List.drop_zero]
  cases rulesFrom d.Rules 0 d.Rules <;> simp
theorem okDef_rule {d : TDef} (h : okDef d = true) : ∀ r ∈ d.Rules, okRule r = true := by
  unfold okDef at h
  simp only [Bool.and_eq_true] at h
  have : ∀ (l : List TRule) (i : Nat), rulesFrom d.Rules i l = true → ∀ r ∈ l, okRule r = true := by
    intro l
    induction l with
    | nil => intro i _ r hr; cases hr
    | cons x t ih =>
      intro i hi r hr
      unfold rulesFrom at hi
      simp only [Bool.and_eq_true] at hi
      rcases List.mem_cons.1 hr with rfl | hr
      · exact hi.1
      · exact ih _ hi.2.2 r hr
  exact this _ _ h.2.2
end Go.Proofs.YtjangilipfjcmaaGreat
