/- Plain laws: draws: definitions. -/
import Derived.Test.YtjhlmnbkfdkmpaaSDRule
namespace Go.Proofs.Ytjhlmnbkfdkmpaa
open Eng
set_option linter.unusedVariables false
set_option linter.unusedSimpArgs false
def shDef (d : TDef) : Prop := d.Name.size ≤ 16 ∧ d.Rules.length ≤ 16 ∧ ∀ r ∈ d.Rules, shRule r
def rNames : List ByteArray := [⟨#[114, 49]⟩, ⟨#[114, 50]⟩, ⟨#[114, 51]⟩, ⟨#[114, 52]⟩]
/-- A drawn definition: its rules are drawn ones with these names, in order. -/
def drDef (d : TDef) : Prop := d.Name ∈ ([⟨#[102, 108, 111, 119]⟩, ⟨#[115, 104, 105, 112]⟩, ⟨#[120]⟩] : List ByteArray) ∧ 1 ≤ d.Rules.length ∧ d.Rules.length ≤ 4 ∧ ∀ (i : Nat) (r : TRule), d.Rules[i]? = some r → ∃ nm, rNames[i]? = some nm ∧ drRule nm r
theorem rNames_sz : ∀ s ∈ rNames, s.size ≤ 16 := by decide
theorem drDef_sz {d : TDef} (h : drDef d) : shDef d := by
  obtain ⟨h1, h2, h3, h4⟩ := h
  refine ⟨(show ∀ s ∈ ([⟨#[102, 108, 111, 119]⟩, ⟨#[115, 104, 105, 112]⟩, ⟨#[120]⟩] : List ByteArray), s.size ≤ 16 by decide) _ h1, by omega, fun r hr => ?_⟩
  obtain ⟨i, hi, e⟩ := List.getElem_of_mem hr
  obtain ⟨nm, e1, e2⟩ := h4 i r (by rw [List.getElem?_eq_getElem hi, e])
  exact drRule_sz (rNames_sz nm (List.mem_of_getElem? e1)) e2
theorem def_d {N : Nat} (hN : 1099000000000 ≤ N) {b : List Int} (hb : b.length ≤ 1048576) {c : Tl1Cur} (g : GC b c) : Dr b drDef (m_s_l10Draw N c) := by
  unfold m_s_l10Draw
  refine (str_d hb g _ (by decide)).bind fun nm d gd hnm => ?_
  have lp : ∀ (n i : Nat) (s : List TRule) (x h : Int), i ≤ 4 → 4 - i < n → s.length = i → (∀ (j : Nat) (r : TRule), s[j]? = some r → ∃ nm, rNames[j]? = some nm ∧ drRule nm r) → GC b ⟨c.b, x, h⟩ → Dr b drDef (m_s_l10Draw_l1 N c (nm, d) n s (i : Int) x h) := by
    intro n
    induction n with
    | zero => intro i _ _ _ _ h; omega
    | succ n ih =>
      intro i s x h hi hn hs hr gx
      simp only [m_s_l10Draw_l1]
      refine (below_d hb gx 4 (by omega)).bind fun v e ge q => ?_
      dsimp only
      rw [wr (show -9223372036854775808 ≤ 1 + v by omega) (by omega)]
      by_cases h1 : (i : Int) < 1 + v ∧ i < 4
      · have e1 : decide ((i : Int) < 1 + v) = true := decide_eq_true h1.1
        have e2 : decide ((i : Int) < 4) = true := decide_eq_true (by omega)
        have e3 : idx rNames (i : Int) = some (rNames[i]'(by unfold rNames; simp; omega)) := idx_nat_lt (by unfold rNames; simp; omega)
        simp only [e1, e2, if_true, Option.bind_some]
        refine .bindO e3 ((rule_d hN hb (ge.at (c := ⟨c.b, x, h⟩) gx.1) _).bind fun r f gf qr => .bindO (app_sm (by omega) (by simp)) ?_)
        rw [wr1 i (by omega)]
        refine ih (i + 1) _ _ _ (by omega) (by omega) (by simp; omega) ?_ (gf.at (c := ⟨c.b, x, h⟩) gx.1)
        intro j r' hj
        by_cases hji : j < s.length
        · rw [List.getElem?_append_left hji] at hj; exact hr j r' hj
        · rw [List.getElem?_append_right (by omega)] at hj
          have : j = i := by
            have := (List.getElem?_eq_some_iff.1 hj).1
            simp at this; omega
          subst this
          have h0 : j - s.length = 0 := by omega
          rw [h0] at hj
          simp at hj
          subst hj
          exact ⟨_, List.getElem?_eq_getElem _, qr⟩
      · have e1 : (if decide ((i : Int) < 1 + v) = true then some (decide ((i : Int) < 4)) else some false) = some false := by
          by_cases h2 : (i : Int) < 1 + v
          · have h3 : ¬ (i : Int) < 4 := by omega
            simp [h2, h3]
          · simp [h2]
        rw [e1, Option.bind_some]
        simp only [Bool.false_eq_true, if_false]
        exact .ret (ge.at (c := ⟨c.b, x, h⟩) gx.1) ⟨hnm, by dsimp only; omega, by dsimp only; omega, hr⟩
  exact lp N 0 [] _ _ (by omega) (by omega) rfl (by simp) (gd.at g.1)
end Go.Proofs.Ytjhlmnbkfdkmpaa
