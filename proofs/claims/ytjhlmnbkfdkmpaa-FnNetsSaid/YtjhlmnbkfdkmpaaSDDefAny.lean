/- Plain laws: draws: definitions, right or not. -/
import Derived.Test.YtjhlmnbkfdkmpaaSDDef
import Derived.Test.YtjhlmnbkfdkmpaaSDRuleAny
namespace Go.Proofs.Ytjhlmnbkfdkmpaa
open Eng
set_option linter.unusedVariables false
set_option linter.unusedSimpArgs false
theorem defAny_d {N : Nat} (hN : 1099000000000 ≤ N) {b : List Int} (hb : b.length ≤ 1048576) {c : Tl1Cur} (g : GC b c) : Dr b shDef (m_s_l10Any N c) := by
  unfold m_s_l10Any
  refine (def_d hN hb g).bind fun x d gd hx => (below_d hb (gd.at g.1) 10 (by omega)).bind fun v e ge _ => ?_
  obtain ⟨s1, s2, s3⟩ := drDef_sz hx
  have l0 := hx.2.1
  have l1 := hx.2.2.1
  have e0 : idx x.Rules 0 = some (x.Rules[0]'(by omega)) := idx_nat_lt (xs := x.Rules) (i := 0) (by omega)
  have h0 : shRule' (x.Rules[0]'(by omega)) := by
    obtain ⟨nm, h1, h2⟩ := hx.2.2.2 0 _ (List.getElem?_eq_getElem (by omega))
    exact drRule_sh (rNames_sz nm (List.mem_of_getElem? h1)) h2
  refine .ite (fun _ => ?_) fun _ => .ite (fun _ => ?_) fun _ => .ite (fun _ => ?_) fun _ => .ite (fun _ => ?_) fun _ => .ret (ge.at g.1) ⟨s1, s2, s3⟩
  · exact (str_d hb (ge.at g.1) _ (by decide)).bind fun k f gf hk => .ret (gf.at g.1) ⟨(show ∀ s ∈ ([⟨#[]⟩, ⟨#[65]⟩] : List ByteArray), s.size ≤ 16 by decide) _ hk, s2, s3⟩
  · exact (ruleAny_d hN hb (ge.at g.1)).bind fun r f gf hr => .bindO (app_sm (show x.Rules.length ≤ 4194304 by omega) (by simp)) (.ret (gf.at g.1) ⟨s1, by simp; omega, mem_snoc s3 hr⟩)
  · refine .bindO e0 ((bend_d hN hb (ge.at g.1) h0).bind fun r f gf hr => .bindO e0 (.ret (gf.at g.1) ⟨s1, by simpa using s2, fun p hp => ?_⟩))
    rcases List.mem_or_eq_of_mem_set hp with h | h
    · exact s3 p h
    · rw [h]; exact hr
  · exact .bindO (ssl00 x.Rules) (.ret (ge.at g.1) ⟨s1, by simp, by simp⟩)
end Go.Proofs.Ytjhlmnbkfdkmpaa
