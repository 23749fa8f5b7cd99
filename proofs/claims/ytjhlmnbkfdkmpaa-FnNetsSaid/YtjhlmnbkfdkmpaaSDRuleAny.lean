/- Plain laws: draws: rules, right or not. -/
import Derived.Test.YtjhlmnbkfdkmpaaSDRule
import Derived.Test.YtjhlmnbkfdkmpaaSDPatAny
namespace Go.Proofs.Ytjhlmnbkfdkmpaa
open Eng
set_option linter.unusedVariables false
set_option linter.unusedSimpArgs false
theorem condAny_d {N : Nat} {b : List Int} (hb : b.length ≤ 1048576) {c : Tl1Cur} (g : GC b c) : Dr b shCond (m_s_l7Any N c) := by
  unfold m_s_l7Any
  refine (cond_d hb g).bind fun cd d gd hc => (below_d hb (gd.at g.1) 8 (by omega)).bind fun v e ge _ => ?_
  obtain ⟨s1, s2⟩ := drCond_sz hc
  refine .ite (fun _ => ?_) fun _ => .ite (fun _ => ?_) fun _ => .ite (fun _ => ?_) fun _ => .ret (ge.at g.1) ⟨s1, s2⟩
  · exact (below_d hb (ge.at g.1) 6 (by omega)).bind fun k f gf _ => .ret (gf.at g.1) ⟨s1, s2⟩
  · exact (arg_d hb (ge.at g.1)).bind fun k f gf qa => .ret (gf.at g.1) ⟨drArg_sz qa, s2⟩
  · exact (below_d hb (ge.at g.1) 5 (by omega)).bind fun k f gf _ => .ret (gf.at g.1) ⟨s1, Nat.zero_le _, Nat.zero_le _⟩
theorem str3 : ∀ s ∈ ([⟨#[]⟩, ⟨#[65]⟩, ⟨#[120]⟩] : List ByteArray), s.size ≤ 16 := by decide
theorem actAny_d {N : Nat} (hN : 1099000000000 ≤ N) {b : List Int} (hb : b.length ≤ 1048576) {c : Tl1Cur} (g : GC b c) : Dr b shAct (m_s_l8Any N c) := by
  unfold m_s_l8Any
  refine (act_d hN hb g 2).bind fun a d gd ha => (below_d hb (gd.at g.1) 10 (by omega)).bind fun v e ge _ => ?_
  obtain ⟨s1, s2, s3, s4⟩ := actW_sz (fun a h => drArg_sz (drTerm_arg h)) ha
  refine .ite (fun _ => ?_) fun _ => .ite (fun _ => ?_) fun _ => .ite (fun _ => ?_) fun _ => .ite (fun _ => ?_) fun _ => .ite (fun _ => ?_) fun _ => .ret (ge.at g.1) ⟨s1, s2, s3, s4⟩
  · exact (below_d hb (ge.at g.1) 8 (by omega)).bind fun k f gf _ => .ret (gf.at g.1) ⟨s1, s2, s3, s4⟩
  · exact (str_d hb (ge.at g.1) _ (by decide)).bind fun k f gf hk => .ret (gf.at g.1) ⟨str3 _ hk, s2, s3, s4⟩
  · exact (int_d hb (ge.at g.1) _ (by decide)).bind fun k f gf hk => .ret (gf.at g.1) ⟨s1, s2, s3, s4⟩
  · exact (str_d hb (ge.at g.1) _ (by decide)).bind fun k f gf hk => .ret (gf.at g.1) ⟨s1, s2, s3, str3 _ hk⟩
  · refine (str_d hb (ge.at g.1) _ (by decide)).bind fun k f gf hk => (arg_d hb (gf.at g.1)).bind fun l f1 g1 ql => (arg_d hb (g1.at g.1)).bind fun r f2 g2 qr => .bindO (app_sm (show a.Args.length ≤ 4194304 by omega) (by simp)) (.ret (g2.at g.1) ⟨s1, ?_, mem_snoc s3 ⟨?_, drArg_sz ql, drArg_sz qr⟩, s4⟩)
    · have := ha.1; simp; omega
    · exact (show ∀ s ∈ ([⟨#[]⟩, ⟨#[42]⟩] : List ByteArray), s.size ≤ 16 by decide) _ hk
/-- Rows a bit shorter than what is asked of their sizes. -/
def shRule' (r : TRule) : Prop := shRule r ∧ 1 ≤ r.Pats.length ∧ r.Pats.length ≤ 15 ∧ r.Conds.length ≤ 15 ∧ r.Acts.length ≤ 15
theorem ssl00 {α : Type} (l : List α) : ssl l 0 0 = some [] := by
  unfold ssl
  simp
theorem bend_d {N : Nat} (hN : 1099000000000 ≤ N) {b : List Int} (hb : b.length ≤ 1048576) {c : Tl1Cur} (g : GC b c) {r : TRule} (hr : shRule' r) : Dr b shRule (m_s_l9Bend N c r) := by
  obtain ⟨⟨s1, ⟨s2, s2'⟩, ⟨s3, s3'⟩, s4, s4'⟩, l0, l1, l2, l3⟩ := hr
  unfold m_s_l9Bend
  refine .bindO (app_nil (show r.Pats.length ≤ 4294967296 by omega)) ((below_d hb g 10 (by omega)).bind fun v e ge _ => ?_)
  refine .ite (fun _ => ?_) fun _ => .ite (fun _ => ?_) fun _ => .ite (fun _ => ?_) fun _ => .ite (fun _ => ?_) fun _ => .ite (fun _ => ?_) fun _ => .ite (fun _ => ?_) fun _ => .ite (fun _ => ?_) fun _ => .ret (ge.at g.1) ⟨s1, ⟨s2, s2'⟩, ⟨s3, s3'⟩, s4, s4'⟩
  · exact (str_d hb (ge.at g.1) _ (by decide)).bind fun k f gf hk => .ret (gf.at g.1) ⟨str3 _ hk, ⟨s2, s2'⟩, ⟨s3, s3'⟩, s4, s4'⟩
  · exact (int_d hb (ge.at g.1) _ (by decide)).bind fun k f gf hk => .ret (gf.at g.1) ⟨s1, ⟨s2, s2'⟩, ⟨s3, s3'⟩, s4, s4'⟩
  · exact (patAny_d hN hb (ge.at g.1)).bind fun p f gf hp => .bindO (app_sm (by omega) (by simp)) (.ret (gf.at g.1) ⟨s1, ⟨by simp; omega, mem_snoc s2' hp⟩, ⟨s3, s3'⟩, s4, s4'⟩)
  · exact .bindO (app_nil (show r.Conds.length ≤ 4294967296 by omega)) ((condAny_d hb (ge.at g.1)).bind fun p f gf hp => .bindO (app_sm (by omega) (by simp)) (.ret (gf.at g.1) ⟨s1, ⟨s2, s2'⟩, ⟨by simp; omega, mem_snoc s3' hp⟩, s4, s4'⟩))
  · exact .bindO (app_nil (show r.Acts.length ≤ 4294967296 by omega)) ((actAny_d hN hb (ge.at g.1)).bind fun p f gf hp => .bindO (app_sm (by omega) (by simp)) (.ret (gf.at g.1) ⟨s1, ⟨s2, s2'⟩, ⟨s3, s3'⟩, by simp; omega, mem_snoc s4' hp⟩))
  · have e0 : idx r.Pats 0 = some (r.Pats[0]'(by omega)) := idx_nat_lt (xs := r.Pats) (i := 0) (by omega)
    have h0 := s2' r.Pats[0] (List.getElem_mem _)
    refine .bindO e0 (.ret (ge.at g.1) ⟨s1, ⟨by simpa using s2, fun p hp => ?_⟩, ⟨s3, s3'⟩, s4, s4'⟩)
    rcases List.mem_or_eq_of_mem_set hp with h | h
    · exact s2' p h
    · rw [h]; exact h0
  · exact .bindO (ssl00 r.Acts) (.ret (ge.at g.1) ⟨s1, ⟨s2, s2'⟩, ⟨s3, s3'⟩, by simp, by simp⟩)
theorem drRule_sh {nm : ByteArray} {r : TRule} (hn : nm.size ≤ 16) (h : drRule nm r) : shRule' r := by
  have h1 := drRule_sz hn h
  have h2 := drPats_len h.2.2.1
  have h3 := h.2.2.2.1.1
  have h4 := h.2.2.2.2.2.1
  exact ⟨h1, by omega, by omega, by omega, by omega⟩
theorem ruleAny_d {N : Nat} (hN : 1099000000000 ≤ N) {b : List Int} (hb : b.length ≤ 1048576) {c : Tl1Cur} (g : GC b c) : Dr b shRule (m_s_l9Any N c) := by
  unfold m_s_l9Any
  refine (str_d hb g _ (by decide)).bind fun nm d0 g0 hnm => (rule_d hN hb (g0.at g.1) nm).bind fun r d gd hr => (once_d hb (gd.at g.1) 3).bind fun v e ge _ => ?_
  have h1 := drRule_sh ((show ∀ s ∈ ([⟨#[114, 49]⟩, ⟨#[114, 50]⟩, ⟨#[115, 104, 105, 112]⟩] : List ByteArray), s.size ≤ 16 by decide) _ hnm) hr
  refine .ite (fun _ => ?_) fun _ => .ret (ge.at g.1) h1.1
  exact (bend_d hN hb (ge.at g.1) h1).bind fun q f gf hq => .ret (gf.at g.1) hq
end Go.Proofs.Ytjhlmnbkfdkmpaa
