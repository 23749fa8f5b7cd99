/- Plain law of FnNets: the network of a drawn definition. -/
import Derived.Test.YtjhlmnbkfdkmpaaSNetOk
import Derived.Test.YtjhlmnbkfdkmpaaSDSz
namespace Go.Proofs.Ytjhlmnbkfdkmpaa
open Eng
set_option linter.unusedVariables false
set_option linter.unusedSimpArgs false

theorem nets4 {N : Nat} (hN : 1099000000000 ≤ N) {d : TDef} (hd : okDef d = true) (hz : SzNetD d.Rules) (n : TNet) (hn : n = netOf d) (i : Nat) (hi : i < d.Rules.length) (hc : i < n.Chains.length) (K : Int → Option Bool) (hK : K ((i + 1 : Nat) : Int) = some true) :
    ∀ (m k : Nat), k ≤ posCount d.Rules[i].Pats → posCount d.Rules[i].Pats - k < m → m_l_FnNets_l4 N d n (i : Int) K n.Chains[i] (posCount d.Rules[i].Pats : Int) m (k : Int) = some true := by
  obtain ⟨a1, a2, a3⟩ := netOf_at hz
  have hr := okDef_rule hd _ (List.getElem_mem hi)
  have hp : okPats d.Rules[i].Pats = true := by
    unfold okRule at hr
    simp only [Bool.and_eq_true] at hr
    exact hr.2.2.1
  have hf := okPats_filt hp
  have hat := (a2.get i (by rw [← hn]; exact hc) hi).1
  rw [hf] at hat
  have hple := posCount_le d.Rules[i].Pats
  have hl := hat.len
  rw [List.length_take, Nat.min_eq_left hple] at hl
  have hpm := nPats_mem (List.getElem_mem hi)
  have hz2 := hz.2.1
  intro m
  induction m with
  | zero => intro k _ h; omega
  | succ m ih =>
    intro k hk hm
    simp only [m_l_FnNets_l4]
    by_cases hlt : k < posCount d.Rules[i].Pats
    · have c1 : decide ((k : Int) < (posCount d.Rules[i].Pats : Int)) = true := decide_eq_true (by omega)
      subst hn
      have e1 := hat.get k (by omega) (by rw [List.length_take]; omega)
      rw [List.getElem_take] at e1
      have hs := hz.2.2 _ (List.getElem_mem hi) _ (List.getElem_mem (show k < d.Rules[i].Pats.length by omega))
      simp only [c1, if_true, idx_nat_lt (show k < (netOf d).Chains[i].Pos.length by omega), Option.bind_some, e1, idx_nat_lt hi, idx_nat_lt (show k < d.Rules[i].Pats.length by omega), alpha_i hN _ hs, sameA_i hN _ _ (alphaOf_sz hs), decide_true, Bool.not_true, Bool.false_eq_true, if_false, wr1 k (by omega)]
      exact ih (k + 1) (by omega) (by omega)
    · have c1 : decide ((k : Int) < (posCount d.Rules[i].Pats : Int)) = false := decide_eq_false (by omega)
      simp only [c1, Bool.false_eq_true, if_false, wr1 i (by have := hz.1; omega)]
      exact hK
theorem nets3 {N : Nat} (hN : 1099000000000 ≤ N) {d : TDef} (hd : okDef d = true) (hz : SzNetD d.Rules) (n : TNet) (hn : n = netOf d) : m_l_FnNets_l3 N d n N 0 = some true := by
  obtain ⟨a1, a2, a3⟩ := netOf_at hz
  have hz1 := hz.1
  have hz2 := hz.2.1
  refine lp0 hN d.Rules (by omega) (m_l_FnNets_l3 N d n) (fun _ => some true) (fun k i r t h1 h2 h3 h4 h5 h6 h7 => ?_) (fun k i h1 h2 => ?_)
  · have hc : i < n.Chains.length := by rw [hn, a2.len]; exact h3
    have he : d.Rules[i] = r := by rw [idx_nat_lt h3] at h4; exact Option.some.inj h4
    have hat := a2.get i (by rw [← hn]; exact hc) h3
    have hl1 := hat.1.len
    have hl2 := hat.2.len
    rw [filt_count] at hl1
    have hs := filt_len d.Rules[i].Pats
    rw [filt_count] at hs
    have hpm := nPats_mem (List.getElem_mem h3)
    have hpl : r.Pats.length ≤ 1048576 := by rw [← he]; omega
    have e1 : n.Chains[i].Pos.length = posCount r.Pats := by subst hn; rw [← he]; exact hl1
    have e2 : IntKind.i64.wrap ((n.Chains[i].Pos.length : Int) + (n.Chains[i].Neg.length : Int)) = (r.Pats.length : Int) := by
      have : n.Chains[i].Neg.length = (d.Rules[i].Pats.filter fun x => x.Not).length := by subst hn; exact hl2
      rw [he] at this hs
      rw [wr (by omega) (by omega)]; omega
    simp only [m_l_FnNets_l3, h5, if_true, idx_nat_lt hc, h4, Option.bind_some, count_i hN r hpl, e1, e2, decide_true, Bool.not_true, Bool.false_eq_true, if_false]
    rw [e1] at e2
    simp only [e2, decide_true, Bool.not_true, Bool.false_eq_true, if_false]
    have := nets4 hN hd hz n hn i h3 hc (m_l_FnNets_l3 N d n k) h7 N 0 (by omega) (by rw [he]; have := posCount_le r.Pats; omega)
    rw [he] at this
    exact this
  · simp only [m_l_FnNets_l3, h2, Bool.false_eq_true, if_false]
theorem nets1 {N : Nat} (hN : 1099000000000 ≤ N) {d : TDef} (hd : okDef d = true) (hz : SzNetD d.Rules) (n : TNet) (hn : n = netOf d) : m_l_FnNets_l1 N d n N 0 = some true := by
  obtain ⟨a1, a2, a3⟩ := netOf_at hz
  have hsz := netOf_sz hz
  rw [← hn] at a1 hsz
  have hz1 := hsz.1.1
  refine lp0 hN n.Alphas (by omega) (m_l_FnNets_l1 N d n) (fun _ => some true) (fun k i a t h1 h2 h3 h4 h5 h6 h7 => ?_) (fun k i h1 h2 => ?_)
  · simp only [m_l_FnNets_l1, h5, if_true]
    have lp2 : ∀ (m j : Nat), j ≤ i → i - j < m → m_l_FnNets_l2 N n (i : Int) (m_l_FnNets_l1 N d n k) m (j : Int) = some true := by
      intro m
      induction m with
      | zero => intro j _ h; omega
      | succ m ih =>
        intro j hj hm
        simp only [m_l_FnNets_l2]
        by_cases hlt : j < i
        · have c1 : decide ((j : Int) < (i : Int)) = true := decide_eq_true (by omega)
          have hne : ¬ n.Alphas[i] = n.Alphas[j] := fun e => by
            have := (List.getElem_inj a1).1 e; omega
          simp only [c1, if_true, idx_nat_lt h3, idx_nat_lt (show j < n.Alphas.length by omega), Option.bind_some, sameA_i hN _ _ (hsz.1.2 _ (List.getElem_mem h3)), hne, decide_false, Bool.false_eq_true, if_false, wr1 j (by omega)]
          exact ih (j + 1) (by omega) (by omega)
        · have c1 : decide ((j : Int) < (i : Int)) = false := decide_eq_false (by omega)
          simp only [c1, Bool.false_eq_true, if_false, h6]
          exact h7
    exact lp2 N 0 (by omega) (by omega)
  · simp only [m_l_FnNets_l1, h2, Bool.false_eq_true, if_false]
    exact nets3 hN hd hz n hn
theorem law_FnNets {N : Nat} (hN : 1099000000000 ≤ N) (b : List Int) : m_l_FnNets N b = some true := by
  unfold m_l_FnNets m_l_big
  by_cases hb : b.length ≤ 1048576
  · have c1 : decide (1048576 < (b.length : Int)) = false := decide_eq_false (by omega)
    obtain ⟨c, e0, g0⟩ := new_ok hN b hb
    obtain ⟨d, c', e1, g1, hd⟩ := defAny_d hN hb g0
    have hz := shDef_Sz hd
    have ed : m_s_DrawNetOf N b = some d := by unfold m_s_DrawNetOf; rw [e0, Option.bind_some, e1]; rfl
    simp only [c1, Option.bind_some, Bool.false_eq_true, if_false, ed, netOf_i hN d hz, def_s hN d hz]
    cases ho : okDef d with
    | false =>
      have hk := netOk_i hN ⟨[], []⟩ d hz ⟨⟨by simp, by simp⟩, by simp, by simp⟩
      rw [ho] at hk
      simp [hk]
    | true =>
      have hnd := okDef_net ho
      obtain ⟨a1, a2, a3⟩ := netOf_at hnd
      have hk := netOk_i hN (netOf d) d hz (netOf_sz hnd)
      rw [ho] at hk
      have hl : ((netOf d).Chains.length : Int) = (d.Rules.length : Int) := by rw [a2.len]
      simp only [Bool.not_true, Bool.false_eq_true, if_false, if_true, hl, decide_true, hk, Option.bind_some, Bool.and_self]
      exact nets1 hN ho hnd _ rfl
  · have c1 : decide (1048576 < (b.length : Int)) = true := decide_eq_true (by omega)
    simp only [c1, Option.bind_some, if_true]
namespace fnNets
theorem law {x0 : List Int} (w0 : (WfL (WfI .u8)) x0) : m_l_FnNets 1099511627776 x0 = some true := law_FnNets (by omega) x0
end fnNets
end Go.Proofs.Ytjhlmnbkfdkmpaa
