/- Plain law: the core of NetOk. -/
import Derived.Test.YtjangilipfjcmaaGreatSNetOk
import Derived.Test.YtjangilipfjcmaaGreatSNetS
import Derived.Test.YtjangilipfjcmaaGreatSDefOk
namespace Go.Proofs.YtjangilipfjcmaaGreat
open Eng
set_option linter.unusedVariables false
set_option linter.unusedSimpArgs false
theorem sameN_s {N : Nat} (hN : 1099000000000 ≤ N) (x y : TNet) (hx : SzNet x) : m_s_l12Same N x y = some (decide (x = y)) := by
  obtain ⟨⟨h1, h2⟩, h3, h4⟩ := hx
  have dec : decide (x = y) = (decide (x.Alphas = y.Alphas) && decide (x.Chains = y.Chains)) := by
    obtain ⟨a, b⟩ := x; obtain ⟨c, d⟩ := y
    simp only [TNet.mk.injEq, Bool.decide_and]
  unfold m_s_l12Same
  by_cases ha : x.Alphas.length = y.Alphas.length
  · by_cases hc : x.Chains.length = y.Chains.length
    · have c1 : decide ((x.Alphas.length : Int) = (y.Alphas.length : Int)) = true := decide_eq_true (by omega)
      have c2 : decide ((x.Chains.length : Int) = (y.Chains.length : Int)) = true := decide_eq_true (by omega)
      have l2 : m_s_l12Same_l2 N x y N 0 = some (decide (x.Chains = y.Chains)) := by
        have := eqloop (m_s_l12Same_l2 N x y) x.Chains y.Chains hc (by omega) (fun a b => some (decide (a = b))) (fun a _ b _ => rfl) (fun k i => ?_) N 0 (by omega) (by omega)
        · simpa using this
        · simp only [m_s_l12Same_l2]
          by_cases hi : i < (x.Chains.length : Int)
          · rw [decide_eq_true hi]
            simp only [if_true]
            cases hxi : idx x.Chains i with
            | none => rfl
            | some c =>
              cases hyi : idx y.Chains i with
              | none => rfl
              | some e =>
                obtain ⟨_, _, hm⟩ := idx_some hxi
                have hcm := h4 c (List.mem_of_getElem? hm)
                simp only [Option.bind_some, sameIs hN c.Pos e.Pos (by omega), sameIs hN c.Neg e.Neg (by omega)]
                obtain ⟨c1, c2⟩ := c; obtain ⟨e1, e2⟩ := e
                simp only [TChain.mk.injEq]
                by_cases q1 : c1 = e1 <;> by_cases q2 : c2 = e2 <;> simp [q1, q2]
          · rw [decide_eq_false hi]; simp only [Bool.false_eq_true, if_false]
      have l1 : m_s_l12Same_l1 N x y N 0 = some (decide (x.Alphas = y.Alphas) && decide (x.Chains = y.Chains)) := by
        have : ∀ (n i : Nat), i ≤ x.Alphas.length → x.Alphas.length - i < n → m_s_l12Same_l1 N x y n i = some (decide (x.Alphas.drop i = y.Alphas.drop i) && decide (x.Chains = y.Chains)) := by
          intro n
          induction n with
          | zero => intro i _ h; omega
          | succ n ih =>
            intro i hi hn
            by_cases hlt : i < x.Alphas.length
            · have c3 : decide ((i : Int) < (x.Alphas.length : Int)) = true := decide_eq_true (by omega)
              have hlt' : i < y.Alphas.length := by omega
              rw [List.drop_eq_getElem_cons hlt, List.drop_eq_getElem_cons hlt']
              simp only [m_s_l12Same_l1, c3, if_true, idx_nat_lt hlt, idx_nat_lt hlt', Option.bind_some, sameA_s hN _ _ (h2 _ (List.getElem_mem hlt)), wr1 i (by omega), ih (i + 1) (by omega) (by omega), List.cons.injEq]
              by_cases q : x.Alphas[i] = y.Alphas[i] <;> simp [q]
            · have c3 : decide ((i : Int) < (x.Alphas.length : Int)) = false := decide_eq_false (by omega)
              rw [List.drop_of_length_le (by omega), List.drop_of_length_le (by omega)]
              simp only [m_s_l12Same_l1, c3, Bool.false_eq_true, if_false, l2, decide_true, Bool.true_and]
        have := this N 0 (by omega) (by omega)
        simpa using this
      rw [c1, c2, dec]
      simp only [Bool.not_true, Bool.false_eq_true, if_false, Option.bind_some, l1]
    · have c1 : decide ((x.Alphas.length : Int) = (y.Alphas.length : Int)) = true := decide_eq_true (by omega)
      have c2 : decide ((x.Chains.length : Int) = (y.Chains.length : Int)) = false := decide_eq_false (by omega)
      have : ¬ x.Chains = y.Chains := fun e => hc (by rw [e])
      rw [c1, c2, dec, decide_eq_false this]
      simp
  · have c1 : decide ((x.Alphas.length : Int) = (y.Alphas.length : Int)) = false := decide_eq_false (by omega)
    have : ¬ x.Alphas = y.Alphas := fun e => ha (by rw [e])
    rw [c1, dec, decide_eq_false this]
    simp
theorem szNet_of (n : TNet) (h : totTNet n ≤ 1048576) : SzNet n := by
  unfold totTNet at h
  have n1 : ∀ y ∈ n.Alphas, 0 ≤ totTAlpha y := fun y _ => totTAlpha_nn y
  have n2 : ∀ y ∈ n.Chains, 0 ≤ totTChain y := fun y _ => totTChain_nn y
  have s1 := sum_nonneg _ _ n1
  have s2 := sum_nonneg _ _ n2
  refine ⟨⟨by omega, fun a ha => ?_⟩, by omega, fun c hc => ?_⟩
  · have h0 := sum_mem _ _ n1 a ha
    have h1 : totTAlpha a ≤ 1048576 := by omega
    unfold totTAlpha at h1
    have := sum_nonneg totTVal a.Consts (fun y _ => totTVal_nn y)
    unfold SzAlpha
    omega
  · have h0 := sum_mem _ _ n2 c hc
    have h1 : totTChain c ≤ 1048576 := by omega
    unfold totTChain at h1
    omega
theorem c_NetOk {N : Nat} (hN : 1099000000000 ≤ N) (n : TNet) (d : TDef) (hn : totTNet n ≤ 1048576) (h : totTDef d ≤ 1048576) : ∃ b, m_s_NetOk N n d = some b ∧ m_i_NetOk N n d = some b := by
  have hz := szDef_of d h
  have hs := szNet_of n hn
  refine ⟨_, ?_, netOk_i hN n d hz hs⟩
  unfold m_s_NetOk
  rw [def_s hN d hz, Option.bind_some]
  cases hd : okDef d with
  | false => simp
  | true => simp [net_s hN d (okDef_net hd), sameN_s hN n _ hs]
end Go.Proofs.YtjangilipfjcmaaGreat
