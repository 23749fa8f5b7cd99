/- Plain law: the core of NetOf. -/
import Derived.Test.YtjangilipfjcmaaGreatSNetOfI
import Derived.Test.YtjangilipfjcmaaGreatSNetS
import Derived.Test.YtjangilipfjcmaaGreatSNetAt
import Derived.Test.YtjangilipfjcmaaGreatSDefOk
namespace Go.Proofs.YtjangilipfjcmaaGreat
open Eng
set_option linter.unusedVariables false
set_option linter.unusedSimpArgs false
theorem sumle {α : Type} {f : α → Int} {B : Int} : ∀ (l : List α), (∀ x ∈ l, f x ≤ B) → (l.map f).sum ≤ (l.length : Int) * B
  | [], _ => by simp
  | x :: t, h => by
    have h1 := sumle t fun y hy => h y (by simp [hy])
    have h2 := h x (by simp)
    simp only [List.map_cons, List.sum_cons, List.length_cons]
    have : ((t.length + 1 : Nat) : Int) * B = (t.length : Int) * B + B := by rw [Int.natCast_add, Int.add_mul]; simp
    omega
theorem consts_tot : ∀ (l : List TArg), ((consts l).map totTVal).sum ≤ (l.map totTArg).sum
  | [] => by simp [consts]
  | a :: t => by
    have h1 := consts_tot t
    have h2 : 0 ≤ totTArg a ∧ totTVal a.V ≤ totTArg a := ⟨totTArg_nn a, by unfold totTArg; omega⟩
    unfold consts
    split
    · simp only [List.map_cons, List.sum_cons]; omega
    · simp only [List.map_cons, List.sum_cons]; omega
theorem netOf_tot {d : TDef} (hd : okDef d = true) (h : totTDef d ≤ 1048576) : LimTNet (netOf d) ∧ totTNet (netOf d) ≤ 1125899906842624 := by
  have hz := okDef_net hd
  obtain ⟨h1, h2, h3⟩ := netOf_at hz
  obtain ⟨⟨s1, s2⟩, s3, s4⟩ := netOf_sz hz
  unfold totTDef at h
  have n1 : ∀ y ∈ d.Rules, 0 ≤ totTRule y := fun y _ => totTRule_nn y
  have q1 := sum_nonneg _ _ n1
  have hr : ∀ r ∈ d.Rules, ∀ p ∈ r.Pats, totTPat p ≤ 1048576 := fun r hr p hp => by
    have a0 := sum_mem _ _ n1 r hr
    have a1 : totTRule r ≤ 1048576 := by omega
    unfold totTRule at a1
    have n2 : ∀ y ∈ r.Pats, 0 ≤ totTPat y := fun y _ => totTPat_nn y
    have := sum_nonneg totTCond r.Conds (fun y _ => totTCond_nn y)
    have := sum_nonneg totTAct r.Acts (fun y _ => totTAct_nn y)
    have := sum_mem _ _ n2 p hp
    omega
  have ha : ∀ a ∈ (netOf d).Alphas, totTAlpha a ≤ 4194304 := addRules_all d.Rules [] [] (by simp) fun r hr' p hp => by
    have a1 := hr r hr' p hp
    unfold totTPat at a1
    have a2 := consts_tot p.Args
    have a3 := consts_len p.Args
    have a4 := ats_len p.Args 0
    have a5 := sum_nonneg totTArg p.Args (fun y _ => totTArg_nn y)
    show totTAlpha ⟨p.Kind, (p.Args.length : Int), consts p.Args, ats 0 p.Args⟩ ≤ 4194304
    unfold totTAlpha
    simp only
    omega
  have hc : ∀ c ∈ (netOf d).Chains, totTChain c ≤ 2097152 := fun c hc => by
    have := s4 c hc
    unfold totTChain
    omega
  have t1 := sumle (f := totTAlpha) (B := 4194304) _ ha
  have t2 := sumle (f := totTChain) (B := 2097152) _ hc
  unfold LimTNet totTNet
  refine ⟨⟨⟨by omega, fun a ha => ?_⟩, by omega, fun c hc => ?_⟩, by omega⟩
  · have := s2 a ha
    unfold LimTAlpha
    unfold SzAlpha at this
    omega
  · have := s4 c hc
    unfold LimTChain
    omega
theorem c_NetOf {N : Nat} (hN : 1099000000000 ≤ N) (d : TDef) (h : totTDef d ≤ 1048576) : ∃ r, m_s_NetOf N d = some r ∧ m_i_NetOf N d = some r ∧ LimTNet r ∧ totTNet r ≤ 1125899906842624 := by
  have hz := szDef_of d h
  refine ⟨_, ?_, netOf_i hN d hz, ?_⟩
  · unfold m_s_NetOf
    rw [def_s hN d hz, Option.bind_some]
    cases hd : okDef d with
    | false => simp
    | true => simp [net_s hN d (okDef_net hd)]
  · cases hd : okDef d with
    | false =>
      simp only [Bool.false_eq_true, if_false]
      exact ⟨by unfold LimTNet; simp, by unfold totTNet; simp⟩
    | true =>
      simp only [if_true]
      exact netOf_tot hd h
end Go.Proofs.YtjangilipfjcmaaGreat
