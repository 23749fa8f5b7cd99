/- Plain law: the core of MemNew. -/
import Derived.Test.YtjhlmnbkfdkmpaaCL
import Derived.Test.YtjhlmnbkfdkmpaaWExactMemNewPur
namespace Go.Proofs.Ytjhlmnbkfdkmpaa
open Eng
set_option linter.unusedVariables false
set_option linter.unusedSimpArgs false

def rowOf (c : TChain) : TRow := ⟨List.replicate c.Pos.length ⟨[]⟩⟩
theorem mem_l3 {N : Nat} (p : TNet) (s3 : List TRow) (s4 : Nat) (K : List TRow → Int → Option TMem) (h4 : s4 < p.Chains.length) (hl : p.Chains[s4].Pos.length ≤ 1048576) (hs : s3.length ≤ s4) (hc : p.Chains.length ≤ 1048576) : ∀ (n i : Nat), i ≤ p.Chains[s4].Pos.length → p.Chains[s4].Pos.length - i < n →
    m_s_MemNew_l3 N p s3 s4 K n (List.replicate i ⟨[]⟩) i = K (s3 ++ [rowOf p.Chains[s4]]) ((s4 + 1 : Nat) : Int) := by
  intro n
  induction n with
  | zero => intro i _ h; omega
  | succ n ih =>
    intro i hi hn
    simp only [m_s_MemNew_l3, idx_nat_lt h4, Option.bind_some]
    by_cases hlt : i < p.Chains[s4].Pos.length
    · have c1 : decide ((i : Int) < (p.Chains[s4].Pos.length : Int)) = true := decide_eq_true (by omega)
      simp only [c1, if_true, app_ok (show (List.replicate i (⟨[]⟩ : TLevel)).length + [(⟨[]⟩ : TLevel)].length ≤ 4294967296 by simp; omega), Option.bind_some, wr1 i (by omega)]
      have := ih (i + 1) (by omega) (by omega)
      rw [List.replicate_succ'] at this
      exact this
    · have c1 : decide ((i : Int) < (p.Chains[s4].Pos.length : Int)) = false := decide_eq_false (by omega)
      have hi' : i = p.Chains[s4].Pos.length := by omega
      simp only [c1, Bool.false_eq_true, if_false, app_ok (show s3.length + [(⟨List.replicate i ⟨[]⟩⟩ : TRow)].length ≤ 4294967296 by simp; omega), Option.bind_some, wr1 s4 (by omega)]
      rw [hi']; rfl
theorem mem_l2 {N : Nat} (hN : 1099511627776 ≤ N) (p : TNet) (as : List TIds) (hc : p.Chains.length ≤ 1048576) (hp : ∀ c ∈ p.Chains, c.Pos.length ≤ 1048576) : ∀ (n i : Nat), i ≤ p.Chains.length → p.Chains.length - i < n →
    m_s_MemNew_l2 N p as n ((p.Chains.take i).map rowOf) i = some ⟨as, p.Chains.map rowOf⟩ ∧ m_i_MemNew_l1 N p as n ((p.Chains.take i).map rowOf) i = some ⟨as, p.Chains.map rowOf⟩ := by
  intro n
  induction n with
  | zero => intro i _ h; omega
  | succ n ih =>
    intro i hi hn
    simp only [m_s_MemNew_l2, m_i_MemNew_l1]
    by_cases hlt : i < p.Chains.length
    · have c1 : decide ((i : Int) < (p.Chains.length : Int)) = true := decide_eq_true (by omega)
      have hm := hp _ (List.getElem_mem hlt)
      have hlen : ((p.Chains.take i).map rowOf).length = i := by simp; omega
      have := mem_l3 (N := N) p ((p.Chains.take i).map rowOf) i (m_s_MemNew_l2 N p as n) hlt hm (by omega) hc N 0 (by omega) (by omega)
      have ih1 := ih (i + 1) (by omega) (by omega)
      have ht : (p.Chains.take (i + 1)).map rowOf = (p.Chains.take i).map rowOf ++ [rowOf p.Chains[i]] := by
        rw [List.take_succ_eq_append_getElem hlt, List.map_append]; rfl
      rw [ht] at ih1
      refine ⟨?_, ?_⟩
      · simp only [c1, if_true]; rw [← ih1.1]; exact this
      · simp only [c1, if_true, idx_nat_lt hlt, Option.bind_some, mk_nat _ (show p.Chains[i].Pos.length ≤ 4294967296 by omega), wr1 i (by omega)]
        rw [app_ok (by simp; omega), Option.bind_some]
        exact ih1.2
    · have c1 : decide ((i : Int) < (p.Chains.length : Int)) = false := decide_eq_false (by omega)
      simp only [c1, Bool.false_eq_true, if_false]
      rw [List.take_of_length_le (by omega)]
      exact ⟨rfl, rfl⟩
theorem mem_l1 {N : Nat} (p : TNet) (ha : p.Alphas.length ≤ 1048576) : ∀ (n i : Nat), i ≤ p.Alphas.length → p.Alphas.length - i < n →
    m_s_MemNew_l1 N p n (List.replicate i ⟨[]⟩) i = m_s_MemNew_l2 N p (List.replicate p.Alphas.length ⟨[]⟩) N [] 0 := by
  intro n
  induction n with
  | zero => intro i _ h; omega
  | succ n ih =>
    intro i hi hn
    simp only [m_s_MemNew_l1]
    by_cases hlt : i < p.Alphas.length
    · have c1 : decide ((i : Int) < (p.Alphas.length : Int)) = true := decide_eq_true (by omega)
      simp only [c1, if_true, app_ok (show (List.replicate i (⟨[]⟩ : TIds)).length + [(⟨[]⟩ : TIds)].length ≤ 4294967296 by simp; omega), Option.bind_some, wr1 i (by omega)]
      have := ih (i + 1) (by omega) (by omega)
      rw [List.replicate_succ'] at this
      exact this
    · have c1 : decide ((i : Int) < (p.Alphas.length : Int)) = false := decide_eq_false (by omega)
      have hi' : i = p.Alphas.length := by omega
      simp only [c1, Bool.false_eq_true, if_false]
      rw [hi']
theorem sum_le {α : Type} (f : α → Int) (g : α → Int) : ∀ (xs : List α), (∀ x ∈ xs, f x ≤ g x) → (xs.map f).sum ≤ (xs.map g).sum
  | [], _ => by simp
  | x :: xs, h => by
    have := sum_le f g xs fun y hy => h y (by simp [hy])
    have := h x (by simp)
    simp only [List.map_cons, List.sum_cons]; omega
theorem sum_zero {α : Type} (f : α → Int) : ∀ (xs : List α), (∀ x ∈ xs, f x = 0) → (xs.map f).sum = 0
  | [], _ => by simp
  | x :: xs, h => by
    have := sum_zero f xs fun y hy => h y (by simp [hy])
    have := h x (by simp)
    simp only [List.map_cons, List.sum_cons]; omega
theorem row_tot (c : TChain) : totTRow (rowOf c) ≤ totTChain c := by
  unfold totTRow rowOf totTChain
  have : ((List.replicate c.Pos.length (⟨[]⟩ : TLevel)).map totTLevel).sum = 0 := sum_zero _ _ fun x hx => by
    rw [(List.mem_replicate.1 hx).2]; rfl
  simp only [this, List.length_replicate]
  omega
theorem c_MemNew {N : Nat} (hN : 1099511627776 ≤ N) (p : TNet) (h : totTNet p ≤ 1048576) : ∃ r, m_s_MemNew N p = some r ∧ m_i_MemNew N p = some r ∧ LimTMem r ∧ totTMem r ≤ 1125899906842624 := by
  unfold totTNet at h
  have n1 := sum_nonneg totTAlpha p.Alphas (fun y _ => totTAlpha_nn y)
  have n2 : ∀ y ∈ p.Chains, 0 ≤ totTChain y := fun y _ => totTChain_nn y
  have n3 := sum_nonneg totTChain p.Chains n2
  have hp : ∀ c ∈ p.Chains, c.Pos.length ≤ 1048576 := fun c hc => by
    have h1 := sum_mem totTChain p.Chains n2 c hc
    have h2 : totTChain c ≤ 1048576 := by omega
    unfold totTChain at h2; omega
  have a := mem_l1 (N := N) p (by omega) N 0 (by omega) (by omega)
  obtain ⟨b, c⟩ := mem_l2 hN p (List.replicate p.Alphas.length ⟨[]⟩) (by omega) hp N 0 (by omega) (by omega)
  refine ⟨⟨List.replicate p.Alphas.length ⟨[]⟩, p.Chains.map rowOf⟩, ?_, ?_, ?_, ?_⟩
  · unfold m_s_MemNew; exact a.trans b
  · unfold m_i_MemNew; rw [mk_nat _ (by omega), Option.bind_some]; exact c
  · refine ⟨⟨by simp; omega, fun y hy => ?_⟩, ⟨by simp; omega, fun y hy => ?_⟩⟩
    · rw [(List.mem_replicate.1 hy).2]; unfold LimTIds; simp
    · obtain ⟨ch, hch, rfl⟩ := List.mem_map.1 hy
      refine ⟨by have := hp ch hch; simp [rowOf]; omega, fun z hz => ?_⟩
      unfold rowOf at hz
      rw [(List.mem_replicate.1 hz).2]
      exact ⟨by simp, by simp⟩
  · unfold totTMem
    have e1 : ((List.replicate p.Alphas.length (⟨[]⟩ : TIds)).map totTIds).sum = 0 := sum_zero _ _ fun x hx => by
      rw [(List.mem_replicate.1 hx).2]; rfl
    have e2 := sum_le (fun c => totTRow (rowOf c)) totTChain p.Chains fun c _ => row_tot c
    simp only [e1, List.length_replicate, List.length_map, List.map_map]
    have e3 : (List.map (totTRow ∘ rowOf) p.Chains).sum = (List.map (fun c => totTRow (rowOf c)) p.Chains).sum := rfl
    rw [e3]; omega
end Go.Proofs.Ytjhlmnbkfdkmpaa
