/- Plain law: the core of BindsFor. -/
import Derived.Test.YtjangilipfjcmaaSBinds
namespace Go.Proofs.Ytjangilipfjcmaa
open Eng
set_option linter.unusedVariables false
theorem sumle {α : Type} {f : α → Int} {B : Int} : ∀ (l : List α), (∀ x ∈ l, f x ≤ B) → (l.map f).sum ≤ (l.length : Int) * B
  | [], _ => by simp
  | x :: t, h => by
    have h1 := sumle t fun y hy => h y (by simp [hy])
    have h2 := h x (by simp)
    simp only [List.map_cons, List.sum_cons, List.length_cons]
    have : ((t.length + 1 : Nat) : Int) * B = (t.length : Int) * B + B := by rw [Int.natCast_add, Int.add_mul]; simp
    omega
theorem sumArgs_tot : ∀ (l : List TPat), (sumArgs l : Int) ≤ (l.map totTPat).sum
  | [] => by simp [sumArgs]
  | p :: t => by
    have h1 := sumArgs_tot t
    have h2 : (p.Args.length : Int) ≤ totTPat p := by
      unfold totTPat
      have := sum_nonneg totTArg p.Args (fun y _ => totTArg_nn y)
      omega
    rw [sumArgs_cons, List.map_cons, List.sum_cons]; omega
theorem c_BindsFor {N : Nat} (hN : 1099000000000 ≤ N) (r : TRule) (s : TStore) (ids : List Int) (h1 : totTRule r ≤ 1048576) (h2 : totTStore s ≤ 1048576) (h3 : (ids.length : Int) ≤ 1048576) :
    ∃ r', m_s_BindsFor N r s ids = some r' ∧ m_i_BindsFor N r s ids = some r' ∧ r'.1.length ≤ 4294967296 ∧ (r'.1.length : Int) + (r'.1.map totTBind).sum ≤ 1125899906842624 := by
  unfold totTRule at h1
  unfold totTStore at h2
  have h3 : ids.length ≤ 1048576 := by omega
  have n1 : ∀ y ∈ r.Pats, 0 ≤ totTPat y := fun y _ => totTPat_nn y
  have s1 := sum_nonneg _ _ n1
  have s2 := sum_nonneg totTCond r.Conds (fun y _ => totTCond_nn y)
  have s3 := sum_nonneg totTAct r.Acts (fun y _ => totTAct_nn y)
  have n4 : ∀ y ∈ s.Items, 0 ≤ totTItem y := fun y _ => totTItem_nn y
  have s4 := sum_nonneg _ _ n4
  have s5 := sumArgs_tot r.Pats
  have hp : ∀ p ∈ r.Pats, p.Args.length ≤ 1048576 ∧ ∀ a ∈ p.Args, a.S.size ≤ 1048576 := fun p hp => by
    have h0 := sum_mem _ _ n1 p hp
    have h : totTPat p ≤ 1048576 := by omega
    unfold totTPat at h
    have nn : ∀ y ∈ p.Args, 0 ≤ totTArg y := fun y _ => totTArg_nn y
    have := sum_nonneg _ _ nn
    refine ⟨by omega, fun a ha => ?_⟩
    have h6 := sum_mem _ _ nn a ha
    have h5 : totTArg a ≤ 1048576 := by omega
    unfold totTArg totTVal at h5
    omega
  have hx : ∀ x ∈ s.Items, x.F.Fields.length ≤ 1048576 ∧ ∀ v ∈ x.F.Fields, totTVal v ≤ 1048576 := fun x hx => by
    have h0 := sum_mem _ _ n4 x hx
    have h : totTItem x ≤ 1048576 := by omega
    unfold totTItem totTFact at h
    have nn : ∀ y ∈ x.F.Fields, 0 ≤ totTVal y := fun y _ => totTVal_nn y
    have := sum_nonneg _ _ nn
    refine ⟨by omega, fun v hv => ?_⟩
    have h5 := sum_mem _ _ nn v hv
    omega
  have hl := bindsP_len (xs := s.Items) (pos r.Pats) ids []
  have hq := sumArgs_pos r.Pats
  have ht := sumle (f := totTBind) (B := 2097152) (bindsP s.Items (pos r.Pats) ids []).1 (bindsP_all (fun x hx' v hv n hn => by
    have := (hx x hx').2 v hv
    show totTBind ⟨n, v⟩ ≤ 2097152
    unfold totTBind
    simp only
    omega) (pos r.Pats) ids [] (fun p h => (hp p ((List.mem_filter.1 h).1)).2) (by simp))
  simp only [List.length_nil, Nat.zero_add] at hl
  refine ⟨_, bindsFor_s hN r s ids (by omega) (by omega) (fun p h => (hp p h).1) (by omega) (fun x h => (hx x h).1) h3, bindsFor_i hN r s ids (by omega) (by omega) (fun p h => (hp p h).1) (by omega) (fun x h => (hx x h).1) h3, by omega, by omega⟩
end Go.Proofs.Ytjangilipfjcmaa
