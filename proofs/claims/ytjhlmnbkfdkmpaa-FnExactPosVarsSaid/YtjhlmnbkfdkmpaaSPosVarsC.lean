/- Plain law: the core of PosVars. -/
import Derived.Test.YtjhlmnbkfdkmpaaSPosVars
namespace Go.Proofs.Ytjhlmnbkfdkmpaa
open Eng
theorem argVars_size {B : Nat} {l : List TArg} (h : ∀ a ∈ l, a.S.size ≤ B) : ∀ x ∈ argVars l, x.size ≤ B := fun x hx => by
  obtain ⟨a, ha, _, rfl⟩ := mem_argVars.1 hx; exact h a ha
theorem posNames_size {B : Nat} : ∀ {l : List TPat}, (∀ p ∈ l, ∀ a ∈ p.Args, a.S.size ≤ B) → ∀ x ∈ posNames l, x.size ≤ B
  | [], _, x, hx => by simp [posNames] at hx
  | p :: t, h, x, hx => by
    unfold posNames at hx
    split at hx
    · exact posNames_size (fun q hq => h q (by simp [hq])) x hx
    · rcases List.mem_append.1 hx with hx | hx
      · exact argVars_size (h p (by simp)) x hx
      · exact posNames_size (fun q hq => h q (by simp [hq])) x hx
theorem nArgs_tot' : ∀ (l : List TPat), (nArgs l : Int) ≤ (l.map totTPat).sum
  | [] => by simp [nArgs]
  | p :: t => by
    have h1 := nArgs_tot' t
    have h2 : (p.Args.length : Int) ≤ totTPat p := by
      unfold totTPat
      have := sum_nonneg totTArg p.Args (fun y _ => totTArg_nn y)
      omega
    have h3 : nArgs (p :: t) = p.Args.length + nArgs t := by simp [nArgs]
    rw [h3, List.map_cons, List.sum_cons]; omega
theorem c_PosVars {N : Nat} (hN : 1099511627776 ≤ N) (r : TRule) (h : totTRule r ≤ 1048576) : ∃ v, m_s_PosVars N r = some v ∧ m_i_PosVars N r = some v ∧ v.length ≤ 4294967296 ∧ (v.length : Int) + (v.map fun s : ByteArray => (s.size : Int)).sum ≤ 1125899906842624 := by
  unfold totTRule at h
  have n1 : ∀ y ∈ r.Pats, 0 ≤ totTPat y := fun y _ => totTPat_nn y
  have s1 := sum_nonneg _ _ n1
  have s2 := sum_nonneg totTCond r.Conds (fun y _ => totTCond_nn y)
  have s3 := sum_nonneg totTAct r.Acts (fun y _ => totTAct_nn y)
  have s4 := nArgs_tot' r.Pats
  have hp : ∀ p ∈ r.Pats, totTPat p ≤ 1048576 := fun p hp => by have := sum_mem _ _ n1 p hp; omega
  have ha : ∀ p ∈ r.Pats, p.Args.length ≤ 1048576 ∧ ∀ a ∈ p.Args, a.S.size ≤ 1048576 := fun p h1 => by
    have h2 := hp p h1
    unfold totTPat at h2
    have nn : ∀ y ∈ p.Args, 0 ≤ totTArg y := fun y _ => totTArg_nn y
    have := sum_nonneg _ _ nn
    refine ⟨by omega, fun a h3 => ?_⟩
    have h4 := sum_mem _ _ nn a h3
    have h5 : totTArg a ≤ 1048576 := by omega
    unfold totTArg totTVal at h5
    omega
  have l1 := onces_len (posNames r.Pats) []
  have l2 := posNames_len r.Pats
  simp only [List.length_nil] at l1
  have l3 : ∀ x ∈ (posNames r.Pats).foldl once [], x.size ≤ 1048576 := onces_size (posNames_size fun p h1 => (ha p h1).2) (by simp)
  have l4 := szs _ l3
  refine ⟨_, posVars_s hN r (by omega) (by omega) (fun p h1 => (ha p h1).1), posVars_i hN r (by omega) (by omega), by omega, by omega⟩
end Go.Proofs.Ytjhlmnbkfdkmpaa
