/- Plain laws: of sizes, for patterns, conditions and rules. -/
import Derived.Test.YtjangilipfjcmaaGreatSRule
import Derived.Test.YtjangilipfjcmaaGreatSActT0
namespace Go.Proofs.YtjangilipfjcmaaGreat
open Eng
set_option linter.unusedVariables false
set_option linter.unusedSimpArgs false

theorem szArg_of (a : TArg) (h : totTArg a ≤ 1048576) : SzArg a := by
  unfold totTArg totTVal at h
  exact ⟨by omega, by omega⟩
theorem szPat_of (p : TPat) (h : totTPat p ≤ 1048576) : SzPat p := by
  unfold totTPat at h
  have nn : ∀ y ∈ p.Args, 0 ≤ totTArg y := fun y _ => totTArg_nn y
  have := sum_nonneg _ _ nn
  exact ⟨by omega, by omega, fun a ha => szArg_of a (by have := sum_mem _ _ nn a ha; omega)⟩
theorem szCond_of (c : TCond) (h : totTCond c ≤ 1048576) : SzCond c := by
  unfold totTCond at h
  have := totTArg_nn c.L
  have := totTArg_nn c.R
  exact ⟨szArg_of _ (by omega), szArg_of _ (by omega)⟩
theorem nArgs_tot : ∀ (l : List TPat), (nArgs l : Int) ≤ (l.map totTPat).sum
  | [] => by simp [nArgs]
  | p :: t => by
    have h1 := nArgs_tot t
    have h2 : (p.Args.length : Int) ≤ totTPat p := by
      unfold totTPat
      have := sum_nonneg totTArg p.Args (fun y _ => totTArg_nn y)
      omega
    have h3 : nArgs (p :: t) = p.Args.length + nArgs t := by simp [nArgs]
    rw [h3, List.map_cons, List.sum_cons]; omega
theorem nExprs_tot : ∀ (l : List TAct), (nExprs l : Int) ≤ (l.map totTAct).sum
  | [] => by simp [nExprs]
  | p :: t => by
    have h1 := nExprs_tot t
    have h2 : (p.Args.length : Int) ≤ totTAct p := by
      unfold totTAct
      have := sum_nonneg totTExpr p.Args (fun y _ => totTExpr_nn y)
      omega
    have h3 : nExprs (p :: t) = p.Args.length + nExprs t := by simp [nExprs]
    rw [h3, List.map_cons, List.sum_cons]; omega
theorem szRule_of (r : TRule) (h : totTRule r ≤ 1048576) : SzRule r := by
  unfold totTRule at h
  have n1 : ∀ y ∈ r.Pats, 0 ≤ totTPat y := fun y _ => totTPat_nn y
  have n2 : ∀ y ∈ r.Conds, 0 ≤ totTCond y := fun y _ => totTCond_nn y
  have n3 : ∀ y ∈ r.Acts, 0 ≤ totTAct y := fun y _ => totTAct_nn y
  have s1 := sum_nonneg _ _ n1
  have s2 := sum_nonneg _ _ n2
  have s3 := sum_nonneg _ _ n3
  have s4 := nArgs_tot r.Pats
  have s5 := nExprs_tot r.Acts
  refine ⟨by omega, ⟨by omega, fun p hp => szPat_of p (by have := sum_mem _ _ n1 p hp; omega)⟩, ⟨by omega, fun p hp => szCond_of p (by have := sum_mem _ _ n2 p hp; omega)⟩, ⟨by omega, fun p hp => szAct_of p (by have := sum_mem _ _ n3 p hp; omega)⟩, by omega, ?_⟩
  have : nExprs r.Acts ≤ 1048576 := by omega
  exact this
end Go.Proofs.YtjangilipfjcmaaGreat
