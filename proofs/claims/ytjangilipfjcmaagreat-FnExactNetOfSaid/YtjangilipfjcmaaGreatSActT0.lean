/- Plain laws: of sizes, for acts; no core. -/
import Derived.Test.YtjangilipfjcmaaGreatSAct
namespace Go.Proofs.YtjangilipfjcmaaGreat
open Eng
set_option linter.unusedVariables false
set_option linter.unusedSimpArgs false

theorem szExpr_of (e : TExpr) (h : totTExpr e ≤ 1048576) : SzExpr e := by
  unfold totTExpr totTArg totTVal at h
  refine ⟨by omega, ⟨by omega, by omega⟩, ⟨by omega, by omega⟩⟩
theorem szAct_of (a : TAct) (h : totTAct a ≤ 1048576) : SzAct a := by
  unfold totTAct at h
  have nn : ∀ y ∈ a.Args, 0 ≤ totTExpr y := fun y _ => totTExpr_nn y
  have := sum_nonneg _ _ nn
  exact ⟨by omega, by omega, by omega, fun e he => szExpr_of e (by have := sum_mem _ _ nn e he; omega)⟩
end Go.Proofs.YtjangilipfjcmaaGreat
