/- Plain laws: what is drawn is small enough. -/
import Derived.Test.YtjhlmnbkfdkmpaaSDDefAny
import Derived.Test.YtjhlmnbkfdkmpaaSDef
namespace Go.Proofs.Ytjhlmnbkfdkmpaa
open Eng
theorem shArg_Sz {a : TArg} (h : shArg a) : SzArg a := by have := h.1; have := h.2; exact ⟨by omega, by omega⟩
theorem shPat_Sz {p : TPat} (h : shPat p) : SzPat p := by
  obtain ⟨h1, h2, h3⟩ := h
  exact ⟨by omega, by omega, fun a ha => shArg_Sz (h3 a ha)⟩
theorem shCond_Sz {c : TCond} (h : shCond c) : SzCond c := ⟨shArg_Sz h.1, shArg_Sz h.2⟩
theorem shExpr_Sz {e : TExpr} (h : shExpr e) : SzExpr e := by
  obtain ⟨h1, h2, h3⟩ := h
  exact ⟨by omega, shArg_Sz h2, shArg_Sz h3⟩
theorem shAct_Sz {a : TAct} (h : shAct a) : SzAct a := by
  obtain ⟨h1, h2, h3, h4⟩ := h
  exact ⟨by omega, by omega, by omega, fun a ha => shExpr_Sz (h3 a ha)⟩
theorem nExprs_le {B : Nat} : ∀ {l : List TAct}, (∀ p ∈ l, p.Args.length ≤ B) → nExprs l ≤ l.length * B
  | [], _ => by simp [nExprs]
  | p :: t, h => by
    have h1 := nExprs_le (l := t) fun q hq => h q (by simp [hq])
    have h2 := h p (by simp)
    have h3 : nExprs (p :: t) = p.Args.length + nExprs t := by simp [nExprs]
    rw [h3, List.length_cons, Nat.succ_mul]; omega
theorem shRule_Sz {r : TRule} (h : shRule r) : SzRule r := by
  obtain ⟨h1, ⟨h2, h2'⟩, ⟨h3, h3'⟩, h4, h4'⟩ := h
  have h5 := nArgs_le (B := 16) fun p hp => (h2' p hp).2.1
  have h6 := nExprs_le (B := 16) fun a ha => (h4' a ha).2.1
  exact ⟨by omega, ⟨by omega, fun p hp => shPat_Sz (h2' p hp)⟩, ⟨by omega, fun c hc => shCond_Sz (h3' c hc)⟩, ⟨by omega, fun a ha => shAct_Sz (h4' a ha)⟩, by omega, by
    have : nExprs r.Acts ≤ 1048576 := by omega
    exact this⟩
theorem shDef_Sz {d : TDef} (h : shDef d) : SzDef d := by
  obtain ⟨h1, h2, h3⟩ := h
  exact ⟨by omega, by omega, fun r hr => shRule_Sz (h3 r hr)⟩
end Go.Proofs.Ytjhlmnbkfdkmpaa
