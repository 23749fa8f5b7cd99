/- Plain law: the core of PickMatch. -/
import Derived.Test.YtjangilipfjcmaaSPick
namespace Go.Proofs.Ytjangilipfjcmaa
open Eng
set_option linter.unusedVariables false
theorem pick_mem {d : TDef} {fs : List TMatch} {P : TMatch → Prop} : ∀ (l : List TMatch) (b : Option TMatch), (∀ m ∈ l, P m) → (∀ m, b = some m → P m) → ∀ m, pick d fs l b = some m → P m
  | [], b, _, hb, m, h => hb m h
  | x :: t, b, hl, hb, m, h => by
    refine pick_mem t (better d fs b x) (fun y hy => hl y (by simp [hy])) (fun y hy => ?_) m h
    unfold better at hy
    split at hy
    · have : x = y := Option.some.inj hy
      rw [← this]; exact hl x (by simp)
    · exact hb y hy
theorem c_PickMatch {N : Nat} (hN : 1099000000000 ≤ N) (d : TDef) (l fs : List TMatch) (h0 : totTDef d ≤ 1048576) (h1 : (l.length : Int) + (l.map totTMatch).sum ≤ 1048576) (h2 : (fs.length : Int) + (fs.map totTMatch).sum ≤ 1048576) :
    ∃ r, m_s_PickMatch N d l fs = some r ∧ m_i_PickMatch N d l fs = some r ∧ LimTMatch r.1 ∧ totTMatch r.1 ≤ 1125899906842624 := by
  have n1 : ∀ m ∈ l, 0 ≤ totTMatch m := fun m _ => totTMatch_nn m
  have n2 : ∀ m ∈ fs, 0 ≤ totTMatch m := fun m _ => totTMatch_nn m
  have s1 := sum_nonneg _ _ n1
  have s2 := sum_nonneg _ _ n2
  have sh : ∀ m : TMatch, totTMatch m ≤ 1048576 → ShM' m := fun m h => by
    unfold totTMatch at h
    have := sum_nonneg totTBind m.Binds (fun y _ => totTBind_nn y)
    exact ⟨by omega, by omega⟩
  have m1 : ∀ m ∈ l, totTMatch m ≤ 1048576 := fun m hm => by have := sum_mem _ _ n1 m hm; omega
  have m2 : ∀ m ∈ fs, totTMatch m ≤ 1048576 := fun m hm => by have := sum_mem _ _ n2 m hm; omega
  refine ⟨_, pick_s hN d l fs (by omega) (by omega) (fun m hm => sh m (m1 m hm)) (fun m hm => (sh m (m2 m hm)).1), pick_i hN d l fs (by omega) (by omega) (fun m hm => sh m (m1 m hm)) (fun m hm => (sh m (m2 m hm)).1), ?_⟩
  have key : LimTMatch (picked (pick d fs l none)).1 ∧ totTMatch (picked (pick d fs l none)).1 ≤ 1048576 := by
    cases hp : pick d fs l none with
    | none =>
      refine ⟨?_, ?_⟩
      · show LimTMatch zMatch
        unfold LimTMatch zMatch; simp
      · show totTMatch zMatch ≤ _
        unfold totTMatch zMatch; simp
    | some m =>
      have h := pick_mem l none m1 (by simp) m hp
      have hs := sh m h
      refine ⟨?_, h⟩
      show LimTMatch m
      unfold LimTMatch
      have := hs.1
      have := hs.2
      exact ⟨by omega, by omega⟩
  exact ⟨key.1, by have := key.2; omega⟩
end Go.Proofs.Ytjangilipfjcmaa
