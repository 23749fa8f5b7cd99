/- Plain laws: what is picked is there, may fire, and none is more urgent. -/
import Derived.Test.YtjhlmnbkfdkmpaaSPick
namespace Go.Proofs.Ytjhlmnbkfdkmpaa
open Eng
set_option linter.unusedVariables false
set_option linter.unusedSimpArgs false
theorem lex_trans : ∀ (x y z : List Int), lexlt x y = true → lexlt y z = true → x.length = y.length → y.length = z.length → lexlt x z = true
  | [], _, _, h, _, _, _ => by simp [lexlt] at h
  | a :: x, [], _, h, _, _, _ => by simp [lexlt] at h
  | a :: x, b :: y, [], _, h, _, _ => by simp [lexlt] at h
  | a :: x, b :: y, c :: z, h1, h2, l1, l2 => by
    unfold lexlt at h1 h2 ⊢
    by_cases e1 : a = b
    · by_cases e2 : b = c
      · rw [if_pos e1] at h1; rw [if_pos e2] at h2; rw [if_pos (e1.trans e2)]
        exact lex_trans x y z h1 h2 (by simpa using l1) (by simpa using l2)
      · rw [if_neg e2] at h2; rw [if_neg (by omega)]
        simp only [decide_eq_true_eq] at h2 ⊢; omega
    · rw [if_neg e1] at h1
      simp only [decide_eq_true_eq] at h1
      by_cases e2 : b = c
      · rw [if_neg (by omega)]; simp only [decide_eq_true_eq]; omega
      · rw [if_neg e2] at h2
        simp only [decide_eq_true_eq] at h2
        rw [if_neg (by omega)]; simp only [decide_eq_true_eq]; omega
theorem lex_irr : ∀ (x : List Int), lexlt x x = false
  | [] => rfl
  | a :: x => by unfold lexlt; rw [if_pos rfl]; exact lex_irr x
theorem less_irr (x : TMatch) : less x x = false := by
  unfold less; rw [if_pos rfl, if_pos rfl]; exact lex_irr _
theorem less_trans {x y z : TMatch} (h1 : less x y = true) (h2 : less y z = true) : less x z = true := by
  unfold less at h1 h2 ⊢
  by_cases e1 : x.Rule = y.Rule
  · rw [if_pos e1] at h1
    by_cases e2 : y.Rule = z.Rule
    · rw [if_pos e2] at h2
      rw [if_pos (e1.trans e2)]
      by_cases l1 : x.Ids.length = y.Ids.length
      · rw [if_pos l1] at h1
        by_cases l2 : y.Ids.length = z.Ids.length
        · rw [if_pos l2] at h2
          rw [if_pos (l1.trans l2)]
          exact lex_trans _ _ _ h1 h2 l1 l2
        · rw [if_neg l2] at h2
          rw [if_neg (by omega)]
          simp only [decide_eq_true_eq] at h2 ⊢; omega
      · rw [if_neg l1] at h1
        simp only [decide_eq_true_eq] at h1
        by_cases l2 : y.Ids.length = z.Ids.length
        · rw [if_neg (by omega)]; simp only [decide_eq_true_eq]; omega
        · rw [if_neg l2] at h2
          simp only [decide_eq_true_eq] at h2
          rw [if_neg (by omega)]; simp only [decide_eq_true_eq]; omega
    · rw [if_neg e2] at h2
      rw [if_neg (by omega)]
      simp only [decide_eq_true_eq] at h2 ⊢; omega
  · rw [if_neg e1] at h1
    simp only [decide_eq_true_eq] at h1
    by_cases e2 : y.Rule = z.Rule
    · rw [if_neg (by omega)]; simp only [decide_eq_true_eq]; omega
    · rw [if_neg e2] at h2
      simp only [decide_eq_true_eq] at h2
      rw [if_neg (by omega)]; simp only [decide_eq_true_eq]; omega
theorem urg_irr (d : TDef) (x : TMatch) : urg d x x = false := by
  unfold urg; rw [less_irr]; simp
theorem urg_trans {d : TDef} {x y z : TMatch} (h1 : urg d x y = true) (h2 : urg d y z = true) : urg d x z = true := by
  unfold urg at h1 h2 ⊢
  simp only [Bool.and_eq_true, Bool.or_eq_true, decide_eq_true_eq] at h1 h2 ⊢
  obtain ⟨⟨a1, a2⟩, a3⟩ := h1
  obtain ⟨⟨b1, b2⟩, b3⟩ := h2
  refine ⟨⟨a1, b2⟩, ?_⟩
  rcases a3 with a3 | ⟨a3, a4⟩
  · left; rcases b3 with b3 | ⟨b3, b4⟩ <;> omega
  · rcases b3 with b3 | ⟨b3, b4⟩
    · left; omega
    · exact .inr ⟨by omega, less_trans a4 b4⟩
/-- What is picked of a row, on top of what was the best of another. -/
theorem pick_max {d : TDef} {fs : List TMatch} : ∀ (l : List TMatch) (b : Option TMatch) (S : TMatch → Prop), (∀ m, b = some m → mayFire d fs m = true ∧ S m) → (∀ x, S x → mayFire d fs x = true → ∃ m, b = some m ∧ urg d x m = false) →
    (∀ m, pick d fs l b = some m → mayFire d fs m = true ∧ (S m ∨ m ∈ l)) ∧ (∀ x, S x ∨ x ∈ l → mayFire d fs x = true → ∃ m, pick d fs l b = some m ∧ urg d x m = false)
  | [], b, S, h1, h2 => ⟨fun m hm => ⟨(h1 m hm).1, .inl (h1 m hm).2⟩, fun x hx hf => h2 x (hx.resolve_right (by simp)) hf⟩
  | y :: t, b, S, h1, h2 => by
    have step := pick_max (d := d) (fs := fs) t (better d fs b y) (fun x => S x ∨ x = y) (fun m hm => by
      unfold better at hm
      split at hm
      · rename_i hc
        have : y = m := Option.some.inj hm
        subst this
        simp only [Bool.and_eq_true] at hc
        exact ⟨hc.1, .inr rfl⟩
      · exact ⟨(h1 m hm).1, .inl (h1 m hm).2⟩) (fun x hx hf => by
      unfold better
      by_cases hc : (mayFire d fs y && beats d y b) = true
      · rw [if_pos hc]
        simp only [Bool.and_eq_true] at hc
        refine ⟨y, rfl, ?_⟩
        rcases hx with hx | rfl
        · obtain ⟨m, hm, hu⟩ := h2 x hx hf
          subst hm
          have h3 : urg d y m = true := hc.2
          cases h4 : urg d x y with
          | false => rfl
          | true => rw [urg_trans h4 h3] at hu; cases hu
        · exact urg_irr d x
      · rw [if_neg hc]
        rcases hx with hx | rfl
        · exact h2 x hx hf
        · cases b with
          | none => simp [hf, beats] at hc
          | some m =>
            refine ⟨m, rfl, ?_⟩
            simp only [hf, Bool.true_and, beats] at hc
            simpa using hc)
    refine ⟨fun m hm => ?_, fun x hx hf => ?_⟩
    · obtain ⟨a1, a2⟩ := step.1 m hm
      refine ⟨a1, ?_⟩
      rcases a2 with (a2 | rfl) | a2
      · exact .inl a2
      · exact .inr (by simp)
      · exact .inr (by simp [a2])
    · refine step.2 x ?_ hf
      rcases hx with hx | hx
      · exact .inl (.inl hx)
      · rcases List.mem_cons.1 hx with rfl | hx
        · exact .inl (.inr rfl)
        · exact .inr hx
theorem picked_max {d : TDef} {fs l : List TMatch} : (∀ m, pick d fs l none = some m → mayFire d fs m = true ∧ m ∈ l) ∧ (∀ x ∈ l, mayFire d fs x = true → ∃ m, pick d fs l none = some m ∧ urg d x m = false) := by
  have := pick_max (d := d) (fs := fs) l none (fun _ => False) (by simp) (by simp)
  exact ⟨fun m hm => ⟨(this.1 m hm).1, (this.1 m hm).2.resolve_left id⟩, fun x hx hf => this.2 x (.inr hx) hf⟩
end Go.Proofs.Ytjhlmnbkfdkmpaa
