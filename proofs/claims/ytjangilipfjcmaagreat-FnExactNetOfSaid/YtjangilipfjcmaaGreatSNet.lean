/- Plain laws: the network of a definition, as the program makes it. -/
import Derived.Test.YtjangilipfjcmaaGreatSNetD
namespace Go.Proofs.YtjangilipfjcmaaGreat
open Eng
set_option linter.unusedVariables false
set_option linter.unusedSimpArgs false

/-! ### The program -/
theorem alphaAt_i {N : Nat} (hN : 1099000000000 ≤ N) (as : List TAlpha) (cs : List TChain) (p : TPat) (hp : p.Args.length ≤ 1048576) (hl : as.length ≤ 4194304) (h : ∀ a ∈ as, SzAlpha a) :
    m_i_Net_alphaAt N ⟨as, cs⟩ p = some ((placeOf as (alphaOf p)).1, ⟨(placeOf as (alphaOf p)).2, cs⟩) := by
  unfold m_i_Net_alphaAt
  rw [alpha_i hN p hp, Option.bind_some]
  have lp : ∀ (n i : Nat), i ≤ as.length → as.length - i < n → m_i_Net_alphaAt_l1 N ⟨as, cs⟩ (alphaOf p) n i =
      some (match (as.drop i).findIdx? (fun x => decide (x = alphaOf p)) with | some j => ((i + j : Nat) : Int) | none => (as.length : Int), ⟨match (as.drop i).findIdx? (fun x => decide (x = alphaOf p)) with | some j => as | none => as ++ [alphaOf p], cs⟩) := by
    intro n
    induction n with
    | zero => intro i _ h; omega
    | succ n ih =>
      intro i hi hn
      by_cases hlt : i < as.length
      · have c1 : decide ((i : Int) < (as.length : Int)) = true := decide_eq_true (by omega)
        rw [List.drop_eq_getElem_cons hlt, List.findIdx?_cons]
        simp only [m_i_Net_alphaAt_l1, c1, if_true, idx_nat_lt hlt, Option.bind_some, sameA_i hN _ _ (h _ (List.getElem_mem hlt)), wr1 i (by omega), ih (i + 1) (by omega) (by omega)]
        by_cases he : as[i] = alphaOf p
        · simp [he]
        · simp only [he, decide_false, Bool.false_eq_true, if_false]
          cases (as.drop (i + 1)).findIdx? (fun x => decide (x = alphaOf p)) with
          | none => rfl
          | some j => simp only [Option.map_some]; rw [show i + (j + 1) = i + 1 + j by omega]
      · have c1 : decide ((i : Int) < (as.length : Int)) = false := decide_eq_false (by omega)
        rw [List.drop_of_length_le (by omega)]
        simp only [m_i_Net_alphaAt_l1, c1, Bool.false_eq_true, if_false, app_ok (show as.length + [alphaOf p].length ≤ 4294967296 by simp; omega), Option.bind_some, List.findIdx?_nil]
        have e : IntKind.i64.wrap (((as ++ [alphaOf p]).length : Int) - 1) = (as.length : Int) := by
          rw [wr (by simp only [List.length_append, List.length_cons, List.length_nil]; omega) (by simp only [List.length_append, List.length_cons, List.length_nil]; omega)]; simp only [List.length_append, List.length_cons, List.length_nil]; omega
        rw [e]
  have := lp N 0 (by omega) (by omega)
  rw [show ((0 : Nat) : Int) = 0 from rfl, List.drop_zero] at this
  rw [this]
  unfold placeOf
  cases as.findIdx? (fun x => decide (x = alphaOf p)) <;> simp
theorem netIn_i {N : Nat} (hN : 1099000000000 ≤ N) (d : TDef) (h : SzNetD d.Rules) : m_i_netIn N d = some (netOf d) := by
  obtain ⟨h1, h2, h3⟩ := h
  unfold m_i_netIn netOf
  refine lp' hN d.Rules (by omega) (fun n (s : List TAlpha × List TChain) i => m_i_netIn_l1 N d n s.1 s.2 i) (fun t s => some (addRules s.1 s.2 t)) (fun s t => s.1.length + nPats t ≤ 1048576 ∧ s.2.length + t.length ≤ 1048576 ∧ ∀ a ∈ s.1, SzAlpha a) ([], []) ⟨by simpa using h2, by simpa using h1, by simp⟩ (fun n s i r t g1 g2 g3 g4 g5 g6 gI ih => ?_) (fun n s i g1 g2 gI => ?_)
  · obtain ⟨i1, i2, i3⟩ := gI
    rw [nPats_cons] at i1
    simp only [List.length_cons] at i2
    simp only [m_i_netIn_l1, g5, if_true, g4, Option.bind_some, addRules]
    have key : ∀ (as : List TAlpha), as.length + r.Pats.length + nPats t ≤ 1048576 → (∀ a ∈ as, SzAlpha a) → m_i_netIn_l2 N s.2 (i : Int) (m_i_netIn_l1 N d n) r N as [] [] 0 = some (addRules (addPats as [] [] r.Pats).1 (s.2 ++ [⟨(addPats as [] [] r.Pats).2.1, (addPats as [] [] r.Pats).2.2⟩]) t) := by
      intro as ha hz
      refine lp' hN r.Pats (by omega) (fun m (u : List TAlpha × List Int × List Int) k => m_i_netIn_l2 N s.2 (i : Int) (m_i_netIn_l1 N d n) r m u.1 u.2.1 u.2.2 k) (fun l u => some (addRules (addPats u.1 u.2.2 u.2.1 l).1 (s.2 ++ [⟨(addPats u.1 u.2.2 u.2.1 l).2.1, (addPats u.1 u.2.2 u.2.1 l).2.2⟩]) t))
        (fun u l => u.1.length + l.length + nPats t ≤ 1048576 ∧ u.2.1.length + u.2.2.length + l.length ≤ 1048576 ∧ ∀ a ∈ u.1, SzAlpha a) (as, [], []) ⟨ha, by simp; omega, hz⟩ (fun m u k p l f1 f2 f3 f4 f5 f6 fI fh => ?_) (fun m u k f1 f2 fI => ?_)
      · obtain ⟨j1, j2, j3⟩ := fI
        simp only [List.length_cons] at j1 j2
        have hp := h3 r g2 p f2
        have hpl := (placeOf_len u.1 (alphaOf p)).1
        have hall := placeOf_all j3 (alphaOf_sz hp)
        simp only [m_i_netIn_l2, f5, if_true, f4, Option.bind_some, alphaAt_i hN u.1 s.2 p hp (by omega) j3, f6, addPats]
        cases hnot : p.Not with
        | true =>
          simp only [if_true, app_ok (show u.2.1.length + [(placeOf u.1 (alphaOf p)).1].length ≤ 4294967296 by simp; omega), Option.bind_some]
          exact fh ((placeOf u.1 (alphaOf p)).2, u.2.1 ++ [(placeOf u.1 (alphaOf p)).1], u.2.2) ⟨by simp only; omega, by simp; omega, hall⟩
        | false =>
          simp only [Bool.false_eq_true, if_false, app_ok (show u.2.2.length + [(placeOf u.1 (alphaOf p)).1].length ≤ 4294967296 by simp; omega), Option.bind_some]
          exact fh ((placeOf u.1 (alphaOf p)).2, u.2.1, u.2.2 ++ [(placeOf u.1 (alphaOf p)).1]) ⟨by simp only; omega, by simp; omega, hall⟩
      · obtain ⟨j1, j2, j3⟩ := fI
        simp only [m_i_netIn_l2, f2, Bool.false_eq_true, if_false, app_ok (show s.2.length + [(⟨u.2.2, u.2.1⟩ : TChain)].length ≤ 4294967296 by simp; omega), Option.bind_some, g6, addPats]
        exact ih (u.1, s.2 ++ [⟨u.2.2, u.2.1⟩]) ⟨by simp only [List.length_nil] at j1 ⊢; omega, by simp; omega, j3⟩
    exact key s.1 (by omega) i3
  · simp only [m_i_netIn_l1, g2, Bool.false_eq_true, if_false]; rfl
end Go.Proofs.YtjangilipfjcmaaGreat
