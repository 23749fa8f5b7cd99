/- Plain laws: the network of a definition, in plain words. -/
import Derived.Test.YtjangilipfjcmaaGreatSDef
import Derived.Test.YtjangilipfjcmaaGreatSAlpha
namespace Go.Proofs.YtjangilipfjcmaaGreat
open Eng
set_option linter.unusedVariables false
set_option linter.unusedSimpArgs false

/-- Where a question stands, and the questions with it. -/
def placeOf (as : List TAlpha) (a : TAlpha) : Int × List TAlpha := match as.findIdx? (fun x => decide (x = a)) with | some j => ((j : Int), as) | none => ((as.length : Int), as ++ [a])
def addPats : List TAlpha → List Int → List Int → List TPat → List TAlpha × List Int × List Int
  | as, p, n, [] => (as, p, n)
  | as, p, n, x :: t => if x.Not then addPats (placeOf as (alphaOf x)).2 p (n ++ [(placeOf as (alphaOf x)).1]) t else addPats (placeOf as (alphaOf x)).2 (p ++ [(placeOf as (alphaOf x)).1]) n t
def addRules : List TAlpha → List TChain → List TRule → TNet
  | as, cs, [] => ⟨as, cs⟩
  | as, cs, r :: t => addRules (addPats as [] [] r.Pats).1 (cs ++ [⟨(addPats as [] [] r.Pats).2.1, (addPats as [] [] r.Pats).2.2⟩]) t
def netOf (d : TDef) : TNet := addRules [] [] d.Rules

/-! ### Sizes -/
theorem alphaOf_sz {p : TPat} (h : p.Args.length ≤ 1048576) : SzAlpha (alphaOf p) := by
  have h1 := consts_len p.Args
  have h2 := ats_len p.Args 0
  exact ⟨by show (consts p.Args).length ≤ _; omega, by show (ats 0 p.Args).length ≤ _; omega⟩
theorem placeOf_len (as : List TAlpha) (a : TAlpha) : (placeOf as a).2.length ≤ as.length + 1 ∧ as.length ≤ (placeOf as a).2.length := by
  unfold placeOf
  split <;> simp
theorem placeOf_all {P : TAlpha → Prop} {as : List TAlpha} {a : TAlpha} (h : ∀ x ∈ as, P x) (ha : P a) : ∀ x ∈ (placeOf as a).2, P x := by
  unfold placeOf
  split
  · exact h
  · intro x hx
    rcases List.mem_append.1 hx with h1 | h1
    · exact h x h1
    · simp at h1; rw [h1]; exact ha
theorem addPats_all {P : TAlpha → Prop} : ∀ (t : List TPat) (as : List TAlpha) (p n : List Int), (∀ x ∈ as, P x) → (∀ x ∈ t, P (alphaOf x)) → ∀ x ∈ (addPats as p n t).1, P x
  | [], as, p, n, h, _ => h
  | x :: t, as, p, n, h, ht => by
    unfold addPats
    have := placeOf_all h (ht x (by simp))
    split
    · exact addPats_all t _ _ _ this fun y hy => ht y (by simp [hy])
    · exact addPats_all t _ _ _ this fun y hy => ht y (by simp [hy])
theorem addPats_len : ∀ (t : List TPat) (as : List TAlpha) (p n : List Int), (addPats as p n t).1.length ≤ as.length + t.length ∧ (addPats as p n t).2.1.length + (addPats as p n t).2.2.length = p.length + n.length + t.length
  | [], as, p, n => by simp [addPats]
  | x :: t, as, p, n => by
    have h1 := (placeOf_len as (alphaOf x)).1
    unfold addPats
    split
    · have := addPats_len t (placeOf as (alphaOf x)).2 p (n ++ [(placeOf as (alphaOf x)).1])
      simp only [List.length_append, List.length_cons, List.length_nil] at this ⊢
      omega
    · have := addPats_len t (placeOf as (alphaOf x)).2 (p ++ [(placeOf as (alphaOf x)).1]) n
      simp only [List.length_append, List.length_cons, List.length_nil] at this ⊢
      omega
def nPats (l : List TRule) : Nat := (l.map fun r => r.Pats.length).sum
theorem nPats_cons (r : TRule) (t : List TRule) : nPats (r :: t) = r.Pats.length + nPats t := by simp [nPats]
/-- Sizes that networks need. -/
def SzNetD (rs : List TRule) : Prop := rs.length ≤ 1048576 ∧ nPats rs ≤ 1048576 ∧ ∀ r ∈ rs, ∀ p ∈ r.Pats, p.Args.length ≤ 1048576

theorem nPats_le {B : Nat} : ∀ {l : List TRule}, (∀ r ∈ l, r.Pats.length ≤ B) → nPats l ≤ l.length * B
  | [], _ => by simp [nPats]
  | p :: t, h => by
    have h1 := nPats_le (l := t) fun q hq => h q (by simp [hq])
    have h2 := h p (by simp)
    rw [nPats_cons, List.length_cons, Nat.succ_mul]; omega
theorem patsFrom_all {c : Nat} : ∀ (l : List TPat) (i : Nat), patsFrom c i l = true → ∀ p ∈ l, okPat p = true
  | [], _, _, p, hp => by cases hp
  | x :: t, i, h, p, hp => by
    unfold patsFrom at h
    simp only [Bool.and_eq_true] at h
    rcases List.mem_cons.1 hp with rfl | hp
    · exact h.1
    · exact patsFrom_all t _ h.2.2 p hp
/-- A right definition is small enough. -/
theorem okDef_net {d : TDef} (hd : okDef d = true) : SzNetD d.Rules := by
  have h1 : d.Rules.length ≤ 12 := by
    unfold okDef at hd
    simp only [Bool.and_eq_true, decide_eq_true_eq] at hd
    exact hd.2.1.2
  have h2 : ∀ r ∈ d.Rules, okPats r.Pats = true := fun r hr => by
    have := okDef_rule hd r hr
    unfold okRule at this
    simp only [Bool.and_eq_true] at this
    exact this.2.2.1
  have h3 : ∀ r ∈ d.Rules, r.Pats.length ≤ 6 := fun r hr => by
    have := h2 r hr
    unfold okPats at this
    simp only [Bool.and_eq_true, decide_eq_true_eq] at this
    exact this.1.2
  have h4 := nPats_le h3
  refine ⟨by omega, by omega, fun r hr p hp => ?_⟩
  have := h2 r hr
  unfold okPats at this
  simp only [Bool.and_eq_true, decide_eq_true_eq] at this
  have h5 := patsFrom_all _ _ this.2.2 p hp
  unfold okPat at h5
  simp only [Bool.and_eq_true, decide_eq_true_eq] at h5
  omega
end Go.Proofs.YtjangilipfjcmaaGreat
