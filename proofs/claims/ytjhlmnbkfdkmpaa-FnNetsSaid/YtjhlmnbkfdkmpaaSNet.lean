/- Plain laws: the network of a definition. -/
import Derived.Test.YtjhlmnbkfdkmpaaSDef
import Derived.Test.YtjhlmnbkfdkmpaaSAlpha
namespace Go.Proofs.Ytjhlmnbkfdkmpaa
open Eng
set_option linter.unusedVariables false
set_option linter.unusedSimpArgs false

/-- Where a question stands, and the questions with it. -/
def placeOf (as : List TAlpha) (a : TAlpha) : Int × List TAlpha := match as.findIdx? (fun x => decide (x = a)) with | some j => ((j : Int), as) | none => ((as.length : Int), as ++ [a])
def addPats : List TAlpha → List Int → List Int → List TPat → List TAlpha × List Int × List Int
  | as, p, n, [] => (as, p, n)
  | as, p, n, x :: t => if x.Not then addPats (placeOf as (alphaOf x)).2 p (n ++ [(placeOf as (alphaOf x)).1]) t else addPats (placeOf as (alphaOf x)).2 (p ++ [(placeOf as (alphaOf x)).1]) n t
def addRules : List TAlpha → List TChain → List TRule → TNet
  | as, cs, [] => ⟨as, cs⟩
  | as, cs, r :: t => addRules (addPats as [] [] r.Pats).1 (cs ++ [⟨(addPats as [] [] r.Pats).2.1, (addPats as [] [] r.Pats).2.2⟩]) t
def netOf (d : TDef) : TNet := addRules [] [] d.Rules

/-! ### Sizes -/
theorem alphaOf_sz {p : TPat} (h : p.Args.length ≤ 1048576) : SzAlpha (alphaOf p) := by
  have h1 := consts_len p.Args
  have h2 := ats_len p.Args 0
  exact ⟨by show (consts p.Args).length ≤ _; omega, by show (ats 0 p.Args).length ≤ _; omega⟩
theorem placeOf_len (as : List TAlpha) (a : TAlpha) : (placeOf as a).2.length ≤ as.length + 1 ∧ as.length ≤ (placeOf as a).2.length := by
  unfold placeOf
  split <;> simp
theorem placeOf_all {P : TAlpha → Prop} {as : List TAlpha} {a : TAlpha} (h : ∀ x ∈ as, P x) (ha : P a) : ∀ x ∈ (placeOf as a).2, P x := by
  unfold placeOf
  split
  · exact h
  · intro x hx
    rcases List.mem_append.1 hx with h1 | h1
    · exact h x h1
    · simp at h1; rw [h1]; exact ha
theorem addPats_all {P : TAlpha → Prop} : ∀ (t : List TPat) (as : List TAlpha) (p n : List Int), (∀ x ∈ as, P x) → (∀ x ∈ t, P (alphaOf x)) → ∀ x ∈ (addPats as p n t).1, P x
  | [], as, p, n, h, _ => h
  | x :: t, as, p, n, h, ht => by
    unfold addPats
    have := placeOf_all h (ht x (by simp))
    split
    · exact addPats_all t _ _ _ this fun y hy => ht y (by simp [hy])
    · exact addPats_all t _ _ _ this fun y hy => ht y (by simp [hy])
theorem addPats_len : ∀ (t : List TPat) (as : List TAlpha) (p n : List Int), (addPats as p n t).1.length ≤ as.length + t.length ∧ (addPats as p n t).2.1.length + (addPats as p n t).2.2.length = p.length + n.length + t.length
  | [], as, p, n => by simp [addPats]
  | x :: t, as, p, n => by
    have h1 := (placeOf_len as (alphaOf x)).1
    unfold addPats
    split
    · have := addPats_len t (placeOf as (alphaOf x)).2 p (n ++ [(placeOf as (alphaOf x)).1])
      simp only [List.length_append, List.length_cons, List.length_nil] at this ⊢
      omega
    · have := addPats_len t (placeOf as (alphaOf x)).2 (p ++ [(placeOf as (alphaOf x)).1]) n
      simp only [List.length_append, List.length_cons, List.length_nil] at this ⊢
      omega
def nPats (l : List TRule) : Nat := (l.map fun r => r.Pats.length).sum
theorem nPats_cons (r : TRule) (t : List TRule) : nPats (r :: t) = r.Pats.length + nPats t := by simp [nPats]
/-- Sizes that networks need. -/
def SzNetD (rs : List TRule) : Prop := rs.length ≤ 1048576 ∧ nPats rs ≤ 1048576 ∧ ∀ r ∈ rs, ∀ p ∈ r.Pats, p.Args.length ≤ 1048576

/-! ### The program -/
theorem alphaAt_i {N : Nat} (hN : 1099000000000 ≤ N) (as : List TAlpha) (cs : List TChain) (p : TPat) (hp : p.Args.length ≤ 1048576) (hl : as.length ≤ 4194304) (h : ∀ a ∈ as, SzAlpha a) :
    m_i_Net_alphaAt N ⟨as, cs⟩ p = some ((placeOf as (alphaOf p)).1, ⟨(placeOf as (alphaOf p)).2, cs⟩) := by
  unfold m_i_Net_alphaAt
  rw [alpha_i hN p hp, Option.bind_some]
  have lp : ∀ (n i : Nat), i ≤ as.length → as.length - i < n → m_i_Net_alphaAt_l1 N ⟨as, cs⟩ (alphaOf p) n i =
      some (match (as.drop i).findIdx? (fun x => decide (x = alphaOf p)) with | some j => ((i + j : Nat) : Int) | none => (as.length : Int), ⟨match (as.drop i).findIdx? (fun x => decide (x = alphaOf p)) with | some j => as | none => as ++ [alphaOf p], cs⟩) := by
    intro n
    induction n with
    | zero => intro i _ h; omega
    | succ n ih =>
      intro i hi hn
      by_cases hlt : i < as.length
      · have c1 : decide ((i : Int) < (as.length : Int)) = true := decide_eq_true (by omega)
        rw [List.drop_eq_getElem_cons hlt, List.findIdx?_cons]
        simp only [m_i_Net_alphaAt_l1, c1, if_true, idx_nat_lt hlt, Option.bind_some, sameA_i hN _ _ (h _ (List.getElem_mem hlt)), wr1 i (by omega), ih (i + 1) (by omega) (by omega)]
        by_cases he : as[i] = alphaOf p
        · simp [he]
        · simp only [he, decide_false, Bool.false_eq_true, if_false]
          cases (as.drop (i + 1)).findIdx? (fun x => decide (x = alphaOf p)) with
          | none => rfl
          | some j => simp only [Option.map_some]; rw [show i + (j + 1) = i + 1 + j by omega]
      · have c1 : decide ((i : Int) < (as.length : Int)) = false := decide_eq_false (by omega)
        rw [List.drop_of_length_le (by omega)]
        simp only [m_i_Net_alphaAt_l1, c1, Bool.false_eq_true, if_false, app_ok (show as.length + [alphaOf p].length ≤ 4294967296 by simp; omega), Option.bind_some, List.findIdx?_nil]
        have e : IntKind.i64.wrap (((as ++ [alphaOf p]).length : Int) - 1) = (as.length : Int) := by
          rw [wr (by simp only [List.length_append, List.length_cons, List.length_nil]; omega) (by simp only [List.length_append, List.length_cons, List.length_nil]; omega)]; simp only [List.length_append, List.length_cons, List.length_nil]; omega
        rw [e]
  have := lp N 0 (by omega) (by omega)
  rw [show ((0 : Nat) : Int) = 0 from rfl, List.drop_zero] at this
  rw [this]
  unfold placeOf
  cases as.findIdx? (fun x => decide (x = alphaOf p)) <;> simp
theorem netIn_i {N : Nat} (hN : 1099000000000 ≤ N) (d : TDef) (h : SzNetD d.Rules) : m_i_netIn N d = some (netOf d) := by
  obtain ⟨h1, h2, h3⟩ := h
  unfold m_i_netIn netOf
  refine lp' hN d.Rules (by omega) (fun n (s : List TAlpha × List TChain) i => m_i_netIn_l1 N d n s.1 s.2 i) (fun t s => some (addRules s.1 s.2 t)) (fun s t => s.1.length + nPats t ≤ 1048576 ∧ s.2.length + t.length ≤ 1048576 ∧ ∀ a ∈ s.1, SzAlpha a) ([], []) ⟨by simpa using h2, by simpa using h1, by simp⟩ (fun n s i r t g1 g2 g3 g4 g5 g6 gI ih => ?_) (fun n s i g1 g2 gI => ?_)
  · obtain ⟨i1, i2, i3⟩ := gI
    rw [nPats_cons] at i1
    simp only [List.length_cons] at i2
    simp only [m_i_netIn_l1, g5, if_true, g4, Option.bind_some, addRules]
    have key : ∀ (as : List TAlpha), as.length + r.Pats.length + nPats t ≤ 1048576 → (∀ a ∈ as, SzAlpha a) → m_i_netIn_l2 N s.2 (i : Int) (m_i_netIn_l1 N d n) r N as [] [] 0 = some (addRules (addPats as [] [] r.Pats).1 (s.2 ++ [⟨(addPats as [] [] r.Pats).2.1, (addPats as [] [] r.Pats).2.2⟩]) t) := by
      intro as ha hz
      refine lp' hN r.Pats (by omega) (fun m (u : List TAlpha × List Int × List Int) k => m_i_netIn_l2 N s.2 (i : Int) (m_i_netIn_l1 N d n) r m u.1 u.2.1 u.2.2 k) (fun l u => some (addRules (addPats u.1 u.2.2 u.2.1 l).1 (s.2 ++ [⟨(addPats u.1 u.2.2 u.2.1 l).2.1, (addPats u.1 u.2.2 u.2.1 l).2.2⟩]) t))
        (fun u l => u.1.length + l.length + nPats t ≤ 1048576 ∧ u.2.1.length + u.2.2.length + l.length ≤ 1048576 ∧ ∀ a ∈ u.1, SzAlpha a) (as, [], []) ⟨ha, by simp; omega, hz⟩ (fun m u k p l f1 f2 f3 f4 f5 f6 fI fh => ?_) (fun m u k f1 f2 fI => ?_)
      · obtain ⟨j1, j2, j3⟩ := fI
        simp only [List.length_cons] at j1 j2
        have hp := h3 r g2 p f2
        have hpl := (placeOf_len u.1 (alphaOf p)).1
        have hall := placeOf_all j3 (alphaOf_sz hp)
        simp only [m_i_netIn_l2, f5, if_true, f4, Option.bind_some, alphaAt_i hN u.1 s.2 p hp (by omega) j3, f6, addPats]
        cases hnot : p.Not with
        | true =>
          simp only [if_true, app_ok (show u.2.1.length + [(placeOf u.1 (alphaOf p)).1].length ≤ 4294967296 by simp; omega), Option.bind_some]
          exact fh ((placeOf u.1 (alphaOf p)).2, u.2.1 ++ [(placeOf u.1 (alphaOf p)).1], u.2.2) ⟨by simp only; omega, by simp; omega, hall⟩
        | false =>
          simp only [Bool.false_eq_true, if_false, app_ok (show u.2.2.length + [(placeOf u.1 (alphaOf p)).1].length ≤ 4294967296 by simp; omega), Option.bind_some]
          exact fh ((placeOf u.1 (alphaOf p)).2, u.2.1, u.2.2 ++ [(placeOf u.1 (alphaOf p)).1]) ⟨by simp only; omega, by simp; omega, hall⟩
      · obtain ⟨j1, j2, j3⟩ := fI
        simp only [m_i_netIn_l2, f2, Bool.false_eq_true, if_false, app_ok (show s.2.length + [(⟨u.2.2, u.2.1⟩ : TChain)].length ≤ 4294967296 by simp; omega), Option.bind_some, g6, addPats]
        exact ih (u.1, s.2 ++ [⟨u.2.2, u.2.1⟩]) ⟨by simp only [List.length_nil] at j1 ⊢; omega, by simp; omega, j3⟩
    exact key s.1 (by omega) i3
  · simp only [m_i_netIn_l1, g2, Bool.false_eq_true, if_false]; rfl
theorem nPats_le {B : Nat} : ∀ {l : List TRule}, (∀ r ∈ l, r.Pats.length ≤ B) → nPats l ≤ l.length * B
  | [], _ => by simp [nPats]
  | p :: t, h => by
    have h1 := nPats_le (l := t) fun q hq => h q (by simp [hq])
    have h2 := h p (by simp)
    rw [nPats_cons, List.length_cons, Nat.succ_mul]; omega
theorem patsFrom_all {c : Nat} : ∀ (l : List TPat) (i : Nat), patsFrom c i l = true → ∀ p ∈ l, okPat p = true
  | [], _, _, p, hp => by cases hp
  | x :: t, i, h, p, hp => by
    unfold patsFrom at h
    simp only [Bool.and_eq_true] at h
    rcases List.mem_cons.1 hp with rfl | hp
    · exact h.1
    · exact patsFrom_all t _ h.2.2 p hp
/-- A right definition is small enough. -/
theorem okDef_net {d : TDef} (hd : okDef d = true) : SzNetD d.Rules := by
  have h1 : d.Rules.length ≤ 12 := by
    unfold okDef at hd
    simp only [Bool.and_eq_true, decide_eq_true_eq] at hd
    exact hd.2.1.2
  have h2 : ∀ r ∈ d.Rules, okPats r.Pats = true := fun r hr => by
    have := okDef_rule hd r hr
    unfold okRule at this
    simp only [Bool.and_eq_true] at this
    exact this.2.2.1
  have h3 : ∀ r ∈ d.Rules, r.Pats.length ≤ 6 := fun r hr => by
    have := h2 r hr
    unfold okPats at this
    simp only [Bool.and_eq_true, decide_eq_true_eq] at this
    exact this.1.2
  have h4 := nPats_le h3
  refine ⟨by omega, by omega, fun r hr p hp => ?_⟩
  have := h2 r hr
  unfold okPats at this
  simp only [Bool.and_eq_true, decide_eq_true_eq] at this
  have h5 := patsFrom_all _ _ this.2.2 p hp
  unfold okPat at h5
  simp only [Bool.and_eq_true, decide_eq_true_eq] at h5
  omega
theorem netOf_i {N : Nat} (hN : 1099000000000 ≤ N) (d : TDef) (h : SzDef d) : m_i_NetOf N d = some (if okDef d = true then netOf d else ⟨[], []⟩) := by
  unfold m_i_NetOf
  rw [def_i hN d h, Option.bind_some]
  cases hd : okDef d with
  | false => simp
  | true => simp [netIn_i hN d (okDef_net hd)]
end Go.Proofs.Ytjhlmnbkfdkmpaa
