/- Plain laws: what a row of items binds. -/
import Derived.Test.YtjangilipfjcmaaSMatchI
import Derived.Test.YtjangilipfjcmaaSFactOf
namespace Go.Proofs.Ytjangilipfjcmaa
open Eng
set_option linter.unusedVariables false
set_option linter.unusedSimpArgs false

/-- What the items of these Ids bind by these patterns, one by one. -/
def bindsP (xs : List TItem) : List TPat → List Int → List TBind → List TBind × Bool
  | [], [], l => (l, true)
  | p :: t, v :: ids, l => if (factOf xs v).2 = true ∧ (matchPat p (factOf xs v).1 l).2 = true then bindsP xs t ids (matchPat p (factOf xs v).1 l).1 else ([], false)
  | _, _, _ => ([], false)
def pos (l : List TPat) : List TPat := l.filter fun p => !p.Not
theorem bindsP_ne {xs : List TItem} : ∀ {ps : List TPat} {ids : List Int} {l : List TBind}, ps.length ≠ ids.length → bindsP xs ps ids l = ([], false)
  | [], [], l, h => absurd rfl h
  | [], v :: ids, l, h => rfl
  | p :: t, [], l, h => rfl
  | p :: t, v :: ids, l, h => by
    unfold bindsP
    split
    · exact bindsP_ne (by simpa using h)
    · rfl
def sumArgs (l : List TPat) : Nat := (l.map fun p => p.Args.length).sum
theorem sumArgs_cons (p : TPat) (t : List TPat) : sumArgs (p :: t) = p.Args.length + sumArgs t := by simp [sumArgs]
theorem sumArgs_pos : ∀ (l : List TPat), sumArgs (pos l) ≤ sumArgs l
  | [] => by simp [pos]
  | p :: t => by
    have := sumArgs_pos t
    unfold pos at this ⊢
    rw [List.filter_cons, sumArgs_cons]
    split
    · rw [sumArgs_cons]; omega
    · omega
theorem factOf_len {xs : List TItem} (hx : ∀ x ∈ xs, x.F.Fields.length ≤ 1048576) (v : Int) : (factOf xs v).1.Fields.length ≤ 1048576 := by
  unfold factOf
  split
  · rename_i x h; exact hx x (List.mem_of_find?_eq_some h)
  · simp [noFact]
theorem bindsFor_s {N : Nat} (hN : 1099000000000 ≤ N) (r : TRule) (s : TStore) (ids : List Int) (hl : r.Pats.length ≤ 1048576) (ha : sumArgs r.Pats ≤ 1048576) (hp : ∀ p ∈ r.Pats, p.Args.length ≤ 1048576) (hs : s.Items.length ≤ 1048576) (hx : ∀ x ∈ s.Items, x.F.Fields.length ≤ 1048576) (hi : ids.length ≤ 1048576) :
    m_s_BindsFor N r s ids = some (bindsP s.Items (pos r.Pats) ids []) := by
  unfold m_s_BindsFor
  refine (lp' hN r.Pats (by omega) (fun n (u : List TBind × Nat) i => m_s_BindsFor_l1 N r s ids n u.1 (u.2 : Int) i) (fun t u => some (bindsP s.Items (pos t) (ids.drop u.2) u.1)) (fun u t => u.1.length + sumArgs t ≤ 1048576 ∧ u.2 ≤ ids.length) ([], 0) ⟨by simpa using ha, by simp⟩ (fun n u i p t g1 g2 g3 g4 g5 g6 gI ih => ?_) (fun n u i g1 g2 gI => ?_)).trans (by simp)
  · obtain ⟨i1, i2⟩ := gI
    rw [sumArgs_cons] at i1
    simp only [m_s_BindsFor_l1, g5, if_true, g4, Option.bind_some]
    have hpos : pos (p :: t) = if p.Not then pos t else p :: pos t := by
      unfold pos; rw [List.filter_cons]; cases p.Not <;> simp
    rw [hpos]
    cases hn : p.Not with
    | true =>
      simp only [if_true, g6]
      exact ih u ⟨by omega, i2⟩
    | false =>
      simp only [Bool.false_eq_true, if_false]
      by_cases hk : u.2 < ids.length
      · have c1 : decide ((ids.length : Int) ≤ (u.2 : Int)) = false := decide_eq_false (by omega)
        have hml := matchPat_len p (factOf s.Items ids[u.2]).1 u.1
        rw [List.drop_eq_getElem_cons hk]
        simp only [c1, Bool.false_eq_true, if_false, idx_nat_lt hk, Option.bind_some, factOf_s hN s _ hs hx, m_s_BindsFor_j2, g4]
        rw [show (⟨(factOf s.Items ids[u.2]).1.Kind, (factOf s.Items ids[u.2]).1.Fields⟩ : TFact) = (factOf s.Items ids[u.2]).1 from rfl, match_s hN p _ _ (hp p g2) (show u.1.length ≤ 2147483648 by omega)]
        simp only [Option.bind_some, orS, bindsP, wr1 u.2 (by omega), g6]
        cases (factOf s.Items ids[u.2]).2 with
        | false => simp
        | true =>
          cases (matchPat p (factOf s.Items ids[u.2]).1 u.1).2 with
          | false => simp
          | true =>
            simp only [Bool.not_true, Bool.or_self, Bool.false_eq_true, if_false, and_self, if_true]
            exact ih ((matchPat p (factOf s.Items ids[u.2]).1 u.1).1, u.2 + 1) ⟨by simp only; omega, by simp only; omega⟩
      · have c1 : decide ((ids.length : Int) ≤ (u.2 : Int)) = true := decide_eq_true (by omega)
        rw [List.drop_of_length_le (by omega)]
        simp only [c1, if_true, bindsP]
  · obtain ⟨i1, i2⟩ := gI
    simp only [m_s_BindsFor_l1, g2, Bool.false_eq_true, if_false]
    by_cases hk : u.2 = ids.length
    · have c1 : decide ((u.2 : Int) = (ids.length : Int)) = true := decide_eq_true (by omega)
      rw [List.drop_of_length_le (by omega), c1]
      simp [pos, bindsP]
    · have c1 : decide ((u.2 : Int) = (ids.length : Int)) = false := decide_eq_false (by omega)
      rw [c1]
      cases hd : ids.drop u.2 with
      | nil => have := congrArg List.length hd; simp at this; omega
      | cons a b => simp [pos, bindsP]
theorem pats_i {N : Nat} (hN : 1099000000000 ≤ N) (r : TRule) (b : Bool) (hl : r.Pats.length ≤ 1048576) : m_i_pats N r b = some (r.Pats.filter fun p => p.Not == b) := by
  unfold m_i_pats
  refine (lp' hN r.Pats (by omega) (m_i_pats_l1 N r b) (fun t u => some (u ++ t.filter fun p => p.Not == b)) (fun u t => u.length + t.length ≤ 1048576) [] (by simpa using hl) (fun n u i p t g1 g2 g3 g4 g5 g6 gI ih => ?_) (fun n u i g1 g2 gI => ?_)).trans (by simp)
  · simp only [List.length_cons] at gI
    simp only [m_i_pats_l1, g5, if_true, g4, Option.bind_some, List.filter_cons, g6]
    cases hb : (p.Not == b) with
    | true =>
      simp only [if_true, app_ok (show u.length + [p].length ≤ 4294967296 by simp; omega), Option.bind_some]
      rw [ih _ (by simp; omega)]; simp
    | false =>
      simp only [Bool.false_eq_true, if_false]
      exact ih u (by omega)
  · simp only [m_i_pats_l1, g2, Bool.false_eq_true, if_false]; simp
theorem pos_eq (l : List TPat) : (l.filter fun p => p.Not == false) = pos l := by
  unfold pos; congr 1; funext p; cases p.Not <;> rfl
theorem bindsOf_i {N : Nat} (hN : 1099000000000 ≤ N) (ps : List TPat) (s : TStore) (ids : List Int) (ha : sumArgs ps ≤ 1048576) (hp : ∀ p ∈ ps, p.Args.length ≤ 1048576) (hs : s.Items.length ≤ 1048576) (hx : ∀ x ∈ s.Items, x.F.Fields.length ≤ 1048576) (hi : ids.length ≤ 1048576) (he : ids.length = ps.length) :
    m_i_bindsOf N ps s ids = some (bindsP s.Items ps ids []) := by
  unfold m_i_bindsOf
  have lp : ∀ (n i : Nat) (l : List TBind), i ≤ ids.length → ids.length - i < n → l.length + sumArgs (ps.drop i) ≤ 1048576 → m_i_bindsOf_l1 N ps s ids n l i = some (bindsP s.Items (ps.drop i) (ids.drop i) l) := by
    intro n
    induction n with
    | zero => intro i _ _ h; omega
    | succ n ih =>
      intro i l h1 hn hl
      by_cases hlt : i < ids.length
      · have c1 : decide ((i : Int) < (ids.length : Int)) = true := decide_eq_true (by omega)
        have hlt' : i < ps.length := by omega
        rw [List.drop_eq_getElem_cons hlt'] at hl
        rw [sumArgs_cons] at hl
        have hml := matchPat_len ps[i] (factOf s.Items ids[i]).1 l
        rw [List.drop_eq_getElem_cons hlt, List.drop_eq_getElem_cons hlt', bindsP]
        simp only [m_i_bindsOf_l1, c1, if_true, idx_nat_lt hlt, idx_nat_lt hlt', Option.bind_some, factOf_i hN s _ hs hx, match_i hN ps[i] _ l (hp _ (List.getElem_mem hlt')) (show l.length ≤ 2147483648 by omega), wr1 i (by omega)]
        cases (factOf s.Items ids[i]).2 with
        | false => simp
        | true =>
          cases (matchPat ps[i] (factOf s.Items ids[i]).1 l).2 with
          | false => simp
          | true =>
            simp only [Bool.not_true, Bool.false_eq_true, if_false, and_self, if_true]
            exact ih (i + 1) _ (by omega) (by omega) (by omega)
      · have c1 : decide ((i : Int) < (ids.length : Int)) = false := decide_eq_false (by omega)
        simp only [m_i_bindsOf_l1, c1, Bool.false_eq_true, if_false]
        rw [List.drop_of_length_le (by omega), List.drop_of_length_le (by omega)]; rfl
  have := lp N 0 [] (by omega) (by omega) (by simpa using ha)
  simpa using this
theorem bindsFor_i {N : Nat} (hN : 1099000000000 ≤ N) (r : TRule) (s : TStore) (ids : List Int) (hl : r.Pats.length ≤ 1048576) (ha : sumArgs r.Pats ≤ 1048576) (hp : ∀ p ∈ r.Pats, p.Args.length ≤ 1048576) (hs : s.Items.length ≤ 1048576) (hx : ∀ x ∈ s.Items, x.F.Fields.length ≤ 1048576) (hi : ids.length ≤ 1048576) :
    m_i_BindsFor N r s ids = some (bindsP s.Items (pos r.Pats) ids []) := by
  unfold m_i_BindsFor
  rw [pats_i hN r false hl, Option.bind_some, pos_eq]
  by_cases he : ids.length = (pos r.Pats).length
  · have c1 : decide ((ids.length : Int) = ((pos r.Pats).length : Int)) = true := decide_eq_true (by omega)
    have h1 := sumArgs_pos r.Pats
    rw [c1]
    simp only [Bool.not_true, Bool.false_eq_true, if_false, bindsOf_i hN (pos r.Pats) s ids (by omega) (fun p h => hp p ((List.mem_filter.1 h).1)) hs hx hi he, Option.bind_some]
  · have c1 : decide ((ids.length : Int) = ((pos r.Pats).length : Int)) = false := decide_eq_false (by omega)
    rw [c1, bindsP_ne (fun h => he h.symm)]; rfl
theorem bindsP_len {xs : List TItem} : ∀ (ps : List TPat) (ids : List Int) (l : List TBind), (bindsP xs ps ids l).1.length ≤ l.length + sumArgs ps
  | [], [], l => by simp [bindsP]
  | [], v :: ids, l => by simp [bindsP]
  | p :: t, [], l => by simp [bindsP]
  | p :: t, v :: ids, l => by
    have h1 := matchPat_len p (factOf xs v).1 l
    have h2 := bindsP_len (xs := xs) t ids (matchPat p (factOf xs v).1 l).1
    rw [sumArgs_cons]
    unfold bindsP
    split
    · omega
    · simp
theorem bindsP_all {P : TBind → Prop} {xs : List TItem} (h : ∀ x ∈ xs, ∀ v ∈ x.F.Fields, ∀ (n : ByteArray), n.size ≤ 1048576 → P ⟨n, v⟩) : ∀ (ps : List TPat) (ids : List Int) (l : List TBind), (∀ p ∈ ps, ∀ a ∈ p.Args, a.S.size ≤ 1048576) → (∀ x ∈ l, P x) → ∀ x ∈ (bindsP xs ps ids l).1, P x
  | [], [], l, _, hl => by simpa [bindsP] using hl
  | [], v :: ids, l, _, hl => by simp [bindsP]
  | p :: t, [], l, _, hl => by simp [bindsP]
  | p :: t, v :: ids, l, hp, hl => by
    unfold bindsP
    split
    · refine bindsP_all h t ids _ (fun q hq => hp q (by simp [hq])) (matchPat_all hl fun a ha w hw => ?_)
      unfold factOf at hw
      split at hw
      · rename_i x hx
        exact h x (List.mem_of_find?_eq_some hx) w hw _ (hp p (by simp) a ha)
      · simp [noFact] at hw
    · simp
end Go.Proofs.Ytjangilipfjcmaa
