/- Plain laws: what the network of a definition has. -/
import Derived.Test.YtjangilipfjcmaaGreatSNetD
namespace Go.Proofs.YtjangilipfjcmaaGreat
open Eng
set_option linter.unusedVariables false
set_option linter.unusedSimpArgs false

def SzNet (n : TNet) : Prop := (n.Alphas.length ≤ 1048576 ∧ ∀ a ∈ n.Alphas, SzAlpha a) ∧ n.Chains.length ≤ 1048576 ∧ ∀ c ∈ n.Chains, c.Pos.length ≤ 1048576 ∧ c.Neg.length ≤ 1048576
/-! ### What the network of a definition has -/
theorem placeOf_idx {as : List TAlpha} {a : TAlpha} (hl : as.length ≤ 4611686018427387900) : idx (placeOf as a).2 (placeOf as a).1 = some a := by
  unfold placeOf
  split
  · rename_i j h
    rw [List.findIdx?_eq_some_iff_getElem] at h
    obtain ⟨hj, h1, _⟩ := h
    simp only [idx_nat_lt hj]
    simpa using h1
  · simp only
    rw [idx_nat_lt (by simp)]
    simp
theorem idx_app {α : Type} {xs ys : List α} {i : Int} {a : α} (h : idx xs i = some a) : idx (xs ++ ys) i = some a := by
  obtain ⟨h0, h1, e⟩ := idx_some h
  unfold idx
  rw [if_pos h0, List.getElem?_append_left (by omega)]
  exact e
theorem placeOf_ext (as : List TAlpha) (a : TAlpha) : ∃ u, (placeOf as a).2 = as ++ u := by
  unfold placeOf
  split
  · exact ⟨[], by simp⟩
  · exact ⟨[a], rfl⟩
theorem placeOf_nodup {as : List TAlpha} {a : TAlpha} (h : as.Nodup) : (placeOf as a).2.Nodup := by
  unfold placeOf
  split
  · exact h
  · rename_i hn
    rw [List.findIdx?_eq_none_iff] at hn
    refine List.nodup_append.2 ⟨h, by simp, ?_⟩
    intro x hx y hy hxy
    simp at hy; subst hy; subst hxy
    have := hn x hx
    simp at this
/-- Each of the places is that of the pattern beside it. -/
def At (A : List TAlpha) : List Int → List TPat → Prop
  | [], [] => True
  | i :: l, p :: t => idx A i = some (alphaOf p) ∧ At A l t
  | _, _ => False
theorem At.ext {A u : List TAlpha} : ∀ {l : List Int} {t : List TPat}, At A l t → At (A ++ u) l t
  | [], [], _ => trivial
  | i :: l, p :: t, h => ⟨idx_app h.1, h.2.ext⟩
theorem At.snoc {A : List TAlpha} {i : Int} {p : TPat} (h2 : idx A i = some (alphaOf p)) : ∀ {l : List Int} {t : List TPat}, At A l t → At A (l ++ [i]) (t ++ [p])
  | [], [], _ => ⟨h2, trivial⟩
  | i :: l, p :: t, h => ⟨h.1, h.2.snoc h2⟩
theorem At.len {A : List TAlpha} : ∀ {l : List Int} {t : List TPat}, At A l t → l.length = t.length
  | [], [], _ => rfl
  | i :: l, p :: t, h => by simp [h.2.len]
theorem At.get {A : List TAlpha} : ∀ {l : List Int} {t : List TPat}, At A l t → ∀ (k : Nat) (h1 : k < l.length) (h2 : k < t.length), idx A l[k] = some (alphaOf t[k])
  | [], [], _, k, h1, _ => by simp at h1
  | i :: l, p :: t, h, 0, _, _ => h.1
  | i :: l, p :: t, h, k + 1, h1, h2 => h.2.get k (by simpa using h1) (by simpa using h2)
theorem addPats_at : ∀ (t : List TPat) (as : List TAlpha) (p n : List Int) (pp nn : List TPat), as.length + t.length ≤ 4194304 → as.Nodup → At as p pp → At as n nn →
    (∃ u, (addPats as p n t).1 = as ++ u) ∧ (addPats as p n t).1.Nodup ∧ At (addPats as p n t).1 (addPats as p n t).2.1 (pp ++ t.filter fun x => !x.Not) ∧ At (addPats as p n t).1 (addPats as p n t).2.2 (nn ++ t.filter fun x => x.Not)
  | [], as, p, n, pp, nn, _, hd, h1, h2 => ⟨⟨[], by simp [addPats]⟩, hd, by simpa [addPats] using h1, by simpa [addPats] using h2⟩
  | x :: t, as, p, n, pp, nn, hl, hd, h1, h2 => by
    simp only [List.length_cons] at hl
    obtain ⟨u, hu⟩ := placeOf_ext as (alphaOf x)
    have hpl := (placeOf_len as (alphaOf x)).1
    have hid := placeOf_idx (as := as) (a := alphaOf x) (by omega)
    have hnd := placeOf_nodup (a := alphaOf x) hd
    have h1' : At (placeOf as (alphaOf x)).2 p pp := by rw [hu]; exact h1.ext
    have h2' : At (placeOf as (alphaOf x)).2 n nn := by rw [hu]; exact h2.ext
    unfold addPats
    cases hx : x.Not with
    | true =>
      simp only [if_true, List.filter_cons, hx, Bool.not_true, Bool.false_eq_true, if_false]
      obtain ⟨⟨w, e⟩, g1, g2, g3⟩ := addPats_at t _ p (n ++ [(placeOf as (alphaOf x)).1]) pp (nn ++ [x]) (by omega) hnd h1' (h2'.snoc hid)
      exact ⟨⟨u ++ w, by rw [e, hu, List.append_assoc]⟩, g1, g2, by simpa using g3⟩
    | false =>
      simp only [Bool.false_eq_true, if_false, List.filter_cons, hx, Bool.not_false, if_true]
      obtain ⟨⟨w, e⟩, g1, g2, g3⟩ := addPats_at t _ (p ++ [(placeOf as (alphaOf x)).1]) n (pp ++ [x]) nn (by omega) hnd (h1'.snoc hid) h2'
      exact ⟨⟨u ++ w, by rw [e, hu, List.append_assoc]⟩, g1, by simpa using g2, g3⟩
/-- Each chain is that of the rule beside it. -/
def Ats (A : List TAlpha) : List TChain → List TRule → Prop
  | [], [] => True
  | c :: l, r :: t => (At A c.Pos (r.Pats.filter fun x => !x.Not) ∧ At A c.Neg (r.Pats.filter fun x => x.Not)) ∧ Ats A l t
  | _, _ => False
theorem Ats.ext {A u : List TAlpha} : ∀ {l : List TChain} {t : List TRule}, Ats A l t → Ats (A ++ u) l t
  | [], [], _ => trivial
  | i :: l, p :: t, h => ⟨⟨h.1.1.ext, h.1.2.ext⟩, h.2.ext⟩
theorem Ats.snoc {A : List TAlpha} {c : TChain} {r : TRule} (h2 : At A c.Pos (r.Pats.filter fun x => !x.Not) ∧ At A c.Neg (r.Pats.filter fun x => x.Not)) : ∀ {l : List TChain} {t : List TRule}, Ats A l t → Ats A (l ++ [c]) (t ++ [r])
  | [], [], _ => ⟨h2, trivial⟩
  | i :: l, p :: t, h => ⟨h.1, h.2.snoc h2⟩
theorem Ats.len {A : List TAlpha} : ∀ {l : List TChain} {t : List TRule}, Ats A l t → l.length = t.length
  | [], [], _ => rfl
  | i :: l, p :: t, h => by simp [h.2.len]
theorem Ats.get {A : List TAlpha} : ∀ {l : List TChain} {t : List TRule}, Ats A l t → ∀ (k : Nat) (h1 : k < l.length) (h2 : k < t.length), At A l[k].Pos (t[k].Pats.filter fun x => !x.Not) ∧ At A l[k].Neg (t[k].Pats.filter fun x => x.Not)
  | [], [], _, k, h1, _ => by simp at h1
  | i :: l, p :: t, h, 0, _, _ => h.1
  | i :: l, p :: t, h, k + 1, h1, h2 => h.2.get k (by simpa using h1) (by simpa using h2)
theorem addRules_at : ∀ (t : List TRule) (as : List TAlpha) (cs : List TChain) (rr : List TRule), as.length + nPats t ≤ 4194304 → as.Nodup → Ats as cs rr →
    (addRules as cs t).Alphas.Nodup ∧ Ats (addRules as cs t).Alphas (addRules as cs t).Chains (rr ++ t) ∧ (addRules as cs t).Alphas.length ≤ as.length + nPats t
  | [], as, cs, rr, _, hd, h => ⟨hd, by simpa [addRules] using h, by simp [addRules, nPats]⟩
  | r :: t, as, cs, rr, hl, hd, h => by
    rw [nPats_cons] at hl
    obtain ⟨⟨u, e⟩, g1, g2, g3⟩ := addPats_at r.Pats as [] [] [] [] (by omega) hd trivial trivial
    have h4 := (addPats_len r.Pats as [] []).1
    have := addRules_at t (addPats as [] [] r.Pats).1 (cs ++ [⟨(addPats as [] [] r.Pats).2.1, (addPats as [] [] r.Pats).2.2⟩]) (rr ++ [r]) (by omega) g1 (Ats.snoc ⟨by simpa using g2, by simpa using g3⟩ (by rw [e]; exact h.ext))
    unfold addRules
    rw [nPats_cons]
    refine ⟨this.1, by simpa using this.2.1, by have := this.2.2; omega⟩
theorem netOf_at {d : TDef} (h : SzNetD d.Rules) : (netOf d).Alphas.Nodup ∧ Ats (netOf d).Alphas (netOf d).Chains d.Rules ∧ (netOf d).Alphas.length ≤ nPats d.Rules := by
  have h2 := h.2.1
  have := addRules_at d.Rules [] [] [] (by simp; omega) (by simp) trivial
  unfold netOf
  refine ⟨this.1, by simpa using this.2.1, by simpa using this.2.2⟩
theorem filt_len : ∀ (l : List TPat), (l.filter fun x => !x.Not).length + (l.filter fun x => x.Not).length = l.length
  | [] => rfl
  | p :: t => by
    have := filt_len t
    simp only [List.filter_cons]
    cases p.Not <;> simp <;> omega
theorem filt_count : ∀ (l : List TPat), (l.filter fun x => !x.Not).length = posCount l
  | [] => rfl
  | p :: t => by
    have := filt_count t
    simp only [List.filter_cons, posCount]
    cases p.Not <;> simp [this]
theorem Ats_mem {A : List TAlpha} {l : List TChain} {t : List TRule} (h : Ats A l t) : ∀ c ∈ l, ∃ r ∈ t, c.Pos.length + c.Neg.length = r.Pats.length := by
  intro c hc
  obtain ⟨k, hk, rfl⟩ := List.getElem_of_mem hc
  have hk' : k < t.length := by rw [← h.len]; exact hk
  have := h.get k hk hk'
  exact ⟨_, List.getElem_mem hk', by rw [this.1.len, this.2.len, filt_len]⟩
theorem addRules_all {P : TAlpha → Prop} : ∀ (t : List TRule) (as : List TAlpha) (cs : List TChain), (∀ x ∈ as, P x) → (∀ r ∈ t, ∀ p ∈ r.Pats, P (alphaOf p)) → ∀ x ∈ (addRules as cs t).Alphas, P x
  | [], as, cs, h, _ => h
  | r :: t, as, cs, h, ht => by
    unfold addRules
    exact addRules_all t _ _ (addPats_all r.Pats as [] [] h (ht r (by simp))) fun q hq => ht q (by simp [hq])
theorem nPats_mem : ∀ {l : List TRule} {r : TRule}, r ∈ l → r.Pats.length ≤ nPats l
  | x :: t, r, h => by
    rw [nPats_cons]
    rcases List.mem_cons.1 h with rfl | h
    · omega
    · have := nPats_mem h; omega
theorem netOf_sz {d : TDef} (h : SzNetD d.Rules) : SzNet (netOf d) := by
  obtain ⟨h1, h2, h3⟩ := netOf_at h
  obtain ⟨k1, k2, k3⟩ := h
  refine ⟨⟨by omega, addRules_all d.Rules [] [] (by simp) fun r hr p hp => alphaOf_sz (k3 r hr p hp)⟩, by rw [h2.len]; exact k1, fun c hc => ?_⟩
  obtain ⟨r, hr, e⟩ := Ats_mem h2 c hc
  have := nPats_mem hr
  omega
theorem patsFrom_filt {c : Nat} : ∀ (l : List TPat) (i : Nat), patsFrom c i l = true → l.filter (fun x => !x.Not) = l.take (c - i)
  | [], i, _ => by simp
  | p :: t, i, h => by
    unfold patsFrom at h
    simp only [Bool.and_eq_true, beq_iff_eq] at h
    have h1 := h.2.1
    have h2 := patsFrom_filt t (i + 1) h.2.2
    by_cases hc : c ≤ i
    · rw [decide_eq_true hc] at h1
      have e1 : c - i = 0 := by omega
      have e2 : c - (i + 1) = 0 := by omega
      rw [e1, List.take_zero, List.filter_cons, h1]
      rw [e2, List.take_zero] at h2
      simpa using h2
    · rw [decide_eq_false hc] at h1
      obtain ⟨k, hk⟩ : ∃ k, c - i = k + 1 := ⟨c - i - 1, by omega⟩
      have e2 : c - (i + 1) = k := by omega
      rw [hk, List.take_succ_cons, List.filter_cons, h1, ← e2, ← h2]
      simp
theorem okPats_filt {l : List TPat} (h : okPats l = true) : l.filter (fun x => !x.Not) = l.take (posCount l) := by
  unfold okPats at h
  simp only [Bool.and_eq_true] at h
  have := patsFrom_filt l 0 h.2.2
  simpa using this
end Go.Proofs.YtjangilipfjcmaaGreat
