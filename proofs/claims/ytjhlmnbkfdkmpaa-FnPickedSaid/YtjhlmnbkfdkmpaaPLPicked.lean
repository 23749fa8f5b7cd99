/- Plain law of FnPicked: the match that is picked has not fired, and none that has not is more urgent. -/
import Derived.Test.YtjhlmnbkfdkmpaaSPickP
import Derived.Test.YtjhlmnbkfdkmpaaSAll
import Derived.Test.YtjhlmnbkfdkmpaaSDList
import Derived.Test.YtjhlmnbkfdkmpaaSDDef
import Derived.Test.YtjhlmnbkfdkmpaaSDStore
namespace Go.Proofs.Ytjhlmnbkfdkmpaa
open Eng
set_option linter.unusedVariables false
set_option linter.unusedSimpArgs false
theorem rowsP_sz {fin : List Int → List TBind → List TMatch} {n k : Nat} (hf : ∀ ids l, ∀ m ∈ fin ids l, m.Ids = ids ∧ m.Binds = l) (xs : List TItem) : ∀ (ps : List TPat) (ids : List Int) (l : List TBind), ∀ m ∈ rowsP fin xs ps ids l, m.Ids.length = ids.length + ps.length ∧ m.Binds.length ≤ l.length + sumArgs ps
  | [], ids, l, m, hm => by
    obtain ⟨h1, h2⟩ := hf ids l m (by simpa [rowsP] using hm)
    rw [h1, h2]; simp
  | p :: t, ids, l, m, hm => by
    unfold rowsP at hm
    obtain ⟨x, hx, hm⟩ := List.mem_flatMap.1 hm
    split at hm
    · have h1 := rowsP_sz (n := n) (k := k) hf xs t (ids ++ [x.Id]) (matchPat p x.F l).1 m hm
      have h2 := matchPat_len p x.F l
      rw [sumArgs_cons]
      simp only [List.length_append, List.length_cons, List.length_nil] at h1 ⊢
      omega
    · cases hm
theorem finR_sz (r : TRule) (xs : List TItem) : ∀ ids l, ∀ m ∈ finR r xs ids l, m.Ids = ids ∧ m.Binds = l := by
  intro ids l m hm
  unfold finR at hm
  split at hm
  · simp at hm; rw [hm]; exact ⟨rfl, rfl⟩
  · cases hm
theorem drPats_count {l : List TPat} (h : drPats l) : posCount l ≤ 3 := by
  obtain ⟨ps, ns, rfl, h1, h2, h3, h4, h5⟩ := h
  have pc : ∀ (u v : List TPat), posCount (u ++ v) = posCount u + posCount v := by
    intro u v
    induction u with
    | nil => simp [posCount]
    | cons p t ih =>
      have e1 : posCount (p :: (t ++ v)) = if p.Not then posCount (t ++ v) else posCount (t ++ v) + 1 := rfl
      have e2 : posCount (p :: t) = if p.Not then posCount t else posCount t + 1 := rfl
      rw [List.cons_append, e1, e2, ih]; split <;> omega
  have hn0 : ∀ v : List TPat, (∀ p ∈ v, drPat true p) → posCount v = 0 := by
    intro v
    induction v with
    | nil => intro _; rfl
    | cons p t ih =>
      intro h
      unfold posCount
      rw [(h p (by simp)).1, if_pos rfl]
      exact ih (fun q hq => h q (by simp [hq]))
  have hn := hn0 ns h5
  have := posCount_le ps
  rw [pc, hn]; omega
theorem drRows {nm : ByteArray} {r : TRule} (h : drRule nm r) {s : TStore} (hs : drStore s) : SzRows r s ∧ (rowsOf r s.Items).length ≤ 512 ∧ ∀ m ∈ rowsOf r s.Items, ShM' m := by
  have hp := h.2.2.1
  have h1 := drPats_len hp
  have h2 := drPats_count hp
  have h3 : sumArgs r.Pats ≤ 8 := drPats_args hp
  have h4 : s.Items.length ≤ 8 := by have := hs.1; have := hs.2.2.1; omega
  have h5 : s.Items.length ^ posCount r.Pats ≤ 512 := Nat.le_trans (Nat.pow_le_pow_left h4 _) (Nat.le_trans (Nat.pow_le_pow_right (by omega) h2) (by decide))
  have hz : SzRows r s := ⟨by omega, fun p hp' => by obtain ⟨n, hn⟩ := drPats_pat hp p hp'; have := hn.2.2.1; omega, by omega, by have := h.2.2.2.1.1; omega, by omega, by omega⟩
  refine ⟨hz, ?_, fun m hm => ?_⟩
  · have a1 := rowsP_len (finR_len r s.Items) s.Items (r.Pats.take (posCount r.Pats)) [] []
    rw [List.length_take, Nat.min_eq_left (posCount_le r.Pats)] at a1
    exact Nat.le_trans a1 h5
  · have a1 := rowsP_sz (n := 0) (k := 0) (finR_sz r s.Items) s.Items (r.Pats.take (posCount r.Pats)) [] [] m hm
    have a2 := sumArgs_take (posCount r.Pats) r.Pats
    rw [List.length_take] at a1
    simp only [List.length_nil] at a1
    exact ⟨by omega, by omega⟩
theorem allFrom_sh {xs : List TItem} : ∀ (t : List TRule) (i : Nat), (∀ r ∈ t, ∀ m ∈ rowsOf r xs, ShM' m) → ∀ m ∈ allFrom xs i t, ShM' m
  | [], i, _, m, hm => by simp [allFrom] at hm
  | r :: t, i, h, m, hm => by
    unfold allFrom at hm
    rcases List.mem_append.1 hm with hm | hm
    · obtain ⟨x, hx, rfl⟩ := List.mem_map.1 hm
      exact h r (by simp) x hx
    · exact allFrom_sh t (i + 1) (fun y hy => h y (by simp [hy])) m hm
theorem drMatch_sh {m : TMatch} (h : drMatch m) : ShM' m := ⟨by have := h.1; omega, by rw [h.2.1]; simp⟩
theorem pick_d {N : Nat} (hN : 1099400000000 ≤ N) {b : List Int} (hb : b.length ≤ 1048576) : ∃ d set fs, m_s_DrawPickMatch N b = some (d, set, fs) ∧ set.length ≤ 1048576 ∧ fs.length ≤ 1048576 ∧ (∀ m ∈ set, ShM' m) ∧ ∀ m ∈ fs, ShM' m := by
  have hN' : 1099000000000 ≤ N := by omega
  unfold m_s_DrawPickMatch
  obtain ⟨c, e0, g0⟩ := new_ok hN' b hb
  rw [e0, Option.bind_some]
  obtain ⟨d, c1, e1, g1, hd⟩ := def_d hN' hb g0
  rw [e1, Option.bind_some]
  obtain ⟨s, c2, e2, g2, hs⟩ := store_d hN' hb (g1.at g0.1)
  simp only [e2, Option.bind_some]
  have hr : ∀ r ∈ d.Rules, SzRows r s ∧ (rowsOf r s.Items).length ≤ 512 ∧ ∀ m ∈ rowsOf r s.Items, ShM' m := fun r hr => by
    obtain ⟨i, hi, e⟩ := List.getElem_of_mem hr
    obtain ⟨nm, _, h2⟩ := hd.2.2.2 i r (by rw [List.getElem?_eq_getElem hi, e])
    exact drRows h2 hs
  have hl4 := hd.2.2.1
  have ha := all_s hN d s (by omega) (fun r h => (hr r h).1) 512 (fun r h => (hr r h).2.1) (by omega)
  have hal := allFrom_len (xs := s.Items) (M := 512) d.Rules 0 fun r h => (hr r h).2.1
  have hash := allFrom_sh (xs := s.Items) d.Rules 0 fun r h => (hr r h).2.2
  rw [ha, Option.bind_some]
  have l3 : ∀ (set : List TMatch), set.length ≤ 1048576 → (∀ m ∈ set, ShM' m) → ∀ (n i : Nat) (u : List TMatch) (x h : Int), i ≤ set.length → set.length - i < n → u.length ≤ i → (∀ m ∈ u, ShM' m) → GC b ⟨c.b, x, h⟩ →
      ∃ fs, m_s_DrawPickMatch_l3 N c (d, c1) set n u i x h = some (d, set, fs) ∧ fs.length ≤ 1048576 ∧ ∀ m ∈ fs, ShM' m := by
    intro set hset hsh n
    induction n with
    | zero => intro i _ _ _ _ h; omega
    | succ n ih =>
      intro i u x h hi hn hu hus gx
      simp only [m_s_DrawPickMatch_l3]
      by_cases hlt : i < set.length
      · have k1 : decide ((i : Int) < (set.length : Int)) = true := decide_eq_true (by omega)
        obtain ⟨q, c3, e3, g3, -⟩ := once_d (N := N) hb gx 3
        rw [k1]
        simp only [if_true, e3, Option.bind_some, idx_nat_lt hlt, wr1 i (by omega), app_ok (show u.length + [set[i]].length ≤ 4294967296 by simp; omega)]
        cases q with
        | true => simpa using ih (i + 1) (u ++ [set[i]]) _ _ (by omega) (by omega) (by simp; omega) (mem_snoc hus (hsh _ (List.getElem_mem hlt))) (g3.at (c := ⟨c.b, x, h⟩) gx.1)
        | false => simpa using ih (i + 1) u _ _ (by omega) (by omega) (by omega) hus (g3.at (c := ⟨c.b, x, h⟩) gx.1)
      · have k1 : decide ((i : Int) < (set.length : Int)) = false := decide_eq_false (by omega)
        rw [k1]
        simp only [Bool.false_eq_true, if_false]
        exact ⟨u, rfl, by omega, hus⟩
  have j2 : ∀ (set : List TMatch), set.length ≤ 1048576 → (∀ m ∈ set, ShM' m) → ∀ (x h : Int), GC b ⟨c.b, x, h⟩ → ∃ d' set' fs, m_s_DrawPickMatch_j2 N c (d, c1) set x h = some (d', set', fs) ∧ set'.length ≤ 1048576 ∧ fs.length ≤ 1048576 ∧ (∀ m ∈ set', ShM' m) ∧ ∀ m ∈ fs, ShM' m := by
    intro set h1 h2 x h gx
    obtain ⟨fs, e, f1, f2⟩ := l3 set h1 h2 N 0 [] x h (by omega) (by omega) (by simp) (by simp) gx
    exact ⟨d, set, fs, e, h1, f1, h2, f2⟩
  have j1 : ∀ (q : Bool) (x h : Int), GC b ⟨c.b, x, h⟩ → ∃ d' set' fs, m_s_DrawPickMatch_j1 N c (d, c1) (allFrom s.Items 0 d.Rules) q x h = some (d', set', fs) ∧ set'.length ≤ 1048576 ∧ fs.length ≤ 1048576 ∧ (∀ m ∈ set', ShM' m) ∧ ∀ m ∈ fs, ShM' m := by
    intro q x h gx
    unfold m_s_DrawPickMatch_j1
    cases q with
    | true =>
      obtain ⟨l, c3, e3, g3, h1, h2⟩ := list_d hN' hb gx
      simp only [if_true, e3, Option.bind_some]
      exact j2 l (by omega) (fun m hm => drMatch_sh (h2 m hm)) _ _ (g3.at (c := ⟨c.b, x, h⟩) gx.1)
    | false =>
      simp only [Bool.false_eq_true, if_false]
      exact j2 _ (by omega) hash _ _ gx
  have g2' := g2.at (c := ⟨c.b, c1.i, c1.h⟩) g0.1
  split
  · exact j1 true _ _ g2'
  · obtain ⟨q, c3, e3, g3, -⟩ := once_d (N := N) hb g2' 3
    simp only [e3, Option.bind_some]
    exact j1 q _ _ (g3.at (c := ⟨c.b, c2.i, c2.h⟩) g0.1)
theorem picked_loop {N : Nat} (hN : 1099000000000 ≤ N) (d : TDef) (l fs : List TMatch) (m : TMatch) (hl : l.length ≤ 1048576) (hf : fs.length ≤ 1048576) (h1 : ∀ m ∈ l, ShM' m) (h2 : ∀ m ∈ fs, m.Ids.length ≤ 1048576) (hp : pick d fs l none = some m) : m_l_FnPicked_l1 N (d, l, fs) (m, true) N false 0 = some true := by
  obtain ⟨q1, q2⟩ := picked_max (d := d) (fs := fs) (l := l)
  obtain ⟨qa, qb⟩ := q1 m hp
  have nf : fired fs m = false := by
    unfold mayFire at qa
    simp only [Bool.and_eq_true, Bool.not_eq_true'] at qa
    exact qa.2
  have lp : ∀ (n i : Nat) (s : Bool), i ≤ l.length → l.length - i < n → (s = true ∨ m ∈ l.drop i) → m_l_FnPicked_l1 N (d, l, fs) (m, true) n s i = some true := by
    intro n
    induction n with
    | zero => intro i _ _ h; omega
    | succ n ih =>
      intro i s hi hn hs
      simp only [m_l_FnPicked_l1]
      by_cases hlt : i < l.length
      · have k1 : decide ((i : Int) < (l.length : Int)) = true := decide_eq_true (by omega)
        have hx := h1 _ (List.getElem_mem hlt)
        simp only [k1, if_true, idx_nat_lt hlt, Option.bind_some, same_i (show 1048578 ≤ N by omega) l[i] m hx.1, fired_i' hN fs l[i] hf h2, urg_i hN d l[i] m hx.1, wr1 i (by omega)]
        have hu : (if (!fired fs l[i]) = true then some (urg d l[i] m) else some false) = some false := by
          cases hfi : fired fs l[i] with
          | true => rfl
          | false =>
            have : urg d l[i] m = false := by
              cases hr : hasR d l[i] with
              | false => unfold urg; simp [hr]
              | true =>
                obtain ⟨m', e, hu⟩ := q2 l[i] (List.getElem_mem hlt) (by unfold mayFire; simp [hr, hfi])
                rw [hp] at e
                rw [Option.some.inj e]; exact hu
            simp [this]
        rw [hu]
        have nx : ∀ s', (s' = true ∨ m ∈ l.drop (i + 1)) → m_l_FnPicked_l1 N (d, l, fs) (m, true) n s' ((i + 1 : Nat) : Int) = some true := fun s' h' => ih (i + 1) s' (by omega) (by omega) h'
        cases s with
        | true => simpa using nx true (.inl rfl)
        | false =>
          have hd : m ∈ l.drop i := hs.resolve_left (by simp)
          rw [List.drop_eq_getElem_cons hlt] at hd
          by_cases he : same l[i] m = true
          · simpa [he] using nx true (.inl rfl)
          · have he' : same l[i] m = false := by simpa using he
            simp only [Bool.false_eq_true, if_false, he', Option.bind_some]
            refine nx false (.inr ?_)
            rcases List.mem_cons.1 hd with hd | hd
            · exfalso; apply he; rw [← hd]; simp [same]
            · exact hd
      · have k1 : decide ((i : Int) < (l.length : Int)) = false := decide_eq_false (by omega)
        rw [List.drop_of_length_le (by omega)] at hs
        have hs : s = true := hs.resolve_right (by simp)
        subst hs
        rw [k1]
        simp only [Bool.false_eq_true, if_false, if_true, fired_i' hN fs m hf h2, nf, Option.bind_some, Bool.not_false]
  have := lp N 0 false (by omega) (by omega) (.inr (by simpa using qb))
  exact this
theorem law_FnPicked {N : Nat} (hN : 1099400000000 ≤ N) (b : List Int) : m_l_FnPicked N b = some true := by
  unfold m_l_FnPicked m_l_big
  by_cases hb : b.length ≤ 1048576
  · have c1 : decide (1048576 < (b.length : Int)) = false := decide_eq_false (by omega)
    obtain ⟨d, set, fs, e, l1, l2, h1, h2⟩ := pick_d hN hb
    have hN' : 1099000000000 ≤ N := by omega
    simp only [c1, Option.bind_some, Bool.false_eq_true, if_false, e, pick_i hN' d set fs l1 l2 h1 (fun m hm => (h2 m hm).1), pick_s hN' d set fs l1 l2 h1 (fun m hm => (h2 m hm).1)]
    cases hp : pick d fs set none with
    | none => simp [picked, zMatch]
    | some m =>
      have := picked_loop hN' d set fs m l1 l2 h1 (fun m hm => (h2 m hm).1) hp
      simpa [picked] using this
  · have c1 : decide (1048576 < (b.length : Int)) = true := decide_eq_true (by omega)
    simp only [c1, Option.bind_some, if_true]
namespace fnPicked
theorem law {x0 : List Int} (w0 : (WfL (WfI .u8)) x0) : m_l_FnPicked 1099511627776 x0 = some true := law_FnPicked (by omega) x0
end fnPicked
end Go.Proofs.Ytjhlmnbkfdkmpaa
