/- Plain laws: draws: stores. -/
import Derived.Test.YtjhlmnbkfdkmpaaSDFact
import Derived.Test.YtjhlmnbkfdkmpaaSFactS
namespace Go.Proofs.Ytjhlmnbkfdkmpaa
open Eng
set_option linter.unusedVariables false
set_option linter.unusedSimpArgs false
def drItems (nx : Int) (l : List TItem) : Prop := 1 ≤ nx ∧ (l.length : Int) < nx ∧ (∀ x ∈ l, 1 ≤ x.Id ∧ x.Id < nx ∧ drFact x.F) ∧ l.Pairwise fun a b => a.Id < b.Id ∧ a.F ≠ b.F
def drStore (s : TStore) : Prop := s.Next ≤ 9 ∧ drItems s.Next s.Items
theorem drItems_len {nx : Int} {l : List TItem} (h : drItems nx l) : ∀ x ∈ l, x.F.Fields.length ≤ 5 := fun x hx => (h.2.2.1 x hx).2.2.2.1
theorem drop_d {N : Nat} (hN : 1099000000000 ≤ N) (s : TStore) (v : Int) (hl : s.Items.length ≤ 1048576) : ∃ q, m_s_l4Drop N s v = some (q, ⟨s.Items.filter fun x => !decide (x.Id = v), s.Next⟩) := by
  unfold m_s_l4Drop
  have := lp' hN s.Items (by omega) (fun n (u : List TItem) i => (m_s_l4Drop_l1 N s v n u i).map (·.2)) (fun t u => some ⟨u ++ t.filter fun x => !decide (x.Id = v), s.Next⟩) (fun u t => u.length + t.length ≤ 1048576) [] (by simpa using hl) (fun n u i x t g1 g2 g3 g4 g5 g6 gI ih => by
    simp only [List.length_cons] at gI
    simp only [m_s_l4Drop_l1, g5, if_true, g4, Option.bind_some, g6, List.filter_cons]
    by_cases h : x.Id = v
    · simp only [h, decide_true, Bool.not_true, Bool.false_eq_true, if_false]
      exact ih u (by omega)
    · simp only [h, decide_false, Bool.not_false, if_true, app_ok (show u.length + [x].length ≤ 4294967296 by simp; omega), Option.bind_some]
      rw [ih _ (by simp; omega)]; simp) (fun n u i g1 g2 gI => by simp only [m_s_l4Drop_l1, g2, Bool.false_eq_true, if_false, Option.map_some, List.filter_nil, List.append_nil])
  simp only [List.nil_append] at this
  cases hd : m_s_l4Drop_l1 N s v N [] 0 with
  | none => rw [hd] at this; simp at this
  | some r =>
    rw [hd] at this
    simp only [Option.map_some, Option.some.injEq] at this
    exact ⟨r.1, by rw [← this]⟩
theorem assert_d {N : Nat} (hN : 1099000000000 ≤ N) (l : List TItem) (nx : Int) (f : TFact) (hf : drFact f) (h : drItems nx l) (hnx : nx ≤ 100) : ∃ q l' nx', m_s_l4Assert N ⟨l, nx⟩ f = some (q, ⟨l', nx'⟩) ∧ drItems nx' l' ∧ nx' ≤ nx + 1 := by
  obtain ⟨h1, h2, h3, h4⟩ := h
  have hl := fun x hx => (h3 x hx).2.2.2.1
  unfold m_s_l4Assert
  rw [idOf_s hN ⟨l, nx⟩ f (by show l.length ≤ _; omega) (fun x hx => by have := hl x hx; omega)]
  simp only [Option.bind_some]
  by_cases hp : 0 < idOf l f
  · simp only [hp, decide_true, if_true]
    exact ⟨_, _, _, rfl, ⟨h1, h2, h3, h4⟩, by omega⟩
  · simp only [hp, decide_false, Bool.false_eq_true, if_false]
    have hn : ∀ x ∈ l, x.F ≠ f := by
      intro x hx e
      apply hp
      unfold idOf
      cases hh : l.find? (fun x => decide (x.F = f)) with
      | none =>
        rw [List.find?_eq_none] at hh
        have := hh x hx
        simp [e] at this
      | some y =>
        have := (h3 y (List.mem_of_find?_eq_some hh)).1
        simp only; omega
    by_cases h40 : (40 : Int) ≤ (l.length : Int)
    · simp only [h40, decide_true, if_true, Option.bind_some]
      exact ⟨_, _, _, rfl, ⟨h1, h2, h3, h4⟩, by omega⟩
    · have hm : ¬ (1000000 : Int) ≤ nx := by omega
      simp only [h40, hm, decide_false, Bool.false_eq_true, if_false, Option.bind_some]
      have hc : m_s_l3Copy N f = some f := by
        unfold m_s_l3Copy
        rw [app_nil (show f.Fields.length ≤ 4294967296 by have := hf.2.1; omega)]; rfl
      simp only [hc, Option.bind_some, app_ok (show l.length + [(⟨nx, f⟩ : TItem)].length ≤ 4294967296 by simp; omega)]
      rw [wr (show -9223372036854775808 ≤ nx + 1 by omega) (by omega)]
      refine ⟨_, _, _, rfl, ⟨by omega, by simp; omega, ?_, ?_⟩, by omega⟩
      · refine mem_snoc (fun x hx => ?_) ⟨by omega, by simp only; omega, hf⟩
        have := h3 x hx
        exact ⟨this.1, by omega, this.2.2⟩
      · refine List.pairwise_append.2 ⟨h4, by simp, fun a ha b hb => ?_⟩
        simp at hb; subst hb
        exact ⟨(h3 a ha).2.1, hn a ha⟩
theorem store_d {N : Nat} (hN : 1099000000000 ≤ N) {b : List Int} (hb : b.length ≤ 1048576) {c : Tl1Cur} (g : GC b c) : Dr b drStore (m_s_l4Draw N c) := by
  unfold m_s_l4Draw
  refine (below_d hb g 9 (by omega)).bind fun v d gd hv => ?_
  have lp : ∀ (n : Nat) (l : List TItem) (k x h nx : Int), 0 ≤ k → k < n → nx + k ≤ 9 → drItems nx l → GC b ⟨c.b, x, h⟩ → Dr b drStore (m_s_l4Draw_l1 N c n l k x h nx) := by
    intro n
    induction n with
    | zero => intro l k x h nx h0 h1; omega
    | succ n ih =>
      intro l k x h nx h0 h1 h2 hl gx
      simp only [m_s_l4Draw_l1]
      refine .ite (fun hk => ?_) (fun _ => .ret gx ⟨by show nx ≤ 9; omega, hl⟩)
      have hk := of_decide_eq_true hk
      have hlen := hl.2.1
      refine (once_d hb gx 5).bind fun q e ge _ => ?_
      have gx' := ge.at (c := ⟨c.b, x, h⟩) gx.1
      have rest : Dr b drStore ((m_s_l3Draw N (⟨c.b, e.i, e.h⟩ : Tl1Cur)).bind fun x6 => (m_s_l4Assert N (⟨l, nx⟩ : TStore) x6.1).bind fun x7 => m_s_l4Draw_l1 N c n x7.2.Items (IntKind.i64.wrap (k - 1)) x6.2.i x6.2.h x7.2.Next) := by
        refine (fact_d hN hb gx').bind fun f e2 ge2 hf => ?_
        obtain ⟨q', l', nx', e3, hl', hnx'⟩ := assert_d hN l nx f hf hl (by omega)
        refine .bindO e3 ?_
        rw [wrm hk (by omega)]
        exact ih l' (k - 1) _ _ nx' (by omega) (by omega) (by omega) hl' (ge2.at (c := ⟨c.b, e.i, e.h⟩) gx'.1)
      by_cases hq : q = true ∧ 0 < l.length
      · have e0 : (if q = true then some (decide (0 < (l.length : Int))) else some false) = some true := by
          rw [hq.1, decide_eq_true (show (0 : Int) < (l.length : Int) by omega)]; rfl
        refine .bindO e0 ?_
        simp only [if_true]
        refine (below_d hb gx' (l.length : Int) (by omega)).bind fun w e2 ge2 hw => ?_
        obtain ⟨j, rfl⟩ : ∃ j : Nat, w = (j : Int) := ⟨w.toNat, by omega⟩
        refine .bindO (idx_nat_lt (show j < l.length by omega)) ?_
        obtain ⟨q', e3⟩ := drop_d hN ⟨l, nx⟩ l[j].Id (show l.length ≤ 1048576 by omega)
        refine .bindO e3 ?_
        rw [wrm hk (by omega)]
        have hfl := List.length_filter_le (fun x : TItem => !decide (x.Id = l[j].Id)) l
        exact ih _ (k - 1) _ _ nx (by omega) (by omega) (by omega) ⟨hl.1, by show ((l.filter _).length : Int) < nx; omega, fun y hy => hl.2.2.1 y (List.mem_filter.1 hy).1, hl.2.2.2.filter _⟩ (ge2.at (c := ⟨c.b, e.i, e.h⟩) gx'.1)
      · have e0 : (if q = true then some (decide (0 < (l.length : Int))) else some false) = some false := by
          cases q with
          | false => rfl
          | true =>
            have : ¬ 0 < l.length := fun h => hq ⟨rfl, h⟩
            rw [decide_eq_false (show ¬ (0 : Int) < (l.length : Int) by omega)]; rfl
        refine .bindO e0 ?_
        simp only [Bool.false_eq_true, if_false]
        exact rest
  exact lp N [] v _ _ 1 hv.1 (by omega) (by omega) ⟨by omega, by simp, by simp, by simp⟩ (gd.at g.1)
end Go.Proofs.Ytjhlmnbkfdkmpaa
