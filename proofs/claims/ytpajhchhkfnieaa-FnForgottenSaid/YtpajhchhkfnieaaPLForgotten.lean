/- Plain law of FnForgotten: behind a forgetting no match has the item; those without it are all there. -/
import Derived.Test.YtpajhchhkfnieaaPLMatchOrder
namespace Go.Proofs.Ytpajhchhkfnieaa
open Eng
set_option linter.unusedVariables false
set_option linter.unusedSimpArgs false

def ShM (m : TMatch) : Prop := m.Ids.length ≤ 1048576 ∧ m.Binds.length ≤ 1048576
theorem match_ok' {N : Nat} (hN : 1099511627776 ≤ N) (b : List Int) (hb : b.length ≤ 1048576) (c : Tl1Cur) (hc : GC b c) : ∃ m d, m_s_l11Match N c = some (m, d) ∧ GC b d ∧ ShM m := by
  unfold m_s_l11Match
  obtain ⟨v1, d1, e1, g1, a1, a2, -⟩ := below_ok (N := N) b hb c hc 3
  simp only [e1, Option.bind_some]
  obtain ⟨v2, d2, e2, g2, b1, b2, -⟩ := below_ok (N := N) b hb ⟨c.b, d1.i, d1.h⟩ ⟨hc.1, g1.2⟩ 4
  simp only [e2, Option.bind_some]
  have : ∀ (n : Nat) (s : List Int) (k i h : Int), 0 ≤ k → k < n → s.length + k ≤ 4 → GC b ⟨c.b, i, h⟩ → ∃ m d, m_s_l11Match_l1 N c (v1, d1) n s k i h = some (m, d) ∧ GC b d ∧ ShM m := by
    intro n
    induction n with
    | zero => intro s k i h h0 h1; omega
    | succ n ih =>
      intro s k i h h0 h1 h2 g
      simp only [m_s_l11Match_l1]
      by_cases hk : 0 < k
      · obtain ⟨v3, d3, e3, g3, c1, c2, -⟩ := below_ok (N := N) b hb ⟨c.b, i, h⟩ g 3
        simp only [hk, decide_true, if_true, e3, Option.bind_some, app_ok (show s.length + [IntKind.i64.wrap (1 + v3)].length ≤ 4294967296 by simp; omega), wrm hk (by omega)]
        exact ih _ (k - 1) _ _ (by omega) (by omega) (by simp; omega) ⟨hc.1, g3.2⟩
      · simp only [hk, decide_false, Bool.false_eq_true, if_false]
        exact ⟨_, _, rfl, g, by simp only; omega, by simp⟩
  exact this N [] v2 d2.i d2.h b1 (by have := b2 (by omega); omega) (by have := b2 (by omega); simp; omega) ⟨hc.1, g2.2⟩
theorem list_ok {N : Nat} (hN : 1099511627776 ≤ N) (b : List Int) (hb : b.length ≤ 1048576) (c : Tl1Cur) (hc : GC b c) : ∃ ms d, m_s_l15List N c = some (ms, d) ∧ GC b d ∧ ms.length ≤ 8 ∧ ∀ m ∈ ms, ShM m := by
  unfold m_s_l15List
  obtain ⟨v1, d1, e1, g1, a1, a2, -⟩ := below_ok (N := N) b hb c hc 5
  simp only [e1, Option.bind_some]
  have : ∀ (n : Nat) (s : List TMatch) (k i h : Int), 0 ≤ k → k < n → s.length + k ≤ 8 → (∀ m ∈ s, ShM m) → GC b ⟨c.b, i, h⟩ → ∃ m d, m_s_l15List_l1 N c n s k i h = some (m, d) ∧ GC b d ∧ m.length ≤ 8 ∧ ∀ x ∈ m, ShM x := by
    intro n
    induction n with
    | zero => intro s k i h h0 h1; omega
    | succ n ih =>
      intro s k i h h0 h1 h2 hs g
      simp only [m_s_l15List_l1]
      by_cases hk : 0 < k
      · obtain ⟨m, d3, e3, g3, c1⟩ := match_ok' hN b hb ⟨c.b, i, h⟩ g
        simp only [hk, decide_true, if_true, e3, Option.bind_some, app_ok (show s.length + [m].length ≤ 4294967296 by simp; omega), wrm hk (by omega)]
        exact ih _ (k - 1) _ _ (by omega) (by omega) (by simp; omega) (fun x hx => by
          rcases List.mem_append.1 hx with h | h
          · exact hs x h
          · simp at h; rw [h]; exact c1) ⟨hc.1, g3.2⟩
      · simp only [hk, decide_false, Bool.false_eq_true, if_false]
        exact ⟨_, _, rfl, g, by omega, hs⟩
  exact this N [] v1 d1.i d1.h a1 (by have := a2 (by omega); omega) (by have := a2 (by omega); simp; omega) (by simp) ⟨hc.1, g1.2⟩
theorem forget_ok {N : Nat} (hN : 1099511627776 ≤ N) (b : List Int) (hb : b.length ≤ 1048576) : ∃ ms v, m_s_DrawForget N b = some (ms, v) ∧ ms.length ≤ 8 ∧ ∀ m ∈ ms, ShM m := by
  unfold m_s_DrawForget
  obtain ⟨c, e0, g0⟩ := new_ok hN b hb
  simp only [e0, Option.bind_some]
  obtain ⟨ms, d, e1, g1, l1, l2⟩ := list_ok hN b hb c g0
  simp only [e1, Option.bind_some]
  obtain ⟨v, d2, e2, g2, -⟩ := below_ok (N := N) b hb ⟨c.b, d.i, d.h⟩ ⟨g0.1, g1.2⟩ 3
  simp only [e2, Option.bind_some]
  exact ⟨_, _, rfl, l1, l2⟩
theorem fired_ok {N : Nat} (hN : 1099511627776 ≤ N) (b : List Int) (hb : b.length ≤ 1048576) : ∃ ms m, m_s_DrawFiredHas N b = some (ms, m) ∧ ms.length ≤ 8 ∧ ∀ x ∈ ms, ShM x := by
  unfold m_s_DrawFiredHas m_s_DrawFiredHas_j1
  obtain ⟨c, e0, g0⟩ := new_ok hN b hb
  simp only [e0, Option.bind_some]
  obtain ⟨ms, d, e1, g1, l1, l2⟩ := list_ok hN b hb c g0
  simp only [e1, Option.bind_some]
  by_cases h0 : 0 < ms.length
  · have c1 : decide (0 < (ms.length : Int)) = true := decide_eq_true (by omega)
    obtain ⟨v, d2, e2, g2⟩ := once_ok (N := N) b hb ⟨c.b, d.i, d.h⟩ ⟨g0.1, g1.2⟩ 2
    simp only [c1, if_true, e2, Option.bind_some]
    cases v with
    | true =>
      obtain ⟨k, d3, e3, g3, k0, k1, -⟩ := below_ok (N := N) b hb ⟨c.b, d2.i, d2.h⟩ ⟨g0.1, g2.2⟩ (ms.length : Int)
      have k1 := k1 (by omega)
      obtain ⟨j, rfl⟩ : ∃ j : Nat, k = (j : Int) := ⟨k.toNat, by omega⟩
      simp only [if_true, e3, Option.bind_some, idx_nat_lt (show j < ms.length by omega)]
      exact ⟨_, _, rfl, l1, l2⟩
    | false =>
      obtain ⟨m', d3, e3, g3, l3⟩ := match_ok hN b hb ⟨c.b, d2.i, d2.h⟩ ⟨g0.1, g2.2⟩
      simp only [Bool.false_eq_true, if_false, e3, Option.bind_some]
      exact ⟨_, _, rfl, l1, l2⟩
  · have c1 : decide (0 < (ms.length : Int)) = false := decide_eq_false (by omega)
    obtain ⟨m', d3, e3, g3, l3⟩ := match_ok hN b hb ⟨c.b, d.i, d.h⟩ ⟨g0.1, g1.2⟩
    simp only [c1, Bool.false_eq_true, if_false, e3, Option.bind_some]
    exact ⟨_, _, rfl, l1, l2⟩

def keep (v : Int) (m : TMatch) : Bool := !(m.Ids.any fun x => decide (x = v))
theorem has_sl {N : Nat} (hN : 1099511627776 ≤ N) (xs : List Int) (v : Int) (hl : xs.length ≤ 4294967296) : m_sl_Contains_Sint_int N xs v = some (xs.any fun x => decide (v = x)) := by
  unfold m_sl_Contains_Sint_int m_sl_Index_Sint_int
  have := findloop (m_sl_Index_Sint_int_l1 N xs v) xs hl (fun x => decide (v = x)) (fun n i x hx _ hc hw => by simp only [m_sl_Index_Sint_int_l1, hc, if_true, hx, Option.bind_some, hw]) (fun n i hc => by simp only [m_sl_Index_Sint_int_l1, hc, Bool.false_eq_true, if_false]) N 0 (by omega) (by omega)
  rw [List.drop_zero] at this
  rw [show ((0 : Nat) : Int) = 0 from rfl] at this
  rw [this, Option.bind_some, find_any]
theorem has_l {N : Nat} (hN : 1099511627776 ≤ N) (xs : List Int) (v : Int) (hl : xs.length ≤ 4294967296) : m_l_has N xs v = some (xs.any fun x => decide (x = v)) := by
  unfold m_l_has
  have := anyloop (m_l_has_l1 N xs v) xs hl (fun x => decide (x = v)) (fun n i x hx _ hc hw => by simp only [m_l_has_l1, hc, if_true, hx, Option.bind_some, hw]) (fun n i hc => by simp only [m_l_has_l1, hc, Bool.false_eq_true, if_false]) N 0 (by omega) (by omega)
  simpa using this
theorem copy_i {N : Nat} (m : TMatch) (h : ShM m) : m_i_copyMatch N m = some m := by
  unfold m_i_copyMatch m_sl_Clone_Sint_int m_sl_Clone_Si_Bind_i_Bind
  rw [app_nil (by have := h.1; omega), app_nil (by have := h.2; omega)]; rfl
theorem forget_i {N : Nat} (hN : 1099511627776 ≤ N) (xs : List TMatch) (v : Int) (hl : xs.length ≤ 1048576) (hx : ∀ m ∈ xs, ShM m) : ∀ (n i : Nat) (s : List TMatch), i ≤ xs.length → xs.length - i < n → s.length ≤ i →
    m_i_Forget_l1 N xs v n s i = some (s ++ (xs.drop i).filter (keep v)) := by
  intro n
  induction n with
  | zero => intro i s _ h; omega
  | succ n ih =>
    intro i s hi hn hs
    simp only [m_i_Forget_l1]
    by_cases hlt : i < xs.length
    · have c1 : decide ((i : Int) < (xs.length : Int)) = true := decide_eq_true (by omega)
      have lm := hx _ (List.getElem_mem hlt)
      have e0 : (xs[i].Ids.any fun x => decide (v = x)) = xs[i].Ids.any fun x => decide (x = v) := by congr 1; funext x; simp [eq_comm]
      simp only [c1, if_true, idx_nat_lt hlt, Option.bind_some, has_sl hN _ v (show xs[i].Ids.length ≤ 4294967296 by have := lm.1; omega), e0, copy_i _ lm, wr1 i (by omega)]
      rw [List.drop_eq_getElem_cons hlt, List.filter_cons]
      by_cases hk : keep v xs[i] = true
      · have hk' : (!(xs[i].Ids.any fun x => decide (x = v))) = true := hk
        simp only [hk, hk', if_true, app_ok (show s.length + [xs[i]].length ≤ 4294967296 by simp; omega), Option.bind_some]
        have := ih (i + 1) (s ++ [xs[i]]) (by omega) (by omega) (by simp; omega)
        simpa using this
      · have hk0 : keep v xs[i] = false := by simpa using hk
        have hk' : (!(xs[i].Ids.any fun x => decide (x = v))) = false := hk0
        simp only [hk0, hk', Bool.false_eq_true, if_false]
        exact ih (i + 1) s (by omega) (by omega) (by omega)
    · have c1 : decide ((i : Int) < (xs.length : Int)) = false := decide_eq_false (by omega)
      simp only [c1, Bool.false_eq_true, if_false]
      rw [List.drop_of_length_le (by omega)]; simp
theorem same_self (m : TMatch) : same m m = true := by simp [same]

/-- The first loop: those that are kept are all there, in order. -/
theorem walk1 {N : Nat} (hN : 1099511627776 ≤ N) (b : List Int) (xs : List TMatch) (v : Int) (hl : xs.length ≤ 1048576) (hx : ∀ m ∈ xs, ShM m) (K : Option Bool)
    (hK : ((m_s_DrawFiredHas N b).bind fun x9 => m_l_FnForgotten_l2 N (xs.filter (keep v)) ((xs.filter (keep v)).length : Int) x9 N false 0) = K) : ∀ (n i : Nat), i ≤ xs.length → xs.length - i < n →
    m_l_FnForgotten_l1 N b (xs, v) (xs.filter (keep v)) n (((xs.take i).filter (keep v)).length : Int) i = K := by
  intro n
  induction n with
  | zero => intro i _ h; omega
  | succ n ih =>
    intro i hi hn
    simp only [m_l_FnForgotten_l1]
    by_cases hlt : i < xs.length
    · have c1 : decide ((i : Int) < (xs.length : Int)) = true := decide_eq_true (by omega)
      have lm := hx _ (List.getElem_mem hlt)
      have ht : xs.take (i + 1) = xs.take i ++ [xs[i]] := List.take_succ_eq_append_getElem hlt
      have hsplit : xs.filter (keep v) = (xs.take i).filter (keep v) ++ (xs.drop i).filter (keep v) := by rw [← List.filter_append, List.take_append_drop]
      have hle : ((xs.take i).filter (keep v)).length ≤ i := by have := List.length_filter_le (keep v) (xs.take i); simp at this; omega
      simp only [c1, if_true, idx_nat_lt hlt, Option.bind_some, has_l hN _ v (show xs[i].Ids.length ≤ 4294967296 by have := lm.1; omega), wr1 i (by omega)]
      have := ih (i + 1) (by omega) (by omega)
      by_cases hk : keep v xs[i] = true
      · have hk' : (!(xs[i].Ids.any fun x => decide (x = v))) = true := hk
        have hd : (xs.drop i).filter (keep v) = xs[i] :: (xs.drop (i + 1)).filter (keep v) := by rw [List.drop_eq_getElem_cons hlt, List.filter_cons, if_pos hk]
        have hlt2 : ((xs.take i).filter (keep v)).length < (xs.filter (keep v)).length := by rw [hsplit, hd]; simp
        have hge : (xs.filter (keep v))[((xs.take i).filter (keep v)).length] = xs[i] := by
          have : (xs.filter (keep v))[((xs.take i).filter (keep v)).length]? = some xs[i] := by
            rw [hsplit, hd, List.getElem?_append_right (by omega)]; simp
          rw [List.getElem?_eq_getElem hlt2] at this
          exact Option.some.inj this
        have c2 : decide (((xs.filter (keep v)).length : Int) ≤ (((xs.take i).filter (keep v)).length : Int)) = false := decide_eq_false (by omega)
        simp only [hk', if_true, c2, Bool.false_eq_true, if_false, idx_nat_lt hlt2, Option.bind_some, hge, same_i (show 1048578 ≤ N by omega) _ xs[i] lm.1, same_self, Bool.not_true, wr1 _ (show ((xs.take i).filter (keep v)).length ≤ 4611686018427387904 by omega)]
        rw [ht, List.filter_append, List.filter_cons, if_pos hk] at this
        simpa using this
      · have hk0 : keep v xs[i] = false := by simpa using hk
        have hk' : (!(xs[i].Ids.any fun x => decide (x = v))) = false := hk0
        simp only [hk', Bool.false_eq_true, if_false]
        rw [ht, List.filter_append, List.filter_cons, if_neg hk] at this
        simpa using this
    · have c1 : decide ((i : Int) < (xs.length : Int)) = false := decide_eq_false (by omega)
      simp only [c1, Bool.false_eq_true, if_false]
      rw [List.take_of_length_le (by omega)]
      exact hK
theorem fired_i {N : Nat} (hN : 1099511627776 ≤ N) (ms : List TMatch) (m : TMatch) (hl : ms.length ≤ 1048576) (hx : ∀ x ∈ ms, ShM x) : m_i_FiredHas N ms m = some (ms.any fun x => same x m) := by
  unfold m_i_FiredHas m_sl_ContainsFunc_Si_Match_i_Match m_sl_IndexFunc_Si_Match_i_Match
  have := findloop (m_sl_IndexFunc_Si_Match_i_Match_l1 N ms (fun a0 => m_i_FiredHas_c1 N a0 m)) ms (by omega) (fun x => same x m) (fun n i x hx' hm hc hw => by
    simp only [m_sl_IndexFunc_Si_Match_i_Match_l1, hc, if_true, hx', Option.bind_some, hw, m_i_FiredHas_c1, same_i (show 1048578 ≤ N by omega) x m (hx x hm).1]) (fun n i hc => by simp only [m_sl_IndexFunc_Si_Match_i_Match_l1, hc, Bool.false_eq_true, if_false]) N 0 (by omega) (by omega)
  rw [List.drop_zero, show ((0 : Nat) : Int) = 0 from rfl] at this
  rw [this]; simp only [Option.bind_some, find_any]
theorem walk2 {N : Nat} (hN : 1099511627776 ≤ N) (ys : List TMatch) (ms : List TMatch) (m : TMatch) (hl : ms.length ≤ 1048576) (hx : ∀ x ∈ ms, ShM x) : ∀ (n i : Nat) (s : Bool), i ≤ ms.length → ms.length - i < n → s = ((ms.take i).any fun x => same x m) →
    m_l_FnForgotten_l2 N ys (ys.length : Int) (ms, m) n s i = some true := by
  intro n
  induction n with
  | zero => intro i _ _ h; omega
  | succ n ih =>
    intro i s hi hn hs
    simp only [m_l_FnForgotten_l2]
    by_cases hlt : i < ms.length
    · have c1 : decide ((i : Int) < (ms.length : Int)) = true := decide_eq_true (by omega)
      have lm := hx _ (List.getElem_mem hlt)
      have ht : ms.take (i + 1) = ms.take i ++ [ms[i]] := List.take_succ_eq_append_getElem hlt
      have := ih (i + 1) (s || same ms[i] m) (by omega) (by omega) (by rw [ht, List.any_append, ← hs]; simp)
      simp only [c1, if_true, idx_nat_lt hlt, Option.bind_some, same_i (show 1048578 ≤ N by omega) _ m lm.1, wr1 i (by omega)]
      cases s with
      | true => simpa using this
      | false => simpa using this
    · have c1 : decide ((i : Int) < (ms.length : Int)) = false := decide_eq_false (by omega)
      rw [List.take_of_length_le (by omega)] at hs
      simp only [c1, Bool.false_eq_true, if_false, fired_i hN ms m hl hx, Option.bind_some, decide_true, if_true, ← hs, beq_self_eq_true]
theorem law_FnForgotten {N : Nat} (hN : 1099511627776 ≤ N) (b : List Int) : m_l_FnForgotten N b = some true := by
  unfold m_l_FnForgotten m_l_big
  by_cases hb : b.length ≤ 1048576
  · have c1 : decide (1048576 < (b.length : Int)) = false := decide_eq_false (by omega)
    obtain ⟨ms, v, e, l1, l2⟩ := forget_ok hN b hb
    obtain ⟨fs, f, e2, l3, l4⟩ := fired_ok hN b hb
    have hf : m_i_Forget N ms v = some (ms.filter (keep v)) := by
      have := forget_i hN ms v (by omega) l2 N 0 [] (by omega) (by omega) (by simp)
      unfold m_i_Forget; simpa using this
    simp only [c1, Option.bind_some, Bool.false_eq_true, if_false, e, hf]
    have := walk1 hN b ms v (by omega) l2 (some true) (by rw [e2, Option.bind_some]; exact walk2 hN _ fs f (by omega) l4 N 0 false (by omega) (by omega) (by simp)) N 0 (by omega) (by omega)
    simpa using this
  · have c1 : decide (1048576 < (b.length : Int)) = true := decide_eq_true (by omega)
    simp only [c1, Option.bind_some, if_true]
namespace fnForgotten
theorem law {x0 : List Int} (w0 : (WfL (WfI .u8)) x0) : m_l_FnForgotten 1099511627776 x0 = some true := law_FnForgotten (by omega) x0
end fnForgotten
end Go.Proofs.Ytpajhchhkfnieaa
