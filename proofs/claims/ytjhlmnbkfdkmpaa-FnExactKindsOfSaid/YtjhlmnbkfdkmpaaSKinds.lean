/- Plain laws: rows of texts without doubles; the cores of RuleAt and KindsOf. -/
import Derived.Test.YtjhlmnbkfdkmpaaCL
import Derived.Test.YtjhlmnbkfdkmpaaWExactKindsOfPur
namespace Go.Proofs.Ytjhlmnbkfdkmpaa
open Eng
set_option linter.unusedVariables false
set_option linter.unusedSimpArgs false

theorem hasS {N : Nat} (hN : 1099511627776 ≤ N) (xs : List ByteArray) (v : ByteArray) (hl : xs.length ≤ 4294967296) : m_s_l6Has N xs v = some (xs.any fun x => seq x v) := by
  unfold m_s_l6Has
  have := anyloop (m_s_l6Has_l1 N xs v) xs hl (fun x => seq x v) (fun n i x hx _ hc hw => by simp only [m_s_l6Has_l1, hc, if_true, hx, Option.bind_some, hw]) (fun n i hc => by simp only [m_s_l6Has_l1, hc, Bool.false_eq_true, if_false]) N 0 (by omega) (by omega)
  simpa using this
theorem seq_comm (a b : ByteArray) : seq a b = seq b a := by rw [seq_eq, seq_eq]; simp [eq_comm]
theorem hasSl {N : Nat} (hN : 1099511627776 ≤ N) (xs : List ByteArray) (v : ByteArray) (hl : xs.length ≤ 4294967296) : m_sl_Contains_Sstring_string N xs v = some (xs.any fun x => seq x v) := by
  unfold m_sl_Contains_Sstring_string m_sl_Index_Sstring_string
  have := findloop (m_sl_Index_Sstring_string_l1 N xs v) xs hl (fun x => seq v x) (fun n i x hx _ hc hw => by simp only [m_sl_Index_Sstring_string_l1, hc, if_true, hx, Option.bind_some, hw]) (fun n i hc => by simp only [m_sl_Index_Sstring_string_l1, hc, Bool.false_eq_true, if_false]) N 0 (by omega) (by omega)
  rw [List.drop_zero, show ((0 : Nat) : Int) = 0 from rfl] at this
  rw [this, Option.bind_some, find_any]
  congr 2; funext x; exact seq_comm v x
/-- v at the end, if it is not there yet. -/
def once (s : List ByteArray) (v : ByteArray) : List ByteArray := if s.any (fun x => seq x v) then s else s ++ [v]
theorem once_len (s : List ByteArray) (v : ByteArray) : (once s v).length ≤ s.length + 1 := by unfold once; split <;> simp
theorem once_mem {s : List ByteArray} {v x : ByteArray} (h : x ∈ once s v) : x ∈ s ∨ x = v := by
  unfold once at h; split at h
  · exact .inl h
  · rcases List.mem_append.1 h with h | h
    · exact .inl h
    · exact .inr (by simpa using h)
theorem addOnce {N : Nat} (hN : 1099511627776 ≤ N) (s : List ByteArray) (v : ByteArray) (hl : s.length ≤ 4294967295) : m_i_addOnce N s v = some (once s v) := by
  unfold m_i_addOnce once
  rw [hasSl hN s v (by omega), Option.bind_some]
  cases s.any fun x => seq x v with
  | true => rfl
  | false => simp only [Bool.false_eq_true, if_false, app_ok (show s.length + [v].length ≤ 4294967296 by simp; omega), Option.bind_some]
theorem kinds_loop {N : Nat} (hN : 1099511627776 ≤ N) (r : TRule) (hl : r.Pats.length ≤ 1048576) : ∀ (n i : Nat) (s : List ByteArray), i ≤ r.Pats.length → r.Pats.length - i < n → s.length ≤ i →
    m_s_KindsOf_l1 N r n s i = some ((r.Pats.drop i).foldl (fun s p => once s p.Kind) s) ∧ m_i_KindsOf_l1 N r n s i = some ((r.Pats.drop i).foldl (fun s p => once s p.Kind) s) := by
  intro n
  induction n with
  | zero => intro i s _ h; omega
  | succ n ih =>
    intro i s hi hn hs
    simp only [m_s_KindsOf_l1, m_i_KindsOf_l1]
    by_cases hlt : i < r.Pats.length
    · have c1 : decide ((i : Int) < (r.Pats.length : Int)) = true := decide_eq_true (by omega)
      simp only [c1, if_true, idx_nat_lt hlt, Option.bind_some, hasS hN s _ (by omega), addOnce hN s _ (show s.length ≤ 4294967295 by omega), wr1 i (by omega)]
      rw [List.drop_eq_getElem_cons hlt, List.foldl_cons]
      have ih1 := ih (i + 1) (once s r.Pats[i].Kind) (by omega) (by omega) (by have := once_len s r.Pats[i].Kind; omega)
      refine ⟨?_, ih1.2⟩
      have h2 := ih1.1
      unfold once at h2 ⊢
      cases hk : s.any fun x => seq x r.Pats[i].Kind with
      | true =>
        simp only [hk, if_true] at h2
        simpa using h2
      | false =>
        simp only [hk, Bool.false_eq_true, if_false] at h2
        simp only [Bool.not_false, if_true, app_ok (show s.length + [r.Pats[i].Kind].length ≤ 4294967296 by simp; omega), Option.bind_some, Bool.false_eq_true, if_false]
        exact h2
    · have c1 : decide ((i : Int) < (r.Pats.length : Int)) = false := decide_eq_false (by omega)
      simp only [c1, Bool.false_eq_true, if_false]
      rw [List.drop_of_length_le (by omega)]
      exact ⟨rfl, rfl⟩
theorem fold_once {α : Type} (k : α → ByteArray) {B : Nat} : ∀ (xs : List α) (s : List ByteArray), (∀ x ∈ xs, (k x).size ≤ B) → (∀ v ∈ s, v.size ≤ B) →
    (xs.foldl (fun s p => once s (k p)) s).length ≤ s.length + xs.length ∧ ∀ v ∈ xs.foldl (fun s p => once s (k p)) s, v.size ≤ B
  | [], s, _, h => ⟨by simp, h⟩
  | x :: xs, s, h, h' => by
    have := fold_once k xs (once s (k x)) (fun y hy => h y (by simp [hy])) (fun v hv => by
      rcases once_mem hv with hv | rfl
      · exact h' v hv
      · exact h x (by simp))
    have hl := once_len s (k x)
    refine ⟨by rw [List.foldl_cons, List.length_cons]; omega, by rw [List.foldl_cons]; exact this.2⟩
theorem szs {B : Nat} : ∀ (xs : List ByteArray), (∀ x ∈ xs, x.size ≤ B) → (xs.map fun s : ByteArray => (s.size : Int)).sum ≤ (xs.length : Int) * B
  | [], _ => by simp
  | x :: xs, h => by
    have h1 := szs xs fun y hy => h y (by simp [hy])
    have h2 := h x (by simp)
    simp only [List.map_cons, List.sum_cons, List.length_cons]
    have : ((xs.length + 1 : Nat) : Int) * (B : Int) = (xs.length : Int) * B + B := by rw [Int.natCast_add, Int.add_mul]; simp
    omega
theorem c_KindsOf {N : Nat} (hN : 1099511627776 ≤ N) (r : TRule) (h : totTRule r ≤ 1048576) : ∃ v, m_s_KindsOf N r = some v ∧ m_i_KindsOf N r = some v ∧ v.length ≤ 4294967296 ∧ (v.length : Int) + (v.map fun s : ByteArray => (s.size : Int)).sum ≤ 1125899906842624 := by
  unfold totTRule at h
  have n1 : ∀ y ∈ r.Pats, 0 ≤ totTPat y := fun y _ => totTPat_nn y
  have h1 := sum_nonneg totTPat r.Pats n1
  have h2 := sum_nonneg totTCond r.Conds (fun y _ => totTCond_nn y)
  have h3 := sum_nonneg totTAct r.Acts (fun y _ => totTAct_nn y)
  obtain ⟨a, b⟩ := kinds_loop hN r (by omega) N 0 [] (by omega) (by omega) (by simp)
  have hk : ∀ p ∈ r.Pats, p.Kind.size ≤ 1048576 := fun p hp => by
    have h4 := sum_mem totTPat r.Pats n1 p hp
    have h5 : totTPat p ≤ 1048576 := by omega
    unfold totTPat at h5
    have := sum_nonneg totTArg p.Args (fun y _ => totTArg_nn y)
    omega
  obtain ⟨c, d⟩ := fold_once (fun p : TPat => p.Kind) (B := 1048576) r.Pats [] hk (by simp)
  refine ⟨_, a, b, ?_, ?_⟩
  · simp only [List.drop_zero, List.length_nil] at c ⊢; omega
  · have := szs _ d
    simp only [List.drop_zero, List.length_nil] at c this ⊢
    omega
end Go.Proofs.Ytjhlmnbkfdkmpaa
