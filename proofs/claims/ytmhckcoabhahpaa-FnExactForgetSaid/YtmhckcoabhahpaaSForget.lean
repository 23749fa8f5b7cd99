/- Plain law: the core of Forget. -/
import Derived.Test.YtmhckcoabhahpaaCL
import Derived.Test.YtmhckcoabhahpaaRAPur
namespace Go.Proofs.Ytmhckcoabhahpaa
open Eng
set_option linter.unusedVariables false
set_option linter.unusedSimpArgs false

theorem has_s {N : Nat} (hN : 1099511627776 ≤ N) (xs : List Int) (v : Int) (hl : xs.length ≤ 4294967296) : m_s_l13Has N xs v = some (xs.any fun x => decide (x = v)) := by
  unfold m_s_l13Has
  have := anyloop (m_s_l13Has_l1 N xs v) xs hl (fun x => decide (x = v)) (fun n i x hx _ hc hw => by simp only [m_s_l13Has_l1, hc, if_true, hx, Option.bind_some, hw]) (fun n i hc => by simp only [m_s_l13Has_l1, hc, Bool.false_eq_true, if_false]) N 0 (by omega) (by omega)
  simpa using this
theorem has_sl {N : Nat} (hN : 1099511627776 ≤ N) (xs : List Int) (v : Int) (hl : xs.length ≤ 4294967296) : m_sl_Contains_Sint_int N xs v = some (xs.any fun x => decide (v = x)) := by
  unfold m_sl_Contains_Sint_int m_sl_Index_Sint_int
  have := findloop (m_sl_Index_Sint_int_l1 N xs v) xs hl (fun x => decide (v = x)) (fun n i x hx _ hc hw => by simp only [m_sl_Index_Sint_int_l1, hc, if_true, hx, Option.bind_some, hw]) (fun n i hc => by simp only [m_sl_Index_Sint_int_l1, hc, Bool.false_eq_true, if_false]) N 0 (by omega) (by omega)
  rw [List.drop_zero] at this
  rw [show ((0 : Nat) : Int) = 0 from rfl] at this
  rw [this, Option.bind_some, find_any]
theorem copy_s {N : Nat} (m : TMatch) (h : LimTMatch m) : m_s_l15CopyMatch N m = some m := by
  unfold m_s_l15CopyMatch m_s_l15CopyMatch_j1
  rw [app_nil h.1, app_nil h.2]; rfl
theorem copy_i {N : Nat} (m : TMatch) (h : LimTMatch m) : m_i_copyMatch N m = some m := by
  unfold m_i_copyMatch m_sl_Clone_Sint_int m_sl_Clone_Si_Bind_i_Bind
  rw [app_nil h.1, app_nil h.2]; rfl
def keeps (v : Int) (m : TMatch) : Bool := !(m.Ids.any fun x => decide (x = v))
theorem forget_loop {N : Nat} (hN : 1099511627776 ≤ N) (xs : List TMatch) (v : Int) (hl : xs.length ≤ 1048576) (hx : ∀ m ∈ xs, LimTMatch m) : ∀ (n i : Nat) (s : List TMatch), i ≤ xs.length → xs.length - i < n → s.length ≤ i →
    m_s_Forget_l1 N xs v n s i = some (s ++ (xs.drop i).filter (keeps v)) ∧ m_i_Forget_l1 N xs v n s i = some (s ++ (xs.drop i).filter (keeps v)) := by
  intro n
  induction n with
  | zero => intro i s _ h; omega
  | succ n ih =>
    intro i s hi hn hs
    simp only [m_s_Forget_l1, m_i_Forget_l1]
    by_cases hlt : i < xs.length
    · have c1 : decide ((i : Int) < (xs.length : Int)) = true := decide_eq_true (by omega)
      have lm := hx _ (List.getElem_mem hlt)
      have e0 : (xs[i].Ids.any fun x => decide (v = x)) = xs[i].Ids.any fun x => decide (x = v) := by congr 1; funext x; simp [eq_comm]
      simp only [c1, if_true, idx_nat_lt hlt, Option.bind_some, has_s hN _ v lm.1, has_sl hN _ v lm.1, e0, copy_s _ lm, copy_i _ lm, wr1 i (by omega)]
      rw [List.drop_eq_getElem_cons hlt, List.filter_cons]
      by_cases hk : keeps v xs[i] = true
      · have hk' : (!(xs[i].Ids.any fun x => decide (x = v))) = true := hk
        simp only [hk, hk', if_true, app_ok (show s.length + [xs[i]].length ≤ 4294967296 by simp; omega), Option.bind_some]
        have := ih (i + 1) (s ++ [xs[i]]) (by omega) (by omega) (by simp; omega)
        simpa using this
      · have hk0 : keeps v xs[i] = false := by simpa using hk
        have hk' : (!(xs[i].Ids.any fun x => decide (x = v))) = false := hk0
        simp only [hk0, hk', Bool.false_eq_true, if_false]
        exact ih (i + 1) s (by omega) (by omega) (by omega)
    · have c1 : decide ((i : Int) < (xs.length : Int)) = false := decide_eq_false (by omega)
      simp only [c1, Bool.false_eq_true, if_false]
      rw [List.drop_of_length_le (by omega)]; simp
theorem sum_filter {α : Type} (tot : α → Int) (p : α → Bool) : ∀ (xs : List α), (∀ x ∈ xs, 0 ≤ tot x) → ((xs.filter p).map tot).sum ≤ (xs.map tot).sum
  | [], _ => by simp
  | x :: xs, h => by
    have h1 := sum_filter tot p xs fun y hy => h y (by simp [hy])
    have h2 := h x (by simp)
    rw [List.filter_cons]
    split <;> simp only [List.map_cons, List.sum_cons] <;> omega
theorem c_Forget {N : Nat} (hN : 1099511627776 ≤ N) (xs : List TMatch) (v : Int) (hx : (xs.length : Int) + (xs.map totTMatch).sum ≤ 1048576) :
    ∃ r, m_s_Forget N xs v = some r ∧ m_i_Forget N xs v = some r ∧ (r.length ≤ 4294967296 ∧ ∀ y ∈ r, LimTMatch y) ∧ (r.length : Int) + (r.map totTMatch).sum ≤ 1125899906842624 := by
  have nn : ∀ m ∈ xs, 0 ≤ totTMatch m := fun m _ => totTMatch_nn m
  have h0 := sum_nonneg _ _ nn
  have hl : xs.length ≤ 1048576 := by omega
  have hm : ∀ m ∈ xs, LimTMatch m := fun m hm => LimTMatch_of m (by have := sum_mem _ _ nn m hm; omega)
  obtain ⟨a, b⟩ := forget_loop hN xs v hl hm N 0 [] (by omega) (by omega) (by simp)
  refine ⟨_, a, b, ⟨?_, ?_⟩, ?_⟩
  · have := List.length_filter_le (keeps v) (xs.drop 0); simp at this ⊢; omega
  · intro y hy; simp at hy; exact hm y hy.1
  · simp only [List.drop_zero, List.nil_append]
    have h1 := List.length_filter_le (keeps v) xs
    have h2 := sum_filter totTMatch (keeps v) xs nn
    omega
end Go.Proofs.Ytmhckcoabhahpaa
