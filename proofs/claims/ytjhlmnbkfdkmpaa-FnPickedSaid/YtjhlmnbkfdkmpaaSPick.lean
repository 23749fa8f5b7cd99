/- Plain laws: which match has fired, which is more urgent, which is picked. -/
import Derived.Test.YtjhlmnbkfdkmpaaSSameM
import Derived.Test.YtjhlmnbkfdkmpaaSUrgent
import Derived.Test.YtjhlmnbkfdkmpaaSInts
import Derived.Test.YtjhlmnbkfdkmpaaCL2
namespace Go.Proofs.Ytjhlmnbkfdkmpaa
open Eng
set_option linter.unusedVariables false
set_option linter.unusedSimpArgs false

def salOf (d : TDef) (m : TMatch) : Int := match idx d.Rules m.Rule with | some r => r.Sal | none => 0
def urg (d : TDef) (x y : TMatch) : Bool := (hasR d x && hasR d y) && (decide (salOf d y < salOf d x) || (decide (salOf d x = salOf d y) && less x y))
theorem urg_i {N : Nat} (hN : 1099000000000 ≤ N) (d : TDef) (x y : TMatch) (hx : x.Ids.length ≤ 1048576) : m_i_Urgent N d x y = some (urg d x y) := by
  have hM : 1048578 ≤ N := by omega
  unfold m_i_Urgent urg
  simp only [hasR_i, Option.bind_some, less_i hM x y hx, orS, andS]
  cases h1 : hasR d x with
  | false => rfl
  | true =>
    cases h2 : hasR d y with
    | false => rfl
    | true =>
      obtain ⟨a, ha⟩ := hasR_idx h1
      obtain ⟨b, hb⟩ := hasR_idx h2
      simp only [ha, hb, Option.bind_some, Bool.not_true, Bool.or_false, Bool.false_eq_true, if_false, salOf, Bool.and_self, Bool.true_and]
theorem urg_s {N : Nat} (hN : 1099000000000 ≤ N) (d : TDef) (x y : TMatch) (hx : x.Ids.length ≤ 1048576) : m_s_Urgent N d x y = some (urg d x y) := by
  obtain ⟨r, h1, h2⟩ := urgent_eq hN d x y hx
  rw [h1, ← h2, urg_i hN d x y hx]
def fired (l : List TMatch) (m : TMatch) : Bool := l.any fun x => same x m
theorem fired_i' {N : Nat} (hN : 1099000000000 ≤ N) (ms : List TMatch) (m : TMatch) (hl : ms.length ≤ 1048576) (hx : ∀ x ∈ ms, x.Ids.length ≤ 1048576) : m_i_FiredHas N ms m = some (fired ms m) := by
  unfold m_i_FiredHas m_sl_ContainsFunc_Si_Match_i_Match m_sl_IndexFunc_Si_Match_i_Match
  have := findloop (m_sl_IndexFunc_Si_Match_i_Match_l1 N ms (fun a0 => m_i_FiredHas_c1 N a0 m)) ms (by omega) (fun x => same x m) (fun n i x hx' hm hc hw => by
    simp only [m_sl_IndexFunc_Si_Match_i_Match_l1, hc, if_true, hx', Option.bind_some, hw, m_i_FiredHas_c1, same_i (show 1048578 ≤ N by omega) x m (hx x hm)]) (fun n i hc => by simp only [m_sl_IndexFunc_Si_Match_i_Match_l1, hc, Bool.false_eq_true, if_false]) N 0 (by omega) (by omega)
  rw [List.drop_zero, show ((0 : Nat) : Int) = 0 from rfl] at this
  rw [this]; simp only [Option.bind_some, find_any]; rfl
theorem same_s {N : Nat} (hN : 1099000000000 ≤ N) (x y : TMatch) (h : x.Ids.length ≤ 1048576) : m_s_SameMatch N x y = some (same x y) := by
  unfold m_s_SameMatch same
  simp only [sameIs hN _ _ (show x.Ids.length ≤ 4294967296 by omega), Option.bind_some, andS]
theorem fired_s {N : Nat} (hN : 1099000000000 ≤ N) (ms : List TMatch) (m : TMatch) (hl : ms.length ≤ 1048576) (hx : ∀ x ∈ ms, x.Ids.length ≤ 1048576) : m_s_FiredHas N ms m = some (fired ms m) := by
  unfold m_s_FiredHas
  refine lp0 hN ms (by omega) (m_s_FiredHas_l1 N ms m) (fun t => some (fired t m)) (fun n i x t h1 h2 h3 h4 h5 h6 h7 => ?_) (fun n i h1 h2 => ?_)
  · simp only [m_s_FiredHas_l1, h5, if_true, h4, Option.bind_some, same_s hN x m (hx x h2), h6, h7]
    unfold fired; rw [List.any_cons]
    cases same x m <;> simp
  · simp only [m_s_FiredHas_l1, h2, Bool.false_eq_true, if_false]; rfl
/-- May this match be picked? -/
def mayFire (d : TDef) (fs : List TMatch) (m : TMatch) : Bool := hasR d m && !fired fs m
def beats (d : TDef) (m : TMatch) : Option TMatch → Bool
  | none => true
  | some x => urg d m x
def better (d : TDef) (fs : List TMatch) (b : Option TMatch) (m : TMatch) : Option TMatch := if (mayFire d fs m && beats d m b) = true then some m else b
def pick (d : TDef) (fs : List TMatch) (l : List TMatch) (b : Option TMatch) : Option TMatch := l.foldl (better d fs) b
def zMatch : TMatch := ⟨0, [], []⟩
def picked (b : Option TMatch) : TMatch × Bool := match b with | some m => (m, true) | none => (zMatch, false)
def ShM' (m : TMatch) : Prop := m.Ids.length ≤ 1048576 ∧ m.Binds.length ≤ 1048576
theorem copyM_i {N : Nat} (m : TMatch) (h : ShM' m) : m_i_copyMatch N m = some m := by
  unfold m_i_copyMatch m_sl_Clone_Sint_int m_sl_Clone_Si_Bind_i_Bind
  rw [app_nil (by have := h.1; omega), app_nil (by have := h.2; omega)]; rfl
theorem copyM_s {N : Nat} (m : TMatch) (h : ShM' m) : m_s_l15CopyMatch N m = some m := by
  unfold m_s_l15CopyMatch m_s_l15CopyMatch_j1
  rw [app_nil (by have := h.1; omega), app_nil (by have := h.2; omega)]; rfl
theorem pick_i {N : Nat} (hN : 1099000000000 ≤ N) (d : TDef) (l fs : List TMatch) (hl : l.length ≤ 1048576) (hf : fs.length ≤ 1048576) (h1 : ∀ m ∈ l, ShM' m) (h2 : ∀ m ∈ fs, m.Ids.length ≤ 1048576) : m_i_PickMatch N d l fs = some (picked (pick d fs l none)) := by
  unfold m_i_PickMatch
  have hz : ShM' zMatch := ⟨by simp [zMatch], by simp [zMatch]⟩
  refine lp' hN l (by omega) (fun n (b : Option TMatch) i => m_i_PickMatch_l1 N d l fs n b.isSome i (b.getD zMatch).Rule (b.getD zMatch).Ids (b.getD zMatch).Binds) (fun t b => some (picked (pick d fs t b))) (fun b t => ShM' (b.getD zMatch)) none hz (fun n b i m t g1 g2 g3 g4 g5 g6 gI ih => ?_) (fun n b i g1 g2 gI => ?_)
  · have hm := h1 m g2
    have eta : (⟨(b.getD zMatch).Rule, (b.getD zMatch).Ids, (b.getD zMatch).Binds⟩ : TMatch) = b.getD zMatch := rfl
    simp only [m_i_PickMatch_l1, g5, if_true, g4, Option.bind_some, hasR_i, fired_i' hN fs m hf h2, eta, urg_i hN d m _ hm.1, g6, orS]
    have ih0 := ih b gI
    have ih1 := ih (some m) hm
    simp only [Option.isSome_some, Option.getD_some] at ih1
    have stp : pick d fs (m :: t) b = pick d fs t (better d fs b m) := rfl
    rw [stp]
    unfold better mayFire
    cases hasR d m with
    | false => simpa using ih0
    | true =>
      cases fired fs m with
      | true => simpa using ih0
      | false =>
        cases b with
        | none => simpa [beats] using ih1
        | some x =>
          simp only [Option.isSome_some, Option.getD_some, beats] at ih0 ⊢
          by_cases hu : urg d m x = true
          · simpa [hu] using ih1
          · simpa [hu] using ih0
  · have eta : (⟨(b.getD zMatch).Rule, (b.getD zMatch).Ids, (b.getD zMatch).Binds⟩ : TMatch) = b.getD zMatch := rfl
    simp only [m_i_PickMatch_l1, g2, Bool.false_eq_true, if_false, eta, copyM_i _ gI, Option.bind_some]
    cases b <;> rfl
theorem pick_s {N : Nat} (hN : 1099000000000 ≤ N) (d : TDef) (l fs : List TMatch) (hl : l.length ≤ 1048576) (hf : fs.length ≤ 1048576) (h1 : ∀ m ∈ l, ShM' m) (h2 : ∀ m ∈ fs, m.Ids.length ≤ 1048576) : m_s_PickMatch N d l fs = some (picked (pick d fs l none)) := by
  unfold m_s_PickMatch
  have lp : ∀ (n i : Nat) (k : Int) (b : Option TMatch), i ≤ l.length → l.length - i < n → ((k < 0 ∧ b = none) ∨ ∃ (j : Nat) (h : j < l.length), k = (j : Int) ∧ b = some l[j]) → m_s_PickMatch_l1 N d l fs n k i = some (picked (pick d fs (l.drop i) b)) := by
    intro n
    induction n with
    | zero => intro i _ _ _ h; omega
    | succ n ih =>
      intro i k b hi hn hb
      by_cases hlt : i < l.length
      · have c1 : decide ((i : Int) < (l.length : Int)) = true := decide_eq_true (by omega)
        have hm := h1 _ (List.getElem_mem hlt)
        rw [List.drop_eq_getElem_cons hlt]
        have stp : pick d fs (l[i] :: l.drop (i + 1)) b = pick d fs (l.drop (i + 1)) (better d fs b l[i]) := rfl
        rw [stp]
        have ih0 := ih (i + 1) k b (by omega) (by omega) hb
        have ih1 := ih (i + 1) (i : Int) (some l[i]) (by omega) (by omega) (.inr ⟨i, hlt, rfl, rfl⟩)
        have e : (if decide (k < 0) = true then some true else (some l[i]).bind fun x5 => (idx l k).bind fun x6 => (m_s_Urgent N d x5 x6).bind fun x7 => some x7) = some (beats d l[i] b) := by
          rcases hb with ⟨hk, rfl⟩ | ⟨j, hj, rfl, rfl⟩
          · rw [decide_eq_true hk]; rfl
          · rw [decide_eq_false (show ¬ (j : Int) < 0 by omega)]
            simp only [Bool.false_eq_true, if_false, idx_nat_lt hj, Option.bind_some, urg_s hN d _ _ hm.1, beats]
        simp only [m_s_PickMatch_l1, c1, if_true, idx_nat_lt hlt, Option.bind_some, hasR_s, fired_s hN fs _ hf h2, wr1 i (by omega), andS]
        simp only [Option.bind_some] at e
        rw [e]
        unfold better mayFire
        simp only [Option.bind_some]
        cases (hasR d l[i] && !fired fs l[i]) with
        | false => simpa using ih0
        | true =>
          simp only [if_true, Bool.true_and, Option.bind_some]
          cases beats d l[i] b with
          | true => simpa using ih1
          | false => simpa using ih0
      · have c1 : decide ((i : Int) < (l.length : Int)) = false := decide_eq_false (by omega)
        rw [List.drop_of_length_le (by omega)]
        simp only [m_s_PickMatch_l1, c1, Bool.false_eq_true, if_false]
        rcases hb with ⟨hk, rfl⟩ | ⟨j, hj, rfl, rfl⟩
        · rw [decide_eq_true hk]; rfl
        · rw [decide_eq_false (show ¬ (j : Int) < 0 by omega)]
          simp only [Bool.false_eq_true, if_false, idx_nat_lt hj, Option.bind_some, copyM_s _ (h1 _ (List.getElem_mem hj))]; rfl
  have := lp N 0 (-1) none (by omega) (by omega) (.inl ⟨by omega, rfl⟩)
  simpa using this
end Go.Proofs.Ytjhlmnbkfdkmpaa
