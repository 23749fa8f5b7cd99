/- Plain laws, one after the other: PLMemOf. -/
import Derived.Test.YtdihjeeniojdmaaGreatTExactMemOf
import Derived.Test.YtdihjeeniojdmaaGreatPLib
import Derived.Test.YtdihjeeniojdmaaGreatWExactMemOfPur
import Derived.Test.YtdihjeeniojdmaaGreatWExactMemOfMod
namespace Go.Proofs.YtdihjeeniojdmaaGreat
open Eng
set_option linter.unusedVariables false
set_option linter.unusedSimpArgs false
theorem fact_s {N : Nat} (hN : 1099000000000 ≤ N) (f : TFact) (h : SzFact f) : m_s_FactOk N f = some (okFact f) := by
 obtain ⟨h1, h2, h3⟩ := h
 unfold m_s_FactOk okFact m_s_l3Vals
 have d1 : decide ((f.Fields.length : Int) ≤ 5) = decide (f.Fields.length ≤ 5) := by rw [decide_eq_decide]; omega
 have l1 : m_s_l3Vals_l1 N f.Fields N 0 = some (f.Fields.all okVal && decide (f.Fields.length ≤ 5)) := lp0 hN f.Fields (by omega) (m_s_l3Vals_l1 N f.Fields) (fun t => some (t.all okVal && decide (f.Fields.length ≤ 5))) (fun n i x t g1 g2 g3 g4 g5 g6 g7 => by
  simp only [m_s_l3Vals_l1, g5, if_true, g4, Option.bind_some, val_s (show 1048578 ≤ N by omega) x (h3 x g2), val_i (show 1048578 ≤ N by omega) x (h3 x g2), g6, g7, List.all_cons]
  cases okVal x <;> simp) (fun n i g1 g2 => by simp only [m_s_l3Vals_l1, g2, Bool.false_eq_true, if_false, d1]; rfl)
 simp only [okName_s hN _ h1, Option.bind_some, l1, andS]
theorem idOf_done {done t : List TItem} {x : TItem} (h : ∀ y ∈ done, y.Id < x.Id) : decide (idOf (done ++ x :: t) x.F = x.Id) = done.all fun y => !decide (x.F = y.F) := by
 induction done with
 | nil =>
  rw [List.nil_append, idOf_cons, if_pos rfl]; simp
 | cons y d ih =>
  rw [List.cons_append, idOf_cons, List.all_cons]
  by_cases he : y.F = x.F
  ·have := h y (by simp)
   rw [if_pos he]
   have e2 : decide (x.F = y.F) = true := decide_eq_true he.symm
   rw [e2, decide_eq_false (by omega)]; simp
  ·rw [if_neg he, ih fun z hz => h z (by simp [hz])]
   have e2 : decide (x.F = y.F) = false := decide_eq_false (fun e => he e.symm)
   rw [e2]; simp
theorem store_s {N : Nat} (hN : 1099000000000 ≤ N) (s : TStore) (h : SzStore s) : m_s_StoreOk N s = some (okStore s) := by
 obtain ⟨h1, h2⟩ := h
 unfold m_s_StoreOk okStore
 have d1 : decide ((40 : Int) < (s.Items.length : Int)) = !decide (s.Items.length ≤ 40) := by rw [← decide_not, decide_eq_decide]; omega
 have lp : ∀ (n i : Nat), i ≤ s.Items.length → s.Items.length - i < n → (∀ y ∈ s.Items.take i, ∀ z, (s.Items.take i).getLast? = some z → y.Id ≤ z.Id) → m_s_StoreOk_l1 N s n i = some (itemsOk s.Next (s.Items.take i) (s.Items.drop i)) := by
  intro n
  induction n with
  | zero => intro i _ h; omega
  | succ n ih =>
   intro i hi hm hup
   simp only [m_s_StoreOk_l1]
   by_cases hlt : i < s.Items.length
   ·have c1 : decide ((i : Int) < (s.Items.length : Int)) = true := decide_eq_true (by omega)
    have hf := h2 _ (List.getElem_mem hlt)
    have hprev : (if decide (0 < (i : Int)) = true then (idx s.Items (IntKind.i64.wrap ((i : Int) - 1))).bind fun x5 => some (decide (s.Items[i].Id ≤ x5.Id)) else some false) = some (!(lastBelow (s.Items.take i) s.Items[i].Id)) := by
     by_cases h0 : 0 < i
     ·have e1 : IntKind.i64.wrap ((i : Int) - 1) = ((i - 1 : Nat) : Int) := by rw [wr (by omega) (by omega)]; omega
      unfold lastBelow; rw [lastTake h0 hi, decide_eq_true (show (0 : Int) < (i : Int) by omega), e1]
      simp only [if_true, idx_nat_lt (show i - 1 < s.Items.length by omega), Option.bind_some]
      rw [← decide_not]; congr 1; rw [decide_eq_decide]; omega
     ·have : i = 0 := by omega
      subst this
      simp [lastBelow]
    have htk : s.Items.take (i + 1) = s.Items.take i ++ [s.Items[i]] := List.take_succ_eq_append_getElem hlt
    have hall : s.Items = s.Items.take i ++ s.Items[i] :: s.Items.drop (i + 1) := by
     rw [← List.drop_eq_getElem_cons hlt, List.take_append_drop]
    rw [List.drop_eq_getElem_cons hlt, itemsOk, ← htk]
    simp only [c1, if_true, idx_nat_lt hlt, Option.bind_some, fact_s hN _ hf, hprev, idOf_s hN s s.Items[i].F (by omega) (fun x hx => (h2 x hx).2.1), wr1 i (by omega)]
    cases okFact s.Items[i].F with
    | false => simp
    | true =>
     by_cases hid : 1 ≤ s.Items[i].Id
     ·by_cases hnx : s.Items[i].Id < s.Next
      ·have e1 : decide (s.Items[i].Id < 1) = false := decide_eq_false (by omega)
       have e2 : decide (s.Next ≤ s.Items[i].Id) = false := decide_eq_false (by omega)
       rw [e1, e2, decide_eq_true hid, decide_eq_true hnx]
       cases hl : (lastBelow (s.Items.take i) s.Items[i].Id) with
       | false => simp
       | true =>
        have hlow : ∀ y ∈ s.Items.take i, y.Id < s.Items[i].Id := by
         intro y hy
         cases hg : (s.Items.take i).getLast? with
         | none => rw [List.getLast?_eq_none_iff] at hg; rw [hg] at hy; cases hy
         | some z =>
          unfold lastBelow at hl
          rw [hg] at hl
          have := of_decide_eq_true hl
          have := hup y hy z hg
          omega
        have hd := idOf_done (t := s.Items.drop (i + 1)) hlow
        rw [← hall] at hd
        have ih1 := ih (i + 1) (by omega) (by omega) (by
         intro y hy z hz
         rw [htk] at hy hz
         rw [List.getLast?_concat] at hz
         have hz := Option.some.inj hz
         rcases List.mem_append.1 hy with hy | hy
         ·have := hlow y hy; rw [← hz]; omega
         ·simp at hy; rw [hy, ← hz]; exact Int.le_refl _)
        simp only [Bool.not_true, Bool.false_eq_true, if_false, Option.bind_some, hd, ih1, Bool.true_and, Bool.and_self]
        cases (s.Items.take i).all fun y => !decide (s.Items[i].F = y.F) <;> simp
      ·have e2 : decide (s.Next ≤ s.Items[i].Id) = true := decide_eq_true (by omega)
       rw [e2, decide_eq_false hnx]
       cases decide (s.Items[i].Id < 1) <;> simp
     ·have e1 : decide (s.Items[i].Id < 1) = true := decide_eq_true (by omega)
      rw [e1, decide_eq_false hid]
      simp
   ·have c1 : decide ((i : Int) < (s.Items.length : Int)) = false := decide_eq_false (by omega)
    rw [List.drop_of_length_le (by omega)]
    simp only [c1, Bool.false_eq_true, if_false]; rfl
 have l0 := lp N 0 (by omega) (by omega) (by simp)
 rw [List.take_zero, List.drop_zero, show ((0 : Nat) : Int) = 0 from rfl] at l0
 simp only [in0, Option.bind_some, d1, l0]
 cases (decide (1 ≤ s.Next) && decide (s.Next ≤ 1000000)) <;> cases decide (s.Items.length ≤ 40) <;> simp
theorem fact_i {N : Nat} (hN : 1099000000000 ≤ N) (f : TFact) (h : SzFact f) : m_i_FactOk N f = some (okFact f) := by
 obtain ⟨h1, h2, h3⟩ := h
 unfold m_i_FactOk okFact
 have l1 : m_i_FactOk_l1 N f N 0 = some (f.Fields.all okVal) := lp0 hN f.Fields (by omega) (m_i_FactOk_l1 N f) (fun t => some (t.all okVal)) (fun n i x t g1 g2 g3 g4 g5 g6 g7 => by
  simp only [m_i_FactOk_l1, g5, if_true, g4, Option.bind_some, val_i (show 1048578 ≤ N by omega) x (h3 x g2), g6, g7, List.all_cons]
  cases okVal x <;> simp) (fun n i g1 g2 => by simp only [m_i_FactOk_l1, g2, Bool.false_eq_true, if_false]; rfl)
 have d1 : decide ((5 : Int) < (f.Fields.length : Int)) = !decide (f.Fields.length ≤ 5) := by rw [← decide_not, decide_eq_decide]; omega
 simp only [okName_i hN _ h1, Option.bind_some, d1, l1]
 cases okName f.Kind <;> cases decide (f.Fields.length ≤ 5) <;> simp
theorem sameF_i {N : Nat} (hN : 1099000000000 ≤ N) (x y : TFact) (hl : x.Fields.length ≤ 4294967296) : m_i_SameFact N x y = some (decide (x = y)) := by
 have e : m_sl_Equal_Si_Val_i_Val N x.Fields y.Fields = some (decide (x.Fields = y.Fields)) := by
  unfold m_sl_Equal_Si_Val_i_Val
  by_cases c : x.Fields.length = y.Fields.length
  ·rw [if_neg (by simp; omega)]
   refine (eqloop (m_sl_Equal_Si_Val_i_Val_l1 N x.Fields y.Fields) x.Fields y.Fields c (by omega) (fun a b => some (decide (a = b))) (fun a _ b _ => rfl) (fun k i => by simp only [m_sl_Equal_Si_Val_i_Val_l1, eqT_TVal_eq, Option.bind_some]) N 0 (by omega) (by omega)).trans ?_
   simp
  ·rw [if_pos (by simp; omega)]
   have : ¬ x.Fields = y.Fields := fun e => c (by rw [e])
   simp [this]
 unfold m_i_SameFact
 simp only [e, Option.bind_some, andS, seq_eq]
 obtain ⟨a, b⟩ := x; obtain ⟨c, d⟩ := y
 simp only [TFact.mk.injEq, Bool.decide_and]
theorem ssl_take {α : Type} {xs : List α} {i : Nat} (h : i ≤ xs.length) : ssl xs 0 (i : Int) = some (xs.take i) := by
 unfold ssl
 have : (0 : Int) ≤ 0 ∧ (0 : Int) ≤ (i : Int) ∧ (i : Int) ≤ (xs.length : Int) := by omega
 simp [h]
theorem store_i {N : Nat} (hN : 1099000000000 ≤ N) (s : TStore) (h : SzStore s) : m_i_StoreOk N s = some (okStore s) := by
 obtain ⟨h1, h2⟩ := h
 unfold m_i_StoreOk okStore
 have d1 : decide ((40 : Int) < (s.Items.length : Int)) = !decide (s.Items.length ≤ 40) := by rw [← decide_not, decide_eq_decide]; omega
 simp only [in1, Option.bind_some, d1]
 by_cases hn : 1 ≤ s.Next ∧ s.Next ≤ 1000000
 ·have lp : ∀ (n i : Nat), i ≤ s.Items.length → s.Items.length - i < n → m_i_StoreOk_l1 N s n i = some (itemsOk s.Next (s.Items.take i) (s.Items.drop i)) := by
   intro n
   induction n with
   | zero => intro i _ h; omega
   | succ n ih =>
    intro i hi hm
    simp only [m_i_StoreOk_l1]
    by_cases hlt : i < s.Items.length
    ·have c1 : decide ((i : Int) < (s.Items.length : Int)) = true := decide_eq_true (by omega)
     have hf := h2 _ (List.getElem_mem hlt)
     have hnx : IntKind.i64.wrap (s.Next - 1) = s.Next - 1 := wr (by omega) (by omega)
     have hprev : (if decide (0 < (i : Int)) = true then (idx s.Items (IntKind.i64.wrap ((i : Int) - 1))).bind fun x5 => some (decide (s.Items[i].Id ≤ x5.Id)) else some false) = some (!(lastBelow (s.Items.take i) s.Items[i].Id)) := by
      by_cases h0 : 0 < i
      ·have e1 : IntKind.i64.wrap ((i : Int) - 1) = ((i - 1 : Nat) : Int) := by rw [wr (by omega) (by omega)]; omega
       unfold lastBelow; rw [lastTake h0 hi, decide_eq_true (show (0 : Int) < (i : Int) by omega), e1]
       simp only [if_true, idx_nat_lt (show i - 1 < s.Items.length by omega), Option.bind_some]
       rw [← decide_not]; congr 1; rw [decide_eq_decide]; omega
      ·have : i = 0 := by omega
       subst this
       simp [lastBelow]
     have hdup : m_i_StoreOk_l2 N (i : Int) (m_i_StoreOk_l1 N s n) s.Items[i] (s.Items.take i) N 0 = some ((((s.Items.take i).all fun y => !decide (s.Items[i].F = y.F))) && itemsOk s.Next (s.Items.take (i + 1)) (s.Items.drop (i + 1))) := by
      refine lp0 hN (s.Items.take i) (by rw [List.length_take]; omega) (m_i_StoreOk_l2 N (i : Int) (m_i_StoreOk_l1 N s n) s.Items[i] (s.Items.take i)) (fun t => some ((t.all fun y => !decide (s.Items[i].F = y.F)) && itemsOk s.Next (s.Items.take (i + 1)) (s.Items.drop (i + 1)))) (fun m k y t g1 g2 g3 g4 g5 g6 g7 => ?_) (fun m k g1 g2 => ?_)
      ·simp only [m_i_StoreOk_l2, g5, if_true, g4, Option.bind_some, sameF_i hN s.Items[i].F y.F (by have := hf.2.1; omega), g6, g7, List.all_cons]
       cases decide (s.Items[i].F = y.F) <;> simp
      ·simp only [m_i_StoreOk_l2, g2, Bool.false_eq_true, if_false, wr1 i (by omega), ih (i + 1) (by omega) (by omega)]; rfl
     have d2 : decide (s.Items[i].Id ≤ s.Next - 1) = decide (s.Items[i].Id < s.Next) := by rw [decide_eq_decide]; omega
     have htk : s.Items.take (i + 1) = s.Items.take i ++ [s.Items[i]] := List.take_succ_eq_append_getElem hlt
     rw [List.drop_eq_getElem_cons hlt, itemsOk, ← htk]
     simp only [c1, if_true, idx_nat_lt hlt, Option.bind_some, fact_i hN _ hf, in1, hnx, d2, hprev, ssl_take (show i ≤ s.Items.length by omega), hdup]
     cases okFact s.Items[i].F with
     | false => simp
     | true =>
      cases (decide (1 ≤ s.Items[i].Id) && decide (s.Items[i].Id < s.Next)) with
      | false => simp
      | true =>
       cases (lastBelow (s.Items.take i) s.Items[i].Id) <;> simp
    ·have c1 : decide ((i : Int) < (s.Items.length : Int)) = false := decide_eq_false (by omega)
     rw [List.drop_of_length_le (by omega)]
     simp only [c1, Bool.false_eq_true, if_false]; rfl
  have l0 := lp N 0 (by omega) (by omega)
  rw [List.take_zero, List.drop_zero, show ((0 : Nat) : Int) = 0 from rfl] at l0
  rw [l0, decide_eq_true hn.1, decide_eq_true hn.2]
  cases decide (s.Items.length ≤ 40) <;> simp
 ·have : (decide (1 ≤ s.Next) && decide (s.Next ≤ 1000000)) = false := by
   rw [Bool.eq_false_iff]
   intro h
   simp only [Bool.and_eq_true, decide_eq_true_eq] at h
   exact hn h
  rw [this]
  cases decide (s.Items.length ≤ 40) <;> simp
theorem alphaAt_i {N : Nat} (hN : 1099000000000 ≤ N) (as : List TAlpha) (cs : List TChain) (p : TPat) (hp : p.Args.length ≤ 1048576) (hl : as.length ≤ 4194304) (h : ∀ a ∈ as, SzAlpha a) :
  m_i_Net_alphaAt N ⟨as, cs⟩ p = some ((placeOf as (alphaOf p)).1, ⟨(placeOf as (alphaOf p)).2, cs⟩) := by
 unfold m_i_Net_alphaAt
 rw [alpha_i hN p hp, Option.bind_some]
 have lp : ∀ (n i : Nat), i ≤ as.length → as.length - i < n → m_i_Net_alphaAt_l1 N ⟨as, cs⟩ (alphaOf p) n i =
   some (match (as.drop i).findIdx? (fun x => decide (x = alphaOf p)) with | some j => ((i + j : Nat) : Int) | none => (as.length : Int), ⟨match (as.drop i).findIdx? (fun x => decide (x = alphaOf p)) with | some j => as | none => as ++ [alphaOf p], cs⟩) := by
  intro n
  induction n with
  | zero => intro i _ h; omega
  | succ n ih =>
   intro i hi hn
   by_cases hlt : i < as.length
   ·have c1 : decide ((i : Int) < (as.length : Int)) = true := decide_eq_true (by omega)
    rw [List.drop_eq_getElem_cons hlt, List.findIdx?_cons]
    simp only [m_i_Net_alphaAt_l1, c1, if_true, idx_nat_lt hlt, Option.bind_some, sameA_i hN _ _ (h _ (List.getElem_mem hlt)), wr1 i (by omega), ih (i + 1) (by omega) (by omega)]
    by_cases he : as[i] = alphaOf p
    ·simp [he]
    ·simp only [he, decide_false, Bool.false_eq_true, if_false]
     cases (as.drop (i + 1)).findIdx? (fun x => decide (x = alphaOf p)) with
     | none => rfl
     | some j => simp only [Option.map_some]; rw [show i + (j + 1) = i + 1 + j by omega]
   ·have c1 : decide ((i : Int) < (as.length : Int)) = false := decide_eq_false (by omega)
    rw [List.drop_of_length_le (by omega)]
    simp only [m_i_Net_alphaAt_l1, c1, Bool.false_eq_true, if_false, app_ok (show as.length + [alphaOf p].length ≤ 4294967296 by simp; omega), Option.bind_some, List.findIdx?_nil]
    have e : IntKind.i64.wrap (((as ++ [alphaOf p]).length : Int) - 1) = (as.length : Int) := by
     rw [wr (by simp only [List.length_append, List.length_cons, List.length_nil]; omega) (by simp only [List.length_append, List.length_cons, List.length_nil]; omega)]; simp only [List.length_append, List.length_cons, List.length_nil]; omega
    rw [e]
 have := lp N 0 (by omega) (by omega)
 rw [show ((0 : Nat) : Int) = 0 from rfl, List.drop_zero] at this
 rw [this]
 unfold placeOf
 cases as.findIdx? (fun x => decide (x = alphaOf p)) <;> simp
theorem netIn_i {N : Nat} (hN : 1099000000000 ≤ N) (d : TDef) (h : SzNetD d.Rules) : m_i_netIn N d = some (netOf d) := by
 obtain ⟨h1, h2, h3⟩ := h
 unfold m_i_netIn netOf
 refine lp' hN d.Rules (by omega) (fun n (s : List TAlpha × List TChain) i => m_i_netIn_l1 N d n s.1 s.2 i) (fun t s => some (addRules s.1 s.2 t)) (fun s t => s.1.length + nPats t ≤ 1048576 ∧ s.2.length + t.length ≤ 1048576 ∧ ∀ a ∈ s.1, SzAlpha a) ([], []) ⟨by simpa using h2, by simpa using h1, by simp⟩ (fun n s i r t g1 g2 g3 g4 g5 g6 gI ih => ?_) (fun n s i g1 g2 gI => ?_)
 ·obtain ⟨i1, i2, i3⟩ := gI
  rw [nPats_cons] at i1
  simp only [List.length_cons] at i2
  simp only [m_i_netIn_l1, g5, if_true, g4, Option.bind_some, addRules]
  have key : ∀ (as : List TAlpha), as.length + r.Pats.length + nPats t ≤ 1048576 → (∀ a ∈ as, SzAlpha a) → m_i_netIn_l2 N s.2 (i : Int) (m_i_netIn_l1 N d n) r N as [] [] 0 = some (addRules (addPats as [] [] r.Pats).1 (s.2 ++ [⟨(addPats as [] [] r.Pats).2.1, (addPats as [] [] r.Pats).2.2⟩]) t) := by
   intro as ha hz
   refine lp' hN r.Pats (by omega) (fun m (u : List TAlpha × List Int × List Int) k => m_i_netIn_l2 N s.2 (i : Int) (m_i_netIn_l1 N d n) r m u.1 u.2.1 u.2.2 k) (fun l u => some (addRules (addPats u.1 u.2.2 u.2.1 l).1 (s.2 ++ [⟨(addPats u.1 u.2.2 u.2.1 l).2.1, (addPats u.1 u.2.2 u.2.1 l).2.2⟩]) t))
    (fun u l => u.1.length + l.length + nPats t ≤ 1048576 ∧ u.2.1.length + u.2.2.length + l.length ≤ 1048576 ∧ ∀ a ∈ u.1, SzAlpha a) (as, [], []) ⟨ha, by simp; omega, hz⟩ (fun m u k p l f1 f2 f3 f4 f5 f6 fI fh => ?_) (fun m u k f1 f2 fI => ?_)
   ·obtain ⟨j1, j2, j3⟩ := fI
    simp only [List.length_cons] at j1 j2
    have hp := h3 r g2 p f2
    have hpl := (placeOf_len u.1 (alphaOf p)).1
    have hall := placeOf_all j3 (alphaOf_sz hp)
    simp only [m_i_netIn_l2, f5, if_true, f4, Option.bind_some, alphaAt_i hN u.1 s.2 p hp (by omega) j3, f6, addPats]
    cases hnot : p.Not with
    | true =>
     simp only [if_true, app_ok (show u.2.1.length + [(placeOf u.1 (alphaOf p)).1].length ≤ 4294967296 by simp; omega), Option.bind_some]
     exact fh ((placeOf u.1 (alphaOf p)).2, u.2.1 ++ [(placeOf u.1 (alphaOf p)).1], u.2.2) ⟨by simp only; omega, by simp; omega, hall⟩
    | false =>
     simp only [Bool.false_eq_true, if_false, app_ok (show u.2.2.length + [(placeOf u.1 (alphaOf p)).1].length ≤ 4294967296 by simp; omega), Option.bind_some]
     exact fh ((placeOf u.1 (alphaOf p)).2, u.2.1, u.2.2 ++ [(placeOf u.1 (alphaOf p)).1]) ⟨by simp only; omega, by simp; omega, hall⟩
   ·obtain ⟨j1, j2, j3⟩ := fI
    simp only [m_i_netIn_l2, f2, Bool.false_eq_true, if_false, app_ok (show s.2.length + [(⟨u.2.2, u.2.1⟩ : TChain)].length ≤ 4294967296 by simp; omega), Option.bind_some, g6, addPats]
    exact ih (u.1, s.2 ++ [⟨u.2.2, u.2.1⟩]) ⟨by simp only [List.length_nil] at j1 ⊢; omega, by simp; omega, j3⟩
  exact key s.1 (by omega) i3
 ·simp only [m_i_netIn_l1, g2, Bool.false_eq_true, if_false]; rfl
theorem sameIs {N : Nat} (hN : 1099000000000 ≤ N) (x y : List Int) (hl : x.length ≤ 4294967296) : m_s_l11Same N x y = some (decide (x = y)) := by
 unfold m_s_l11Same
 by_cases c : x.length = y.length
 ·rw [if_neg (by simp; omega)]
  refine (eqloop (m_s_l11Same_l1 N x y) x y c (by omega) (fun a b => some (decide (a = b))) (fun a _ b _ => rfl) (fun k i => rfl) N 0 (by omega) (by omega)).trans ?_
  simp
 ·rw [if_pos (by simp; omega)]
  have : ¬ x = y := fun e => c (by rw [e])
  simp [this]
theorem alpha_s {N : Nat} (hN : 1099000000000 ≤ N) (p : TPat) (hl : p.Args.length ≤ 1048576) : m_s_AlphaOf N p = some (alphaOf p) := by
 have lp : ∀ (n i : Nat) (cs : List TVal) (as : List Int), i ≤ p.Args.length → p.Args.length - i < n → cs.length ≤ i → as.length ≤ i →
   m_s_AlphaOf_l1 N p n cs as i = some ⟨p.Kind, (p.Args.length : Int), cs ++ consts (p.Args.drop i), as ++ ats i (p.Args.drop i)⟩ := by
  intro n
  induction n with
  | zero => intro i _ _ _ h; omega
  | succ n ih =>
   intro i cs as hi hn h1 h2
   by_cases hlt : i < p.Args.length
   ·have c1 : decide ((i : Int) < (p.Args.length : Int)) = true := decide_eq_true (by omega)
    rw [List.drop_eq_getElem_cons hlt]
    simp only [m_s_AlphaOf_l1, c1, if_true, idx_nat_lt hlt, Option.bind_some, wr1 i (by omega), consts, ats]
    by_cases hk : p.Args[i].K = 2
    ·simp only [hk, decide_true, if_true, app_ok (show cs.length + [p.Args[i].V].length ≤ 4294967296 by simp; omega), app_ok (show as.length + [(i : Int)].length ≤ 4294967296 by simp; omega), Option.bind_some]
     rw [ih (i + 1) _ _ (by omega) (by omega) (by simp; omega) (by simp; omega)]; simp
    ·simp only [hk, decide_false, Bool.false_eq_true, if_false]
     exact ih (i + 1) _ _ (by omega) (by omega) (by omega) (by omega)
   ·have c1 : decide ((i : Int) < (p.Args.length : Int)) = false := decide_eq_false (by omega)
    rw [List.drop_of_length_le (by omega)]
    simp only [m_s_AlphaOf_l1, c1, Bool.false_eq_true, if_false, consts, ats, List.append_nil]
 have := lp N 0 [] [] (by omega) (by omega) (by simp) (by simp)
 unfold m_s_AlphaOf alphaOf
 simpa using this
theorem sameA_s {N : Nat} (hN : 1099000000000 ≤ N) (x y : TAlpha) (h : SzAlpha x) : m_s_SameAlpha N x y = some (decide (x = y)) := by
 unfold m_s_SameAlpha
 simp only [sameIs hN _ _ (show x.At.length ≤ 4294967296 by have := h.2; omega), sameVs hN _ _ (show x.Consts.length ≤ 4294967296 by have := h.1; omega), Option.bind_some, andS, seq_eq]
 obtain ⟨a, b, c, d⟩ := x; obtain ⟨e, f, g, k⟩ := y
 congr 1
 rw [Bool.eq_iff_iff]
 simp only [TAlpha.mk.injEq, Bool.and_eq_true, decide_eq_true_eq]
 constructor
 ·rintro ⟨⟨⟨h1, h2⟩, h3⟩, h4⟩; exact ⟨h1, h2, h4, h3⟩
 ·rintro ⟨h1, h2, h4, h3⟩; exact ⟨⟨⟨h1, h2⟩, h3⟩, h4⟩
theorem find_s {N : Nat} (hN : 1099000000000 ≤ N) (as : List TAlpha) (cs : List TChain) (a : TAlpha) (hl : as.length ≤ 4194304) (h : ∀ a ∈ as, SzAlpha a) :
  m_s_l12Find N ⟨as, cs⟩ a = some ((placeOf as a).1, ⟨(placeOf as a).2, cs⟩) := by
 unfold m_s_l12Find
 have lp : ∀ (n i : Nat), i ≤ as.length → as.length - i < n → m_s_l12Find_l1 N ⟨as, cs⟩ a n i =
   some (match (as.drop i).findIdx? (fun x => decide (x = a)) with | some j => ((i + j : Nat) : Int) | none => (as.length : Int), ⟨match (as.drop i).findIdx? (fun x => decide (x = a)) with | some j => as | none => as ++ [a], cs⟩) := by
  intro n
  induction n with
  | zero => intro i _ h; omega
  | succ n ih =>
   intro i hi hn
   by_cases hlt : i < as.length
   ·have c1 : decide ((i : Int) < (as.length : Int)) = true := decide_eq_true (by omega)
    rw [List.drop_eq_getElem_cons hlt, List.findIdx?_cons]
    simp only [m_s_l12Find_l1, c1, if_true, idx_nat_lt hlt, Option.bind_some, sameA_s hN _ _ (h _ (List.getElem_mem hlt)), wr1 i (by omega), ih (i + 1) (by omega) (by omega)]
    by_cases he : as[i] = a
    ·simp [he]
    ·simp only [he, decide_false, Bool.false_eq_true, if_false]
     cases (as.drop (i + 1)).findIdx? (fun x => decide (x = a)) with
     | none => rfl
     | some j => simp only [Option.map_some]; rw [show i + (j + 1) = i + 1 + j by omega]
   ·have c1 : decide ((i : Int) < (as.length : Int)) = false := decide_eq_false (by omega)
    rw [List.drop_of_length_le (by omega)]
    simp only [m_s_l12Find_l1, c1, Bool.false_eq_true, if_false, app_ok (show as.length + [a].length ≤ 4294967296 by simp; omega), Option.bind_some, List.findIdx?_nil]
    have e : IntKind.i64.wrap (((as ++ [a]).length : Int) - 1) = (as.length : Int) := by
     rw [wr (by simp only [List.length_append, List.length_cons, List.length_nil]; omega) (by simp only [List.length_append, List.length_cons, List.length_nil]; omega)]; simp only [List.length_append, List.length_cons, List.length_nil]; omega
    rw [e]
 have := lp N 0 (by omega) (by omega)
 rw [show ((0 : Nat) : Int) = 0 from rfl, List.drop_zero] at this
 rw [this]
 unfold placeOf
 cases as.findIdx? (fun x => decide (x = a)) <;> simp
theorem net_s {N : Nat} (hN : 1099000000000 ≤ N) (d : TDef) (h : SzNetD d.Rules) : m_s_l12Net N d = some (netOf d) := by
 obtain ⟨h1, h2, h3⟩ := h
 unfold m_s_l12Net netOf
 refine lp' hN d.Rules (by omega) (fun n (s : List TAlpha × List TChain) i => m_s_l12Net_l1 N d n s.1 s.2 i) (fun t s => some (addRules s.1 s.2 t)) (fun s t => s.1.length + nPats t ≤ 1048576 ∧ s.2.length + t.length ≤ 1048576 ∧ ∀ a ∈ s.1, SzAlpha a) ([], []) ⟨by simpa using h2, by simpa using h1, by simp⟩ (fun n s i r t g1 g2 g3 g4 g5 g6 gI ih => ?_) (fun n s i g1 g2 gI => ?_)
 ·obtain ⟨i1, i2, i3⟩ := gI
  rw [nPats_cons] at i1
  simp only [List.length_cons] at i2
  simp only [m_s_l12Net_l1, g5, if_true, addRules]
  have key : ∀ (as : List TAlpha), as.length + r.Pats.length + nPats t ≤ 1048576 → (∀ a ∈ as, SzAlpha a) → m_s_l12Net_l2 N d s.2 (i : Int) (m_s_l12Net_l1 N d n) N as [] [] 0 = some (addRules (addPats as [] [] r.Pats).1 (s.2 ++ [⟨(addPats as [] [] r.Pats).2.1, (addPats as [] [] r.Pats).2.2⟩]) t) := by
   intro as ha hz
   refine lp' hN r.Pats (by omega) (fun m (u : List TAlpha × List Int × List Int) k => m_s_l12Net_l2 N d s.2 (i : Int) (m_s_l12Net_l1 N d n) m u.1 u.2.1 u.2.2 k) (fun l u => some (addRules (addPats u.1 u.2.2 u.2.1 l).1 (s.2 ++ [⟨(addPats u.1 u.2.2 u.2.1 l).2.1, (addPats u.1 u.2.2 u.2.1 l).2.2⟩]) t))
    (fun u l => u.1.length + l.length + nPats t ≤ 1048576 ∧ u.2.1.length + u.2.2.length + l.length ≤ 1048576 ∧ ∀ a ∈ u.1, SzAlpha a) (as, [], []) ⟨ha, by simp; omega, hz⟩ (fun m u k p l f1 f2 f3 f4 f5 f6 fI fh => ?_) (fun m u k f1 f2 fI => ?_)
   ·obtain ⟨j1, j2, j3⟩ := fI
    simp only [List.length_cons] at j1 j2
    have hp := h3 r g2 p f2
    have hpl := (placeOf_len u.1 (alphaOf p)).1
    have hall := placeOf_all j3 (alphaOf_sz hp)
    simp only [m_s_l12Net_l2, g4, f5, if_true, f4, Option.bind_some, alpha_s hN p hp, find_s hN u.1 s.2 _ (show u.1.length ≤ 4194304 by omega) j3, f6, addPats]
    cases hnot : p.Not with
    | true =>
     simp only [if_true, app_ok (show u.2.1.length + [(placeOf u.1 (alphaOf p)).1].length ≤ 4294967296 by simp; omega), Option.bind_some]
     exact fh ((placeOf u.1 (alphaOf p)).2, u.2.1 ++ [(placeOf u.1 (alphaOf p)).1], u.2.2) ⟨by simp only; omega, by simp; omega, hall⟩
    | false =>
     simp only [Bool.false_eq_true, if_false, app_ok (show u.2.2.length + [(placeOf u.1 (alphaOf p)).1].length ≤ 4294967296 by simp; omega), Option.bind_some]
     exact fh ((placeOf u.1 (alphaOf p)).2, u.2.1, u.2.2 ++ [(placeOf u.1 (alphaOf p)).1]) ⟨by simp only; omega, by simp; omega, hall⟩
   ·obtain ⟨j1, j2, j3⟩ := fI
    simp only [m_s_l12Net_l2, g4, f2, Bool.false_eq_true, if_false, app_ok (show s.2.length + [(⟨u.2.2, u.2.1⟩ : TChain)].length ≤ 4294967296 by simp; omega), Option.bind_some, g6, addPats]
    exact ih (u.1, s.2 ++ [⟨u.2.2, u.2.1⟩]) ⟨by simp only [List.length_nil] at j1 ⊢; omega, by simp; omega, j3⟩
  exact key s.1 (by omega) i3
 ·simp only [m_s_l12Net_l1, g2, Bool.false_eq_true, if_false]; rfl
theorem szExpr_of (e : TExpr) (h : totTExpr e ≤ 1048576) : SzExpr e := by
 unfold totTExpr totTArg totTVal at h
 refine ⟨by omega, ⟨by omega, by omega⟩, ⟨by omega, by omega⟩⟩
theorem szAct_of (a : TAct) (h : totTAct a ≤ 1048576) : SzAct a := by
 unfold totTAct at h
 have nn : ∀ y ∈ a.Args, 0 ≤ totTExpr y := fun y _ => totTExpr_nn y
 have := sum_nonneg _ _ nn
 exact ⟨by omega, by omega, by omega, fun e he => szExpr_of e (by have := sum_mem _ _ nn e he; omega)⟩
theorem szArg_of (a : TArg) (h : totTArg a ≤ 1048576) : SzArg a := by
 unfold totTArg totTVal at h
 exact ⟨by omega, by omega⟩
theorem szPat_of (p : TPat) (h : totTPat p ≤ 1048576) : SzPat p := by
 unfold totTPat at h
 have nn : ∀ y ∈ p.Args, 0 ≤ totTArg y := fun y _ => totTArg_nn y
 have := sum_nonneg _ _ nn
 exact ⟨by omega, by omega, fun a ha => szArg_of a (by have := sum_mem _ _ nn a ha; omega)⟩
theorem szCond_of (c : TCond) (h : totTCond c ≤ 1048576) : SzCond c := by
 unfold totTCond at h
 have := totTArg_nn c.L
 have := totTArg_nn c.R
 exact ⟨szArg_of _ (by omega), szArg_of _ (by omega)⟩
theorem nArgs_tot : ∀ (l : List TPat), (nArgs l : Int) ≤ (l.map totTPat).sum
 | [] => by simp [nArgs]
 | p :: t => by
  have h1 := nArgs_tot t
  have h2 : (p.Args.length : Int) ≤ totTPat p := by
   unfold totTPat
   have := sum_nonneg totTArg p.Args (fun y _ => totTArg_nn y)
   omega
  have h3 : nArgs (p :: t) = p.Args.length + nArgs t := by simp [nArgs]
  rw [h3, List.map_cons, List.sum_cons]; omega
theorem nExprs_tot : ∀ (l : List TAct), (nExprs l : Int) ≤ (l.map totTAct).sum
 | [] => by simp [nExprs]
 | p :: t => by
  have h1 := nExprs_tot t
  have h2 : (p.Args.length : Int) ≤ totTAct p := by
   unfold totTAct
   have := sum_nonneg totTExpr p.Args (fun y _ => totTExpr_nn y)
   omega
  have h3 : nExprs (p :: t) = p.Args.length + nExprs t := by simp [nExprs]
  rw [h3, List.map_cons, List.sum_cons]; omega
theorem szRule_of (r : TRule) (h : totTRule r ≤ 1048576) : SzRule r := by
 unfold totTRule at h
 have n1 : ∀ y ∈ r.Pats, 0 ≤ totTPat y := fun y _ => totTPat_nn y
 have n2 : ∀ y ∈ r.Conds, 0 ≤ totTCond y := fun y _ => totTCond_nn y
 have n3 : ∀ y ∈ r.Acts, 0 ≤ totTAct y := fun y _ => totTAct_nn y
 have s1 := sum_nonneg _ _ n1
 have s2 := sum_nonneg _ _ n2
 have s3 := sum_nonneg _ _ n3
 have s4 := nArgs_tot r.Pats
 have s5 := nExprs_tot r.Acts
 refine ⟨by omega, ⟨by omega, fun p hp => szPat_of p (by have := sum_mem _ _ n1 p hp; omega)⟩, ⟨by omega, fun p hp => szCond_of p (by have := sum_mem _ _ n2 p hp; omega)⟩, ⟨by omega, fun p hp => szAct_of p (by have := sum_mem _ _ n3 p hp; omega)⟩, by omega, ?_⟩
 have : nExprs r.Acts ≤ 1048576 := by omega
 exact this
theorem szDef_of (d : TDef) (h : totTDef d ≤ 1048576) : SzDef d := by
 unfold totTDef at h
 have n1 : ∀ y ∈ d.Rules, 0 ≤ totTRule y := fun y _ => totTRule_nn y
 have s1 := sum_nonneg _ _ n1
 exact ⟨by omega, by omega, fun r hr => szRule_of r (by have := sum_mem _ _ n1 r hr; omega)⟩
def memTo (d : TDef) (n : TNet) (nx : Int) : List TItem → List TItem → TMem → TMem
 | _, [], m => m
 | done, x :: t, m => memTo d n nx (done ++ [x]) t (addT d n m ⟨done ++ [x], nx⟩ x.Id)
theorem sz_store (s : TStore) (h : totTStore s ≤ 1048576) : SzStore s := by
 unfold totTStore at h
 have n4 : ∀ y ∈ s.Items, 0 ≤ totTItem y := fun y _ => totTItem_nn y
 have s4 := sum_nonneg _ _ n4
 refine ⟨by omega, fun x hx => ?_⟩
 have h0 := sum_mem _ _ n4 x hx
 have h : totTItem x ≤ 1048576 := by omega
 unfold totTItem totTFact at h
 have nn : ∀ y ∈ x.F.Fields, 0 ≤ totTVal y := fun y _ => totTVal_nn y
 have := sum_nonneg _ _ nn
 refine ⟨by omega, by omega, fun v hv => ?_⟩
 have h5 := sum_mem _ _ nn v hv
 have h6 : totTVal v ≤ 1048576 := by omega
 unfold totTVal at h6
 omega
theorem to_inv {d : TDef} {n : TNet} {nx : Int} (hc : n.Chains.length = d.Rules.length) : ∀ (rest done : List TItem) (m : TMem), done.length + rest.length ≤ 40 → MemI d n done.length m → MemI d n (done.length + rest.length) (memTo d n nx done rest m)
 | [], done, m, _, h => h
 | x :: t, done, m, hl, h => by
  simp only [List.length_cons] at hl
  have h1 := addT_inv (s := ⟨done ++ [x], nx⟩) (id := x.Id) (by omega) (by simp; omega) hc h
  have := to_inv (nx := nx) hc t (done ++ [x]) _ (by simp; omega) (by simpa using h1)
  unfold memTo
  simpa [Nat.add_assoc, Nat.add_comm 1] using this
theorem of_loops {N : Nat} (hN : 1099000000000 ≤ N) (d : TDef) (s : TStore) (hd : okDef d = true) (hsz : SzDef d) (hl : s.Items.length ≤ 40) (hf : ∀ x ∈ s.Items, x.F.Fields.length ≤ 1048576) : ∀ (rest done : List TItem) (k : Nat) (m : TMem), rest.length < k → s.Items = done ++ rest → MemI d (netOf d) done.length m →
  m_i_memIn_l1 N d s (netOf d) k m.Alphas m.Rules (done.length : Int) = some (memTo d (netOf d) s.Next done rest m) ∧ m_s_l13Of_l1 N d (netOf d) s k m.Alphas m.Rules (done.length : Int) = some (memTo d (netOf d) s.Next done rest m)
 | [], done, k, m, hk, hs, h => by
  obtain ⟨k, rfl⟩ : ∃ j, k = j + 1 := ⟨k - 1, by simp at hk; omega⟩
  have c1 : decide ((done.length : Int) < (s.Items.length : Int)) = false := decide_eq_false (by rw [hs]; simp)
  simp only [m_i_memIn_l1, m_s_l13Of_l1, c1, Bool.false_eq_true, if_false, memTo, and_self]
 | x :: t, done, k, m, hk, hs, h => by
  obtain ⟨k, rfl⟩ : ∃ j, k = j + 1 := ⟨k - 1, by omega⟩
  simp only [List.length_cons] at hk
  have hsl : s.Items.length = done.length + (t.length + 1) := by rw [hs]; simp
  have c1 : decide ((done.length : Int) < (s.Items.length : Int)) = true := decide_eq_true (by omega)
  have e1 : idx s.Items (done.length : Int) = some x := by rw [hs]; exact idx_mid _ _ _
  have e2 : ssl s.Items 0 ((done.length + 1 : Nat) : Int) = some (done ++ [x]) := by
   rw [ssl_take (by omega), hs]
   congr 1
   rw [show done ++ x :: t = (done ++ [x]) ++ t by simp, List.take_left' (by simp)]
  have ok := addOk_of (s := ⟨done ++ [x], s.Next⟩) (id := x.Id) hd hsz (by simp; omega) (fun y hy => hf y (by rw [hs]; simp at hy ⊢; rcases hy with hy | hy <;> simp [hy])) (by omega) h
  have hc : (netOf d).Chains.length = d.Rules.length := (netOf_at (okDef_net hd)).2.1.len
  have h1 := addT_inv (s := ⟨done ++ [x], s.Next⟩) (id := x.Id) (by omega) (by simp; omega) hc h
  have ih := of_loops hN d s hd hsz hl hf t (done ++ [x]) k (addT d (netOf d) m ⟨done ++ [x], s.Next⟩ x.Id) (by omega) (by rw [hs]; simp) (by simpa using h1)
  simp only [List.length_append, List.length_cons, List.length_nil, Nat.zero_add] at ih
  simp only [m_i_memIn_l1, m_s_l13Of_l1, c1, if_true, e1, e2, Option.bind_some, wr1 done.length (by omega), add_i hN d (netOf d) _ _ x.Id ok.ok, add_s hN d (netOf d) _ _ x.Id ok]
  exact ih
theorem mem_tot {d : TDef} {m : TMem} (hd : okDef d = true) (h : MemI d (netOf d) 40 m) : LimTMem m ∧ totTMem m ≤ 1125899906842624 := by
 have hnd := okDef_net hd
 obtain ⟨⟨z1, z2⟩, z3, z4⟩ := netOf_sz hnd
 have hrl : d.Rules.length ≤ 12 := by
  unfold okDef at hd
  simp only [Bool.and_eq_true, decide_eq_true_eq] at hd
  exact hd.2.1.2
 have hr : ∀ r ∈ d.Rules, r.Pats.length ≤ 6 ∧ (pos r.Pats).length ≤ 3 := fun r hr => by
  have ho := okDef_rule hd r hr
  have hp : okPats r.Pats = true := by
   unfold okRule at ho
   simp only [Bool.and_eq_true] at ho
   exact ho.2.2.1
  have hfc : (pos r.Pats).length = posCount r.Pats := filt_count r.Pats
  unfold okPats at hp
  simp only [Bool.and_eq_true, decide_eq_true_eq] at hp
  obtain ⟨⟨_, p1⟩, ⟨p2, p3⟩, _⟩ := hp
  exact ⟨p1, by omega⟩
 have sle : ∀ {α : Type} {f : α → Int} {B : Int} (l : List α), (∀ x ∈ l, f x ≤ B) → (l.map f).sum ≤ (l.length : Int) * B := by
  intro α f B l
  induction l with
  | nil => intro _; simp
  | cons x t ih =>
   intro h
   have h1 := ih fun y hy => h y (by simp [hy])
   have h2 := h x (by simp)
   simp only [List.map_cons, List.sum_cons, List.length_cons]
   have : ((t.length + 1 : Nat) : Int) * B = (t.length : Int) * B + B := by rw [Int.natCast_add, Int.add_mul]; simp
   omega
 have tok : ∀ r ∈ d.Rules, ∀ i, i < 3 → ∀ t, TokI (pos r.Pats) (neg r.Pats) i t → t.Ids.length ≤ 3 ∧ t.Hits.length ≤ 6 := fun r hr' i hi t ht => by
  obtain ⟨a, b, _⟩ := ht
  have := List.length_filter_le (fun p : TPat => p.Not) r.Pats
  have hn : (neg r.Pats).length ≤ r.Pats.length := this
  have := hr r hr'
  omega
 have lev : ∀ r ∈ d.Rules, ∀ i, i < 3 → ∀ L, LevI (pos r.Pats) (neg r.Pats) 40 i L → L.Toks.length ≤ 400000 ∧ (∀ t ∈ L.Toks, t.Ids.length ≤ 3 ∧ t.Hits.length ≤ 6) ∧ totTLevel L ≤ 4000000 := fun r hr' i hi L hL => by
  obtain ⟨a, b⟩ := hL
  have hp : 100 ^ i ≤ 10000 := by
   have : 100 ^ i ≤ 100 ^ 2 := Nat.pow_le_pow_right (by omega) (by omega)
   simpa using this
  have hll : L.Toks.length ≤ 400000 := by
   have : 40 * 100 ^ i ≤ 40 * 10000 := Nat.mul_le_mul_left _ hp
   omega
  have ht : ∀ t ∈ L.Toks, t.Ids.length ≤ 3 ∧ t.Hits.length ≤ 6 := fun t ht => tok r hr' i hi t (b t ht)
  refine ⟨hll, ht, ?_⟩
  have := sle (f := totTTok) (B := 9) L.Toks fun t h => by
   have := ht t h
   unfold totTTok; omega
  unfold totTLevel
  omega
 have row : ∀ w ∈ m.Rules, LimTRow w ∧ totTRow w ≤ 12000003 := fun w hw => by
  obtain ⟨i, hi, rfl⟩ := List.getElem_of_mem hw
  have hi' : i < d.Rules.length := by rw [← h.lr]; exact hi
  obtain ⟨k1, k2⟩ := h.rows i _ _ (List.getElem?_eq_getElem hi') (List.getElem?_eq_getElem hi)
  have hrm := List.getElem_mem hi'
  have hp := (hr _ hrm).2
  have hlv : ∀ L ∈ m.Rules[i].Levels, L.Toks.length ≤ 400000 ∧ (∀ t ∈ L.Toks, t.Ids.length ≤ 3 ∧ t.Hits.length ≤ 6) ∧ totTLevel L ≤ 4000000 := fun L hL => by
   obtain ⟨k, hk, rfl⟩ := List.getElem_of_mem hL
   exact lev _ hrm k (by omega) _ (k2 k _ (List.getElem?_eq_getElem hk))
  refine ⟨⟨by omega, fun L hL => ⟨by have := (hlv L hL).1; omega, fun t ht => ?_⟩⟩, ?_⟩
  ·have := (hlv L hL).2.1 t ht
   exact ⟨by omega, by omega⟩
  ·have := sle (f := totTLevel) (B := 4000000) m.Rules[i].Levels fun L hL => (hlv L hL).2.2
   unfold totTRow
   omega
 have e1 := sle (f := totTIds) (B := 40) m.Alphas fun x hx => by have := h.al x hx; unfold totTIds; omega
 have e2 := sle (f := totTRow) (B := 12000003) m.Rules fun x hx => (row x hx).2
 have hla := h.la
 have hlr := h.lr
 refine ⟨⟨⟨by omega, fun x hx => ?_⟩, by omega, fun x hx => (row x hx).1⟩, ?_⟩
 ·have := h.al x hx
  unfold LimTIds; omega
 ·unfold totTMem
  omega
theorem c_MemOf {N : Nat} (hN : 1099000000000 ≤ N) (d : TDef) (s : TStore) (h1 : totTDef d ≤ 1048576) (h2 : totTStore s ≤ 1048576) : ∃ r, m_s_MemOf N d s = some r ∧ m_i_MemOf N d s = some r ∧ LimTMem r ∧ totTMem r ≤ 1125899906842624 := by
 have hz := szDef_of d h1
 have hs := sz_store s h2
 unfold m_s_MemOf m_i_MemOf
 rw [def_s hN d hz, def_i hN d hz]
 simp only [Option.bind_some]
 have nil : LimTMem ⟨[], []⟩ ∧ totTMem ⟨[], []⟩ ≤ 1125899906842624 := ⟨by unfold LimTMem; simp, by unfold totTMem; simp⟩
 cases hd : okDef d with
 | false =>
  simp only [Bool.not_false, if_true, Option.bind_some]
  exact ⟨_, rfl, rfl, nil⟩
 | true =>
  simp only [Bool.not_true, Bool.false_eq_true, if_false, store_s hN s hs, store_i hN s hs, Option.bind_some]
  cases hso : okStore s with
  | false =>
   simp only [Bool.not_false, if_true]
   exact ⟨_, rfl, rfl, nil⟩
  | true =>
   simp only [Bool.not_true, Bool.false_eq_true, if_false]
   have hl : s.Items.length ≤ 40 := by
    unfold okStore at hso
    simp only [Bool.and_eq_true, decide_eq_true_eq] at hso
    exact hso.2.1
   have hnd := okDef_net hd
   have hats := (netOf_at hnd).2.1
   obtain ⟨⟨z1, z2⟩, z3, z4⟩ := netOf_sz hnd
   have hm0 := memNew_inv hats
   have hlp := of_loops hN d s hd hz hl (fun x hx => (hs.2 x hx).2.1) s.Items [] N (memNew (netOf d)) (by omega) rfl hm0
   simp only [List.length_nil, Int.natCast_zero] at hlp
   have hinv := to_inv (nx := s.Next) hats.len s.Items [] (memNew (netOf d)) (by simpa using hl) hm0
   have hmn := memNew_i hN (netOf d) z1 z3 (fun c hc => (z4 c hc).1)
   have hms := memNew_s hN (netOf d) z1 z3 (fun c hc => (z4 c hc).1)
   refine ⟨memTo d (netOf d) s.Next [] s.Items (memNew (netOf d)), ?_, ?_, mem_tot hd ?_⟩
   ·rw [net_s hN d hnd, Option.bind_some]
    unfold m_s_l13Of
    rw [hms, Option.bind_some]
    have h5 : m_s_l13Of_l1 N d (netOf d) s N (memNew (netOf d)).Alphas (memNew (netOf d)).Rules 0 = _ := hlp.2
    rw [h5]
    rfl
   ·unfold m_i_memIn
    rw [netIn_i hN d hnd, Option.bind_some, hmn, Option.bind_some]
    have h5 : m_i_memIn_l1 N d s (netOf d) N (memNew (netOf d)).Alphas (memNew (netOf d)).Rules 0 = _ := hlp.1
    rw [h5]
    rfl
   ·simp only [List.length_nil, Nat.zero_add] at hinv
    exact ⟨hinv.la, hinv.lr, fun i hi => by have := hinv.al i hi; omega, fun i r w e1 e2 => by
     obtain ⟨a, b⟩ := hinv.rows i r w e1 e2
     exact ⟨a, fun k L hL => ⟨Nat.le_trans (b k L hL).1 (Nat.mul_le_mul_right _ hl), (b k L hL).2⟩⟩⟩
set_option maxRecDepth 10000
theorem law_FnExactMemOf {x0 : TDef} (w0 : WfTDef x0) {x1 : TStore} (w1 : WfTStore x1) {N : Nat} (hN0 : 1099400000000 ≤ N) : m_l_FnExactMemOf N x0 x1 = some true := by
 have hN : 1099000000000 ≤ N := by omega
 unfold m_l_FnExactMemOf
 obtain ⟨v0, hv0, hs0⟩ := sz_m_l_szDef hN x0 w0 1048576 (by omega) (by omega)
 rw [hv0]; simp only [Option.bind_some]
 by_cases c0 : v0 < 0
 ·rw [if_pos (by simpa using c0)]
 rw [if_neg (by simpa using c0)]
 replace hs0 := hs0.resolve_left c0
 have n0 := totTDef_nn x0
 obtain ⟨v1, hv1, hs1⟩ := sz_m_l_szStore hN x1 w1 v0 (by omega) (by omega)
 rw [hv1]; simp only [Option.bind_some]
 by_cases c1 : v1 < 0
 ·rw [if_pos (by simpa using c1)]
 rw [if_neg (by simpa using c1)]
 replace hs1 := hs1.resolve_left c1
 have n1 := totTStore_nn x1
 have l0 : LimTDef x0 := LimTDef_of x0 (by omega)
 have l1 : LimTStore x1 := LimTStore_of x1 (by omega)
 have t0 : totTDef x0 ≤ 1048576 := by omega
 have t1 : totTStore x1 ≤ 1048576 := by omega
 obtain ⟨r, hr, hi, rl0, rt0⟩ := c_MemOf (N := N) (by omega) x0 x1 t0 t1
 have mn0 := mcnTDef_nn x0
 have ml0 := mcnTDef_le x0
 obtain ⟨y0_0, mk0⟩ := mk_m_l_markDef hN x0 l0 (1) (by omega) (by unfold big62; omega)
 have mp0 : decide (1 + mcnTDef x0 < 0) = false := decide_eq_false (by omega)
 have mn1 := mcnTStore_nn x1
 have ml1 := mcnTStore_le x1
 obtain ⟨y1_0, mk1⟩ := mk_m_l_markStore hN x1 l1 (1 + mcnTDef x0) (by omega) (by unfold big62; omega)
 have mp1 : decide (1 + mcnTDef x0 + mcnTStore x1 < 0) = false := decide_eq_false (by omega)
 have rn0 := mcnTMem_nn (r)
 have rm0 := mcnTMem_le (r)
 obtain ⟨z0_0, z0_1, rk0, rq0⟩ := mk_m_l_markMem hN (r) rl0 (1) (by omega) (by unfold big62; omega)
 have rp0 : decide (1 + mcnTMem (r) < 0) = false := decide_eq_false (by omega)
 simp only [m_l_FnExactMemOf_j1, m_l_FnExactMemOf_j2, to_m_l_toDef hN x0 l0, eq_m_l_eqDef hN x0 x0 l0, to_m_l_toStore hN x1 l1, eq_m_l_eqStore hN x1 x1 l1, hr, hi, eq_m_l_eqMem hN  (r) (r) rl0, mk0, mp0, mk1, mp1, rk0, rq0, rp0, seq_self, Option.bind_some, decide_true, bne_self_eq_false, Bool.not_true, Bool.not_false, Bool.false_eq_true, if_false, if_true]
namespace fnExactMemOf
theorem law {x0 : TDef} (w0 : WfTDef x0) {x1 : TStore} (w1 : WfTStore x1) : m_l_FnExactMemOf 1099511627776 x0 x1 = some true := law_FnExactMemOf w0 w1 (by omega)
end fnExactMemOf
end Go.Proofs.YtdihjeeniojdmaaGreat
