/- Plain laws, one after the other: PLMemOf. -/
import Derived.Test.YtdihjeeniojdmaaGreatPLib
import Derived.Test.YtdihjeeniojdmaaGreatWExactMemOfPur
import Derived.Test.YtdihjeeniojdmaaGreatWExactMemOfMod
/-
 Plain laws of common loops, for the cores. No program.
-/
namespace Go.Proofs.YtdihjeeniojdmaaGreat
open Eng
set_option linter.unusedVariables false
set_option linter.unusedSimpArgs false
theorem app_ok {α : Type} {xs ys : List α} (h : xs.length + ys.length ≤ 4294967296) : app xs ys = some (xs ++ ys) := by unfold app; rw [if_pos h]
theorem app_nil {α : Type} {ys : List α} (h : ys.length ≤ 4294967296) : app ([] : List α) ys = some ys := by rw [app_ok (by simpa using h)]; rfl
theorem allfrom {α : Type} (f : Nat → Int → Option Bool) (xs : List α) (hl : xs.length ≤ 4294967296) (p : α → Bool) (z : Bool) (i0 : Nat)
  (hs : ∀ n (i : Nat) (x : α), i0 ≤ i → idx xs (i : Int) = some x → x ∈ xs → decide ((i : Int) < (xs.length : Int)) = true → IntKind.i64.wrap ((i : Int) + 1) = ((i + 1 : Nat) : Int) → f (n + 1) i = if p x then f n ((i + 1 : Nat) : Int) else some false)
  (he : ∀ n (i : Nat), decide ((i : Int) < (xs.length : Int)) = false → f (n + 1) i = some z) :
  ∀ (n i : Nat), i0 ≤ i → i ≤ xs.length → xs.length - i < n → f n i = some ((xs.drop i).all p && z) := by
 intro n
 induction n with
 | zero => intro i _ _ h; omega
 | succ n ih =>
  intro i h0 hi hn
  by_cases hlt : i < xs.length
  ·rw [List.drop_eq_getElem_cons hlt, List.all_cons, hs n i xs[i] h0 (idx_nat_lt hlt) (List.getElem_mem hlt) (decide_eq_true (by omega)) (wr1 i (by omega)), ih (i + 1) (by omega) (by omega) (by omega)]
   cases p xs[i] <;> simp
  ·rw [he n i (decide_eq_false (by omega)), List.drop_of_length_le (by omega), List.all_nil, Bool.true_and]
theorem findloop {α : Type} (f : Nat → Int → Option Int) (xs : List α) (hl : xs.length ≤ 4294967296) (p : α → Bool)
  (hs : ∀ n (i : Nat) (x : α), idx xs (i : Int) = some x → x ∈ xs → decide ((i : Int) < (xs.length : Int)) = true → IntKind.i64.wrap ((i : Int) + 1) = ((i + 1 : Nat) : Int) → f (n + 1) i = if p x then some (i : Int) else f n ((i + 1 : Nat) : Int))
  (he : ∀ n (i : Nat), decide ((i : Int) < (xs.length : Int)) = false → f (n + 1) i = some (-1)) :
  ∀ (n i : Nat), i ≤ xs.length → xs.length - i < n → f n i = some (match (xs.drop i).findIdx? p with | some j => ((i + j : Nat) : Int) | none => -1) := by
 intro n
 induction n with
 | zero => intro i _ h; omega
 | succ n ih =>
  intro i hi hn
  by_cases hlt : i < xs.length
  ·rw [List.drop_eq_getElem_cons hlt, List.findIdx?_cons, hs n i xs[i] (idx_nat_lt hlt) (List.getElem_mem hlt) (decide_eq_true (by omega)) (wr1 i (by omega)), ih (i + 1) (by omega) (by omega)]
   cases p xs[i]
   ·simp only [Bool.false_eq_true, if_false]
    cases (xs.drop (i + 1)).findIdx? p with
    | none => rfl
    | some j => simp only [Option.map_some]; congr 2; omega
   ·simp
  ·rw [he n i (decide_eq_false (by omega)), List.drop_of_length_le (by omega)]; rfl
theorem find_any {α : Type} (xs : List α) (p : α → Bool) : decide (0 ≤ (match xs.findIdx? p with | some j => ((0 + j : Nat) : Int) | none => -1)) = xs.any p := by
 cases h : xs.findIdx? p with
 | none =>
  rw [List.findIdx?_eq_none_iff] at h
  simp only [show ¬ (0 : Int) ≤ -1 by omega, decide_false]
  symm; rw [List.any_eq_false]; intro x hx; simp [h x hx]
 | some j =>
  simp only [Nat.zero_add, show (0 : Int) ≤ (j : Int) by omega, decide_true]
  rw [List.findIdx?_eq_some_iff_getElem] at h
  obtain ⟨hj, hp, _⟩ := h
  symm; rw [List.any_eq_true]; exact ⟨_, List.getElem_mem hj, hp⟩
theorem andS (a b : Bool) : (if a = true then some b else some false) = some (a && b) := by cases a <;> rfl
theorem orS (a b : Bool) : (if a = true then some true else some b) = some (a || b) := by cases a <;> rfl
end Go.Proofs.YtdihjeeniojdmaaGreat
/-
 Plain laws of loops over lists, one law for all. No program.
-/
namespace Go.Proofs.YtdihjeeniojdmaaGreat
open Eng
set_option linter.unusedVariables false
set_option linter.unusedSimpArgs false
theorem lp {σ α β : Type} (xs : List α) (hl : xs.length ≤ 4294967296) (f : Nat → σ → Int → Option β) (G : List α → σ → Option β) (I : σ → List α → Prop)
  (hs : ∀ n s (i : Nat) (x : α) (t : List α), xs.drop i = x :: t → x ∈ xs → i < xs.length → idx xs (i : Int) = some x → decide ((i : Int) < (xs.length : Int)) = true → IntKind.i64.wrap ((i : Int) + 1) = ((i + 1 : Nat) : Int) → I s (x :: t) →
   (∀ s', I s' t → f n s' ((i + 1 : Nat) : Int) = G t s') → f (n + 1) s i = G (x :: t) s)
  (he : ∀ n s (i : Nat), i = xs.length → decide ((i : Int) < (xs.length : Int)) = false → I s [] → f (n + 1) s i = G [] s) :
  ∀ (n i : Nat) (s : σ), i ≤ xs.length → xs.length - i < n → I s (xs.drop i) → f n s i = G (xs.drop i) s := by
 intro n
 induction n with
 | zero => intro i s _ h; omega
 | succ n ih =>
  intro i s hi hn hI
  by_cases hlt : i < xs.length
  ·have hd := List.drop_eq_getElem_cons hlt
   rw [hd] at hI ⊢
   exact hs n s i _ _ hd (List.getElem_mem hlt) hlt (idx_nat_lt hlt) (decide_eq_true (by omega)) (wr1 i (by omega)) hI (fun s' hs' => ih (i + 1) s' (by omega) (by omega) hs')
  ·have hd : xs.drop i = [] := List.drop_of_length_le (by omega)
   rw [hd] at hI ⊢
   exact he n s i (by omega) (decide_eq_false (by omega)) hI
theorem lp' {σ α β : Type} {N : Nat} (hN : 1099000000000 ≤ N) (xs : List α) (hl : xs.length ≤ 4294967296) (f : Nat → σ → Int → Option β) (G : List α → σ → Option β) (I : σ → List α → Prop) (s : σ) (h0 : I s xs)
  (hs : ∀ n s (i : Nat) (x : α) (t : List α), xs.drop i = x :: t → x ∈ xs → i < xs.length → idx xs (i : Int) = some x → decide ((i : Int) < (xs.length : Int)) = true → IntKind.i64.wrap ((i : Int) + 1) = ((i + 1 : Nat) : Int) → I s (x :: t) →
   (∀ s', I s' t → f n s' ((i + 1 : Nat) : Int) = G t s') → f (n + 1) s i = G (x :: t) s)
  (he : ∀ n s (i : Nat), i = xs.length → decide ((i : Int) < (xs.length : Int)) = false → I s [] → f (n + 1) s i = G [] s) : f N s 0 = G xs s := by
 have := lp xs hl f G I hs he N 0 s (by omega) (by omega) (by simpa using h0)
 simpa using this
theorem lp0 {α β : Type} {N : Nat} (hN : 1099000000000 ≤ N) (xs : List α) (hl : xs.length ≤ 4294967296) (f : Nat → Int → Option β) (G : List α → Option β)
  (hs : ∀ n (i : Nat) (x : α) (t : List α), xs.drop i = x :: t → x ∈ xs → i < xs.length → idx xs (i : Int) = some x → decide ((i : Int) < (xs.length : Int)) = true → IntKind.i64.wrap ((i : Int) + 1) = ((i + 1 : Nat) : Int) →
   f n ((i + 1 : Nat) : Int) = G t → f (n + 1) i = G (x :: t))
  (he : ∀ n (i : Nat), i = xs.length → decide ((i : Int) < (xs.length : Int)) = false → f (n + 1) i = G []) : f N 0 = G xs := by
 have := lp' (σ := Unit) hN xs hl (fun n _ i => f n i) (fun t _ => G t) (fun _ _ => True) () trivial (fun n _ i x t h1 h2 h3 h4 h5 h6 _ h8 => hs n i x t h1 h2 h3 h4 h5 h6 (h8 () trivial)) (fun n _ i h1 h2 _ => he n i h1 h2)
 simpa using this
theorem orNB (a b : Bool) : (if (!a) = true then some true else some b) = some (!a || b) := by cases a <;> rfl
def zv : TVal := ⟨0, 0, ⟨#[]⟩⟩
def look (p : List TBind) (n : ByteArray) : TVal × Bool := match p.find? (fun b => seq b.Name n) with
 | some b => (b.V, true)
 | none => (zv, false)
theorem look_cons (b : TBind) (p : List TBind) (n : ByteArray) : look (b :: p) n = if seq b.Name n = true then (b.V, true) else look p n := by
 unfold look; rw [List.find?_cons]
 cases seq b.Name n <;> simp
theorem look_s {N : Nat} (hN : 1099000000000 ≤ N) (p : List TBind) (n : ByteArray) (hl : p.length ≤ 4294967296) : m_s_BindOf N p n = some (look p n) := by
 unfold m_s_BindOf
 have : ∀ (k i : Nat), i ≤ p.length → p.length - i < k → m_s_BindOf_l1 N p n k i = some (look (p.drop i) n) := by
  intro k
  induction k with
  | zero => intro i _ h; omega
  | succ k ih =>
   intro i hi hk
   simp only [m_s_BindOf_l1]
   by_cases hlt : i < p.length
   ·have c1 : decide ((i : Int) < (p.length : Int)) = true := decide_eq_true (by omega)
    rw [List.drop_eq_getElem_cons hlt, look_cons]
    simp only [c1, if_true, idx_nat_lt hlt, Option.bind_some, wr1 i (by omega), ih (i + 1) (by omega) (by omega)]
    cases seq p[i].Name n <;> rfl
   ·have c1 : decide ((i : Int) < (p.length : Int)) = false := decide_eq_false (by omega)
    simp only [c1, Bool.false_eq_true, if_false]
    rw [List.drop_of_length_le (by omega)]; rfl
 exact this N 0 (by omega) (by omega)
def matchArgs (b0 : List TBind) : List TArg → List TVal → List TBind → List TBind × Bool
 | a :: as, v :: vs, s =>
  if a.K = 2 then (if eqT_TVal a.V v = true then matchArgs b0 as vs s else (b0, false))
  else if a.K = 1 then (if (look s a.S).2 = true then (if eqT_TVal (look s a.S).1 v = true then matchArgs b0 as vs s else (b0, false)) else matchArgs b0 as vs (s ++ [⟨a.S, v⟩]))
  else matchArgs b0 as vs s
 | _, _, s => (s, true)
theorem match_loopS {N : Nat} (hN : 1099000000000 ≤ N) (p : TPat) (f : TFact) (b : List TBind) (he : p.Args.length = f.Fields.length) (hl : p.Args.length ≤ 1048576) (hb : b.length ≤ 2147483648) : ∀ (n i : Nat) (s : List TBind), i ≤ p.Args.length → p.Args.length - i < n → s.length ≤ 2147483648 + i →
  m_s_MatchPat_l1 N p f b n s i = some (matchArgs b (p.Args.drop i) (f.Fields.drop i) s) := by
 intro n
 induction n with
 | zero => intro i s _ h; omega
 | succ n ih =>
  intro i s hi hn hs
  simp only [m_s_MatchPat_l1]
  by_cases hlt : i < p.Args.length
  ·have c1 : decide ((i : Int) < (p.Args.length : Int)) = true := decide_eq_true (by omega)
   have hlt' : i < f.Fields.length := by omega
   rw [List.drop_eq_getElem_cons hlt, List.drop_eq_getElem_cons hlt', matchArgs]
   simp only [c1, if_true, idx_nat_lt hlt, idx_nat_lt hlt', Option.bind_some, look_s hN s _ (show s.length ≤ 4294967296 by omega), app_nil (show b.length ≤ 4294967296 by omega), app_ok (show s.length + [(⟨p.Args[i].S, f.Fields[i]⟩ : TBind)].length ≤ 4294967296 by simp; omega), wr1 i (by omega), andS, orS]
   have ih1 := ih (i + 1) s (by omega) (by omega) (by omega)
   have ih2 := ih (i + 1) (s ++ [⟨p.Args[i].S, f.Fields[i]⟩]) (by omega) (by omega) (by simp; omega)
   by_cases k2 : p.Args[i].K = 2
   ·have k1 : ¬ p.Args[i].K = 1 := by omega
    simp only [k2, k1, decide_true, decide_false, if_true, if_false, Bool.true_and, Bool.false_and, Bool.or_false, Bool.false_eq_true, Option.bind_some, show ¬ (2 : Int) = 1 by omega]
    cases eqT_TVal p.Args[i].V f.Fields[i] with
    | true => simpa using ih1
    | false => simp
   ·by_cases k1 : p.Args[i].K = 1
    ·simp only [k1, decide_true, decide_false, if_true, if_false, Bool.true_and, Bool.false_and, Bool.false_or, Bool.false_eq_true, Option.bind_some, show ¬ (1 : Int) = 2 by omega]
     cases (look s p.Args[i].S).2 with
     | true =>
      simp only [if_true, Bool.not_true, Bool.true_and, Bool.false_eq_true, if_false]
      cases eqT_TVal (look s p.Args[i].S).1 f.Fields[i] with
      | true => simpa using ih1
      | false => simp
     | false => simpa using ih2
    ·simp only [k1, k2, decide_false, if_false, Bool.false_and, Bool.false_or, Bool.or_false, Bool.false_eq_true, Option.bind_some]
     simpa using ih1
  ·have c1 : decide ((i : Int) < (p.Args.length : Int)) = false := decide_eq_false (by omega)
   simp only [c1, Bool.false_eq_true, if_false]
   rw [List.drop_of_length_le (by omega)]
   rfl
def matchPat (p : TPat) (f : TFact) (b : List TBind) : List TBind × Bool := if seq p.Kind f.Kind = true ∧ p.Args.length = f.Fields.length then matchArgs b p.Args f.Fields b else (b, false)
theorem match_s {N : Nat} (hN : 1099000000000 ≤ N) (p : TPat) (f : TFact) (b : List TBind) (hl : p.Args.length ≤ 1048576) (hb : b.length ≤ 2147483648) : m_s_MatchPat N p f b = some (matchPat p f b) := by
 unfold m_s_MatchPat matchPat
 rw [app_nil (by omega)]
 simp only [Option.bind_some, orS]
 cases hk : seq p.Kind f.Kind with
 | false => simp
 | true =>
  by_cases he : p.Args.length = f.Fields.length
  ·have he' : decide ((p.Args.length : Int) = (f.Fields.length : Int)) = true := decide_eq_true (by omega)
   have := (match_loopS hN p f b he hl hb N 0 b (by omega) (by omega) (by omega))
   simp only [he', he, Bool.not_true, Bool.or_false, Bool.false_eq_true, if_false, true_and, if_true]
   simpa using this
  ·have he' : decide ((p.Args.length : Int) = (f.Fields.length : Int)) = false := decide_eq_false (by omega)
   simp [he', he]
theorem matchArgs_len {b0 : List TBind} : ∀ (as : List TArg) (vs : List TVal) (s : List TBind), (matchArgs b0 as vs s).1.length ≤ b0.length ∨ (matchArgs b0 as vs s).1.length ≤ s.length + as.length
 | [], vs, s => .inr (by simp [matchArgs])
 | a :: as, [], s => .inr (by simp [matchArgs])
 | a :: as, v :: vs, s => by
  have h1 := matchArgs_len (b0 := b0) as vs s
  have h2 := matchArgs_len (b0 := b0) as vs (s ++ [⟨a.S, v⟩])
  simp only [List.length_append, List.length_cons, List.length_nil] at h1 h2 ⊢
  unfold matchArgs
  split
  ·split
   ·omega
   ·exact .inl (Nat.le_refl _)
  ·split
   ·split
    ·split
     ·omega
     ·exact .inl (Nat.le_refl _)
    ·omega
   ·omega
theorem matchPat_len (p : TPat) (f : TFact) (b : List TBind) : (matchPat p f b).1.length ≤ b.length + p.Args.length := by
 unfold matchPat
 split
 ·have := matchArgs_len (b0 := b) p.Args f.Fields b; omega
 ·simp
def sumArgs (l : List TPat) : Nat := (l.map fun p => p.Args.length).sum
theorem sumArgs_cons (p : TPat) (t : List TPat) : sumArgs (p :: t) = p.Args.length + sumArgs t := by simp [sumArgs]
theorem sumArgs_take (n : Nat) : ∀ (l : List TPat), sumArgs (l.take n) ≤ sumArgs l := by
 induction n with
 | zero => intro l; simp [sumArgs]
 | succ n ih =>
  intro l
  cases l with
  | nil => simp
  | cons p t => rw [List.take_succ_cons, sumArgs_cons, sumArgs_cons]; have := ih t; omega
def pos (l : List TPat) : List TPat := l.filter fun p => !p.Not
theorem sumArgs_pos : ∀ (l : List TPat), sumArgs (pos l) ≤ sumArgs l
 | [] => by simp [pos]
 | p :: t => by
  have := sumArgs_pos t
  unfold pos at this ⊢
  rw [List.filter_cons, sumArgs_cons]
  split
  ·rw [sumArgs_cons]; omega
  ·omega
theorem pos_eq (l : List TPat) : (l.filter fun p => p.Not == false) = pos l := by
 unfold pos; congr 1; funext p; cases p.Not <;> rfl
def noFact : TFact := ⟨⟨#[]⟩, []⟩
def factOf (xs : List TItem) (v : Int) : TFact × Bool := match xs.find? (fun x => decide (x.Id = v)) with | some x => (x.F, true) | none => (noFact, false)
theorem factOf_cons (x : TItem) (xs : List TItem) (v : Int) : factOf (x :: xs) v = if x.Id = v then (x.F, true) else factOf xs v := by
 unfold factOf
 rw [List.find?_cons]
 by_cases h : x.Id = v <;> simp [h]
theorem factOf_len {xs : List TItem} (hx : ∀ x ∈ xs, x.F.Fields.length ≤ 1048576) (v : Int) : (factOf xs v).1.Fields.length ≤ 1048576 := by
 unfold factOf
 split
 ·rename_i x h; exact hx x (List.mem_of_find?_eq_some h)
 ·simp [noFact]
def bindsP (xs : List TItem) : List TPat → List Int → List TBind → List TBind × Bool
 | [], [], l => (l, true)
 | p :: t, v :: ids, l => if (factOf xs v).2 = true ∧ (matchPat p (factOf xs v).1 l).2 = true then bindsP xs t ids (matchPat p (factOf xs v).1 l).1 else ([], false)
 | _, _, _ => ([], false)
theorem bindsP_len {xs : List TItem} : ∀ (ps : List TPat) (ids : List Int) (l : List TBind), (bindsP xs ps ids l).1.length ≤ l.length + sumArgs ps
 | [], [], l => by simp [bindsP]
 | [], v :: ids, l => by simp [bindsP]
 | p :: t, [], l => by simp [bindsP]
 | p :: t, v :: ids, l => by
  have h1 := matchPat_len p (factOf xs v).1 l
  have h2 := bindsP_len (xs := xs) t ids (matchPat p (factOf xs v).1 l).1
  rw [sumArgs_cons]
  unfold bindsP
  split
  ·omega
  ·simp
def hits (p : TPat) (l : List TBind) (xs : List TItem) : Nat := xs.countP fun x => (matchPat p x.F l).2
theorem hits_le (p : TPat) (l : List TBind) (xs : List TItem) : hits p l xs ≤ xs.length := List.countP_le_length
def consts : List TArg → List TVal
 | [] => []
 | a :: t => if a.K = 2 then a.V :: consts t else consts t
def ats : Nat → List TArg → List Int
 | _, [] => []
 | i, a :: t => if a.K = 2 then (i : Int) :: ats (i + 1) t else ats (i + 1) t
def alphaOf (p : TPat) : TAlpha := ⟨p.Kind, (p.Args.length : Int), consts p.Args, ats 0 p.Args⟩
theorem consts_len : ∀ (l : List TArg), (consts l).length ≤ l.length
 | [] => by simp [consts]
 | a :: t => by have := consts_len t; unfold consts; split <;> simp <;> omega
theorem ats_len : ∀ (l : List TArg) (i : Nat), (ats i l).length ≤ l.length
 | [], _ => by simp [ats]
 | a :: t, i => by have := ats_len t (i + 1); unfold ats; split <;> simp <;> omega
theorem alpha_i {N : Nat} (hN : 1099000000000 ≤ N) (p : TPat) (hl : p.Args.length ≤ 1048576) : m_i_AlphaOf N p = some (alphaOf p) := by
 have lp : ∀ (n i : Nat) (cs : List TVal) (as : List Int), i ≤ p.Args.length → p.Args.length - i < n → cs.length ≤ i → as.length ≤ i →
   m_i_AlphaOf_l1 N p n cs as i = some ⟨p.Kind, (p.Args.length : Int), cs ++ consts (p.Args.drop i), as ++ ats i (p.Args.drop i)⟩ := by
  intro n
  induction n with
  | zero => intro i _ _ _ h; omega
  | succ n ih =>
   intro i cs as hi hn h1 h2
   by_cases hlt : i < p.Args.length
   ·have c1 : decide ((i : Int) < (p.Args.length : Int)) = true := decide_eq_true (by omega)
    rw [List.drop_eq_getElem_cons hlt]
    simp only [m_i_AlphaOf_l1, c1, if_true, idx_nat_lt hlt, Option.bind_some, wr1 i (by omega), consts, ats]
    by_cases hk : p.Args[i].K = 2
    ·simp only [hk, decide_true, if_true, app_ok (show cs.length + [p.Args[i].V].length ≤ 4294967296 by simp; omega), app_ok (show as.length + [(i : Int)].length ≤ 4294967296 by simp; omega), Option.bind_some]
     rw [ih (i + 1) _ _ (by omega) (by omega) (by simp; omega) (by simp; omega)]; simp
    ·simp only [hk, decide_false, Bool.false_eq_true, if_false]
     exact ih (i + 1) _ _ (by omega) (by omega) (by omega) (by omega)
   ·have c1 : decide ((i : Int) < (p.Args.length : Int)) = false := decide_eq_false (by omega)
    rw [List.drop_of_length_le (by omega)]
    simp only [m_i_AlphaOf_l1, c1, Bool.false_eq_true, if_false, consts, ats, List.append_nil]
 have := lp N 0 [] [] (by omega) (by omega) (by simp) (by simp)
 unfold m_i_AlphaOf alphaOf
 simpa using this
theorem eqValD (x y : TVal) : eqT_TVal x y = decide (x = y) := eqT_TVal_eq x y
def SzAlpha (a : TAlpha) : Prop := a.Consts.length ≤ 1048576 ∧ a.At.length ≤ 1048576
theorem eqInts {N : Nat} (hN : 1099000000000 ≤ N) (x y : List Int) (hl : x.length ≤ 4294967296) : m_sl_Equal_Sint_int N x y = some (decide (x = y)) := by
 unfold m_sl_Equal_Sint_int
 by_cases c : x.length = y.length
 ·rw [if_neg (by simp; omega)]
  refine (eqloop (m_sl_Equal_Sint_int_l1 N x y) x y c (by omega) (fun a b => some (decide (a = b))) (fun a _ b _ => rfl) (fun k i => rfl) N 0 (by omega) (by omega)).trans ?_
  simp
 ·rw [if_pos (by simp; omega)]
  have : ¬ x = y := fun e => c (by rw [e])
  simp [this]
theorem eqVals {N : Nat} (hN : 1099000000000 ≤ N) (x y : List TVal) (hl : x.length ≤ 4294967296) : m_sl_Equal_Si_Val_i_Val N x y = some (decide (x = y)) := by
 unfold m_sl_Equal_Si_Val_i_Val
 by_cases c : x.length = y.length
 ·rw [if_neg (by simp; omega)]
  refine (eqloop (m_sl_Equal_Si_Val_i_Val_l1 N x y) x y c (by omega) (fun a b => some (decide (a = b))) (fun a _ b _ => rfl) (fun k i => by simp only [m_sl_Equal_Si_Val_i_Val_l1, eqValD, Option.bind_some]) N 0 (by omega) (by omega)).trans ?_
  simp
 ·rw [if_pos (by simp; omega)]
  have : ¬ x = y := fun e => c (by rw [e])
  simp [this]
theorem sameA_i {N : Nat} (hN : 1099000000000 ≤ N) (x y : TAlpha) (h : SzAlpha x) : m_i_SameAlpha N x y = some (decide (x = y)) := by
 unfold m_i_SameAlpha
 simp only [eqInts hN _ _ (show x.At.length ≤ 4294967296 by have := h.2; omega), eqVals hN _ _ (show x.Consts.length ≤ 4294967296 by have := h.1; omega), Option.bind_some, andS, seq_eq]
 obtain ⟨a, b, c, d⟩ := x; obtain ⟨e, f, g, k⟩ := y
 simp only [TAlpha.mk.injEq, ← Bool.decide_and, and_assoc]
def passAts (fs : List TVal) : List Int → List TVal → Bool
 | [], _ => true
 | _ :: _, [] => false
 | x :: t, c :: cs => (decide (0 ≤ x) && (decide (x < (fs.length : Int)) && decide (idx fs x = some c))) && passAts fs t cs
def passes (a : TAlpha) (f : TFact) : Bool := (seq f.Kind a.Kind && decide ((f.Fields.length : Int) = a.N)) && passAts f.Fields a.At a.Consts
theorem passes_i {N : Nat} (hN : 1099000000000 ≤ N) (a : TAlpha) (f : TFact) (h : a.At.length ≤ 1048576) : m_i_Passes N a f = some (passes a f) := by
 have lp : ∀ (n i : Nat), i ≤ a.At.length → a.At.length - i < n → m_i_Passes_l1 N a f n i = some (passAts f.Fields (a.At.drop i) (a.Consts.drop i)) := by
  intro n
  induction n with
  | zero => intro i _ h; omega
  | succ n ih =>
   intro i hi hn
   simp only [m_i_Passes_l1]
   by_cases hlt : i < a.At.length
   ·have c1 : decide ((i : Int) < (a.At.length : Int)) = true := decide_eq_true (by omega)
    rw [List.drop_eq_getElem_cons hlt]
    simp only [c1, if_true, idx_nat_lt hlt, Option.bind_some, wr1 i (by omega), ih (i + 1) (by omega) (by omega)]
    by_cases hc : i < a.Consts.length
    ·have c2 : decide ((a.Consts.length : Int) ≤ (i : Int)) = false := decide_eq_false (by omega)
     rw [List.drop_eq_getElem_cons hc, passAts]
     by_cases h0 : a.At[i] < 0
     ·simp [h0, c2, show ¬ 0 ≤ a.At[i] by omega]
     ·by_cases h1 : (f.Fields.length : Int) ≤ a.At[i]
      ·simp [h0, h1, show ¬ a.At[i] < (f.Fields.length : Int) by omega]
      ·obtain ⟨j, hj⟩ : ∃ j : Nat, a.At[i] = (j : Int) := ⟨a.At[i].toNat, by omega⟩
       have hjl : j < f.Fields.length := by omega
       rw [hj]
       rw [hj] at h0 h1
       simp only [h0, h1, c2, decide_false, Bool.false_eq_true, if_false, Option.bind_some, idx_nat_lt hjl, idx_nat_lt hc, eqT_TVal_eq, Option.some.injEq]
       by_cases he : f.Fields[j] = a.Consts[i] <;> simp [he, hjl]
    ·have c2 : decide ((a.Consts.length : Int) ≤ (i : Int)) = true := decide_eq_true (by omega)
     rw [List.drop_of_length_le (show a.Consts.length ≤ i by omega), passAts]
     by_cases h0 : a.At[i] < 0
     ·simp [h0, c2]
     ·by_cases h1 : (f.Fields.length : Int) ≤ a.At[i] <;> simp [h0, h1, show a.Consts.length ≤ i by omega]
   ·have c1 : decide ((i : Int) < (a.At.length : Int)) = false := decide_eq_false (by omega)
    rw [List.drop_of_length_le (show a.At.length ≤ i by omega)]
    simp only [c1, Bool.false_eq_true, if_false, passAts]
 have l0 := lp N 0 (by omega) (by omega)
 rw [List.drop_zero, List.drop_zero, show ((0 : Nat) : Int) = 0 from rfl] at l0
 unfold m_i_Passes passes
 rw [l0]
 cases seq f.Kind a.Kind <;> by_cases hl : (f.Fields.length : Int) = a.N <;> simp [hl]
theorem rangeloop (f : Nat → Int → Option Bool) (n0 : Nat) (hm : n0 ≤ 4611686018427387903) (e : Nat → Bool) (z : Bool)
  (h : ∀ k (i : Nat), i < n0 → f (k + 1) i = if e i then f k (IntKind.i64.wrap ((i : Int) + 1)) else some false) (hz : ∀ k (i : Nat), i = n0 → f (k + 1) i = some z) :
  ∀ (n i : Nat), i ≤ n0 → n0 - i < n → f n i = some (((List.range n0).drop i).all e && z) := by
 intro n
 induction n with
 | zero => intro i _ h; omega
 | succ n ih =>
  intro i hi hn
  by_cases hlt : i < n0
  ·rw [h n i hlt, List.drop_eq_getElem_cons (by simpa using hlt), List.getElem_range, List.all_cons]
   cases he : e i with
   | false => simp
   | true => simp only [if_true, Bool.true_and]; rw [wr1 i (by omega), ih (i + 1) (by omega) (by omega)]
  ·have : i = n0 := by omega
   rw [hz n i this, List.drop_of_length_le (by simp; omega)]
   simp
theorem in0 (N : Nat) (a b c : Int) : m_s_l1In N a b c = some (decide (b ≤ a) && decide (a ≤ c)) := by
 unfold m_s_l1In
 by_cases h : b ≤ a <;> simp [h]
theorem in1 (N : Nat) (a b c : Int) : m_i_inRange N a b c = some (decide (b ≤ a) && decide (a ≤ c)) := by
 unfold m_i_inRange
 by_cases h : b ≤ a <;> simp [h]
theorem wrU (y : UInt8) : IntKind.i64.wrap (y.toNat : Int) = (y.toNat : Int) := wr (by omega) (by have := y.toNat_lt; omega)
def letter (y : UInt8) : Bool := (decide (97 ≤ (y.toNat : Int)) && decide ((y.toNat : Int) ≤ 122)) || (decide (48 ≤ (y.toNat : Int)) && decide ((y.toNat : Int) ≤ 57)) || decide ((y.toNat : Int) = 95)
theorem letter_s (N : Nat) (y : UInt8) : m_s_l1Letter N (y.toNat : Int) = some (letter y) := by
 unfold m_s_l1Letter letter
 simp only [wrU, in0, Option.bind_some]
 by_cases h1 : (decide (97 ≤ (y.toNat : Int)) && decide ((y.toNat : Int) ≤ 122)) = true
 ·simp [h1]
 ·rw [if_neg h1]
  simp only [Option.bind_some]
  rw [Bool.eq_false_iff.2 h1, Bool.false_or]
  by_cases h2 : (decide (48 ≤ (y.toNat : Int)) && decide ((y.toNat : Int) ≤ 57)) = true
  ·simp [h2]
  ·rw [if_neg h2, Bool.eq_false_iff.2 h2, Bool.false_or]; rfl
theorem letter_i (N : Nat) (y : UInt8) : m_i_isWordByte N (y.toNat : Int) = some (letter y) := by
 unfold m_i_isWordByte m_i_isSmall m_i_isDigit letter
 generalize (y.toNat : Int) = n
 rw [andS, andS, Option.bind_some, Option.bind_some, Option.bind_some, Option.bind_some, orS, Option.bind_some, orS]
 rfl
def small (y : UInt8) : Bool := decide (97 ≤ (y.toNat : Int)) && decide ((y.toNat : Int) ≤ 122)
def wordAll (s : ByteArray) : Bool := ((List.range s.size).drop 0).all (fun i => match s.data.toList[i]? with | some y => letter y | none => false)
theorem size_data (s : ByteArray) : s.data.toList.length = s.size := rfl
theorem plain_s {N : Nat} (hN : 1048578 ≤ N) (s : ByteArray) (hs : s.size ≤ 1048576) : m_s_l2Plain N s = some (wordAll s && decide ((s.size : Int) ≤ 20)) := by
 unfold m_s_l2Plain
 refine rangeloop (fun n i => m_s_l2Plain_l1 N s n i) s.size (by omega) _ _ (fun k i hi => ?_) (fun k i hi => ?_) N 0 (by omega) (by omega)
 ·have hi' : i < s.data.toList.length := by rw [size_data]; exact hi
  simp only [m_s_l2Plain_l1, idx_nat_lt hi', Option.bind_some, letter_s, List.getElem?_eq_getElem hi']
  rw [if_pos (by simp; omega)]
  cases letter s.data.toList[i] <;> simp
 ·simp only [m_s_l2Plain_l1]
  rw [if_neg (by simp; omega)]
theorem word_i {N : Nat} (hN : 1048578 ≤ N) (s : ByteArray) (n : Int) (hs : s.size ≤ 1048576) : m_i_isWord N s n = some (wordAll s && decide ((s.size : Int) ≤ n)) := by
 unfold m_i_isWord
 have : m_i_isWord_l1 N s N 0 = some (wordAll s && true) := by
  refine rangeloop (fun n i => m_i_isWord_l1 N s n i) s.size (by omega) _ _ (fun k i hi => ?_) (fun k i hi => ?_) N 0 (by omega) (by omega)
  ·have hi' : i < s.data.toList.length := by rw [size_data]; exact hi
   simp only [m_i_isWord_l1, idx_nat_lt hi', Option.bind_some, letter_i, List.getElem?_eq_getElem hi']
   rw [if_pos (by simp; omega)]
   cases letter s.data.toList[i] <;> simp
  ·simp only [m_i_isWord_l1]
   rw [if_neg (by simp; omega)]
 rw [this]
 by_cases h : n < (s.size : Int)
 ·rw [if_pos (by simpa using h), decide_eq_false (by omega), Bool.and_false]
 ·rw [if_neg (by simpa using h), decide_eq_true (show (s.size : Int) ≤ n by omega)]
theorem name_i {N : Nat} (hN : 1048578 ≤ N) (s : ByteArray) (hs : s.size ≤ 1048576) : m_i_NameOk N s = some ((match s.data.toList[0]? with | some y => small y | none => false) && (wordAll s && decide ((s.size : Int) ≤ 12))) := by
 unfold m_i_NameOk
 rw [word_i hN s 12 hs]
 by_cases h : 0 < s.size
 ·have hi' : 0 < s.data.toList.length := by rw [size_data]; exact h
  have hidx : idx s.data.toList 0 = some s.data.toList[0] := by simpa using idx_nat_lt (i := 0) hi'
  rw [if_pos (by simpa using h), hidx, List.getElem?_eq_getElem hi']
  have : m_i_isSmall N (s.data.toList[0].toNat : Int) = some (small s.data.toList[0]) := by
   unfold m_i_isSmall small
   generalize (s.data.toList[0].toNat : Int) = n
   by_cases h1 : 97 ≤ n <;> simp [h1]
  simp only [Option.bind_some, this]
  cases small s.data.toList[0] <;> simp
 ·rw [if_neg (by simpa using h), List.getElem?_eq_none (by rw [size_data]; omega)]
  rfl
theorem name_s {N : Nat} (hN : 1048578 ≤ N) (s : ByteArray) (hs : s.size ≤ 1048576) : m_s_NameOk N s = some ((match s.data.toList[0]? with | some y => small y | none => false) && (wordAll s && decide ((s.size : Int) ≤ 12))) := by
 unfold m_s_NameOk
 have := rangeloop (fun n i => m_s_NameOk_l1 N s n i) s.size (by omega) (fun i => match s.data.toList[i]? with | some y => letter y && (decide (¬ i = 0) || small y) | none => false) (decide (1 ≤ (s.size : Int)) && decide ((s.size : Int) ≤ 12)) (fun k i hi => by
  have hi' : i < s.data.toList.length := by rw [size_data]; exact hi
  simp only [m_s_NameOk_l1, idx_nat_lt hi', Option.bind_some, letter_s, List.getElem?_eq_getElem hi', wrU, in0]
  rw [if_pos (by simp; omega)]
  have h0 : decide ((i : Int) = 0) = decide (i = 0) := by rw [decide_eq_decide]; omega
  rw [h0]
  unfold small
  simp only [andS, orS, Option.bind_some]
  generalize letter s.data.toList[i] = a
  generalize (decide (97 ≤ (s.data.toList[i].toNat : Int)) && decide ((s.data.toList[i].toNat : Int) ≤ 122)) = b
  cases a <;> cases b <;> by_cases hz : i = 0 <;> simp [hz]) (fun k i hi => by
  simp only [m_s_NameOk_l1, in0, Option.bind_some]
  rw [if_neg (by simp; omega)]) N 0 (by omega) (by omega)
 rw [show m_s_NameOk_l1 N s N 0 = _ from this]
 congr 1
 unfold wordAll
 simp only [List.drop_zero]
 cases hsz : s.size with
 | zero =>
  rw [List.getElem?_eq_none (by rw [size_data]; omega)]
  simp
 | succ n =>
  have hi' : 0 < s.data.toList.length := by rw [size_data]; omega
  rw [List.getElem?_eq_getElem hi', List.range_succ_eq_map]
  simp only [List.all_cons, List.getElem?_eq_getElem hi', List.all_map, Function.comp_def, Nat.succ_eq_add_one]
  have : ∀ i, (match s.data.toList[i + 1]? with | some y => letter y && (decide (¬ i + 1 = 0) || small y) | none => false) = (match s.data.toList[i + 1]? with | some y => letter y | none => false) := by
   intro i; cases s.data.toList[i + 1]? <;> simp
  simp only [this]
  have h1 : decide (1 ≤ ((n + 1 : Nat) : Int)) = true := by simp; omega
  simp only [h1, Bool.true_and, not_true, decide_false, Bool.false_or]
  cases letter s.data.toList[0] <;> cases small s.data.toList[0] <;> simp
theorem val_s {N : Nat} (hN : 1048578 ≤ N) (v : TVal) (hs : v.S.size ≤ 1048576) : m_s_ValOk N v = m_i_ValOk N v := by
 unfold m_s_ValOk m_i_ValOk
 rw [plain_s hN _ hs, word_i hN _ _ hs, in0, in1]
 by_cases h1 : v.K = 1
 ·simp [h1]
 ·by_cases h2 : v.K = 2
  ·simp only [h2, andS, orS, Option.bind_some]
   cases decide (v.N = 0) <;> cases wordAll v.S <;> cases decide ((v.S.size : Int) ≤ 20) <;> rfl
  ·simp [h1, h2]
def okVal (v : TVal) : Bool := if v.K = 1 then (decide (-1000000000 ≤ v.N) && decide (v.N ≤ 1000000000)) && seq v.S ⟨#[]⟩ else if v.K = 2 then decide (v.N = 0) && (wordAll v.S && decide ((v.S.size : Int) ≤ 20)) else false
theorem val_i {N : Nat} (hN : 1048578 ≤ N) (v : TVal) (hs : v.S.size ≤ 1048576) : m_i_ValOk N v = some (okVal v) := by
 unfold m_i_ValOk okVal
 rw [word_i hN _ _ hs, in1]
 by_cases h1 : v.K = 1
 ·simp only [h1, decide_true, if_true, Option.bind_some]
  cases (decide (-1000000000 ≤ v.N) && decide (v.N ≤ 1000000000)) <;> simp
 ·by_cases h2 : v.K = 2
  ·by_cases h3 : v.N = 0 <;> simp [h2, h3]
  ·simp [h1, h2]
def large (y : UInt8) : Bool := decide (65 ≤ (y.toNat : Int)) && decide ((y.toNat : Int) ≤ 90)
theorem large_i (N : Nat) (y : UInt8) : m_i_isLarge N (y.toNat : Int) = some (large y) := by
 unfold m_i_isLarge large; cases decide (65 ≤ (y.toNat : Int)) <;> rfl
theorem large_s (N : Nat) (y : UInt8) : m_s_l5Large N (y.toNat : Int) = some (large y) := by
 unfold m_s_l5Large large; rw [wrU, in0]; rfl
def varOk (s : ByteArray) : Bool := match s.data.toList with
 | [] => false
 | b :: t => large b && (t.all (fun y => letter y || large y) && decide ((s.size : Int) ≤ 12))
theorem var_i {N : Nat} (hN : 1099000000000 ≤ N) (s : ByteArray) (hs : s.size ≤ 1048576) : m_i_isVar N s = some (varOk s) := by
 have hsz : s.size = s.data.toList.length := rfl
 have lp := allfrom (m_i_isVar_l1 N s) s.data.toList (by omega) (fun y => letter y || large y) true 0 (fun n i y _ hx _ hc hw => by
  rw [← hsz] at hc
  simp only [m_i_isVar_l1, hc, if_true, hx, Option.bind_some, letter_i, large_i, hw]
  cases letter y <;> cases large y <;> rfl) (fun n i hc => by rw [← hsz] at hc; simp only [m_i_isVar_l1, hc, Bool.false_eq_true, if_false])
 unfold m_i_isVar varOk
 cases hd : s.data.toList with
 | nil =>
  have : s.size = 0 := by rw [hsz, hd]; rfl
  rw [this]; rfl
 | cons b t =>
  have h1 : s.size = t.length + 1 := by rw [hsz, hd]; rfl
  have c1 : decide ((s.size : Int) < 1) = false := decide_eq_false (by omega)
  have := lp N 0 (by omega) (by omega) (by omega)
  rw [hd] at this
  have hi : idx (b :: t) 0 = some b := rfl
  simp only [c1, Bool.false_eq_true, if_false, Option.bind_some, hi, large_i]
  by_cases c2 : (s.size : Int) ≤ 12
  ·have c3 : decide (12 < (s.size : Int)) = false := decide_eq_false (by omega)
   simp only [c2, c3, decide_true, Bool.and_true, Bool.false_eq_true, if_false, Option.bind_some]
   cases hb : large b with
   | false => rfl
   | true =>
    simp only [Bool.not_true, Bool.false_eq_true, if_false, Bool.true_and]
    refine this.trans ?_
    simp [hb]
  ·have c3 : decide (12 < (s.size : Int)) = true := decide_eq_true (by omega)
   simp only [c2, c3, decide_false, Bool.and_false, if_true, Option.bind_some]
theorem var_s {N : Nat} (hN : 1099000000000 ≤ N) (s : ByteArray) (hs : s.size ≤ 1048576) : m_s_l5VarOk N s = some (varOk s) := by
 have hsz : s.size = s.data.toList.length := rfl
 have lp := allfrom (m_s_l5VarOk_l1 N s) s.data.toList (by omega) (fun y => letter y || large y) (decide (1 ≤ (s.size : Int)) && decide ((s.size : Int) ≤ 12)) 1 (fun n i y h1 hx _ hc hw => by
  rw [← hsz] at hc
  have h0 : decide ((i : Int) = 0) = false := decide_eq_false (by omega)
  simp only [m_s_l5VarOk_l1, hc, if_true, hx, Option.bind_some, letter_s, large_s, hw, h0, Bool.false_eq_true, if_false]
  cases letter y <;> cases large y <;> rfl) (fun n i hc => by rw [← hsz] at hc; simp only [m_s_l5VarOk_l1, hc, Bool.false_eq_true, if_false, in0, Option.bind_some])
 unfold m_s_l5VarOk varOk
 obtain ⟨n, rfl⟩ : ∃ n, N = n + 1 := ⟨N - 1, by omega⟩
 cases hd : s.data.toList with
 | nil =>
  have : s.size = 0 := by rw [hsz, hd]; rfl
  simp only [m_s_l5VarOk_l1, this, in0]; rfl
 | cons b t =>
  have h1 : s.size = t.length + 1 := by rw [hsz, hd]; rfl
  have c1 : decide ((0 : Int) < (s.size : Int)) = true := decide_eq_true (by omega)
  have := lp n 1 (by omega) (by omega) (by omega)
  rw [hd] at this
  have hi : idx (b :: t) 0 = some b := rfl
  simp only [m_s_l5VarOk_l1, c1, if_true, hd, hi, Option.bind_some, large_s, decide_true]
  cases hb : large b with
  | false => rfl
  | true =>
   simp only [Bool.not_true, Bool.false_eq_true, if_false, Option.bind_some, Bool.true_and]
   rw [show IntKind.i64.wrap ((0 : Int) + 1) = ((1 : Nat) : Int) from wr1 0 (by omega)]
   refine this.trans ?_
   simp [show (1 : Int) ≤ (s.size : Int) by omega]
def SzArg (a : TArg) : Prop := a.S.size ≤ 1048576 ∧ a.V.S.size ≤ 1048576
def okArg (a : TArg) : Bool := if a.K = 1 then varOk a.S && eqT_TVal a.V ⟨0, 0, ⟨#[]⟩⟩ else if a.K = 2 then okVal a.V && seq a.S ⟨#[]⟩ else if a.K = 3 then seq a.S ⟨#[]⟩ && eqT_TVal a.V ⟨0, 0, ⟨#[]⟩⟩ else false
theorem arg_s {N : Nat} (hN : 1099000000000 ≤ N) (a : TArg) (h : SzArg a) : m_s_ArgOk N a = some (okArg a) := by
 unfold m_s_ArgOk okArg
 rw [var_s hN _ h.1, val_s (by omega) _ h.2, val_i (by omega) _ h.2]
 simp only [Option.bind_some, andS, decide_eq_true_eq]
 split <;> (try split) <;> (try split) <;> rfl
theorem arg_i {N : Nat} (hN : 1099000000000 ≤ N) (a : TArg) (h : SzArg a) : m_i_ArgOk N a = some (okArg a) := by
 unfold m_i_ArgOk okArg
 rw [var_i hN _ h.1, val_i (by omega) _ h.2]
 simp only [Option.bind_some, andS, decide_eq_true_eq, Bool.and_comm]
 split <;> (try split) <;> (try split) <;> simp [Bool.and_comm]
def given (a : TArg) : Bool := okArg a && !decide (a.K = 3)
theorem given_s {N : Nat} (hN : 1099000000000 ≤ N) (a : TArg) (h : SzArg a) : m_s_l8Given N a = some (given a) := by
 unfold m_s_l8Given given; simp only [arg_s hN a h, Option.bind_some, andS]
theorem given_i {N : Nat} (hN : 1099000000000 ≤ N) (a : TArg) (h : SzArg a) : m_i_isTerm N a = some (given a) := by
 unfold m_i_isTerm given; simp only [arg_i hN a h, Option.bind_some, andS, Bool.and_comm]
def SzExpr (e : TExpr) : Prop := e.Op.size ≤ 1048576 ∧ SzArg e.L ∧ SzArg e.R
def okExpr (e : TExpr) : Bool := if seq e.Op ⟨#[]⟩ then given e.L && eqT_TArg e.R ⟨0, ⟨#[]⟩, ⟨0, 0, ⟨#[]⟩⟩⟩ else (seq e.Op ⟨#[43]⟩ || seq e.Op ⟨#[45]⟩) && (given e.L && given e.R)
theorem expr_s {N : Nat} (hN : 1099000000000 ≤ N) (e : TExpr) (h : SzExpr e) : m_s_ExprOk N e = some (okExpr e) := by
 unfold m_s_ExprOk m_s_ExprOk_j1 okExpr
 simp only [given_s hN _ h.2.1, given_s hN _ h.2.2, Option.bind_some, andS]
 cases seq e.Op ⟨#[]⟩ <;> cases seq e.Op ⟨#[43]⟩ <;> cases seq e.Op ⟨#[45]⟩ <;> rfl
theorem expr_i {N : Nat} (hN : 1099000000000 ≤ N) (e : TExpr) (h : SzExpr e) : m_i_ExprOk N e = some (okExpr e) := by
 unfold m_i_ExprOk m_i_ExprOk_j1 okExpr
 simp only [given_i hN _ h.2.1, given_i hN _ h.2.2, Option.bind_some, andS]
 cases seq e.Op ⟨#[]⟩ <;> cases seq e.Op ⟨#[43]⟩ <;> cases seq e.Op ⟨#[45]⟩ <;> rfl
def okName (s : ByteArray) : Bool := (match s.data.toList[0]? with | some y => small y | none => false) && (wordAll s && decide ((s.size : Int) ≤ 12))
theorem okName_s {N : Nat} (hN : 1099000000000 ≤ N) (s : ByteArray) (hs : s.size ≤ 1048576) : m_s_NameOk N s = some (okName s) := name_s (by omega) s hs
theorem okName_i {N : Nat} (hN : 1099000000000 ≤ N) (s : ByteArray) (hs : s.size ≤ 1048576) : m_i_NameOk N s = some (okName s) := name_i (by omega) s hs
def SzAct (a : TAct) : Prop := a.Name.size ≤ 1048576 ∧ a.Undo.size ≤ 1048576 ∧ a.Args.length ≤ 1048576 ∧ ∀ e ∈ a.Args, SzExpr e
theorem args_s {N : Nat} (hN : 1099000000000 ≤ N) (xs : List TExpr) (hl : xs.length ≤ 1048576) (h : ∀ e ∈ xs, SzExpr e) : m_s_l8Args N xs = some (xs.all okExpr && decide ((xs.length : Int) ≤ 5)) := by
 unfold m_s_l8Args
 have := allfrom (m_s_l8Args_l1 N xs) xs (by omega) okExpr (decide ((xs.length : Int) ≤ 5)) 0 (fun n i y _ hx hm hc hw => by
  simp only [m_s_l8Args_l1, hc, if_true, hx, Option.bind_some, expr_s hN y (h y hm), hw]; cases okExpr y <;> rfl) (fun n i hc => by simp only [m_s_l8Args_l1, hc, Bool.false_eq_true, if_false]) N 0 (by omega) (by omega) (by omega)
 simpa using this
theorem args_i {N : Nat} (hN : 1099000000000 ≤ N) (a : TAct) (h : SzAct a) : m_i_argsOk N a = some (okName a.Name && (a.Args.all okExpr && decide ((a.Args.length : Int) ≤ 5))) := by
 obtain ⟨h1, h2, h3, h4⟩ := h
 unfold m_i_argsOk
 have := allfrom (m_i_argsOk_l1 N a) a.Args (by omega) okExpr true 0 (fun n i y _ hx hm hc hw => by
  simp only [m_i_argsOk_l1, hc, if_true, hx, Option.bind_some, expr_i hN y (h4 y hm), hw]; cases okExpr y <;> rfl) (fun n i hc => by simp only [m_i_argsOk_l1, hc, Bool.false_eq_true, if_false]) N 0 (by omega) (by omega) (by omega)
 have this' : m_i_argsOk_l1 N a N 0 = some (a.Args.all okExpr) := by simpa using this
 simp only [okName_i hN _ h1, Option.bind_some, this']
 cases okName a.Name with
 | false => rfl
 | true =>
  by_cases c : (a.Args.length : Int) ≤ 5
  ·have c' : decide (5 < (a.Args.length : Int)) = false := decide_eq_false (by omega)
   simp only [c, c', decide_true, Bool.and_true, Bool.true_and, Bool.not_true, Bool.false_eq_true, if_false, Option.bind_some]
  ·have c' : decide (5 < (a.Args.length : Int)) = true := decide_eq_true (by omega)
   simp only [c, c', decide_false, Bool.and_false, Bool.not_true, Bool.false_eq_true, if_false, if_true, Option.bind_some]
def okAct (a : TAct) : Bool :=
 let na := okName a.Name && (a.Args.all okExpr && decide ((a.Args.length : Int) ≤ 5))
 let bare := seq a.Name ⟨#[]⟩ && decide ((a.Args.length : Int) = 0)
 if a.Kind = 1 then na && decide (a.N = 0) && seq a.Undo ⟨#[]⟩
 else if a.Kind = 2 then bare && (decide (0 ≤ a.N) && decide (a.N ≤ 7)) && seq a.Undo ⟨#[]⟩
 else if a.Kind = 3 then na && decide (a.N = 0) && (seq a.Undo ⟨#[]⟩ || okName a.Undo)
 else if a.Kind = 4 then na && (decide (0 ≤ a.N) && decide (a.N ≤ 100000)) && seq a.Undo ⟨#[]⟩
 else if a.Kind = 5 ∨ a.Kind = 6 then bare && decide (a.N = 0) && seq a.Undo ⟨#[]⟩
 else false
theorem act_s {N : Nat} (hN : 1099000000000 ≤ N) (a : TAct) (h : SzAct a) : m_s_ActOk N a = some (okAct a) := by
 obtain ⟨h1, h2, h3, h4⟩ := h
 unfold m_s_ActOk m_s_ActOk_j1 okAct
 simp only [args_s hN _ h3 h4, okName_s hN _ h1, okName_s hN _ h2, in0, Option.bind_some, andS, orS, decide_eq_true_eq]
 generalize okName a.Name = n; generalize a.Args.all okExpr = e; generalize okName a.Undo = u; generalize seq a.Name ⟨#[]⟩ = sn; generalize seq a.Undo ⟨#[]⟩ = su
 by_cases k1 : a.Kind = 1
 ·simp [k1] <;> (cases n <;> cases e <;> simp)
 by_cases k3 : a.Kind = 3
 ·simp [k3] <;> (cases n <;> cases e <;> simp)
 by_cases k4 : a.Kind = 4
 ·simp [k4] <;> (cases n <;> cases e <;> simp)
 by_cases k2 : a.Kind = 2
 ·simp [k2] <;> (cases sn <;> cases su <;> simp)
 by_cases k5 : a.Kind = 5
 ·simp [k5] <;> (cases sn <;> cases su <;> simp)
 ·by_cases k6 : a.Kind = 6
  ·simp [k6] <;> (cases sn <;> cases su <;> simp)
  ·simp [k1, k2, k3, k4, k5, k6]
theorem act_i {N : Nat} (hN : 1099000000000 ≤ N) (a : TAct) (h : SzAct a) : m_i_ActOk N a = some (okAct a) := by
 have hi := args_i hN a h
 obtain ⟨h1, h2, h3, h4⟩ := h
 unfold m_i_ActOk m_i_ActOk_j1 m_i_isUndo okAct
 simp only [hi, okName_i hN _ h2, in1, Option.bind_some, andS, orS, decide_eq_true_eq]
 generalize okName a.Name = n; generalize a.Args.all okExpr = e; generalize okName a.Undo = u; generalize seq a.Name ⟨#[]⟩ = sn; generalize seq a.Undo ⟨#[]⟩ = su
 by_cases k1 : a.Kind = 1
 ·simp [k1] <;> (cases n <;> cases e <;> simp)
 by_cases k3 : a.Kind = 3
 ·simp [k3] <;> (cases n <;> cases e <;> simp)
 by_cases k4 : a.Kind = 4
 ·simp [k4] <;> (cases n <;> cases e <;> simp)
 by_cases k2 : a.Kind = 2
 ·simp [k2] <;> (cases sn <;> cases su <;> simp)
 by_cases k5 : a.Kind = 5
 ·simp [k5] <;> (cases sn <;> cases su <;> simp)
 ·by_cases k6 : a.Kind = 6
  ·simp [k6] <;> (cases sn <;> cases su <;> simp)
  ·simp [k1, k2, k3, k4, k5, k6]
def SzPat (p : TPat) : Prop := p.Kind.size ≤ 1048576 ∧ p.Args.length ≤ 1048576 ∧ ∀ a ∈ p.Args, SzArg a
def okPat (p : TPat) : Bool := okName p.Kind && (decide ((p.Args.length : Int) ≤ 5) && p.Args.all okArg)
theorem pat_i {N : Nat} (hN : 1099000000000 ≤ N) (p : TPat) (h : SzPat p) : m_i_PatOk N p = some (okPat p) := by
 obtain ⟨h1, h2, h3⟩ := h
 have lp := lp0 hN p.Args (by omega) (m_i_PatOk_l1 N p) (fun t => some (t.all okArg)) (fun n i x t g1 g2 g3 g4 g5 g6 g7 => by
  simp only [m_i_PatOk_l1, g5, if_true, g4, Option.bind_some, arg_i hN x (h3 x g2), g6, g7, List.all_cons]; cases okArg x <;> rfl) (fun n i g1 g2 => by simp only [m_i_PatOk_l1, g2, Bool.false_eq_true, if_false]; rfl)
 unfold m_i_PatOk okPat
 simp only [okName_i hN _ h1, Option.bind_some, lp]
 by_cases c : (p.Args.length : Int) ≤ 5
 ·have c' : decide (5 < (p.Args.length : Int)) = false := decide_eq_false (by omega)
  simp only [c, c', decide_true]; cases okName p.Kind <;> simp
 ·have c' : decide (5 < (p.Args.length : Int)) = true := decide_eq_true (by omega)
  simp only [c, c', decide_false]; cases okName p.Kind <;> simp
theorem pat_s {N : Nat} (hN : 1099000000000 ≤ N) (p : TPat) (h : SzPat p) : m_s_PatOk N p = some (okPat p) := by
 obtain ⟨h1, h2, h3⟩ := h
 have lp := lp0 hN p.Args (by omega) (m_s_PatOk_l1 N p) (fun t => some (t.all okArg && (okName p.Kind && decide ((p.Args.length : Int) ≤ 5)))) (fun n i x t g1 g2 g3 g4 g5 g6 g7 => by
  simp only [m_s_PatOk_l1, g5, if_true, g4, Option.bind_some, arg_s hN x (h3 x g2), g6, g7, List.all_cons]; cases okArg x <;> simp) (fun n i g1 g2 => by
  simp only [m_s_PatOk_l1, g2, Bool.false_eq_true, if_false, okName_s hN _ h1, Option.bind_some, andS, List.all_nil, Bool.true_and])
 unfold m_s_PatOk okPat
 rw [lp]
 generalize okName p.Kind = a; generalize p.Args.all okArg = b; generalize decide ((p.Args.length : Int) ≤ 5) = c
 cases a <;> cases b <;> cases c <;> rfl
def SzCond (c : TCond) : Prop := SzArg c.L ∧ SzArg c.R
def okCond (c : TCond) : Bool := (decide (1 ≤ c.Op) && decide (c.Op ≤ 3)) && (given c.L && given c.R)
theorem cond_i {N : Nat} (hN : 1099000000000 ≤ N) (c : TCond) (h : SzCond c) : m_i_CondOk N c = some (okCond c) := by
 unfold m_i_CondOk okCond
 simp only [in1, given_i hN _ h.1, given_i hN _ h.2, Option.bind_some, andS, Bool.and_assoc]
theorem cond_s {N : Nat} (hN : 1099000000000 ≤ N) (c : TCond) (h : SzCond c) : m_s_CondOk N c = some (okCond c) := by
 unfold m_s_CondOk okCond given
 simp only [in0, arg_s hN _ h.1, arg_s hN _ h.2, Option.bind_some, andS]
 generalize okArg c.L = a; generalize okArg c.R = b; generalize (decide (c.L.K = 3)) = d; generalize (decide (c.R.K = 3)) = e; generalize (decide (1 ≤ c.Op) && decide (c.Op ≤ 3)) = f
 cases a <;> cases b <;> cases d <;> cases e <;> cases f <;> rfl
instance memDec (v : ByteArray) (xs : List ByteArray) : Decidable (v ∈ xs) := @List.instDecidableMemOfLawfulBEq _ instBEqOfDecidableEq _ v xs
theorem hasS {N : Nat} (hN : 1099000000000 ≤ N) (xs : List ByteArray) (v : ByteArray) (hl : xs.length ≤ 4294967296) : m_s_l6Has N xs v = some (decide (v ∈ xs)) := by
 unfold m_s_l6Has
 refine lp0 hN xs hl _ (fun t => some (decide (v ∈ t))) (fun n i x t h1 h2 h3 h4 h5 h6 h7 => ?_) (fun n i h1 h2 => ?_)
 ·simp only [m_s_l6Has_l1, h5, if_true, h4, Option.bind_some, h6, h7, seq_eq]
  by_cases h : x = v
  ·simp [h]
  ·have h' : ¬ v = x := fun e => h e.symm
   simp [h, h']
 ·simp only [m_s_l6Has_l1, h2, Bool.false_eq_true, if_false]; simp
def once (s : List ByteArray) (v : ByteArray) : List ByteArray := if v ∈ s then s else s ++ [v]
theorem once_len (s : List ByteArray) (v : ByteArray) : (once s v).length ≤ s.length + 1 := by unfold once; split <;> simp
theorem mem_once {s : List ByteArray} {v x : ByteArray} : x ∈ once s v ↔ x ∈ s ∨ x = v := by
 unfold once; split
 ·rename_i h
  constructor
  ·exact .inl
  ·rintro (h' | rfl)
   ·exact h'
   ·exact h
 ·simp
theorem mem_onces {x : ByteArray} : ∀ {vs s : List ByteArray}, x ∈ vs.foldl once s ↔ x ∈ s ∨ x ∈ vs
 | [], s => by simp
 | v :: vs, s => by rw [List.foldl_cons, mem_onces, mem_once, List.mem_cons, or_assoc]
theorem once_old {s : List ByteArray} {v : ByteArray} (h : v ∈ s) : once s v = s := by unfold once; rw [if_pos h]
theorem onces_len : ∀ (vs s : List ByteArray), (vs.foldl once s).length ≤ s.length + vs.length
 | [], s => by simp
 | v :: vs, s => by have := onces_len vs (once s v); have := once_len s v; simp only [List.foldl_cons, List.length_cons]; omega
theorem onces_once (s u : List ByteArray) (v : ByteArray) : (once u v).foldl once s = once (u.foldl once s) v := by
 by_cases h : v ∈ u
 ·rw [once_old h, once_old (mem_onces.2 (.inr h))]
 ·have : once u v = u ++ [v] := by unfold once; rw [if_neg h]
  rw [this, List.foldl_append]; rfl
theorem onces_onces : ∀ (vs u s : List ByteArray), (vs.foldl once u).foldl once s = vs.foldl once (u.foldl once s)
 | [], u, s => rfl
 | v :: vs, u, s => by rw [List.foldl_cons, onces_onces vs (once u v) s, onces_once, List.foldl_cons]
theorem onces_dedup (vs s : List ByteArray) : (vs.foldl once []).foldl once s = vs.foldl once s := onces_onces vs [] s
def argVars : List TArg → List ByteArray
 | [] => []
 | a :: t => if a.K = 1 then a.S :: argVars t else argVars t
theorem argVars_len : ∀ (l : List TArg), (argVars l).length ≤ l.length
 | [] => by simp [argVars]
 | a :: t => by have := argVars_len t; unfold argVars; split <;> simp <;> omega
theorem mem_argVars {x : ByteArray} : ∀ {l : List TArg}, x ∈ argVars l ↔ ∃ a ∈ l, a.K = 1 ∧ a.S = x
 | [] => by simp [argVars]
 | a :: t => by
  unfold argVars
  split
  ·rename_i h; simp [mem_argVars, h, eq_comm]
  ·rename_i h; simp [mem_argVars, h]
theorem vars_s {N : Nat} (hN : 1099000000000 ≤ N) (p : TPat) (hl : p.Args.length ≤ 1048576) : m_s_VarsOf N p = some ((argVars p.Args).foldl once []) := by
 unfold m_s_VarsOf
 refine lp' hN p.Args (by omega) (m_s_VarsOf_l1 N p) (fun t s => some ((argVars t).foldl once s)) (fun s t => s.length + t.length ≤ 4294967290) [] (by simp; omega) (fun n s i x t h1 h2 h3 h4 h5 h6 hI ih => ?_) (fun n s i h1 h2 hI => ?_)
 ·simp only [List.length_cons] at hI
  simp only [m_s_VarsOf_l1, h5, if_true, h4, Option.bind_some, h6, argVars, hasS hN s x.S (by omega)]
  by_cases h : x.K = 1
  ·simp only [h, decide_true, if_true, Option.bind_some, List.foldl_cons]
   have := ih (once s x.S) (by have := once_len s x.S; omega)
   unfold once at this ⊢
   by_cases hm : x.S ∈ s
   ·simp only [hm, if_true] at this
    simpa [hm] using this
   ·simp only [hm, if_false] at this
    simp only [hm, decide_false, Bool.not_false, if_true, app_ok (show s.length + [x.S].length ≤ 4294967296 by simp; omega), Option.bind_some, if_false]
    exact this
  ·simp only [h, decide_false, Bool.false_eq_true, if_false, Option.bind_some]
   exact ih _ (by omega)
 ·simp only [m_s_VarsOf_l1, h2, Bool.false_eq_true, if_false]; rfl
def posNames : List TPat → List ByteArray
 | [] => []
 | p :: t => if p.Not then posNames t else argVars p.Args ++ posNames t
def nArgs (l : List TPat) : Nat := (l.map fun p => p.Args.length).sum
theorem posNames_len : ∀ (l : List TPat), (posNames l).length ≤ nArgs l
 | [] => by simp [posNames, nArgs]
 | p :: t => by
  have h1 := posNames_len t
  have h2 := argVars_len p.Args
  have h3 : nArgs (p :: t) = p.Args.length + nArgs t := by simp [nArgs]
  rw [h3]
  unfold posNames
  split
  ·omega
  ·rw [List.length_append]; omega
theorem posVars_s {N : Nat} (hN : 1099000000000 ≤ N) (r : TRule) (hl : r.Pats.length ≤ 1048576) (ha : nArgs r.Pats ≤ 1048576) (hp : ∀ p ∈ r.Pats, p.Args.length ≤ 1048576) : m_s_PosVars N r = some ((posNames r.Pats).foldl once []) := by
 unfold m_s_PosVars
 refine lp' hN r.Pats (by omega) (m_s_PosVars_l1 N r) (fun t s => some ((posNames t).foldl once s)) (fun s t => s.length + nArgs t ≤ 4294967290) [] (by simp; omega) (fun n s i x t h1 h2 h3 h4 h5 h6 hI ih => ?_) (fun n s i h1 h2 hI => ?_)
 ·have hI' : s.length + (x.Args.length + nArgs t) ≤ 4294967290 := by simpa [nArgs] using hI
  have hpx := hp x h2
  simp only [m_s_PosVars_l1, h5, if_true, h4, Option.bind_some, vars_s hN x hpx, posNames]
  have hvl := onces_len (argVars x.Args) []
  have hal := argVars_len x.Args
  simp only [List.length_nil, Nat.zero_add] at hvl
  have key : m_s_PosVars_l2 N r i (m_s_PosVars_l1 N r n) ((argVars x.Args).foldl once []) N s 0 = if x.Not then some ((posNames t).foldl once s) else some ((posNames t).foldl once (((argVars x.Args).foldl once []).foldl once s)) := by
   cases hx : x.Not with
   | true =>
    obtain ⟨m, rfl⟩ : ∃ m, N = m + 1 := ⟨N - 1, by omega⟩
    have ih0 := ih s (by omega)
    simp only [m_s_PosVars_l2, h4, Option.bind_some, hx, Bool.not_true, h6, ih0]
    split <;> rfl
   | false =>
    refine lp' hN ((argVars x.Args).foldl once []) (by omega) (m_s_PosVars_l2 N r i (m_s_PosVars_l1 N r n) ((argVars x.Args).foldl once [])) (fun u s => some ((posNames t).foldl once (u.foldl once s))) (fun s u => s.length + u.length + nArgs t ≤ 4294967290) s (by omega) (fun n' s' i' y u g1 g2 g3 g4 g5 g6 gI gih => ?_) (fun n' s' i' g1 g2 gI => ?_)
    ·simp only [List.length_cons] at gI
     simp only [m_s_PosVars_l2, g5, if_true, h4, Option.bind_some, hx, Bool.not_false, g4, hasS hN s' y (by omega), List.foldl_cons, g6]
     have := gih (once s' y) (by have := once_len s' y; omega)
     unfold once at this ⊢
     by_cases hm : y ∈ s'
     ·simp only [hm, if_true] at this
      simpa [hm] using this
     ·simp only [hm, if_false] at this
      simp only [hm, decide_false, Bool.not_false, if_true, app_ok (show s'.length + [y].length ≤ 4294967296 by simp; omega), Option.bind_some, if_false]
      exact this
    ·simp only [m_s_PosVars_l2, g2, Bool.false_eq_true, if_false, Option.bind_some, h6]
     exact ih s' (by simp at gI; omega)
  rw [show (m_s_PosVars_l2 N r i (m_s_PosVars_l1 N r n) ((argVars x.Args).foldl once []) N s 0) = _ from key]
  cases hx : x.Not with
  | true => simp
  | false => simp [List.foldl_append, onces_dedup]
 ·simp only [m_s_PosVars_l1, h2, Bool.false_eq_true, if_false]; rfl
def bound (r : TRule) : List ByteArray := (posNames r.Pats).foldl once []
theorem bound_len {r : TRule} (h : nArgs r.Pats ≤ 1048576) : (bound r).length ≤ 1048576 := by
 have h1 := onces_len (posNames r.Pats) []
 have h2 := posNames_len r.Pats
 unfold bound; simp at h1; omega
theorem idxSl {N : Nat} (hN : 1099000000000 ≤ N) (xs : List ByteArray) (v : ByteArray) (hl : xs.length ≤ 4294967296) : ∃ r, m_sl_Index_Sstring_string N xs v = some r ∧ decide (0 ≤ r) = decide (v ∈ xs) := by
 unfold m_sl_Index_Sstring_string
 have := findloop (m_sl_Index_Sstring_string_l1 N xs v) xs hl (fun x => seq v x) (fun n i x hx _ hc hw => by simp only [m_sl_Index_Sstring_string_l1, hc, if_true, hx, Option.bind_some, hw]) (fun n i hc => by simp only [m_sl_Index_Sstring_string_l1, hc, Bool.false_eq_true, if_false]) N 0 (by omega) (by omega)
 rw [List.drop_zero, show ((0 : Nat) : Int) = 0 from rfl] at this
 refine ⟨_, this, ?_⟩
 rw [find_any, Bool.eq_iff_iff, List.any_eq_true, decide_eq_true_eq]
 simp only [seq_eq, decide_eq_true_eq]
 constructor
 ·rintro ⟨x, hx, rfl⟩; exact hx
 ·intro h; exact ⟨v, h, rfl⟩
theorem hasSl {N : Nat} (hN : 1099000000000 ≤ N) (xs : List ByteArray) (v : ByteArray) (hl : xs.length ≤ 4294967296) : m_sl_Contains_Sstring_string N xs v = some (decide (v ∈ xs)) := by
 unfold m_sl_Contains_Sstring_string
 obtain ⟨r, h1, h2⟩ := idxSl hN xs v hl
 rw [h1, Option.bind_some, h2]
theorem addOnce {N : Nat} (hN : 1099000000000 ≤ N) (s : List ByteArray) (v : ByteArray) (hl : s.length ≤ 4294967295) : m_i_addOnce N s v = some (once s v) := by
 unfold m_i_addOnce once
 rw [hasSl hN s v (by omega), Option.bind_some]
 by_cases h : v ∈ s
 ·simp [h]
 ·simp only [h, decide_false, Bool.false_eq_true, if_false, app_ok (show s.length + [v].length ≤ 4294967296 by simp; omega), Option.bind_some]
theorem addVars_i {N : Nat} (hN : 1099000000000 ≤ N) (l : List TArg) (s : List ByteArray) (hl : s.length + l.length ≤ 4294967290) : m_i_addVars N s l = some ((argVars l).foldl once s) := by
 unfold m_i_addVars
 refine lp' hN l (by omega) (m_i_addVars_l1 N l) (fun t s => some ((argVars t).foldl once s)) (fun s t => s.length + t.length ≤ 4294967290) s hl (fun n s i x t h1 h2 h3 h4 h5 h6 hI ih => ?_) (fun n s i h1 h2 hI => ?_)
 ·simp only [List.length_cons] at hI
  simp only [m_i_addVars_l1, h5, if_true, h4, Option.bind_some, h6, argVars, addOnce hN s x.S (by omega)]
  by_cases h : x.K = 1
  ·simp only [h, decide_true, if_true, List.foldl_cons]
   exact ih _ (by have := once_len s x.S; omega)
  ·simp only [h, decide_false, Bool.false_eq_true, if_false]
   exact ih _ (by omega)
 ·simp only [m_i_addVars_l1, h2, Bool.false_eq_true, if_false]; rfl
theorem posVars_i {N : Nat} (hN : 1099000000000 ≤ N) (r : TRule) (hl : r.Pats.length ≤ 1048576) (ha : nArgs r.Pats ≤ 1048576) : m_i_PosVars N r = some ((posNames r.Pats).foldl once []) := by
 unfold m_i_PosVars
 refine lp' hN r.Pats (by omega) (m_i_PosVars_l1 N r) (fun t s => some ((posNames t).foldl once s)) (fun s t => s.length + nArgs t ≤ 4294967290) [] (by simp; omega) (fun n s i x t h1 h2 h3 h4 h5 h6 hI ih => ?_) (fun n s i h1 h2 hI => ?_)
 ·have hI' : s.length + (x.Args.length + nArgs t) ≤ 4294967290 := by simpa [nArgs] using hI
  simp only [m_i_PosVars_l1, h5, if_true, h4, Option.bind_some, h6, posNames, addVars_i hN x.Args s (by omega)]
  cases hx : x.Not with
  | true => simpa using ih s (by omega)
  | false =>
   have h1 := argVars_len x.Args
   have h2 := onces_len (argVars x.Args) s
   simpa [List.foldl_append] using ih _ (show ((argVars x.Args).foldl once s).length + nArgs t ≤ 4294967290 by omega)
 ·simp only [m_i_PosVars_l1, h2, Bool.false_eq_true, if_false]; rfl
def posCount : List TPat → Nat
 | [] => 0
 | p :: t => if p.Not then posCount t else posCount t + 1
theorem posCount_le : ∀ (l : List TPat), posCount l ≤ l.length
 | [] => by simp [posCount]
 | p :: t => by have := posCount_le t; unfold posCount; split <;> simp <;> omega
theorem count_s {N : Nat} (hN : 1099000000000 ≤ N) (r : TRule) (hl : r.Pats.length ≤ 1048576) : m_s_PosCount N r = some (posCount r.Pats : Int) := by
 unfold m_s_PosCount
 have := lp' hN r.Pats (by omega) (m_s_PosCount_l1 N r) (fun t s => some (s + (posCount t : Int))) (fun s t => 0 ≤ s ∧ s + t.length ≤ 1048576) (0 : Int) (by simp; omega) (fun n s i x t h1 h2 h3 h4 h5 h6 hI ih => by
  simp only [List.length_cons] at hI
  simp only [m_s_PosCount_l1, h5, if_true, h4, Option.bind_some, h6, posCount]
  cases hx : x.Not with
  | true => simpa using ih s (by omega)
  | false =>
   rw [wr (n := s + 1) (by omega) (by omega)]
   have := ih (s + 1) (by omega)
   simp only [Bool.not_false, if_true, this, Bool.false_eq_true, if_false]
   congr 1; omega) (fun n s i h1 h2 hI => by simp only [m_s_PosCount_l1, h2, Bool.false_eq_true, if_false, posCount]; simp)
 simpa using this
theorem count_i {N : Nat} (hN : 1099000000000 ≤ N) (r : TRule) (hl : r.Pats.length ≤ 1048576) : m_i_PosCount N r = some (posCount r.Pats : Int) := by
 unfold m_i_PosCount
 have := lp' hN r.Pats (by omega) (m_i_PosCount_l1 N r) (fun t s => some (s + (posCount t : Int))) (fun s t => 0 ≤ s ∧ s + t.length ≤ 1048576) (0 : Int) (by simp; omega) (fun n s i x t h1 h2 h3 h4 h5 h6 hI ih => by
  simp only [List.length_cons] at hI
  simp only [m_i_PosCount_l1, h5, if_true, h4, Option.bind_some, h6, posCount]
  cases hx : x.Not with
  | true => simpa using ih s (by omega)
  | false =>
   rw [wr (n := s + 1) (by omega) (by omega)]
   have := ih (s + 1) (by omega)
   simp only [Bool.not_false, if_true, this, Bool.false_eq_true, if_false]
   congr 1; omega) (fun n s i h1 h2 hI => by simp only [m_i_PosCount_l1, h2, Bool.false_eq_true, if_false, posCount]; simp)
 simpa using this
def known (vs : List ByteArray) (a : TArg) : Bool := !decide (a.K = 1) || decide (a.S ∈ vs)
theorem known_s {N : Nat} (hN : 1099000000000 ≤ N) (a : TArg) (vs : List ByteArray) (h : vs.length ≤ 4294967296) : m_s_l9Known N a vs = some (known vs a) := by
 unfold m_s_l9Known known
 simp only [hasS hN vs a.S h, Option.bind_some, orNB]
def patsFrom (c : Nat) : Nat → List TPat → Bool
 | _, [] => true
 | i, p :: t => okPat p && ((p.Not == decide (c ≤ i)) && patsFrom c (i + 1) t)
def okPats (l : List TPat) : Bool := (decide (1 ≤ l.length) && decide (l.length ≤ 6)) && ((decide (1 ≤ posCount l) && decide (posCount l ≤ 3)) && patsFrom (posCount l) 0 l)
theorem pats_i {N : Nat} (hN : 1099000000000 ≤ N) (r : TRule) (hl : r.Pats.length ≤ 1048576) (hp : ∀ p ∈ r.Pats, SzPat p) : m_i_patsOk N r = some (okPats r.Pats) := by
 have hc := count_i hN r hl
 have lp : ∀ (n i : Nat), i ≤ r.Pats.length → r.Pats.length - i < n → m_i_patsOk_l1 N r n i = some (patsFrom (posCount r.Pats) i (r.Pats.drop i)) := by
  intro n
  induction n with
  | zero => intro i _ h; omega
  | succ n ih =>
   intro i hi hn
   by_cases hlt : i < r.Pats.length
   ·have c1 : decide ((i : Int) < (r.Pats.length : Int)) = true := decide_eq_true (by omega)
    rw [List.drop_eq_getElem_cons hlt]
    simp only [m_i_patsOk_l1, c1, if_true, idx_nat_lt hlt, Option.bind_some, pat_i hN _ (hp _ (List.getElem_mem hlt)), hc, wr1 i (by omega), ih (i + 1) (by omega) (by omega), patsFrom]
    have hd : decide ((posCount r.Pats : Int) ≤ (i : Int)) = decide (posCount r.Pats ≤ i) := by rw [decide_eq_decide]; omega
    rw [hd]
    cases okPat r.Pats[i] <;> cases r.Pats[i].Not <;> cases decide (posCount r.Pats ≤ i) <;> rfl
   ·have c1 : decide ((i : Int) < (r.Pats.length : Int)) = false := decide_eq_false (by omega)
    rw [List.drop_of_length_le (by omega)]
    simp only [m_i_patsOk_l1, c1, Bool.false_eq_true, if_false]; rfl
 have l0 := lp N 0 (by omega) (by omega)
 have h1 : decide ((1 : Int) ≤ (r.Pats.length : Int)) = decide (1 ≤ r.Pats.length) := by rw [decide_eq_decide]; omega
 have h2 : decide ((r.Pats.length : Int) ≤ 6) = decide (r.Pats.length ≤ 6) := by rw [decide_eq_decide]; omega
 have h3 : decide ((1 : Int) ≤ (posCount r.Pats : Int)) = decide (1 ≤ posCount r.Pats) := by rw [decide_eq_decide]; omega
 have h4 : decide ((posCount r.Pats : Int) ≤ 3) = decide (posCount r.Pats ≤ 3) := by rw [decide_eq_decide]; omega
 unfold m_i_patsOk okPats
 simp only [in1, Option.bind_some, hc, h1, h2, h3, h4]
 rw [show m_i_patsOk_l1 N r N 0 = _ from l0, List.drop_zero]
 cases (decide (1 ≤ r.Pats.length) && decide (r.Pats.length ≤ 6)) <;> cases (decide (1 ≤ posCount r.Pats) && decide (posCount r.Pats ≤ 3)) <;> rfl
def patsS : Nat → Bool → List TPat → Bool
 | _, _, [] => true
 | i, b, p :: t => !(decide (2 < i) && !p.Not) && (okPat p && (!(decide (i = 0) && p.Not) && (!((decide (0 < i) && b) && !p.Not) && patsS (i + 1) p.Not t)))
theorem allNot : ∀ (l : List TPat) (i : Nat), 0 < i → patsS i true l = (l.all okPat && l.all fun p => p.Not)
 | [], i, h => rfl
 | p :: t, i, h => by
  have h1 : decide (i = 0) = false := decide_eq_false (by omega)
  have h2 : decide (0 < i) = true := decide_eq_true h
  unfold patsS
  simp only [h1, h2, Bool.false_and, Bool.not_false, Bool.true_and, List.all_cons]
  cases hp : p.Not with
  | false => cases okPat p <;> simp
  | true =>
   rw [allNot t (i + 1) (by omega)]
   cases okPat p <;> simp
theorem fromNot (c : Nat) : ∀ (l : List TPat) (i : Nat), c ≤ i → patsFrom c i l = (l.all okPat && l.all fun p => p.Not)
 | [], i, h => rfl
 | p :: t, i, h => by
  have h1 : decide (c ≤ i) = true := decide_eq_true h
  unfold patsFrom
  rw [fromNot c t (i + 1) (by omega), h1]
  simp only [List.all_cons]
  cases okPat p <;> cases p.Not <;> simp
theorem posCount_allNot : ∀ (l : List TPat), (l.all fun p => p.Not) = true ↔ posCount l = 0
 | [] => by simp [posCount]
 | p :: t => by
  unfold posCount
  have := posCount_allNot t
  cases hp : p.Not with
  | true => simp [hp]; simpa using this
  | false => simp [hp]
theorem patsS_iff : ∀ (l : List TPat) (i : Nat) (b : Bool), (0 < i → b = false) → i ≤ 3 → (patsS i b l = true ↔ (i = 0 → l = [] ∨ 0 < posCount l) ∧ i + posCount l ≤ 3 ∧ patsFrom (i + posCount l) i l = true)
 | [], i, b, hb, hi => by simp [patsS, posCount, patsFrom, hi]
 | p :: t, i, b, hb, hi => by
  have hb' : (decide (0 < i) && b) = false := by
   by_cases h : 0 < i
   ·simp [hb h]
   ·simp [h]
  unfold patsS patsFrom posCount
  rw [hb']
  cases hp : p.Not with
  | true =>
   simp only [Bool.not_true, Bool.and_false, Bool.not_false, Bool.true_and, if_true, Bool.and_true, Bool.false_and]
   by_cases h0 : i = 0
   ·subst h0
    simp only [decide_true, Bool.not_true, Bool.and_false, Bool.false_and, Bool.false_eq_true, false_iff]
    rintro ⟨h1, h2, h3⟩
    have h1 : 0 < posCount t := by simpa using h1
    simp only [Bool.and_eq_true, beq_iff_eq] at h3
    have := h3.2.1
    simp at this
    omega
   ·rw [decide_eq_false h0, allNot t (i + 1) (by omega)]
    simp only [Bool.not_false, Bool.true_and, Bool.and_eq_true, beq_iff_eq, h0, false_implies, true_and]
    constructor
    ·rintro ⟨h1, h2, h3⟩
     have h4 := (posCount_allNot t).1 h3
     rw [h4]
     refine ⟨by omega, h1, by simp, ?_⟩
     rw [fromNot _ t (i + 1) (by omega), h2, h3]; rfl
    ·rintro ⟨h1, h2, h3, h4⟩
     have h5 : i + posCount t ≤ i := by simpa using h3
     have h6 : posCount t = 0 := by omega
     exact ⟨h2, by
      rw [fromNot _ t (i + 1) (by omega)] at h4
      simp only [Bool.and_eq_true] at h4
      exact h4.1, (posCount_allNot t).2 h6⟩
  | false =>
   simp only [Bool.not_false, Bool.and_true, Bool.and_false, Bool.true_and, Bool.false_eq_true, if_false, Bool.and_eq_true, beq_iff_eq]
   have e1 : decide (i + (posCount t + 1) ≤ i) = false := decide_eq_false (by omega)
   rw [e1]
   have ar : i + (posCount t + 1) = i + 1 + posCount t := by omega
   by_cases h2 : 2 < i
   ·simp only [h2, decide_true, Bool.not_true, Bool.false_eq_true, false_and, false_iff]
    rintro ⟨_, h3, _⟩; omega
   ·have := patsS_iff t (i + 1) false (fun _ => rfl) (by omega)
    simp only [h2, decide_false, Bool.not_false, true_and]
    rw [this, ar]
    constructor
    ·rintro ⟨h3, _, h4, h5⟩
     refine ⟨fun _ => .inr (by omega), h4, h3, ?_⟩
     first | exact ⟨rfl, h5⟩ | exact h5
    ·rintro ⟨_, h4, h3, h5⟩
     refine ⟨h3, by omega, h4, ?_⟩
     first | exact h5.2 | exact h5
theorem okPats_eq (l : List TPat) : (patsS 0 false l && (decide (1 ≤ l.length) && decide (l.length ≤ 6))) = okPats l := by
 have := patsS_iff l 0 false (by simp) (by omega)
 simp only [true_implies, Nat.zero_add] at this
 rw [Bool.eq_iff_iff]
 unfold okPats
 simp only [Bool.and_eq_true, decide_eq_true_eq, this]
 constructor
 ·rintro ⟨⟨h1, h2, h3⟩, h4, h5⟩
  have h1 := h1.resolve_left (by rintro rfl; simp at h4)
  exact ⟨⟨h4, h5⟩, ⟨by omega, h2⟩, h3⟩
 ·rintro ⟨⟨h4, h5⟩, ⟨h1, h2⟩, h3⟩
  exact ⟨⟨.inr (by omega), h2, h3⟩, h4, h5⟩
theorem pats_s {N : Nat} (hN : 1099000000000 ≤ N) (l : List TPat) (hl : l.length ≤ 1048576) (hp : ∀ p ∈ l, SzPat p) : m_s_l9Pats N l = some (okPats l) := by
 have lp : ∀ (n i : Nat) (b : Bool), i ≤ l.length → l.length - i < n → (∀ (h : i - 1 < l.length), 0 < i → l[i - 1].Not = b) → m_s_l9Pats_l1 N l n i = some (patsS i b (l.drop i) && (decide (1 ≤ l.length) && decide (l.length ≤ 6))) := by
  intro n
  induction n with
  | zero => intro i b _ h; omega
  | succ n ih =>
   intro i b hi hn hb
   by_cases hlt : i < l.length
   ·have c1 : decide ((i : Int) < (l.length : Int)) = true := decide_eq_true (by omega)
    have h2 : decide ((2 : Int) < (i : Int)) = decide (2 < i) := by rw [decide_eq_decide]; omega
    have h3 : decide ((i : Int) = 0) = decide (i = 0) := by rw [decide_eq_decide]; omega
    have h4 : decide ((0 : Int) < (i : Int)) = decide (0 < i) := by rw [decide_eq_decide]; omega
    rw [List.drop_eq_getElem_cons hlt]
    simp only [m_s_l9Pats_l1, c1, if_true, idx_nat_lt hlt, Option.bind_some, pat_s hN _ (hp _ (List.getElem_mem hlt)), h2, h3, h4, wr1 i (by omega), ih (i + 1) l[i].Not (by omega) (by omega) (fun h _ => rfl), patsS]
    by_cases h0 : 0 < i
    ·have e1 : IntKind.i64.wrap ((i : Int) - 1) = ((i - 1 : Nat) : Int) := by rw [wr (by omega) (by omega)]; omega
     have e2 := hb (by omega) h0
     have e3 : decide (i = 0) = false := decide_eq_false (by omega)
     simp only [h0, decide_true, if_true, e1, idx_nat_lt (show i - 1 < l.length by omega), Option.bind_some, e2, e3]
     cases decide (2 < i) <;> cases l[i].Not <;> cases okPat l[i] <;> cases b <;> simp
    ·have e3 : decide (i = 0) = true := decide_eq_true (by omega)
     simp only [h0, decide_false, Bool.false_eq_true, if_false, Option.bind_some, e3]
     cases decide (2 < i) <;> cases l[i].Not <;> cases okPat l[i] <;> simp
   ·have c1 : decide ((i : Int) < (l.length : Int)) = false := decide_eq_false (by omega)
    have h1 : decide ((1 : Int) ≤ (l.length : Int)) = decide (1 ≤ l.length) := by rw [decide_eq_decide]; omega
    have h2 : decide ((l.length : Int) ≤ 6) = decide (l.length ≤ 6) := by rw [decide_eq_decide]; omega
    rw [List.drop_of_length_le (by omega)]
    simp only [m_s_l9Pats_l1, c1, Bool.false_eq_true, if_false, in0, Option.bind_some, h1, h2]; rfl
 unfold m_s_l9Pats
 rw [show m_s_l9Pats_l1 N l N 0 = _ from lp N 0 false (by omega) (by omega) (fun _ h => by omega), List.drop_zero, okPats_eq]
def okCondK (vs : List ByteArray) (c : TCond) : Bool := okCond c && (known vs c.L && known vs c.R)
theorem conds_s {N : Nat} (hN : 1099000000000 ≤ N) (l : List TCond) (vs : List ByteArray) (hl : l.length ≤ 1048576) (h : ∀ c ∈ l, SzCond c) (hv : vs.length ≤ 4294967296) : m_s_l9Conds N l vs = some (l.all (okCondK vs) && decide (l.length ≤ 6)) := by
 have h2 : decide ((l.length : Int) ≤ 6) = decide (l.length ≤ 6) := by rw [decide_eq_decide]; omega
 unfold m_s_l9Conds
 refine lp0 hN l (by omega) (m_s_l9Conds_l1 N l vs) (fun t => some (t.all (okCondK vs) && decide (l.length ≤ 6))) (fun n i x t g1 g2 g3 g4 g5 g6 g7 => ?_) (fun n i g1 g2 => ?_)
 ·simp only [m_s_l9Conds_l1, g5, if_true, g4, Option.bind_some, cond_s hN x (h x g2), known_s hN _ vs hv, g6, g7, List.all_cons, okCondK]
  cases okCond x <;> cases known vs x.L <;> cases known vs x.R <;> simp
 ·simp only [m_s_l9Conds_l1, g2, Bool.false_eq_true, if_false, h2]; rfl
def okExprK (vs : List ByteArray) (e : TExpr) : Bool := known vs e.L && known vs e.R
def okActK (vs : List ByteArray) (pos : Nat) (a : TAct) : Bool := okAct a && (!(decide (a.Kind = 2) && decide ((pos : Int) ≤ a.N)) && a.Args.all (okExprK vs))
theorem acts_s {N : Nat} (hN : 1099000000000 ≤ N) (l : List TAct) (vs : List ByteArray) (pos : Nat) (hl : l.length ≤ 1048576) (h : ∀ c ∈ l, SzAct c) (hv : vs.length ≤ 4294967296) : m_s_l9Acts N l vs pos = some (l.all (okActK vs pos) && (decide (1 ≤ l.length) && decide (l.length ≤ 6))) := by
 have h1 : decide ((1 : Int) ≤ (l.length : Int)) = decide (1 ≤ l.length) := by rw [decide_eq_decide]; omega
 have h2 : decide ((l.length : Int) ≤ 6) = decide (l.length ≤ 6) := by rw [decide_eq_decide]; omega
 unfold m_s_l9Acts
 refine lp0 hN l (by omega) (m_s_l9Acts_l1 N l vs pos) (fun t => some (t.all (okActK vs pos) && (decide (1 ≤ l.length) && decide (l.length ≤ 6)))) (fun n i x t g1 g2 g3 g4 g5 g6 g7 => ?_) (fun n i g1 g2 => ?_)
 ·have hx := h x g2
  have inner := lp0 hN x.Args (by have := hx.2.2.1; omega) (m_s_l9Acts_l2 N l vs i (m_s_l9Acts_l1 N l vs pos n)) (fun u => some (u.all (okExprK vs) && (t.all (okActK vs pos) && (decide (1 ≤ l.length) && decide (l.length ≤ 6))))) (fun n' i' y u k1 k2 k3 k4 k5 k6 k7 => by
   simp only [m_s_l9Acts_l2, g4, Option.bind_some, k5, if_true, k4, known_s hN _ vs hv, k6, k7, List.all_cons, okExprK]
   cases known vs y.L <;> cases known vs y.R <;> simp) (fun n' i' k1 k2 => by
   simp only [m_s_l9Acts_l2, g4, Option.bind_some, k2, Bool.false_eq_true, if_false, g6, g7, List.all_nil, Bool.true_and])
  simp only [m_s_l9Acts_l1, g5, if_true, g4, Option.bind_some, act_s hN x hx, inner, List.all_cons, okActK]
  cases okAct x <;> cases decide (x.Kind = 2) <;> cases decide ((pos : Int) ≤ x.N) <;> simp [Bool.and_assoc]
 ·simp only [m_s_l9Acts_l1, g2, Bool.false_eq_true, if_false, in0, Option.bind_some, h1, h2]; rfl
def SzRule (r : TRule) : Prop := r.Name.size ≤ 1048576 ∧ (r.Pats.length ≤ 1048576 ∧ ∀ p ∈ r.Pats, SzPat p) ∧ (r.Conds.length ≤ 1048576 ∧ ∀ c ∈ r.Conds, SzCond c) ∧ (r.Acts.length ≤ 1048576 ∧ ∀ a ∈ r.Acts, SzAct a) ∧ nArgs r.Pats ≤ 1048576 ∧ (r.Acts.map fun a => a.Args.length).sum ≤ 1048576
def okRule (r : TRule) : Bool := okName r.Name && ((decide (-100 ≤ r.Sal) && decide (r.Sal ≤ 100)) && (okPats r.Pats && ((r.Conds.all (okCondK (bound r)) && decide (r.Conds.length ≤ 6)) && (r.Acts.all (okActK (bound r) (posCount r.Pats)) && (decide (1 ≤ r.Acts.length) && decide (r.Acts.length ≤ 6))))))
theorem rule_s {N : Nat} (hN : 1099000000000 ≤ N) (r : TRule) (h : SzRule r) : m_s_RuleOk N r = some (okRule r) := by
 obtain ⟨h1, ⟨h2, h2'⟩, ⟨h3, h3'⟩, ⟨h4, h4'⟩, h5, h6⟩ := h
 have hb := bound_len h5
 unfold m_s_RuleOk okRule
 have e1 := conds_s hN _ (bound r) h3 h3' (by omega)
 have e2 := acts_s hN _ (bound r) (posCount r.Pats) h4 h4' (by omega)
 have e0 : m_s_PosVars N r = some (bound r) := posVars_s hN r h2 h5 (fun p hp => (h2' p hp).2.1)
 simp only [e0, Option.bind_some, okName_s hN _ h1, in0, pats_s hN _ h2 h2', e1, count_s hN r h2, e2, andS, Bool.and_assoc]
def condNames : List TCond → List ByteArray
 | [] => []
 | c :: t => argVars [c.L, c.R] ++ condNames t
def exprNames : List TExpr → List ByteArray
 | [] => []
 | e :: t => argVars [e.L, e.R] ++ exprNames t
def actNames : List TAct → List ByteArray
 | [] => []
 | a :: t => exprNames a.Args ++ actNames t
theorem condNames_len : ∀ (l : List TCond), (condNames l).length ≤ 2 * l.length
 | [] => by simp [condNames]
 | c :: t => by have := condNames_len t; have := argVars_len [c.L, c.R]; simp [condNames] at *; omega
theorem exprNames_len : ∀ (l : List TExpr), (exprNames l).length ≤ 2 * l.length
 | [] => by simp [exprNames]
 | c :: t => by have := exprNames_len t; have := argVars_len [c.L, c.R]; simp [exprNames] at *; omega
def nExprs (l : List TAct) : Nat := (l.map fun a => a.Args.length).sum
theorem actNames_len : ∀ (l : List TAct), (actNames l).length ≤ 2 * nExprs l
 | [] => by simp [actNames, nExprs]
 | a :: t => by have := actNames_len t; have := exprNames_len a.Args; simp [actNames, nExprs] at *; omega
theorem used3 {N : Nat} (hN : 1099000000000 ≤ N) (x : TAct) (s4 : Nat) (K : List ByteArray → Int → Option (List ByteArray)) (l : List TAct) (g : List ByteArray → Option (List ByteArray)) (s : List ByteArray) (hl : s.length + 2 * x.Args.length ≤ 4294967280) (hx : x.Args.length ≤ 1048576) (h4 : s4 ≤ 1048576)
  (hK : ∀ s', s'.length ≤ s.length + 2 * x.Args.length → K s' ((s4 + 1 : Nat) : Int) = g s') : m_i_usedVars_l3 N s4 K x N s 0 = g ((exprNames x.Args).foldl once s) := by
 refine lp' hN x.Args (by omega) (m_i_usedVars_l3 N s4 K x) (fun t s => g ((exprNames t).foldl once s)) (fun u t => u.length + 2 * t.length ≤ s.length + 2 * x.Args.length) s (by omega) (fun n u i y t h1 h2 h3 h4' h5 h6 hI ih => ?_) (fun n u i h1 h2 hI => ?_)
 ·simp only [List.length_cons] at hI
  have hv := onces_len (argVars [y.L, y.R]) u
  have ha := argVars_len [y.L, y.R]
  simp only [List.length_cons, List.length_nil] at ha
  simp only [m_i_usedVars_l3, h5, if_true, h4', Option.bind_some, addVars_i hN [y.L, y.R] u (by simp; omega), h6, exprNames, List.foldl_append]
  exact ih _ (by omega)
 ·simp only [m_i_usedVars_l3, h2, Bool.false_eq_true, if_false, wr1 s4 (by omega), exprNames]
  exact hK u (by simpa using hI)
theorem used_i {N : Nat} (hN : 1099000000000 ≤ N) (r : TRule) (hc : r.Conds.length ≤ 1048576) (ha : r.Acts.length ≤ 1048576) (hx : ∀ a ∈ r.Acts, a.Args.length ≤ 1048576) (he : nExprs r.Acts ≤ 1048576) : m_i_usedVars N r = some ((condNames r.Conds ++ actNames r.Acts).foldl once []) := by
 unfold m_i_usedVars
 have a2 : ∀ s : List ByteArray, s.length ≤ 4194304 → m_i_usedVars_l2 N r N s 0 = some ((actNames r.Acts).foldl once s) := fun s hs =>
  lp' hN r.Acts (by omega) (m_i_usedVars_l2 N r) (fun t s => some ((actNames t).foldl once s)) (fun s t => s.length + 2 * nExprs t ≤ 16777216) s (by omega) (fun n u i x t h1 h2 h3 h4 h5 h6 hI ih => by
   have hI' : u.length + 2 * (x.Args.length + nExprs t) ≤ 16777216 := by simpa [nExprs] using hI
   simp only [m_i_usedVars_l2, h5, if_true, h4, Option.bind_some, actNames, List.foldl_append]
   exact used3 hN x i (m_i_usedVars_l2 N r n) r.Acts (fun s' => some ((actNames t).foldl once s')) u (by omega) (hx x h2) (by omega) (fun s' hs' => ih s' (by omega))) (fun n u i h1 h2 hI => by simp only [m_i_usedVars_l2, h2, Bool.false_eq_true, if_false]; rfl)
 refine lp' hN r.Conds (by omega) (m_i_usedVars_l1 N r) (fun t s => some ((condNames t ++ actNames r.Acts).foldl once s)) (fun s t => s.length + 2 * t.length ≤ 4194304) [] (by simp; omega) (fun n u i x t h1 h2 h3 h4 h5 h6 hI ih => ?_) (fun n u i h1 h2 hI => ?_)
 ·simp only [List.length_cons] at hI
  have hv := onces_len (argVars [x.L, x.R]) u
  have ha := argVars_len [x.L, x.R]
  simp only [List.length_cons, List.length_nil] at ha
  simp only [m_i_usedVars_l1, h5, if_true, h4, Option.bind_some, addVars_i hN [x.L, x.R] u (by simp; omega), h6, condNames, List.append_assoc]
  rw [List.foldl_append]
  exact ih _ (by omega)
 ·simp only [m_i_usedVars_l1, h2, Bool.false_eq_true, if_false, condNames, List.nil_append]
  exact a2 u (by simpa using hI)
theorem known_iff (vs : List ByteArray) (a b : TArg) : (known vs a && known vs b) = true ↔ ∀ x ∈ argVars [a, b], x ∈ vs := by
 unfold known
 simp only [mem_argVars, List.mem_cons, List.not_mem_nil, or_false, Bool.and_eq_true, Bool.or_eq_true, Bool.not_eq_true', decide_eq_false_iff_not, decide_eq_true_eq]
 constructor
 ·rintro ⟨h1, h2⟩ x ⟨c, rfl | rfl, h3, rfl⟩
  ·exact h1.resolve_left (fun h => h h3)
  ·exact h2.resolve_left (fun h => h h3)
 ·intro h
  refine ⟨?_, ?_⟩
  ·by_cases h1 : a.K = 1
   ·exact .inr (h _ ⟨a, .inl rfl, h1, rfl⟩)
   ·exact .inl h1
  ·by_cases h1 : b.K = 1
   ·exact .inr (h _ ⟨b, .inr rfl, h1, rfl⟩)
   ·exact .inl h1
theorem condNames_iff (vs : List ByteArray) : ∀ (l : List TCond), (∀ x ∈ condNames l, x ∈ vs) ↔ ∀ c ∈ l, (known vs c.L && known vs c.R) = true
 | [] => by simp [condNames]
 | c :: t => by
  simp only [condNames, List.mem_append, or_imp, forall_and, condNames_iff vs t, List.mem_cons, forall_eq, known_iff]
theorem exprNames_iff (vs : List ByteArray) : ∀ (l : List TExpr), (∀ x ∈ exprNames l, x ∈ vs) ↔ ∀ c ∈ l, okExprK vs c = true
 | [] => by simp [exprNames]
 | c :: t => by
  simp only [exprNames, List.mem_append, or_imp, forall_and, exprNames_iff vs t, List.mem_cons, forall_eq, okExprK, known_iff]
theorem actNames_iff (vs : List ByteArray) : ∀ (l : List TAct), (∀ x ∈ actNames l, x ∈ vs) ↔ ∀ a ∈ l, a.Args.all (okExprK vs) = true
 | [] => by simp [actNames]
 | c :: t => by
  simp only [actNames, List.mem_append, or_imp, forall_and, actNames_iff vs t, List.mem_cons, forall_eq, exprNames_iff, List.all_eq_true]
theorem rule_i {N : Nat} (hN : 1099000000000 ≤ N) (r : TRule) (h : SzRule r) : m_i_RuleOk N r = some (okRule r) := by
 obtain ⟨h1, ⟨h2, h2'⟩, ⟨h3, h3'⟩, ⟨h4, h4'⟩, h5, h6⟩ := h
 have hb := bound_len h5
 have e0 : m_i_PosVars N r = some (bound r) := posVars_i hN r h2 h5
 have e1 := used_i hN r h3 h4 (fun a ha => (h4' a ha).2.2.1) h6
 have ul : ((condNames r.Conds ++ actNames r.Acts).foldl once []).length ≤ 4294967296 := by
  have a1 := onces_len (condNames r.Conds ++ actNames r.Acts) []
  have a2 := condNames_len r.Conds
  have a3 := actNames_len r.Acts
  have a4 : nExprs r.Acts ≤ 1048576 := h6
  simp only [List.length_append, List.length_nil] at a1; omega
 have l3 : m_i_RuleOk_l3 N (bound r) ((condNames r.Conds ++ actNames r.Acts).foldl once []) N 0 = some (((condNames r.Conds ++ actNames r.Acts).foldl once []).all fun x => decide (x ∈ bound r)) :=
  lp0 hN _ ul (m_i_RuleOk_l3 N (bound r) _) (fun t => some (t.all fun x => decide (x ∈ bound r))) (fun n i x t g1 g2 g3 g4 g5 g6 g7 => by
   simp only [m_i_RuleOk_l3, g5, if_true, g4, Option.bind_some, hasSl hN _ x (show (bound r).length ≤ 4294967296 by omega), g6, g7, List.all_cons]
   cases decide (x ∈ bound r) <;> rfl) (fun n i g1 g2 => by simp only [m_i_RuleOk_l3, g2, Bool.false_eq_true, if_false]; rfl)
 have l2 : m_i_RuleOk_l2 N r N 0 = some ((r.Acts.all fun a => okAct a && !(decide (a.Kind = 2) && decide ((posCount r.Pats : Int) ≤ a.N))) && ((condNames r.Conds ++ actNames r.Acts).foldl once []).all fun x => decide (x ∈ bound r)) :=
  lp0 hN r.Acts (by omega) (m_i_RuleOk_l2 N r) (fun t => some ((t.all fun a => okAct a && !(decide (a.Kind = 2) && decide ((posCount r.Pats : Int) ≤ a.N))) && ((condNames r.Conds ++ actNames r.Acts).foldl once []).all fun x => decide (x ∈ bound r))) (fun n i x t g1 g2 g3 g4 g5 g6 g7 => by
   simp only [m_i_RuleOk_l2, g5, if_true, g4, Option.bind_some, act_i hN x (h4' x g2), count_i hN r h2, g6, g7, List.all_cons]
   cases okAct x <;> cases decide (x.Kind = 2) <;> cases decide ((posCount r.Pats : Int) ≤ x.N) <;> simp) (fun n i g1 g2 => by
   simp only [m_i_RuleOk_l2, g2, Bool.false_eq_true, if_false, e0, e1, Option.bind_some, l3]; rfl)
 have l1 : m_i_RuleOk_l1 N r N 0 = some (r.Conds.all okCond && ((r.Acts.all fun a => okAct a && !(decide (a.Kind = 2) && decide ((posCount r.Pats : Int) ≤ a.N))) && ((condNames r.Conds ++ actNames r.Acts).foldl once []).all fun x => decide (x ∈ bound r))) :=
  lp0 hN r.Conds (by omega) (m_i_RuleOk_l1 N r) (fun t => some (t.all okCond && ((r.Acts.all fun a => okAct a && !(decide (a.Kind = 2) && decide ((posCount r.Pats : Int) ≤ a.N))) && ((condNames r.Conds ++ actNames r.Acts).foldl once []).all fun x => decide (x ∈ bound r)))) (fun n i x t g1 g2 g3 g4 g5 g6 g7 => by
   simp only [m_i_RuleOk_l1, g5, if_true, g4, Option.bind_some, cond_i hN x (h3' x g2), g6, g7, List.all_cons]
   cases okCond x <;> simp) (fun n i g1 g2 => by
   simp only [m_i_RuleOk_l1, g2, Bool.false_eq_true, if_false, l2]; rfl)
 have d1 : decide ((6 : Int) < (r.Conds.length : Int)) = !decide (r.Conds.length ≤ 6) := by rw [← decide_not, decide_eq_decide]; omega
 have d2 : decide ((1 : Int) ≤ (r.Acts.length : Int)) = decide (1 ≤ r.Acts.length) := by rw [decide_eq_decide]; omega
 have d3 : decide ((r.Acts.length : Int) ≤ 6) = decide (r.Acts.length ≤ 6) := by rw [decide_eq_decide]; omega
 have key : (r.Conds.all okCond && ((r.Acts.all fun a => okAct a && !(decide (a.Kind = 2) && decide ((posCount r.Pats : Int) ≤ a.N))) && ((condNames r.Conds ++ actNames r.Acts).foldl once []).all fun x => decide (x ∈ bound r))) = (r.Conds.all (okCondK (bound r)) && r.Acts.all (okActK (bound r) (posCount r.Pats))) := by
  rw [Bool.eq_iff_iff]
  have k1 : (((condNames r.Conds ++ actNames r.Acts).foldl once []).all fun x => decide (x ∈ bound r)) = true ↔ (∀ c ∈ r.Conds, (known (bound r) c.L && known (bound r) c.R) = true) ∧ ∀ a ∈ r.Acts, a.Args.all (okExprK (bound r)) = true := by
   rw [← condNames_iff, ← actNames_iff]
   simp only [List.all_eq_true, decide_eq_true_eq, mem_onces, List.not_mem_nil, false_or, List.mem_append, or_imp, forall_and]
  rw [Bool.and_eq_true, Bool.and_eq_true, Bool.and_eq_true, k1]
  simp only [List.all_eq_true, okCondK, okActK, Bool.and_eq_true, forall_and, and_imp]
  constructor
  ·rintro ⟨a1, ⟨a2, a3⟩, ⟨a4, a5⟩, a6⟩; exact ⟨⟨a1, a4, a5⟩, a2, a3, a6⟩
  ·rintro ⟨⟨a1, a4, a5⟩, a2, a3, a6⟩; exact ⟨a1, ⟨a2, a3⟩, ⟨a4, a5⟩, a6⟩
 unfold m_i_RuleOk okRule
 simp only [okName_i hN _ h1, Option.bind_some, in1, pats_i hN r h2 h2', d1, d2, d3, l1, key]
 generalize okName r.Name = a; generalize okPats r.Pats = b; generalize (decide (-100 ≤ r.Sal) && decide (r.Sal ≤ 100)) = c; generalize decide (r.Conds.length ≤ 6) = d; generalize (decide (1 ≤ r.Acts.length) && decide (r.Acts.length ≤ 6)) = e
 generalize r.Conds.all (okCondK (bound r)) = f; generalize r.Acts.all (okActK (bound r) (posCount r.Pats)) = g
 cases a <;> cases b <;> cases c <;> cases d <;> cases e <;> cases f <;> cases g <;> rfl
def ruleAt (l : List TRule) (v : ByteArray) : Int := match l.findIdx? (fun r => seq r.Name v) with | some j => (j : Int) | none => -1
theorem at_s {N : Nat} (hN : 1099000000000 ≤ N) (d : TDef) (v : ByteArray) (hl : d.Rules.length ≤ 1048576) : m_s_RuleAt N d v = some (ruleAt d.Rules v) := by
 unfold m_s_RuleAt ruleAt
 have a := findloop (m_s_RuleAt_l1 N d v) d.Rules (by omega) (fun x => seq x.Name v) (fun n i x hx _ hc hw => by simp only [m_s_RuleAt_l1, hc, if_true, hx, Option.bind_some, hw]) (fun n i hc => by simp only [m_s_RuleAt_l1, hc, Bool.false_eq_true, if_false]) N 0 (by omega) (by omega)
 rw [show ((0 : Nat) : Int) = 0 from rfl, List.drop_zero] at a
 rw [a]
 cases d.Rules.findIdx? (fun r => seq r.Name v) <;> simp
theorem at_i {N : Nat} (hN : 1099000000000 ≤ N) (d : TDef) (v : ByteArray) (hl : d.Rules.length ≤ 1048576) : m_i_RuleAt N d v = some (ruleAt d.Rules v) := by
 unfold m_i_RuleAt m_sl_IndexFunc_Si_Rule_i_Rule ruleAt
 have b := findloop (m_sl_IndexFunc_Si_Rule_i_Rule_l1 N d.Rules (fun a0 => m_i_RuleAt_c1 N a0 v)) d.Rules (by omega) (fun x => seq x.Name v) (fun n i x hx _ hc hw => by simp only [m_sl_IndexFunc_Si_Rule_i_Rule_l1, m_i_RuleAt_c1, hc, if_true, hx, Option.bind_some, hw]) (fun n i hc => by simp only [m_sl_IndexFunc_Si_Rule_i_Rule_l1, hc, Bool.false_eq_true, if_false]) N 0 (by omega) (by omega)
 rw [show ((0 : Nat) : Int) = 0 from rfl, List.drop_zero] at b
 rw [b]
 cases d.Rules.findIdx? (fun r => seq r.Name v) <;> simp
def rulesFrom (all : List TRule) : Nat → List TRule → Bool
 | _, [] => true
 | i, r :: t => okRule r && (decide (ruleAt all r.Name = (i : Int)) && rulesFrom all (i + 1) t)
def okDef (d : TDef) : Bool := okName d.Name && ((decide (1 ≤ d.Rules.length) && decide (d.Rules.length ≤ 12)) && rulesFrom d.Rules 0 d.Rules)
def SzDef (d : TDef) : Prop := d.Name.size ≤ 1048576 ∧ d.Rules.length ≤ 1048576 ∧ ∀ r ∈ d.Rules, SzRule r
theorem def_i {N : Nat} (hN : 1099000000000 ≤ N) (d : TDef) (h : SzDef d) : m_i_DefOk N d = some (okDef d) := by
 obtain ⟨h1, h2, h3⟩ := h
 have lp : ∀ (n i : Nat), i ≤ d.Rules.length → d.Rules.length - i < n → m_i_DefOk_l1 N d n i = some (rulesFrom d.Rules i (d.Rules.drop i)) := by
  intro n
  induction n with
  | zero => intro i _ h; omega
  | succ n ih =>
   intro i hi hn
   by_cases hlt : i < d.Rules.length
   ·have c1 : decide ((i : Int) < (d.Rules.length : Int)) = true := decide_eq_true (by omega)
    rw [List.drop_eq_getElem_cons hlt]
    simp only [m_i_DefOk_l1, c1, if_true, idx_nat_lt hlt, Option.bind_some, rule_i hN _ (h3 _ (List.getElem_mem hlt)), at_i hN d _ h2, wr1 i (by omega), ih (i + 1) (by omega) (by omega), rulesFrom]
    cases okRule d.Rules[i] <;> cases decide (ruleAt d.Rules d.Rules[i].Name = (i : Int)) <;> simp
   ·have c1 : decide ((i : Int) < (d.Rules.length : Int)) = false := decide_eq_false (by omega)
    rw [List.drop_of_length_le (by omega)]
    simp only [m_i_DefOk_l1, c1, Bool.false_eq_true, if_false]; rfl
 have l0 := lp N 0 (by omega) (by omega)
 have d1 : decide ((1 : Int) ≤ (d.Rules.length : Int)) = decide (1 ≤ d.Rules.length) := by rw [decide_eq_decide]; omega
 have d2 : decide ((d.Rules.length : Int) ≤ 12) = decide (d.Rules.length ≤ 12) := by rw [decide_eq_decide]; omega
 unfold m_i_DefOk okDef
 simp only [okName_i hN _ h1, Option.bind_some, in1, d1, d2]
 rw [show m_i_DefOk_l1 N d N 0 = _ from l0, List.drop_zero]
 cases okName d.Name <;> cases (decide (1 ≤ d.Rules.length) && decide (d.Rules.length ≤ 12)) <;> rfl
theorem def_s {N : Nat} (hN : 1099000000000 ≤ N) (d : TDef) (h : SzDef d) : m_s_DefOk N d = some (okDef d) := by
 obtain ⟨h1, h2, h3⟩ := h
 have d1 : decide ((1 : Int) ≤ (d.Rules.length : Int)) = decide (1 ≤ d.Rules.length) := by rw [decide_eq_decide]; omega
 have d2 : decide ((d.Rules.length : Int) ≤ 12) = decide (d.Rules.length ≤ 12) := by rw [decide_eq_decide]; omega
 have lp : ∀ (n i : Nat), i ≤ d.Rules.length → d.Rules.length - i < n → m_s_DefOk_l1 N d n i = some (rulesFrom d.Rules i (d.Rules.drop i) && (okName d.Name && (decide (1 ≤ d.Rules.length) && decide (d.Rules.length ≤ 12)))) := by
  intro n
  induction n with
  | zero => intro i _ h; omega
  | succ n ih =>
   intro i hi hn
   by_cases hlt : i < d.Rules.length
   ·have c1 : decide ((i : Int) < (d.Rules.length : Int)) = true := decide_eq_true (by omega)
    rw [List.drop_eq_getElem_cons hlt]
    simp only [m_s_DefOk_l1, c1, if_true, idx_nat_lt hlt, Option.bind_some, rule_s hN _ (h3 _ (List.getElem_mem hlt)), at_s hN d _ h2, wr1 i (by omega), ih (i + 1) (by omega) (by omega), rulesFrom]
    cases okRule d.Rules[i] <;> cases decide (ruleAt d.Rules d.Rules[i].Name = (i : Int)) <;> simp
   ·have c1 : decide ((i : Int) < (d.Rules.length : Int)) = false := decide_eq_false (by omega)
    rw [List.drop_of_length_le (by omega)]
    simp only [m_s_DefOk_l1, c1, Bool.false_eq_true, if_false, okName_s hN _ h1, in0, Option.bind_some, d1, d2, andS, rulesFrom, Bool.true_and]
 have l0 := lp N 0 (by omega) (by omega)
 unfold m_s_DefOk okDef
 rw [show m_s_DefOk_l1 N d N 0 = _ from l0, List.drop_zero]
 cases rulesFrom d.Rules 0 d.Rules <;> simp
theorem okDef_rule {d : TDef} (h : okDef d = true) : ∀ r ∈ d.Rules, okRule r = true := by
 unfold okDef at h
 simp only [Bool.and_eq_true] at h
 have : ∀ (l : List TRule) (i : Nat), rulesFrom d.Rules i l = true → ∀ r ∈ l, okRule r = true := by
  intro l
  induction l with
  | nil => intro i _ r hr; cases hr
  | cons x t ih =>
   intro i hi r hr
   unfold rulesFrom at hi
   simp only [Bool.and_eq_true] at hi
   rcases List.mem_cons.1 hr with rfl | hr
   ·exact hi.1
   ·exact ih _ hi.2.2 r hr
 exact this _ _ h.2.2
def placeOf (as : List TAlpha) (a : TAlpha) : Int × List TAlpha := match as.findIdx? (fun x => decide (x = a)) with | some j => ((j : Int), as) | none => ((as.length : Int), as ++ [a])
def addPats : List TAlpha → List Int → List Int → List TPat → List TAlpha × List Int × List Int
 | as, p, n, [] => (as, p, n)
 | as, p, n, x :: t => if x.Not then addPats (placeOf as (alphaOf x)).2 p (n ++ [(placeOf as (alphaOf x)).1]) t else addPats (placeOf as (alphaOf x)).2 (p ++ [(placeOf as (alphaOf x)).1]) n t
def addRules : List TAlpha → List TChain → List TRule → TNet
 | as, cs, [] => ⟨as, cs⟩
 | as, cs, r :: t => addRules (addPats as [] [] r.Pats).1 (cs ++ [⟨(addPats as [] [] r.Pats).2.1, (addPats as [] [] r.Pats).2.2⟩]) t
def netOf (d : TDef) : TNet := addRules [] [] d.Rules
theorem alphaOf_sz {p : TPat} (h : p.Args.length ≤ 1048576) : SzAlpha (alphaOf p) := by
 have h1 := consts_len p.Args
 have h2 := ats_len p.Args 0
 exact ⟨by show (consts p.Args).length ≤ _; omega, by show (ats 0 p.Args).length ≤ _; omega⟩
theorem placeOf_len (as : List TAlpha) (a : TAlpha) : (placeOf as a).2.length ≤ as.length + 1 ∧ as.length ≤ (placeOf as a).2.length := by
 unfold placeOf
 split <;> simp
theorem placeOf_all {P : TAlpha → Prop} {as : List TAlpha} {a : TAlpha} (h : ∀ x ∈ as, P x) (ha : P a) : ∀ x ∈ (placeOf as a).2, P x := by
 unfold placeOf
 split
 ·exact h
 ·intro x hx
  rcases List.mem_append.1 hx with h1 | h1
  ·exact h x h1
  ·simp at h1; rw [h1]; exact ha
theorem addPats_all {P : TAlpha → Prop} : ∀ (t : List TPat) (as : List TAlpha) (p n : List Int), (∀ x ∈ as, P x) → (∀ x ∈ t, P (alphaOf x)) → ∀ x ∈ (addPats as p n t).1, P x
 | [], as, p, n, h, _ => h
 | x :: t, as, p, n, h, ht => by
  unfold addPats
  have := placeOf_all h (ht x (by simp))
  split
  ·exact addPats_all t _ _ _ this fun y hy => ht y (by simp [hy])
  ·exact addPats_all t _ _ _ this fun y hy => ht y (by simp [hy])
theorem addPats_len : ∀ (t : List TPat) (as : List TAlpha) (p n : List Int), (addPats as p n t).1.length ≤ as.length + t.length ∧ (addPats as p n t).2.1.length + (addPats as p n t).2.2.length = p.length + n.length + t.length
 | [], as, p, n => by simp [addPats]
 | x :: t, as, p, n => by
  have h1 := (placeOf_len as (alphaOf x)).1
  unfold addPats
  split
  ·have := addPats_len t (placeOf as (alphaOf x)).2 p (n ++ [(placeOf as (alphaOf x)).1])
   simp only [List.length_append, List.length_cons, List.length_nil] at this ⊢
   omega
  ·have := addPats_len t (placeOf as (alphaOf x)).2 (p ++ [(placeOf as (alphaOf x)).1]) n
   simp only [List.length_append, List.length_cons, List.length_nil] at this ⊢
   omega
def nPats (l : List TRule) : Nat := (l.map fun r => r.Pats.length).sum
theorem nPats_cons (r : TRule) (t : List TRule) : nPats (r :: t) = r.Pats.length + nPats t := by simp [nPats]
def SzNetD (rs : List TRule) : Prop := rs.length ≤ 1048576 ∧ nPats rs ≤ 1048576 ∧ ∀ r ∈ rs, ∀ p ∈ r.Pats, p.Args.length ≤ 1048576
theorem nPats_le {B : Nat} : ∀ {l : List TRule}, (∀ r ∈ l, r.Pats.length ≤ B) → nPats l ≤ l.length * B
 | [], _ => by simp [nPats]
 | p :: t, h => by
  have h1 := nPats_le (l := t) fun q hq => h q (by simp [hq])
  have h2 := h p (by simp)
  rw [nPats_cons, List.length_cons, Nat.succ_mul]; omega
theorem patsFrom_all {c : Nat} : ∀ (l : List TPat) (i : Nat), patsFrom c i l = true → ∀ p ∈ l, okPat p = true
 | [], _, _, p, hp => by cases hp
 | x :: t, i, h, p, hp => by
  unfold patsFrom at h
  simp only [Bool.and_eq_true] at h
  rcases List.mem_cons.1 hp with rfl | hp
  ·exact h.1
  ·exact patsFrom_all t _ h.2.2 p hp
theorem okDef_net {d : TDef} (hd : okDef d = true) : SzNetD d.Rules := by
 have h1 : d.Rules.length ≤ 12 := by
  unfold okDef at hd
  simp only [Bool.and_eq_true, decide_eq_true_eq] at hd
  exact hd.2.1.2
 have h2 : ∀ r ∈ d.Rules, okPats r.Pats = true := fun r hr => by
  have := okDef_rule hd r hr
  unfold okRule at this
  simp only [Bool.and_eq_true] at this
  exact this.2.2.1
 have h3 : ∀ r ∈ d.Rules, r.Pats.length ≤ 6 := fun r hr => by
  have := h2 r hr
  unfold okPats at this
  simp only [Bool.and_eq_true, decide_eq_true_eq] at this
  exact this.1.2
 have h4 := nPats_le h3
 refine ⟨by omega, by omega, fun r hr p hp => ?_⟩
 have := h2 r hr
 unfold okPats at this
 simp only [Bool.and_eq_true, decide_eq_true_eq] at this
 have h5 := patsFrom_all _ _ this.2.2 p hp
 unfold okPat at h5
 simp only [Bool.and_eq_true, decide_eq_true_eq] at h5
 omega
theorem filt_len : ∀ (l : List TPat), (l.filter fun x => !x.Not).length + (l.filter fun x => x.Not).length = l.length
 | [] => rfl
 | p :: t => by
  have := filt_len t
  simp only [List.filter_cons]
  cases p.Not <;> simp <;> omega
theorem filt_count : ∀ (l : List TPat), (l.filter fun x => !x.Not).length = posCount l
 | [] => rfl
 | p :: t => by
  have := filt_count t
  simp only [List.filter_cons, posCount]
  cases p.Not <;> simp [this]
theorem patsFrom_filt {c : Nat} : ∀ (l : List TPat) (i : Nat), patsFrom c i l = true → l.filter (fun x => !x.Not) = l.take (c - i)
 | [], i, _ => by simp
 | p :: t, i, h => by
  unfold patsFrom at h
  simp only [Bool.and_eq_true, beq_iff_eq] at h
  have h1 := h.2.1
  have h2 := patsFrom_filt t (i + 1) h.2.2
  by_cases hc : c ≤ i
  ·rw [decide_eq_true hc] at h1
   have e1 : c - i = 0 := by omega
   have e2 : c - (i + 1) = 0 := by omega
   rw [e1, List.take_zero, List.filter_cons, h1]
   rw [e2, List.take_zero] at h2
   simpa using h2
  ·rw [decide_eq_false hc] at h1
   obtain ⟨k, hk⟩ : ∃ k, c - i = k + 1 := ⟨c - i - 1, by omega⟩
   have e2 : c - (i + 1) = k := by omega
   rw [hk, List.take_succ_cons, List.filter_cons, h1, ← e2, ← h2]
   simp
theorem okPats_filt {l : List TPat} (h : okPats l = true) : l.filter (fun x => !x.Not) = l.take (posCount l) := by
 unfold okPats at h
 simp only [Bool.and_eq_true] at h
 have := patsFrom_filt l 0 h.2.2
 simpa using this
def SzNet (n : TNet) : Prop := (n.Alphas.length ≤ 1048576 ∧ ∀ a ∈ n.Alphas, SzAlpha a) ∧ n.Chains.length ≤ 1048576 ∧ ∀ c ∈ n.Chains, c.Pos.length ≤ 1048576 ∧ c.Neg.length ≤ 1048576
theorem placeOf_idx {as : List TAlpha} {a : TAlpha} (hl : as.length ≤ 4611686018427387900) : idx (placeOf as a).2 (placeOf as a).1 = some a := by
 unfold placeOf
 split
 ·rename_i j h
  rw [List.findIdx?_eq_some_iff_getElem] at h
  obtain ⟨hj, h1, _⟩ := h
  simp only [idx_nat_lt hj]
  simpa using h1
 ·simp only
  rw [idx_nat_lt (by simp)]
  simp
theorem idx_app {α : Type} {xs ys : List α} {i : Int} {a : α} (h : idx xs i = some a) : idx (xs ++ ys) i = some a := by
 obtain ⟨h0, h1, e⟩ := idx_some h
 unfold idx
 rw [if_pos h0, List.getElem?_append_left (by omega)]
 exact e
theorem placeOf_ext (as : List TAlpha) (a : TAlpha) : ∃ u, (placeOf as a).2 = as ++ u := by
 unfold placeOf
 split
 ·exact ⟨[], by simp⟩
 ·exact ⟨[a], rfl⟩
theorem placeOf_nodup {as : List TAlpha} {a : TAlpha} (h : as.Nodup) : (placeOf as a).2.Nodup := by
 unfold placeOf
 split
 ·exact h
 ·rename_i hn
  rw [List.findIdx?_eq_none_iff] at hn
  refine List.nodup_append.2 ⟨h, by simp, ?_⟩
  intro x hx y hy hxy
  simp at hy; subst hy; subst hxy
  have := hn x hx
  simp at this
def At (A : List TAlpha) : List Int → List TPat → Prop
 | [], [] => True
 | i :: l, p :: t => idx A i = some (alphaOf p) ∧ At A l t
 | _, _ => False
theorem At.ext {A u : List TAlpha} : ∀ {l : List Int} {t : List TPat}, At A l t → At (A ++ u) l t
 | [], [], _ => trivial
 | i :: l, p :: t, h => ⟨idx_app h.1, h.2.ext⟩
theorem At.snoc {A : List TAlpha} {i : Int} {p : TPat} (h2 : idx A i = some (alphaOf p)) : ∀ {l : List Int} {t : List TPat}, At A l t → At A (l ++ [i]) (t ++ [p])
 | [], [], _ => ⟨h2, trivial⟩
 | i :: l, p :: t, h => ⟨h.1, h.2.snoc h2⟩
theorem At.len {A : List TAlpha} : ∀ {l : List Int} {t : List TPat}, At A l t → l.length = t.length
 | [], [], _ => rfl
 | i :: l, p :: t, h => by simp [h.2.len]
theorem At.get {A : List TAlpha} : ∀ {l : List Int} {t : List TPat}, At A l t → ∀ (k : Nat) (h1 : k < l.length) (h2 : k < t.length), idx A l[k] = some (alphaOf t[k])
 | [], [], _, k, h1, _ => by simp at h1
 | i :: l, p :: t, h, 0, _, _ => h.1
 | i :: l, p :: t, h, k + 1, h1, h2 => h.2.get k (by simpa using h1) (by simpa using h2)
theorem addPats_at : ∀ (t : List TPat) (as : List TAlpha) (p n : List Int) (pp nn : List TPat), as.length + t.length ≤ 4194304 → as.Nodup → At as p pp → At as n nn →
  (∃ u, (addPats as p n t).1 = as ++ u) ∧ (addPats as p n t).1.Nodup ∧ At (addPats as p n t).1 (addPats as p n t).2.1 (pp ++ t.filter fun x => !x.Not) ∧ At (addPats as p n t).1 (addPats as p n t).2.2 (nn ++ t.filter fun x => x.Not)
 | [], as, p, n, pp, nn, _, hd, h1, h2 => ⟨⟨[], by simp [addPats]⟩, hd, by simpa [addPats] using h1, by simpa [addPats] using h2⟩
 | x :: t, as, p, n, pp, nn, hl, hd, h1, h2 => by
  simp only [List.length_cons] at hl
  obtain ⟨u, hu⟩ := placeOf_ext as (alphaOf x)
  have hpl := (placeOf_len as (alphaOf x)).1
  have hid := placeOf_idx (as := as) (a := alphaOf x) (by omega)
  have hnd := placeOf_nodup (a := alphaOf x) hd
  have h1' : At (placeOf as (alphaOf x)).2 p pp := by rw [hu]; exact h1.ext
  have h2' : At (placeOf as (alphaOf x)).2 n nn := by rw [hu]; exact h2.ext
  unfold addPats
  cases hx : x.Not with
  | true =>
   simp only [if_true, List.filter_cons, hx, Bool.not_true, Bool.false_eq_true, if_false]
   obtain ⟨⟨w, e⟩, g1, g2, g3⟩ := addPats_at t _ p (n ++ [(placeOf as (alphaOf x)).1]) pp (nn ++ [x]) (by omega) hnd h1' (h2'.snoc hid)
   exact ⟨⟨u ++ w, by rw [e, hu, List.append_assoc]⟩, g1, g2, by simpa using g3⟩
  | false =>
   simp only [Bool.false_eq_true, if_false, List.filter_cons, hx, Bool.not_false, if_true]
   obtain ⟨⟨w, e⟩, g1, g2, g3⟩ := addPats_at t _ (p ++ [(placeOf as (alphaOf x)).1]) n (pp ++ [x]) nn (by omega) hnd (h1'.snoc hid) h2'
   exact ⟨⟨u ++ w, by rw [e, hu, List.append_assoc]⟩, g1, by simpa using g2, g3⟩
def Ats (A : List TAlpha) : List TChain → List TRule → Prop
 | [], [] => True
 | c :: l, r :: t => (At A c.Pos (r.Pats.filter fun x => !x.Not) ∧ At A c.Neg (r.Pats.filter fun x => x.Not)) ∧ Ats A l t
 | _, _ => False
theorem Ats.ext {A u : List TAlpha} : ∀ {l : List TChain} {t : List TRule}, Ats A l t → Ats (A ++ u) l t
 | [], [], _ => trivial
 | i :: l, p :: t, h => ⟨⟨h.1.1.ext, h.1.2.ext⟩, h.2.ext⟩
theorem Ats.snoc {A : List TAlpha} {c : TChain} {r : TRule} (h2 : At A c.Pos (r.Pats.filter fun x => !x.Not) ∧ At A c.Neg (r.Pats.filter fun x => x.Not)) : ∀ {l : List TChain} {t : List TRule}, Ats A l t → Ats A (l ++ [c]) (t ++ [r])
 | [], [], _ => ⟨h2, trivial⟩
 | i :: l, p :: t, h => ⟨h.1, h.2.snoc h2⟩
theorem Ats.len {A : List TAlpha} : ∀ {l : List TChain} {t : List TRule}, Ats A l t → l.length = t.length
 | [], [], _ => rfl
 | i :: l, p :: t, h => by simp [h.2.len]
theorem Ats.get {A : List TAlpha} : ∀ {l : List TChain} {t : List TRule}, Ats A l t → ∀ (k : Nat) (h1 : k < l.length) (h2 : k < t.length), At A l[k].Pos (t[k].Pats.filter fun x => !x.Not) ∧ At A l[k].Neg (t[k].Pats.filter fun x => x.Not)
 | [], [], _, k, h1, _ => by simp at h1
 | i :: l, p :: t, h, 0, _, _ => h.1
 | i :: l, p :: t, h, k + 1, h1, h2 => h.2.get k (by simpa using h1) (by simpa using h2)
theorem addRules_at : ∀ (t : List TRule) (as : List TAlpha) (cs : List TChain) (rr : List TRule), as.length + nPats t ≤ 4194304 → as.Nodup → Ats as cs rr →
  (addRules as cs t).Alphas.Nodup ∧ Ats (addRules as cs t).Alphas (addRules as cs t).Chains (rr ++ t) ∧ (addRules as cs t).Alphas.length ≤ as.length + nPats t
 | [], as, cs, rr, _, hd, h => ⟨hd, by simpa [addRules] using h, by simp [addRules, nPats]⟩
 | r :: t, as, cs, rr, hl, hd, h => by
  rw [nPats_cons] at hl
  obtain ⟨⟨u, e⟩, g1, g2, g3⟩ := addPats_at r.Pats as [] [] [] [] (by omega) hd trivial trivial
  have h4 := (addPats_len r.Pats as [] []).1
  have := addRules_at t (addPats as [] [] r.Pats).1 (cs ++ [⟨(addPats as [] [] r.Pats).2.1, (addPats as [] [] r.Pats).2.2⟩]) (rr ++ [r]) (by omega) g1 (Ats.snoc ⟨by simpa using g2, by simpa using g3⟩ (by rw [e]; exact h.ext))
  unfold addRules
  rw [nPats_cons]
  refine ⟨this.1, by simpa using this.2.1, by have := this.2.2; omega⟩
theorem netOf_at {d : TDef} (h : SzNetD d.Rules) : (netOf d).Alphas.Nodup ∧ Ats (netOf d).Alphas (netOf d).Chains d.Rules ∧ (netOf d).Alphas.length ≤ nPats d.Rules := by
 have h2 := h.2.1
 have := addRules_at d.Rules [] [] [] (by simp; omega) (by simp) trivial
 unfold netOf
 refine ⟨this.1, by simpa using this.2.1, by simpa using this.2.2⟩
theorem Ats_mem {A : List TAlpha} {l : List TChain} {t : List TRule} (h : Ats A l t) : ∀ c ∈ l, ∃ r ∈ t, c.Pos.length + c.Neg.length = r.Pats.length := by
 intro c hc
 obtain ⟨k, hk, rfl⟩ := List.getElem_of_mem hc
 have hk' : k < t.length := by rw [← h.len]; exact hk
 have := h.get k hk hk'
 exact ⟨_, List.getElem_mem hk', by rw [this.1.len, this.2.len, filt_len]⟩
theorem addRules_all {P : TAlpha → Prop} : ∀ (t : List TRule) (as : List TAlpha) (cs : List TChain), (∀ x ∈ as, P x) → (∀ r ∈ t, ∀ p ∈ r.Pats, P (alphaOf p)) → ∀ x ∈ (addRules as cs t).Alphas, P x
 | [], as, cs, h, _ => h
 | r :: t, as, cs, h, ht => by
  unfold addRules
  exact addRules_all t _ _ (addPats_all r.Pats as [] [] h (ht r (by simp))) fun q hq => ht q (by simp [hq])
theorem nPats_mem : ∀ {l : List TRule} {r : TRule}, r ∈ l → r.Pats.length ≤ nPats l
 | x :: t, r, h => by
  rw [nPats_cons]
  rcases List.mem_cons.1 h with rfl | h
  ·omega
  ·have := nPats_mem h; omega
theorem netOf_sz {d : TDef} (h : SzNetD d.Rules) : SzNet (netOf d) := by
 obtain ⟨h1, h2, h3⟩ := netOf_at h
 obtain ⟨k1, k2, k3⟩ := h
 refine ⟨⟨by omega, addRules_all d.Rules [] [] (by simp) fun r hr p hp => alphaOf_sz (k3 r hr p hp)⟩, by rw [h2.len]; exact k1, fun c hc => ?_⟩
 obtain ⟨r, hr, e⟩ := Ats_mem h2 c hc
 have := nPats_mem hr
 omega
def neg (l : List TPat) : List TPat := l.filter fun p => p.Not
def okB (xs : List TItem) (ps : List TPat) (r : List Int) : List TBind × Bool := bindsP xs (ps.take r.length) r []
def hitsT (xs : List TItem) (ns : List TPat) (l : List TBind) : List Int := ns.map fun p => (hits p l xs : Int)
def joinT (xs : List TItem) (ps ns : List TPat) (row : List Int) (id : Int) : List TTok :=
 if (okB xs ps (row ++ [id])).2 = true then [⟨row ++ [id], if row.length + 1 = ps.length then hitsT xs ns (okB xs ps (row ++ [id])).1 else []⟩] else []
def longT (xs : List TItem) (ps ns : List TPat) (row ids : List Int) : List TTok := ids.flatMap (joinT xs ps ns row)
def madeT (xs : List TItem) (ps ns : List TPat) (id : Int) (k : Nat) (B F : List TTok) (A : List Int) : List TTok :=
 if k = 0 then longT xs ps ns [] [id] else B.flatMap (fun t => longT xs ps ns t.Ids [id]) ++ F.flatMap (fun t => longT xs ps ns t.Ids A)
def growT (xs : List TItem) (ps ns : List TPat) (id : Int) (A : Nat → List Int) : Nat → List TLevel → List TTok → List TTok → List TLevel
 | _, [], _, _ => []
 | k, L :: Ls, B, F => ⟨L.Toks ++ madeT xs ps ns id k B F (A k)⟩ :: growT xs ps ns id A (k + 1) Ls L.Toks (madeT xs ps ns id k B F (A k))
def turnH (f : TFact) (l : List TBind) (by_ : Int) : List TPat → List Int → List Int
 | p :: ns, x :: h => (if (matchPat p f l).2 = true then IntKind.i64.wrap (x + by_) else x) :: turnH f l by_ ns h
 | _, h => h
def turnT (xs : List TItem) (ps ns : List TPat) (f : TFact) (by_ : Int) (toks : List TTok) : List TTok :=
 toks.map fun t => if (okB xs ps t.Ids).2 = true then ⟨t.Ids, turnH f (okB xs ps t.Ids).1 by_ ns t.Hits⟩ else t
def lets (as : List TIds) (c : TChain) (k : Nat) : List Int := match c.Pos[k]? with
 | some a => (match idx as a with
  | some i => i.L
  | none => [])
 | none => []
def turnLast (xs : List TItem) (ps ns : List TPat) (f : TFact) (by_ : Int) (row : TRow) : TRow := match row.Levels[row.Levels.length - 1]? with
 | some L => ⟨row.Levels.set (row.Levels.length - 1) ⟨turnT xs ps ns f by_ L.Toks⟩⟩
 | none => row
def ruleT (xs : List TItem) (as : List TIds) (f : TFact) (id : Int) (r : TRule) (c : TChain) (row : TRow) : TRow :=
 ⟨growT xs (pos r.Pats) (neg r.Pats) id (lets as c) 0 (turnLast xs (pos r.Pats) (neg r.Pats) f 1 row).Levels [] []⟩
def rulesT (g : TRule → TChain → TRow → TRow) : List TRule → List TChain → List TRow → List TRow
 | r :: rs, c :: cs, w :: ws => g r c w :: rulesT g rs cs ws
 | _, _, ws => ws
def alphasT (f : TFact) (id : Int) : List TAlpha → List TIds → List TIds
 | a :: as, i :: is => (if passes a f = true then ⟨i.L ++ [id]⟩ else i) :: alphasT f id as is
 | _, is => is
def addT (d : TDef) (n : TNet) (m : TMem) (s : TStore) (id : Int) : TMem :=
 ⟨alphasT (factOf s.Items id).1 id n.Alphas m.Alphas, rulesT (ruleT s.Items (alphasT (factOf s.Items id).1 id n.Alphas m.Alphas) (factOf s.Items id).1 id) d.Rules n.Chains m.Rules⟩
theorem longT_len (xs : List TItem) (ps ns : List TPat) (row : List Int) : ∀ (ids : List Int), (longT xs ps ns row ids).length ≤ ids.length
 | [] => by simp [longT]
 | v :: ids => by
  have h1 := longT_len xs ps ns row ids
  unfold longT at h1 ⊢
  rw [List.flatMap_cons, List.length_append, List.length_cons]
  have h2 : (joinT xs ps ns row v).length ≤ 1 := by unfold joinT; split <;> simp
  omega
theorem flatLong_len (xs : List TItem) (ps ns : List TPat) (ids : List Int) : ∀ (B : List TTok), (B.flatMap fun t => longT xs ps ns t.Ids ids).length ≤ B.length * ids.length
 | [] => by simp
 | t :: B => by
  have h1 := flatLong_len xs ps ns ids B
  have h2 := longT_len xs ps ns t.Ids ids
  rw [List.flatMap_cons, List.length_append, List.length_cons, Nat.succ_mul]; omega
theorem longT_ids {xs : List TItem} {ps ns : List TPat} {row ids : List Int} : ∀ t ∈ longT xs ps ns row ids, t.Ids.length = row.length + 1 ∧ t.Hits.length ≤ ns.length := by
 intro t ht
 unfold longT at ht
 obtain ⟨v, _, h⟩ := List.mem_flatMap.1 ht
 unfold joinT at h
 split at h
 ·simp only [List.mem_singleton] at h
  subst h
  refine ⟨by simp, ?_⟩
  simp only
  split
  ·simp [hitsT]
  ·simp
 ·cases h
theorem turnH_len (f : TFact) (l : List TBind) (b : Int) : ∀ (ns : List TPat) (h : List Int), (turnH f l b ns h).length = h.length
 | p :: ns, x :: h => by simp [turnH, turnH_len f l b ns h]
 | [], h => by simp [turnH]
 | p :: ns, [] => by simp [turnH]
theorem turnT_ids {xs : List TItem} {ps ns : List TPat} {f : TFact} {b : Int} (toks : List TTok) : (turnT xs ps ns f b toks).map (·.Ids) = toks.map (·.Ids) := by
 unfold turnT
 rw [List.map_map]
 apply List.map_congr_left
 intro t _
 simp only [Function.comp]
 split <;> rfl
theorem turnT_len {xs : List TItem} {ps ns : List TPat} {f : TFact} {b : Int} (toks : List TTok) : (turnT xs ps ns f b toks).length = toks.length := by simp [turnT]
theorem bindsP_take_len (xs : List TItem) (ps : List TPat) (ids : List Int) : (okB xs ps ids).1.length ≤ sumArgs ps := by
 have h1 := bindsP_len (xs := xs) (ps.take ids.length) ids []
 have h2 : sumArgs (ps.take ids.length) ≤ sumArgs ps := sumArgs_take _ _
 unfold okB
 simp at h1
 omega
theorem factOf_s {N : Nat} (hN : 1099000000000 ≤ N) (s : TStore) (v : Int) (hl : s.Items.length ≤ 1048576) (hx : ∀ x ∈ s.Items, x.F.Fields.length ≤ 1048576) : m_s_FactOf N s v = some (factOf s.Items v) := by
 unfold m_s_FactOf
 refine lp0 hN s.Items (by omega) (m_s_FactOf_l1 N s v) (fun t => some (factOf t v)) (fun n i x t h1 h2 h3 h4 h5 h6 h7 => ?_) (fun n i h1 h2 => ?_)
 ·have e : m_s_l3Copy N x.F = some x.F := by
   unfold m_s_l3Copy
   rw [app_nil (show x.F.Fields.length ≤ 4294967296 by have := hx x h2; omega)]; rfl
  simp only [m_s_FactOf_l1, h5, if_true, h4, Option.bind_some, h6, h7, e, factOf_cons]
  by_cases h : x.Id = v <;> simp [h]
 ·simp only [m_s_FactOf_l1, h2, Bool.false_eq_true, if_false]; rfl
structure SzS (r : TRule) (s : TStore) : Prop where
 pl : r.Pats.length ≤ 1048576
 sa : sumArgs r.Pats ≤ 1048576
 pa : ∀ p ∈ r.Pats, p.Args.length ≤ 1048576
 sl : s.Items.length ≤ 1048576
 fl : ∀ x ∈ s.Items, x.F.Fields.length ≤ 1048576
 fp : pos r.Pats = r.Pats.take (posCount r.Pats)
theorem binds_s {N : Nat} (hN : 1099000000000 ≤ N) (r : TRule) (s : TStore) (hz : SzS r s) (ids : List Int) (hi : ids.length ≤ posCount r.Pats) :
  ∃ l, m_s_l13Binds N r s ids = some (l, (okB s.Items (pos r.Pats) ids).2) ∧ ((okB s.Items (pos r.Pats) ids).2 = true → l = (okB s.Items (pos r.Pats) ids).1) ∧ l.length ≤ 1048576 := by
 have hpc := posCount_le r.Pats
 have hpl := hz.pl
 unfold m_s_l13Binds
 have lp : ∀ (n i : Nat) (l : List TBind), i ≤ ids.length → ids.length - i < n → l.length + sumArgs (r.Pats.drop i) ≤ 1048576 →
   ∃ q, m_s_l13Binds_l1 N r s ids n l i = some (q, (bindsP s.Items ((r.Pats.take ids.length).drop i) (ids.drop i) l).2) ∧ ((bindsP s.Items ((r.Pats.take ids.length).drop i) (ids.drop i) l).2 = true → q = (bindsP s.Items ((r.Pats.take ids.length).drop i) (ids.drop i) l).1) ∧ q.length ≤ 1048576 := by
  intro n
  induction n with
  | zero => intro i _ _ h; omega
  | succ n ih =>
   intro i l h1 hn hl
   by_cases hlt : i < ids.length
   ·have c1 : decide ((i : Int) < (ids.length : Int)) = true := decide_eq_true (by omega)
    have hlt' : i < r.Pats.length := by omega
    have hlt2 : i < (r.Pats.take ids.length).length := by rw [List.length_take]; omega
    rw [List.drop_eq_getElem_cons hlt'] at hl
    rw [sumArgs_cons] at hl
    have hml := matchPat_len r.Pats[i] (factOf s.Items ids[i]).1 l
    rw [List.drop_eq_getElem_cons hlt, List.drop_eq_getElem_cons hlt2, bindsP, List.getElem_take]
    simp only [m_s_l13Binds_l1, c1, if_true, idx_nat_lt hlt, Option.bind_some, factOf_s hN s _ hz.sl hz.fl, m_s_l13Binds_j2, idx_nat_lt hlt']
    rw [show (⟨(factOf s.Items ids[i]).1.Kind, (factOf s.Items ids[i]).1.Fields⟩ : TFact) = (factOf s.Items ids[i]).1 from rfl, match_s hN r.Pats[i] _ l (hz.pa _ (List.getElem_mem hlt')) (show l.length ≤ 2147483648 by omega)]
    simp only [Option.bind_some, wr1 i (by omega)]
    cases (factOf s.Items ids[i]).2 with
    | false => exact ⟨l, by simp, by simp, by omega⟩
    | true =>
     cases hm : (matchPat r.Pats[i] (factOf s.Items ids[i]).1 l).2 with
     | false => exact ⟨l, by simp, by simp, by omega⟩
     | true =>
      simp only [Bool.not_true, Bool.false_eq_true, if_false, and_self, if_true, Option.bind_some]
      exact ih (i + 1) _ (by omega) (by omega) (by omega)
   ·have c1 : decide ((i : Int) < (ids.length : Int)) = false := decide_eq_false (by omega)
    simp only [m_s_l13Binds_l1, c1, Bool.false_eq_true, if_false]
    rw [List.drop_of_length_le (show (r.Pats.take ids.length).length ≤ i by rw [List.length_take]; omega), List.drop_of_length_le (show ids.length ≤ i by omega)]
    exact ⟨l, by simp [bindsP], by simp [bindsP], by omega⟩
 obtain ⟨q, h1, h2, h3⟩ := lp N 0 [] (by omega) (by omega) (by simpa using hz.sa)
 have e : (pos r.Pats).take ids.length = r.Pats.take ids.length := by rw [hz.fp, List.take_take]; congr 1; omega
 unfold okB
 rw [e]
 simp only [List.drop_zero] at h1 h2
 exact ⟨q, h1, h2, h3⟩
def hitS (ns : List TPat) (f : TFact) (l : List TBind) : List Int := ns.map fun p => if (matchPat p f l).2 = true then 1 else 0
theorem hit_s {N : Nat} (hN : 1099000000000 ≤ N) (r : TRule) (f : TFact) (l : List TBind) (hp : r.Pats.length ≤ 1048576) (pa : ∀ p ∈ r.Pats, p.Args.length ≤ 1048576) (hl : l.length ≤ 1048576) : m_s_l13Hit N r f l = some (hitS (neg r.Pats) f l) := by
 unfold m_s_l13Hit
 refine (lp' hN r.Pats (by omega) (fun n (u : List Int) i => m_s_l13Hit_l1 N r f l n u i) (fun t u => some (u ++ hitS (neg t) f l)) (fun u t => u.length + t.length ≤ 1048576) [] (by simpa using hp) (fun n u i p t g1 g2 g3 g4 g5 g6 gI gh => ?_) (fun n u i g1 g2 gI => ?_)).trans (by simp)
 ·simp only [List.length_cons] at gI
  have hneg : neg (p :: t) = if p.Not then p :: neg t else neg t := by unfold neg; rw [List.filter_cons]
  simp only [m_s_l13Hit_l1, g5, if_true, g4, Option.bind_some, match_s hN p f l (pa p g2) (show l.length ≤ 2147483648 by omega)]
  rw [hneg]
  cases hn : p.Not with
  | false => simp only [Bool.false_eq_true, if_false, g6]; exact gh u (by omega)
  | true =>
   simp only [if_true]
   cases hm : (matchPat p f l).2 with
   | true =>
    simp only [if_true, m_s_l13Hit_j2, app_ok (show u.length + [(1 : Int)].length ≤ 4294967296 by simp; omega), Option.bind_some, g6]
    rw [gh _ (by simp; omega)]; simp [hitS, hm]
   | false =>
    simp only [Bool.false_eq_true, if_false, m_s_l13Hit_j2, app_ok (show u.length + [(0 : Int)].length ≤ 4294967296 by simp; omega), Option.bind_some, g6]
    rw [gh _ (by simp; omega)]; simp [hitS, hm]
 ·simp only [m_s_l13Hit_l1, g2, Bool.false_eq_true, if_false]; simp [neg, hitS]
def joinS (xs : List TItem) (ps : List TPat) (row : List Int) (id : Int) : List TTok := if (okB xs ps (row ++ [id])).2 = true then [⟨row ++ [id], []⟩] else []
theorem join_s {N : Nat} (hN : 1099000000000 ≤ N) (r : TRule) (s : TStore) (hz : SzS r s) (out : List TTok) (row : List Int) (id : Int) (hr : row.length + 1 ≤ posCount r.Pats) (ho : out.length + 1 ≤ 4294967296) :
  m_s_l13Join N out r s row id = some (out ++ joinS s.Items (pos r.Pats) row id) := by
 have hpc := posCount_le r.Pats
 have hpl := hz.pl
 obtain ⟨l, h1, h2, h3⟩ := binds_s hN r s hz (row ++ [id]) (by simp; omega)
 unfold m_s_l13Join joinS
 simp only [app_nil (show row.length ≤ 4294967296 by omega), Option.bind_some, app_ok (show row.length + [id].length ≤ 4294967296 by simp; omega), h1]
 cases (okB s.Items (pos r.Pats) (row ++ [id])).2 with
 | false => simp
 | true => simp [app_ok (show out.length + [(⟨row ++ [id], []⟩ : TTok)].length ≤ 4294967296 by simpa using ho)]
def addL : List Int → List Int → List Int
 | x :: a, y :: b => (x + y) :: addL a b
 | a, _ => a
theorem hits_snoc (ns : List TPat) (l : List TBind) (xs : List TItem) (x : TItem) : addL (hitsT xs ns l) (hitS ns x.F l) = hitsT (xs ++ [x]) ns l := by
 induction ns with
 | nil => rfl
 | cons p ns ih =>
  unfold hitsT hitS at ih ⊢
  simp only [List.map_cons, addL, ih]
  congr 1
  unfold hits
  rw [List.countP_append]
  cases hm : (matchPat p x.F l).2 with
  | true => simp [hm]
  | false => simp [hm]
theorem count_l2s {N : Nat} (s2 : Int) (K : List Int → Int → Option TTok) (x5 : List Int) (hx : x5.length ≤ 1048576) (h01 : ∀ y ∈ x5, 0 ≤ y ∧ y ≤ 1) : ∀ (b : List Int) (n : Nat) (db da a : List Int), b.length < n → x5 = db ++ b → da.length = db.length → a.length = b.length → (∀ x ∈ a, 0 ≤ x ∧ x ≤ 1048576) →
  m_s_l13Count_l2 N s2 K x5 n (da ++ a) (db.length : Int) = K (da ++ addL a b) (IntKind.i64.wrap (s2 + 1))
 | [], n, db, da, a, hn, h1, h2, h3, h4 => by
  obtain ⟨n, rfl⟩ : ∃ m, n = m + 1 := ⟨n - 1, by simp at hn; omega⟩
  have c1 : decide ((db.length : Int) < (x5.length : Int)) = false := decide_eq_false (by rw [h1]; simp)
  have : a = [] := List.length_eq_zero_iff.1 (by simpa using h3)
  subst this
  simp only [m_s_l13Count_l2, c1, Bool.false_eq_true, if_false, addL]
 | y :: b, n, db, da, [], hn, h1, h2, h3, h4 => by simp at h3
 | y :: b, n, db, da, x :: a, hn, h1, h2, h3, h4 => by
  obtain ⟨n, rfl⟩ : ∃ m, n = m + 1 := ⟨n - 1, by omega⟩
  simp only [List.length_cons] at hn h3
  have hl : x5.length = db.length + (b.length + 1) := by rw [h1]; simp
  have c1 : decide ((db.length : Int) < (x5.length : Int)) = true := decide_eq_true (by omega)
  have e1 : idx x5 (db.length : Int) = some y := by rw [h1, idx_nat]; simp
  have e2 : idx (da ++ x :: a) (db.length : Int) = some x := by rw [← h2, idx_nat]; simp
  have hx1 := h4 x (by simp)
  have hy1 := h01 y (by rw [h1]; simp)
  have e3 : IntKind.i64.wrap (x + y) = x + y := wr (by omega) (by omega)
  have e4 : (da ++ x :: a).set ((db.length : Int)).toNat (x + y) = (da ++ [x + y]) ++ a := by
   rw [Int.toNat_natCast, ← h2, List.set_append_right _ _ (Nat.le_refl _), Nat.sub_self, List.set_cons_zero, List.append_assoc]; rfl
  simp only [m_s_l13Count_l2, c1, if_true, e1, e2, Option.bind_some, e3, e4, wr1 db.length (by omega)]
  have := count_l2s (N := N) s2 K x5 hx h01 b n (db ++ [y]) (da ++ [x + y]) a (by omega) (by rw [h1]; simp) (by simp [h2]) (by omega) (fun z hz => h4 z (by simp [hz]))
  simp only [List.length_append, List.length_cons, List.length_nil, Nat.zero_add] at this
  rw [this, addL]
  simp
theorem count_s' {N : Nat} (hN : 1099000000000 ≤ N) (r : TRule) (s : TStore) (hz : SzS r s) (t : TTok) (ht : t.Ids.length ≤ posCount r.Pats) (hok : (okB s.Items (pos r.Pats) t.Ids).2 = true) :
  m_s_l13Count N r s t = some ⟨t.Ids, hitsT s.Items (neg r.Pats) (okB s.Items (pos r.Pats) t.Ids).1⟩ := by
 have hpc := posCount_le r.Pats
 have hpl := hz.pl
 have hsl := hz.sl
 obtain ⟨l, h1, h2, h3⟩ := binds_s hN r s hz t.Ids ht
 obtain rfl := h2 hok
 have hn1 := filt_len r.Pats
 have hn2 := filt_count r.Pats
 have hnl : (neg r.Pats).length = r.Pats.length - posCount r.Pats := by unfold neg; omega
 have ew : IntKind.i64.wrap ((r.Pats.length : Int) - (posCount r.Pats : Int)) = ((r.Pats.length - posCount r.Pats : Nat) : Int) := by
  rw [show ((r.Pats.length : Int) - (posCount r.Pats : Int)) = ((r.Pats.length - posCount r.Pats : Nat) : Int) by omega]
  exact wr (by omega) (by omega)
 unfold m_s_l13Count
 rw [h1, Option.bind_some, count_s hN r hz.pl, Option.bind_some, ew, mk_nat _ (by omega), Option.bind_some]
 have e0 : List.replicate (r.Pats.length - posCount r.Pats) (0 : Int) = hitsT [] (neg r.Pats) (okB s.Items (pos r.Pats) t.Ids).1 := by
  rw [← hnl]
  unfold hitsT hits
  apply List.ext_getElem
  ·simp
  ·intro i h1 h2; simp
 rw [e0]
 have lp : ∀ (zs : List TItem) (n : Nat) (dz : List TItem), zs.length < n → s.Items = dz ++ zs →
   m_s_l13Count_l1 N r s t ((okB s.Items (pos r.Pats) t.Ids).1, (okB s.Items (pos r.Pats) t.Ids).2) n (hitsT dz (neg r.Pats) (okB s.Items (pos r.Pats) t.Ids).1) (dz.length : Int) = some ⟨t.Ids, hitsT s.Items (neg r.Pats) (okB s.Items (pos r.Pats) t.Ids).1⟩ := by
  intro zs
  induction zs with
  | nil =>
   intro n dz hn he
   obtain ⟨n, rfl⟩ : ∃ m, n = m + 1 := ⟨n - 1, by simp at hn; omega⟩
   have he' : s.Items = dz := by simpa using he
   have c1 : decide ((dz.length : Int) < (s.Items.length : Int)) = false := decide_eq_false (by rw [he']; simp)
   simp only [m_s_l13Count_l1, c1, Bool.false_eq_true, if_false]
   rw [← he']
  | cons z zs ih =>
   intro n dz hn he
   obtain ⟨n, rfl⟩ : ∃ m, n = m + 1 := ⟨n - 1, by omega⟩
   simp only [List.length_cons] at hn
   have hl : s.Items.length = dz.length + (zs.length + 1) := by rw [he]; simp
   have c1 : decide ((dz.length : Int) < (s.Items.length : Int)) = true := decide_eq_true (by omega)
   have e1 : idx s.Items (dz.length : Int) = some z := by rw [he, idx_nat]; simp
   simp only [m_s_l13Count_l1, c1, if_true, e1, Option.bind_some, hit_s hN r z.F _ hz.pl hz.pa h3]
   have h4 := count_l2s (N := N) (dz.length : Int) (m_s_l13Count_l1 N r s t ((okB s.Items (pos r.Pats) t.Ids).1, (okB s.Items (pos r.Pats) t.Ids).2) n) (hitS (neg r.Pats) z.F (okB s.Items (pos r.Pats) t.Ids).1) (by simp [hitS]; omega)
    (fun y hy => by unfold hitS at hy; obtain ⟨p, _, rfl⟩ := List.mem_map.1 hy; split <;> omega) (hitS (neg r.Pats) z.F (okB s.Items (pos r.Pats) t.Ids).1) N [] [] (hitsT dz (neg r.Pats) (okB s.Items (pos r.Pats) t.Ids).1) (by simp [hitS]; omega) rfl rfl (by simp [hitS, hitsT])
    (fun y hy => by unfold hitsT at hy; obtain ⟨p, _, rfl⟩ := List.mem_map.1 hy; have := hits_le p (okB s.Items (pos r.Pats) t.Ids).1 dz; omega)
   simp only [List.nil_append, List.length_nil, Int.natCast_zero] at h4
   have h4' : m_s_l13Count_l2 N (dz.length : Int) (m_s_l13Count_l1 N r s t ((okB s.Items (pos r.Pats) t.Ids).1, (okB s.Items (pos r.Pats) t.Ids).2) n) (hitS (neg r.Pats) z.F (okB s.Items (pos r.Pats) t.Ids).1) N (hitsT dz (neg r.Pats) (okB s.Items (pos r.Pats) t.Ids).1) 0 = _ := h4
   rw [h4', hits_snoc, wr1 dz.length (by omega)]
   have := ih n (dz ++ [z]) (by omega) (by rw [he]; simp)
   simp only [List.length_append, List.length_cons, List.length_nil, Nat.zero_add] at this
   exact this
 have := lp s.Items N [] (by omega) rfl
 simpa using this
theorem look_i {N : Nat} (hN : 1099000000000 ≤ N) (p : List TBind) (n : ByteArray) (hl : p.length ≤ 4294967296) : m_i_BindOf N p n = some (look p n) := by
 unfold m_i_BindOf
 have : ∀ (k i : Nat), i ≤ p.length → p.length - i < k → m_i_BindOf_l1 N p n k i = some (look (p.drop i) n) := by
  intro k
  induction k with
  | zero => intro i _ h; omega
  | succ k ih =>
   intro i hi hk
   simp only [m_i_BindOf_l1]
   by_cases hlt : i < p.length
   ·have c1 : decide ((i : Int) < (p.length : Int)) = true := decide_eq_true (by omega)
    rw [List.drop_eq_getElem_cons hlt, look_cons]
    simp only [c1, if_true, idx_nat_lt hlt, Option.bind_some, wr1 i (by omega), ih (i + 1) (by omega) (by omega)]
    cases seq p[i].Name n <;> rfl
   ·have c1 : decide ((i : Int) < (p.length : Int)) = false := decide_eq_false (by omega)
    simp only [c1, Bool.false_eq_true, if_false]
    rw [List.drop_of_length_le (by omega)]; rfl
 exact this N 0 (by omega) (by omega)
theorem match_loopI {N : Nat} (hN : 1099000000000 ≤ N) (p : TPat) (f : TFact) (b : List TBind) (he : p.Args.length = f.Fields.length) (hl : p.Args.length ≤ 1048576) (hb : b.length ≤ 2147483648) : ∀ (n i : Nat) (s : List TBind), i ≤ p.Args.length → p.Args.length - i < n → s.length ≤ 2147483648 + i →
  m_i_MatchPat_l1 N p f b n s i = some (matchArgs b (p.Args.drop i) (f.Fields.drop i) s) := by
 intro n
 induction n with
 | zero => intro i s _ h; omega
 | succ n ih =>
  intro i s hi hn hs
  simp only [m_i_MatchPat_l1]
  by_cases hlt : i < p.Args.length
  ·have c1 : decide ((i : Int) < (p.Args.length : Int)) = true := decide_eq_true (by omega)
   have hlt' : i < f.Fields.length := by omega
   rw [List.drop_eq_getElem_cons hlt, List.drop_eq_getElem_cons hlt', matchArgs]
   simp only [c1, if_true, idx_nat_lt hlt, idx_nat_lt hlt', Option.bind_some, look_i hN s _ (show s.length ≤ 4294967296 by omega), m_sl_Clone_Si_Bind_i_Bind, app_nil (show b.length ≤ 4294967296 by omega), app_ok (show s.length + [(⟨p.Args[i].S, f.Fields[i]⟩ : TBind)].length ≤ 4294967296 by simp; omega), wr1 i (by omega), andS, orS]
   have ih1 := ih (i + 1) s (by omega) (by omega) (by omega)
   have ih2 := ih (i + 1) (s ++ [⟨p.Args[i].S, f.Fields[i]⟩]) (by omega) (by omega) (by simp; omega)
   by_cases k2 : p.Args[i].K = 2
   ·have k1 : ¬ p.Args[i].K = 1 := by omega
    simp only [k2, k1, decide_true, decide_false, if_true, if_false, Bool.true_and, Bool.false_and, Bool.or_false, Bool.false_eq_true, Option.bind_some, show ¬ (2 : Int) = 1 by omega]
    cases eqT_TVal p.Args[i].V f.Fields[i] with
    | true => simpa using ih1
    | false => simp
   ·by_cases k1 : p.Args[i].K = 1
    ·simp only [k1, decide_true, decide_false, if_true, if_false, Bool.true_and, Bool.false_and, Bool.false_or, Bool.false_eq_true, Option.bind_some, show ¬ (1 : Int) = 2 by omega]
     cases (look s p.Args[i].S).2 with
     | true =>
      simp only [if_true, Bool.not_true, Bool.true_and, Bool.false_eq_true, if_false]
      cases eqT_TVal (look s p.Args[i].S).1 f.Fields[i] with
      | true => simpa using ih1
      | false => simp
     | false => simpa using ih2
    ·simp only [k1, k2, decide_false, if_false, Bool.false_and, Bool.false_or, Bool.or_false, Bool.false_eq_true, Option.bind_some]
     simpa using ih1
  ·have c1 : decide ((i : Int) < (p.Args.length : Int)) = false := decide_eq_false (by omega)
   simp only [c1, Bool.false_eq_true, if_false]
   rw [List.drop_of_length_le (by omega)]
   rfl
theorem seq_comm' (a b : ByteArray) : seq a b = seq b a := by rw [seq_eq, seq_eq]; simp [eq_comm]
theorem match_i {N : Nat} (hN : 1099000000000 ≤ N) (p : TPat) (f : TFact) (b : List TBind) (hl : p.Args.length ≤ 1048576) (hb : b.length ≤ 2147483648) : m_i_MatchPat N p f b = some (matchPat p f b) := by
 unfold m_i_MatchPat matchPat m_sl_Clone_Si_Bind_i_Bind
 rw [app_nil (by omega), seq_comm' f.Kind p.Kind]
 simp only [Option.bind_some, orS]
 cases hk : seq p.Kind f.Kind with
 | false => simp
 | true =>
  by_cases he : p.Args.length = f.Fields.length
  ·have he' : decide ((f.Fields.length : Int) = (p.Args.length : Int)) = true := decide_eq_true (by omega)
   have := (match_loopI hN p f b he hl hb N 0 b (by omega) (by omega) (by omega))
   simp only [he', he, Bool.not_true, Bool.or_false, Bool.false_eq_true, if_false, true_and, if_true]
   simpa using this
  ·have he' : decide ((f.Fields.length : Int) = (p.Args.length : Int)) = false := decide_eq_false (by omega)
   simp [he', he]
theorem factOf_i {N : Nat} (hN : 1099000000000 ≤ N) (s : TStore) (v : Int) (hl : s.Items.length ≤ 1048576) (hx : ∀ x ∈ s.Items, x.F.Fields.length ≤ 1048576) : m_i_FactOf N s v = some (factOf s.Items v) := by
 unfold m_i_FactOf
 refine lp0 hN s.Items (by omega) (m_i_FactOf_l1 N s v) (fun t => some (factOf t v)) (fun n i x t h1 h2 h3 h4 h5 h6 h7 => ?_) (fun n i h1 h2 => ?_)
 ·have e : m_i_copyFact N x.F = some x.F := by
   unfold m_i_copyFact m_sl_Clone_Si_Val_i_Val
   rw [app_nil (show x.F.Fields.length ≤ 4294967296 by have := hx x h2; omega)]; rfl
  simp only [m_i_FactOf_l1, h5, if_true, h4, Option.bind_some, h6, h7, e, factOf_cons]
  by_cases h : x.Id = v <;> simp [h]
 ·simp only [m_i_FactOf_l1, h2, Bool.false_eq_true, if_false]; rfl
theorem bindsT_i {N : Nat} (hN : 1099000000000 ≤ N) (ps : List TPat) (s : TStore) (ids : List Int) (ha : sumArgs ps ≤ 1048576) (hp : ∀ p ∈ ps, p.Args.length ≤ 1048576) (hs : s.Items.length ≤ 1048576) (hx : ∀ x ∈ s.Items, x.F.Fields.length ≤ 1048576) (hi : ids.length ≤ 1048576) (he : ids.length ≤ ps.length) :
  m_i_bindsOf N ps s ids = some (bindsP s.Items (ps.take ids.length) ids []) := by
 unfold m_i_bindsOf
 have lp : ∀ (n i : Nat) (l : List TBind), i ≤ ids.length → ids.length - i < n → l.length + sumArgs (ps.drop i) ≤ 1048576 → m_i_bindsOf_l1 N ps s ids n l i = some (bindsP s.Items ((ps.take ids.length).drop i) (ids.drop i) l) := by
  intro n
  induction n with
  | zero => intro i _ _ h; omega
  | succ n ih =>
   intro i l h1 hn hl
   by_cases hlt : i < ids.length
   ·have c1 : decide ((i : Int) < (ids.length : Int)) = true := decide_eq_true (by omega)
    have hlt' : i < ps.length := by omega
    have hlt2 : i < (ps.take ids.length).length := by rw [List.length_take]; omega
    rw [List.drop_eq_getElem_cons hlt'] at hl
    rw [sumArgs_cons] at hl
    have hml := matchPat_len ps[i] (factOf s.Items ids[i]).1 l
    rw [List.drop_eq_getElem_cons hlt, List.drop_eq_getElem_cons hlt2, bindsP, List.getElem_take]
    simp only [m_i_bindsOf_l1, c1, if_true, idx_nat_lt hlt, idx_nat_lt hlt', Option.bind_some, factOf_i hN s _ hs hx, match_i hN ps[i] _ l (hp _ (List.getElem_mem hlt')) (show l.length ≤ 2147483648 by omega), wr1 i (by omega)]
    cases (factOf s.Items ids[i]).2 with
    | false => simp
    | true =>
     cases (matchPat ps[i] (factOf s.Items ids[i]).1 l).2 with
     | false => simp
     | true =>
      simp only [Bool.not_true, Bool.false_eq_true, if_false, and_self, if_true]
      exact ih (i + 1) _ (by omega) (by omega) (by omega)
   ·have c1 : decide ((i : Int) < (ids.length : Int)) = false := decide_eq_false (by omega)
    simp only [m_i_bindsOf_l1, c1, Bool.false_eq_true, if_false]
    rw [List.drop_of_length_le (show (ps.take ids.length).length ≤ i by rw [List.length_take]; omega), List.drop_of_length_le (show ids.length ≤ i by omega)]; rfl
 have := lp N 0 [] (by omega) (by omega) (by simpa using ha)
 simpa using this
theorem hits_i {N : Nat} (hN : 1099000000000 ≤ N) (p : TPat) (s : TStore) (l : List TBind) (hp : p.Args.length ≤ 1048576) (hs : s.Items.length ≤ 1048576) (hb : l.length ≤ 2147483648) : m_i_hitsIn N p s l = some (hits p l s.Items : Int) := by
 unfold m_i_hitsIn
 have := lp' hN s.Items (by omega) (m_i_hitsIn_l1 N p s l) (fun t k => some (k + (hits p l t : Int))) (fun k t => 0 ≤ k ∧ k + t.length ≤ 1048576) (0 : Int) (by simp; omega) (fun n k i x t h1 h2 h3 h4 h5 h6 hI ih => by
  simp only [List.length_cons] at hI
  simp only [m_i_hitsIn_l1, h5, if_true, h4, Option.bind_some, match_i hN p x.F l hp hb, h6]
  unfold hits at ih ⊢
  rw [List.countP_cons]
  cases (matchPat p x.F l).2 with
  | true =>
   rw [wr (n := k + 1) (by omega) (by omega)]
   simp only [if_true, ih (k + 1) (by omega)]; congr 1; omega
  | false => simpa using ih k (by omega)) (fun n k i h1 h2 hI => by simp only [m_i_hitsIn_l1, h2, Bool.false_eq_true, if_false, hits]; simp)
 simpa using this
structure SzG (g : Tgrower) : Prop where
 pl : g.pos.length ≤ 1048576
 sa : sumArgs g.pos ≤ 1048576
 pa : ∀ p ∈ g.pos, p.Args.length ≤ 1048576
 nl : g.neg.length ≤ 1048576
 na : ∀ p ∈ g.neg, p.Args.length ≤ 1048576
 sl : g.s.Items.length ≤ 1048576
 fl : ∀ x ∈ g.s.Items, x.F.Fields.length ≤ 1048576
theorem longer_l3 {N : Nat} (hN : 1099000000000 ≤ N) (g : Tgrower) (hz : SzG g) (s1 : List TTok) (s2 : Int) (K : List TTok → Int → Option (List TTok)) (x3 : List Int) (x4 : List TBind × Bool) (hb : x4.1.length ≤ 2147483648) :
  m_i_grower_longer_l3 N g s1 s2 K x3 x4 N [] 0 = m_i_grower_longer_j2 N s1 s2 K x3 (hitsT g.s.Items g.neg x4.1) := by
 have hnl := hz.nl
 refine (lp' hN g.neg (by omega) (fun n (u : List Int) i => m_i_grower_longer_l3 N g s1 s2 K x3 x4 n u i) (fun t u => m_i_grower_longer_j2 N s1 s2 K x3 (u ++ hitsT g.s.Items t x4.1)) (fun u t => u.length + t.length ≤ 1048576) [] (by simpa using hz.nl) (fun n u i p t g1 g2 g3 g4 g5 g6 gI gh => ?_) (fun n u i g1 g2 gI => ?_)).trans (by simp)
 ·simp only [List.length_cons] at gI
  simp only [m_i_grower_longer_l3, g5, if_true, g4, Option.bind_some, hits_i hN p g.s x4.1 (hz.na p g2) hz.sl hb, app_ok (show u.length + [((hits p x4.1 g.s.Items : Nat) : Int)].length ≤ 4294967296 by simp; omega), g6]
  rw [gh _ (by simp; omega)]
  simp [hitsT]
 ·simp only [m_i_grower_longer_l3, g2, Bool.false_eq_true, if_false]; simp [hitsT]
theorem longer_i {N : Nat} (hN : 1099000000000 ≤ N) (g : Tgrower) (hz : SzG g) (row ids : List Int) (hr : row.length + 1 ≤ g.pos.length) (hi : ids.length ≤ 4294967296) :
  m_i_grower_longer N g row ids = some (longT g.s.Items g.pos g.neg row ids) := by
 have hpl := hz.pl
 unfold m_i_grower_longer
 refine (lp' hN ids hi (fun n (u : List TTok) i => m_i_grower_longer_l1 N g row ids n u i) (fun t u => some (u ++ longT g.s.Items g.pos g.neg row t)) (fun u t => u.length + t.length ≤ 4294967296) [] (by simpa using hi) (fun n u i v t g1 g2 g3 g4 g5 g6 gI gh => ?_) (fun n u i g1 g2 gI => ?_)).trans (by simp)
 ·simp only [List.length_cons] at gI
  have hrow : (row ++ [v]).length = row.length + 1 := by simp
  have hbl := bindsP_take_len g.s.Items g.pos (row ++ [v])
  have hsa := hz.sa
  have e0 : bindsP g.s.Items (g.pos.take (row ++ [v]).length) (row ++ [v]) [] = okB g.s.Items g.pos (row ++ [v]) := rfl
  simp only [m_i_grower_longer_l1, g5, if_true, g4, Option.bind_some, m_sl_Clone_Sint_int, app_nil (show row.length ≤ 4294967296 by omega), app_ok (show row.length + [v].length ≤ 4294967296 by simp; omega),
   bindsT_i hN g.pos g.s (row ++ [v]) hz.sa hz.pa hz.sl hz.fl (by omega) (by omega), e0, longT, List.flatMap_cons]
  have hlong : (t.flatMap fun b => joinT g.s.Items g.pos g.neg row b) = longT g.s.Items g.pos g.neg row t := rfl
  cases hok : (okB g.s.Items g.pos (row ++ [v])).2 with
  | false =>
   have e1 : joinT g.s.Items g.pos g.neg row v = [] := by unfold joinT; rw [hok]; simp
   simp only [Bool.not_false, if_true, g6, e1, List.nil_append]
   exact gh u (by omega)
  | true =>
   simp only [Bool.not_true, Bool.false_eq_true, if_false]
   by_cases hl : row.length + 1 = g.pos.length
   ·have c1 : decide (((row ++ [v]).length : Int) = (g.pos.length : Int)) = true := decide_eq_true (by rw [hrow]; omega)
    have e1 : joinT g.s.Items g.pos g.neg row v = [⟨row ++ [v], hitsT g.s.Items g.neg (okB g.s.Items g.pos (row ++ [v])).1⟩] := by unfold joinT; rw [hok, if_pos rfl, if_pos hl]
    simp only [c1, if_true, longer_l3 hN g hz u _ _ _ _ (show (okB g.s.Items g.pos (row ++ [v])).1.length ≤ 2147483648 by omega), m_i_grower_longer_j2, app_ok (show u.length + [(⟨row ++ [v], hitsT g.s.Items g.neg (okB g.s.Items g.pos (row ++ [v])).1⟩ : TTok)].length ≤ 4294967296 by simp; omega), Option.bind_some, g6, e1]
    rw [gh _ (by simp; omega), List.append_assoc]; rfl
   ·have c1 : decide (((row ++ [v]).length : Int) = (g.pos.length : Int)) = false := decide_eq_false (by rw [hrow]; omega)
    have e1 : joinT g.s.Items g.pos g.neg row v = [⟨row ++ [v], []⟩] := by unfold joinT; rw [hok, if_pos rfl, if_neg hl]
    simp only [c1, Bool.false_eq_true, if_false, m_i_grower_longer_j2, app_ok (show u.length + [(⟨row ++ [v], []⟩ : TTok)].length ≤ 4294967296 by simp; omega), Option.bind_some, g6, e1]
    rw [gh _ (by simp; omega), List.append_assoc]; rfl
 ·simp only [m_i_grower_longer_l1, g2, Bool.false_eq_true, if_false]; simp [longT]
def fits (A : Nat → Nat) : Nat → List Nat → Nat → Nat → Prop
 | _, [], _, _ => True
 | k, l :: ls, b, f => (if k = 0 then 1 else b + f * A k) + l ≤ 4294967296 ∧ fits A (k + 1) ls l (if k = 0 then 1 else b + f * A k)
theorem fits_mono {A : Nat → Nat} : ∀ {ls : List Nat} {k b f b' f' : Nat}, fits A k ls b f → b' ≤ b → f' ≤ f → fits A k ls b' f'
 | [], _, _, _, _, _, _, _, _ => trivial
 | l :: ls, k, b, f, b', f', h, hb, hf => by
  have hm : (if k = 0 then 1 else b' + f' * A k) ≤ (if k = 0 then 1 else b + f * A k) := by
   split
   ·exact Nat.le_refl _
   ·exact Nat.add_le_add hb (Nat.mul_le_mul_right _ hf)
  exact ⟨Nat.le_trans (Nat.add_le_add_right hm l) h.1, fits_mono h.2 (Nat.le_refl _) hm⟩
theorem madeT_len (xs : List TItem) (ps ns : List TPat) (id : Int) (k : Nat) (B F : List TTok) (A : List Int) : (madeT xs ps ns id k B F A).length ≤ (if k = 0 then 1 else B.length + F.length * A.length) := by
 unfold madeT
 split
 ·exact longT_len xs ps ns [] [id]
 ·have h1 := flatLong_len xs ps ns [id] B
  have h2 := flatLong_len xs ps ns A F
  simp only [List.length_append, List.length_cons, List.length_nil, Nat.zero_add, Nat.mul_one] at h1 h2 ⊢
  omega
theorem madeT_ids {xs : List TItem} {ps ns : List TPat} {id : Int} {k : Nat} {B F : List TTok} {A : List Int} (hB : ∀ t ∈ B, t.Ids.length = k) (hF : ∀ t ∈ F, t.Ids.length = k) : ∀ t ∈ madeT xs ps ns id k B F A, t.Ids.length = k + 1 := by
 intro t ht
 unfold madeT at ht
 split at ht
 ·rename_i hk
  rw [(longT_ids t ht).1, hk]; rfl
 ·rcases List.mem_append.1 ht with h | h
  ·obtain ⟨u, hu, h⟩ := List.mem_flatMap.1 h
   rw [(longT_ids t h).1, hB u hu]
  ·obtain ⟨u, hu, h⟩ := List.mem_flatMap.1 h
   rw [(longT_ids t h).1, hF u hu]
theorem grow_l4 {N : Nat} (hN : 1099000000000 ≤ N) (g : Tgrower) (hz : SzG g) (s1 : List TLevel) (F : List TTok) (k : Nat) (K : List TLevel → List TTok → List TTok → Int → Option (List TLevel)) (a : Int) (A : TIds) (ha : idx g.chain.Pos (k : Int) = some a) (hA : idx g.alphas a = some A) (hk : k + 1 ≤ g.pos.length)
  (hF : ∀ t ∈ F, t.Ids.length = k) (u0 : List TTok) (hl : u0.length + F.length * A.L.length ≤ 4294967296) (hAl : A.L.length ≤ 4294967296) (hFl : F.length ≤ 4294967296) :
  m_i_grower_grow_l4 N g s1 F (k : Int) K N u0 0 = m_i_grower_grow_j2 N s1 (k : Int) K (u0 ++ F.flatMap fun t => longT g.s.Items g.pos g.neg t.Ids A.L) := by
 refine lp' hN F hFl (fun n (u : List TTok) i => m_i_grower_grow_l4 N g s1 F (k : Int) K n u i) (fun t u => m_i_grower_grow_j2 N s1 (k : Int) K (u ++ t.flatMap fun t => longT g.s.Items g.pos g.neg t.Ids A.L)) (fun u t => u.length + t.length * A.L.length ≤ 4294967296) u0 hl (fun n u i v t g1 g2 g3 g4 g5 g6 gI gh => ?_) (fun n u i g1 g2 gI => ?_)
 ·rw [List.length_cons, Nat.succ_mul] at gI
  have h1 := longT_len g.s.Items g.pos g.neg v.Ids A.L
  simp only [m_i_grower_grow_l4, g5, if_true, g4, Option.bind_some, ha, hA, longer_i hN g hz v.Ids A.L (by rw [hF v g2]; exact hk) hAl, app_ok (show u.length + (longT g.s.Items g.pos g.neg v.Ids A.L).length ≤ 4294967296 by omega), g6]
  rw [gh _ (by rw [List.length_append]; omega), List.flatMap_cons, List.append_assoc]
 ·simp only [m_i_grower_grow_l4, g2, Bool.false_eq_true, if_false]; simp
theorem grow_l3 {N : Nat} (hN : 1099000000000 ≤ N) (g : Tgrower) (hz : SzG g) (s1 : List TLevel) (B F : List TTok) (k : Nat) (K : List TLevel → List TTok → List TTok → Int → Option (List TLevel)) (a : Int) (A : TIds) (ha : idx g.chain.Pos (k : Int) = some a) (hA : idx g.alphas a = some A) (hk : k + 1 ≤ g.pos.length)
  (hB : ∀ t ∈ B, t.Ids.length = k) (hF : ∀ t ∈ F, t.Ids.length = k) (hl : B.length + F.length * A.L.length ≤ 4294967296) (hAl : A.L.length ≤ 4294967296) (hFl : F.length ≤ 4294967296) :
  m_i_grower_grow_l3 N g s1 B F (k : Int) K N [] 0 = m_i_grower_grow_j2 N s1 (k : Int) K ((B.flatMap fun t => longT g.s.Items g.pos g.neg t.Ids [g.id]) ++ F.flatMap fun t => longT g.s.Items g.pos g.neg t.Ids A.L) := by
 refine (lp' hN B (by omega) (fun n (u : List TTok) i => m_i_grower_grow_l3 N g s1 B F (k : Int) K n u i) (fun t u => m_i_grower_grow_j2 N s1 (k : Int) K (u ++ (t.flatMap fun t => longT g.s.Items g.pos g.neg t.Ids [g.id]) ++ F.flatMap fun t => longT g.s.Items g.pos g.neg t.Ids A.L)) (fun u t => u.length + t.length + F.length * A.L.length ≤ 4294967296) [] (by simpa using hl) (fun n u i v t g1 g2 g3 g4 g5 g6 gI gh => ?_) (fun n u i g1 g2 gI => ?_)).trans (by simp)
 ·rw [List.length_cons] at gI
  have h1 := longT_len g.s.Items g.pos g.neg v.Ids [g.id]
  simp only [List.length_cons, List.length_nil, Nat.zero_add] at h1
  simp only [m_i_grower_grow_l3, g5, if_true, g4, Option.bind_some, longer_i hN g hz v.Ids [g.id] (by rw [hB v g2]; exact hk) (by simp), app_ok (show u.length + (longT g.s.Items g.pos g.neg v.Ids [g.id]).length ≤ 4294967296 by omega), g6]
  rw [gh _ (by rw [List.length_append]; omega), List.flatMap_cons]
  simp only [List.append_assoc]
 ·simp only [m_i_grower_grow_l3, g2, Bool.false_eq_true, if_false]
  simp only [List.length_nil, Nat.add_zero] at gI
  rw [grow_l4 hN g hz s1 F k K a A ha hA hk hF u gI hAl hFl]; simp
theorem grow_l1 {N : Nat} (hN : 1099000000000 ≤ N) (g : Tgrower) (hz : SzG g) (p1 : List TLevel) (A : Nat → List Int) (hp : p1.length ≤ g.pos.length) (hA : ∀ k, k < p1.length → ∃ a i, idx g.chain.Pos (k : Int) = some a ∧ idx g.alphas a = some i ∧ i.L = A k) (hAl : ∀ k, (A k).length ≤ 4294967296) :
  ∀ (rest : List TLevel) (n : Nat) (done : List TLevel) (B F : List TTok), rest.length < n → done.length + rest.length = p1.length → (∀ t ∈ B, t.Ids.length = done.length) → (∀ t ∈ F, t.Ids.length = done.length) → (∀ i L, rest[i]? = some L → ∀ t ∈ L.Toks, t.Ids.length = done.length + 1 + i) →
   F.length ≤ 4294967296 → fits (fun k => (A k).length) done.length (rest.map (·.Toks.length)) B.length F.length → m_i_grower_grow_l1 N g p1 n (done ++ rest) B F (done.length : Int) = some (done ++ growT g.s.Items g.pos g.neg g.id A done.length rest B F)
 | [], n, done, B, F, hn, hd, hB, hF, hL, hFl, hf => by
  obtain ⟨n, rfl⟩ : ∃ m, n = m + 1 := ⟨n - 1, by simp at hn; omega⟩
  simp only [List.length_nil, Nat.add_zero] at hd
  have c1 : decide ((done.length : Int) < (p1.length : Int)) = false := decide_eq_false (by omega)
  simp only [m_i_grower_grow_l1, c1, Bool.false_eq_true, if_false, growT]
 | L :: Ls, n, done, B, F, hn, hd, hB, hF, hL, hFl, hf => by
  obtain ⟨n, rfl⟩ : ∃ m, n = m + 1 := ⟨n - 1, by omega⟩
  simp only [List.length_cons] at hn hd
  obtain ⟨hf1, hf2⟩ := hf
  simp only at hf1 hf2
  have hpl := hz.pl
  have c1 : decide ((done.length : Int) < (p1.length : Int)) = true := decide_eq_true (by omega)
  obtain ⟨a, i, ha, hi, hiA⟩ := hA done.length (by omega)
  have hml := madeT_len g.s.Items g.pos g.neg g.id done.length B F (A done.length)
  have hmi := madeT_ids (xs := g.s.Items) (ps := g.pos) (ns := g.neg) (id := g.id) (A := A done.length) hB hF
  -- the end of a round
  have key : ∀ M, M = madeT g.s.Items g.pos g.neg g.id done.length B F (A done.length) → m_i_grower_grow_j2 N (done ++ L :: Ls) (done.length : Int) (m_i_grower_grow_l1 N g p1 n) M = some (done ++ growT g.s.Items g.pos g.neg g.id A done.length (L :: Ls) B F) := by
   intro M hM
   subst hM
   have e1 : idx (done ++ L :: Ls) (done.length : Int) = some L := by rw [idx_nat]; simp
   have e2 : (done ++ L :: Ls).set ((done.length : Int)).toNat ⟨L.Toks ++ madeT g.s.Items g.pos g.neg g.id done.length B F (A done.length)⟩ = (done ++ [⟨L.Toks ++ madeT g.s.Items g.pos g.neg g.id done.length B F (A done.length)⟩]) ++ Ls := by
    rw [Int.toNat_natCast, List.set_append_right _ _ (Nat.le_refl _), Nat.sub_self, List.set_cons_zero, List.append_assoc]; rfl
   simp only [m_i_grower_grow_j2, e1, Option.bind_some, m_sl_Clone_Si_Tok_i_Tok_od, app_nil (show L.Toks.length ≤ 4294967296 by omega), app_ok (show L.Toks.length + (madeT g.s.Items g.pos g.neg g.id done.length B F (A done.length)).length ≤ 4294967296 by omega), e2, wr1 done.length (by omega)]
   have := grow_l1 hN g hz p1 A hp hA hAl Ls n (done ++ [⟨L.Toks ++ madeT g.s.Items g.pos g.neg g.id done.length B F (A done.length)⟩]) L.Toks (madeT g.s.Items g.pos g.neg g.id done.length B F (A done.length)) (by omega) (by simp; omega)
    (fun t ht => by have := hL 0 L rfl t ht; simpa using this) (fun t ht => by simpa using hmi t ht) (fun j M hj t ht => by have := hL (j + 1) M (by simpa using hj) t ht; simp only [List.length_append, List.length_cons, List.length_nil]; omega) (by omega)
    (by simp only [List.length_append, List.length_cons, List.length_nil]; exact fits_mono hf2 (Nat.le_refl _) hml)
   simp only [List.length_append, List.length_cons, List.length_nil, Nat.zero_add] at this
   rw [this, List.append_assoc]; rfl
  simp only [m_i_grower_grow_l1, c1, if_true]
  by_cases h0 : done.length = 0
  ·have c2 : decide ((done.length : Int) = 0) = true := decide_eq_true (by omega)
   simp only [c2, if_true, longer_i hN g hz [] [g.id] (by simp; omega) (by simp), Option.bind_some]
   exact key _ (by unfold madeT; rw [if_pos h0])
  ·have c2 : decide ((done.length : Int) = 0) = false := decide_eq_false (by omega)
   rw [if_neg h0] at hf1
   simp only [c2, Bool.false_eq_true, if_false]
   rw [grow_l3 hN g hz _ B F done.length _ a i ha hi (by omega) hB hF (by rw [hiA]; omega) (by rw [hiA]; exact hAl _) hFl, hiA]
   exact key _ (by unfold madeT; rw [if_neg h0])
theorem grow_i {N : Nat} (hN : 1099000000000 ≤ N) (g : Tgrower) (hz : SzG g) (ls : List TLevel) (A : Nat → List Int) (hp : ls.length ≤ g.pos.length) (hA : ∀ k, k < ls.length → ∃ a i, idx g.chain.Pos (k : Int) = some a ∧ idx g.alphas a = some i ∧ i.L = A k) (hAl : ∀ k, (A k).length ≤ 4294967296)
  (hL : ∀ i L, ls[i]? = some L → ∀ t ∈ L.Toks, t.Ids.length = i + 1) (hf : fits (fun k => (A k).length) 0 (ls.map (·.Toks.length)) 0 0) : m_i_grower_grow N g ls = some (growT g.s.Items g.pos g.neg g.id A 0 ls [] []) := by
 have hpl := hz.pl
 have := grow_l1 hN g hz ls A hp hA hAl ls N [] [] [] (by omega) (by simp) (by simp) (by simp) (fun i L h t ht => by rw [hL i L h t ht]; simp; omega) (by simp) (by simpa using hf)
 unfold m_i_grower_grow
 simpa using this
theorem patsOf_i {N : Nat} (hN : 1099000000000 ≤ N) (r : TRule) (b : Bool) (hl : r.Pats.length ≤ 1048576) : m_i_pats N r b = some (r.Pats.filter fun p => p.Not == b) := by
 unfold m_i_pats
 refine (lp' hN r.Pats (by omega) (m_i_pats_l1 N r b) (fun t u => some (u ++ t.filter fun p => p.Not == b)) (fun u t => u.length + t.length ≤ 1048576) [] (by simpa using hl) (fun n u i p t g1 g2 g3 g4 g5 g6 gI ih => ?_) (fun n u i g1 g2 gI => ?_)).trans (by simp)
 ·simp only [List.length_cons] at gI
  simp only [m_i_pats_l1, g5, if_true, g4, Option.bind_some, List.filter_cons, g6]
  cases hb : (p.Not == b) with
  | true =>
   simp only [if_true, app_ok (show u.length + [p].length ≤ 4294967296 by simp; omega), Option.bind_some]
   rw [ih _ (by simp; omega)]; simp
  | false =>
   simp only [Bool.false_eq_true, if_false]
   exact ih u (by omega)
 ·simp only [m_i_pats_l1, g2, Bool.false_eq_true, if_false]; simp
theorem set_mid {α : Type} (d : List α) (x y : α) (t : List α) : (d ++ x :: t).set d.length y = (d ++ [y]) ++ t := by
 rw [List.set_append_right _ _ (Nat.le_refl _), Nat.sub_self, List.set_cons_zero, List.append_assoc]; rfl
theorem idx_mid {α : Type} (d : List α) (x : α) (t : List α) : idx (d ++ x :: t) (d.length : Int) = some x := by rw [idx_nat]; simp
theorem count_l2 {N : Nat} (hN : 1099000000000 ≤ N) (g : Tgrower) (hz : SzG g) (by_ : Int) (x1 : TFact × Bool) (s1 : List TTok) (s2 : Int) (K : List TTok → Int → Option (List TTok)) (x2 : TTok) (x3 : List TBind × Bool) (hb : x3.1.length ≤ 2147483648) :
  ∀ (ns : List TPat) (n : Nat) (dn : List TPat) (dh h : List Int), ns.length < n → g.neg = dn ++ ns → dh.length = dn.length → h.length = ns.length →
   m_i_grower_count_l2 N g by_ x1 s1 s2 K x2 x3 n (dh ++ h) (dn.length : Int) = K (s1.set s2.toNat ⟨x2.Ids, dh ++ turnH x1.1 x3.1 by_ ns h⟩) (IntKind.i64.wrap (s2 + 1))
 | [], n, dn, dh, h, hn, hg, hd, hh => by
  obtain ⟨n, rfl⟩ : ∃ m, n = m + 1 := ⟨n - 1, by simp at hn; omega⟩
  have c1 : decide ((dn.length : Int) < (g.neg.length : Int)) = false := decide_eq_false (by rw [hg]; simp)
  simp only [m_i_grower_count_l2, c1, Bool.false_eq_true, if_false, turnH]
 | p :: ns, n, dn, dh, [], hn, hg, hd, hh => by simp at hh
 | p :: ns, n, dn, dh, x :: h, hn, hg, hd, hh => by
  obtain ⟨n, rfl⟩ : ∃ m, n = m + 1 := ⟨n - 1, by omega⟩
  simp only [List.length_cons] at hn hh
  have hnl := hz.nl
  have hl : g.neg.length = dn.length + (ns.length + 1) := by rw [hg]; simp
  have c1 : decide ((dn.length : Int) < (g.neg.length : Int)) = true := decide_eq_true (by omega)
  have e1 : idx g.neg (dn.length : Int) = some p := by rw [hg]; exact idx_mid _ _ _
  have e2 : idx (dh ++ x :: h) (dn.length : Int) = some x := by rw [← hd]; exact idx_mid _ _ _
  have hp : p ∈ g.neg := by rw [hg]; simp
  simp only [m_i_grower_count_l2, c1, if_true, e1, Option.bind_some, match_i hN p x1.1 x3.1 (hz.na p hp) hb, wr1 dn.length (by omega), turnH]
  have ih := count_l2 hN g hz by_ x1 s1 s2 K x2 x3 hb ns n (dn ++ [p])
  simp only [List.length_append, List.length_cons, List.length_nil, Nat.zero_add] at ih
  cases hm : (matchPat p x1.1 x3.1).2 with
  | true =>
   simp only [if_true, e2, Option.bind_some]
   have e3 : (dh ++ x :: h).set ((dn.length : Int)).toNat (IntKind.i64.wrap (x + by_)) = (dh ++ [IntKind.i64.wrap (x + by_)]) ++ h := by rw [Int.toNat_natCast, ← hd]; exact set_mid _ _ _ _
   rw [e3, ih (dh ++ [IntKind.i64.wrap (x + by_)]) h (by omega) (by rw [hg]; simp) (by simp [hd]) (by omega)]
   simp
  | false =>
   simp only [Bool.false_eq_true, if_false]
   have := ih (dh ++ [x]) h (by omega) (by rw [hg]; simp) (by simp [hd]) (by omega)
   simp only [List.append_assoc, List.cons_append, List.nil_append] at this
   exact this
theorem count_l1 {N : Nat} (hN : 1099000000000 ≤ N) (g : Tgrower) (hz : SzG g) (p1 : List TTok) (by_ : Int) (x1 : TFact × Bool) (hl : p1.length ≤ 4294967296) : ∀ (ts : List TTok) (n : Nat) (d : List TTok), ts.length < n → d.length + ts.length = p1.length → (∀ t ∈ ts, t.Ids.length ≤ g.pos.length ∧ t.Hits.length = g.neg.length) →
  m_i_grower_count_l1 N g p1 by_ x1 n (d ++ ts) (d.length : Int) = some (d ++ turnT g.s.Items g.pos g.neg x1.1 by_ ts)
 | [], n, d, hn, hd, ht => by
  obtain ⟨n, rfl⟩ : ∃ m, n = m + 1 := ⟨n - 1, by simp at hn; omega⟩
  simp only [List.length_nil, Nat.add_zero] at hd
  have c1 : decide ((d.length : Int) < (p1.length : Int)) = false := decide_eq_false (by omega)
  simp only [m_i_grower_count_l1, c1, Bool.false_eq_true, if_false, turnT, List.map_nil]
 | t :: ts, n, d, hn, hd, ht => by
  obtain ⟨n, rfl⟩ : ∃ m, n = m + 1 := ⟨n - 1, by omega⟩
  simp only [List.length_cons] at hn hd
  have hpl := hz.pl
  have hsa := hz.sa
  have c1 : decide ((d.length : Int) < (p1.length : Int)) = true := decide_eq_true (by omega)
  obtain ⟨h1, h2⟩ := ht t (by simp)
  have hbl := bindsP_take_len g.s.Items g.pos t.Ids
  have e0 : bindsP g.s.Items (g.pos.take t.Ids.length) t.Ids [] = okB g.s.Items g.pos t.Ids := rfl
  have ih := fun y => count_l1 hN g hz p1 by_ x1 hl ts n (d ++ [y]) (by omega) (by simp; omega) (fun u hu => ht u (by simp [hu]))
  simp only [List.length_append, List.length_cons, List.length_nil, Nat.zero_add] at ih
  simp only [m_i_grower_count_l1, c1, if_true, idx_mid, Option.bind_some, bindsT_i hN g.pos g.s t.Ids hz.sa hz.pa hz.sl hz.fl (by omega) h1, e0, wr1 d.length (by omega)]
  have e4 : turnT g.s.Items g.pos g.neg x1.1 by_ (t :: ts) = (if (okB g.s.Items g.pos t.Ids).2 = true then ⟨t.Ids, turnH x1.1 (okB g.s.Items g.pos t.Ids).1 by_ g.neg t.Hits⟩ else t) :: turnT g.s.Items g.pos g.neg x1.1 by_ ts := rfl
  rw [e4]
  cases hok : (okB g.s.Items g.pos t.Ids).2 with
  | false =>
   simp only [Bool.not_false, if_true, Bool.false_eq_true, if_false]
   have := ih t
   simp only [List.append_assoc, List.cons_append, List.nil_append] at this
   exact this
  | true =>
   simp only [Bool.not_true, Bool.false_eq_true, if_false, if_true]
   have h3 := count_l2 hN g hz by_ x1 (d ++ t :: ts) (d.length : Int) (m_i_grower_count_l1 N g p1 by_ x1 n) t (okB g.s.Items g.pos t.Ids) (by omega) g.neg N [] [] t.Hits (by have := hz.nl; omega) rfl rfl h2
   simp only [List.nil_append, List.length_nil, Int.natCast_zero, Int.toNat_natCast] at h3
   have h3' : m_i_grower_count_l2 N g by_ x1 (d ++ t :: ts) (d.length : Int) (m_i_grower_count_l1 N g p1 by_ x1 n) t (okB g.s.Items g.pos t.Ids) N t.Hits 0 = _ := h3
   rw [h3', set_mid, wr1 d.length (by omega), ih, List.append_assoc]; rfl
theorem turnT_i {N : Nat} (hN : 1099000000000 ≤ N) (g : Tgrower) (hz : SzG g) (ts : List TTok) (by_ : Int) (hl : ts.length ≤ 4294967296) (ht : ∀ t ∈ ts, t.Ids.length ≤ g.pos.length ∧ t.Hits.length = g.neg.length) :
  m_i_grower_count N g ts by_ = some (turnT g.s.Items g.pos g.neg (factOf g.s.Items g.id).1 by_ ts) := by
 unfold m_i_grower_count
 rw [factOf_i hN g.s g.id hz.sl hz.fl, Option.bind_some]
 have := count_l1 hN g hz ts by_ (factOf g.s.Items g.id) hl ts N [] (by omega) (by simp) ht
 simpa using this
structure RowOk (as : List TIds) (r : TRule) (c : TChain) (row : TRow) : Prop where
 ne : 1 ≤ row.Levels.length
 ll : row.Levels.length = (pos r.Pats).length
 ids : ∀ i L, row.Levels[i]? = some L → ∀ t ∈ L.Toks, t.Ids.length = i + 1
 hit : ∀ L, row.Levels[row.Levels.length - 1]? = some L → ∀ t ∈ L.Toks, t.Hits.length = (neg r.Pats).length
 at_ : ∀ k, k < row.Levels.length → ∃ a i, idx c.Pos (k : Int) = some a ∧ idx as a = some i
 fit : fits (fun k => (lets as c k).length) 0 (row.Levels.map (·.Toks.length)) 0 0
 al : ∀ k, (lets as c k).length ≤ 4294967296
theorem fits_at {A : Nat → Nat} : ∀ {ls : List Nat} {k b f : Nat}, fits A k ls b f → ∀ l ∈ ls, l ≤ 4294967296
 | [], _, _, _, _, _, h => by cases h
 | l :: ls, k, b, f, h, x, hx => by
  rcases List.mem_cons.1 hx with rfl | hx
  ·have := h.1; omega
  ·exact fits_at h.2 x hx
theorem set_lens {row : TRow} {L : TLevel} {M : List TTok} {i : Nat} (hL : row.Levels[i]? = some L) (hM : M.length = L.Toks.length) : (row.Levels.set i ⟨M⟩).map (·.Toks.length) = row.Levels.map (·.Toks.length) := by
 rw [List.map_set]
 have : (row.Levels.map (·.Toks.length))[i]? = some L.Toks.length := by rw [List.getElem?_map, hL]; rfl
 apply List.ext_getElem?
 intro j
 rw [List.getElem?_set]
 split
 ·rename_i e; subst e
  split
  ·rw [this, ← hM]
  ·rename_i hlt; rw [List.length_map] at hlt; have := (List.getElem?_eq_some_iff.1 hL).1; omega
 ·rfl
theorem lets_some {as : List TIds} {c : TChain} {k : Nat} {a : Int} {i : TIds} (h1 : idx c.Pos (k : Int) = some a) (h2 : idx as a = some i) : i.L = lets as c k := by
 unfold lets
 rw [idx_nat] at h1
 rw [h1]
 simp only [h2]
structure SzR (r : TRule) : Prop where
 pl : r.Pats.length ≤ 1048576
 sa : sumArgs r.Pats ≤ 1048576
 pa : ∀ p ∈ r.Pats, p.Args.length ≤ 1048576
theorem grower_sz {r : TRule} {c : TChain} {as : List TIds} {s : TStore} {id : Int} (hr : SzR r) (hs : s.Items.length ≤ 1048576) (hx : ∀ x ∈ s.Items, x.F.Fields.length ≤ 1048576) : SzG ⟨pos r.Pats, neg r.Pats, c, as, s, id⟩ := by
 have h1 := sumArgs_pos r.Pats
 have h2 := hr.sa
 have h3 : (pos r.Pats).length ≤ r.Pats.length := List.length_filter_le _ _
 have h4 : (neg r.Pats).length ≤ r.Pats.length := List.length_filter_le _ _
 have h5 := hr.pl
 exact ⟨by simp only; omega, by simp only; omega, fun p hp => hr.pa p (List.mem_filter.1 hp).1, by simp only; omega, fun p hp => hr.pa p (List.mem_filter.1 hp).1, hs, hx⟩
theorem patsN_eq (l : List TPat) : (l.filter fun p => p.Not == true) = neg l := by
 unfold neg; congr 1; funext p; cases p.Not <;> rfl
theorem row_i {N : Nat} (hN : 1099000000000 ≤ N) (r : TRule) (c : TChain) (as : List TIds) (s : TStore) (id : Int) (row : TRow) (hr : SzR r) (hs : s.Items.length ≤ 1048576) (hx : ∀ x ∈ s.Items, x.F.Fields.length ≤ 1048576) (ok : RowOk as r c row) {β : Type} (K : List TLevel → Option β) :
  ((idx row.Levels (IntKind.i64.wrap ((row.Levels.length : Int) - 1))).bind fun x8 => ((m_i_grower_count N ⟨pos r.Pats, neg r.Pats, c, as, s, id⟩ x8.Toks 1).bind fun x9 => ((m_i_grower_grow N ⟨pos r.Pats, neg r.Pats, c, as, s, id⟩ (row.Levels.set (IntKind.i64.wrap ((row.Levels.length : Int) - 1)).toNat (⟨x9⟩ : TLevel))).bind fun x10 => K x10)))
   = K (ruleT s.Items as (factOf s.Items id).1 id r c row).Levels := by
 have hg := grower_sz (c := c) (as := as) (s := s) (id := id) hr hs hx
 have hne := ok.ne
 have hll := ok.ll
 have hpl := hg.pl
 simp only at hpl
 have ew : IntKind.i64.wrap ((row.Levels.length : Int) - 1) = ((row.Levels.length - 1 : Nat) : Int) := by
  rw [show ((row.Levels.length : Int) - 1) = ((row.Levels.length - 1 : Nat) : Int) by omega]
  exact wr (by omega) (by omega)
 have hlt : row.Levels.length - 1 < row.Levels.length := by omega
 have hL : row.Levels[row.Levels.length - 1]? = some row.Levels[row.Levels.length - 1] := List.getElem?_eq_getElem hlt
 have hlen : (row.Levels[row.Levels.length - 1]).Toks.length ≤ 4294967296 := fits_at ok.fit _ (List.mem_map.2 ⟨_, List.getElem_mem hlt, rfl⟩)
 rw [ew, idx_nat_lt hlt, Option.bind_some, turnT_i hN _ hg _ 1 hlen (fun t ht => ⟨by have := ok.ids _ _ hL t ht; simp only; omega, ok.hit _ hL t ht⟩), Option.bind_some, Int.toNat_natCast]
 have hset := set_lens (M := turnT s.Items (pos r.Pats) (neg r.Pats) (factOf s.Items id).1 1 (row.Levels[row.Levels.length - 1]).Toks) hL (turnT_len _)
 have hgrow := grow_i hN _ hg (row.Levels.set (row.Levels.length - 1) ⟨turnT s.Items (pos r.Pats) (neg r.Pats) (factOf s.Items id).1 1 (row.Levels[row.Levels.length - 1]).Toks⟩) (lets as c) (by simp only [List.length_set]; omega)
  (fun k hk => by
   rw [List.length_set] at hk
   obtain ⟨a, i, h1, h2⟩ := ok.at_ k hk
   exact ⟨a, i, h1, h2, lets_some h1 h2⟩) ok.al
  (fun i L hi t ht => by
   rw [List.getElem?_set] at hi
   split at hi
   ·rename_i e; subst e
    ·simp only [Option.some.injEq] at hi
     subst hi
     have h1 := turnT_ids (xs := s.Items) (ps := pos r.Pats) (ns := neg r.Pats) (f := (factOf s.Items id).1) (b := 1) (row.Levels[row.Levels.length - 1]).Toks
     have h2 : t.Ids ∈ (row.Levels[row.Levels.length - 1]).Toks.map (·.Ids) := by rw [← h1]; exact List.mem_map.2 ⟨t, ht, rfl⟩
     obtain ⟨u, hu, e⟩ := List.mem_map.1 h2
     rw [← e]; exact ok.ids _ _ hL u hu
   ·exact ok.ids i L hi t ht)
  (by rw [hset]; exact ok.fit)
 rw [hgrow, Option.bind_some]
 unfold ruleT turnLast
 rw [hL]
theorem add_l2 {N : Nat} (hN : 1099000000000 ≤ N) (d : TDef) (n : TNet) (m : TMem) (s : TStore) (id : Int) (as : List TIds) (hs : s.Items.length ≤ 1048576) (hx : ∀ x ∈ s.Items, x.F.Fields.length ≤ 1048576) (hlr : m.Rules.length ≤ 1048576) :
  ∀ (ws : List TRow) (rs : List TRule) (cs : List TChain) (k : Nat) (dr : List TRule) (dc : List TChain) (dw : List TRow), ws.length < k → d.Rules = dr ++ rs → n.Chains = dc ++ cs → dw.length + ws.length = m.Rules.length → dr.length = dw.length → dc.length = dw.length → rs.length = ws.length → cs.length = ws.length →
   (∀ (i : Nat) (r : TRule) (c : TChain) (w : TRow), rs[i]? = some r → cs[i]? = some c → ws[i]? = some w → SzR r ∧ RowOk as r c w) →
   m_i_addItem_l2 N d n m s id as k (dw ++ ws) (dw.length : Int) = some (as, dw ++ rulesT (ruleT s.Items as (factOf s.Items id).1 id) rs cs ws)
 | [], rs, cs, k, dr, dc, dw, hk, h1, h2, h3, h4, h5, h6, h7, h8 => by
  obtain ⟨k, rfl⟩ : ∃ j, k = j + 1 := ⟨k - 1, by simp at hk; omega⟩
  simp only [List.length_nil, Nat.add_zero] at h3
  have c1 : decide ((dw.length : Int) < (m.Rules.length : Int)) = false := decide_eq_false (by omega)
  simp only [m_i_addItem_l2, c1, Bool.false_eq_true, if_false]
  cases rs <;> cases cs <;> simp [rulesT]
 | w :: ws, [], cs, k, dr, dc, dw, hk, h1, h2, h3, h4, h5, h6, h7, h8 => by simp at h6
 | w :: ws, r :: rs, [], k, dr, dc, dw, hk, h1, h2, h3, h4, h5, h6, h7, h8 => by simp at h7
 | w :: ws, r :: rs, c :: cs, k, dr, dc, dw, hk, h1, h2, h3, h4, h5, h6, h7, h8 => by
  obtain ⟨k, rfl⟩ : ∃ j, k = j + 1 := ⟨k - 1, by omega⟩
  simp only [List.length_cons] at hk h3 h6 h7
  have c1 : decide ((dw.length : Int) < (m.Rules.length : Int)) = true := decide_eq_true (by omega)
  obtain ⟨q1, q2⟩ := h8 0 r c w rfl rfl rfl
  have e1 : idx d.Rules (dw.length : Int) = some r := by rw [h1, ← h4]; exact idx_mid _ _ _
  have e2 : idx n.Chains (dw.length : Int) = some c := by rw [h2, ← h5]; exact idx_mid _ _ _
  simp only [m_i_addItem_l2, c1, if_true, idx_mid, Option.bind_some, m_i_growerOf, e1, e2, patsOf_i hN r false q1.pl, patsOf_i hN r true q1.pl, pos_eq, patsN_eq]
  rw [row_i hN r c as s id w q1 hs hx q2 (fun x10 => m_i_addItem_l2 N d n m s id as k ((dw ++ w :: ws).set (dw.length : Int).toNat (⟨x10⟩ : TRow)) (IntKind.i64.wrap ((dw.length : Int) + 1)))]
  rw [Int.toNat_natCast, set_mid, wr1 dw.length (by omega)]
  have := add_l2 hN d n m s id as hs hx hlr ws rs cs k (dr ++ [r]) (dc ++ [c]) (dw ++ [⟨(ruleT s.Items as (factOf s.Items id).1 id r c w).Levels⟩]) (by omega) (by rw [h1]; simp) (by rw [h2]; simp) (by simp; omega) (by simp [h4]) (by simp [h5]) (by omega) (by omega)
   (fun i r' c' w' a1 a2 a3 => h8 (i + 1) r' c' w' (by simpa using a1) (by simpa using a2) (by simpa using a3))
  simp only [List.length_append, List.length_cons, List.length_nil, Nat.zero_add] at this
  rw [this, List.append_assoc]
  rfl
theorem add_l1 {N : Nat} (hN : 1099000000000 ≤ N) (d : TDef) (n : TNet) (m : TMem) (s : TStore) (id : Int) (f : TFact × Bool) (ha : ∀ a ∈ n.Alphas, a.At.length ≤ 1048576) (hl : n.Alphas.length ≤ 1048576) :
  ∀ (as : List TAlpha) (k : Nat) (da : List TAlpha) (di is : List TIds), as.length < k → n.Alphas = da ++ as → di.length = da.length → is.length = as.length → (∀ i ∈ is, i.L.length + 1 ≤ 4294967296) →
   m_i_addItem_l1 N d n m s id f k (di ++ is) (da.length : Int) = m_i_addItem_l2 N d n m s id (di ++ alphasT f.1 id as is) N m.Rules 0
 | [], k, da, di, is, hk, h1, h2, h3, h4 => by
  obtain ⟨k, rfl⟩ : ∃ j, k = j + 1 := ⟨k - 1, by simp at hk; omega⟩
  have c1 : decide ((da.length : Int) < (n.Alphas.length : Int)) = false := decide_eq_false (by rw [h1]; simp)
  simp only [m_i_addItem_l1, c1, Bool.false_eq_true, if_false, alphasT]
 | a :: as, k, da, di, [], hk, h1, h2, h3, h4 => by simp at h3
 | a :: as, k, da, di, i :: is, hk, h1, h2, h3, h4 => by
  obtain ⟨k, rfl⟩ : ∃ j, k = j + 1 := ⟨k - 1, by omega⟩
  simp only [List.length_cons] at hk h3
  have hal : n.Alphas.length = da.length + (as.length + 1) := by rw [h1]; simp
  have c1 : decide ((da.length : Int) < (n.Alphas.length : Int)) = true := decide_eq_true (by omega)
  have e1 : idx n.Alphas (da.length : Int) = some a := by rw [h1]; exact idx_mid _ _ _
  have e2 : idx (di ++ i :: is) (da.length : Int) = some i := by rw [← h2]; exact idx_mid _ _ _
  have ham : a ∈ n.Alphas := by rw [h1]; simp
  have hil := h4 i (by simp)
  have ih := fun y => add_l1 hN d n m s id f ha hl as k (da ++ [a]) (di ++ [y]) is (by omega) (by rw [h1]; simp) (by simp [h2]) (by omega) (fun j hj => h4 j (by simp [hj]))
  simp only [List.length_append, List.length_cons, List.length_nil, Nat.zero_add, List.append_assoc, List.cons_append, List.nil_append] at ih
  simp only [m_i_addItem_l1, c1, if_true, e1, Option.bind_some, passes_i hN a f.1 (ha a ham), wr1 da.length (by omega), alphasT]
  cases hp : passes a f.1 with
  | true =>
   simp only [if_true, e2, Option.bind_some, app_ok (show i.L.length + [id].length ≤ 4294967296 by simpa using hil)]
   have e3 : (di ++ i :: is).set ((da.length : Int)).toNat (⟨i.L ++ [id]⟩ : TIds) = di ++ ⟨i.L ++ [id]⟩ :: is := by
    rw [Int.toNat_natCast, ← h2, set_mid, List.append_assoc]; rfl
   rw [e3]
   exact ih _
  | false =>
   simp only [Bool.false_eq_true, if_false]
   exact ih i
structure AddOk (d : TDef) (n : TNet) (m : TMem) (s : TStore) (id : Int) : Prop where
 sl : s.Items.length ≤ 1048576
 fl : ∀ x ∈ s.Items, x.F.Fields.length ≤ 1048576
 at_ : ∀ a ∈ n.Alphas, a.At.length ≤ 1048576
 al : n.Alphas.length ≤ 1048576
 rl : m.Rules.length ≤ 1048576
 la : m.Alphas.length = n.Alphas.length
 lc : n.Chains.length = m.Rules.length
 ld : d.Rules.length = m.Rules.length
 il : ∀ i ∈ m.Alphas, i.L.length + 1 ≤ 4294967296
 rows : ∀ (i : Nat) (r : TRule) (c : TChain) (w : TRow), d.Rules[i]? = some r → n.Chains[i]? = some c → m.Rules[i]? = some w → SzR r ∧ RowOk (alphasT (factOf s.Items id).1 id n.Alphas m.Alphas) r c w
theorem add_i {N : Nat} (hN : 1099000000000 ≤ N) (d : TDef) (n : TNet) (m : TMem) (s : TStore) (id : Int) (h : AddOk d n m s id) : m_i_addItem N d n m s id = some ((addT d n m s id).Alphas, (addT d n m s id).Rules) := by
 have hal := h.al
 have hrl := h.rl
 unfold m_i_addItem
 rw [factOf_i hN s id h.sl h.fl, Option.bind_some]
 have h1 := add_l1 hN d n m s id (factOf s.Items id) h.at_ h.al n.Alphas N [] [] m.Alphas (by omega) rfl rfl h.la h.il
 simp only [List.nil_append, List.length_nil, Int.natCast_zero] at h1
 have h1' : m_i_addItem_l1 N d n m s id (factOf s.Items id) N m.Alphas 0 = _ := h1
 rw [h1']
 have h2 := add_l2 hN d n m s id (alphasT (factOf s.Items id).1 id n.Alphas m.Alphas) h.sl h.fl h.rl m.Rules d.Rules n.Chains N [] [] [] (by omega) rfl rfl (by simp) rfl rfl h.ld h.lc h.rows
 simp only [List.nil_append, List.length_nil, Int.natCast_zero] at h2
 exact h2
def InR (x : Int) : Prop := IntKind.i64.wrap x = x
theorem turn_l2 {N : Nat} (by_ s2 : Int) (K : List TTok → Int → Option (List TTok)) (f : TFact) (l : List TBind) (hby : by_ = 1 ∨ by_ = -1) (x3 : List Int) (hx : x3.length ≤ 1048576) (done : List TTok) (hs2 : s2 = (done.length : Int)) (ids : List Int) (rest : List TTok) :
  ∀ (ns : List TPat) (n : Nat) (dx dh h : List Int), ns.length < n → x3 = dx ++ hitS ns f l → dh.length = dx.length → h.length = ns.length → (∀ x ∈ h, InR x) →
   m_s_l13Turn_l2 N by_ s2 K (l, true) x3 n (done ++ ⟨ids, dh ++ h⟩ :: rest) (dx.length : Int) = K (done ++ ⟨ids, dh ++ turnH f l by_ ns h⟩ :: rest) (IntKind.i64.wrap (s2 + 1))
 | [], n, dx, dh, h, hn, h1, h2, h3, h4 => by
  obtain ⟨n, rfl⟩ : ∃ m, n = m + 1 := ⟨n - 1, by simp at hn; omega⟩
  have c1 : decide ((dx.length : Int) < (x3.length : Int)) = false := decide_eq_false (by rw [h1]; simp [hitS])
  simp only [m_s_l13Turn_l2, c1, Bool.false_eq_true, if_false, Option.bind_some, turnH]
 | p :: ns, n, dx, dh, [], hn, h1, h2, h3, h4 => by simp at h3
 | p :: ns, n, dx, dh, x :: h, hn, h1, h2, h3, h4 => by
  obtain ⟨n, rfl⟩ : ∃ m, n = m + 1 := ⟨n - 1, by omega⟩
  simp only [List.length_cons] at hn h3
  have hl : x3.length = dx.length + (ns.length + 1) := by rw [h1]; simp [hitS]
  have c1 : decide ((dx.length : Int) < (x3.length : Int)) = true := decide_eq_true (by omega)
  have e0 : hitS (p :: ns) f l = (if (matchPat p f l).2 = true then 1 else 0) :: hitS ns f l := rfl
  have e1 : idx x3 (dx.length : Int) = some (if (matchPat p f l).2 = true then 1 else 0) := by rw [h1, e0]; exact idx_mid _ _ _
  have e2 : idx (done ++ (⟨ids, dh ++ x :: h⟩ : TTok) :: rest) s2 = some ⟨ids, dh ++ x :: h⟩ := by rw [hs2]; exact idx_mid _ _ _
  have e3 : idx (dh ++ x :: h) (dx.length : Int) = some x := by rw [← h2]; exact idx_mid _ _ _
  have hxr : IntKind.i64.wrap x = x := h4 x (by simp)
  have e4 : IntKind.i64.wrap (x + IntKind.i64.wrap (by_ * (if (matchPat p f l).2 = true then 1 else 0))) = if (matchPat p f l).2 = true then IntKind.i64.wrap (x + by_) else x := by
   split
   ·rw [Int.mul_one]
    have : IntKind.i64.wrap by_ = by_ := by rcases hby with rfl | rfl <;> decide
    rw [this]
   ·rw [Int.mul_zero, show IntKind.i64.wrap 0 = 0 by decide, Int.add_zero, hxr]
  have e5 : ∀ y : Int, (dh ++ x :: h).set ((dx.length : Int)).toNat y = (dh ++ [y]) ++ h := fun y => by rw [Int.toNat_natCast, ← h2]; exact set_mid _ _ _ _
  have e6 : ∀ y : TTok, (done ++ (⟨ids, dh ++ x :: h⟩ : TTok) :: rest).set s2.toNat y = done ++ y :: rest := fun y => by rw [hs2, Int.toNat_natCast, set_mid, List.append_assoc]; rfl
  simp only [m_s_l13Turn_l2, c1, if_true, Option.bind_some, e1, e2, e3, e4, e5, e6, wr1 dx.length (by omega)]
  have := turn_l2 (N := N) by_ s2 K f l hby x3 hx done hs2 ids rest ns n (dx ++ [if (matchPat p f l).2 = true then 1 else 0]) (dh ++ [if (matchPat p f l).2 = true then IntKind.i64.wrap (x + by_) else x]) h (by omega) (by rw [h1, e0]; simp) (by simp [h2]) (by omega) (fun z hz => h4 z (by simp [hz]))
  simp only [List.length_append, List.length_cons, List.length_nil, Nat.zero_add] at this
  rw [this, turnH]
  simp only [List.append_assoc, List.cons_append, List.nil_append]
theorem turn_s {N : Nat} (hN : 1099000000000 ≤ N) (r : TRule) (s : TStore) (hz : SzS r s) (f : TFact) (by_ : Int) (hby : by_ = 1 ∨ by_ = -1) (toks : List TTok) (hl : toks.length ≤ 4294967296)
  (ht : ∀ t ∈ toks, t.Ids.length ≤ posCount r.Pats ∧ t.Hits.length = (neg r.Pats).length ∧ ∀ x ∈ t.Hits, InR x) : m_s_l13Turn N r s toks f by_ = some (turnT s.Items (pos r.Pats) (neg r.Pats) f by_ toks) := by
 have hpl := hz.pl
 have hnl : (neg r.Pats).length ≤ r.Pats.length := List.length_filter_le _ _
 unfold m_s_l13Turn
 have lp : ∀ (ts : List TTok) (n : Nat) (done : List TTok), ts.length < n → done.length + ts.length ≤ 4294967296 → (∀ t ∈ ts, t ∈ toks) → m_s_l13Turn_l1 N r s f by_ n (done ++ ts) (done.length : Int) = some (done ++ turnT s.Items (pos r.Pats) (neg r.Pats) f by_ ts) := by
  intro ts
  induction ts with
  | nil =>
   intro n done hn hd hm
   obtain ⟨n, rfl⟩ : ∃ m, n = m + 1 := ⟨n - 1, by simp at hn; omega⟩
   have c1 : decide ((done.length : Int) < ((done ++ []).length : Int)) = false := decide_eq_false (by simp)
   simp only [m_s_l13Turn_l1, c1, Bool.false_eq_true, if_false, turnT, List.map_nil]
  | cons t ts ih =>
   intro n done hn hd hm
   obtain ⟨n, rfl⟩ : ∃ m, n = m + 1 := ⟨n - 1, by omega⟩
   simp only [List.length_cons] at hn hd
   have c1 : decide ((done.length : Int) < ((done ++ t :: ts).length : Int)) = true := decide_eq_true (by simp; omega)
   obtain ⟨h1, h2, h3⟩ := ht t (hm t (by simp))
   obtain ⟨l, g1, g2, g3⟩ := binds_s hN r s hz t.Ids h1
   simp only [m_s_l13Turn_l1, c1, if_true, idx_mid, Option.bind_some, g1, hit_s hN r f l hz.pl hz.pa g3]
   have e4 : turnT s.Items (pos r.Pats) (neg r.Pats) f by_ (t :: ts) = (if (okB s.Items (pos r.Pats) t.Ids).2 = true then ⟨t.Ids, turnH f (okB s.Items (pos r.Pats) t.Ids).1 by_ (neg r.Pats) t.Hits⟩ else t) :: turnT s.Items (pos r.Pats) (neg r.Pats) f by_ ts := rfl
   rw [e4]
   have next := fun y => ih n (done ++ [y]) (by omega) (by simp; omega) (fun u hu => hm u (by simp [hu]))
   simp only [List.length_append, List.length_cons, List.length_nil, Nat.zero_add, List.append_assoc, List.cons_append, List.nil_append] at next
   cases hok : (okB s.Items (pos r.Pats) t.Ids).2 with
   | false =>
    simp only [Bool.false_eq_true, if_false]
    have : ∀ n, m_s_l13Turn_l2 N by_ (done.length : Int) (m_s_l13Turn_l1 N r s f by_ n) (l, false) (hitS (neg r.Pats) f l) N (done ++ t :: ts) 0 = m_s_l13Turn_l1 N r s f by_ n (done ++ t :: ts) (IntKind.i64.wrap ((done.length : Int) + 1)) := fun n => by
     obtain ⟨M, rfl⟩ : ∃ m, N = m + 1 := ⟨N - 1, by omega⟩
     unfold m_s_l13Turn_l2
     split <;> simp
    rw [this, wr1 done.length (by omega)]
    exact next t
   | true =>
    obtain rfl := g2 hok
    simp only [if_true]
    have := turn_l2 (N := N) by_ (done.length : Int) (m_s_l13Turn_l1 N r s f by_ n) f (okB s.Items (pos r.Pats) t.Ids).1 hby (hitS (neg r.Pats) f (okB s.Items (pos r.Pats) t.Ids).1) (by simp [hitS]; omega) done rfl t.Ids ts (neg r.Pats) N [] [] t.Hits (by omega) rfl rfl h2 h3
    simp only [List.nil_append, List.length_nil, Int.natCast_zero] at this
    have h5 : m_s_l13Turn_l2 N by_ (done.length : Int) (m_s_l13Turn_l1 N r s f by_ n) ((okB s.Items (pos r.Pats) t.Ids).1, true) (hitS (neg r.Pats) f (okB s.Items (pos r.Pats) t.Ids).1) N (done ++ t :: ts) 0 = _ := this
    rw [h5, wr1 done.length (by omega)]
    exact next _
 have := lp toks N [] (by omega) (by simpa using hl) (fun t h => h)
 simpa using this
def longS (xs : List TItem) (ps : List TPat) (row ids : List Int) : List TTok := ids.flatMap (joinS xs ps row)
def madeS (xs : List TItem) (ps : List TPat) (id : Int) (k : Nat) (B F : List TTok) (A : List Int) : List TTok :=
 (if k = 0 then joinS xs ps [] id else B.flatMap fun t => joinS xs ps t.Ids id) ++ F.flatMap fun t => longS xs ps t.Ids A
def finS (xs : List TItem) (ps ns : List TPat) (k : Nat) (t : TTok) : TTok := if k + 1 = ps.length then ⟨t.Ids, hitsT xs ns (okB xs ps t.Ids).1⟩ else t
theorem joinS_fin {xs : List TItem} {ps ns : List TPat} {row : List Int} {id : Int} {k : Nat} (h : row.length = k) : (joinS xs ps row id).map (finS xs ps ns k) = joinT xs ps ns row id := by
 subst h
 unfold joinS joinT
 by_cases hok : (okB xs ps (row ++ [id])).2 = true
 ·rw [if_pos hok, if_pos hok, List.map_cons, List.map_nil]
  unfold finS
  by_cases hk : row.length + 1 = ps.length
  ·rw [if_pos hk, if_pos hk]
  ·rw [if_neg hk, if_neg hk]
 ·rw [if_neg hok, if_neg hok]; rfl
theorem longS_fin {xs : List TItem} {ps ns : List TPat} {row : List Int} {k : Nat} (h : row.length = k) (ids : List Int) : (longS xs ps row ids).map (finS xs ps ns k) = longT xs ps ns row ids := by
 unfold longS longT
 rw [List.map_flatMap]
 congr 1
 funext v
 exact joinS_fin h
theorem flatMap_congr' {α β : Type} {f g : α → List β} : ∀ {l : List α}, (∀ x ∈ l, f x = g x) → l.flatMap f = l.flatMap g
 | [], _ => rfl
 | x :: t, h => by rw [List.flatMap_cons, List.flatMap_cons, h x (by simp), flatMap_congr' fun y hy => h y (by simp [hy])]
theorem madeS_fin {xs : List TItem} {ps ns : List TPat} {id : Int} {k : Nat} {B F : List TTok} {A : List Int} (h0 : k = 0 → F = []) (hB : ∀ t ∈ B, t.Ids.length = k) (hF : ∀ t ∈ F, t.Ids.length = k) : (madeS xs ps id k B F A).map (finS xs ps ns k) = madeT xs ps ns id k B F A := by
 unfold madeS madeT
 rw [List.map_append]
 by_cases hk : k = 0
 ·rw [if_pos hk, if_pos hk, h0 hk, joinS_fin (by simp [hk])]
  simp [longT]
 ·rw [if_neg hk, if_neg hk, List.map_flatMap, List.map_flatMap]
  congr 1
  ·refine flatMap_congr' fun t ht => ?_
   rw [joinS_fin (hB t ht)]; simp [longT]
  ·exact flatMap_congr' fun t ht => longS_fin (hF t ht) A
theorem joinS_len (xs : List TItem) (ps : List TPat) (row : List Int) (id : Int) : (joinS xs ps row id).length ≤ 1 := by unfold joinS; split <;> simp
theorem longS_len (xs : List TItem) (ps : List TPat) (row : List Int) : ∀ (ids : List Int), (longS xs ps row ids).length ≤ ids.length
 | [] => by simp [longS]
 | v :: ids => by
  have h1 := longS_len xs ps row ids
  have h2 := joinS_len xs ps row v
  unfold longS at h1 ⊢
  rw [List.flatMap_cons, List.length_append, List.length_cons]; omega
theorem madeS_ok {xs : List TItem} {ps : List TPat} {id : Int} {k : Nat} {B F : List TTok} {A : List Int} (hB : ∀ t ∈ B, t.Ids.length = k) (hF : ∀ t ∈ F, t.Ids.length = k) : ∀ t ∈ madeS xs ps id k B F A, t.Ids.length = k + 1 ∧ (okB xs ps t.Ids).2 = true := by
 have hj : ∀ (row : List Int) (v : Int), row.length = k → ∀ t ∈ joinS xs ps row v, t.Ids.length = k + 1 ∧ (okB xs ps t.Ids).2 = true := fun row v hr t ht => by
  unfold joinS at ht
  split at ht
  ·simp only [List.mem_singleton] at ht; subst ht; exact ⟨by simp [hr], by assumption⟩
  ·cases ht
 intro t ht
 unfold madeS at ht
 rcases List.mem_append.1 ht with h | h
 ·split at h
  ·rename_i hk; exact hj [] id (by simp [hk]) t h
  ·obtain ⟨u, hu, h⟩ := List.mem_flatMap.1 h
   exact hj _ _ (hB u hu) t h
 ·obtain ⟨u, hu, h⟩ := List.mem_flatMap.1 h
  unfold longS at h
  obtain ⟨v, _, h⟩ := List.mem_flatMap.1 h
  exact hj _ _ (hF u hu) t h
theorem rule_l6 {N : Nat} (hN : 1099000000000 ≤ N) (r : TRule) (s : TStore) (hz : SzS r s) (F : List TTok) (x12 : TIds) (j : Nat) (K : List TTok → Int → Option TMem) (t : TTok) (ht : idx F (j : Int) = some t) (hj : j ≤ 4294967296) (hr : t.Ids.length + 1 ≤ posCount r.Pats) (hA : x12.L.length ≤ 4294967296) (u0 : List TTok) (hl : u0.length + x12.L.length ≤ 4294967296) :
  m_s_l13Rule_l6 N r s F x12 (j : Int) K N u0 0 = K (u0 ++ longS s.Items (pos r.Pats) t.Ids x12.L) ((j + 1 : Nat) : Int) := by
 refine lp' hN x12.L hA (fun n (u : List TTok) i => m_s_l13Rule_l6 N r s F x12 (j : Int) K n u i) (fun w u => K (u ++ longS s.Items (pos r.Pats) t.Ids w) ((j + 1 : Nat) : Int)) (fun u w => u.length + w.length ≤ 4294967296) u0 hl (fun n u i v w g1 g2 g3 g4 g5 g6 gI gh => ?_) (fun n u i g1 g2 gI => ?_)
 ·simp only [List.length_cons] at gI
  have h1 := joinS_len s.Items (pos r.Pats) t.Ids v
  simp only [m_s_l13Rule_l6, g5, if_true, ht, g4, Option.bind_some, join_s hN r s hz u t.Ids v hr (by omega), g6]
  rw [gh _ (by rw [List.length_append]; omega)]
  simp [longS]
 ·simp only [m_s_l13Rule_l6, g2, Bool.false_eq_true, if_false, wr1 j (by omega)]; simp [longS]
theorem rule_l5 {N : Nat} (hN : 1099000000000 ≤ N) (r : TRule) (s : TStore) (hz : SzS r s) (x1 : TRow) (s1 : List TLevel) (F : List TTok) (k : Int) (K : List TLevel → List TTok → Int → Option TMem) (x12 : TIds) (hF : ∀ t ∈ F, t.Ids.length + 1 ≤ posCount r.Pats) (hFl : F.length ≤ 4294967296) (hA : x12.L.length ≤ 4294967296) (u0 : List TTok) (hl : u0.length + F.length * x12.L.length ≤ 4294967296) :
  m_s_l13Rule_l5 N r s x1 s1 F k K x12 N u0 0 = m_s_l13Rule_l7 N r s x1 s1 k K N (u0 ++ F.flatMap fun t => longS s.Items (pos r.Pats) t.Ids x12.L) 0 := by
 refine lp' hN F hFl (fun n (u : List TTok) i => m_s_l13Rule_l5 N r s x1 s1 F k K x12 n u i) (fun w u => m_s_l13Rule_l7 N r s x1 s1 k K N (u ++ w.flatMap fun t => longS s.Items (pos r.Pats) t.Ids x12.L) 0) (fun u w => u.length + w.length * x12.L.length ≤ 4294967296) u0 hl (fun n u i v w g1 g2 g3 g4 g5 g6 gI gh => ?_) (fun n u i g1 g2 gI => ?_)
 ·rw [List.length_cons, Nat.succ_mul] at gI
  have h1 := longS_len s.Items (pos r.Pats) v.Ids x12.L
  simp only [m_s_l13Rule_l5, g5, if_true]
  rw [rule_l6 hN r s hz F x12 i _ v g4 (by omega) (hF v g2) hA u (by omega), gh _ (by rw [List.length_append]; omega), List.flatMap_cons, List.append_assoc]
 ·simp only [m_s_l13Rule_l5, g2, Bool.false_eq_true, if_false]; simp
theorem rule_l7 {N : Nat} (hN : 1099000000000 ≤ N) (r : TRule) (s : TStore) (hz : SzS r s) (x1 : TRow) (done : List TLevel) (L : TLevel) (Ls : List TLevel) (K : List TLevel → List TTok → Int → Option TMem) (hx : x1.Levels.length = (pos r.Pats).length) (hk : done.length + 1 ≤ (pos r.Pats).length) (hpp : (pos r.Pats).length = posCount r.Pats) (M : List TTok)
  (hM : ∀ t ∈ M, t.Ids.length = done.length + 1 ∧ (okB s.Items (pos r.Pats) t.Ids).2 = true) (hl : L.Toks.length + M.length ≤ 4294967296) :
  m_s_l13Rule_l7 N r s x1 (done ++ L :: Ls) (done.length : Int) K N M 0 = K (done ++ ⟨L.Toks ++ M.map (finS s.Items (pos r.Pats) (neg r.Pats) done.length)⟩ :: Ls) (M.map (finS s.Items (pos r.Pats) (neg r.Pats) done.length)) ((done.length + 1 : Nat) : Int) := by
 have hpl := hz.pl
 have hpc := posCount_le r.Pats
 have ew : IntKind.i64.wrap ((x1.Levels.length : Int) - 1) = ((x1.Levels.length - 1 : Nat) : Int) := by
  rw [show ((x1.Levels.length : Int) - 1) = ((x1.Levels.length - 1 : Nat) : Int) by omega]
  exact wr (by omega) (by omega)
 have fin : ∀ (n : Nat) (Z : List TTok) (i : Int), Z.length = M.length → ((if decide (i < (Z.length : Int)) then some (decide ((done.length : Int) = IntKind.i64.wrap ((x1.Levels.length : Int) - 1))) else some false) = some false) →
   m_s_l13Rule_l7 N r s x1 (done ++ L :: Ls) (done.length : Int) K (n + 1) Z i = K (done ++ ⟨L.Toks ++ Z⟩ :: Ls) Z ((done.length + 1 : Nat) : Int) := by
  intro n Z i hZ hb
  have e6 : (done ++ L :: Ls).set ((done.length : Int)).toNat (⟨L.Toks ++ Z⟩ : TLevel) = done ++ ⟨L.Toks ++ Z⟩ :: Ls := by rw [Int.toNat_natCast, set_mid, List.append_assoc]; rfl
  simp only [m_s_l13Rule_l7, hb, Option.bind_some, Bool.false_eq_true, if_false, idx_mid, app_ok (show L.Toks.length + Z.length ≤ 4294967296 by omega), e6, wr1 done.length (by omega)]
 by_cases hlast : done.length + 1 = (pos r.Pats).length
 ·have c2 : decide ((done.length : Int) = IntKind.i64.wrap ((x1.Levels.length : Int) - 1)) = true := by rw [ew]; exact decide_eq_true (by omega)
  have lp : ∀ (Z : List TTok) (n : Nat) (D : List TTok), Z.length < n → D.length + Z.length = M.length → (∀ t ∈ Z, t ∈ M) →
    m_s_l13Rule_l7 N r s x1 (done ++ L :: Ls) (done.length : Int) K n (D ++ Z) (D.length : Int) = K (done ++ ⟨L.Toks ++ (D ++ Z.map (finS s.Items (pos r.Pats) (neg r.Pats) done.length))⟩ :: Ls) (D ++ Z.map (finS s.Items (pos r.Pats) (neg r.Pats) done.length)) ((done.length + 1 : Nat) : Int) := by
   intro Z
   induction Z with
   | nil =>
    intro n D hn hD hm
    obtain ⟨n, rfl⟩ : ∃ m, n = m + 1 := ⟨n - 1, by simp at hn; omega⟩
    have c1 : decide ((D.length : Int) < ((D ++ []).length : Int)) = false := decide_eq_false (by simp)
    rw [fin n (D ++ []) (D.length : Int) (by simpa using hD) (by rw [c1]; rfl)]
    simp
   | cons t Z ih =>
    intro n D hn hD hm
    obtain ⟨n, rfl⟩ : ∃ m, n = m + 1 := ⟨n - 1, by omega⟩
    simp only [List.length_cons] at hn hD
    have c1 : decide ((D.length : Int) < ((D ++ t :: Z).length : Int)) = true := decide_eq_true (by simp; omega)
    obtain ⟨h1, h2⟩ := hM t (hm t (by simp))
    have e7 : finS s.Items (pos r.Pats) (neg r.Pats) done.length t = ⟨t.Ids, hitsT s.Items (neg r.Pats) (okB s.Items (pos r.Pats) t.Ids).1⟩ := by unfold finS; rw [if_pos hlast]
    simp only [m_s_l13Rule_l7, c1, if_true, c2, Option.bind_some, idx_mid, count_s' hN r s hz t (by omega) h2, Int.toNat_natCast, set_mid, wr1 D.length (by omega)]
    have := ih n (D ++ [⟨t.Ids, hitsT s.Items (neg r.Pats) (okB s.Items (pos r.Pats) t.Ids).1⟩]) (by omega) (by simp; omega) (fun u hu => hm u (by simp [hu]))
    simp only [List.length_append, List.length_cons, List.length_nil, Nat.zero_add] at this
    rw [this, List.map_cons, e7]
    simp only [List.append_assoc, List.cons_append, List.nil_append]
  have := lp M N [] (by omega) (by simp) (fun t h => h)
  simpa using this
 ·have c2 : decide ((done.length : Int) = IntKind.i64.wrap ((x1.Levels.length : Int) - 1)) = false := by rw [ew]; exact decide_eq_false (by omega)
  have e7 : M.map (finS s.Items (pos r.Pats) (neg r.Pats) done.length) = M := by
   rw [show finS s.Items (pos r.Pats) (neg r.Pats) done.length = id from by funext t; unfold finS; rw [if_neg hlast]; rfl, List.map_id]
  obtain ⟨m, rfl⟩ : ∃ m, N = m + 1 := ⟨N - 1, by omega⟩
  rw [e7]
  have := fin m M 0 rfl (by rw [c2]; split <;> rfl)
  exact this
theorem rule_l4 {N : Nat} (hN : 1099000000000 ≤ N) (r : TRule) (s : TStore) (hz : SzS r s) (c : TChain) (m : TMem) (id : Int) (thr : List Bool) (x1 : TRow) (done : List TLevel) (L : TLevel) (Ls : List TLevel) (K : List TLevel → List TTok → Int → Option TMem) (k : Nat) (hk : done.length = k) (B F : List TTok) (a : Int) (A : TIds) (b : Bool)
  (hp1 : idx c.Pos (k : Int) = some a) (hA : idx m.Alphas a = some A) (hb : idx thr a = some b) (hbf : b = false → ∀ row : List Int, row.length = k → joinS s.Items (pos r.Pats) row id = [])
  (hd : k ≠ 0 → ∃ D, done = D ++ [⟨B ++ F⟩]) (h0 : k = 0 → B = []) (hkp : k + 1 ≤ posCount r.Pats) (hB : ∀ t ∈ B, t.Ids.length = k) (hF : ∀ t ∈ F, t.Ids.length = k) (hAl : A.L.length ≤ 4294967296) (hFl : F.length ≤ 4294967296) (u0 : List TTok) (hl : u0.length + B.length + F.length * A.L.length ≤ 4294967296) :
  m_s_l13Rule_l4 N r c m s id thr x1 (done ++ L :: Ls) F (k : Int) K (B.length : Int) N u0 0 = m_s_l13Rule_l7 N r s x1 (done ++ L :: Ls) (k : Int) K N (u0 ++ (B.flatMap fun t => joinS s.Items (pos r.Pats) t.Ids id) ++ F.flatMap fun t => longS s.Items (pos r.Pats) t.Ids A.L) 0 := by
 have hpl := hz.pl
 have hpc := posCount_le r.Pats
 have tail : ∀ (n : Nat) (u : List TTok) (i : Int), ((if decide (i < (B.length : Int)) then ((idx c.Pos (k : Int)).bind fun x6 => ((idx thr x6).bind fun x7 => some x7)) else some false) = some false) → u.length + F.length * A.L.length ≤ 4294967296 →
   m_s_l13Rule_l4 N r c m s id thr x1 (done ++ L :: Ls) F (k : Int) K (B.length : Int) (n + 1) u i = m_s_l13Rule_l7 N r s x1 (done ++ L :: Ls) (k : Int) K N (u ++ F.flatMap fun t => longS s.Items (pos r.Pats) t.Ids A.L) 0 := by
  intro n u i hc hu
  unfold m_s_l13Rule_l4
  rw [hc]
  simp only [Option.bind_some, Bool.false_eq_true, if_false, hp1, hA]
  exact rule_l5 hN r s hz x1 _ F (k : Int) K A (fun t ht => by rw [hF t ht]; exact hkp) hFl hAl u hu
 cases b with
 | false =>
  have e1 : (B.flatMap fun t => joinS s.Items (pos r.Pats) t.Ids id) = [] := by
   rw [flatMap_congr' (g := fun _ => []) fun t ht => hbf rfl _ (hB t ht)]; simp
  obtain ⟨n, rfl⟩ : ∃ n, N = n + 1 := ⟨N - 1, by omega⟩
  rw [e1, List.append_nil]
  exact tail n u0 0 (by simp only [hp1, hb, Option.bind_some]; split <;> rfl) (by omega)
 | true =>
  have lp : ∀ (Z : List TTok) (n : Nat) (D : List TTok) (u : List TTok), Z.length < n → B = D ++ Z → u.length + Z.length + F.length * A.L.length ≤ 4294967296 →
    m_s_l13Rule_l4 N r c m s id thr x1 (done ++ L :: Ls) F (k : Int) K (B.length : Int) n u (D.length : Int) = m_s_l13Rule_l7 N r s x1 (done ++ L :: Ls) (k : Int) K N (u ++ (Z.flatMap fun t => joinS s.Items (pos r.Pats) t.Ids id) ++ F.flatMap fun t => longS s.Items (pos r.Pats) t.Ids A.L) 0 := by
   intro Z
   induction Z with
   | nil =>
    intro n D u hn hD hu
    obtain ⟨n, rfl⟩ : ∃ m, n = m + 1 := ⟨n - 1, by simp at hn; omega⟩
    have c1 : decide ((D.length : Int) < (B.length : Int)) = false := decide_eq_false (by rw [hD]; simp)
    rw [tail n u _ (by rw [c1]; rfl) (by simpa using hu)]
    simp
   | cons t Z ih =>
    intro n D u hn hD hu
    obtain ⟨n, rfl⟩ : ∃ m, n = m + 1 := ⟨n - 1, by omega⟩
    simp only [List.length_cons] at hn hu
    have hBl : B.length = D.length + (Z.length + 1) := by rw [hD]; simp
    have c1 : decide ((D.length : Int) < (B.length : Int)) = true := decide_eq_true (by omega)
    have hk0 : k ≠ 0 := fun e => by rw [h0 e] at hBl; simp at hBl
    obtain ⟨D', hD'⟩ := hd hk0
    have ew : IntKind.i64.wrap ((k : Int) - 1) = ((k - 1 : Nat) : Int) := by
     rw [show ((k : Int) - 1) = ((k - 1 : Nat) : Int) by omega]
     exact wr (by omega) (by omega)
    have e1 : idx (done ++ L :: Ls) ((k - 1 : Nat) : Int) = some ⟨B ++ F⟩ := by
     rw [hD', List.append_assoc, ← hk, hD', idx_nat]
     simp
    have e2 : idx (B ++ F) (D.length : Int) = some t := by rw [hD, List.append_assoc]; exact idx_mid _ _ _
    have h1 := joinS_len s.Items (pos r.Pats) t.Ids id
    have htk := hB t (by rw [hD]; simp)
    simp only [m_s_l13Rule_l4, c1, if_true, hp1, hb, Option.bind_some, ew, e1, e2, join_s hN r s hz u t.Ids id (by omega) (by omega), wr1 D.length (by omega)]
    have := ih n (D ++ [t]) (u ++ joinS s.Items (pos r.Pats) t.Ids id) (by omega) (by rw [hD]; simp) (by rw [List.length_append]; omega)
    simp only [List.length_append, List.length_cons, List.length_nil, Nat.zero_add] at this
    rw [this, List.flatMap_cons]
    simp only [List.append_assoc]
  exact lp B N [] u0 (by omega) rfl hl
theorem rule_l1 {N : Nat} (hN : 1099000000000 ≤ N) (r : TRule) (s : TStore) (hz : SzS r s) (c : TChain) (m : TMem) (at_ id : Int) (thr : List Bool) (x1 : TRow) (hx : x1.Levels.length = (pos r.Pats).length) (hx1 : 1 ≤ x1.Levels.length) (hpp : (pos r.Pats).length = posCount r.Pats) (A : Nat → List Int) (hAl : ∀ k, (A k).length ≤ 4294967296)
  (hA : ∀ k, k < x1.Levels.length → ∃ a i b, idx c.Pos (k : Int) = some a ∧ idx m.Alphas a = some i ∧ i.L = A k ∧ idx thr a = some b ∧ (b = false → ∀ row : List Int, row.length = k → joinS s.Items (pos r.Pats) row id = [])) :
  ∀ (rest : List TLevel) (n : Nat) (done : List TLevel) (B F : List TTok), rest.length < n → done.length + rest.length = x1.Levels.length → (done.length ≠ 0 → ∃ D, done = D ++ [⟨B ++ F⟩]) → (done.length = 0 → B = [] ∧ F = []) → (∀ t ∈ B, t.Ids.length = done.length) → (∀ t ∈ F, t.Ids.length = done.length) → (∀ i L, rest[i]? = some L → ∀ t ∈ L.Toks, t.Ids.length = done.length + 1 + i) →
   F.length ≤ 4294967296 → fits (fun k => (A k).length) done.length (rest.map (·.Toks.length)) B.length F.length →
   m_s_l13Rule_l1 N r c m at_ s id thr x1 n (done ++ rest) F (done.length : Int) = some ⟨m.Alphas, m.Rules.set at_.toNat ⟨done ++ growT s.Items (pos r.Pats) (neg r.Pats) id A done.length rest B F⟩⟩
 | [], n, done, B, F, hn, hd, hD, h0, hB, hF, hL, hFl, hf => by
  obtain ⟨n, rfl⟩ : ∃ m, n = m + 1 := ⟨n - 1, by simp at hn; omega⟩
  simp only [List.length_nil, Nat.add_zero] at hd
  have hpl := hz.pl
  have hpc := posCount_le r.Pats
  have ew : IntKind.i64.wrap ((x1.Levels.length : Int) - 1) = ((x1.Levels.length - 1 : Nat) : Int) := by
   rw [show ((x1.Levels.length : Int) - 1) = ((x1.Levels.length - 1 : Nat) : Int) by omega]
   exact wr (by omega) (by omega)
  have c1 : decide ((done.length : Int) ≤ IntKind.i64.wrap ((x1.Levels.length : Int) - 1)) = false := by rw [ew]; exact decide_eq_false (by omega)
  simp only [m_s_l13Rule_l1, c1, Bool.false_eq_true, if_false, growT]
 | L :: Ls, n, done, B, F, hn, hd, hD, h0, hB, hF, hL, hFl, hf => by
  obtain ⟨n, rfl⟩ : ∃ m, n = m + 1 := ⟨n - 1, by omega⟩
  simp only [List.length_cons] at hn hd
  obtain ⟨hf1, hf2⟩ := hf
  simp only at hf1 hf2
  have hpl := hz.pl
  have hpc := posCount_le r.Pats
  have ew : IntKind.i64.wrap ((x1.Levels.length : Int) - 1) = ((x1.Levels.length - 1 : Nat) : Int) := by
   rw [show ((x1.Levels.length : Int) - 1) = ((x1.Levels.length - 1 : Nat) : Int) by omega]
   exact wr (by omega) (by omega)
  have c1 : decide ((done.length : Int) ≤ IntKind.i64.wrap ((x1.Levels.length : Int) - 1)) = true := by rw [ew]; exact decide_eq_true (by omega)
  obtain ⟨a, i, b, ha, hi, hiA, hb, hbf⟩ := hA done.length (by omega)
  have hml := madeT_len s.Items (pos r.Pats) (neg r.Pats) id done.length B F (A done.length)
  have hmi := madeT_ids (xs := s.Items) (ps := pos r.Pats) (ns := neg r.Pats) (id := id) (A := A done.length) hB hF
  have hfin := madeS_fin (xs := s.Items) (ps := pos r.Pats) (ns := neg r.Pats) (id := id) (A := A done.length) (fun e => (h0 e).2) hB hF
  have hsok := madeS_ok (xs := s.Items) (ps := pos r.Pats) (id := id) (A := A done.length) hB hF
  have hsl : (madeS s.Items (pos r.Pats) id done.length B F (A done.length)).length = (madeT s.Items (pos r.Pats) (neg r.Pats) id done.length B F (A done.length)).length := by rw [← hfin, List.length_map]
  have key : ∀ M, M = madeS s.Items (pos r.Pats) id done.length B F (A done.length) → m_s_l13Rule_l7 N r s x1 (done ++ L :: Ls) (done.length : Int) (m_s_l13Rule_l1 N r c m at_ s id thr x1 n) N M 0 = some ⟨m.Alphas, m.Rules.set at_.toNat ⟨done ++ growT s.Items (pos r.Pats) (neg r.Pats) id A done.length (L :: Ls) B F⟩⟩ := by
   intro M hM
   subst hM
   rw [rule_l7 hN r s hz x1 done L Ls _ hx (by omega) hpp _ hsok (by omega), hfin]
   have := rule_l1 hN r s hz c m at_ id thr x1 hx hx1 hpp A hAl hA Ls n (done ++ [⟨L.Toks ++ madeT s.Items (pos r.Pats) (neg r.Pats) id done.length B F (A done.length)⟩]) L.Toks (madeT s.Items (pos r.Pats) (neg r.Pats) id done.length B F (A done.length)) (by omega) (by simp; omega)
    (fun _ => ⟨done, rfl⟩) (fun e => by simp at e) (fun t ht => by have := hL 0 L rfl t ht; simpa using this) (fun t ht => by simpa using hmi t ht) (fun j M hj t ht => by have := hL (j + 1) M (by simpa using hj) t ht; simp only [List.length_append, List.length_cons, List.length_nil]; omega) (by omega)
    (by simp only [List.length_append, List.length_cons, List.length_nil]; exact fits_mono hf2 (Nat.le_refl _) hml)
   simp only [List.length_append, List.length_cons, List.length_nil, Nat.zero_add, List.append_assoc, List.cons_append, List.nil_append] at this
   exact this
  simp only [m_s_l13Rule_l1, c1, if_true]
  by_cases hk0 : done.length = 0
  ·obtain ⟨rfl, rfl⟩ := h0 hk0
   have c2 : decide ((done.length : Int) = 0) = true := decide_eq_true (by omega)
   have c3 : decide ((0 : Int) < (done.length : Int)) = false := decide_eq_false (by omega)
   have ha0 : idx c.Pos 0 = some a := by rw [← ha, hk0]; rfl
   have h1 := joinS_len s.Items (pos r.Pats) [] id
   have fin : ∀ u0, u0 = joinS s.Items (pos r.Pats) [] id → m_s_l13Rule_j2 N r c m s id thr x1 (done ++ L :: Ls) [] (done.length : Int) (m_s_l13Rule_l1 N r c m at_ s id thr x1 n) u0 = some ⟨m.Alphas, m.Rules.set at_.toNat ⟨done ++ growT s.Items (pos r.Pats) (neg r.Pats) id A done.length (L :: Ls) [] []⟩⟩ := by
    intro u0 hu
    unfold m_s_l13Rule_j2 m_s_l13Rule_j3
    rw [c3]
    simp only [Bool.false_eq_true, if_false]
    have hul : u0.length ≤ 1 := by rw [hu]; exact h1
    have := rule_l4 hN r s hz c m id thr x1 done L Ls (m_s_l13Rule_l1 N r c m at_ s id thr x1 n) done.length rfl [] [] a i b ha hi hb hbf (fun e => absurd hk0 e) (fun _ => rfl) (by omega) (by simp) (by simp) (by rw [hiA]; exact hAl _) (by simp) u0 (by simp; omega)
    simp only [List.length_nil, Int.natCast_zero] at this
    have h5 : m_s_l13Rule_l4 N r c m s id thr x1 (done ++ L :: Ls) [] (done.length : Int) (m_s_l13Rule_l1 N r c m at_ s id thr x1 n) 0 N u0 0 = _ := this
    rw [h5]
    exact key _ (by unfold madeS; rw [if_pos hk0, hu]; simp)
   simp only [c2, if_true, ha0, hb, Option.bind_some]
   cases b with
   | true =>
    simp only [if_true, join_s hN r s hz [] [] id (by simp; omega) (by simp), Option.bind_some]
    exact fin _ (by simp)
   | false =>
    simp only [Bool.false_eq_true, if_false]
    exact fin _ (hbf rfl [] (by simp [hk0])).symm
  ·have c2 : decide ((done.length : Int) = 0) = false := decide_eq_false (by omega)
   have c3 : decide ((0 : Int) < (done.length : Int)) = true := decide_eq_true (by omega)
   obtain ⟨D', hD'⟩ := hD hk0
   have ew2 : IntKind.i64.wrap ((done.length : Int) - 1) = ((done.length - 1 : Nat) : Int) := by
    rw [show ((done.length : Int) - 1) = ((done.length - 1 : Nat) : Int) by omega]
    exact wr (by omega) (by omega)
   have e1 : idx (done ++ L :: Ls) ((done.length - 1 : Nat) : Int) = some ⟨B ++ F⟩ := by
    rw [hD', List.append_assoc, idx_nat]
    simp
   rw [if_neg hk0] at hf1
   have hBl : B.length ≤ 4294967296 := by omega
   have e2 : IntKind.i64.wrap (((B ++ F).length : Int) - (F.length : Int)) = (B.length : Int) := by
    rw [List.length_append, show (((B.length + F.length : Nat) : Int) - (F.length : Int)) = (B.length : Int) by omega]
    exact wr (by omega) (by omega)
   simp only [c2, Bool.false_eq_true, if_false, Option.bind_some, m_s_l13Rule_j2, c3, if_true, ew2, e1, e2, m_s_l13Rule_j3]
   rw [rule_l4 hN r s hz c m id thr x1 done L Ls _ done.length rfl B F a i b ha hi hb hbf (fun _ => ⟨D', hD'⟩) (fun e => absurd e hk0) (by omega) hB hF (by rw [hiA]; exact hAl _) hFl [] (by rw [hiA]; simp; omega)]
   exact key _ (by unfold madeS; rw [if_neg hk0, hiA]; simp)
theorem match_ats {b0 : List TBind} : ∀ (as : List TArg) (vs : List TVal) (s : List TBind) (pre : List TVal), (matchArgs b0 as vs s).2 = true → as.length = vs.length → passAts (pre ++ vs) (ats pre.length as) (consts as) = true
 | [], vs, s, pre, _, _ => rfl
 | a :: as, [], s, pre, _, hl => by simp at hl
 | a :: as, v :: vs, s, pre, h, hl => by
  have hl' : as.length = vs.length := by simpa using hl
  have next : ∀ s', (matchArgs b0 as vs s').2 = true → passAts (pre ++ v :: vs) (ats (pre.length + 1) as) (consts as) = true := fun s' h' => by
   have := match_ats as vs s' (pre ++ [v]) h' hl'
   simpa using this
  unfold matchArgs at h
  unfold ats consts
  by_cases k2 : a.K = 2
  ·rw [if_pos k2] at h
   rw [if_pos k2, if_pos k2]
   by_cases he : eqT_TVal a.V v = true
   ·rw [if_pos he] at h
    rw [eqT_TVal_eq, decide_eq_true_eq] at he
    unfold passAts
    have e1 : idx (pre ++ v :: vs) (pre.length : Int) = some a.V := by
     rw [idx_nat_lt (show pre.length < (pre ++ v :: vs).length by simp), he]; simp
    rw [next s h, e1, decide_eq_true (show (0 : Int) ≤ (pre.length : Int) by omega), decide_eq_true (show (pre.length : Int) < ((pre ++ v :: vs).length : Int) by simp; omega)]
    simp
   ·rw [if_neg he] at h; cases h
  ·rw [if_neg k2] at h
   rw [if_neg k2, if_neg k2]
   split at h
   ·split at h
    ·split at h
     ·exact next s h
     ·cases h
    ·exact next _ h
   ·exact next s h
theorem match_passes {p : TPat} {f : TFact} {b : List TBind} (h : (matchPat p f b).2 = true) : passes (alphaOf p) f = true := by
 unfold matchPat at h
 split at h
 ·rename_i hc
  have := match_ats p.Args f.Fields b [] h hc.2
  have hk : seq f.Kind p.Kind = true := by
   have := hc.1
   rw [seq_eq, decide_eq_true_eq] at this ⊢
   exact this.symm
  show ((seq f.Kind p.Kind && decide ((f.Fields.length : Int) = (p.Args.length : Int))) && passAts f.Fields (ats 0 p.Args) (consts p.Args)) = true
  rw [hk, decide_eq_true (show (f.Fields.length : Int) = (p.Args.length : Int) by omega)]
  simpa using this
 ·cases h
theorem passes_s {N : Nat} (hN : 1099000000000 ≤ N) (a : TAlpha) (f : TFact) (h : a.At.length ≤ 1048576) (hf : f.Fields.length ≤ 1048576) : m_s_Passes N a f = some (passes a f) := by
 have hwr : IntKind.i64.wrap ((f.Fields.length : Int) - 1) = (f.Fields.length : Int) - 1 := wr (by omega) (by omega)
 have lp : ∀ (n i : Nat), i ≤ a.At.length → a.At.length - i < n → m_s_Passes_l1 N a f n i = some (passAts f.Fields (a.At.drop i) (a.Consts.drop i)) := by
  intro n
  induction n with
  | zero => intro i _ h; omega
  | succ n ih =>
   intro i hi hn
   simp only [m_s_Passes_l1, in0, Option.bind_some, hwr]
   by_cases hlt : i < a.At.length
   ·have c1 : decide ((i : Int) < (a.At.length : Int)) = true := decide_eq_true (by omega)
    rw [List.drop_eq_getElem_cons hlt]
    simp only [c1, if_true, idx_nat_lt hlt, Option.bind_some, wr1 i (by omega), ih (i + 1) (by omega) (by omega)]
    by_cases hc : i < a.Consts.length
    ·have c2 : decide ((a.Consts.length : Int) ≤ (i : Int)) = false := decide_eq_false (by omega)
     rw [List.drop_eq_getElem_cons hc, passAts]
     by_cases h0 : a.At[i] < 0
     ·simp [show ¬ a.Consts.length ≤ i by omega, show ¬ 0 ≤ a.At[i] by omega]
     ·by_cases h1 : (f.Fields.length : Int) ≤ a.At[i]
      ·simp [show ¬ a.Consts.length ≤ i by omega, show 0 ≤ a.At[i] by omega, show ¬ a.At[i] ≤ (f.Fields.length : Int) - 1 by omega, show ¬ a.At[i] < (f.Fields.length : Int) by omega]
      ·obtain ⟨j, hj⟩ : ∃ j : Nat, a.At[i] = (j : Int) := ⟨a.At[i].toNat, by omega⟩
       have hjl : j < f.Fields.length := by omega
       rw [hj]
       rw [hj] at h0 h1
       have hj1 : (j : Int) ≤ (f.Fields.length : Int) - 1 := by omega
       have hj0 : (0 : Int) ≤ (j : Int) := by omega
       simp only [hj0, hj1, decide_true, Bool.and_self, Bool.not_true, c2, decide_false, Bool.false_eq_true, if_false, Option.bind_some, idx_nat_lt hjl, idx_nat_lt hc, eqT_TVal_eq, Option.some.injEq]
       by_cases he : f.Fields[j] = a.Consts[i] <;> simp [he, hjl]
    ·have c2 : decide ((a.Consts.length : Int) ≤ (i : Int)) = true := decide_eq_true (by omega)
     rw [List.drop_of_length_le (show a.Consts.length ≤ i by omega), passAts]
     simp [show a.Consts.length ≤ i by omega]
   ·have c1 : decide ((i : Int) < (a.At.length : Int)) = false := decide_eq_false (by omega)
    rw [List.drop_of_length_le (show a.At.length ≤ i by omega)]
    simp only [c1, Bool.false_eq_true, if_false, passAts]
 have l0 := lp N 0 (by omega) (by omega)
 rw [List.drop_zero, List.drop_zero, show ((0 : Nat) : Int) = 0 from rfl] at l0
 unfold m_s_Passes passes
 rw [l0]
 have hk : seq a.Kind f.Kind = seq f.Kind a.Kind := by rw [seq_eq, seq_eq]; simp [eq_comm]
 rw [hk]
 have hd : decide (a.N = (f.Fields.length : Int)) = decide ((f.Fields.length : Int) = a.N) := by rw [decide_eq_decide]; exact eq_comm
 rw [hd]
 cases seq f.Kind a.Kind <;> cases decide ((f.Fields.length : Int) = a.N) <;> simp
theorem bindsP_last {xs : List TItem} {id : Int} : ∀ (ps : List TPat) (row : List Int) (l : List TBind), (bindsP xs (ps.take (row.length + 1)) (row ++ [id]) l).2 = true → ∃ p, ps[row.length]? = some p ∧ passes (alphaOf p) (factOf xs id).1 = true
 | [], row, l, h => by
  cases row <;> simp [bindsP] at h
 | p :: ps, [], l, h => by
  simp only [List.length_nil, Nat.zero_add, List.take_succ_cons, List.nil_append, bindsP] at h
  split at h
  ·rename_i hc
   exact ⟨p, rfl, match_passes hc.2⟩
  ·cases h
 | p :: ps, v :: row, l, h => by
  simp only [List.length_cons, List.take_succ_cons, List.cons_append, bindsP] at h
  split at h
  ·have := bindsP_last ps row _ h
   simpa using this
  ·cases h
theorem joinS_not {xs : List TItem} {ps : List TPat} {row : List Int} {id : Int} {p : TPat} (hp : ps[row.length]? = some p) (h : passes (alphaOf p) (factOf xs id).1 = false) : joinS xs ps row id = [] := by
 unfold joinS
 rw [if_neg]
 intro hk
 unfold okB at hk
 rw [List.length_append, List.length_cons, List.length_nil, Nat.zero_add] at hk
 obtain ⟨q, hq, h2⟩ := bindsP_last ps row [] hk
 rw [hp] at hq
 cases hq
 rw [h] at h2
 cases h2
theorem rowS_s {N : Nat} (hN : 1099000000000 ≤ N) (r : TRule) (c : TChain) (m : TMem) (at_ : Int) (s : TStore) (id : Int) (thr : List Bool) (row : TRow) (hz : SzS r s) (hpp : (pos r.Pats).length = posCount r.Pats) (hrow : idx m.Rules at_ = some row) (ok : RowOk m.Alphas r c row)
  (hir : ∀ L, row.Levels[row.Levels.length - 1]? = some L → ∀ t ∈ L.Toks, ∀ x ∈ t.Hits, InR x)
  (hthr : ∀ k, k < row.Levels.length → ∃ a i b, idx c.Pos (k : Int) = some a ∧ idx m.Alphas a = some i ∧ idx thr a = some b ∧ (b = false → ∀ row : List Int, row.length = k → joinS s.Items (pos r.Pats) row id = [])) :
  m_s_l13Rule N r c m at_ s id (factOf s.Items id).1 thr = some ⟨m.Alphas, m.Rules.set at_.toNat ⟨(ruleT s.Items m.Alphas (factOf s.Items id).1 id r c row).Levels⟩⟩ := by
 have hne := ok.ne
 have hll := ok.ll
 have hpl := hz.pl
 have hpc := posCount_le r.Pats
 have ew : IntKind.i64.wrap ((row.Levels.length : Int) - 1) = ((row.Levels.length - 1 : Nat) : Int) := by
  rw [show ((row.Levels.length : Int) - 1) = ((row.Levels.length - 1 : Nat) : Int) by omega]
  exact wr (by omega) (by omega)
 have hlt : row.Levels.length - 1 < row.Levels.length := by omega
 have hL : row.Levels[row.Levels.length - 1]? = some row.Levels[row.Levels.length - 1] := List.getElem?_eq_getElem hlt
 have hlen : (row.Levels[row.Levels.length - 1]).Toks.length ≤ 4294967296 := fits_at ok.fit _ (List.mem_map.2 ⟨_, List.getElem_mem hlt, rfl⟩)
 have hset := set_lens (M := turnT s.Items (pos r.Pats) (neg r.Pats) (factOf s.Items id).1 1 (row.Levels[row.Levels.length - 1]).Toks) hL (turnT_len _)
 unfold m_s_l13Rule
 rw [hrow, Option.bind_some, ew, idx_nat_lt hlt, Option.bind_some, turn_s hN r s hz _ 1 (Or.inl rfl) _ hlen (fun t ht => ⟨by have := ok.ids _ _ hL t ht; omega, ok.hit _ hL t ht, hir _ hL t ht⟩), Option.bind_some, Int.toNat_natCast]
 have h1 := rule_l1 hN r s hz c m at_ id thr row hll hne hpp (lets m.Alphas c) ok.al
  (fun k hk => by
   obtain ⟨a, i, b, h1, h2, h3, h4⟩ := hthr k hk
   exact ⟨a, i, b, h1, h2, lets_some h1 h2, h3, h4⟩)
  (row.Levels.set (row.Levels.length - 1) ⟨turnT s.Items (pos r.Pats) (neg r.Pats) (factOf s.Items id).1 1 (row.Levels[row.Levels.length - 1]).Toks⟩) N [] [] [] (by rw [List.length_set]; omega) (by simp) (fun e => absurd rfl e) (fun _ => ⟨rfl, rfl⟩) (by simp) (by simp)
  (fun i L hi t ht => by
   rw [List.length_nil, Nat.zero_add, Nat.add_comm]
   rw [List.getElem?_set] at hi
   split at hi
   ·rename_i e; subst e
    ·simp only [Option.some.injEq] at hi
     subst hi
     have h1 := turnT_ids (xs := s.Items) (ps := pos r.Pats) (ns := neg r.Pats) (f := (factOf s.Items id).1) (b := 1) (row.Levels[row.Levels.length - 1]).Toks
     have h2 : t.Ids ∈ (row.Levels[row.Levels.length - 1]).Toks.map (·.Ids) := by rw [← h1]; exact List.mem_map.2 ⟨t, ht, rfl⟩
     obtain ⟨u, hu, e⟩ := List.mem_map.1 h2
     rw [← e]; exact ok.ids _ _ hL u hu
   ·exact ok.ids i L hi t ht)
  (by simp) (by rw [hset]; exact ok.fit)
 simp only [List.nil_append, List.length_nil, Int.natCast_zero] at h1
 have h2 : m_s_l13Rule_l1 N r c m at_ s id thr row N (row.Levels.set (row.Levels.length - 1) ⟨turnT s.Items (pos r.Pats) (neg r.Pats) (factOf s.Items id).1 1 (row.Levels[row.Levels.length - 1]).Toks⟩) [] 0 = _ := h1
 rw [h2]
 unfold ruleT turnLast
 rw [hL]
theorem adds_l2 {N : Nat} (hN : 1099000000000 ≤ N) (d : TDef) (n : TNet) (s : TStore) (id : Int) (b : Bool) (as : List TIds) (thr : List Bool) (hlr : d.Rules.length ≤ 1048576) :
  ∀ (ws : List TRow) (rs : List TRule) (cs : List TChain) (k : Nat) (dr : List TRule) (dc : List TChain) (dw : List TRow), ws.length < k → d.Rules = dr ++ rs → n.Chains = dc ++ cs → dr.length = dw.length → dc.length = dw.length → rs.length = ws.length → cs.length = ws.length →
   (∀ (i : Nat) (r : TRule) (c : TChain) (w : TRow), rs[i]? = some r → cs[i]? = some c → ws[i]? = some w → SzS r s ∧ (pos r.Pats).length = posCount r.Pats ∧ RowOk as r c w ∧ (∀ L, w.Levels[w.Levels.length - 1]? = some L → ∀ t ∈ L.Toks, ∀ x ∈ t.Hits, InR x) ∧
    ∀ k, k < w.Levels.length → ∃ a i b, idx c.Pos (k : Int) = some a ∧ idx as a = some i ∧ idx thr a = some b ∧ (b = false → ∀ row : List Int, row.length = k → joinS s.Items (pos r.Pats) row id = [])) →
   m_s_l13Add_l2 N d n s id ((factOf s.Items id).1, b) as thr k (dw ++ ws) (dw.length : Int) = some ⟨as, dw ++ rulesT (ruleT s.Items as (factOf s.Items id).1 id) rs cs ws⟩
 | [], rs, cs, k, dr, dc, dw, hk, h1, h2, h4, h5, h6, h7, h8 => by
  obtain ⟨k, rfl⟩ : ∃ j, k = j + 1 := ⟨k - 1, by simp at hk; omega⟩
  have hr0 : rs = [] := List.length_eq_zero_iff.1 h6
  subst hr0
  have c1 : decide ((dw.length : Int) < (d.Rules.length : Int)) = false := decide_eq_false (by rw [h1, ← h4]; simp)
  simp only [m_s_l13Add_l2, c1, Bool.false_eq_true, if_false, rulesT]
 | w :: ws, [], cs, k, dr, dc, dw, hk, h1, h2, h4, h5, h6, h7, h8 => by simp at h6
 | w :: ws, r :: rs, [], k, dr, dc, dw, hk, h1, h2, h4, h5, h6, h7, h8 => by simp at h7
 | w :: ws, r :: rs, c :: cs, k, dr, dc, dw, hk, h1, h2, h4, h5, h6, h7, h8 => by
  obtain ⟨k, rfl⟩ : ∃ j, k = j + 1 := ⟨k - 1, by omega⟩
  simp only [List.length_cons] at hk h6 h7
  have hdl : d.Rules.length = dw.length + (rs.length + 1) := by rw [h1, ← h4]; simp
  have c1 : decide ((dw.length : Int) < (d.Rules.length : Int)) = true := decide_eq_true (by omega)
  obtain ⟨q1, q2, q3, q4, q5⟩ := h8 0 r c w rfl rfl rfl
  have e1 : idx d.Rules (dw.length : Int) = some r := by rw [h1, ← h4]; exact idx_mid _ _ _
  have e2 : idx n.Chains (dw.length : Int) = some c := by rw [h2, ← h5]; exact idx_mid _ _ _
  simp only [m_s_l13Add_l2, c1, if_true, Option.bind_some, e1, e2]
  rw [rowS_s hN r c ⟨as, dw ++ w :: ws⟩ (dw.length : Int) s id thr w q1 q2 (idx_mid _ _ _) q3 q4 q5]
  simp only [Option.bind_some, Int.toNat_natCast, set_mid, wr1 dw.length (by omega)]
  have := adds_l2 hN d n s id b as thr hlr ws rs cs k (dr ++ [r]) (dc ++ [c]) (dw ++ [⟨(ruleT s.Items as (factOf s.Items id).1 id r c w).Levels⟩]) (by omega) (by rw [h1]; simp) (by rw [h2]; simp) (by simp [h4]) (by simp [h5]) (by omega) (by omega)
   (fun i r' c' w' a1 a2 a3 => h8 (i + 1) r' c' w' (by simpa using a1) (by simpa using a2) (by simpa using a3))
  simp only [List.length_append, List.length_cons, List.length_nil, Nat.zero_add] at this
  rw [this, List.append_assoc]
  rfl
theorem adds_l1 {N : Nat} (hN : 1099000000000 ≤ N) (d : TDef) (n : TNet) (m : TMem) (s : TStore) (id : Int) (f : TFact × Bool) (ha : ∀ a ∈ n.Alphas, a.At.length ≤ 1048576) (hl : n.Alphas.length ≤ 1048576) (hf : f.1.Fields.length ≤ 1048576) :
  ∀ (as : List TAlpha) (k : Nat) (da : List TAlpha) (di is : List TIds), as.length < k → n.Alphas = da ++ as → di.length = da.length → is.length = as.length → (∀ i ∈ is, i.L.length + 1 ≤ 4294967296) →
   m_s_l13Add_l1 N d n m s id f k (di ++ is) (da.map fun a => passes a f.1) (da.length : Int) = m_s_l13Add_l2 N d n s id f (di ++ alphasT f.1 id as is) (n.Alphas.map fun a => passes a f.1) N m.Rules 0
 | [], k, da, di, is, hk, h1, h2, h3, h4 => by
  obtain ⟨k, rfl⟩ : ∃ j, k = j + 1 := ⟨k - 1, by simp at hk; omega⟩
  have c1 : decide ((da.length : Int) < (n.Alphas.length : Int)) = false := decide_eq_false (by rw [h1]; simp)
  have e : n.Alphas = da := by rw [h1]; simp
  simp only [m_s_l13Add_l1, c1, Bool.false_eq_true, if_false, alphasT]
  rw [e]
 | a :: as, k, da, di, [], hk, h1, h2, h3, h4 => by simp at h3
 | a :: as, k, da, di, i :: is, hk, h1, h2, h3, h4 => by
  obtain ⟨k, rfl⟩ : ∃ j, k = j + 1 := ⟨k - 1, by omega⟩
  simp only [List.length_cons] at hk h3
  have hal : n.Alphas.length = da.length + (as.length + 1) := by rw [h1]; simp
  have c1 : decide ((da.length : Int) < (n.Alphas.length : Int)) = true := decide_eq_true (by omega)
  have e1 : idx n.Alphas (da.length : Int) = some a := by rw [h1]; exact idx_mid _ _ _
  have e2 : idx (di ++ i :: is) (da.length : Int) = some i := by rw [← h2]; exact idx_mid _ _ _
  have ham : a ∈ n.Alphas := by rw [h1]; simp
  have hil := h4 i (by simp)
  have ih := fun y => adds_l1 hN d n m s id f ha hl hf as k (da ++ [a]) (di ++ [y]) is (by omega) (by rw [h1]; simp) (by simp [h2]) (by omega) (fun j hj => h4 j (by simp [hj]))
  simp only [List.length_append, List.length_cons, List.length_nil, Nat.zero_add, List.append_assoc, List.cons_append, List.nil_append, List.map_append, List.map_cons, List.map_nil] at ih
  simp only [m_s_l13Add_l1, c1, if_true, e1, Option.bind_some, passes_s hN a f.1 (ha a ham) hf, wr1 da.length (by omega), alphasT, app_ok (show (da.map fun a => passes a f.1).length + [passes a f.1].length ≤ 4294967296 by simp; omega)]
  cases hp : passes a f.1 with
  | true =>
   rw [hp] at ih
   simp only [if_true, e2, Option.bind_some, app_ok (show i.L.length + [id].length ≤ 4294967296 by simpa using hil)]
   have e3 : (di ++ i :: is).set ((da.length : Int)).toNat (⟨i.L ++ [id]⟩ : TIds) = di ++ ⟨i.L ++ [id]⟩ :: is := by
    rw [Int.toNat_natCast, ← h2, set_mid, List.append_assoc]; rfl
   rw [e3]
   exact ih _
  | false =>
   rw [hp] at ih
   simp only [Bool.false_eq_true, if_false]
   exact ih i
theorem alphasT_len {f : TFact} {id : Int} : ∀ (as : List TAlpha) (is : List TIds), (alphasT f id as is).length = is.length
 | [], is => by simp [alphasT]
 | a :: as, [] => by simp [alphasT]
 | a :: as, i :: is => by simp [alphasT, alphasT_len as is]
structure AddOkS (d : TDef) (n : TNet) (m : TMem) (s : TStore) (id : Int) : Prop where
 ok : AddOk d n m s id
 ats : Ats n.Alphas n.Chains d.Rules
 rows : ∀ (i : Nat) (r : TRule) (w : TRow), d.Rules[i]? = some r → m.Rules[i]? = some w → SzS r s ∧ (pos r.Pats).length = posCount r.Pats ∧ ∀ L, w.Levels[w.Levels.length - 1]? = some L → ∀ t ∈ L.Toks, ∀ x ∈ t.Hits, InR x
theorem add_s {N : Nat} (hN : 1099000000000 ≤ N) (d : TDef) (n : TNet) (m : TMem) (s : TStore) (id : Int) (h : AddOkS d n m s id) : m_s_l13Add N d n m s id = some (addT d n m s id) := by
 have hal := h.ok.al
 have hrl := h.ok.rl
 have hld := h.ok.ld
 have hla := h.ok.la
 unfold m_s_l13Add
 rw [factOf_s hN s id h.ok.sl h.ok.fl, Option.bind_some]
 have h1 := adds_l1 hN d n m s id (factOf s.Items id) h.ok.at_ h.ok.al (factOf_len h.ok.fl id) n.Alphas N [] [] m.Alphas (by omega) rfl rfl h.ok.la h.ok.il
 simp only [List.nil_append, List.length_nil, Int.natCast_zero, List.map_nil] at h1
 have h1' : m_s_l13Add_l1 N d n m s id (factOf s.Items id) N m.Alphas [] 0 = _ := h1
 rw [h1']
 have h2 := adds_l2 hN d n s id (factOf s.Items id).2 (alphasT (factOf s.Items id).1 id n.Alphas m.Alphas) (n.Alphas.map fun a => passes a (factOf s.Items id).1) (by omega) m.Rules d.Rules n.Chains N [] [] [] (by omega) rfl rfl rfl rfl h.ok.ld h.ok.lc
  (fun i r c w g1 g2 g3 => by
   obtain ⟨q1, q2⟩ := h.ok.rows i r c w g1 g2 g3
   obtain ⟨q3, q4, q5⟩ := h.rows i r w g1 g3
   refine ⟨q3, q4, q2, q5, fun k hk => ?_⟩
   obtain ⟨hi, hr⟩ := List.getElem?_eq_some_iff.1 g1
   obtain ⟨hi', hc⟩ := List.getElem?_eq_some_iff.1 g2
   have hat := (h.ats.get i hi' hi).1
   rw [hc, hr] at hat
   have hkp : k < (pos r.Pats).length := by rw [← q2.ll]; exact hk
   have hkc : k < c.Pos.length := by rw [hat.len]; exact hkp
   have e1 := hat.get k hkc hkp
   obtain ⟨a0, a1, e⟩ := idx_some e1
   have hlt : c.Pos[k].toNat < (alphasT (factOf s.Items id).1 id n.Alphas m.Alphas).length := by
    rw [alphasT_len, hla]
    obtain ⟨q, _⟩ := List.getElem?_eq_some_iff.1 e
    exact q
   have ecp : c.Pos[k] = ((c.Pos[k].toNat : Nat) : Int) := by omega
   refine ⟨c.Pos[k], _, passes (alphaOf (pos r.Pats)[k]) (factOf s.Items id).1, idx_nat_lt hkc, by rw [ecp]; exact idx_nat_lt hlt, ?_, fun hb row hrow => ?_⟩
   ·have : (n.Alphas.map fun a => passes a (factOf s.Items id).1)[c.Pos[k].toNat]? = some (passes (alphaOf (pos r.Pats)[k]) (factOf s.Items id).1) := by
     rw [List.getElem?_map, e]; rfl
    unfold idx
    rw [if_pos a0]
    exact this
   ·exact joinS_not (by rw [hrow]; exact List.getElem?_eq_getElem hkp) hb)
 simp only [List.nil_append, List.length_nil, Int.natCast_zero] at h2
 exact h2
def rowOf (c : TChain) : TRow := ⟨List.replicate c.Pos.length ⟨[]⟩⟩
def memNew (p : TNet) : TMem := ⟨List.replicate p.Alphas.length ⟨[]⟩, p.Chains.map rowOf⟩
theorem memNew_i {N : Nat} (hN : 1099000000000 ≤ N) (p : TNet) (ha : p.Alphas.length ≤ 1048576) (hc : p.Chains.length ≤ 1048576) (hp : ∀ c ∈ p.Chains, c.Pos.length ≤ 1048576) : m_i_MemNew N p = some (memNew p) := by
 unfold m_i_MemNew memNew
 rw [mk_nat _ (by omega), Option.bind_some]
 refine (lp' hN p.Chains (by omega) (fun n (u : List TRow) i => m_i_MemNew_l1 N p (List.replicate p.Alphas.length ⟨[]⟩) n u i) (fun t u => some ⟨List.replicate p.Alphas.length ⟨[]⟩, u ++ t.map rowOf⟩) (fun u t => u.length + t.length ≤ 1048576) [] (by simpa using hc) (fun n u i c t g1 g2 g3 g4 g5 g6 gI gh => ?_) (fun n u i g1 g2 gI => ?_)).trans (by simp)
 ·simp only [List.length_cons] at gI
  have hm := hp c g2
  simp only [m_i_MemNew_l1, g5, if_true, g4, Option.bind_some, mk_nat _ (show c.Pos.length ≤ 4294967296 by omega), app_ok (show u.length + [(⟨List.replicate c.Pos.length ⟨[]⟩⟩ : TRow)].length ≤ 4294967296 by simp; omega), g6]
  rw [gh _ (by simp; omega)]; simp [rowOf]
 ·simp only [m_i_MemNew_l1, g2, Bool.false_eq_true, if_false]; simp
def TokI (ps ns : List TPat) (i : Nat) (t : TTok) : Prop := t.Ids.length = i + 1 ∧ t.Hits.length ≤ ns.length ∧ (i + 1 = ps.length → t.Hits.length = ns.length ∧ ∀ x ∈ t.Hits, InR x)
def LevI (ps ns : List TPat) (j i : Nat) (L : TLevel) : Prop := L.Toks.length ≤ j * 100 ^ i ∧ ∀ t ∈ L.Toks, TokI ps ns i t
def RowI (r : TRule) (j : Nat) (w : TRow) : Prop := w.Levels.length = (pos r.Pats).length ∧ ∀ i L, w.Levels[i]? = some L → LevI (pos r.Pats) (neg r.Pats) j i L
theorem joinT_tok {xs : List TItem} {ps ns : List TPat} {row : List Int} {id : Int} (hx : xs.length ≤ 1048576) : ∀ t ∈ joinT xs ps ns row id, TokI ps ns row.length t := by
 intro t ht
 unfold joinT at ht
 split at ht
 ·simp only [List.mem_singleton] at ht
  subst ht
  refine ⟨by simp, ?_, fun e => ?_⟩
  ·simp only
   split
   ·simp [hitsT]
   ·simp
  ·simp only [e, if_true]
   refine ⟨by simp [hitsT], fun x hx' => ?_⟩
   unfold hitsT at hx'
   obtain ⟨p, _, rfl⟩ := List.mem_map.1 hx'
   have := hits_le p (okB xs ps (row ++ [id])).1 xs
   exact wr (by omega) (by omega)
 ·cases ht
theorem longT_tok {xs : List TItem} {ps ns : List TPat} {row ids : List Int} (hx : xs.length ≤ 1048576) : ∀ t ∈ longT xs ps ns row ids, TokI ps ns row.length t := by
 intro t ht
 unfold longT at ht
 obtain ⟨v, _, h⟩ := List.mem_flatMap.1 ht
 exact joinT_tok hx t h
theorem madeT_tok {xs : List TItem} {ps ns : List TPat} {id : Int} {k : Nat} {B F : List TTok} {A : List Int} (hx : xs.length ≤ 1048576) (hB : ∀ t ∈ B, t.Ids.length = k) (hF : ∀ t ∈ F, t.Ids.length = k) : ∀ t ∈ madeT xs ps ns id k B F A, TokI ps ns k t := by
 intro t ht
 unfold madeT at ht
 split at ht
 ·rename_i e
  subst e
  exact longT_tok hx t ht
 ·rcases List.mem_append.1 ht with ht | ht
  ·obtain ⟨u, hu, h⟩ := List.mem_flatMap.1 ht
   have := longT_tok hx t h
   rwa [hB u hu] at this
  ·obtain ⟨u, hu, h⟩ := List.mem_flatMap.1 ht
   have := longT_tok hx t h
   rwa [hF u hu] at this
theorem made_num {j k b f a : Nat} (hj : j ≤ 40) (ha : a ≤ 41) (h : k ≠ 0 → b ≤ j * 100 ^ (k - 1) ∧ f ≤ 100 ^ (k - 1)) : (if k = 0 then 1 else b + f * a) ≤ 100 ^ k := by
 split
 ·rename_i e; subst e; exact Nat.le_refl _
 ·rename_i e
  obtain ⟨k, rfl⟩ : ∃ m, k = m + 1 := ⟨k - 1, by omega⟩
  obtain ⟨h1, h2⟩ := h e
  simp only [Nat.add_sub_cancel] at h1 h2
  have h3 : f * a ≤ 100 ^ k * 41 := Nat.mul_le_mul h2 ha
  have h4 : j * 100 ^ k ≤ 40 * 100 ^ k := Nat.mul_le_mul_right _ hj
  rw [Nat.pow_succ]
  omega
theorem growT_inv {xs : List TItem} {ps ns : List TPat} {id : Int} {A : Nat → List Int} {j : Nat} (hj : j ≤ 40) (hA : ∀ k, (A k).length ≤ 41) (hx : xs.length ≤ 1048576) : ∀ (ls : List TLevel) (k : Nat) (B F : List TTok), (k ≠ 0 → B.length ≤ j * 100 ^ (k - 1) ∧ F.length ≤ 100 ^ (k - 1)) → (∀ t ∈ B, t.Ids.length = k) → (∀ t ∈ F, t.Ids.length = k) →
  (∀ i L, ls[i]? = some L → LevI ps ns j (k + i) L) → (growT xs ps ns id A k ls B F).length = ls.length ∧ ∀ i L, (growT xs ps ns id A k ls B F)[i]? = some L → LevI ps ns (j + 1) (k + i) L
 | [], k, B, F, h1, h2, h3, h4 => ⟨rfl, fun i L h => by simp [growT] at h⟩
 | M :: Ls, k, B, F, h1, h2, h3, h4 => by
  have hm := Nat.le_trans (madeT_len xs ps ns id k B F (A k)) (made_num hj (hA k) h1)
  have ht := madeT_tok (xs := xs) (ps := ps) (ns := ns) (id := id) (A := A k) hx h2 h3
  have hM := h4 0 M rfl
  obtain ⟨hM1, hM2⟩ := hM
  simp only [Nat.add_zero] at hM1 hM2
  have ih := growT_inv (xs := xs) (ps := ps) (ns := ns) (id := id) (A := A) hj hA hx Ls (k + 1) M.Toks (madeT xs ps ns id k B F (A k)) (fun _ => ⟨by simpa using hM1, by simpa using hm⟩) (fun t h => (hM2 t h).1) (fun t h => (ht t h).1) (fun i L h => by
   have := h4 (i + 1) L (by simpa using h)
   rwa [show k + (i + 1) = k + 1 + i by omega] at this)
  unfold growT
  refine ⟨by simp [ih.1], fun i L h => ?_⟩
  cases i with
  | zero =>
   simp only [List.getElem?_cons_zero, Option.some.injEq] at h
   subst h
   refine ⟨?_, fun t h => ?_⟩
   ·simp only [List.length_append, Nat.add_zero, Nat.succ_mul]; omega
   ·rcases List.mem_append.1 h with h | h
    ·exact hM2 t h
    ·exact ht t h
  | succ i =>
   have := ih.2 i L (by simpa using h)
   rwa [show k + 1 + i = k + (i + 1) by omega] at this
theorem wrap_in (n : Int) : InR (IntKind.i64.wrap n) := by
 have e1 : (2 : Int) ^ 64 = 18446744073709551616 := by decide
 have e2 : (2 : Int) ^ (64 - 1) = 9223372036854775808 := by decide
 unfold InR
 apply wr
 ·simp only [IntKind.wrap, IntKind.bits, IntKind.signed, e1, e2, Bool.true_and, decide_eq_true_eq]
  split <;> omega
 ·simp only [IntKind.wrap, IntKind.bits, IntKind.signed, e1, e2, Bool.true_and, decide_eq_true_eq]
  split <;> omega
theorem turnH_in {f : TFact} {l : List TBind} {b : Int} : ∀ (ns : List TPat) (h : List Int), (∀ x ∈ h, InR x) → ∀ x ∈ turnH f l b ns h, InR x
 | p :: ns, y :: h, hh, x, hx => by
  unfold turnH at hx
  rcases List.mem_cons.1 hx with rfl | hx
  ·split
   ·exact wrap_in _
   ·exact hh y (by simp)
  ·exact turnH_in ns h (fun z hz => hh z (by simp [hz])) x hx
 | [], h, hh, x, hx => by
  have : turnH f l b [] h = h := by cases h <;> rfl
  rw [this] at hx; exact hh x hx
 | p :: ns, [], hh, x, hx => by simp [turnH] at hx
theorem turnT_tok {xs : List TItem} {ps ns : List TPat} {f : TFact} {b : Int} {i : Nat} {toks : List TTok} (h : ∀ t ∈ toks, TokI ps ns i t) : ∀ t ∈ turnT xs ps ns f b toks, TokI ps ns i t := by
 intro t ht
 unfold turnT at ht
 obtain ⟨u, hu, rfl⟩ := List.mem_map.1 ht
 obtain ⟨h1, h2, h3⟩ := h u hu
 split
 ·exact ⟨h1, by simp only [turnH_len]; exact h2, fun e => ⟨by simp only [turnH_len]; exact (h3 e).1, turnH_in _ _ (h3 e).2⟩⟩
 ·exact ⟨h1, h2, h3⟩
theorem turnLast_inv {xs : List TItem} {r : TRule} {f : TFact} {b : Int} {j : Nat} {w : TRow} (h : RowI r j w) : RowI r j (turnLast xs (pos r.Pats) (neg r.Pats) f b w) := by
 obtain ⟨h1, h2⟩ := h
 unfold turnLast
 split
 ·rename_i L hL
  refine ⟨by simpa using h1, fun i M hM => ?_⟩
  simp only at hM
  rw [List.getElem?_set] at hM
  split at hM
  ·rename_i e
   split at hM
   ·simp only [Option.some.injEq] at hM
    subst hM
    subst e
    obtain ⟨a, b⟩ := h2 _ L hL
    exact ⟨by simpa [turnT_len] using a, turnT_tok b⟩
   ·cases hM
  ·exact h2 i M hM
 ·exact ⟨h1, h2⟩
theorem lets_len {as : List TIds} {B : Nat} (h : ∀ i ∈ as, i.L.length ≤ B) (c : TChain) (k : Nat) : (lets as c k).length ≤ B := by
 unfold lets
 split
 ·split
  ·rename_i i hi
   obtain ⟨_, _, e⟩ := idx_some hi
   exact h i (List.mem_of_getElem? e)
  ·simp
 ·simp
theorem ruleT_inv {xs : List TItem} {as : List TIds} {f : TFact} {id : Int} {r : TRule} {c : TChain} {j : Nat} {w : TRow} (hj : j ≤ 40) (hA : ∀ i ∈ as, i.L.length ≤ 41) (hx : xs.length ≤ 1048576) (h : RowI r j w) : RowI r (j + 1) (ruleT xs as f id r c w) := by
 obtain ⟨h1, h2⟩ := turnLast_inv (xs := xs) (f := f) (b := 1) h
 have := growT_inv (xs := xs) (ps := pos r.Pats) (ns := neg r.Pats) (id := id) (A := lets as c) hj (lets_len hA c) hx (turnLast xs (pos r.Pats) (neg r.Pats) f 1 w).Levels 0 [] [] (fun e => absurd rfl e) (by simp) (by simp) (fun i L h => by rw [Nat.zero_add]; exact h2 i L h)
 unfold ruleT
 exact ⟨by rw [this.1]; exact h1, fun i L h => by have := this.2 i L h; rwa [Nat.zero_add] at this⟩
theorem fits_of {A : Nat → Nat} {j : Nat} (hj : j ≤ 40) (hA : ∀ k, A k ≤ 41) : ∀ (ls : List Nat) (k b f : Nat), (k ≠ 0 → b ≤ j * 100 ^ (k - 1) ∧ f ≤ 100 ^ (k - 1)) → (∀ i l, ls[i]? = some l → l ≤ j * 100 ^ (k + i)) → k + ls.length ≤ 4 → fits A k ls b f
 | [], k, b, f, h1, h2, h3 => trivial
 | l :: ls, k, b, f, h1, h2, h3 => by
  simp only [List.length_cons] at h3
  have hm := made_num hj (hA k) h1
  have hl := h2 0 l rfl
  rw [Nat.add_zero] at hl
  have hp : 100 ^ k ≤ 1000000 := by
   have : 100 ^ k ≤ 100 ^ 3 := Nat.pow_le_pow_right (by omega) (by omega)
   simpa using this
  have hl' : j * 100 ^ k ≤ 40 * 1000000 := Nat.mul_le_mul hj hp
  refine ⟨by omega, fits_of hj hA ls (k + 1) l _ (fun _ => ⟨by simpa using hl, by simpa using hm⟩) (fun i l' h => ?_) (by omega)⟩
  have := h2 (i + 1) l' (by simpa using h)
  rwa [show k + (i + 1) = k + 1 + i by omega] at this
theorem rulesT_get {g : TRule → TChain → TRow → TRow} : ∀ (rs : List TRule) (cs : List TChain) (ws : List TRow), rs.length = ws.length → cs.length = ws.length → (rulesT g rs cs ws).length = ws.length ∧ ∀ (i : Nat) (v : TRow), (rulesT g rs cs ws)[i]? = some v → ∃ (r : TRule) (c : TChain) (w : TRow), rs[i]? = some r ∧ cs[i]? = some c ∧ ws[i]? = some w ∧ v = g r c w
 | [], cs, [], _, _ => ⟨by simp [rulesT], fun i v h => by simp [rulesT] at h⟩
 | r :: rs, [], w :: ws, _, h => by simp at h
 | r :: rs, c :: cs, w :: ws, h1, h2 => by
  have ih := rulesT_get (g := g) rs cs ws (by simpa using h1) (by simpa using h2)
  unfold rulesT
  refine ⟨by simp [ih.1], fun i v h => ?_⟩
  cases i with
  | zero => exact ⟨r, c, w, rfl, rfl, rfl, by simpa using h.symm⟩
  | succ i =>
   obtain ⟨a, b, c', e1, e2, e3, e4⟩ := ih.2 i v (by simpa using h)
   exact ⟨a, b, c', by simpa using e1, by simpa using e2, by simpa using e3, e4⟩
theorem alphasT_mem {f : TFact} {id : Int} {B : Nat} : ∀ (as : List TAlpha) (is : List TIds), (∀ i ∈ is, i.L.length ≤ B) → ∀ i ∈ alphasT f id as is, i.L.length ≤ B + 1
 | [], is, h, i, hi => by
  have : alphasT f id [] is = is := by cases is <;> rfl
  rw [this] at hi
  have := h i hi; omega
 | a :: as, [], h, i, hi => by simp [alphasT] at hi
 | a :: as, y :: is, h, i, hi => by
  unfold alphasT at hi
  rcases List.mem_cons.1 hi with rfl | hi
  ·have := h y (by simp)
   split
   ·simpa using this
   ·omega
  ·exact alphasT_mem as is (fun z hz => h z (by simp [hz])) i hi
structure MemI (d : TDef) (n : TNet) (j : Nat) (m : TMem) : Prop where
 la : m.Alphas.length = n.Alphas.length
 lr : m.Rules.length = d.Rules.length
 al : ∀ i ∈ m.Alphas, i.L.length ≤ j
 rows : ∀ (i : Nat) (r : TRule) (w : TRow), d.Rules[i]? = some r → m.Rules[i]? = some w → RowI r j w
theorem addT_inv {d : TDef} {n : TNet} {m : TMem} {s : TStore} {id : Int} {j : Nat} (hj : j ≤ 40) (hs : s.Items.length ≤ 1048576) (hc : n.Chains.length = d.Rules.length) (h : MemI d n j m) : MemI d n (j + 1) (addT d n m s id) := by
 have h1 := alphasT_mem (f := (factOf s.Items id).1) (id := id) n.Alphas m.Alphas h.al
 have h2 := rulesT_get (g := ruleT s.Items (alphasT (factOf s.Items id).1 id n.Alphas m.Alphas) (factOf s.Items id).1 id) d.Rules n.Chains m.Rules h.lr.symm (by rw [hc, h.lr])
 refine ⟨?_, ?_, h1, ?_⟩
 ·show (alphasT _ _ _ _).length = _
  rw [alphasT_len]; exact h.la
 ·show (rulesT _ _ _ _).length = _
  rw [h2.1]; exact h.lr
 ·intro i r v e1 e2
  obtain ⟨r', c, w, a1, a2, a3, rfl⟩ := h2.2 i v e2
  rw [e1] at a1
  cases a1
  exact ruleT_inv hj (fun y hy => by have := h1 y hy; omega) hs (h.rows i r w e1 a3)
theorem memNew_inv {d : TDef} {n : TNet} (h : Ats n.Alphas n.Chains d.Rules) : MemI d n 0 (memNew n) := by
 unfold memNew
 refine ⟨by simp, by simp [h.len], fun i hi => ?_, fun i r w e1 e2 => ?_⟩
 ·rw [(List.mem_replicate.1 hi).2]; simp
 ·simp only [List.getElem?_map, Option.map_eq_some_iff] at e2
  obtain ⟨c, hc, rfl⟩ := e2
  obtain ⟨hi, hr⟩ := List.getElem?_eq_some_iff.1 e1
  obtain ⟨hi', hc⟩ := List.getElem?_eq_some_iff.1 hc
  have hat := (h.get i hi' hi).1
  rw [hc, hr] at hat
  refine ⟨by simp only [rowOf, List.length_replicate]; exact hat.len, fun k L hL => ?_⟩
  simp only [rowOf] at hL
  obtain ⟨_, e⟩ := List.getElem?_eq_some_iff.1 hL
  rw [List.getElem_replicate] at e
  subst e
  exact ⟨by simp, by simp⟩
theorem addOk_of {d : TDef} {m : TMem} {s : TStore} {id : Int} {j : Nat} (hd : okDef d = true) (hsz : SzDef d) (hs : s.Items.length ≤ 40) (hf : ∀ x ∈ s.Items, x.F.Fields.length ≤ 1048576) (hj : j ≤ 40) (h : MemI d (netOf d) j m) : AddOkS d (netOf d) m s id := by
 have hnd := okDef_net hd
 obtain ⟨_, hats, hal⟩ := netOf_at hnd
 obtain ⟨⟨z1, z2⟩, z3, z4⟩ := netOf_sz hnd
 have hA := alphasT_mem (f := (factOf s.Items id).1) (id := id) (netOf d).Alphas m.Alphas h.al
 have hA' : ∀ i ∈ alphasT (factOf s.Items id).1 id (netOf d).Alphas m.Alphas, i.L.length ≤ 41 := fun i hi => by have := hA i hi; omega
 have hrl : d.Rules.length ≤ 1048576 := hsz.2.1
 have hr : ∀ r ∈ d.Rules, r.Pats.length ≤ 6 ∧ 1 ≤ (pos r.Pats).length ∧ (pos r.Pats).length ≤ 3 ∧ (pos r.Pats).length = posCount r.Pats ∧ pos r.Pats = r.Pats.take (posCount r.Pats) ∧ sumArgs r.Pats ≤ 1048576 ∧ ∀ p ∈ r.Pats, p.Args.length ≤ 1048576 := fun r hr => by
  have ho := okDef_rule hd r hr
  have hp : okPats r.Pats = true := by
   unfold okRule at ho
   simp only [Bool.and_eq_true] at ho
   exact ho.2.2.1
  have hfl := okPats_filt hp
  have hfc : (pos r.Pats).length = posCount r.Pats := filt_count r.Pats
  unfold okPats at hp
  simp only [Bool.and_eq_true, decide_eq_true_eq] at hp
  obtain ⟨⟨_, p1⟩, ⟨p2, p3⟩, _⟩ := hp
  obtain ⟨_, ⟨_, g1⟩, _, _, g2, _⟩ := hsz.2.2 r hr
  exact ⟨p1, by omega, by omega, hfc, hfl, g2, fun p hp => (g1 p hp).2.1⟩
 have hmem : ∀ (i : Nat) (r : TRule), d.Rules[i]? = some r → r ∈ d.Rules := fun i r e => List.mem_of_getElem? e
 refine ⟨⟨by omega, hf, fun a ha => (z2 a ha).2, z1, by rw [h.lr]; exact hrl, h.la, by rw [hats.len, h.lr], h.lr.symm, fun i hi => by have := h.al i hi; omega, fun i r c w g1 g2 g3 => ?_⟩, hats, fun i r w g1 g3 => ?_⟩
 ·obtain ⟨q1, q2, q3, q4, q5, q6, q7⟩ := hr r (hmem i r g1)
  obtain ⟨k1, k2⟩ := h.rows i r w g1 g3
  refine ⟨⟨by omega, q6, q7⟩, ⟨by omega, k1, fun i L hL t ht => ((k2 i L hL).2 t ht).1, fun L hL t ht => (((k2 _ L hL).2 t ht).2.2 (by omega)).1, fun k hk => ?_, ?_, fun k => by have := lets_len hA' c k; omega⟩⟩
  ·obtain ⟨hi, hrr⟩ := List.getElem?_eq_some_iff.1 g1
   obtain ⟨hi', hcc⟩ := List.getElem?_eq_some_iff.1 g2
   have hat := (hats.get i hi' hi).1
   rw [hcc, hrr] at hat
   have hkp : k < (pos r.Pats).length := by omega
   have hkc : k < c.Pos.length := by rw [hat.len]; exact hkp
   have e1 := hat.get k hkc hkp
   obtain ⟨a0, a1, e⟩ := idx_some e1
   obtain ⟨q, _⟩ := List.getElem?_eq_some_iff.1 e
   have hlt : c.Pos[k].toNat < (alphasT (factOf s.Items id).1 id (netOf d).Alphas m.Alphas).length := by rw [alphasT_len, h.la]; exact q
   have ecp : c.Pos[k] = ((c.Pos[k].toNat : Nat) : Int) := by omega
   exact ⟨c.Pos[k], _, idx_nat_lt hkc, by rw [ecp]; exact idx_nat_lt hlt⟩
  ·refine fits_of hj (lets_len hA' c) _ 0 0 0 (fun e => absurd rfl e) (fun i l hl => ?_) (by simp; omega)
   rw [List.getElem?_map, Option.map_eq_some_iff] at hl
   obtain ⟨L, hL, rfl⟩ := hl
   rw [Nat.zero_add]
   exact (k2 i L hL).1
 ·obtain ⟨q1, q2, q3, q4, q5, q6, q7⟩ := hr r (hmem i r g1)
  obtain ⟨k1, k2⟩ := h.rows i r w g1 g3
  exact ⟨⟨by omega, q6, q7, by omega, hf, q5⟩, q4, fun L hL t ht => (((k2 _ L hL).2 t ht).2.2 (by omega)).2⟩
theorem newS_l3 {N : Nat} (p : TNet) (s3 : List TRow) (s4 : Nat) (K : List TRow → Int → Option TMem) (h4 : s4 < p.Chains.length) (hl : p.Chains[s4].Pos.length ≤ 1048576) (hs : s3.length ≤ s4) (hc : p.Chains.length ≤ 1048576) : ∀ (n i : Nat), i ≤ p.Chains[s4].Pos.length → p.Chains[s4].Pos.length - i < n →
  m_s_MemNew_l3 N p s3 s4 K n (List.replicate i ⟨[]⟩) i = K (s3 ++ [rowOf p.Chains[s4]]) ((s4 + 1 : Nat) : Int) := by
 intro n
 induction n with
 | zero => intro i _ h; omega
 | succ n ih =>
  intro i hi hn
  simp only [m_s_MemNew_l3, idx_nat_lt h4, Option.bind_some]
  by_cases hlt : i < p.Chains[s4].Pos.length
  ·have c1 : decide ((i : Int) < (p.Chains[s4].Pos.length : Int)) = true := decide_eq_true (by omega)
   simp only [c1, if_true, app_ok (show (List.replicate i (⟨[]⟩ : TLevel)).length + [(⟨[]⟩ : TLevel)].length ≤ 4294967296 by simp; omega), Option.bind_some, wr1 i (by omega)]
   have := ih (i + 1) (by omega) (by omega)
   rw [List.replicate_succ'] at this
   exact this
  ·have c1 : decide ((i : Int) < (p.Chains[s4].Pos.length : Int)) = false := decide_eq_false (by omega)
   have hi' : i = p.Chains[s4].Pos.length := by omega
   simp only [c1, Bool.false_eq_true, if_false, app_ok (show s3.length + [(⟨List.replicate i ⟨[]⟩⟩ : TRow)].length ≤ 4294967296 by simp; omega), Option.bind_some, wr1 s4 (by omega)]
   rw [hi']; rfl
theorem newS_l2 {N : Nat} (hN : 1099000000000 ≤ N) (p : TNet) (as : List TIds) (hc : p.Chains.length ≤ 1048576) (hp : ∀ c ∈ p.Chains, c.Pos.length ≤ 1048576) : ∀ (n i : Nat), i ≤ p.Chains.length → p.Chains.length - i < n →
  m_s_MemNew_l2 N p as n ((p.Chains.take i).map rowOf) i = some ⟨as, p.Chains.map rowOf⟩ := by
 intro n
 induction n with
 | zero => intro i _ h; omega
 | succ n ih =>
  intro i hi hn
  simp only [m_s_MemNew_l2]
  by_cases hlt : i < p.Chains.length
  ·have c1 : decide ((i : Int) < (p.Chains.length : Int)) = true := decide_eq_true (by omega)
   have hm := hp _ (List.getElem_mem hlt)
   have := newS_l3 (N := N) p ((p.Chains.take i).map rowOf) i (m_s_MemNew_l2 N p as n) hlt hm (by simp; omega) hc N 0 (by omega) (by omega)
   have ih1 := ih (i + 1) (by omega) (by omega)
   have ht : (p.Chains.take (i + 1)).map rowOf = (p.Chains.take i).map rowOf ++ [rowOf p.Chains[i]] := by
    rw [List.take_succ_eq_append_getElem hlt, List.map_append]; rfl
   rw [ht] at ih1
   simp only [c1, if_true]; rw [← ih1]; exact this
  ·have c1 : decide ((i : Int) < (p.Chains.length : Int)) = false := decide_eq_false (by omega)
   simp only [c1, Bool.false_eq_true, if_false]
   rw [List.take_of_length_le (by omega)]
theorem newS_l1 {N : Nat} (p : TNet) (ha : p.Alphas.length ≤ 1048576) : ∀ (n i : Nat), i ≤ p.Alphas.length → p.Alphas.length - i < n →
  m_s_MemNew_l1 N p n (List.replicate i ⟨[]⟩) i = m_s_MemNew_l2 N p (List.replicate p.Alphas.length ⟨[]⟩) N [] 0 := by
 intro n
 induction n with
 | zero => intro i _ h; omega
 | succ n ih =>
  intro i hi hn
  simp only [m_s_MemNew_l1]
  by_cases hlt : i < p.Alphas.length
  ·have c1 : decide ((i : Int) < (p.Alphas.length : Int)) = true := decide_eq_true (by omega)
   simp only [c1, if_true, app_ok (show (List.replicate i (⟨[]⟩ : TIds)).length + [(⟨[]⟩ : TIds)].length ≤ 4294967296 by simp; omega), Option.bind_some, wr1 i (by omega)]
   have := ih (i + 1) (by omega) (by omega)
   rw [List.replicate_succ'] at this
   exact this
  ·have c1 : decide ((i : Int) < (p.Alphas.length : Int)) = false := decide_eq_false (by omega)
   have hi' : i = p.Alphas.length := by omega
   simp only [c1, Bool.false_eq_true, if_false]
   rw [hi']
theorem memNew_s {N : Nat} (hN : 1099000000000 ≤ N) (p : TNet) (ha : p.Alphas.length ≤ 1048576) (hc : p.Chains.length ≤ 1048576) (hp : ∀ c ∈ p.Chains, c.Pos.length ≤ 1048576) : m_s_MemNew N p = some (memNew p) := by
 have a := newS_l1 (N := N) p ha N 0 (by omega) (by omega)
 have b := newS_l2 hN p (List.replicate p.Alphas.length ⟨[]⟩) hc hp N 0 (by omega) (by omega)
 unfold m_s_MemNew memNew; exact a.trans b
def okFact (f : TFact) : Bool := okName f.Kind && (f.Fields.all okVal && decide (f.Fields.length ≤ 5))
def SzFact (f : TFact) : Prop := f.Kind.size ≤ 1048576 ∧ f.Fields.length ≤ 1048576 ∧ ∀ v ∈ f.Fields, v.S.size ≤ 1048576
def SzStore (s : TStore) : Prop := s.Items.length ≤ 1048576 ∧ ∀ x ∈ s.Items, SzFact x.F
def lastBelow (done : List TItem) (v : Int) : Bool := match done.getLast? with | none => true | some y => decide (y.Id < v)
def itemsOk (nx : Int) : List TItem → List TItem → Bool
 | _, [] => true
 | done, x :: t => (okFact x.F && (decide (1 ≤ x.Id) && decide (x.Id < nx))) && (lastBelow done x.Id && ((done.all fun y => !decide (x.F = y.F)) && itemsOk nx (done ++ [x]) t))
def okStore (s : TStore) : Bool := (decide (1 ≤ s.Next) && decide (s.Next ≤ 1000000)) && (decide (s.Items.length ≤ 40) && itemsOk s.Next [] s.Items)
theorem lastTake {α : Type} {xs : List α} {i : Nat} (h : 0 < i) (h' : i ≤ xs.length) : (xs.take i).getLast? = some (xs[i - 1]'(by omega)) := by
 rw [List.getLast?_eq_getElem?, List.length_take, Nat.min_eq_left h', List.getElem?_take_of_lt (by omega), List.getElem?_eq_getElem (by omega)]
theorem sameVs {N : Nat} (hN : 1099000000000 ≤ N) (x y : List TVal) (hl : x.length ≤ 4294967296) : m_s_l3SameVals N x y = some (decide (x = y)) := by
 unfold m_s_l3SameVals
 by_cases c : x.length = y.length
 ·rw [if_neg (by simp; omega)]
  refine (eqloop (m_s_l3SameVals_l1 N x y) x y c (by omega) (fun a b => some (decide (a = b))) (fun a _ b _ => rfl) (fun k i => by simp only [m_s_l3SameVals_l1, eqT_TVal_eq, Option.bind_some]) N 0 (by omega) (by omega)).trans ?_
  simp
 ·rw [if_pos (by simp; omega)]
  have : ¬ x = y := fun e => c (by rw [e])
  simp [this]
theorem sameF_s {N : Nat} (hN : 1099000000000 ≤ N) (x y : TFact) (hl : x.Fields.length ≤ 4294967296) : m_s_SameFact N x y = some (decide (x = y)) := by
 unfold m_s_SameFact
 simp only [sameVs hN _ _ hl, Option.bind_some, andS, seq_eq]
 obtain ⟨a, b⟩ := x; obtain ⟨c, d⟩ := y
 simp only [TFact.mk.injEq, Bool.decide_and]
def idOf (xs : List TItem) (f : TFact) : Int := match xs.find? (fun x => decide (x.F = f)) with | some x => x.Id | none => 0
theorem idOf_cons (x : TItem) (xs : List TItem) (f : TFact) : idOf (x :: xs) f = if x.F = f then x.Id else idOf xs f := by
 unfold idOf
 rw [List.find?_cons]
 by_cases h : x.F = f <;> simp [h]
theorem idOf_s {N : Nat} (hN : 1099000000000 ≤ N) (s : TStore) (f : TFact) (hl : s.Items.length ≤ 1048576) (hx : ∀ x ∈ s.Items, x.F.Fields.length ≤ 1048576) : m_s_IdOf N s f = some (idOf s.Items f) := by
 unfold m_s_IdOf
 refine lp0 hN s.Items (by omega) (m_s_IdOf_l1 N s f) (fun t => some (idOf t f)) (fun n i x t h1 h2 h3 h4 h5 h6 h7 => ?_) (fun n i h1 h2 => ?_)
 ·simp only [m_s_IdOf_l1, h5, if_true, h4, Option.bind_some, sameF_s hN x.F f (by have := hx x h2; omega), h6, h7, idOf_cons]
  by_cases h : x.F = f <;> simp [h]
 ·simp only [m_s_IdOf_l1, h2, Bool.false_eq_true, if_false]; rfl
end Go.Proofs.YtdihjeeniojdmaaGreat
