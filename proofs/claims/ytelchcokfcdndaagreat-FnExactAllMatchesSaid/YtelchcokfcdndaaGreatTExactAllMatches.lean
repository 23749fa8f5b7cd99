/- Plain laws, one after the other: PLExactAllMatches. -/
import Derived.Test.YtelchcokfcdndaaGreatPLib
import Derived.Test.YtelchcokfcdndaaGreatWExactAllMatchesPur
import Derived.Test.YtelchcokfcdndaaGreatWExactAllMatchesMod
/-
  Plain laws of common loops, for the cores. No program.
-/
namespace Go.Proofs.YtelchcokfcdndaaGreat
open Eng
set_option linter.unusedVariables false
set_option linter.unusedSimpArgs false
theorem app_ok {α : Type} {xs ys : List α} (h : xs.length + ys.length ≤ 4294967296) : app xs ys = some (xs ++ ys) := by unfold app; rw [if_pos h]
theorem app_nil {α : Type} {ys : List α} (h : ys.length ≤ 4294967296) : app ([] : List α) ys = some ys := by rw [app_ok (by simpa using h)]; rfl
theorem allfrom {α : Type} (f : Nat → Int → Option Bool) (xs : List α) (hl : xs.length ≤ 4294967296) (p : α → Bool) (z : Bool) (i0 : Nat)
    (hs : ∀ n (i : Nat) (x : α), i0 ≤ i → idx xs (i : Int) = some x → x ∈ xs → decide ((i : Int) < (xs.length : Int)) = true → IntKind.i64.wrap ((i : Int) + 1) = ((i + 1 : Nat) : Int) → f (n + 1) i = if p x then f n ((i + 1 : Nat) : Int) else some false)
    (he : ∀ n (i : Nat), decide ((i : Int) < (xs.length : Int)) = false → f (n + 1) i = some z) :
    ∀ (n i : Nat), i0 ≤ i → i ≤ xs.length → xs.length - i < n → f n i = some ((xs.drop i).all p && z) := by
  intro n
  induction n with
  | zero => intro i _ _ h; omega
  | succ n ih =>
    intro i h0 hi hn
    by_cases hlt : i < xs.length
    · rw [List.drop_eq_getElem_cons hlt, List.all_cons, hs n i xs[i] h0 (idx_nat_lt hlt) (List.getElem_mem hlt) (decide_eq_true (by omega)) (wr1 i (by omega)), ih (i + 1) (by omega) (by omega) (by omega)]
      cases p xs[i] <;> simp
    · rw [he n i (decide_eq_false (by omega)), List.drop_of_length_le (by omega), List.all_nil, Bool.true_and]
theorem findloop {α : Type} (f : Nat → Int → Option Int) (xs : List α) (hl : xs.length ≤ 4294967296) (p : α → Bool)
    (hs : ∀ n (i : Nat) (x : α), idx xs (i : Int) = some x → x ∈ xs → decide ((i : Int) < (xs.length : Int)) = true → IntKind.i64.wrap ((i : Int) + 1) = ((i + 1 : Nat) : Int) → f (n + 1) i = if p x then some (i : Int) else f n ((i + 1 : Nat) : Int))
    (he : ∀ n (i : Nat), decide ((i : Int) < (xs.length : Int)) = false → f (n + 1) i = some (-1)) :
    ∀ (n i : Nat), i ≤ xs.length → xs.length - i < n → f n i = some (match (xs.drop i).findIdx? p with | some j => ((i + j : Nat) : Int) | none => -1) := by
  intro n
  induction n with
  | zero => intro i _ h; omega
  | succ n ih =>
    intro i hi hn
    by_cases hlt : i < xs.length
    · rw [List.drop_eq_getElem_cons hlt, List.findIdx?_cons, hs n i xs[i] (idx_nat_lt hlt) (List.getElem_mem hlt) (decide_eq_true (by omega)) (wr1 i (by omega)), ih (i + 1) (by omega) (by omega)]
      cases p xs[i]
      · simp only [Bool.false_eq_true, if_false]
        cases (xs.drop (i + 1)).findIdx? p with
        | none => rfl
        | some j => simp only [Option.map_some]; congr 2; omega
      · simp
    · rw [he n i (decide_eq_false (by omega)), List.drop_of_length_le (by omega)]; rfl
theorem find_any {α : Type} (xs : List α) (p : α → Bool) : decide (0 ≤ (match xs.findIdx? p with | some j => ((0 + j : Nat) : Int) | none => -1)) = xs.any p := by
  cases h : xs.findIdx? p with
  | none =>
    rw [List.findIdx?_eq_none_iff] at h
    simp only [show ¬ (0 : Int) ≤ -1 by omega, decide_false]
    symm; rw [List.any_eq_false]; intro x hx; simp [h x hx]
  | some j =>
    simp only [Nat.zero_add, show (0 : Int) ≤ (j : Int) by omega, decide_true]
    rw [List.findIdx?_eq_some_iff_getElem] at h
    obtain ⟨hj, hp, _⟩ := h
    symm; rw [List.any_eq_true]; exact ⟨_, List.getElem_mem hj, hp⟩
theorem andS (a b : Bool) : (if a = true then some b else some false) = some (a && b) := by cases a <;> rfl
theorem orS (a b : Bool) : (if a = true then some true else some b) = some (a || b) := by cases a <;> rfl
end Go.Proofs.YtelchcokfcdndaaGreat
/-
  Plain laws of loops over lists, one law for all. No program.
-/
namespace Go.Proofs.YtelchcokfcdndaaGreat
open Eng
set_option linter.unusedVariables false
set_option linter.unusedSimpArgs false
theorem lp {σ α β : Type} (xs : List α) (hl : xs.length ≤ 4294967296) (f : Nat → σ → Int → Option β) (G : List α → σ → Option β) (I : σ → List α → Prop)
    (hs : ∀ n s (i : Nat) (x : α) (t : List α), xs.drop i = x :: t → x ∈ xs → i < xs.length → idx xs (i : Int) = some x → decide ((i : Int) < (xs.length : Int)) = true → IntKind.i64.wrap ((i : Int) + 1) = ((i + 1 : Nat) : Int) → I s (x :: t) →
      (∀ s', I s' t → f n s' ((i + 1 : Nat) : Int) = G t s') → f (n + 1) s i = G (x :: t) s)
    (he : ∀ n s (i : Nat), i = xs.length → decide ((i : Int) < (xs.length : Int)) = false → I s [] → f (n + 1) s i = G [] s) :
    ∀ (n i : Nat) (s : σ), i ≤ xs.length → xs.length - i < n → I s (xs.drop i) → f n s i = G (xs.drop i) s := by
  intro n
  induction n with
  | zero => intro i s _ h; omega
  | succ n ih =>
    intro i s hi hn hI
    by_cases hlt : i < xs.length
    · have hd := List.drop_eq_getElem_cons hlt
      rw [hd] at hI ⊢
      exact hs n s i _ _ hd (List.getElem_mem hlt) hlt (idx_nat_lt hlt) (decide_eq_true (by omega)) (wr1 i (by omega)) hI (fun s' hs' => ih (i + 1) s' (by omega) (by omega) hs')
    · have hd : xs.drop i = [] := List.drop_of_length_le (by omega)
      rw [hd] at hI ⊢
      exact he n s i (by omega) (decide_eq_false (by omega)) hI
theorem lp' {σ α β : Type} {N : Nat} (hN : 1099000000000 ≤ N) (xs : List α) (hl : xs.length ≤ 4294967296) (f : Nat → σ → Int → Option β) (G : List α → σ → Option β) (I : σ → List α → Prop) (s : σ) (h0 : I s xs)
    (hs : ∀ n s (i : Nat) (x : α) (t : List α), xs.drop i = x :: t → x ∈ xs → i < xs.length → idx xs (i : Int) = some x → decide ((i : Int) < (xs.length : Int)) = true → IntKind.i64.wrap ((i : Int) + 1) = ((i + 1 : Nat) : Int) → I s (x :: t) →
      (∀ s', I s' t → f n s' ((i + 1 : Nat) : Int) = G t s') → f (n + 1) s i = G (x :: t) s)
    (he : ∀ n s (i : Nat), i = xs.length → decide ((i : Int) < (xs.length : Int)) = false → I s [] → f (n + 1) s i = G [] s) : f N s 0 = G xs s := by
  have := lp xs hl f G I hs he N 0 s (by omega) (by omega) (by simpa using h0)
  simpa using this
theorem lp0 {α β : Type} {N : Nat} (hN : 1099000000000 ≤ N) (xs : List α) (hl : xs.length ≤ 4294967296) (f : Nat → Int → Option β) (G : List α → Option β)
    (hs : ∀ n (i : Nat) (x : α) (t : List α), xs.drop i = x :: t → x ∈ xs → i < xs.length → idx xs (i : Int) = some x → decide ((i : Int) < (xs.length : Int)) = true → IntKind.i64.wrap ((i : Int) + 1) = ((i + 1 : Nat) : Int) →
      f n ((i + 1 : Nat) : Int) = G t → f (n + 1) i = G (x :: t))
    (he : ∀ n (i : Nat), i = xs.length → decide ((i : Int) < (xs.length : Int)) = false → f (n + 1) i = G []) : f N 0 = G xs := by
  have := lp' (σ := Unit) hN xs hl (fun n _ i => f n i) (fun t _ => G t) (fun _ _ => True) () trivial (fun n _ i x t h1 h2 h3 h4 h5 h6 _ h8 => hs n i x t h1 h2 h3 h4 h5 h6 (h8 () trivial)) (fun n _ i h1 h2 _ => he n i h1 h2)
  simpa using this
theorem orNB (a b : Bool) : (if (!a) = true then some true else some b) = some (!a || b) := by cases a <;> rfl
end Go.Proofs.YtelchcokfcdndaaGreat
namespace Go.Proofs.YtelchcokfcdndaaGreat
open Eng
set_option linter.unusedVariables false
set_option linter.unusedSimpArgs false
def zv : TVal := ⟨0, 0, ⟨#[]⟩⟩
def look (p : List TBind) (n : ByteArray) : TVal × Bool := match p.find? (fun b => seq b.Name n) with
  | some b => (b.V, true)
  | none => (zv, false)
theorem look_cons (b : TBind) (p : List TBind) (n : ByteArray) : look (b :: p) n = if seq b.Name n = true then (b.V, true) else look p n := by
  unfold look; rw [List.find?_cons]
  cases seq b.Name n <;> simp
theorem look_s {N : Nat} (hN : 1099000000000 ≤ N) (p : List TBind) (n : ByteArray) (hl : p.length ≤ 4294967296) : m_s_BindOf N p n = some (look p n) := by
  unfold m_s_BindOf
  have : ∀ (k i : Nat), i ≤ p.length → p.length - i < k → m_s_BindOf_l1 N p n k i = some (look (p.drop i) n) := by
    intro k
    induction k with
    | zero => intro i _ h; omega
    | succ k ih =>
      intro i hi hk
      simp only [m_s_BindOf_l1]
      by_cases hlt : i < p.length
      · have c1 : decide ((i : Int) < (p.length : Int)) = true := decide_eq_true (by omega)
        rw [List.drop_eq_getElem_cons hlt, look_cons]
        simp only [c1, if_true, idx_nat_lt hlt, Option.bind_some, wr1 i (by omega), ih (i + 1) (by omega) (by omega)]
        cases seq p[i].Name n <;> rfl
      · have c1 : decide ((i : Int) < (p.length : Int)) = false := decide_eq_false (by omega)
        simp only [c1, Bool.false_eq_true, if_false]
        rw [List.drop_of_length_le (by omega)]; rfl
  exact this N 0 (by omega) (by omega)
def matchArgs (b0 : List TBind) : List TArg → List TVal → List TBind → List TBind × Bool
  | a :: as, v :: vs, s =>
    if a.K = 2 then (if eqT_TVal a.V v = true then matchArgs b0 as vs s else (b0, false))
    else if a.K = 1 then (if (look s a.S).2 = true then (if eqT_TVal (look s a.S).1 v = true then matchArgs b0 as vs s else (b0, false)) else matchArgs b0 as vs (s ++ [⟨a.S, v⟩]))
    else matchArgs b0 as vs s
  | _, _, s => (s, true)
theorem match_loopS {N : Nat} (hN : 1099000000000 ≤ N) (p : TPat) (f : TFact) (b : List TBind) (he : p.Args.length = f.Fields.length) (hl : p.Args.length ≤ 1048576) (hb : b.length ≤ 2147483648) : ∀ (n i : Nat) (s : List TBind), i ≤ p.Args.length → p.Args.length - i < n → s.length ≤ 2147483648 + i →
    m_s_MatchPat_l1 N p f b n s i = some (matchArgs b (p.Args.drop i) (f.Fields.drop i) s) := by
  intro n
  induction n with
  | zero => intro i s _ h; omega
  | succ n ih =>
    intro i s hi hn hs
    simp only [m_s_MatchPat_l1]
    by_cases hlt : i < p.Args.length
    · have c1 : decide ((i : Int) < (p.Args.length : Int)) = true := decide_eq_true (by omega)
      have hlt' : i < f.Fields.length := by omega
      rw [List.drop_eq_getElem_cons hlt, List.drop_eq_getElem_cons hlt', matchArgs]
      simp only [c1, if_true, idx_nat_lt hlt, idx_nat_lt hlt', Option.bind_some, look_s hN s _ (show s.length ≤ 4294967296 by omega), app_nil (show b.length ≤ 4294967296 by omega), app_ok (show s.length + [(⟨p.Args[i].S, f.Fields[i]⟩ : TBind)].length ≤ 4294967296 by simp; omega), wr1 i (by omega), andS, orS]
      have ih1 := ih (i + 1) s (by omega) (by omega) (by omega)
      have ih2 := ih (i + 1) (s ++ [⟨p.Args[i].S, f.Fields[i]⟩]) (by omega) (by omega) (by simp; omega)
      by_cases k2 : p.Args[i].K = 2
      · have k1 : ¬ p.Args[i].K = 1 := by omega
        simp only [k2, k1, decide_true, decide_false, if_true, if_false, Bool.true_and, Bool.false_and, Bool.or_false, Bool.false_eq_true, Option.bind_some, show ¬ (2 : Int) = 1 by omega]
        cases eqT_TVal p.Args[i].V f.Fields[i] with
        | true => simpa using ih1
        | false => simp
      · by_cases k1 : p.Args[i].K = 1
        · simp only [k1, decide_true, decide_false, if_true, if_false, Bool.true_and, Bool.false_and, Bool.false_or, Bool.false_eq_true, Option.bind_some, show ¬ (1 : Int) = 2 by omega]
          cases (look s p.Args[i].S).2 with
          | true =>
            simp only [if_true, Bool.not_true, Bool.true_and, Bool.false_eq_true, if_false]
            cases eqT_TVal (look s p.Args[i].S).1 f.Fields[i] with
            | true => simpa using ih1
            | false => simp
          | false => simpa using ih2
        · simp only [k1, k2, decide_false, if_false, Bool.false_and, Bool.false_or, Bool.or_false, Bool.false_eq_true, Option.bind_some]
          simpa using ih1
    · have c1 : decide ((i : Int) < (p.Args.length : Int)) = false := decide_eq_false (by omega)
      simp only [c1, Bool.false_eq_true, if_false]
      rw [List.drop_of_length_le (by omega)]
      rfl
def matchPat (p : TPat) (f : TFact) (b : List TBind) : List TBind × Bool := if seq p.Kind f.Kind = true ∧ p.Args.length = f.Fields.length then matchArgs b p.Args f.Fields b else (b, false)
theorem match_s {N : Nat} (hN : 1099000000000 ≤ N) (p : TPat) (f : TFact) (b : List TBind) (hl : p.Args.length ≤ 1048576) (hb : b.length ≤ 2147483648) : m_s_MatchPat N p f b = some (matchPat p f b) := by
  unfold m_s_MatchPat matchPat
  rw [app_nil (by omega)]
  simp only [Option.bind_some, orS]
  cases hk : seq p.Kind f.Kind with
  | false => simp
  | true =>
    by_cases he : p.Args.length = f.Fields.length
    · have he' : decide ((p.Args.length : Int) = (f.Fields.length : Int)) = true := decide_eq_true (by omega)
      have := (match_loopS hN p f b he hl hb N 0 b (by omega) (by omega) (by omega))
      simp only [he', he, Bool.not_true, Bool.or_false, Bool.false_eq_true, if_false, true_and, if_true]
      simpa using this
    · have he' : decide ((p.Args.length : Int) = (f.Fields.length : Int)) = false := decide_eq_false (by omega)
      simp [he', he]
theorem matchArgs_len {b0 : List TBind} : ∀ (as : List TArg) (vs : List TVal) (s : List TBind), (matchArgs b0 as vs s).1.length ≤ b0.length ∨ (matchArgs b0 as vs s).1.length ≤ s.length + as.length
  | [], vs, s => .inr (by simp [matchArgs])
  | a :: as, [], s => .inr (by simp [matchArgs])
  | a :: as, v :: vs, s => by
    have h1 := matchArgs_len (b0 := b0) as vs s
    have h2 := matchArgs_len (b0 := b0) as vs (s ++ [⟨a.S, v⟩])
    simp only [List.length_append, List.length_cons, List.length_nil] at h1 h2 ⊢
    unfold matchArgs
    split
    · split
      · omega
      · exact .inl (Nat.le_refl _)
    · split
      · split
        · split
          · omega
          · exact .inl (Nat.le_refl _)
        · omega
      · omega
theorem matchPat_len (p : TPat) (f : TFact) (b : List TBind) : (matchPat p f b).1.length ≤ b.length + p.Args.length := by
  unfold matchPat
  split
  · have := matchArgs_len (b0 := b) p.Args f.Fields b; omega
  · simp
theorem matchArgs_all {P : TBind → Prop} {b0 : List TBind} (h0 : ∀ x ∈ b0, P x) : ∀ (as : List TArg) (vs : List TVal) (s : List TBind), (∀ x ∈ s, P x) → (∀ a ∈ as, ∀ v ∈ vs, P ⟨a.S, v⟩) → ∀ x ∈ (matchArgs b0 as vs s).1, P x
  | [], vs, s, hs, _ => by simpa [matchArgs] using hs
  | a :: as, [], s, hs, _ => by simpa [matchArgs] using hs
  | a :: as, v :: vs, s, hs, h => by
    have ht : ∀ c ∈ as, ∀ w ∈ vs, P ⟨c.S, w⟩ := fun c hc w hw => h c (by simp [hc]) w (by simp [hw])
    have h1 := matchArgs_all h0 as vs s hs ht
    have h2 := matchArgs_all h0 as vs (s ++ [⟨a.S, v⟩]) (fun x hx => by
      rcases List.mem_append.1 hx with hx | hx
      · exact hs x hx
      · simp at hx; rw [hx]; exact h a (by simp) v (by simp)) ht
    unfold matchArgs
    split
    · split
      · exact h1
      · exact h0
    · split
      · split
        · split
          · exact h1
          · exact h0
        · exact h2
      · exact h1
theorem matchPat_all {P : TBind → Prop} {p : TPat} {f : TFact} {b : List TBind} (h0 : ∀ x ∈ b, P x) (h : ∀ a ∈ p.Args, ∀ v ∈ f.Fields, P ⟨a.S, v⟩) : ∀ x ∈ (matchPat p f b).1, P x := by
  unfold matchPat
  split
  · exact matchArgs_all h0 _ _ _ h0 h
  · exact h0
end Go.Proofs.YtelchcokfcdndaaGreat
namespace Go.Proofs.YtelchcokfcdndaaGreat
open Eng
set_option linter.unusedVariables false
set_option linter.unusedSimpArgs false
def hits (p : TPat) (l : List TBind) (xs : List TItem) : Nat := xs.countP fun x => (matchPat p x.F l).2
def blocked (ps : List TPat) (xs : List TItem) (l : List TBind) : Bool := ps.any fun p => p.Not && xs.any fun x => (matchPat p x.F l).2
theorem hits_pos (p : TPat) (l : List TBind) (xs : List TItem) : decide ((0 : Int) < (hits p l xs : Int)) = xs.any fun x => (matchPat p x.F l).2 := by
  rw [Bool.eq_iff_iff, decide_eq_true_eq, List.any_eq_true]
  have : (0 : Int) < (hits p l xs : Int) ↔ 0 < hits p l xs := by omega
  rw [this, hits, List.countP_pos_iff]
theorem blocked_s {N : Nat} (hN : 1099000000000 ≤ N) (r : TRule) (s : TStore) (l : List TBind) (hr : r.Pats.length ≤ 1048576) (hp : ∀ p ∈ r.Pats, p.Args.length ≤ 1048576) (hs : s.Items.length ≤ 1048576) (hb : l.length ≤ 2147483648) : m_s_Blocked N r s l = some (blocked r.Pats s.Items l) := by
  unfold m_s_Blocked
  refine lp0 hN r.Pats (by omega) (m_s_Blocked_l1 N r s l) (fun t => some (blocked t s.Items l)) (fun n i x t g1 g2 g3 g4 g5 g6 g7 => ?_) (fun n i g1 g2 => ?_)
  · simp only [m_s_Blocked_l1, g5, if_true]
    have inner : m_s_Blocked_l2 N r s l i (m_s_Blocked_l1 N r s l n) N 0 = some ((x.Not && s.Items.any fun y => (matchPat x y.F l).2) || blocked t s.Items l) := by
      refine lp0 hN s.Items (by omega) (m_s_Blocked_l2 N r s l i (m_s_Blocked_l1 N r s l n)) (fun u => some ((x.Not && u.any fun y => (matchPat x y.F l).2) || blocked t s.Items l)) (fun n' i' y u k1 k2 k3 k4 k5 k6 k7 => ?_) (fun n' i' k1 k2 => ?_)
      · simp only [m_s_Blocked_l2, k5, if_true, g4, Option.bind_some, k4, match_s hN x y.F l (hp x g2) hb, k6, k7, g6, g7, List.any_cons]
        cases x.Not <;> cases (matchPat x y.F l).2 <;> simp
      · simp only [m_s_Blocked_l2, k2, Bool.false_eq_true, if_false, Option.bind_some, g6, g7]; simp
    rw [inner]; unfold blocked; rw [List.any_cons]
  · simp only [m_s_Blocked_l1, g2, Bool.false_eq_true, if_false]; rfl
end Go.Proofs.YtelchcokfcdndaaGreat
namespace Go.Proofs.YtelchcokfcdndaaGreat
open Eng
set_option linter.unusedVariables false
set_option linter.unusedSimpArgs false
def argVal (a : TArg) (l : List TBind) : TVal × Bool := if a.K = 2 then (a.V, true) else if a.K = 1 then look l a.S else (zv, false)
def lessV (x y : TVal) : Bool := if x.K = y.K then (if x.N = y.N then slt x.S y.S else decide (x.N < y.N)) else decide (x.K < y.K)
def holds (c : TCond) (l : List TBind) : Bool := ((argVal c.L l).2 && (argVal c.R l).2) && (if c.Op = 1 then decide ((argVal c.L l).1 = (argVal c.R l).1) else if c.Op = 2 then !decide ((argVal c.L l).1 = (argVal c.R l).1) else if c.Op = 3 then lessV (argVal c.L l).1 (argVal c.R l).1 else false)
theorem argVal_s {N : Nat} (hN : 1099000000000 ≤ N) (a : TArg) (l : List TBind) (hl : l.length ≤ 4294967296) : m_s_ArgVal N a l = some (argVal a l) := by
  unfold m_s_ArgVal argVal
  rw [look_s hN l a.S hl]
  by_cases h2 : a.K = 2
  · simp [h2]
  · by_cases h1 : a.K = 1 <;> simp [h1, h2, zv]
theorem lessV_s (N : Nat) (x y : TVal) : m_s_LessVal N x y = some (lessV x y) := by
  unfold m_s_LessVal lessV
  by_cases h1 : x.K = y.K
  · by_cases h2 : x.N = y.N <;> simp [h1, h2]
  · simp [h1]
theorem holds_s {N : Nat} (hN : 1099000000000 ≤ N) (c : TCond) (l : List TBind) (hl : l.length ≤ 4294967296) : m_s_Holds N c l = some (holds c l) := by
  unfold m_s_Holds holds
  rw [argVal_s hN c.L l hl, argVal_s hN c.R l hl]
  simp only [Option.bind_some, lessV_s, eqT_TVal_eq]
  cases (argVal c.L l).2 with
  | false => simp
  | true =>
    cases (argVal c.R l).2 with
    | false => simp
    | true =>
      by_cases h1 : c.Op = 1
      · simp [h1]
      · by_cases h2 : c.Op = 2
        · simp [h2]
        · by_cases h3 : c.Op = 3 <;> simp [h1, h2, h3]
theorem holdAll_s {N : Nat} (hN : 1099000000000 ≤ N) (cs : List TCond) (l : List TBind) (hc : cs.length ≤ 4194304) (hl : l.length ≤ 4294967296) : m_s_HoldAll N cs l = some (cs.all fun c => holds c l) := by
  unfold m_s_HoldAll
  refine lp0 hN cs (by omega) (m_s_HoldAll_l1 N cs l) (fun t => some (t.all fun c => holds c l)) (fun n i x t h1 h2 h3 h4 h5 h6 h7 => ?_) (fun n i h1 h2 => ?_)
  · simp only [m_s_HoldAll_l1, h5, if_true, h4, Option.bind_some, holds_s hN x l hl, h6, h7, List.all_cons]
    cases holds x l <;> simp
  · simp only [m_s_HoldAll_l1, h2, Bool.false_eq_true, if_false]; rfl
end Go.Proofs.YtelchcokfcdndaaGreat
namespace Go.Proofs.YtelchcokfcdndaaGreat
open Eng
set_option linter.unusedVariables false
set_option linter.unusedSimpArgs false
def posCount : List TPat → Nat
  | [] => 0
  | p :: t => if p.Not then posCount t else posCount t + 1
theorem posCount_le : ∀ (l : List TPat), posCount l ≤ l.length
  | [] => by simp [posCount]
  | p :: t => by have := posCount_le t; unfold posCount; split <;> simp <;> omega
theorem count_s {N : Nat} (hN : 1099000000000 ≤ N) (r : TRule) (hl : r.Pats.length ≤ 1048576) : m_s_PosCount N r = some (posCount r.Pats : Int) := by
  unfold m_s_PosCount
  have := lp' hN r.Pats (by omega) (m_s_PosCount_l1 N r) (fun t s => some (s + (posCount t : Int))) (fun s t => 0 ≤ s ∧ s + t.length ≤ 1048576) (0 : Int) (by simp; omega) (fun n s i x t h1 h2 h3 h4 h5 h6 hI ih => by
    simp only [List.length_cons] at hI
    simp only [m_s_PosCount_l1, h5, if_true, h4, Option.bind_some, h6, posCount]
    cases hx : x.Not with
    | true => simpa using ih s (by omega)
    | false =>
      rw [wr (n := s + 1) (by omega) (by omega)]
      have := ih (s + 1) (by omega)
      simp only [Bool.not_false, if_true, this, Bool.false_eq_true, if_false]
      congr 1; omega) (fun n s i h1 h2 hI => by simp only [m_s_PosCount_l1, h2, Bool.false_eq_true, if_false, posCount]; simp)
  simpa using this
end Go.Proofs.YtelchcokfcdndaaGreat
namespace Go.Proofs.YtelchcokfcdndaaGreat
open Eng
set_option linter.unusedVariables false
set_option linter.unusedSimpArgs false
def sumArgs (l : List TPat) : Nat := (l.map fun p => p.Args.length).sum
theorem sumArgs_cons (p : TPat) (t : List TPat) : sumArgs (p :: t) = p.Args.length + sumArgs t := by simp [sumArgs]
theorem sumArgs_take (n : Nat) : ∀ (l : List TPat), sumArgs (l.take n) ≤ sumArgs l := by
  induction n with
  | zero => intro l; simp [sumArgs]
  | succ n ih =>
    intro l
    cases l with
    | nil => simp
    | cons p t => rw [List.take_succ_cons, sumArgs_cons, sumArgs_cons]; have := ih t; omega
end Go.Proofs.YtelchcokfcdndaaGreat
namespace Go.Proofs.YtelchcokfcdndaaGreat
open Eng
set_option linter.unusedVariables false
set_option linter.unusedSimpArgs false
def rowsP (fin : List Int → List TBind → List TMatch) (xs : List TItem) : List TPat → List Int → List TBind → List TMatch
  | [], ids, l => fin ids l
  | p :: t, ids, l => xs.flatMap fun x => if (matchPat p x.F l).2 = true then rowsP fin xs t (ids ++ [x.Id]) (matchPat p x.F l).1 else []
def finR (r : TRule) (xs : List TItem) (ids : List Int) (l : List TBind) : List TMatch := if (!blocked r.Pats xs l && r.Conds.all fun c => holds c l) = true then [⟨0, ids, l⟩] else []
def rowsOf (r : TRule) (xs : List TItem) : List TMatch := rowsP (finR r xs) xs (r.Pats.take (posCount r.Pats)) [] []
theorem flatMap_len {α β : Type} {f : α → List β} {M : Nat} : ∀ (l : List α), (∀ x ∈ l, (f x).length ≤ M) → (l.flatMap f).length ≤ l.length * M
  | [], _ => by simp
  | x :: t, h => by
    have h1 := flatMap_len t fun y hy => h y (by simp [hy])
    have h2 := h x (by simp)
    rw [List.flatMap_cons, List.length_append, List.length_cons, Nat.succ_mul]; omega
theorem rowsP_len {fin : List Int → List TBind → List TMatch} (hf : ∀ ids l, (fin ids l).length ≤ 1) (xs : List TItem) : ∀ (ps : List TPat) (ids : List Int) (l : List TBind), (rowsP fin xs ps ids l).length ≤ xs.length ^ ps.length
  | [], ids, l => by simpa [rowsP] using hf ids l
  | p :: t, ids, l => by
    unfold rowsP
    rw [List.length_cons, Nat.pow_succ, Nat.mul_comm]
    refine flatMap_len xs fun x hx => ?_
    split
    · exact rowsP_len hf xs t _ _
    · exact Nat.zero_le _
theorem finR_len (r : TRule) (xs : List TItem) (ids : List Int) (l : List TBind) : (finR r xs ids l).length ≤ 1 := by unfold finR; split <;> simp
structure SzRows (r : TRule) (s : TStore) : Prop where
  pl : r.Pats.length ≤ 1048576
  pa : ∀ p ∈ r.Pats, p.Args.length ≤ 1048576
  sa : sumArgs r.Pats ≤ 1048576
  cl : r.Conds.length ≤ 1048576
  xl : s.Items.length ≤ 1048576
  nm : s.Items.length ^ posCount r.Pats ≤ 1073741824
theorem rowsP_sz {fin : List Int → List TBind → List TMatch} (hf : ∀ ids l, ∀ m ∈ fin ids l, m.Ids = ids ∧ m.Binds = l) (xs : List TItem) : ∀ (ps : List TPat) (ids : List Int) (l : List TBind), ∀ m ∈ rowsP fin xs ps ids l, m.Ids.length = ids.length + ps.length ∧ m.Binds.length ≤ l.length + sumArgs ps
  | [], ids, l, m, hm => by
    obtain ⟨h1, h2⟩ := hf ids l m (by simpa [rowsP] using hm)
    rw [h1, h2]; simp
  | p :: t, ids, l, m, hm => by
    unfold rowsP at hm
    obtain ⟨x, hx, hm⟩ := List.mem_flatMap.1 hm
    split at hm
    · have h1 := rowsP_sz hf xs t (ids ++ [x.Id]) (matchPat p x.F l).1 m hm
      have h2 := matchPat_len p x.F l
      rw [sumArgs_cons]
      simp only [List.length_append, List.length_cons, List.length_nil] at h1 ⊢
      omega
    · cases hm
theorem finR_sz (r : TRule) (xs : List TItem) : ∀ ids l, ∀ m ∈ finR r xs ids l, m.Ids = ids ∧ m.Binds = l := by
  intro ids l m hm
  unfold finR at hm
  split at hm
  · simp at hm; rw [hm]; exact ⟨rfl, rfl⟩
  · cases hm
end Go.Proofs.YtelchcokfcdndaaGreat
namespace Go.Proofs.YtelchcokfcdndaaGreat
open Eng
set_option linter.unusedVariables false
set_option linter.unusedSimpArgs false
def pos (l : List TPat) : List TPat := l.filter fun p => !p.Not
theorem pos_eq (l : List TPat) : (l.filter fun p => p.Not == false) = pos l := by
  unfold pos; congr 1; funext p; cases p.Not <;> rfl
end Go.Proofs.YtelchcokfcdndaaGreat
namespace Go.Proofs.YtelchcokfcdndaaGreat
open Eng
set_option linter.unusedVariables false
set_option linter.unusedSimpArgs false
theorem rangeloop (f : Nat → Int → Option Bool) (n0 : Nat) (hm : n0 ≤ 4611686018427387903) (e : Nat → Bool) (z : Bool)
    (h : ∀ k (i : Nat), i < n0 → f (k + 1) i = if e i then f k (IntKind.i64.wrap ((i : Int) + 1)) else some false) (hz : ∀ k (i : Nat), i = n0 → f (k + 1) i = some z) :
    ∀ (n i : Nat), i ≤ n0 → n0 - i < n → f n i = some (((List.range n0).drop i).all e && z) := by
  intro n
  induction n with
  | zero => intro i _ h; omega
  | succ n ih =>
    intro i hi hn
    by_cases hlt : i < n0
    · rw [h n i hlt, List.drop_eq_getElem_cons (by simpa using hlt), List.getElem_range, List.all_cons]
      cases he : e i with
      | false => simp
      | true => simp only [if_true, Bool.true_and]; rw [wr1 i (by omega), ih (i + 1) (by omega) (by omega)]
    · have : i = n0 := by omega
      rw [hz n i this, List.drop_of_length_le (by simp; omega)]
      simp
theorem in0 (N : Nat) (a b c : Int) : m_s_l1In N a b c = some (decide (b ≤ a) && decide (a ≤ c)) := by
  unfold m_s_l1In
  by_cases h : b ≤ a <;> simp [h]
theorem in1 (N : Nat) (a b c : Int) : m_i_inRange N a b c = some (decide (b ≤ a) && decide (a ≤ c)) := by
  unfold m_i_inRange
  by_cases h : b ≤ a <;> simp [h]
theorem wrU (y : UInt8) : IntKind.i64.wrap (y.toNat : Int) = (y.toNat : Int) := wr (by omega) (by have := y.toNat_lt; omega)
def letter (y : UInt8) : Bool := (decide (97 ≤ (y.toNat : Int)) && decide ((y.toNat : Int) ≤ 122)) || (decide (48 ≤ (y.toNat : Int)) && decide ((y.toNat : Int) ≤ 57)) || decide ((y.toNat : Int) = 95)
theorem letter_s (N : Nat) (y : UInt8) : m_s_l1Letter N (y.toNat : Int) = some (letter y) := by
  unfold m_s_l1Letter letter
  simp only [wrU, in0, Option.bind_some]
  by_cases h1 : (decide (97 ≤ (y.toNat : Int)) && decide ((y.toNat : Int) ≤ 122)) = true
  · simp [h1]
  · rw [if_neg h1]
    simp only [Option.bind_some]
    rw [Bool.eq_false_iff.2 h1, Bool.false_or]
    by_cases h2 : (decide (48 ≤ (y.toNat : Int)) && decide ((y.toNat : Int) ≤ 57)) = true
    · simp [h2]
    · rw [if_neg h2, Bool.eq_false_iff.2 h2, Bool.false_or]; rfl
theorem letter_i (N : Nat) (y : UInt8) : m_i_isWordByte N (y.toNat : Int) = some (letter y) := by
  unfold m_i_isWordByte m_i_isSmall m_i_isDigit letter
  generalize (y.toNat : Int) = n
  rw [andS, andS, Option.bind_some, Option.bind_some, Option.bind_some, Option.bind_some, orS, Option.bind_some, orS]
  rfl
def small (y : UInt8) : Bool := decide (97 ≤ (y.toNat : Int)) && decide ((y.toNat : Int) ≤ 122)
def wordAll (s : ByteArray) : Bool := ((List.range s.size).drop 0).all (fun i => match s.data.toList[i]? with | some y => letter y | none => false)
theorem size_data (s : ByteArray) : s.data.toList.length = s.size := rfl
theorem plain_s {N : Nat} (hN : 1048578 ≤ N) (s : ByteArray) (hs : s.size ≤ 1048576) : m_s_l2Plain N s = some (wordAll s && decide ((s.size : Int) ≤ 20)) := by
  unfold m_s_l2Plain
  refine rangeloop (fun n i => m_s_l2Plain_l1 N s n i) s.size (by omega) _ _ (fun k i hi => ?_) (fun k i hi => ?_) N 0 (by omega) (by omega)
  · have hi' : i < s.data.toList.length := by rw [size_data]; exact hi
    simp only [m_s_l2Plain_l1, idx_nat_lt hi', Option.bind_some, letter_s, List.getElem?_eq_getElem hi']
    rw [if_pos (by simp; omega)]
    cases letter s.data.toList[i] <;> simp
  · simp only [m_s_l2Plain_l1]
    rw [if_neg (by simp; omega)]
theorem word_i {N : Nat} (hN : 1048578 ≤ N) (s : ByteArray) (n : Int) (hs : s.size ≤ 1048576) : m_i_isWord N s n = some (wordAll s && decide ((s.size : Int) ≤ n)) := by
  unfold m_i_isWord
  have : m_i_isWord_l1 N s N 0 = some (wordAll s && true) := by
    refine rangeloop (fun n i => m_i_isWord_l1 N s n i) s.size (by omega) _ _ (fun k i hi => ?_) (fun k i hi => ?_) N 0 (by omega) (by omega)
    · have hi' : i < s.data.toList.length := by rw [size_data]; exact hi
      simp only [m_i_isWord_l1, idx_nat_lt hi', Option.bind_some, letter_i, List.getElem?_eq_getElem hi']
      rw [if_pos (by simp; omega)]
      cases letter s.data.toList[i] <;> simp
    · simp only [m_i_isWord_l1]
      rw [if_neg (by simp; omega)]
  rw [this]
  by_cases h : n < (s.size : Int)
  · rw [if_pos (by simpa using h), decide_eq_false (by omega), Bool.and_false]
  · rw [if_neg (by simpa using h), decide_eq_true (show (s.size : Int) ≤ n by omega)]
theorem name_i {N : Nat} (hN : 1048578 ≤ N) (s : ByteArray) (hs : s.size ≤ 1048576) : m_i_NameOk N s = some ((match s.data.toList[0]? with | some y => small y | none => false) && (wordAll s && decide ((s.size : Int) ≤ 12))) := by
  unfold m_i_NameOk
  rw [word_i hN s 12 hs]
  by_cases h : 0 < s.size
  · have hi' : 0 < s.data.toList.length := by rw [size_data]; exact h
    have hidx : idx s.data.toList 0 = some s.data.toList[0] := by simpa using idx_nat_lt (i := 0) hi'
    rw [if_pos (by simpa using h), hidx, List.getElem?_eq_getElem hi']
    have : m_i_isSmall N (s.data.toList[0].toNat : Int) = some (small s.data.toList[0]) := by
      unfold m_i_isSmall small
      generalize (s.data.toList[0].toNat : Int) = n
      by_cases h1 : 97 ≤ n <;> simp [h1]
    simp only [Option.bind_some, this]
    cases small s.data.toList[0] <;> simp
  · rw [if_neg (by simpa using h), List.getElem?_eq_none (by rw [size_data]; omega)]
    rfl
theorem name_s {N : Nat} (hN : 1048578 ≤ N) (s : ByteArray) (hs : s.size ≤ 1048576) : m_s_NameOk N s = some ((match s.data.toList[0]? with | some y => small y | none => false) && (wordAll s && decide ((s.size : Int) ≤ 12))) := by
  unfold m_s_NameOk
  have := rangeloop (fun n i => m_s_NameOk_l1 N s n i) s.size (by omega) (fun i => match s.data.toList[i]? with | some y => letter y && (decide (¬ i = 0) || small y) | none => false) (decide (1 ≤ (s.size : Int)) && decide ((s.size : Int) ≤ 12)) (fun k i hi => by
    have hi' : i < s.data.toList.length := by rw [size_data]; exact hi
    simp only [m_s_NameOk_l1, idx_nat_lt hi', Option.bind_some, letter_s, List.getElem?_eq_getElem hi', wrU, in0]
    rw [if_pos (by simp; omega)]
    have h0 : decide ((i : Int) = 0) = decide (i = 0) := by rw [decide_eq_decide]; omega
    rw [h0]
    unfold small
    simp only [andS, orS, Option.bind_some]
    generalize letter s.data.toList[i] = a
    generalize (decide (97 ≤ (s.data.toList[i].toNat : Int)) && decide ((s.data.toList[i].toNat : Int) ≤ 122)) = b
    cases a <;> cases b <;> by_cases hz : i = 0 <;> simp [hz]) (fun k i hi => by
    simp only [m_s_NameOk_l1, in0, Option.bind_some]
    rw [if_neg (by simp; omega)]) N 0 (by omega) (by omega)
  rw [show m_s_NameOk_l1 N s N 0 = _ from this]
  congr 1
  unfold wordAll
  simp only [List.drop_zero]
  cases hsz : s.size with
  | zero =>
    rw [List.getElem?_eq_none (by rw [size_data]; omega)]
    simp
  | succ n =>
    have hi' : 0 < s.data.toList.length := by rw [size_data]; omega
    rw [List.getElem?_eq_getElem hi', List.range_succ_eq_map]
    simp only [List.all_cons, List.getElem?_eq_getElem hi', List.all_map, Function.comp_def, Nat.succ_eq_add_one]
    have : ∀ i, (match s.data.toList[i + 1]? with | some y => letter y && (decide (¬ i + 1 = 0) || small y) | none => false) = (match s.data.toList[i + 1]? with | some y => letter y | none => false) := by
      intro i; cases s.data.toList[i + 1]? <;> simp
    simp only [this]
    have h1 : decide (1 ≤ ((n + 1 : Nat) : Int)) = true := by simp; omega
    simp only [h1, Bool.true_and, not_true, decide_false, Bool.false_or]
    cases letter s.data.toList[0] <;> cases small s.data.toList[0] <;> simp
theorem val_s {N : Nat} (hN : 1048578 ≤ N) (v : TVal) (hs : v.S.size ≤ 1048576) : m_s_ValOk N v = m_i_ValOk N v := by
  unfold m_s_ValOk m_i_ValOk
  rw [plain_s hN _ hs, word_i hN _ _ hs, in0, in1]
  by_cases h1 : v.K = 1
  · simp [h1]
  · by_cases h2 : v.K = 2
    · simp only [h2, andS, orS, Option.bind_some]
      cases decide (v.N = 0) <;> cases wordAll v.S <;> cases decide ((v.S.size : Int) ≤ 20) <;> rfl
    · simp [h1, h2]
def okVal (v : TVal) : Bool := if v.K = 1 then (decide (-1000000000 ≤ v.N) && decide (v.N ≤ 1000000000)) && seq v.S ⟨#[]⟩ else if v.K = 2 then decide (v.N = 0) && (wordAll v.S && decide ((v.S.size : Int) ≤ 20)) else false
theorem val_i {N : Nat} (hN : 1048578 ≤ N) (v : TVal) (hs : v.S.size ≤ 1048576) : m_i_ValOk N v = some (okVal v) := by
  unfold m_i_ValOk okVal
  rw [word_i hN _ _ hs, in1]
  by_cases h1 : v.K = 1
  · simp only [h1, decide_true, if_true, Option.bind_some]
    cases (decide (-1000000000 ≤ v.N) && decide (v.N ≤ 1000000000)) <;> simp
  · by_cases h2 : v.K = 2
    · by_cases h3 : v.N = 0 <;> simp [h2, h3]
    · simp [h1, h2]
end Go.Proofs.YtelchcokfcdndaaGreat
namespace Go.Proofs.YtelchcokfcdndaaGreat
open Eng
set_option linter.unusedVariables false
set_option linter.unusedSimpArgs false
def large (y : UInt8) : Bool := decide (65 ≤ (y.toNat : Int)) && decide ((y.toNat : Int) ≤ 90)
theorem large_i (N : Nat) (y : UInt8) : m_i_isLarge N (y.toNat : Int) = some (large y) := by
  unfold m_i_isLarge large; cases decide (65 ≤ (y.toNat : Int)) <;> rfl
theorem large_s (N : Nat) (y : UInt8) : m_s_l5Large N (y.toNat : Int) = some (large y) := by
  unfold m_s_l5Large large; rw [wrU, in0]; rfl
def varOk (s : ByteArray) : Bool := match s.data.toList with
  | [] => false
  | b :: t => large b && (t.all (fun y => letter y || large y) && decide ((s.size : Int) ≤ 12))
theorem var_i {N : Nat} (hN : 1099000000000 ≤ N) (s : ByteArray) (hs : s.size ≤ 1048576) : m_i_isVar N s = some (varOk s) := by
  have hsz : s.size = s.data.toList.length := rfl
  have lp := allfrom (m_i_isVar_l1 N s) s.data.toList (by omega) (fun y => letter y || large y) true 0 (fun n i y _ hx _ hc hw => by
    rw [← hsz] at hc
    simp only [m_i_isVar_l1, hc, if_true, hx, Option.bind_some, letter_i, large_i, hw]
    cases letter y <;> cases large y <;> rfl) (fun n i hc => by rw [← hsz] at hc; simp only [m_i_isVar_l1, hc, Bool.false_eq_true, if_false])
  unfold m_i_isVar varOk
  cases hd : s.data.toList with
  | nil =>
    have : s.size = 0 := by rw [hsz, hd]; rfl
    rw [this]; rfl
  | cons b t =>
    have h1 : s.size = t.length + 1 := by rw [hsz, hd]; rfl
    have c1 : decide ((s.size : Int) < 1) = false := decide_eq_false (by omega)
    have := lp N 0 (by omega) (by omega) (by omega)
    rw [hd] at this
    have hi : idx (b :: t) 0 = some b := rfl
    simp only [c1, Bool.false_eq_true, if_false, Option.bind_some, hi, large_i]
    by_cases c2 : (s.size : Int) ≤ 12
    · have c3 : decide (12 < (s.size : Int)) = false := decide_eq_false (by omega)
      simp only [c2, c3, decide_true, Bool.and_true, Bool.false_eq_true, if_false, Option.bind_some]
      cases hb : large b with
      | false => rfl
      | true =>
        simp only [Bool.not_true, Bool.false_eq_true, if_false, Bool.true_and]
        refine this.trans ?_
        simp [hb]
    · have c3 : decide (12 < (s.size : Int)) = true := decide_eq_true (by omega)
      simp only [c2, c3, decide_false, Bool.and_false, if_true, Option.bind_some]
theorem var_s {N : Nat} (hN : 1099000000000 ≤ N) (s : ByteArray) (hs : s.size ≤ 1048576) : m_s_l5VarOk N s = some (varOk s) := by
  have hsz : s.size = s.data.toList.length := rfl
  have lp := allfrom (m_s_l5VarOk_l1 N s) s.data.toList (by omega) (fun y => letter y || large y) (decide (1 ≤ (s.size : Int)) && decide ((s.size : Int) ≤ 12)) 1 (fun n i y h1 hx _ hc hw => by
    rw [← hsz] at hc
    have h0 : decide ((i : Int) = 0) = false := decide_eq_false (by omega)
    simp only [m_s_l5VarOk_l1, hc, if_true, hx, Option.bind_some, letter_s, large_s, hw, h0, Bool.false_eq_true, if_false]
    cases letter y <;> cases large y <;> rfl) (fun n i hc => by rw [← hsz] at hc; simp only [m_s_l5VarOk_l1, hc, Bool.false_eq_true, if_false, in0, Option.bind_some])
  unfold m_s_l5VarOk varOk
  obtain ⟨n, rfl⟩ : ∃ n, N = n + 1 := ⟨N - 1, by omega⟩
  cases hd : s.data.toList with
  | nil =>
    have : s.size = 0 := by rw [hsz, hd]; rfl
    simp only [m_s_l5VarOk_l1, this, in0]; rfl
  | cons b t =>
    have h1 : s.size = t.length + 1 := by rw [hsz, hd]; rfl
    have c1 : decide ((0 : Int) < (s.size : Int)) = true := decide_eq_true (by omega)
    have := lp n 1 (by omega) (by omega) (by omega)
    rw [hd] at this
    have hi : idx (b :: t) 0 = some b := rfl
    simp only [m_s_l5VarOk_l1, c1, if_true, hd, hi, Option.bind_some, large_s, decide_true]
    cases hb : large b with
    | false => rfl
    | true =>
      simp only [Bool.not_true, Bool.false_eq_true, if_false, Option.bind_some, Bool.true_and]
      rw [show IntKind.i64.wrap ((0 : Int) + 1) = ((1 : Nat) : Int) from wr1 0 (by omega)]
      refine this.trans ?_
      simp [show (1 : Int) ≤ (s.size : Int) by omega]
def SzArg (a : TArg) : Prop := a.S.size ≤ 1048576 ∧ a.V.S.size ≤ 1048576
def okArg (a : TArg) : Bool := if a.K = 1 then varOk a.S && eqT_TVal a.V ⟨0, 0, ⟨#[]⟩⟩ else if a.K = 2 then okVal a.V && seq a.S ⟨#[]⟩ else if a.K = 3 then seq a.S ⟨#[]⟩ && eqT_TVal a.V ⟨0, 0, ⟨#[]⟩⟩ else false
theorem arg_s {N : Nat} (hN : 1099000000000 ≤ N) (a : TArg) (h : SzArg a) : m_s_ArgOk N a = some (okArg a) := by
  unfold m_s_ArgOk okArg
  rw [var_s hN _ h.1, val_s (by omega) _ h.2, val_i (by omega) _ h.2]
  simp only [Option.bind_some, andS, decide_eq_true_eq]
  split <;> (try split) <;> (try split) <;> rfl
theorem arg_i {N : Nat} (hN : 1099000000000 ≤ N) (a : TArg) (h : SzArg a) : m_i_ArgOk N a = some (okArg a) := by
  unfold m_i_ArgOk okArg
  rw [var_i hN _ h.1, val_i (by omega) _ h.2]
  simp only [Option.bind_some, andS, decide_eq_true_eq, Bool.and_comm]
  split <;> (try split) <;> (try split) <;> simp [Bool.and_comm]
def given (a : TArg) : Bool := okArg a && !decide (a.K = 3)
theorem given_s {N : Nat} (hN : 1099000000000 ≤ N) (a : TArg) (h : SzArg a) : m_s_l8Given N a = some (given a) := by
  unfold m_s_l8Given given; simp only [arg_s hN a h, Option.bind_some, andS]
theorem given_i {N : Nat} (hN : 1099000000000 ≤ N) (a : TArg) (h : SzArg a) : m_i_isTerm N a = some (given a) := by
  unfold m_i_isTerm given; simp only [arg_i hN a h, Option.bind_some, andS, Bool.and_comm]
def SzExpr (e : TExpr) : Prop := e.Op.size ≤ 1048576 ∧ SzArg e.L ∧ SzArg e.R
def okExpr (e : TExpr) : Bool := if seq e.Op ⟨#[]⟩ then given e.L && eqT_TArg e.R ⟨0, ⟨#[]⟩, ⟨0, 0, ⟨#[]⟩⟩⟩ else (seq e.Op ⟨#[43]⟩ || seq e.Op ⟨#[45]⟩) && (given e.L && given e.R)
theorem expr_s {N : Nat} (hN : 1099000000000 ≤ N) (e : TExpr) (h : SzExpr e) : m_s_ExprOk N e = some (okExpr e) := by
  unfold m_s_ExprOk m_s_ExprOk_j1 okExpr
  simp only [given_s hN _ h.2.1, given_s hN _ h.2.2, Option.bind_some, andS]
  cases seq e.Op ⟨#[]⟩ <;> cases seq e.Op ⟨#[43]⟩ <;> cases seq e.Op ⟨#[45]⟩ <;> rfl
theorem expr_i {N : Nat} (hN : 1099000000000 ≤ N) (e : TExpr) (h : SzExpr e) : m_i_ExprOk N e = some (okExpr e) := by
  unfold m_i_ExprOk m_i_ExprOk_j1 okExpr
  simp only [given_i hN _ h.2.1, given_i hN _ h.2.2, Option.bind_some, andS]
  cases seq e.Op ⟨#[]⟩ <;> cases seq e.Op ⟨#[43]⟩ <;> cases seq e.Op ⟨#[45]⟩ <;> rfl
def okName (s : ByteArray) : Bool := (match s.data.toList[0]? with | some y => small y | none => false) && (wordAll s && decide ((s.size : Int) ≤ 12))
theorem okName_s {N : Nat} (hN : 1099000000000 ≤ N) (s : ByteArray) (hs : s.size ≤ 1048576) : m_s_NameOk N s = some (okName s) := name_s (by omega) s hs
theorem okName_i {N : Nat} (hN : 1099000000000 ≤ N) (s : ByteArray) (hs : s.size ≤ 1048576) : m_i_NameOk N s = some (okName s) := name_i (by omega) s hs
def SzAct (a : TAct) : Prop := a.Name.size ≤ 1048576 ∧ a.Undo.size ≤ 1048576 ∧ a.Args.length ≤ 1048576 ∧ ∀ e ∈ a.Args, SzExpr e
theorem args_s {N : Nat} (hN : 1099000000000 ≤ N) (xs : List TExpr) (hl : xs.length ≤ 1048576) (h : ∀ e ∈ xs, SzExpr e) : m_s_l8Args N xs = some (xs.all okExpr && decide ((xs.length : Int) ≤ 5)) := by
  unfold m_s_l8Args
  have := allfrom (m_s_l8Args_l1 N xs) xs (by omega) okExpr (decide ((xs.length : Int) ≤ 5)) 0 (fun n i y _ hx hm hc hw => by
    simp only [m_s_l8Args_l1, hc, if_true, hx, Option.bind_some, expr_s hN y (h y hm), hw]; cases okExpr y <;> rfl) (fun n i hc => by simp only [m_s_l8Args_l1, hc, Bool.false_eq_true, if_false]) N 0 (by omega) (by omega) (by omega)
  simpa using this
theorem args_i {N : Nat} (hN : 1099000000000 ≤ N) (a : TAct) (h : SzAct a) : m_i_argsOk N a = some (okName a.Name && (a.Args.all okExpr && decide ((a.Args.length : Int) ≤ 5))) := by
  obtain ⟨h1, h2, h3, h4⟩ := h
  unfold m_i_argsOk
  have := allfrom (m_i_argsOk_l1 N a) a.Args (by omega) okExpr true 0 (fun n i y _ hx hm hc hw => by
    simp only [m_i_argsOk_l1, hc, if_true, hx, Option.bind_some, expr_i hN y (h4 y hm), hw]; cases okExpr y <;> rfl) (fun n i hc => by simp only [m_i_argsOk_l1, hc, Bool.false_eq_true, if_false]) N 0 (by omega) (by omega) (by omega)
  have this' : m_i_argsOk_l1 N a N 0 = some (a.Args.all okExpr) := by simpa using this
  simp only [okName_i hN _ h1, Option.bind_some, this']
  cases okName a.Name with
  | false => rfl
  | true =>
    by_cases c : (a.Args.length : Int) ≤ 5
    · have c' : decide (5 < (a.Args.length : Int)) = false := decide_eq_false (by omega)
      simp only [c, c', decide_true, Bool.and_true, Bool.true_and, Bool.not_true, Bool.false_eq_true, if_false, Option.bind_some]
    · have c' : decide (5 < (a.Args.length : Int)) = true := decide_eq_true (by omega)
      simp only [c, c', decide_false, Bool.and_false, Bool.not_true, Bool.false_eq_true, if_false, if_true, Option.bind_some]
def okAct (a : TAct) : Bool :=
  let na := okName a.Name && (a.Args.all okExpr && decide ((a.Args.length : Int) ≤ 5))
  let bare := seq a.Name ⟨#[]⟩ && decide ((a.Args.length : Int) = 0)
  if a.Kind = 1 then na && decide (a.N = 0) && seq a.Undo ⟨#[]⟩
  else if a.Kind = 2 then bare && (decide (0 ≤ a.N) && decide (a.N ≤ 7)) && seq a.Undo ⟨#[]⟩
  else if a.Kind = 3 then na && decide (a.N = 0) && (seq a.Undo ⟨#[]⟩ || okName a.Undo)
  else if a.Kind = 4 then na && (decide (0 ≤ a.N) && decide (a.N ≤ 100000)) && seq a.Undo ⟨#[]⟩
  else if a.Kind = 5 ∨ a.Kind = 6 then bare && decide (a.N = 0) && seq a.Undo ⟨#[]⟩
  else false
theorem act_s {N : Nat} (hN : 1099000000000 ≤ N) (a : TAct) (h : SzAct a) : m_s_ActOk N a = some (okAct a) := by
  obtain ⟨h1, h2, h3, h4⟩ := h
  unfold m_s_ActOk m_s_ActOk_j1 okAct
  simp only [args_s hN _ h3 h4, okName_s hN _ h1, okName_s hN _ h2, in0, Option.bind_some, andS, orS, decide_eq_true_eq]
  generalize okName a.Name = n; generalize a.Args.all okExpr = e; generalize okName a.Undo = u; generalize seq a.Name ⟨#[]⟩ = sn; generalize seq a.Undo ⟨#[]⟩ = su
  by_cases k1 : a.Kind = 1
  · simp [k1] <;> (cases n <;> cases e <;> simp)
  by_cases k3 : a.Kind = 3
  · simp [k3] <;> (cases n <;> cases e <;> simp)
  by_cases k4 : a.Kind = 4
  · simp [k4] <;> (cases n <;> cases e <;> simp)
  by_cases k2 : a.Kind = 2
  · simp [k2] <;> (cases sn <;> cases su <;> simp)
  by_cases k5 : a.Kind = 5
  · simp [k5] <;> (cases sn <;> cases su <;> simp)
  · by_cases k6 : a.Kind = 6
    · simp [k6] <;> (cases sn <;> cases su <;> simp)
    · simp [k1, k2, k3, k4, k5, k6]
theorem act_i {N : Nat} (hN : 1099000000000 ≤ N) (a : TAct) (h : SzAct a) : m_i_ActOk N a = some (okAct a) := by
  have hi := args_i hN a h
  obtain ⟨h1, h2, h3, h4⟩ := h
  unfold m_i_ActOk m_i_ActOk_j1 m_i_isUndo okAct
  simp only [hi, okName_i hN _ h2, in1, Option.bind_some, andS, orS, decide_eq_true_eq]
  generalize okName a.Name = n; generalize a.Args.all okExpr = e; generalize okName a.Undo = u; generalize seq a.Name ⟨#[]⟩ = sn; generalize seq a.Undo ⟨#[]⟩ = su
  by_cases k1 : a.Kind = 1
  · simp [k1] <;> (cases n <;> cases e <;> simp)
  by_cases k3 : a.Kind = 3
  · simp [k3] <;> (cases n <;> cases e <;> simp)
  by_cases k4 : a.Kind = 4
  · simp [k4] <;> (cases n <;> cases e <;> simp)
  by_cases k2 : a.Kind = 2
  · simp [k2] <;> (cases sn <;> cases su <;> simp)
  by_cases k5 : a.Kind = 5
  · simp [k5] <;> (cases sn <;> cases su <;> simp)
  · by_cases k6 : a.Kind = 6
    · simp [k6] <;> (cases sn <;> cases su <;> simp)
    · simp [k1, k2, k3, k4, k5, k6]
end Go.Proofs.YtelchcokfcdndaaGreat
namespace Go.Proofs.YtelchcokfcdndaaGreat
open Eng
set_option linter.unusedVariables false
set_option linter.unusedSimpArgs false
def SzPat (p : TPat) : Prop := p.Kind.size ≤ 1048576 ∧ p.Args.length ≤ 1048576 ∧ ∀ a ∈ p.Args, SzArg a
def okPat (p : TPat) : Bool := okName p.Kind && (decide ((p.Args.length : Int) ≤ 5) && p.Args.all okArg)
theorem pat_i {N : Nat} (hN : 1099000000000 ≤ N) (p : TPat) (h : SzPat p) : m_i_PatOk N p = some (okPat p) := by
  obtain ⟨h1, h2, h3⟩ := h
  have lp := lp0 hN p.Args (by omega) (m_i_PatOk_l1 N p) (fun t => some (t.all okArg)) (fun n i x t g1 g2 g3 g4 g5 g6 g7 => by
    simp only [m_i_PatOk_l1, g5, if_true, g4, Option.bind_some, arg_i hN x (h3 x g2), g6, g7, List.all_cons]; cases okArg x <;> rfl) (fun n i g1 g2 => by simp only [m_i_PatOk_l1, g2, Bool.false_eq_true, if_false]; rfl)
  unfold m_i_PatOk okPat
  simp only [okName_i hN _ h1, Option.bind_some, lp]
  by_cases c : (p.Args.length : Int) ≤ 5
  · have c' : decide (5 < (p.Args.length : Int)) = false := decide_eq_false (by omega)
    simp only [c, c', decide_true]; cases okName p.Kind <;> simp
  · have c' : decide (5 < (p.Args.length : Int)) = true := decide_eq_true (by omega)
    simp only [c, c', decide_false]; cases okName p.Kind <;> simp
theorem pat_s {N : Nat} (hN : 1099000000000 ≤ N) (p : TPat) (h : SzPat p) : m_s_PatOk N p = some (okPat p) := by
  obtain ⟨h1, h2, h3⟩ := h
  have lp := lp0 hN p.Args (by omega) (m_s_PatOk_l1 N p) (fun t => some (t.all okArg && (okName p.Kind && decide ((p.Args.length : Int) ≤ 5)))) (fun n i x t g1 g2 g3 g4 g5 g6 g7 => by
    simp only [m_s_PatOk_l1, g5, if_true, g4, Option.bind_some, arg_s hN x (h3 x g2), g6, g7, List.all_cons]; cases okArg x <;> simp) (fun n i g1 g2 => by
    simp only [m_s_PatOk_l1, g2, Bool.false_eq_true, if_false, okName_s hN _ h1, Option.bind_some, andS, List.all_nil, Bool.true_and])
  unfold m_s_PatOk okPat
  rw [lp]
  generalize okName p.Kind = a; generalize p.Args.all okArg = b; generalize decide ((p.Args.length : Int) ≤ 5) = c
  cases a <;> cases b <;> cases c <;> rfl
def SzCond (c : TCond) : Prop := SzArg c.L ∧ SzArg c.R
def okCond (c : TCond) : Bool := (decide (1 ≤ c.Op) && decide (c.Op ≤ 3)) && (given c.L && given c.R)
theorem cond_i {N : Nat} (hN : 1099000000000 ≤ N) (c : TCond) (h : SzCond c) : m_i_CondOk N c = some (okCond c) := by
  unfold m_i_CondOk okCond
  simp only [in1, given_i hN _ h.1, given_i hN _ h.2, Option.bind_some, andS, Bool.and_assoc]
theorem cond_s {N : Nat} (hN : 1099000000000 ≤ N) (c : TCond) (h : SzCond c) : m_s_CondOk N c = some (okCond c) := by
  unfold m_s_CondOk okCond given
  simp only [in0, arg_s hN _ h.1, arg_s hN _ h.2, Option.bind_some, andS]
  generalize okArg c.L = a; generalize okArg c.R = b; generalize (decide (c.L.K = 3)) = d; generalize (decide (c.R.K = 3)) = e; generalize (decide (1 ≤ c.Op) && decide (c.Op ≤ 3)) = f
  cases a <;> cases b <;> cases d <;> cases e <;> cases f <;> rfl
end Go.Proofs.YtelchcokfcdndaaGreat
namespace Go.Proofs.YtelchcokfcdndaaGreat
open Eng
set_option linter.unusedVariables false
set_option linter.unusedSimpArgs false
instance memDec (v : ByteArray) (xs : List ByteArray) : Decidable (v ∈ xs) := @List.instDecidableMemOfLawfulBEq _ instBEqOfDecidableEq _ v xs
theorem hasS {N : Nat} (hN : 1099000000000 ≤ N) (xs : List ByteArray) (v : ByteArray) (hl : xs.length ≤ 4294967296) : m_s_l6Has N xs v = some (decide (v ∈ xs)) := by
  unfold m_s_l6Has
  refine lp0 hN xs hl _ (fun t => some (decide (v ∈ t))) (fun n i x t h1 h2 h3 h4 h5 h6 h7 => ?_) (fun n i h1 h2 => ?_)
  · simp only [m_s_l6Has_l1, h5, if_true, h4, Option.bind_some, h6, h7, seq_eq]
    by_cases h : x = v
    · simp [h]
    · have h' : ¬ v = x := fun e => h e.symm
      simp [h, h']
  · simp only [m_s_l6Has_l1, h2, Bool.false_eq_true, if_false]; simp
def once (s : List ByteArray) (v : ByteArray) : List ByteArray := if v ∈ s then s else s ++ [v]
theorem once_len (s : List ByteArray) (v : ByteArray) : (once s v).length ≤ s.length + 1 := by unfold once; split <;> simp
theorem mem_once {s : List ByteArray} {v x : ByteArray} : x ∈ once s v ↔ x ∈ s ∨ x = v := by
  unfold once; split
  · rename_i h
    constructor
    · exact .inl
    · rintro (h' | rfl)
      · exact h'
      · exact h
  · simp
theorem mem_onces {x : ByteArray} : ∀ {vs s : List ByteArray}, x ∈ vs.foldl once s ↔ x ∈ s ∨ x ∈ vs
  | [], s => by simp
  | v :: vs, s => by rw [List.foldl_cons, mem_onces, mem_once, List.mem_cons, or_assoc]
theorem once_old {s : List ByteArray} {v : ByteArray} (h : v ∈ s) : once s v = s := by unfold once; rw [if_pos h]
theorem onces_len : ∀ (vs s : List ByteArray), (vs.foldl once s).length ≤ s.length + vs.length
  | [], s => by simp
  | v :: vs, s => by have := onces_len vs (once s v); have := once_len s v; simp only [List.foldl_cons, List.length_cons]; omega
theorem onces_once (s u : List ByteArray) (v : ByteArray) : (once u v).foldl once s = once (u.foldl once s) v := by
  by_cases h : v ∈ u
  · rw [once_old h, once_old (mem_onces.2 (.inr h))]
  · have : once u v = u ++ [v] := by unfold once; rw [if_neg h]
    rw [this, List.foldl_append]; rfl
theorem onces_onces : ∀ (vs u s : List ByteArray), (vs.foldl once u).foldl once s = vs.foldl once (u.foldl once s)
  | [], u, s => rfl
  | v :: vs, u, s => by rw [List.foldl_cons, onces_onces vs (once u v) s, onces_once, List.foldl_cons]
theorem onces_dedup (vs s : List ByteArray) : (vs.foldl once []).foldl once s = vs.foldl once s := onces_onces vs [] s
end Go.Proofs.YtelchcokfcdndaaGreat
namespace Go.Proofs.YtelchcokfcdndaaGreat
open Eng
set_option linter.unusedVariables false
set_option linter.unusedSimpArgs false
def argVars : List TArg → List ByteArray
  | [] => []
  | a :: t => if a.K = 1 then a.S :: argVars t else argVars t
theorem argVars_len : ∀ (l : List TArg), (argVars l).length ≤ l.length
  | [] => by simp [argVars]
  | a :: t => by have := argVars_len t; unfold argVars; split <;> simp <;> omega
theorem mem_argVars {x : ByteArray} : ∀ {l : List TArg}, x ∈ argVars l ↔ ∃ a ∈ l, a.K = 1 ∧ a.S = x
  | [] => by simp [argVars]
  | a :: t => by
    unfold argVars
    split
    · rename_i h; simp [mem_argVars, h, eq_comm]
    · rename_i h; simp [mem_argVars, h]
theorem vars_s {N : Nat} (hN : 1099000000000 ≤ N) (p : TPat) (hl : p.Args.length ≤ 1048576) : m_s_VarsOf N p = some ((argVars p.Args).foldl once []) := by
  unfold m_s_VarsOf
  refine lp' hN p.Args (by omega) (m_s_VarsOf_l1 N p) (fun t s => some ((argVars t).foldl once s)) (fun s t => s.length + t.length ≤ 4294967290) [] (by simp; omega) (fun n s i x t h1 h2 h3 h4 h5 h6 hI ih => ?_) (fun n s i h1 h2 hI => ?_)
  · simp only [List.length_cons] at hI
    simp only [m_s_VarsOf_l1, h5, if_true, h4, Option.bind_some, h6, argVars, hasS hN s x.S (by omega)]
    by_cases h : x.K = 1
    · simp only [h, decide_true, if_true, Option.bind_some, List.foldl_cons]
      have := ih (once s x.S) (by have := once_len s x.S; omega)
      unfold once at this ⊢
      by_cases hm : x.S ∈ s
      · simp only [hm, if_true] at this
        simpa [hm] using this
      · simp only [hm, if_false] at this
        simp only [hm, decide_false, Bool.not_false, if_true, app_ok (show s.length + [x.S].length ≤ 4294967296 by simp; omega), Option.bind_some, if_false]
        exact this
    · simp only [h, decide_false, Bool.false_eq_true, if_false, Option.bind_some]
      exact ih _ (by omega)
  · simp only [m_s_VarsOf_l1, h2, Bool.false_eq_true, if_false]; rfl
def posNames : List TPat → List ByteArray
  | [] => []
  | p :: t => if p.Not then posNames t else argVars p.Args ++ posNames t
def nArgs (l : List TPat) : Nat := (l.map fun p => p.Args.length).sum
theorem posNames_len : ∀ (l : List TPat), (posNames l).length ≤ nArgs l
  | [] => by simp [posNames, nArgs]
  | p :: t => by
    have h1 := posNames_len t
    have h2 := argVars_len p.Args
    have h3 : nArgs (p :: t) = p.Args.length + nArgs t := by simp [nArgs]
    rw [h3]
    unfold posNames
    split
    · omega
    · rw [List.length_append]; omega
theorem posVars_s {N : Nat} (hN : 1099000000000 ≤ N) (r : TRule) (hl : r.Pats.length ≤ 1048576) (ha : nArgs r.Pats ≤ 1048576) (hp : ∀ p ∈ r.Pats, p.Args.length ≤ 1048576) : m_s_PosVars N r = some ((posNames r.Pats).foldl once []) := by
  unfold m_s_PosVars
  refine lp' hN r.Pats (by omega) (m_s_PosVars_l1 N r) (fun t s => some ((posNames t).foldl once s)) (fun s t => s.length + nArgs t ≤ 4294967290) [] (by simp; omega) (fun n s i x t h1 h2 h3 h4 h5 h6 hI ih => ?_) (fun n s i h1 h2 hI => ?_)
  · have hI' : s.length + (x.Args.length + nArgs t) ≤ 4294967290 := by simpa [nArgs] using hI
    have hpx := hp x h2
    simp only [m_s_PosVars_l1, h5, if_true, h4, Option.bind_some, vars_s hN x hpx, posNames]
    have hvl := onces_len (argVars x.Args) []
    have hal := argVars_len x.Args
    simp only [List.length_nil, Nat.zero_add] at hvl
    have key : m_s_PosVars_l2 N r i (m_s_PosVars_l1 N r n) ((argVars x.Args).foldl once []) N s 0 = if x.Not then some ((posNames t).foldl once s) else some ((posNames t).foldl once (((argVars x.Args).foldl once []).foldl once s)) := by
      cases hx : x.Not with
      | true =>
        obtain ⟨m, rfl⟩ : ∃ m, N = m + 1 := ⟨N - 1, by omega⟩
        have ih0 := ih s (by omega)
        simp only [m_s_PosVars_l2, h4, Option.bind_some, hx, Bool.not_true, h6, ih0]
        split <;> rfl
      | false =>
        refine lp' hN ((argVars x.Args).foldl once []) (by omega) (m_s_PosVars_l2 N r i (m_s_PosVars_l1 N r n) ((argVars x.Args).foldl once [])) (fun u s => some ((posNames t).foldl once (u.foldl once s))) (fun s u => s.length + u.length + nArgs t ≤ 4294967290) s (by omega) (fun n' s' i' y u g1 g2 g3 g4 g5 g6 gI gih => ?_) (fun n' s' i' g1 g2 gI => ?_)
        · simp only [List.length_cons] at gI
          simp only [m_s_PosVars_l2, g5, if_true, h4, Option.bind_some, hx, Bool.not_false, g4, hasS hN s' y (by omega), List.foldl_cons, g6]
          have := gih (once s' y) (by have := once_len s' y; omega)
          unfold once at this ⊢
          by_cases hm : y ∈ s'
          · simp only [hm, if_true] at this
            simpa [hm] using this
          · simp only [hm, if_false] at this
            simp only [hm, decide_false, Bool.not_false, if_true, app_ok (show s'.length + [y].length ≤ 4294967296 by simp; omega), Option.bind_some, if_false]
            exact this
        · simp only [m_s_PosVars_l2, g2, Bool.false_eq_true, if_false, Option.bind_some, h6]
          exact ih s' (by simp at gI; omega)
    rw [show (m_s_PosVars_l2 N r i (m_s_PosVars_l1 N r n) ((argVars x.Args).foldl once []) N s 0) = _ from key]
    cases hx : x.Not with
    | true => simp
    | false => simp [List.foldl_append, onces_dedup]
  · simp only [m_s_PosVars_l1, h2, Bool.false_eq_true, if_false]; rfl
def bound (r : TRule) : List ByteArray := (posNames r.Pats).foldl once []
theorem bound_len {r : TRule} (h : nArgs r.Pats ≤ 1048576) : (bound r).length ≤ 1048576 := by
  have h1 := onces_len (posNames r.Pats) []
  have h2 := posNames_len r.Pats
  unfold bound; simp at h1; omega
end Go.Proofs.YtelchcokfcdndaaGreat
namespace Go.Proofs.YtelchcokfcdndaaGreat
open Eng
set_option linter.unusedVariables false
set_option linter.unusedSimpArgs false
theorem idxSl {N : Nat} (hN : 1099000000000 ≤ N) (xs : List ByteArray) (v : ByteArray) (hl : xs.length ≤ 4294967296) : ∃ r, m_sl_Index_Sstring_string N xs v = some r ∧ decide (0 ≤ r) = decide (v ∈ xs) := by
  unfold m_sl_Index_Sstring_string
  have := findloop (m_sl_Index_Sstring_string_l1 N xs v) xs hl (fun x => seq v x) (fun n i x hx _ hc hw => by simp only [m_sl_Index_Sstring_string_l1, hc, if_true, hx, Option.bind_some, hw]) (fun n i hc => by simp only [m_sl_Index_Sstring_string_l1, hc, Bool.false_eq_true, if_false]) N 0 (by omega) (by omega)
  rw [List.drop_zero, show ((0 : Nat) : Int) = 0 from rfl] at this
  refine ⟨_, this, ?_⟩
  rw [find_any, Bool.eq_iff_iff, List.any_eq_true, decide_eq_true_eq]
  simp only [seq_eq, decide_eq_true_eq]
  constructor
  · rintro ⟨x, hx, rfl⟩; exact hx
  · intro h; exact ⟨v, h, rfl⟩
theorem hasSl {N : Nat} (hN : 1099000000000 ≤ N) (xs : List ByteArray) (v : ByteArray) (hl : xs.length ≤ 4294967296) : m_sl_Contains_Sstring_string N xs v = some (decide (v ∈ xs)) := by
  unfold m_sl_Contains_Sstring_string
  obtain ⟨r, h1, h2⟩ := idxSl hN xs v hl
  rw [h1, Option.bind_some, h2]
theorem addOnce {N : Nat} (hN : 1099000000000 ≤ N) (s : List ByteArray) (v : ByteArray) (hl : s.length ≤ 4294967295) : m_i_addOnce N s v = some (once s v) := by
  unfold m_i_addOnce once
  rw [hasSl hN s v (by omega), Option.bind_some]
  by_cases h : v ∈ s
  · simp [h]
  · simp only [h, decide_false, Bool.false_eq_true, if_false, app_ok (show s.length + [v].length ≤ 4294967296 by simp; omega), Option.bind_some]
end Go.Proofs.YtelchcokfcdndaaGreat
namespace Go.Proofs.YtelchcokfcdndaaGreat
open Eng
set_option linter.unusedVariables false
set_option linter.unusedSimpArgs false
theorem addVars_i {N : Nat} (hN : 1099000000000 ≤ N) (l : List TArg) (s : List ByteArray) (hl : s.length + l.length ≤ 4294967290) : m_i_addVars N s l = some ((argVars l).foldl once s) := by
  unfold m_i_addVars
  refine lp' hN l (by omega) (m_i_addVars_l1 N l) (fun t s => some ((argVars t).foldl once s)) (fun s t => s.length + t.length ≤ 4294967290) s hl (fun n s i x t h1 h2 h3 h4 h5 h6 hI ih => ?_) (fun n s i h1 h2 hI => ?_)
  · simp only [List.length_cons] at hI
    simp only [m_i_addVars_l1, h5, if_true, h4, Option.bind_some, h6, argVars, addOnce hN s x.S (by omega)]
    by_cases h : x.K = 1
    · simp only [h, decide_true, if_true, List.foldl_cons]
      exact ih _ (by have := once_len s x.S; omega)
    · simp only [h, decide_false, Bool.false_eq_true, if_false]
      exact ih _ (by omega)
  · simp only [m_i_addVars_l1, h2, Bool.false_eq_true, if_false]; rfl
theorem posVars_i {N : Nat} (hN : 1099000000000 ≤ N) (r : TRule) (hl : r.Pats.length ≤ 1048576) (ha : nArgs r.Pats ≤ 1048576) : m_i_PosVars N r = some ((posNames r.Pats).foldl once []) := by
  unfold m_i_PosVars
  refine lp' hN r.Pats (by omega) (m_i_PosVars_l1 N r) (fun t s => some ((posNames t).foldl once s)) (fun s t => s.length + nArgs t ≤ 4294967290) [] (by simp; omega) (fun n s i x t h1 h2 h3 h4 h5 h6 hI ih => ?_) (fun n s i h1 h2 hI => ?_)
  · have hI' : s.length + (x.Args.length + nArgs t) ≤ 4294967290 := by simpa [nArgs] using hI
    simp only [m_i_PosVars_l1, h5, if_true, h4, Option.bind_some, h6, posNames, addVars_i hN x.Args s (by omega)]
    cases hx : x.Not with
    | true => simpa using ih s (by omega)
    | false =>
      have h1 := argVars_len x.Args
      have h2 := onces_len (argVars x.Args) s
      simpa [List.foldl_append] using ih _ (show ((argVars x.Args).foldl once s).length + nArgs t ≤ 4294967290 by omega)
  · simp only [m_i_PosVars_l1, h2, Bool.false_eq_true, if_false]; rfl
end Go.Proofs.YtelchcokfcdndaaGreat
namespace Go.Proofs.YtelchcokfcdndaaGreat
open Eng
set_option linter.unusedVariables false
set_option linter.unusedSimpArgs false
theorem count_i {N : Nat} (hN : 1099000000000 ≤ N) (r : TRule) (hl : r.Pats.length ≤ 1048576) : m_i_PosCount N r = some (posCount r.Pats : Int) := by
  unfold m_i_PosCount
  have := lp' hN r.Pats (by omega) (m_i_PosCount_l1 N r) (fun t s => some (s + (posCount t : Int))) (fun s t => 0 ≤ s ∧ s + t.length ≤ 1048576) (0 : Int) (by simp; omega) (fun n s i x t h1 h2 h3 h4 h5 h6 hI ih => by
    simp only [List.length_cons] at hI
    simp only [m_i_PosCount_l1, h5, if_true, h4, Option.bind_some, h6, posCount]
    cases hx : x.Not with
    | true => simpa using ih s (by omega)
    | false =>
      rw [wr (n := s + 1) (by omega) (by omega)]
      have := ih (s + 1) (by omega)
      simp only [Bool.not_false, if_true, this, Bool.false_eq_true, if_false]
      congr 1; omega) (fun n s i h1 h2 hI => by simp only [m_i_PosCount_l1, h2, Bool.false_eq_true, if_false, posCount]; simp)
  simpa using this
end Go.Proofs.YtelchcokfcdndaaGreat
namespace Go.Proofs.YtelchcokfcdndaaGreat
open Eng
set_option linter.unusedVariables false
set_option linter.unusedSimpArgs false
def known (vs : List ByteArray) (a : TArg) : Bool := !decide (a.K = 1) || decide (a.S ∈ vs)
theorem known_s {N : Nat} (hN : 1099000000000 ≤ N) (a : TArg) (vs : List ByteArray) (h : vs.length ≤ 4294967296) : m_s_l9Known N a vs = some (known vs a) := by
  unfold m_s_l9Known known
  simp only [hasS hN vs a.S h, Option.bind_some, orNB]
end Go.Proofs.YtelchcokfcdndaaGreat
namespace Go.Proofs.YtelchcokfcdndaaGreat
open Eng
set_option linter.unusedVariables false
set_option linter.unusedSimpArgs false
def patsFrom (c : Nat) : Nat → List TPat → Bool
  | _, [] => true
  | i, p :: t => okPat p && ((p.Not == decide (c ≤ i)) && patsFrom c (i + 1) t)
def okPats (l : List TPat) : Bool := (decide (1 ≤ l.length) && decide (l.length ≤ 6)) && ((decide (1 ≤ posCount l) && decide (posCount l ≤ 3)) && patsFrom (posCount l) 0 l)
theorem pats_i {N : Nat} (hN : 1099000000000 ≤ N) (r : TRule) (hl : r.Pats.length ≤ 1048576) (hp : ∀ p ∈ r.Pats, SzPat p) : m_i_patsOk N r = some (okPats r.Pats) := by
  have hc := count_i hN r hl
  have lp : ∀ (n i : Nat), i ≤ r.Pats.length → r.Pats.length - i < n → m_i_patsOk_l1 N r n i = some (patsFrom (posCount r.Pats) i (r.Pats.drop i)) := by
    intro n
    induction n with
    | zero => intro i _ h; omega
    | succ n ih =>
      intro i hi hn
      by_cases hlt : i < r.Pats.length
      · have c1 : decide ((i : Int) < (r.Pats.length : Int)) = true := decide_eq_true (by omega)
        rw [List.drop_eq_getElem_cons hlt]
        simp only [m_i_patsOk_l1, c1, if_true, idx_nat_lt hlt, Option.bind_some, pat_i hN _ (hp _ (List.getElem_mem hlt)), hc, wr1 i (by omega), ih (i + 1) (by omega) (by omega), patsFrom]
        have hd : decide ((posCount r.Pats : Int) ≤ (i : Int)) = decide (posCount r.Pats ≤ i) := by rw [decide_eq_decide]; omega
        rw [hd]
        cases okPat r.Pats[i] <;> cases r.Pats[i].Not <;> cases decide (posCount r.Pats ≤ i) <;> rfl
      · have c1 : decide ((i : Int) < (r.Pats.length : Int)) = false := decide_eq_false (by omega)
        rw [List.drop_of_length_le (by omega)]
        simp only [m_i_patsOk_l1, c1, Bool.false_eq_true, if_false]; rfl
  have l0 := lp N 0 (by omega) (by omega)
  have h1 : decide ((1 : Int) ≤ (r.Pats.length : Int)) = decide (1 ≤ r.Pats.length) := by rw [decide_eq_decide]; omega
  have h2 : decide ((r.Pats.length : Int) ≤ 6) = decide (r.Pats.length ≤ 6) := by rw [decide_eq_decide]; omega
  have h3 : decide ((1 : Int) ≤ (posCount r.Pats : Int)) = decide (1 ≤ posCount r.Pats) := by rw [decide_eq_decide]; omega
  have h4 : decide ((posCount r.Pats : Int) ≤ 3) = decide (posCount r.Pats ≤ 3) := by rw [decide_eq_decide]; omega
  unfold m_i_patsOk okPats
  simp only [in1, Option.bind_some, hc, h1, h2, h3, h4]
  rw [show m_i_patsOk_l1 N r N 0 = _ from l0, List.drop_zero]
  cases (decide (1 ≤ r.Pats.length) && decide (r.Pats.length ≤ 6)) <;> cases (decide (1 ≤ posCount r.Pats) && decide (posCount r.Pats ≤ 3)) <;> rfl
def patsS : Nat → Bool → List TPat → Bool
  | _, _, [] => true
  | i, b, p :: t => !(decide (2 < i) && !p.Not) && (okPat p && (!(decide (i = 0) && p.Not) && (!((decide (0 < i) && b) && !p.Not) && patsS (i + 1) p.Not t)))
theorem allNot : ∀ (l : List TPat) (i : Nat), 0 < i → patsS i true l = (l.all okPat && l.all fun p => p.Not)
  | [], i, h => rfl
  | p :: t, i, h => by
    have h1 : decide (i = 0) = false := decide_eq_false (by omega)
    have h2 : decide (0 < i) = true := decide_eq_true h
    unfold patsS
    simp only [h1, h2, Bool.false_and, Bool.not_false, Bool.true_and, List.all_cons]
    cases hp : p.Not with
    | false => cases okPat p <;> simp
    | true =>
      rw [allNot t (i + 1) (by omega)]
      cases okPat p <;> simp
theorem fromNot (c : Nat) : ∀ (l : List TPat) (i : Nat), c ≤ i → patsFrom c i l = (l.all okPat && l.all fun p => p.Not)
  | [], i, h => rfl
  | p :: t, i, h => by
    have h1 : decide (c ≤ i) = true := decide_eq_true h
    unfold patsFrom
    rw [fromNot c t (i + 1) (by omega), h1]
    simp only [List.all_cons]
    cases okPat p <;> cases p.Not <;> simp
theorem posCount_allNot : ∀ (l : List TPat), (l.all fun p => p.Not) = true ↔ posCount l = 0
  | [] => by simp [posCount]
  | p :: t => by
    unfold posCount
    have := posCount_allNot t
    cases hp : p.Not with
    | true => simp [hp]; simpa using this
    | false => simp [hp]
theorem patsS_iff : ∀ (l : List TPat) (i : Nat) (b : Bool), (0 < i → b = false) → i ≤ 3 → (patsS i b l = true ↔ (i = 0 → l = [] ∨ 0 < posCount l) ∧ i + posCount l ≤ 3 ∧ patsFrom (i + posCount l) i l = true)
  | [], i, b, hb, hi => by simp [patsS, posCount, patsFrom, hi]
  | p :: t, i, b, hb, hi => by
    have hb' : (decide (0 < i) && b) = false := by
      by_cases h : 0 < i
      · simp [hb h]
      · simp [h]
    unfold patsS patsFrom posCount
    rw [hb']
    cases hp : p.Not with
    | true =>
      simp only [Bool.not_true, Bool.and_false, Bool.not_false, Bool.true_and, if_true, Bool.and_true, Bool.false_and]
      by_cases h0 : i = 0
      · subst h0
        simp only [decide_true, Bool.not_true, Bool.and_false, Bool.false_and, Bool.false_eq_true, false_iff]
        rintro ⟨h1, h2, h3⟩
        have h1 : 0 < posCount t := by simpa using h1
        simp only [Bool.and_eq_true, beq_iff_eq] at h3
        have := h3.2.1
        simp at this
        omega
      · rw [decide_eq_false h0, allNot t (i + 1) (by omega)]
        simp only [Bool.not_false, Bool.true_and, Bool.and_eq_true, beq_iff_eq, h0, false_implies, true_and]
        constructor
        · rintro ⟨h1, h2, h3⟩
          have h4 := (posCount_allNot t).1 h3
          rw [h4]
          refine ⟨by omega, h1, by simp, ?_⟩
          rw [fromNot _ t (i + 1) (by omega), h2, h3]; rfl
        · rintro ⟨h1, h2, h3, h4⟩
          have h5 : i + posCount t ≤ i := by simpa using h3
          have h6 : posCount t = 0 := by omega
          exact ⟨h2, by
            rw [fromNot _ t (i + 1) (by omega)] at h4
            simp only [Bool.and_eq_true] at h4
            exact h4.1, (posCount_allNot t).2 h6⟩
    | false =>
      simp only [Bool.not_false, Bool.and_true, Bool.and_false, Bool.true_and, Bool.false_eq_true, if_false, Bool.and_eq_true, beq_iff_eq]
      have e1 : decide (i + (posCount t + 1) ≤ i) = false := decide_eq_false (by omega)
      rw [e1]
      have ar : i + (posCount t + 1) = i + 1 + posCount t := by omega
      by_cases h2 : 2 < i
      · simp only [h2, decide_true, Bool.not_true, Bool.false_eq_true, false_and, false_iff]
        rintro ⟨_, h3, _⟩; omega
      · have := patsS_iff t (i + 1) false (fun _ => rfl) (by omega)
        simp only [h2, decide_false, Bool.not_false, true_and]
        rw [this, ar]
        constructor
        · rintro ⟨h3, _, h4, h5⟩
          refine ⟨fun _ => .inr (by omega), h4, h3, ?_⟩
          first | exact ⟨rfl, h5⟩ | exact h5
        · rintro ⟨_, h4, h3, h5⟩
          refine ⟨h3, by omega, h4, ?_⟩
          first | exact h5.2 | exact h5
theorem okPats_eq (l : List TPat) : (patsS 0 false l && (decide (1 ≤ l.length) && decide (l.length ≤ 6))) = okPats l := by
  have := patsS_iff l 0 false (by simp) (by omega)
  simp only [true_implies, Nat.zero_add] at this
  rw [Bool.eq_iff_iff]
  unfold okPats
  simp only [Bool.and_eq_true, decide_eq_true_eq, this]
  constructor
  · rintro ⟨⟨h1, h2, h3⟩, h4, h5⟩
    have h1 := h1.resolve_left (by rintro rfl; simp at h4)
    exact ⟨⟨h4, h5⟩, ⟨by omega, h2⟩, h3⟩
  · rintro ⟨⟨h4, h5⟩, ⟨h1, h2⟩, h3⟩
    exact ⟨⟨.inr (by omega), h2, h3⟩, h4, h5⟩
theorem pats_s {N : Nat} (hN : 1099000000000 ≤ N) (l : List TPat) (hl : l.length ≤ 1048576) (hp : ∀ p ∈ l, SzPat p) : m_s_l9Pats N l = some (okPats l) := by
  have lp : ∀ (n i : Nat) (b : Bool), i ≤ l.length → l.length - i < n → (∀ (h : i - 1 < l.length), 0 < i → l[i - 1].Not = b) → m_s_l9Pats_l1 N l n i = some (patsS i b (l.drop i) && (decide (1 ≤ l.length) && decide (l.length ≤ 6))) := by
    intro n
    induction n with
    | zero => intro i b _ h; omega
    | succ n ih =>
      intro i b hi hn hb
      by_cases hlt : i < l.length
      · have c1 : decide ((i : Int) < (l.length : Int)) = true := decide_eq_true (by omega)
        have h2 : decide ((2 : Int) < (i : Int)) = decide (2 < i) := by rw [decide_eq_decide]; omega
        have h3 : decide ((i : Int) = 0) = decide (i = 0) := by rw [decide_eq_decide]; omega
        have h4 : decide ((0 : Int) < (i : Int)) = decide (0 < i) := by rw [decide_eq_decide]; omega
        rw [List.drop_eq_getElem_cons hlt]
        simp only [m_s_l9Pats_l1, c1, if_true, idx_nat_lt hlt, Option.bind_some, pat_s hN _ (hp _ (List.getElem_mem hlt)), h2, h3, h4, wr1 i (by omega), ih (i + 1) l[i].Not (by omega) (by omega) (fun h _ => rfl), patsS]
        by_cases h0 : 0 < i
        · have e1 : IntKind.i64.wrap ((i : Int) - 1) = ((i - 1 : Nat) : Int) := by rw [wr (by omega) (by omega)]; omega
          have e2 := hb (by omega) h0
          have e3 : decide (i = 0) = false := decide_eq_false (by omega)
          simp only [h0, decide_true, if_true, e1, idx_nat_lt (show i - 1 < l.length by omega), Option.bind_some, e2, e3]
          cases decide (2 < i) <;> cases l[i].Not <;> cases okPat l[i] <;> cases b <;> simp
        · have e3 : decide (i = 0) = true := decide_eq_true (by omega)
          simp only [h0, decide_false, Bool.false_eq_true, if_false, Option.bind_some, e3]
          cases decide (2 < i) <;> cases l[i].Not <;> cases okPat l[i] <;> simp
      · have c1 : decide ((i : Int) < (l.length : Int)) = false := decide_eq_false (by omega)
        have h1 : decide ((1 : Int) ≤ (l.length : Int)) = decide (1 ≤ l.length) := by rw [decide_eq_decide]; omega
        have h2 : decide ((l.length : Int) ≤ 6) = decide (l.length ≤ 6) := by rw [decide_eq_decide]; omega
        rw [List.drop_of_length_le (by omega)]
        simp only [m_s_l9Pats_l1, c1, Bool.false_eq_true, if_false, in0, Option.bind_some, h1, h2]; rfl
  unfold m_s_l9Pats
  rw [show m_s_l9Pats_l1 N l N 0 = _ from lp N 0 false (by omega) (by omega) (fun _ h => by omega), List.drop_zero, okPats_eq]
def okCondK (vs : List ByteArray) (c : TCond) : Bool := okCond c && (known vs c.L && known vs c.R)
theorem conds_s {N : Nat} (hN : 1099000000000 ≤ N) (l : List TCond) (vs : List ByteArray) (hl : l.length ≤ 1048576) (h : ∀ c ∈ l, SzCond c) (hv : vs.length ≤ 4294967296) : m_s_l9Conds N l vs = some (l.all (okCondK vs) && decide (l.length ≤ 6)) := by
  have h2 : decide ((l.length : Int) ≤ 6) = decide (l.length ≤ 6) := by rw [decide_eq_decide]; omega
  unfold m_s_l9Conds
  refine lp0 hN l (by omega) (m_s_l9Conds_l1 N l vs) (fun t => some (t.all (okCondK vs) && decide (l.length ≤ 6))) (fun n i x t g1 g2 g3 g4 g5 g6 g7 => ?_) (fun n i g1 g2 => ?_)
  · simp only [m_s_l9Conds_l1, g5, if_true, g4, Option.bind_some, cond_s hN x (h x g2), known_s hN _ vs hv, g6, g7, List.all_cons, okCondK]
    cases okCond x <;> cases known vs x.L <;> cases known vs x.R <;> simp
  · simp only [m_s_l9Conds_l1, g2, Bool.false_eq_true, if_false, h2]; rfl
def okExprK (vs : List ByteArray) (e : TExpr) : Bool := known vs e.L && known vs e.R
def okActK (vs : List ByteArray) (pos : Nat) (a : TAct) : Bool := okAct a && (!(decide (a.Kind = 2) && decide ((pos : Int) ≤ a.N)) && a.Args.all (okExprK vs))
theorem acts_s {N : Nat} (hN : 1099000000000 ≤ N) (l : List TAct) (vs : List ByteArray) (pos : Nat) (hl : l.length ≤ 1048576) (h : ∀ c ∈ l, SzAct c) (hv : vs.length ≤ 4294967296) : m_s_l9Acts N l vs pos = some (l.all (okActK vs pos) && (decide (1 ≤ l.length) && decide (l.length ≤ 6))) := by
  have h1 : decide ((1 : Int) ≤ (l.length : Int)) = decide (1 ≤ l.length) := by rw [decide_eq_decide]; omega
  have h2 : decide ((l.length : Int) ≤ 6) = decide (l.length ≤ 6) := by rw [decide_eq_decide]; omega
  unfold m_s_l9Acts
  refine lp0 hN l (by omega) (m_s_l9Acts_l1 N l vs pos) (fun t => some (t.all (okActK vs pos) && (decide (1 ≤ l.length) && decide (l.length ≤ 6)))) (fun n i x t g1 g2 g3 g4 g5 g6 g7 => ?_) (fun n i g1 g2 => ?_)
  · have hx := h x g2
    have inner := lp0 hN x.Args (by have := hx.2.2.1; omega) (m_s_l9Acts_l2 N l vs i (m_s_l9Acts_l1 N l vs pos n)) (fun u => some (u.all (okExprK vs) && (t.all (okActK vs pos) && (decide (1 ≤ l.length) && decide (l.length ≤ 6))))) (fun n' i' y u k1 k2 k3 k4 k5 k6 k7 => by
      simp only [m_s_l9Acts_l2, g4, Option.bind_some, k5, if_true, k4, known_s hN _ vs hv, k6, k7, List.all_cons, okExprK]
      cases known vs y.L <;> cases known vs y.R <;> simp) (fun n' i' k1 k2 => by
      simp only [m_s_l9Acts_l2, g4, Option.bind_some, k2, Bool.false_eq_true, if_false, g6, g7, List.all_nil, Bool.true_and])
    simp only [m_s_l9Acts_l1, g5, if_true, g4, Option.bind_some, act_s hN x hx, inner, List.all_cons, okActK]
    cases okAct x <;> cases decide (x.Kind = 2) <;> cases decide ((pos : Int) ≤ x.N) <;> simp [Bool.and_assoc]
  · simp only [m_s_l9Acts_l1, g2, Bool.false_eq_true, if_false, in0, Option.bind_some, h1, h2]; rfl
def SzRule (r : TRule) : Prop := r.Name.size ≤ 1048576 ∧ (r.Pats.length ≤ 1048576 ∧ ∀ p ∈ r.Pats, SzPat p) ∧ (r.Conds.length ≤ 1048576 ∧ ∀ c ∈ r.Conds, SzCond c) ∧ (r.Acts.length ≤ 1048576 ∧ ∀ a ∈ r.Acts, SzAct a) ∧ nArgs r.Pats ≤ 1048576 ∧ (r.Acts.map fun a => a.Args.length).sum ≤ 1048576
def okRule (r : TRule) : Bool := okName r.Name && ((decide (-100 ≤ r.Sal) && decide (r.Sal ≤ 100)) && (okPats r.Pats && ((r.Conds.all (okCondK (bound r)) && decide (r.Conds.length ≤ 6)) && (r.Acts.all (okActK (bound r) (posCount r.Pats)) && (decide (1 ≤ r.Acts.length) && decide (r.Acts.length ≤ 6))))))
theorem rule_s {N : Nat} (hN : 1099000000000 ≤ N) (r : TRule) (h : SzRule r) : m_s_RuleOk N r = some (okRule r) := by
  obtain ⟨h1, ⟨h2, h2'⟩, ⟨h3, h3'⟩, ⟨h4, h4'⟩, h5, h6⟩ := h
  have hb := bound_len h5
  unfold m_s_RuleOk okRule
  have e1 := conds_s hN _ (bound r) h3 h3' (by omega)
  have e2 := acts_s hN _ (bound r) (posCount r.Pats) h4 h4' (by omega)
  have e0 : m_s_PosVars N r = some (bound r) := posVars_s hN r h2 h5 (fun p hp => (h2' p hp).2.1)
  simp only [e0, Option.bind_some, okName_s hN _ h1, in0, pats_s hN _ h2 h2', e1, count_s hN r h2, e2, andS, Bool.and_assoc]
def condNames : List TCond → List ByteArray
  | [] => []
  | c :: t => argVars [c.L, c.R] ++ condNames t
def exprNames : List TExpr → List ByteArray
  | [] => []
  | e :: t => argVars [e.L, e.R] ++ exprNames t
def actNames : List TAct → List ByteArray
  | [] => []
  | a :: t => exprNames a.Args ++ actNames t
theorem condNames_len : ∀ (l : List TCond), (condNames l).length ≤ 2 * l.length
  | [] => by simp [condNames]
  | c :: t => by have := condNames_len t; have := argVars_len [c.L, c.R]; simp [condNames] at *; omega
theorem exprNames_len : ∀ (l : List TExpr), (exprNames l).length ≤ 2 * l.length
  | [] => by simp [exprNames]
  | c :: t => by have := exprNames_len t; have := argVars_len [c.L, c.R]; simp [exprNames] at *; omega
def nExprs (l : List TAct) : Nat := (l.map fun a => a.Args.length).sum
theorem actNames_len : ∀ (l : List TAct), (actNames l).length ≤ 2 * nExprs l
  | [] => by simp [actNames, nExprs]
  | a :: t => by have := actNames_len t; have := exprNames_len a.Args; simp [actNames, nExprs] at *; omega
theorem used3 {N : Nat} (hN : 1099000000000 ≤ N) (x : TAct) (s4 : Nat) (K : List ByteArray → Int → Option (List ByteArray)) (l : List TAct) (g : List ByteArray → Option (List ByteArray)) (s : List ByteArray) (hl : s.length + 2 * x.Args.length ≤ 4294967280) (hx : x.Args.length ≤ 1048576) (h4 : s4 ≤ 1048576)
    (hK : ∀ s', s'.length ≤ s.length + 2 * x.Args.length → K s' ((s4 + 1 : Nat) : Int) = g s') : m_i_usedVars_l3 N s4 K x N s 0 = g ((exprNames x.Args).foldl once s) := by
  refine lp' hN x.Args (by omega) (m_i_usedVars_l3 N s4 K x) (fun t s => g ((exprNames t).foldl once s)) (fun u t => u.length + 2 * t.length ≤ s.length + 2 * x.Args.length) s (by omega) (fun n u i y t h1 h2 h3 h4' h5 h6 hI ih => ?_) (fun n u i h1 h2 hI => ?_)
  · simp only [List.length_cons] at hI
    have hv := onces_len (argVars [y.L, y.R]) u
    have ha := argVars_len [y.L, y.R]
    simp only [List.length_cons, List.length_nil] at ha
    simp only [m_i_usedVars_l3, h5, if_true, h4', Option.bind_some, addVars_i hN [y.L, y.R] u (by simp; omega), h6, exprNames, List.foldl_append]
    exact ih _ (by omega)
  · simp only [m_i_usedVars_l3, h2, Bool.false_eq_true, if_false, wr1 s4 (by omega), exprNames]
    exact hK u (by simpa using hI)
theorem used_i {N : Nat} (hN : 1099000000000 ≤ N) (r : TRule) (hc : r.Conds.length ≤ 1048576) (ha : r.Acts.length ≤ 1048576) (hx : ∀ a ∈ r.Acts, a.Args.length ≤ 1048576) (he : nExprs r.Acts ≤ 1048576) : m_i_usedVars N r = some ((condNames r.Conds ++ actNames r.Acts).foldl once []) := by
  unfold m_i_usedVars
  have a2 : ∀ s : List ByteArray, s.length ≤ 4194304 → m_i_usedVars_l2 N r N s 0 = some ((actNames r.Acts).foldl once s) := fun s hs =>
    lp' hN r.Acts (by omega) (m_i_usedVars_l2 N r) (fun t s => some ((actNames t).foldl once s)) (fun s t => s.length + 2 * nExprs t ≤ 16777216) s (by omega) (fun n u i x t h1 h2 h3 h4 h5 h6 hI ih => by
      have hI' : u.length + 2 * (x.Args.length + nExprs t) ≤ 16777216 := by simpa [nExprs] using hI
      simp only [m_i_usedVars_l2, h5, if_true, h4, Option.bind_some, actNames, List.foldl_append]
      exact used3 hN x i (m_i_usedVars_l2 N r n) r.Acts (fun s' => some ((actNames t).foldl once s')) u (by omega) (hx x h2) (by omega) (fun s' hs' => ih s' (by omega))) (fun n u i h1 h2 hI => by simp only [m_i_usedVars_l2, h2, Bool.false_eq_true, if_false]; rfl)
  refine lp' hN r.Conds (by omega) (m_i_usedVars_l1 N r) (fun t s => some ((condNames t ++ actNames r.Acts).foldl once s)) (fun s t => s.length + 2 * t.length ≤ 4194304) [] (by simp; omega) (fun n u i x t h1 h2 h3 h4 h5 h6 hI ih => ?_) (fun n u i h1 h2 hI => ?_)
  · simp only [List.length_cons] at hI
    have hv := onces_len (argVars [x.L, x.R]) u
    have ha := argVars_len [x.L, x.R]
    simp only [List.length_cons, List.length_nil] at ha
    simp only [m_i_usedVars_l1, h5, if_true, h4, Option.bind_some, addVars_i hN [x.L, x.R] u (by simp; omega), h6, condNames, List.append_assoc]
    rw [List.foldl_append]
    exact ih _ (by omega)
  · simp only [m_i_usedVars_l1, h2, Bool.false_eq_true, if_false, condNames, List.nil_append]
    exact a2 u (by simpa using hI)
theorem known_iff (vs : List ByteArray) (a b : TArg) : (known vs a && known vs b) = true ↔ ∀ x ∈ argVars [a, b], x ∈ vs := by
  unfold known
  simp only [mem_argVars, List.mem_cons, List.not_mem_nil, or_false, Bool.and_eq_true, Bool.or_eq_true, Bool.not_eq_true', decide_eq_false_iff_not, decide_eq_true_eq]
  constructor
  · rintro ⟨h1, h2⟩ x ⟨c, rfl | rfl, h3, rfl⟩
    · exact h1.resolve_left (fun h => h h3)
    · exact h2.resolve_left (fun h => h h3)
  · intro h
    refine ⟨?_, ?_⟩
    · by_cases h1 : a.K = 1
      · exact .inr (h _ ⟨a, .inl rfl, h1, rfl⟩)
      · exact .inl h1
    · by_cases h1 : b.K = 1
      · exact .inr (h _ ⟨b, .inr rfl, h1, rfl⟩)
      · exact .inl h1
theorem condNames_iff (vs : List ByteArray) : ∀ (l : List TCond), (∀ x ∈ condNames l, x ∈ vs) ↔ ∀ c ∈ l, (known vs c.L && known vs c.R) = true
  | [] => by simp [condNames]
  | c :: t => by
    simp only [condNames, List.mem_append, or_imp, forall_and, condNames_iff vs t, List.mem_cons, forall_eq, known_iff]
theorem exprNames_iff (vs : List ByteArray) : ∀ (l : List TExpr), (∀ x ∈ exprNames l, x ∈ vs) ↔ ∀ c ∈ l, okExprK vs c = true
  | [] => by simp [exprNames]
  | c :: t => by
    simp only [exprNames, List.mem_append, or_imp, forall_and, exprNames_iff vs t, List.mem_cons, forall_eq, okExprK, known_iff]
theorem actNames_iff (vs : List ByteArray) : ∀ (l : List TAct), (∀ x ∈ actNames l, x ∈ vs) ↔ ∀ a ∈ l, a.Args.all (okExprK vs) = true
  | [] => by simp [actNames]
  | c :: t => by
    simp only [actNames, List.mem_append, or_imp, forall_and, actNames_iff vs t, List.mem_cons, forall_eq, exprNames_iff, List.all_eq_true]
theorem rule_i {N : Nat} (hN : 1099000000000 ≤ N) (r : TRule) (h : SzRule r) : m_i_RuleOk N r = some (okRule r) := by
  obtain ⟨h1, ⟨h2, h2'⟩, ⟨h3, h3'⟩, ⟨h4, h4'⟩, h5, h6⟩ := h
  have hb := bound_len h5
  have e0 : m_i_PosVars N r = some (bound r) := posVars_i hN r h2 h5
  have e1 := used_i hN r h3 h4 (fun a ha => (h4' a ha).2.2.1) h6
  have ul : ((condNames r.Conds ++ actNames r.Acts).foldl once []).length ≤ 4294967296 := by
    have a1 := onces_len (condNames r.Conds ++ actNames r.Acts) []
    have a2 := condNames_len r.Conds
    have a3 := actNames_len r.Acts
    have a4 : nExprs r.Acts ≤ 1048576 := h6
    simp only [List.length_append, List.length_nil] at a1; omega
  have l3 : m_i_RuleOk_l3 N (bound r) ((condNames r.Conds ++ actNames r.Acts).foldl once []) N 0 = some (((condNames r.Conds ++ actNames r.Acts).foldl once []).all fun x => decide (x ∈ bound r)) :=
    lp0 hN _ ul (m_i_RuleOk_l3 N (bound r) _) (fun t => some (t.all fun x => decide (x ∈ bound r))) (fun n i x t g1 g2 g3 g4 g5 g6 g7 => by
      simp only [m_i_RuleOk_l3, g5, if_true, g4, Option.bind_some, hasSl hN _ x (show (bound r).length ≤ 4294967296 by omega), g6, g7, List.all_cons]
      cases decide (x ∈ bound r) <;> rfl) (fun n i g1 g2 => by simp only [m_i_RuleOk_l3, g2, Bool.false_eq_true, if_false]; rfl)
  have l2 : m_i_RuleOk_l2 N r N 0 = some ((r.Acts.all fun a => okAct a && !(decide (a.Kind = 2) && decide ((posCount r.Pats : Int) ≤ a.N))) && ((condNames r.Conds ++ actNames r.Acts).foldl once []).all fun x => decide (x ∈ bound r)) :=
    lp0 hN r.Acts (by omega) (m_i_RuleOk_l2 N r) (fun t => some ((t.all fun a => okAct a && !(decide (a.Kind = 2) && decide ((posCount r.Pats : Int) ≤ a.N))) && ((condNames r.Conds ++ actNames r.Acts).foldl once []).all fun x => decide (x ∈ bound r))) (fun n i x t g1 g2 g3 g4 g5 g6 g7 => by
      simp only [m_i_RuleOk_l2, g5, if_true, g4, Option.bind_some, act_i hN x (h4' x g2), count_i hN r h2, g6, g7, List.all_cons]
      cases okAct x <;> cases decide (x.Kind = 2) <;> cases decide ((posCount r.Pats : Int) ≤ x.N) <;> simp) (fun n i g1 g2 => by
      simp only [m_i_RuleOk_l2, g2, Bool.false_eq_true, if_false, e0, e1, Option.bind_some, l3]; rfl)
  have l1 : m_i_RuleOk_l1 N r N 0 = some (r.Conds.all okCond && ((r.Acts.all fun a => okAct a && !(decide (a.Kind = 2) && decide ((posCount r.Pats : Int) ≤ a.N))) && ((condNames r.Conds ++ actNames r.Acts).foldl once []).all fun x => decide (x ∈ bound r))) :=
    lp0 hN r.Conds (by omega) (m_i_RuleOk_l1 N r) (fun t => some (t.all okCond && ((r.Acts.all fun a => okAct a && !(decide (a.Kind = 2) && decide ((posCount r.Pats : Int) ≤ a.N))) && ((condNames r.Conds ++ actNames r.Acts).foldl once []).all fun x => decide (x ∈ bound r)))) (fun n i x t g1 g2 g3 g4 g5 g6 g7 => by
      simp only [m_i_RuleOk_l1, g5, if_true, g4, Option.bind_some, cond_i hN x (h3' x g2), g6, g7, List.all_cons]
      cases okCond x <;> simp) (fun n i g1 g2 => by
      simp only [m_i_RuleOk_l1, g2, Bool.false_eq_true, if_false, l2]; rfl)
  have d1 : decide ((6 : Int) < (r.Conds.length : Int)) = !decide (r.Conds.length ≤ 6) := by rw [← decide_not, decide_eq_decide]; omega
  have d2 : decide ((1 : Int) ≤ (r.Acts.length : Int)) = decide (1 ≤ r.Acts.length) := by rw [decide_eq_decide]; omega
  have d3 : decide ((r.Acts.length : Int) ≤ 6) = decide (r.Acts.length ≤ 6) := by rw [decide_eq_decide]; omega
  have key : (r.Conds.all okCond && ((r.Acts.all fun a => okAct a && !(decide (a.Kind = 2) && decide ((posCount r.Pats : Int) ≤ a.N))) && ((condNames r.Conds ++ actNames r.Acts).foldl once []).all fun x => decide (x ∈ bound r))) = (r.Conds.all (okCondK (bound r)) && r.Acts.all (okActK (bound r) (posCount r.Pats))) := by
    rw [Bool.eq_iff_iff]
    have k1 : (((condNames r.Conds ++ actNames r.Acts).foldl once []).all fun x => decide (x ∈ bound r)) = true ↔ (∀ c ∈ r.Conds, (known (bound r) c.L && known (bound r) c.R) = true) ∧ ∀ a ∈ r.Acts, a.Args.all (okExprK (bound r)) = true := by
      rw [← condNames_iff, ← actNames_iff]
      simp only [List.all_eq_true, decide_eq_true_eq, mem_onces, List.not_mem_nil, false_or, List.mem_append, or_imp, forall_and]
    rw [Bool.and_eq_true, Bool.and_eq_true, Bool.and_eq_true, k1]
    simp only [List.all_eq_true, okCondK, okActK, Bool.and_eq_true, forall_and, and_imp]
    constructor
    · rintro ⟨a1, ⟨a2, a3⟩, ⟨a4, a5⟩, a6⟩; exact ⟨⟨a1, a4, a5⟩, a2, a3, a6⟩
    · rintro ⟨⟨a1, a4, a5⟩, a2, a3, a6⟩; exact ⟨a1, ⟨a2, a3⟩, ⟨a4, a5⟩, a6⟩
  unfold m_i_RuleOk okRule
  simp only [okName_i hN _ h1, Option.bind_some, in1, pats_i hN r h2 h2', d1, d2, d3, l1, key]
  generalize okName r.Name = a; generalize okPats r.Pats = b; generalize (decide (-100 ≤ r.Sal) && decide (r.Sal ≤ 100)) = c; generalize decide (r.Conds.length ≤ 6) = d; generalize (decide (1 ≤ r.Acts.length) && decide (r.Acts.length ≤ 6)) = e
  generalize r.Conds.all (okCondK (bound r)) = f; generalize r.Acts.all (okActK (bound r) (posCount r.Pats)) = g
  cases a <;> cases b <;> cases c <;> cases d <;> cases e <;> cases f <;> cases g <;> rfl
end Go.Proofs.YtelchcokfcdndaaGreat
namespace Go.Proofs.YtelchcokfcdndaaGreat
open Eng
set_option linter.unusedVariables false
set_option linter.unusedSimpArgs false
theorem patsFrom_filt {c : Nat} : ∀ (l : List TPat) (i : Nat), patsFrom c i l = true → l.filter (fun x => !x.Not) = l.take (c - i)
  | [], i, _ => by simp
  | p :: t, i, h => by
    unfold patsFrom at h
    simp only [Bool.and_eq_true, beq_iff_eq] at h
    have h1 := h.2.1
    have h2 := patsFrom_filt t (i + 1) h.2.2
    by_cases hc : c ≤ i
    · rw [decide_eq_true hc] at h1
      have e1 : c - i = 0 := by omega
      have e2 : c - (i + 1) = 0 := by omega
      rw [e1, List.take_zero, List.filter_cons, h1]
      rw [e2, List.take_zero] at h2
      simpa using h2
    · rw [decide_eq_false hc] at h1
      obtain ⟨k, hk⟩ : ∃ k, c - i = k + 1 := ⟨c - i - 1, by omega⟩
      have e2 : c - (i + 1) = k := by omega
      rw [hk, List.take_succ_cons, List.filter_cons, h1, ← e2, ← h2]
      simp
theorem okPats_filt {l : List TPat} (h : okPats l = true) : l.filter (fun x => !x.Not) = l.take (posCount l) := by
  unfold okPats at h
  simp only [Bool.and_eq_true] at h
  have := patsFrom_filt l 0 h.2.2
  simpa using this
end Go.Proofs.YtelchcokfcdndaaGreat
namespace Go.Proofs.YtelchcokfcdndaaGreat
open Eng
set_option linter.unusedVariables false
set_option linter.unusedSimpArgs false
def okFact (f : TFact) : Bool := okName f.Kind && (f.Fields.all okVal && decide (f.Fields.length ≤ 5))
def SzFact (f : TFact) : Prop := f.Kind.size ≤ 1048576 ∧ f.Fields.length ≤ 1048576 ∧ ∀ v ∈ f.Fields, v.S.size ≤ 1048576
def SzStore (s : TStore) : Prop := s.Items.length ≤ 1048576 ∧ ∀ x ∈ s.Items, SzFact x.F
def lastBelow (done : List TItem) (v : Int) : Bool := match done.getLast? with | none => true | some y => decide (y.Id < v)
def itemsOk (nx : Int) : List TItem → List TItem → Bool
  | _, [] => true
  | done, x :: t => (okFact x.F && (decide (1 ≤ x.Id) && decide (x.Id < nx))) && (lastBelow done x.Id && ((done.all fun y => !decide (x.F = y.F)) && itemsOk nx (done ++ [x]) t))
def okStore (s : TStore) : Bool := (decide (1 ≤ s.Next) && decide (s.Next ≤ 1000000)) && (decide (s.Items.length ≤ 40) && itemsOk s.Next [] s.Items)
theorem lastTake {α : Type} {xs : List α} {i : Nat} (h : 0 < i) (h' : i ≤ xs.length) : (xs.take i).getLast? = some (xs[i - 1]'(by omega)) := by
  rw [List.getLast?_eq_getElem?, List.length_take, Nat.min_eq_left h', List.getElem?_take_of_lt (by omega), List.getElem?_eq_getElem (by omega)]
end Go.Proofs.YtelchcokfcdndaaGreat
namespace Go.Proofs.YtelchcokfcdndaaGreat
open Eng
set_option linter.unusedVariables false
set_option linter.unusedSimpArgs false
theorem okRule_pats {r : TRule} (h : okRule r = true) : okPats r.Pats = true := by
  unfold okRule at h
  simp only [Bool.and_eq_true] at h
  exact h.2.2.1
theorem okRule_pos {r : TRule} (h : okRule r = true) : pos r.Pats = r.Pats.take (posCount r.Pats) := okPats_filt (okRule_pats h)
theorem sumArgs_le {B : Nat} : ∀ {l : List TPat}, (∀ p ∈ l, p.Args.length ≤ B) → sumArgs l ≤ l.length * B
  | [], _ => by simp [sumArgs]
  | p :: t, h => by
    have h1 := sumArgs_le (l := t) fun q hq => h q (by simp [hq])
    have h2 := h p (by simp)
    rw [sumArgs_cons, List.length_cons, Nat.succ_mul]; omega
theorem patsFrom_all' {c : Nat} : ∀ (l : List TPat) (i : Nat), patsFrom c i l = true → ∀ p ∈ l, okPat p = true
  | [], _, _, p, hp => by cases hp
  | x :: t, i, h, p, hp => by
    unfold patsFrom at h
    simp only [Bool.and_eq_true] at h
    rcases List.mem_cons.1 hp with rfl | hp
    · exact h.1
    · exact patsFrom_all' t _ h.2.2 p hp
theorem ok_rows {r : TRule} {s : TStore} (hr : okRule r = true) (hs : okStore s = true) : SzRows r s := by
  have hp := okRule_pats hr
  unfold okRule at hr
  simp only [Bool.and_eq_true, decide_eq_true_eq] at hr
  have hc := hr.2.2.2.1.2
  unfold okPats at hp
  simp only [Bool.and_eq_true, decide_eq_true_eq] at hp
  obtain ⟨⟨_, p1⟩, ⟨_, p2⟩, p3⟩ := hp
  have pa : ∀ p ∈ r.Pats, p.Args.length ≤ 5 := fun p hp => by
    have := patsFrom_all' _ _ p3 p hp
    unfold okPat at this
    simp only [Bool.and_eq_true, decide_eq_true_eq] at this
    omega
  have sa := sumArgs_le pa
  unfold okStore at hs
  simp only [Bool.and_eq_true, decide_eq_true_eq] at hs
  have xl := hs.2.1
  refine ⟨by omega, fun p hp => by have := pa p hp; omega, by omega, by omega, by omega, ?_⟩
  exact Nat.le_trans (Nat.pow_le_pow_left xl _) (Nat.le_trans (Nat.pow_le_pow_right (by omega) p2) (by decide))
end Go.Proofs.YtelchcokfcdndaaGreat
namespace Go.Proofs.YtelchcokfcdndaaGreat
open Eng
set_option linter.unusedVariables false
set_option linter.unusedSimpArgs false
theorem szExpr_of (e : TExpr) (h : totTExpr e ≤ 1048576) : SzExpr e := by
  unfold totTExpr totTArg totTVal at h
  refine ⟨by omega, ⟨by omega, by omega⟩, ⟨by omega, by omega⟩⟩
theorem szAct_of (a : TAct) (h : totTAct a ≤ 1048576) : SzAct a := by
  unfold totTAct at h
  have nn : ∀ y ∈ a.Args, 0 ≤ totTExpr y := fun y _ => totTExpr_nn y
  have := sum_nonneg _ _ nn
  exact ⟨by omega, by omega, by omega, fun e he => szExpr_of e (by have := sum_mem _ _ nn e he; omega)⟩
end Go.Proofs.YtelchcokfcdndaaGreat
namespace Go.Proofs.YtelchcokfcdndaaGreat
open Eng
set_option linter.unusedVariables false
set_option linter.unusedSimpArgs false
theorem szArg_of (a : TArg) (h : totTArg a ≤ 1048576) : SzArg a := by
  unfold totTArg totTVal at h
  exact ⟨by omega, by omega⟩
theorem szPat_of (p : TPat) (h : totTPat p ≤ 1048576) : SzPat p := by
  unfold totTPat at h
  have nn : ∀ y ∈ p.Args, 0 ≤ totTArg y := fun y _ => totTArg_nn y
  have := sum_nonneg _ _ nn
  exact ⟨by omega, by omega, fun a ha => szArg_of a (by have := sum_mem _ _ nn a ha; omega)⟩
theorem szCond_of (c : TCond) (h : totTCond c ≤ 1048576) : SzCond c := by
  unfold totTCond at h
  have := totTArg_nn c.L
  have := totTArg_nn c.R
  exact ⟨szArg_of _ (by omega), szArg_of _ (by omega)⟩
theorem nArgs_tot : ∀ (l : List TPat), (nArgs l : Int) ≤ (l.map totTPat).sum
  | [] => by simp [nArgs]
  | p :: t => by
    have h1 := nArgs_tot t
    have h2 : (p.Args.length : Int) ≤ totTPat p := by
      unfold totTPat
      have := sum_nonneg totTArg p.Args (fun y _ => totTArg_nn y)
      omega
    have h3 : nArgs (p :: t) = p.Args.length + nArgs t := by simp [nArgs]
    rw [h3, List.map_cons, List.sum_cons]; omega
theorem nExprs_tot : ∀ (l : List TAct), (nExprs l : Int) ≤ (l.map totTAct).sum
  | [] => by simp [nExprs]
  | p :: t => by
    have h1 := nExprs_tot t
    have h2 : (p.Args.length : Int) ≤ totTAct p := by
      unfold totTAct
      have := sum_nonneg totTExpr p.Args (fun y _ => totTExpr_nn y)
      omega
    have h3 : nExprs (p :: t) = p.Args.length + nExprs t := by simp [nExprs]
    rw [h3, List.map_cons, List.sum_cons]; omega
theorem szRule_of (r : TRule) (h : totTRule r ≤ 1048576) : SzRule r := by
  unfold totTRule at h
  have n1 : ∀ y ∈ r.Pats, 0 ≤ totTPat y := fun y _ => totTPat_nn y
  have n2 : ∀ y ∈ r.Conds, 0 ≤ totTCond y := fun y _ => totTCond_nn y
  have n3 : ∀ y ∈ r.Acts, 0 ≤ totTAct y := fun y _ => totTAct_nn y
  have s1 := sum_nonneg _ _ n1
  have s2 := sum_nonneg _ _ n2
  have s3 := sum_nonneg _ _ n3
  have s4 := nArgs_tot r.Pats
  have s5 := nExprs_tot r.Acts
  refine ⟨by omega, ⟨by omega, fun p hp => szPat_of p (by have := sum_mem _ _ n1 p hp; omega)⟩, ⟨by omega, fun p hp => szCond_of p (by have := sum_mem _ _ n2 p hp; omega)⟩, ⟨by omega, fun p hp => szAct_of p (by have := sum_mem _ _ n3 p hp; omega)⟩, by omega, ?_⟩
  have : nExprs r.Acts ≤ 1048576 := by omega
  exact this
end Go.Proofs.YtelchcokfcdndaaGreat
namespace Go.Proofs.YtelchcokfcdndaaGreat
open Eng
set_option linter.unusedVariables false
set_option linter.unusedSimpArgs false
theorem sumle {α : Type} {f : α → Int} {B : Int} : ∀ (l : List α), (∀ x ∈ l, f x ≤ B) → (l.map f).sum ≤ (l.length : Int) * B
  | [], _ => by simp
  | x :: t, h => by
    have h1 := sumle t fun y hy => h y (by simp [hy])
    have h2 := h x (by simp)
    simp only [List.map_cons, List.sum_cons, List.length_cons]
    have : ((t.length + 1 : Nat) : Int) * B = (t.length : Int) * B + B := by rw [Int.natCast_add, Int.add_mul]; simp
    omega
theorem rowsP_binds {P : TBind → Prop} {fin : List Int → List TBind → List TMatch} (hf : ∀ ids l, ∀ m ∈ fin ids l, m.Ids = ids ∧ m.Binds = l) {xs : List TItem} (h : ∀ x ∈ xs, ∀ v ∈ x.F.Fields, ∀ (n : ByteArray), n.size ≤ 1048576 → P ⟨n, v⟩) : ∀ (ps : List TPat) (ids : List Int) (l : List TBind), (∀ p ∈ ps, ∀ a ∈ p.Args, a.S.size ≤ 1048576) → (∀ x ∈ l, P x) → ∀ m ∈ rowsP fin xs ps ids l, ∀ b ∈ m.Binds, P b
  | [], ids, l, _, hl, m, hm => by
    obtain ⟨_, h2⟩ := hf ids l m (by simpa [rowsP] using hm)
    rw [h2]; exact hl
  | p :: t, ids, l, hp, hl, m, hm => by
    unfold rowsP at hm
    obtain ⟨x, hx, hm⟩ := List.mem_flatMap.1 hm
    split at hm
    · exact rowsP_binds hf h t _ _ (fun q hq => hp q (by simp [hq])) (matchPat_all hl fun a ha w hw => h x hx w hw _ (hp p (by simp) a ha)) m hm
    · cases hm
theorem szStore_of (s : TStore) (h : totTStore s ≤ 1048576) : SzStore s ∧ ∀ x ∈ s.Items, ∀ v ∈ x.F.Fields, totTVal v ≤ 1048576 := by
  unfold totTStore at h
  have n4 : ∀ y ∈ s.Items, 0 ≤ totTItem y := fun y _ => totTItem_nn y
  have s4 := sum_nonneg _ _ n4
  have hx : ∀ x ∈ s.Items, SzFact x.F ∧ ∀ v ∈ x.F.Fields, totTVal v ≤ 1048576 := fun x hx => by
    have h0 := sum_mem _ _ n4 x hx
    have h : totTItem x ≤ 1048576 := by omega
    unfold totTItem totTFact at h
    have nn : ∀ y ∈ x.F.Fields, 0 ≤ totTVal y := fun y _ => totTVal_nn y
    have := sum_nonneg _ _ nn
    have hv : ∀ v ∈ x.F.Fields, totTVal v ≤ 1048576 := fun v hv => by
      have h5 := sum_mem _ _ nn v hv
      omega
    refine ⟨⟨by omega, by omega, fun v hv' => ?_⟩, hv⟩
    have := hv v hv'
    unfold totTVal at this
    omega
  exact ⟨⟨by omega, fun x h => (hx x h).1⟩, fun x h => (hx x h).2⟩
theorem row_tot {r : TRule} {s : TStore} (hr : okRule r = true) (hs : okStore s = true) (ht : totTRule r ≤ 1048576) (hx : ∀ x ∈ s.Items, ∀ v ∈ x.F.Fields, totTVal v ≤ 1048576) : ∀ m ∈ rowsOf r s.Items, LimTMatch m ∧ totTMatch m ≤ 67108864 := by
  intro m hm
  have hz := ok_rows hr hs
  have hp := okRule_pats hr
  unfold okPats at hp
  simp only [Bool.and_eq_true, decide_eq_true_eq] at hp
  obtain ⟨⟨_, p1⟩, ⟨_, p2⟩, p3⟩ := hp
  have pa : ∀ p ∈ r.Pats, p.Args.length ≤ 5 := fun p hp => by
    have := patsFrom_all' _ _ p3 p hp
    unfold okPat at this
    simp only [Bool.and_eq_true, decide_eq_true_eq] at this
    omega
  have sa := sumArgs_le pa
  have ha : ∀ p ∈ r.Pats, ∀ a ∈ p.Args, a.S.size ≤ 1048576 := fun p hp a ha => (((szRule_of r ht).2.1.2 p hp).2.2 a ha).1
  have h1 := rowsP_sz (finR_sz r s.Items) s.Items (r.Pats.take (posCount r.Pats)) [] [] m hm
  have h2 := sumArgs_take (posCount r.Pats) r.Pats
  rw [List.length_take] at h1
  simp only [List.length_nil] at h1
  have h3 := rowsP_binds (P := fun b => totTBind b ≤ 2097152) (finR_sz r s.Items) (fun x hx' v hv n hn => by
    have := hx x hx' v hv
    show totTBind ⟨n, v⟩ ≤ 2097152
    unfold totTBind
    simp only
    omega) (r.Pats.take (posCount r.Pats)) [] [] (fun p hp a hha => ha p (List.mem_of_mem_take hp) a hha) (by simp) m hm
  have h4 := sumle m.Binds h3
  refine ⟨by unfold LimTMatch; omega, ?_⟩
  unfold totTMatch
  omega
end Go.Proofs.YtelchcokfcdndaaGreat
namespace Go.Proofs.YtelchcokfcdndaaGreat
open Eng
set_option linter.unusedVariables false
set_option linter.unusedSimpArgs false
theorem ok_rowsOf {r : TRule} {s : TStore} (hr : okRule r = true) (hs : okStore s = true) : (rowsOf r s.Items).length ≤ 64000 := by
  have hp := okRule_pats hr
  unfold okPats at hp
  simp only [Bool.and_eq_true, decide_eq_true_eq] at hp
  obtain ⟨_, ⟨_, p2⟩, _⟩ := hp
  unfold okStore at hs
  simp only [Bool.and_eq_true, decide_eq_true_eq] at hs
  have xl := hs.2.1
  have h1 := rowsP_len (finR_len r s.Items) s.Items (r.Pats.take (posCount r.Pats)) [] []
  rw [List.length_take, Nat.min_eq_left (posCount_le r.Pats)] at h1
  exact Nat.le_trans h1 (Nat.le_trans (Nat.pow_le_pow_left xl _) (Nat.le_trans (Nat.pow_le_pow_right (by omega) p2) (by decide)))
end Go.Proofs.YtelchcokfcdndaaGreat
namespace Go.Proofs.YtelchcokfcdndaaGreat
open Eng
set_option linter.unusedVariables false
set_option linter.unusedSimpArgs false
def setRule (i : Nat) (m : TMatch) : TMatch := ⟨(i : Int), m.Ids, m.Binds⟩
def allFrom (xs : List TItem) : Nat → List TRule → List TMatch
  | _, [] => []
  | i, r :: t => (rowsOf r xs).map (setRule i) ++ allFrom xs (i + 1) t
theorem rowsOf_len {r : TRule} {s : TStore} (hz : SzRows r s) : (rowsOf r s.Items).length ≤ 1073741824 := by
  have h1 := rowsP_len (finR_len r s.Items) s.Items (r.Pats.take (posCount r.Pats)) [] []
  have h2 := posCount_le r.Pats
  rw [List.length_take, Nat.min_eq_left h2] at h1
  exact Nat.le_trans h1 hz.nm
theorem allFrom_len {xs : List TItem} {M : Nat} : ∀ (t : List TRule) (i : Nat), (∀ r ∈ t, (rowsOf r xs).length ≤ M) → (allFrom xs i t).length ≤ t.length * M
  | [], i, _ => by simp [allFrom]
  | r :: t, i, h => by
    have h1 := allFrom_len t (i + 1) fun y hy => h y (by simp [hy])
    have h2 := h r (by simp)
    unfold allFrom
    rw [List.length_append, List.length_map, List.length_cons, Nat.succ_mul]; omega
end Go.Proofs.YtelchcokfcdndaaGreat
namespace Go.Proofs.YtelchcokfcdndaaGreat
open Eng
set_option linter.unusedVariables false
set_option linter.unusedSimpArgs false
def ruleAt (l : List TRule) (v : ByteArray) : Int := match l.findIdx? (fun r => seq r.Name v) with | some j => (j : Int) | none => -1
theorem at_s {N : Nat} (hN : 1099000000000 ≤ N) (d : TDef) (v : ByteArray) (hl : d.Rules.length ≤ 1048576) : m_s_RuleAt N d v = some (ruleAt d.Rules v) := by
  unfold m_s_RuleAt ruleAt
  have a := findloop (m_s_RuleAt_l1 N d v) d.Rules (by omega) (fun x => seq x.Name v) (fun n i x hx _ hc hw => by simp only [m_s_RuleAt_l1, hc, if_true, hx, Option.bind_some, hw]) (fun n i hc => by simp only [m_s_RuleAt_l1, hc, Bool.false_eq_true, if_false]) N 0 (by omega) (by omega)
  rw [show ((0 : Nat) : Int) = 0 from rfl, List.drop_zero] at a
  rw [a]
  cases d.Rules.findIdx? (fun r => seq r.Name v) <;> simp
theorem at_i {N : Nat} (hN : 1099000000000 ≤ N) (d : TDef) (v : ByteArray) (hl : d.Rules.length ≤ 1048576) : m_i_RuleAt N d v = some (ruleAt d.Rules v) := by
  unfold m_i_RuleAt m_sl_IndexFunc_Si_Rule_i_Rule ruleAt
  have b := findloop (m_sl_IndexFunc_Si_Rule_i_Rule_l1 N d.Rules (fun a0 => m_i_RuleAt_c1 N a0 v)) d.Rules (by omega) (fun x => seq x.Name v) (fun n i x hx _ hc hw => by simp only [m_sl_IndexFunc_Si_Rule_i_Rule_l1, m_i_RuleAt_c1, hc, if_true, hx, Option.bind_some, hw]) (fun n i hc => by simp only [m_sl_IndexFunc_Si_Rule_i_Rule_l1, hc, Bool.false_eq_true, if_false]) N 0 (by omega) (by omega)
  rw [show ((0 : Nat) : Int) = 0 from rfl, List.drop_zero] at b
  rw [b]
  cases d.Rules.findIdx? (fun r => seq r.Name v) <;> simp
def rulesFrom (all : List TRule) : Nat → List TRule → Bool
  | _, [] => true
  | i, r :: t => okRule r && (decide (ruleAt all r.Name = (i : Int)) && rulesFrom all (i + 1) t)
def okDef (d : TDef) : Bool := okName d.Name && ((decide (1 ≤ d.Rules.length) && decide (d.Rules.length ≤ 12)) && rulesFrom d.Rules 0 d.Rules)
def SzDef (d : TDef) : Prop := d.Name.size ≤ 1048576 ∧ d.Rules.length ≤ 1048576 ∧ ∀ r ∈ d.Rules, SzRule r
theorem def_i {N : Nat} (hN : 1099000000000 ≤ N) (d : TDef) (h : SzDef d) : m_i_DefOk N d = some (okDef d) := by
  obtain ⟨h1, h2, h3⟩ := h
  have lp : ∀ (n i : Nat), i ≤ d.Rules.length → d.Rules.length - i < n → m_i_DefOk_l1 N d n i = some (rulesFrom d.Rules i (d.Rules.drop i)) := by
    intro n
    induction n with
    | zero => intro i _ h; omega
    | succ n ih =>
      intro i hi hn
      by_cases hlt : i < d.Rules.length
      · have c1 : decide ((i : Int) < (d.Rules.length : Int)) = true := decide_eq_true (by omega)
        rw [List.drop_eq_getElem_cons hlt]
        simp only [m_i_DefOk_l1, c1, if_true, idx_nat_lt hlt, Option.bind_some, rule_i hN _ (h3 _ (List.getElem_mem hlt)), at_i hN d _ h2, wr1 i (by omega), ih (i + 1) (by omega) (by omega), rulesFrom]
        cases okRule d.Rules[i] <;> cases decide (ruleAt d.Rules d.Rules[i].Name = (i : Int)) <;> simp
      · have c1 : decide ((i : Int) < (d.Rules.length : Int)) = false := decide_eq_false (by omega)
        rw [List.drop_of_length_le (by omega)]
        simp only [m_i_DefOk_l1, c1, Bool.false_eq_true, if_false]; rfl
  have l0 := lp N 0 (by omega) (by omega)
  have d1 : decide ((1 : Int) ≤ (d.Rules.length : Int)) = decide (1 ≤ d.Rules.length) := by rw [decide_eq_decide]; omega
  have d2 : decide ((d.Rules.length : Int) ≤ 12) = decide (d.Rules.length ≤ 12) := by rw [decide_eq_decide]; omega
  unfold m_i_DefOk okDef
  simp only [okName_i hN _ h1, Option.bind_some, in1, d1, d2]
  rw [show m_i_DefOk_l1 N d N 0 = _ from l0, List.drop_zero]
  cases okName d.Name <;> cases (decide (1 ≤ d.Rules.length) && decide (d.Rules.length ≤ 12)) <;> rfl
theorem def_s {N : Nat} (hN : 1099000000000 ≤ N) (d : TDef) (h : SzDef d) : m_s_DefOk N d = some (okDef d) := by
  obtain ⟨h1, h2, h3⟩ := h
  have d1 : decide ((1 : Int) ≤ (d.Rules.length : Int)) = decide (1 ≤ d.Rules.length) := by rw [decide_eq_decide]; omega
  have d2 : decide ((d.Rules.length : Int) ≤ 12) = decide (d.Rules.length ≤ 12) := by rw [decide_eq_decide]; omega
  have lp : ∀ (n i : Nat), i ≤ d.Rules.length → d.Rules.length - i < n → m_s_DefOk_l1 N d n i = some (rulesFrom d.Rules i (d.Rules.drop i) && (okName d.Name && (decide (1 ≤ d.Rules.length) && decide (d.Rules.length ≤ 12)))) := by
    intro n
    induction n with
    | zero => intro i _ h; omega
    | succ n ih =>
      intro i hi hn
      by_cases hlt : i < d.Rules.length
      · have c1 : decide ((i : Int) < (d.Rules.length : Int)) = true := decide_eq_true (by omega)
        rw [List.drop_eq_getElem_cons hlt]
        simp only [m_s_DefOk_l1, c1, if_true, idx_nat_lt hlt, Option.bind_some, rule_s hN _ (h3 _ (List.getElem_mem hlt)), at_s hN d _ h2, wr1 i (by omega), ih (i + 1) (by omega) (by omega), rulesFrom]
        cases okRule d.Rules[i] <;> cases decide (ruleAt d.Rules d.Rules[i].Name = (i : Int)) <;> simp
      · have c1 : decide ((i : Int) < (d.Rules.length : Int)) = false := decide_eq_false (by omega)
        rw [List.drop_of_length_le (by omega)]
        simp only [m_s_DefOk_l1, c1, Bool.false_eq_true, if_false, okName_s hN _ h1, in0, Option.bind_some, d1, d2, andS, rulesFrom, Bool.true_and]
  have l0 := lp N 0 (by omega) (by omega)
  unfold m_s_DefOk okDef
  rw [show m_s_DefOk_l1 N d N 0 = _ from l0, List.drop_zero]
  cases rulesFrom d.Rules 0 d.Rules <;> simp
theorem okDef_rule {d : TDef} (h : okDef d = true) : ∀ r ∈ d.Rules, okRule r = true := by
  unfold okDef at h
  simp only [Bool.and_eq_true] at h
  have : ∀ (l : List TRule) (i : Nat), rulesFrom d.Rules i l = true → ∀ r ∈ l, okRule r = true := by
    intro l
    induction l with
    | nil => intro i _ r hr; cases hr
    | cons x t ih =>
      intro i hi r hr
      unfold rulesFrom at hi
      simp only [Bool.and_eq_true] at hi
      rcases List.mem_cons.1 hr with rfl | hr
      · exact hi.1
      · exact ih _ hi.2.2 r hr
  exact this _ _ h.2.2
end Go.Proofs.YtelchcokfcdndaaGreat
namespace Go.Proofs.YtelchcokfcdndaaGreat
open Eng
set_option linter.unusedVariables false
set_option linter.unusedSimpArgs false
def allMatches (d : TDef) (s : TStore) : List TMatch := if (okDef d && okStore s) = true then allFrom s.Items 0 d.Rules else []
theorem okDef_len {d : TDef} (h : okDef d = true) : d.Rules.length ≤ 12 := by
  unfold okDef at h
  simp only [Bool.and_eq_true, decide_eq_true_eq] at h
  exact h.2.1.2
end Go.Proofs.YtelchcokfcdndaaGreat
namespace Go.Proofs.YtelchcokfcdndaaGreat
open Eng
set_option linter.unusedVariables false
set_option linter.unusedSimpArgs false
theorem rows_s (r : TRule) (s : TStore) (hz : SzRows r s) : ∀ (k N : Nat) (out : List TMatch) (ids : List Int) (l : List TBind), 1099000000001 + k ≤ N → ids.length + k = posCount r.Pats → out.length + s.Items.length ^ k ≤ 4294967296 →
    l.length + sumArgs ((r.Pats.take (posCount r.Pats)).drop ids.length) ≤ 1048576 → m_s_l11Rows N out r s ids l = some (out ++ rowsP (finR r s.Items) s.Items ((r.Pats.take (posCount r.Pats)).drop ids.length) ids l) := by
  have hpc := posCount_le r.Pats
  have hpl := hz.pl
  intro k
  induction k with
  | zero =>
    intro N out ids l hN hk ho hl
    obtain ⟨N, rfl⟩ : ∃ M, N = M + 1 := ⟨N - 1, by omega⟩
    have c1 : decide ((ids.length : Int) = (posCount r.Pats : Int)) = true := decide_eq_true (by omega)
    have e0 : (r.Pats.take (posCount r.Pats)).drop ids.length = [] := List.drop_of_length_le (by rw [List.length_take]; omega)
    rw [e0]
    simp only [m_s_l11Rows, count_s (show 1099000000000 ≤ N by omega) r hz.pl, Option.bind_some, c1, if_true, blocked_s (show 1099000000000 ≤ N by omega) r s l hz.pl hz.pa hz.xl (by omega), holdAll_s (show 1099000000000 ≤ N by omega) r.Conds l (by have := hz.cl; omega) (by omega), andS, rowsP, finR, m_s_l11Rows_j1]
    cases (!blocked r.Pats s.Items l && r.Conds.all fun c => holds c l) with
    | true =>
      simp only [if_true, app_nil (show ids.length ≤ 4294967296 by omega), app_nil (show l.length ≤ 4294967296 by omega), Option.bind_some, app_ok (show out.length + [(⟨0, ids, l⟩ : TMatch)].length ≤ 4294967296 by simp at ho ⊢; omega)]
    | false => simp
  | succ k ih =>
    intro N out ids l hN hk ho hl
    obtain ⟨N, rfl⟩ : ∃ M, N = M + 1 := ⟨N - 1, by omega⟩
    have c1 : decide ((ids.length : Int) = (posCount r.Pats : Int)) = false := decide_eq_false (by omega)
    have hi : ids.length < r.Pats.length := by omega
    have hd : (r.Pats.take (posCount r.Pats)).drop ids.length = r.Pats[ids.length] :: (r.Pats.take (posCount r.Pats)).drop (ids.length + 1) := by
      rw [List.drop_eq_getElem_cons (by rw [List.length_take]; omega), List.getElem_take]
    rw [hd] at hl ⊢
    rw [sumArgs_cons] at hl
    have hpa := hz.pa _ (List.getElem_mem hi)
    simp only [m_s_l11Rows, count_s (show 1099000000000 ≤ N by omega) r hz.pl, Option.bind_some, c1, Bool.false_eq_true, if_false, rowsP]
    have hM : s.Items.length ^ (k + 1) = s.Items.length * s.Items.length ^ k := by rw [Nat.pow_succ, Nat.mul_comm]
    rw [hM] at ho
    have hxl := hz.xl
    refine lp' (show 1099000000000 ≤ N by omega) s.Items (by omega) (fun n (u : List TMatch) i => m_s_l11Rows_l2 N r s ids l (m_s_l11Rows N) n u i) (fun t u => some (u ++ t.flatMap fun x => if (matchPat r.Pats[ids.length] x.F l).2 = true then rowsP (finR r s.Items) s.Items ((r.Pats.take (posCount r.Pats)).drop (ids.length + 1)) (ids ++ [x.Id]) (matchPat r.Pats[ids.length] x.F l).1 else []))
      (fun u t => u.length + t.length * s.Items.length ^ k ≤ 4294967296) out ho (fun n u i x t g1 g2 g3 g4 g5 g6 gI gh => ?_) (fun n u i g1 g2 gI => ?_)
    · rw [List.length_cons, Nat.succ_mul] at gI
      have hml := matchPat_len r.Pats[ids.length] x.F l
      simp only [m_s_l11Rows_l2, g5, if_true, idx_nat_lt hi, g4, Option.bind_some, match_s (show 1099000000000 ≤ N by omega) _ x.F l hpa (by omega), List.flatMap_cons, g6]
      cases hm : (matchPat r.Pats[ids.length] x.F l).2 with
      | true =>
        have hrl := rowsP_len (finR_len r s.Items) s.Items ((r.Pats.take (posCount r.Pats)).drop (ids.length + 1)) (ids ++ [x.Id]) (matchPat r.Pats[ids.length] x.F l).1
        have hdl : ((r.Pats.take (posCount r.Pats)).drop (ids.length + 1)).length = k := by rw [List.length_drop, List.length_take]; omega
        rw [hdl] at hrl
        have hids : (ids ++ [x.Id]).length = ids.length + 1 := by simp
        have := ih N u (ids ++ [x.Id]) (matchPat r.Pats[ids.length] x.F l).1 (by omega) (by omega) (by omega) (by rw [hids]; omega)
        rw [hids] at this
        simp only [if_true, app_nil (show ids.length ≤ 4294967296 by omega), app_ok (show ids.length + [x.Id].length ≤ 4294967296 by simp; omega), Option.bind_some, this, m_s_l11Rows_j3, g6]
        rw [gh _ (by rw [List.length_append]; omega), List.append_assoc]
      | false =>
        simp only [Bool.false_eq_true, if_false, List.nil_append]
        exact gh u (by omega)
    · simp only [m_s_l11Rows_l2, g2, Bool.false_eq_true, if_false]; simp
theorem of_s {N : Nat} (hN : 1099400000000 ≤ N) (r : TRule) (s : TStore) (hz : SzRows r s) : m_s_l11Of N r s = some (rowsOf r s.Items) := by
  unfold m_s_l11Of rowsOf
  have h1 := sumArgs_take (posCount r.Pats) r.Pats
  have h2 := posCount_le r.Pats
  have h3 := hz.pl
  have h4 := hz.sa
  have h5 := hz.nm
  have := rows_s r s hz (posCount r.Pats) N [] [] [] (by omega) (by simp) (by simp; omega) (by simp; omega)
  rw [this]; simp
end Go.Proofs.YtelchcokfcdndaaGreat
namespace Go.Proofs.YtelchcokfcdndaaGreat
open Eng
set_option linter.unusedVariables false
set_option linter.unusedSimpArgs false
theorem all_s {N : Nat} (hN : 1099400000000 ≤ N) (d : TDef) (s : TStore) (hl : d.Rules.length ≤ 1048576) (hz : ∀ r ∈ d.Rules, SzRows r s) (M : Nat) (hM : ∀ r ∈ d.Rules, (rowsOf r s.Items).length ≤ M) (hMl : d.Rules.length * M ≤ 4294967296) : m_s_l11All N d s = some (allFrom s.Items 0 d.Rules) := by
  unfold m_s_l11All
  have lp : ∀ (n i : Nat) (out : List TMatch), i ≤ d.Rules.length → d.Rules.length - i < n → out.length + (d.Rules.length - i) * M ≤ 4294967296 → m_s_l11All_l1 N d s n out i = some (out ++ allFrom s.Items i (d.Rules.drop i)) := by
    intro n
    induction n with
    | zero => intro i _ _ h; omega
    | succ n ih =>
      intro i out hi hn ho
      by_cases hlt : i < d.Rules.length
      · have c1 : decide ((i : Int) < (d.Rules.length : Int)) = true := decide_eq_true (by omega)
        have hr := hz _ (List.getElem_mem hlt)
        have hm := hM _ (List.getElem_mem hlt)
        have hrl := rowsOf_len hr
        rw [List.drop_eq_getElem_cons hlt, allFrom]
        simp only [m_s_l11All_l1, c1, if_true, idx_nat_lt hlt, Option.bind_some, of_s hN _ s hr]
        have ha : (d.Rules.length - i) * M = M + (d.Rules.length - (i + 1)) * M := by
          rw [show d.Rules.length - i = (d.Rules.length - (i + 1)) + 1 by omega, Nat.succ_mul]; omega
        rw [ha] at ho
        have l2 : ∀ (m : Nat) (todo done : List TMatch), todo.length < m → done.length + todo.length = (rowsOf d.Rules[i] s.Items).length → ∀ (u : List TMatch), u.length + todo.length + (d.Rules.length - (i + 1)) * M ≤ 4294967296 →
            m_s_l11All_l2 N (i : Int) (m_s_l11All_l1 N d s n) m u (done ++ todo) (done.length : Int) = some (u ++ todo.map (setRule i) ++ allFrom s.Items (i + 1) (d.Rules.drop (i + 1))) := by
          intro m
          induction m with
          | zero => intro _ _ h; omega
          | succ m ihm =>
            intro todo done hm' hl' u hu
            simp only [m_s_l11All_l2]
            cases todo with
            | nil =>
              have e1 : decide ((done.length : Int) < ((done ++ ([] : List TMatch)).length : Int)) = false := decide_eq_false (by simp)
              rw [e1]
              simp only [Bool.false_eq_true, if_false, wr1 i (by omega)]
              rw [ih (i + 1) u (by omega) (by omega) (by simp at hu; omega)]; simp
            | cons x t =>
              have e1 : decide ((done.length : Int) < ((done ++ x :: t).length : Int)) = true := decide_eq_true (by simp; omega)
              have e2 : idx (done ++ x :: t) (done.length : Int) = some x := by
                rw [idx_nat_lt (show done.length < (done ++ x :: t).length by simp)]; simp
              have hset : (done ++ x :: t).set ((done.length : Int)).toNat (setRule i x) = (done ++ [setRule i x]) ++ t := by
                rw [Int.toNat_natCast, List.set_append_right _ _ (Nat.le_refl _)]; simp
              simp only [List.length_cons] at hm' hl' hu
              rw [e1]
              simp only [if_true, e2, Option.bind_some]
              rw [show (⟨(i : Int), x.Ids, x.Binds⟩ : TMatch) = setRule i x from rfl, app_ok (show u.length + [setRule i x].length ≤ 4294967296 by simp; omega), Option.bind_some, hset, wr1 _ (by omega)]
              have := ihm t (done ++ [setRule i x]) (by omega) (by simp; omega) (u ++ [setRule i x]) (by simp; omega)
              rw [List.length_append, List.length_cons, List.length_nil] at this
              rw [this]; simp
        have := l2 N (rowsOf d.Rules[i] s.Items) [] (by omega) (by simp) out (by omega)
        simp only [List.nil_append, List.length_nil] at this
        rw [show ((0 : Nat) : Int) = 0 from rfl] at this
        rw [this]; simp
      · have c1 : decide ((i : Int) < (d.Rules.length : Int)) = false := decide_eq_false (by omega)
        rw [List.drop_of_length_le (by omega)]
        simp only [m_s_l11All_l1, c1, Bool.false_eq_true, if_false, allFrom, List.append_nil]
  have := lp N 0 [] (by omega) (by omega) (by simpa using hMl)
  simpa using this
end Go.Proofs.YtelchcokfcdndaaGreat
namespace Go.Proofs.YtelchcokfcdndaaGreat
open Eng
set_option linter.unusedVariables false
set_option linter.unusedSimpArgs false
theorem sameVs {N : Nat} (hN : 1099000000000 ≤ N) (x y : List TVal) (hl : x.length ≤ 4294967296) : m_s_l3SameVals N x y = some (decide (x = y)) := by
  unfold m_s_l3SameVals
  by_cases c : x.length = y.length
  · rw [if_neg (by simp; omega)]
    refine (eqloop (m_s_l3SameVals_l1 N x y) x y c (by omega) (fun a b => some (decide (a = b))) (fun a _ b _ => rfl) (fun k i => by simp only [m_s_l3SameVals_l1, eqT_TVal_eq, Option.bind_some]) N 0 (by omega) (by omega)).trans ?_
    simp
  · rw [if_pos (by simp; omega)]
    have : ¬ x = y := fun e => c (by rw [e])
    simp [this]
end Go.Proofs.YtelchcokfcdndaaGreat
namespace Go.Proofs.YtelchcokfcdndaaGreat
open Eng
set_option linter.unusedVariables false
set_option linter.unusedSimpArgs false
theorem sameF_s {N : Nat} (hN : 1099000000000 ≤ N) (x y : TFact) (hl : x.Fields.length ≤ 4294967296) : m_s_SameFact N x y = some (decide (x = y)) := by
  unfold m_s_SameFact
  simp only [sameVs hN _ _ hl, Option.bind_some, andS, seq_eq]
  obtain ⟨a, b⟩ := x; obtain ⟨c, d⟩ := y
  simp only [TFact.mk.injEq, Bool.decide_and]
def idOf (xs : List TItem) (f : TFact) : Int := match xs.find? (fun x => decide (x.F = f)) with | some x => x.Id | none => 0
theorem idOf_cons (x : TItem) (xs : List TItem) (f : TFact) : idOf (x :: xs) f = if x.F = f then x.Id else idOf xs f := by
  unfold idOf
  rw [List.find?_cons]
  by_cases h : x.F = f <;> simp [h]
theorem idOf_s {N : Nat} (hN : 1099000000000 ≤ N) (s : TStore) (f : TFact) (hl : s.Items.length ≤ 1048576) (hx : ∀ x ∈ s.Items, x.F.Fields.length ≤ 1048576) : m_s_IdOf N s f = some (idOf s.Items f) := by
  unfold m_s_IdOf
  refine lp0 hN s.Items (by omega) (m_s_IdOf_l1 N s f) (fun t => some (idOf t f)) (fun n i x t h1 h2 h3 h4 h5 h6 h7 => ?_) (fun n i h1 h2 => ?_)
  · simp only [m_s_IdOf_l1, h5, if_true, h4, Option.bind_some, sameF_s hN x.F f (by have := hx x h2; omega), h6, h7, idOf_cons]
    by_cases h : x.F = f <;> simp [h]
  · simp only [m_s_IdOf_l1, h2, Bool.false_eq_true, if_false]; rfl
end Go.Proofs.YtelchcokfcdndaaGreat
namespace Go.Proofs.YtelchcokfcdndaaGreat
open Eng
set_option linter.unusedVariables false
set_option linter.unusedSimpArgs false
theorem fact_s {N : Nat} (hN : 1099000000000 ≤ N) (f : TFact) (h : SzFact f) : m_s_FactOk N f = some (okFact f) := by
  obtain ⟨h1, h2, h3⟩ := h
  unfold m_s_FactOk okFact m_s_l3Vals
  have d1 : decide ((f.Fields.length : Int) ≤ 5) = decide (f.Fields.length ≤ 5) := by rw [decide_eq_decide]; omega
  have l1 : m_s_l3Vals_l1 N f.Fields N 0 = some (f.Fields.all okVal && decide (f.Fields.length ≤ 5)) := lp0 hN f.Fields (by omega) (m_s_l3Vals_l1 N f.Fields) (fun t => some (t.all okVal && decide (f.Fields.length ≤ 5))) (fun n i x t g1 g2 g3 g4 g5 g6 g7 => by
    simp only [m_s_l3Vals_l1, g5, if_true, g4, Option.bind_some, val_s (show 1048578 ≤ N by omega) x (h3 x g2), val_i (show 1048578 ≤ N by omega) x (h3 x g2), g6, g7, List.all_cons]
    cases okVal x <;> simp) (fun n i g1 g2 => by simp only [m_s_l3Vals_l1, g2, Bool.false_eq_true, if_false, d1]; rfl)
  simp only [okName_s hN _ h1, Option.bind_some, l1, andS]
theorem idOf_done {done t : List TItem} {x : TItem} (h : ∀ y ∈ done, y.Id < x.Id) : decide (idOf (done ++ x :: t) x.F = x.Id) = done.all fun y => !decide (x.F = y.F) := by
  induction done with
  | nil =>
    rw [List.nil_append, idOf_cons, if_pos rfl]; simp
  | cons y d ih =>
    rw [List.cons_append, idOf_cons, List.all_cons]
    by_cases he : y.F = x.F
    · have := h y (by simp)
      rw [if_pos he]
      have e2 : decide (x.F = y.F) = true := decide_eq_true he.symm
      rw [e2, decide_eq_false (by omega)]; simp
    · rw [if_neg he, ih fun z hz => h z (by simp [hz])]
      have e2 : decide (x.F = y.F) = false := decide_eq_false (fun e => he e.symm)
      rw [e2]; simp
theorem store_s {N : Nat} (hN : 1099000000000 ≤ N) (s : TStore) (h : SzStore s) : m_s_StoreOk N s = some (okStore s) := by
  obtain ⟨h1, h2⟩ := h
  unfold m_s_StoreOk okStore
  have d1 : decide ((40 : Int) < (s.Items.length : Int)) = !decide (s.Items.length ≤ 40) := by rw [← decide_not, decide_eq_decide]; omega
  have lp : ∀ (n i : Nat), i ≤ s.Items.length → s.Items.length - i < n → (∀ y ∈ s.Items.take i, ∀ z, (s.Items.take i).getLast? = some z → y.Id ≤ z.Id) → m_s_StoreOk_l1 N s n i = some (itemsOk s.Next (s.Items.take i) (s.Items.drop i)) := by
    intro n
    induction n with
    | zero => intro i _ h; omega
    | succ n ih =>
      intro i hi hm hup
      simp only [m_s_StoreOk_l1]
      by_cases hlt : i < s.Items.length
      · have c1 : decide ((i : Int) < (s.Items.length : Int)) = true := decide_eq_true (by omega)
        have hf := h2 _ (List.getElem_mem hlt)
        have hprev : (if decide (0 < (i : Int)) = true then (idx s.Items (IntKind.i64.wrap ((i : Int) - 1))).bind fun x5 => some (decide (s.Items[i].Id ≤ x5.Id)) else some false) = some (!(lastBelow (s.Items.take i) s.Items[i].Id)) := by
          by_cases h0 : 0 < i
          · have e1 : IntKind.i64.wrap ((i : Int) - 1) = ((i - 1 : Nat) : Int) := by rw [wr (by omega) (by omega)]; omega
            unfold lastBelow; rw [lastTake h0 hi, decide_eq_true (show (0 : Int) < (i : Int) by omega), e1]
            simp only [if_true, idx_nat_lt (show i - 1 < s.Items.length by omega), Option.bind_some]
            rw [← decide_not]; congr 1; rw [decide_eq_decide]; omega
          · have : i = 0 := by omega
            subst this
            simp [lastBelow]
        have htk : s.Items.take (i + 1) = s.Items.take i ++ [s.Items[i]] := List.take_succ_eq_append_getElem hlt
        have hall : s.Items = s.Items.take i ++ s.Items[i] :: s.Items.drop (i + 1) := by
          rw [← List.drop_eq_getElem_cons hlt, List.take_append_drop]
        rw [List.drop_eq_getElem_cons hlt, itemsOk, ← htk]
        simp only [c1, if_true, idx_nat_lt hlt, Option.bind_some, fact_s hN _ hf, hprev, idOf_s hN s s.Items[i].F (by omega) (fun x hx => (h2 x hx).2.1), wr1 i (by omega)]
        cases okFact s.Items[i].F with
        | false => simp
        | true =>
          by_cases hid : 1 ≤ s.Items[i].Id
          · by_cases hnx : s.Items[i].Id < s.Next
            · have e1 : decide (s.Items[i].Id < 1) = false := decide_eq_false (by omega)
              have e2 : decide (s.Next ≤ s.Items[i].Id) = false := decide_eq_false (by omega)
              rw [e1, e2, decide_eq_true hid, decide_eq_true hnx]
              cases hl : (lastBelow (s.Items.take i) s.Items[i].Id) with
              | false => simp
              | true =>
                have hlow : ∀ y ∈ s.Items.take i, y.Id < s.Items[i].Id := by
                  intro y hy
                  cases hg : (s.Items.take i).getLast? with
                  | none => rw [List.getLast?_eq_none_iff] at hg; rw [hg] at hy; cases hy
                  | some z =>
                    unfold lastBelow at hl
                    rw [hg] at hl
                    have := of_decide_eq_true hl
                    have := hup y hy z hg
                    omega
                have hd := idOf_done (t := s.Items.drop (i + 1)) hlow
                rw [← hall] at hd
                have ih1 := ih (i + 1) (by omega) (by omega) (by
                  intro y hy z hz
                  rw [htk] at hy hz
                  rw [List.getLast?_concat] at hz
                  have hz := Option.some.inj hz
                  rcases List.mem_append.1 hy with hy | hy
                  · have := hlow y hy; rw [← hz]; omega
                  · simp at hy; rw [hy, ← hz]; exact Int.le_refl _)
                simp only [Bool.not_true, Bool.false_eq_true, if_false, Option.bind_some, hd, ih1, Bool.true_and, Bool.and_self]
                cases (s.Items.take i).all fun y => !decide (s.Items[i].F = y.F) <;> simp
            · have e2 : decide (s.Next ≤ s.Items[i].Id) = true := decide_eq_true (by omega)
              rw [e2, decide_eq_false hnx]
              cases decide (s.Items[i].Id < 1) <;> simp
          · have e1 : decide (s.Items[i].Id < 1) = true := decide_eq_true (by omega)
            rw [e1, decide_eq_false hid]
            simp
      · have c1 : decide ((i : Int) < (s.Items.length : Int)) = false := decide_eq_false (by omega)
        rw [List.drop_of_length_le (by omega)]
        simp only [c1, Bool.false_eq_true, if_false]; rfl
  have l0 := lp N 0 (by omega) (by omega) (by simp)
  rw [List.take_zero, List.drop_zero, show ((0 : Nat) : Int) = 0 from rfl] at l0
  simp only [in0, Option.bind_some, d1, l0]
  cases (decide (1 ≤ s.Next) && decide (s.Next ≤ 1000000)) <;> cases decide (s.Items.length ≤ 40) <;> simp
end Go.Proofs.YtelchcokfcdndaaGreat
namespace Go.Proofs.YtelchcokfcdndaaGreat
open Eng
set_option linter.unusedVariables false
set_option linter.unusedSimpArgs false
theorem allM_s {N : Nat} (hN : 1099400000000 ≤ N) (d : TDef) (s : TStore) (hd : SzDef d) (hs : SzStore s) : m_s_AllMatches N d s = some (allMatches d s) := by
  unfold m_s_AllMatches allMatches
  rw [def_s (by omega) d hd, Option.bind_some, store_s (by omega) s hs]
  cases h1 : okDef d with
  | false => simp
  | true =>
    cases h2 : okStore s with
    | false => simp
    | true =>
      have hl := okDef_len h1
      have hr := okDef_rule h1
      have := all_s hN d s (by omega) (fun r h => ok_rows (hr r h) h2) 64000 (fun r h => ok_rowsOf (hr r h) h2) (by omega)
      simp [this]
end Go.Proofs.YtelchcokfcdndaaGreat
namespace Go.Proofs.YtelchcokfcdndaaGreat
open Eng
set_option linter.unusedVariables false
set_option linter.unusedSimpArgs false
theorem look_i {N : Nat} (hN : 1099000000000 ≤ N) (p : List TBind) (n : ByteArray) (hl : p.length ≤ 4294967296) : m_i_BindOf N p n = some (look p n) := by
  unfold m_i_BindOf
  have : ∀ (k i : Nat), i ≤ p.length → p.length - i < k → m_i_BindOf_l1 N p n k i = some (look (p.drop i) n) := by
    intro k
    induction k with
    | zero => intro i _ h; omega
    | succ k ih =>
      intro i hi hk
      simp only [m_i_BindOf_l1]
      by_cases hlt : i < p.length
      · have c1 : decide ((i : Int) < (p.length : Int)) = true := decide_eq_true (by omega)
        rw [List.drop_eq_getElem_cons hlt, look_cons]
        simp only [c1, if_true, idx_nat_lt hlt, Option.bind_some, wr1 i (by omega), ih (i + 1) (by omega) (by omega)]
        cases seq p[i].Name n <;> rfl
      · have c1 : decide ((i : Int) < (p.length : Int)) = false := decide_eq_false (by omega)
        simp only [c1, Bool.false_eq_true, if_false]
        rw [List.drop_of_length_le (by omega)]; rfl
  exact this N 0 (by omega) (by omega)
theorem match_loopI {N : Nat} (hN : 1099000000000 ≤ N) (p : TPat) (f : TFact) (b : List TBind) (he : p.Args.length = f.Fields.length) (hl : p.Args.length ≤ 1048576) (hb : b.length ≤ 2147483648) : ∀ (n i : Nat) (s : List TBind), i ≤ p.Args.length → p.Args.length - i < n → s.length ≤ 2147483648 + i →
    m_i_MatchPat_l1 N p f b n s i = some (matchArgs b (p.Args.drop i) (f.Fields.drop i) s) := by
  intro n
  induction n with
  | zero => intro i s _ h; omega
  | succ n ih =>
    intro i s hi hn hs
    simp only [m_i_MatchPat_l1]
    by_cases hlt : i < p.Args.length
    · have c1 : decide ((i : Int) < (p.Args.length : Int)) = true := decide_eq_true (by omega)
      have hlt' : i < f.Fields.length := by omega
      rw [List.drop_eq_getElem_cons hlt, List.drop_eq_getElem_cons hlt', matchArgs]
      simp only [c1, if_true, idx_nat_lt hlt, idx_nat_lt hlt', Option.bind_some, look_i hN s _ (show s.length ≤ 4294967296 by omega), m_sl_Clone_Si_Bind_i_Bind, app_nil (show b.length ≤ 4294967296 by omega), app_ok (show s.length + [(⟨p.Args[i].S, f.Fields[i]⟩ : TBind)].length ≤ 4294967296 by simp; omega), wr1 i (by omega), andS, orS]
      have ih1 := ih (i + 1) s (by omega) (by omega) (by omega)
      have ih2 := ih (i + 1) (s ++ [⟨p.Args[i].S, f.Fields[i]⟩]) (by omega) (by omega) (by simp; omega)
      by_cases k2 : p.Args[i].K = 2
      · have k1 : ¬ p.Args[i].K = 1 := by omega
        simp only [k2, k1, decide_true, decide_false, if_true, if_false, Bool.true_and, Bool.false_and, Bool.or_false, Bool.false_eq_true, Option.bind_some, show ¬ (2 : Int) = 1 by omega]
        cases eqT_TVal p.Args[i].V f.Fields[i] with
        | true => simpa using ih1
        | false => simp
      · by_cases k1 : p.Args[i].K = 1
        · simp only [k1, decide_true, decide_false, if_true, if_false, Bool.true_and, Bool.false_and, Bool.false_or, Bool.false_eq_true, Option.bind_some, show ¬ (1 : Int) = 2 by omega]
          cases (look s p.Args[i].S).2 with
          | true =>
            simp only [if_true, Bool.not_true, Bool.true_and, Bool.false_eq_true, if_false]
            cases eqT_TVal (look s p.Args[i].S).1 f.Fields[i] with
            | true => simpa using ih1
            | false => simp
          | false => simpa using ih2
        · simp only [k1, k2, decide_false, if_false, Bool.false_and, Bool.false_or, Bool.or_false, Bool.false_eq_true, Option.bind_some]
          simpa using ih1
    · have c1 : decide ((i : Int) < (p.Args.length : Int)) = false := decide_eq_false (by omega)
      simp only [c1, Bool.false_eq_true, if_false]
      rw [List.drop_of_length_le (by omega)]
      rfl
theorem seq_comm' (a b : ByteArray) : seq a b = seq b a := by rw [seq_eq, seq_eq]; simp [eq_comm]
theorem match_i {N : Nat} (hN : 1099000000000 ≤ N) (p : TPat) (f : TFact) (b : List TBind) (hl : p.Args.length ≤ 1048576) (hb : b.length ≤ 2147483648) : m_i_MatchPat N p f b = some (matchPat p f b) := by
  unfold m_i_MatchPat matchPat m_sl_Clone_Si_Bind_i_Bind
  rw [app_nil (by omega), seq_comm' f.Kind p.Kind]
  simp only [Option.bind_some, orS]
  cases hk : seq p.Kind f.Kind with
  | false => simp
  | true =>
    by_cases he : p.Args.length = f.Fields.length
    · have he' : decide ((f.Fields.length : Int) = (p.Args.length : Int)) = true := decide_eq_true (by omega)
      have := (match_loopI hN p f b he hl hb N 0 b (by omega) (by omega) (by omega))
      simp only [he', he, Bool.not_true, Bool.or_false, Bool.false_eq_true, if_false, true_and, if_true]
      simpa using this
    · have he' : decide ((f.Fields.length : Int) = (p.Args.length : Int)) = false := decide_eq_false (by omega)
      simp [he', he]
end Go.Proofs.YtelchcokfcdndaaGreat
namespace Go.Proofs.YtelchcokfcdndaaGreat
open Eng
set_option linter.unusedVariables false
set_option linter.unusedSimpArgs false
theorem hits_i {N : Nat} (hN : 1099000000000 ≤ N) (p : TPat) (s : TStore) (l : List TBind) (hp : p.Args.length ≤ 1048576) (hs : s.Items.length ≤ 1048576) (hb : l.length ≤ 2147483648) : m_i_hitsIn N p s l = some (hits p l s.Items : Int) := by
  unfold m_i_hitsIn
  have := lp' hN s.Items (by omega) (m_i_hitsIn_l1 N p s l) (fun t k => some (k + (hits p l t : Int))) (fun k t => 0 ≤ k ∧ k + t.length ≤ 1048576) (0 : Int) (by simp; omega) (fun n k i x t h1 h2 h3 h4 h5 h6 hI ih => by
    simp only [List.length_cons] at hI
    simp only [m_i_hitsIn_l1, h5, if_true, h4, Option.bind_some, match_i hN p x.F l hp hb, h6]
    unfold hits at ih ⊢
    rw [List.countP_cons]
    cases (matchPat p x.F l).2 with
    | true =>
      rw [wr (n := k + 1) (by omega) (by omega)]
      simp only [if_true, ih (k + 1) (by omega)]; congr 1; omega
    | false => simpa using ih k (by omega)) (fun n k i h1 h2 hI => by simp only [m_i_hitsIn_l1, h2, Bool.false_eq_true, if_false, hits]; simp)
  simpa using this
theorem blocked_i {N : Nat} (hN : 1099000000000 ≤ N) (r : TRule) (s : TStore) (l : List TBind) (hr : r.Pats.length ≤ 1048576) (hp : ∀ p ∈ r.Pats, p.Args.length ≤ 1048576) (hs : s.Items.length ≤ 1048576) (hb : l.length ≤ 2147483648) : m_i_Blocked N r s l = some (blocked r.Pats s.Items l) := by
  unfold m_i_Blocked
  refine lp0 hN r.Pats (by omega) (m_i_Blocked_l1 N r s l) (fun t => some (blocked t s.Items l)) (fun n i x t g1 g2 g3 g4 g5 g6 g7 => ?_) (fun n i g1 g2 => ?_)
  · simp only [m_i_Blocked_l1, g5, if_true, g4, Option.bind_some, hits_i hN x s l (hp x g2) hs hb, hits_pos, g6, g7, andS]
    unfold blocked
    rw [List.any_cons]
    cases (x.Not && s.Items.any fun y => (matchPat x y.F l).2) <;> simp
  · simp only [m_i_Blocked_l1, g2, Bool.false_eq_true, if_false]; rfl
end Go.Proofs.YtelchcokfcdndaaGreat
namespace Go.Proofs.YtelchcokfcdndaaGreat
open Eng
set_option linter.unusedVariables false
set_option linter.unusedSimpArgs false
def cmp (a b : Int) : Int := if a < b then -1 else if b < a then 1 else 0
theorem cmp_eq (N : Nat) (a b : Int) : m_cmp_Compare_int N a b = some (cmp a b) := by
  unfold m_cmp_Compare_int m_cmp_isNaN_int cmp
  by_cases h1 : a < b
  · simp [h1]
  · by_cases h2 : b < a <;> simp [h1, h2]
end Go.Proofs.YtelchcokfcdndaaGreat
namespace Go.Proofs.YtelchcokfcdndaaGreat
open Eng
set_option linter.unusedVariables false
set_option linter.unusedSimpArgs false
theorem argVal_i {N : Nat} (hN : 1099000000000 ≤ N) (a : TArg) (l : List TBind) (hl : l.length ≤ 4294967296) : m_i_ArgVal N a l = some (argVal a l) := by
  unfold m_i_ArgVal argVal
  rw [look_i hN l a.S hl]
  by_cases h2 : a.K = 2
  · simp [h2]
  · by_cases h1 : a.K = 1 <;> simp [h1, h2, zv]
theorem or3 {N : Nat} (hN : 1099000000000 ≤ N) (a b c : Int) : m_cmp_Or_int N [a, b, c] = some (if a = 0 then (if b = 0 then c else b) else a) := by
  obtain ⟨n, rfl⟩ : ∃ n, N = n + 4 := ⟨N - 4, by omega⟩
  unfold m_cmp_Or_int
  have w1 : IntKind.i64.wrap ((0 : Int) + 1) = 1 := by decide
  have w2 : IntKind.i64.wrap ((1 : Int) + 1) = 2 := by decide
  have w3 : IntKind.i64.wrap ((2 : Int) + 1) = 3 := by decide
  have i0 : idx [a, b, c] 0 = some a := rfl
  have i1 : idx [a, b, c] 1 = some b := rfl
  have i2 : idx [a, b, c] 2 = some c := rfl
  have l2 : (([a, b, c] : List Int).length : Int) = 3 := rfl
  simp only [m_cmp_Or_int_l1, w1, w2, w3, i0, i1, i2, l2, Option.bind_some]
  by_cases ha : a = 0
  · by_cases hb : b = 0
    · by_cases hc : c = 0 <;> simp [ha, hb, hc]
    · simp [ha, hb]
  · simp [ha]
theorem cmpS (N : Nat) (a b : ByteArray) : m_cmp_Compare_string N a b = some (if slt a b = true then -1 else if (!slt a b && !seq a b) = true then 1 else 0) := by
  unfold m_cmp_Compare_string m_cmp_isNaN_string
  simp only [seq_self, Bool.not_true, Option.bind_some, Bool.false_eq_true, if_false]
  cases slt a b with
  | true => simp
  | false => cases seq a b <;> simp
theorem lessV_i {N : Nat} (hN : 1099000000000 ≤ N) (x y : TVal) : m_i_LessVal N x y = some (lessV x y) := by
  unfold m_i_LessVal m_i_compareVals lessV
  simp only [cmp_eq, cmpS, Option.bind_some, or3 hN, cmp]
  congr 1
  by_cases h1 : x.K = y.K
  · by_cases h2 : x.N = y.N
    · simp only [h1, h2, Int.lt_irrefl, if_false, if_true]
      cases slt x.S y.S with
      | true => simp
      | false => cases seq x.S y.S <;> simp
    · simp only [h1, h2, Int.lt_irrefl, if_false, if_true]
      by_cases h3 : x.N < y.N
      · simp [h3]
      · have h4 : y.N < x.N := by omega
        simp [h3, h4]
  · simp only [h1, if_false]
    by_cases h3 : x.K < y.K
    · simp [h3]
    · have h4 : y.K < x.K := by omega
      simp [h3, h4]
theorem holds_i {N : Nat} (hN : 1099000000000 ≤ N) (c : TCond) (l : List TBind) (hl : l.length ≤ 4294967296) : m_i_Holds N c l = some (holds c l) := by
  unfold m_i_Holds holds
  rw [argVal_i hN c.L l hl, argVal_i hN c.R l hl]
  simp only [Option.bind_some, lessV_i hN, eqT_TVal_eq]
  cases (argVal c.L l).2 with
  | false => simp
  | true =>
    cases (argVal c.R l).2 with
    | false => simp
    | true =>
      by_cases h1 : c.Op = 1
      · simp [h1]
      · by_cases h2 : c.Op = 2
        · simp [h2]
        · by_cases h3 : c.Op = 3 <;> simp [h1, h2, h3]
theorem holdAll_i {N : Nat} (hN : 1099000000000 ≤ N) (cs : List TCond) (l : List TBind) (hc : cs.length ≤ 4194304) (hl : l.length ≤ 4294967296) : m_i_HoldAll N cs l = some (cs.all fun c => holds c l) := by
  unfold m_i_HoldAll
  refine lp0 hN cs (by omega) (m_i_HoldAll_l1 N cs l) (fun t => some (t.all fun c => holds c l)) (fun n i x t h1 h2 h3 h4 h5 h6 h7 => ?_) (fun n i h1 h2 => ?_)
  · simp only [m_i_HoldAll_l1, h5, if_true, h4, Option.bind_some, holds_i hN x l hl, h6, h7, List.all_cons]
    cases holds x l <;> simp
  · simp only [m_i_HoldAll_l1, h2, Bool.false_eq_true, if_false]; rfl
end Go.Proofs.YtelchcokfcdndaaGreat
namespace Go.Proofs.YtelchcokfcdndaaGreat
open Eng
set_option linter.unusedVariables false
set_option linter.unusedSimpArgs false
theorem patsOf_i {N : Nat} (hN : 1099000000000 ≤ N) (r : TRule) (b : Bool) (hl : r.Pats.length ≤ 1048576) : m_i_pats N r b = some (r.Pats.filter fun p => p.Not == b) := by
  unfold m_i_pats
  refine (lp' hN r.Pats (by omega) (m_i_pats_l1 N r b) (fun t u => some (u ++ t.filter fun p => p.Not == b)) (fun u t => u.length + t.length ≤ 1048576) [] (by simpa using hl) (fun n u i p t g1 g2 g3 g4 g5 g6 gI ih => ?_) (fun n u i g1 g2 gI => ?_)).trans (by simp)
  · simp only [List.length_cons] at gI
    simp only [m_i_pats_l1, g5, if_true, g4, Option.bind_some, List.filter_cons, g6]
    cases hb : (p.Not == b) with
    | true =>
      simp only [if_true, app_ok (show u.length + [p].length ≤ 4294967296 by simp; omega), Option.bind_some]
      rw [ih _ (by simp; omega)]; simp
    | false =>
      simp only [Bool.false_eq_true, if_false]
      exact ih u (by omega)
  · simp only [m_i_pats_l1, g2, Bool.false_eq_true, if_false]; simp
end Go.Proofs.YtelchcokfcdndaaGreat
namespace Go.Proofs.YtelchcokfcdndaaGreat
open Eng
set_option linter.unusedVariables false
set_option linter.unusedSimpArgs false
theorem rows_i (r : TRule) (s : TStore) (hz : SzRows r s) (hnm : s.Items.length ^ (pos r.Pats).length ≤ 1073741824) : ∀ (k N : Nat) (out : List TMatch) (ids : List Int) (l : List TBind), 1099000000001 + k ≤ N → ids.length + k = (pos r.Pats).length → out.length + s.Items.length ^ k ≤ 4294967296 →
    l.length + sumArgs ((pos r.Pats).drop ids.length) ≤ 1048576 → m_i_addRows N out r s ids l = some (out ++ rowsP (finR r s.Items) s.Items ((pos r.Pats).drop ids.length) ids l) := by
  have hpl := hz.pl
  have hpp : (pos r.Pats).length ≤ r.Pats.length := List.length_filter_le _ _
  intro k
  induction k with
  | zero =>
    intro N out ids l hN hk ho hl
    obtain ⟨N, rfl⟩ : ∃ M, N = M + 1 := ⟨N - 1, by omega⟩
    have c1 : decide ((ids.length : Int) = ((pos r.Pats).length : Int)) = true := decide_eq_true (by omega)
    have e0 : (pos r.Pats).drop ids.length = [] := List.drop_of_length_le (by omega)
    rw [e0]
    simp only [m_i_addRows, patsOf_i (show 1099000000000 ≤ N by omega) r false hz.pl, pos_eq, Option.bind_some, c1, if_true, blocked_i (show 1099000000000 ≤ N by omega) r s l hz.pl hz.pa hz.xl (by omega), holdAll_i (show 1099000000000 ≤ N by omega) r.Conds l (by have := hz.cl; omega) (by omega), andS, rowsP, finR, m_sl_Clone_Sint_int, m_sl_Clone_Si_Bind_i_Bind]
    cases (!blocked r.Pats s.Items l && r.Conds.all fun c => holds c l) with
    | true =>
      simp only [if_true, app_nil (show ids.length ≤ 4294967296 by omega), app_nil (show l.length ≤ 4294967296 by omega), Option.bind_some, app_ok (show out.length + [(⟨0, ids, l⟩ : TMatch)].length ≤ 4294967296 by simp at ho ⊢; omega)]
    | false => simp
  | succ k ih =>
    intro N out ids l hN hk ho hl
    obtain ⟨N, rfl⟩ : ∃ M, N = M + 1 := ⟨N - 1, by omega⟩
    have c1 : decide ((ids.length : Int) = ((pos r.Pats).length : Int)) = false := decide_eq_false (by omega)
    have hi : ids.length < (pos r.Pats).length := by omega
    have hd := List.drop_eq_getElem_cons hi
    rw [hd] at hl ⊢
    rw [sumArgs_cons] at hl
    have hpa := hz.pa _ (List.mem_filter.1 (List.getElem_mem hi)).1
    simp only [m_i_addRows, patsOf_i (show 1099000000000 ≤ N by omega) r false hz.pl, pos_eq, Option.bind_some, c1, Bool.false_eq_true, if_false, rowsP]
    have hM : s.Items.length ^ (k + 1) = s.Items.length * s.Items.length ^ k := by rw [Nat.pow_succ, Nat.mul_comm]
    rw [hM] at ho
    have hxl := hz.xl
    refine lp' (show 1099000000000 ≤ N by omega) s.Items (by omega) (fun n (u : List TMatch) i => m_i_addRows_l1 N r s ids l (m_i_addRows N) (pos r.Pats) n u i) (fun t u => some (u ++ t.flatMap fun x => if (matchPat (pos r.Pats)[ids.length] x.F l).2 = true then rowsP (finR r s.Items) s.Items ((pos r.Pats).drop (ids.length + 1)) (ids ++ [x.Id]) (matchPat (pos r.Pats)[ids.length] x.F l).1 else []))
      (fun u t => u.length + t.length * s.Items.length ^ k ≤ 4294967296) out ho (fun n u i x t g1 g2 g3 g4 g5 g6 gI gh => ?_) (fun n u i g1 g2 gI => ?_)
    · rw [List.length_cons, Nat.succ_mul] at gI
      have hml := matchPat_len (pos r.Pats)[ids.length] x.F l
      simp only [m_i_addRows_l1, g5, if_true, idx_nat_lt hi, g4, Option.bind_some, match_i (show 1099000000000 ≤ N by omega) _ x.F l hpa (by omega), List.flatMap_cons, g6]
      cases hm : (matchPat (pos r.Pats)[ids.length] x.F l).2 with
      | true =>
        have hrl := rowsP_len (finR_len r s.Items) s.Items ((pos r.Pats).drop (ids.length + 1)) (ids ++ [x.Id]) (matchPat (pos r.Pats)[ids.length] x.F l).1
        have hdl : ((pos r.Pats).drop (ids.length + 1)).length = k := by rw [List.length_drop]; omega
        rw [hdl] at hrl
        have hids : (ids ++ [x.Id]).length = ids.length + 1 := by simp
        have := ih N u (ids ++ [x.Id]) (matchPat (pos r.Pats)[ids.length] x.F l).1 (by omega) (by omega) (by omega) (by rw [hids]; omega)
        rw [hids] at this
        simp only [if_true, m_sl_Clone_Sint_int, app_nil (show ids.length ≤ 4294967296 by omega), app_ok (show ids.length + [x.Id].length ≤ 4294967296 by simp; omega), Option.bind_some, this, m_i_addRows_j2, g6]
        rw [gh _ (by rw [List.length_append]; omega), List.append_assoc]
      | false =>
        simp only [Bool.false_eq_true, if_false, List.nil_append]
        exact gh u (by omega)
    · simp only [m_i_addRows_l1, g2, Bool.false_eq_true, if_false]; simp
theorem in_i {N : Nat} (hN : 1099400000000 ≤ N) (r : TRule) (s : TStore) (hz : SzRows r s) (hp : pos r.Pats = r.Pats.take (posCount r.Pats)) : m_i_matchesIn N r s = some (rowsOf r s.Items) := by
  unfold m_i_matchesIn rowsOf
  have h2 := posCount_le r.Pats
  have h1 := sumArgs_take (posCount r.Pats) r.Pats
  have h3 := hz.pl
  have h4 := hz.sa
  have h5 := hz.nm
  have hl : (pos r.Pats).length = posCount r.Pats := by rw [hp, List.length_take]; omega
  have := rows_i r s hz (by rw [hl]; exact h5) (posCount r.Pats) N [] [] [] (by omega) (by simp [hl]) (by simp; omega) (by rw [hp]; simp; omega)
  rw [this, hp]; simp
end Go.Proofs.YtelchcokfcdndaaGreat
namespace Go.Proofs.YtelchcokfcdndaaGreat
open Eng
set_option linter.unusedVariables false
set_option linter.unusedSimpArgs false
theorem all_i {N : Nat} (hN : 1099400000000 ≤ N) (d : TDef) (s : TStore) (hl : d.Rules.length ≤ 1048576) (hz : ∀ r ∈ d.Rules, SzRows r s ∧ pos r.Pats = r.Pats.take (posCount r.Pats)) (M : Nat) (hM : ∀ r ∈ d.Rules, (rowsOf r s.Items).length ≤ M) (hMl : d.Rules.length * M ≤ 4294967296) : m_i_allIn N d s = some (allFrom s.Items 0 d.Rules) := by
  unfold m_i_allIn
  have lp : ∀ (n i : Nat) (out : List TMatch), i ≤ d.Rules.length → d.Rules.length - i < n → out.length + (d.Rules.length - i) * M ≤ 4294967296 → m_i_allIn_l1 N d s n out i = some (out ++ allFrom s.Items i (d.Rules.drop i)) := by
    intro n
    induction n with
    | zero => intro i _ _ h; omega
    | succ n ih =>
      intro i out hi hn ho
      by_cases hlt : i < d.Rules.length
      · have c1 : decide ((i : Int) < (d.Rules.length : Int)) = true := decide_eq_true (by omega)
        obtain ⟨hr, hp⟩ := hz _ (List.getElem_mem hlt)
        have hm := hM _ (List.getElem_mem hlt)
        have hrl := rowsOf_len hr
        rw [List.drop_eq_getElem_cons hlt, allFrom]
        have hlk : lenok (rowsOf d.Rules[i] s.Items) = some () := by unfold lenok; rw [if_pos (by omega)]
        simp only [m_i_allIn_l1, c1, if_true, idx_nat_lt hlt, Option.bind_some, in_i hN _ s hr hp, hlk]
        have ha : (d.Rules.length - i) * M = M + (d.Rules.length - (i + 1)) * M := by
          rw [show d.Rules.length - i = (d.Rules.length - (i + 1)) + 1 by omega, Nat.succ_mul]; omega
        rw [ha] at ho
        refine (lp' (show 1099000000000 ≤ N by omega) (rowsOf d.Rules[i] s.Items) (by omega) (fun m (u : List TMatch) k => m_i_allIn_l2 N (i : Int) (m_i_allIn_l1 N d s n) (rowsOf d.Rules[i] s.Items) m u k) (fun t u => some (u ++ t.map (setRule i) ++ allFrom s.Items (i + 1) (d.Rules.drop (i + 1)))) (fun u t => u.length + t.length + (d.Rules.length - (i + 1)) * M ≤ 4294967296) out (by omega) (fun m u k x t g1 g2 g3 g4 g5 g6 gI gh => ?_) (fun m u k g1 g2 gI => ?_)).trans (by simp)
        · simp only [List.length_cons] at gI
          simp only [m_i_allIn_l2, g5, if_true, g4, Option.bind_some]
          rw [show (⟨(i : Int), x.Ids, x.Binds⟩ : TMatch) = setRule i x from rfl, app_ok (show u.length + [setRule i x].length ≤ 4294967296 by simp; omega), Option.bind_some, g6]
          rw [gh _ (by simp; omega)]; simp
        · simp only [m_i_allIn_l2, g2, Bool.false_eq_true, if_false, wr1 i (by omega)]
          rw [ih (i + 1) u (by omega) (by omega) (by simp at gI; omega)]; simp
      · have c1 : decide ((i : Int) < (d.Rules.length : Int)) = false := decide_eq_false (by omega)
        rw [List.drop_of_length_le (by omega)]
        simp only [m_i_allIn_l1, c1, Bool.false_eq_true, if_false, allFrom, List.append_nil]
  have := lp N 0 [] (by omega) (by omega) (by simpa using hMl)
  simpa using this
end Go.Proofs.YtelchcokfcdndaaGreat
namespace Go.Proofs.YtelchcokfcdndaaGreat
open Eng
set_option linter.unusedVariables false
set_option linter.unusedSimpArgs false
theorem fact_i {N : Nat} (hN : 1099000000000 ≤ N) (f : TFact) (h : SzFact f) : m_i_FactOk N f = some (okFact f) := by
  obtain ⟨h1, h2, h3⟩ := h
  unfold m_i_FactOk okFact
  have l1 : m_i_FactOk_l1 N f N 0 = some (f.Fields.all okVal) := lp0 hN f.Fields (by omega) (m_i_FactOk_l1 N f) (fun t => some (t.all okVal)) (fun n i x t g1 g2 g3 g4 g5 g6 g7 => by
    simp only [m_i_FactOk_l1, g5, if_true, g4, Option.bind_some, val_i (show 1048578 ≤ N by omega) x (h3 x g2), g6, g7, List.all_cons]
    cases okVal x <;> simp) (fun n i g1 g2 => by simp only [m_i_FactOk_l1, g2, Bool.false_eq_true, if_false]; rfl)
  have d1 : decide ((5 : Int) < (f.Fields.length : Int)) = !decide (f.Fields.length ≤ 5) := by rw [← decide_not, decide_eq_decide]; omega
  simp only [okName_i hN _ h1, Option.bind_some, d1, l1]
  cases okName f.Kind <;> cases decide (f.Fields.length ≤ 5) <;> simp
theorem sameF_i {N : Nat} (hN : 1099000000000 ≤ N) (x y : TFact) (hl : x.Fields.length ≤ 4294967296) : m_i_SameFact N x y = some (decide (x = y)) := by
  have e : m_sl_Equal_Si_Val_i_Val N x.Fields y.Fields = some (decide (x.Fields = y.Fields)) := by
    unfold m_sl_Equal_Si_Val_i_Val
    by_cases c : x.Fields.length = y.Fields.length
    · rw [if_neg (by simp; omega)]
      refine (eqloop (m_sl_Equal_Si_Val_i_Val_l1 N x.Fields y.Fields) x.Fields y.Fields c (by omega) (fun a b => some (decide (a = b))) (fun a _ b _ => rfl) (fun k i => by simp only [m_sl_Equal_Si_Val_i_Val_l1, eqT_TVal_eq, Option.bind_some]) N 0 (by omega) (by omega)).trans ?_
      simp
    · rw [if_pos (by simp; omega)]
      have : ¬ x.Fields = y.Fields := fun e => c (by rw [e])
      simp [this]
  unfold m_i_SameFact
  simp only [e, Option.bind_some, andS, seq_eq]
  obtain ⟨a, b⟩ := x; obtain ⟨c, d⟩ := y
  simp only [TFact.mk.injEq, Bool.decide_and]
theorem ssl_take {α : Type} {xs : List α} {i : Nat} (h : i ≤ xs.length) : ssl xs 0 (i : Int) = some (xs.take i) := by
  unfold ssl
  have : (0 : Int) ≤ 0 ∧ (0 : Int) ≤ (i : Int) ∧ (i : Int) ≤ (xs.length : Int) := by omega
  simp [h]
theorem store_i {N : Nat} (hN : 1099000000000 ≤ N) (s : TStore) (h : SzStore s) : m_i_StoreOk N s = some (okStore s) := by
  obtain ⟨h1, h2⟩ := h
  unfold m_i_StoreOk okStore
  have d1 : decide ((40 : Int) < (s.Items.length : Int)) = !decide (s.Items.length ≤ 40) := by rw [← decide_not, decide_eq_decide]; omega
  simp only [in1, Option.bind_some, d1]
  by_cases hn : 1 ≤ s.Next ∧ s.Next ≤ 1000000
  · have lp : ∀ (n i : Nat), i ≤ s.Items.length → s.Items.length - i < n → m_i_StoreOk_l1 N s n i = some (itemsOk s.Next (s.Items.take i) (s.Items.drop i)) := by
      intro n
      induction n with
      | zero => intro i _ h; omega
      | succ n ih =>
        intro i hi hm
        simp only [m_i_StoreOk_l1]
        by_cases hlt : i < s.Items.length
        · have c1 : decide ((i : Int) < (s.Items.length : Int)) = true := decide_eq_true (by omega)
          have hf := h2 _ (List.getElem_mem hlt)
          have hnx : IntKind.i64.wrap (s.Next - 1) = s.Next - 1 := wr (by omega) (by omega)
          have hprev : (if decide (0 < (i : Int)) = true then (idx s.Items (IntKind.i64.wrap ((i : Int) - 1))).bind fun x5 => some (decide (s.Items[i].Id ≤ x5.Id)) else some false) = some (!(lastBelow (s.Items.take i) s.Items[i].Id)) := by
            by_cases h0 : 0 < i
            · have e1 : IntKind.i64.wrap ((i : Int) - 1) = ((i - 1 : Nat) : Int) := by rw [wr (by omega) (by omega)]; omega
              unfold lastBelow; rw [lastTake h0 hi, decide_eq_true (show (0 : Int) < (i : Int) by omega), e1]
              simp only [if_true, idx_nat_lt (show i - 1 < s.Items.length by omega), Option.bind_some]
              rw [← decide_not]; congr 1; rw [decide_eq_decide]; omega
            · have : i = 0 := by omega
              subst this
              simp [lastBelow]
          have hdup : m_i_StoreOk_l2 N (i : Int) (m_i_StoreOk_l1 N s n) s.Items[i] (s.Items.take i) N 0 = some ((((s.Items.take i).all fun y => !decide (s.Items[i].F = y.F))) && itemsOk s.Next (s.Items.take (i + 1)) (s.Items.drop (i + 1))) := by
            refine lp0 hN (s.Items.take i) (by rw [List.length_take]; omega) (m_i_StoreOk_l2 N (i : Int) (m_i_StoreOk_l1 N s n) s.Items[i] (s.Items.take i)) (fun t => some ((t.all fun y => !decide (s.Items[i].F = y.F)) && itemsOk s.Next (s.Items.take (i + 1)) (s.Items.drop (i + 1)))) (fun m k y t g1 g2 g3 g4 g5 g6 g7 => ?_) (fun m k g1 g2 => ?_)
            · simp only [m_i_StoreOk_l2, g5, if_true, g4, Option.bind_some, sameF_i hN s.Items[i].F y.F (by have := hf.2.1; omega), g6, g7, List.all_cons]
              cases decide (s.Items[i].F = y.F) <;> simp
            · simp only [m_i_StoreOk_l2, g2, Bool.false_eq_true, if_false, wr1 i (by omega), ih (i + 1) (by omega) (by omega)]; rfl
          have d2 : decide (s.Items[i].Id ≤ s.Next - 1) = decide (s.Items[i].Id < s.Next) := by rw [decide_eq_decide]; omega
          have htk : s.Items.take (i + 1) = s.Items.take i ++ [s.Items[i]] := List.take_succ_eq_append_getElem hlt
          rw [List.drop_eq_getElem_cons hlt, itemsOk, ← htk]
          simp only [c1, if_true, idx_nat_lt hlt, Option.bind_some, fact_i hN _ hf, in1, hnx, d2, hprev, ssl_take (show i ≤ s.Items.length by omega), hdup]
          cases okFact s.Items[i].F with
          | false => simp
          | true =>
            cases (decide (1 ≤ s.Items[i].Id) && decide (s.Items[i].Id < s.Next)) with
            | false => simp
            | true =>
              cases (lastBelow (s.Items.take i) s.Items[i].Id) <;> simp
        · have c1 : decide ((i : Int) < (s.Items.length : Int)) = false := decide_eq_false (by omega)
          rw [List.drop_of_length_le (by omega)]
          simp only [c1, Bool.false_eq_true, if_false]; rfl
    have l0 := lp N 0 (by omega) (by omega)
    rw [List.take_zero, List.drop_zero, show ((0 : Nat) : Int) = 0 from rfl] at l0
    rw [l0, decide_eq_true hn.1, decide_eq_true hn.2]
    cases decide (s.Items.length ≤ 40) <;> simp
  · have : (decide (1 ≤ s.Next) && decide (s.Next ≤ 1000000)) = false := by
      rw [Bool.eq_false_iff]
      intro h
      simp only [Bool.and_eq_true, decide_eq_true_eq] at h
      exact hn h
    rw [this]
    cases decide (s.Items.length ≤ 40) <;> simp
end Go.Proofs.YtelchcokfcdndaaGreat
namespace Go.Proofs.YtelchcokfcdndaaGreat
open Eng
set_option linter.unusedVariables false
set_option linter.unusedSimpArgs false
theorem allM_i {N : Nat} (hN : 1099400000000 ≤ N) (d : TDef) (s : TStore) (hd : SzDef d) (hs : SzStore s) : m_i_AllMatches N d s = some (allMatches d s) := by
  unfold m_i_AllMatches allMatches
  rw [def_i (by omega) d hd, Option.bind_some, store_i (by omega) s hs]
  cases h1 : okDef d with
  | false => simp
  | true =>
    cases h2 : okStore s with
    | false => simp
    | true =>
      have hl := okDef_len h1
      have hr := okDef_rule h1
      have := all_i hN d s (by omega) (fun r h => ⟨ok_rows (hr r h) h2, okRule_pos (hr r h)⟩) 64000 (fun r h => ok_rowsOf (hr r h) h2) (by omega)
      simp [this]
end Go.Proofs.YtelchcokfcdndaaGreat
namespace Go.Proofs.YtelchcokfcdndaaGreat
open Eng
set_option linter.unusedVariables false
theorem szDef_of (d : TDef) (h : totTDef d ≤ 1048576) : SzDef d := by
  unfold totTDef at h
  have n1 : ∀ y ∈ d.Rules, 0 ≤ totTRule y := fun y _ => totTRule_nn y
  have s1 := sum_nonneg _ _ n1
  exact ⟨by omega, by omega, fun r hr => szRule_of r (by have := sum_mem _ _ n1 r hr; omega)⟩
end Go.Proofs.YtelchcokfcdndaaGreat
namespace Go.Proofs.YtelchcokfcdndaaGreat
open Eng
set_option linter.unusedVariables false
set_option linter.unusedSimpArgs false
theorem allFrom_all {P : TMatch → Prop} {xs : List TItem} : ∀ (t : List TRule) (i : Nat), (∀ r ∈ t, ∀ m ∈ rowsOf r xs, ∀ j : Nat, P (setRule j m)) → ∀ m ∈ allFrom xs i t, P m
  | [], i, _, m, hm => by simp [allFrom] at hm
  | r :: t, i, h, m, hm => by
    unfold allFrom at hm
    rcases List.mem_append.1 hm with hm | hm
    · obtain ⟨x, hx, rfl⟩ := List.mem_map.1 hm
      exact h r (by simp) x hx i
    · exact allFrom_all t (i + 1) (fun y hy => h y (by simp [hy])) m hm
theorem c_AllMatches {N : Nat} (hN : 1099400000000 ≤ N) (d : TDef) (s : TStore) (h1 : totTDef d ≤ 1048576) (h2 : totTStore s ≤ 1048576) :
    ∃ v, m_s_AllMatches N d s = some v ∧ m_i_AllMatches N d s = some v ∧ (v.length ≤ 4294967296 ∧ ∀ y ∈ v, LimTMatch y) ∧ (v.length : Int) + (v.map totTMatch).sum ≤ 1125899906842624 := by
  obtain ⟨hs, hx⟩ := szStore_of s h2
  have hd := szDef_of d h1
  refine ⟨_, allM_s hN d s hd hs, allM_i hN d s hd hs, ?_⟩
  unfold allMatches
  by_cases hc : (okDef d && okStore s) = true
  · rw [if_pos hc]
    simp only [Bool.and_eq_true] at hc
    have hr := okDef_rule hc.1
    have n1 : ∀ y ∈ d.Rules, 0 ≤ totTRule y := fun y _ => totTRule_nn y
    have htr : ∀ r ∈ d.Rules, totTRule r ≤ 1048576 := fun r h => by
      have h0 := sum_mem _ _ n1 r h
      unfold totTDef at h1
      omega
    have ht : ∀ m ∈ allFrom s.Items 0 d.Rules, LimTMatch m ∧ totTMatch m ≤ 67108864 := allFrom_all d.Rules 0 fun r h m hm j => row_tot (hr r h) hc.2 (htr r h) hx m hm
    have hl := allFrom_len (xs := s.Items) (M := 64000) d.Rules 0 fun r h => ok_rowsOf (hr r h) hc.2
    have hl2 := okDef_len hc.1
    have hsum := sumle (f := totTMatch) (B := 67108864) _ fun m hm => (ht m hm).2
    exact ⟨⟨by omega, fun m hm => (ht m hm).1⟩, by omega⟩
  · rw [if_neg hc]; simp
end Go.Proofs.YtelchcokfcdndaaGreat
namespace Go.Proofs.YtelchcokfcdndaaGreat
open Eng
set_option linter.unusedVariables false
set_option linter.unusedSimpArgs false
set_option maxRecDepth 10000
theorem law_FnExactAllMatches {x0 : TDef} (w0 : WfTDef x0) {x1 : TStore} (w1 : WfTStore x1) {N : Nat} (hN0 : 1099400000000 ≤ N) : m_l_FnExactAllMatches N x0 x1 = some true := by
  have hN : 1099000000000 ≤ N := by omega
  unfold m_l_FnExactAllMatches
  obtain ⟨v0, hv0, hs0⟩ := sz_m_l_szDef hN x0 w0 1048576 (by omega) (by omega)
  rw [hv0]; simp only [Option.bind_some]
  by_cases c0 : v0 < 0
  · rw [if_pos (by simpa using c0)]
  rw [if_neg (by simpa using c0)]
  replace hs0 := hs0.resolve_left c0
  have n0 := totTDef_nn x0
  obtain ⟨v1, hv1, hs1⟩ := sz_m_l_szStore hN x1 w1 v0 (by omega) (by omega)
  rw [hv1]; simp only [Option.bind_some]
  by_cases c1 : v1 < 0
  · rw [if_pos (by simpa using c1)]
  rw [if_neg (by simpa using c1)]
  replace hs1 := hs1.resolve_left c1
  have n1 := totTStore_nn x1
  have l0 : LimTDef x0 := LimTDef_of x0 (by omega)
  have l1 : LimTStore x1 := LimTStore_of x1 (by omega)
  have t0 : totTDef x0 ≤ 1048576 := by omega
  have t1 : totTStore x1 ≤ 1048576 := by omega
  obtain ⟨r, hr, hi, rl0, rt0⟩ := c_AllMatches (N := N) (by omega) x0 x1 t0 t1
  have mn0 := mcnTDef_nn x0
  have ml0 := mcnTDef_le x0
  obtain ⟨y0_0, mk0⟩ := mk_m_l_markDef hN x0 l0 (1) (by omega) (by unfold big62; omega)
  have mp0 : decide (1 + mcnTDef x0 < 0) = false := decide_eq_false (by omega)
  have mn1 := mcnTStore_nn x1
  have ml1 := mcnTStore_le x1
  obtain ⟨y1_0, mk1⟩ := mk_m_l_markStore hN x1 l1 (1 + mcnTDef x0) (by omega) (by unfold big62; omega)
  have mp1 : decide (1 + mcnTDef x0 + mcnTStore x1 < 0) = false := decide_eq_false (by omega)
  have rn0 := cntL_nn cntTMatch_nn (r)
  have rm0 := cntL_le (p := (r)) (tot := totTMatch) (cnt := cntTMatch) (fun y _ => cntTMatch_le y)
  obtain ⟨z0_0, rk0, re0, rh0, rl0'⟩ := mk_m_l_markMatchS hN (r) rl0 (1) (by omega) (by unfold big62; omega)
  have rq0 := hd_m_l_heldMatchS hN z0_0 rl0' (1) (by omega) (by rw [re0]; unfold big62; omega) rh0
  rw [re0] at rq0
  have rp0 : decide (1 + cntL cntTMatch (r) < 0) = false := decide_eq_false (by omega)
  simp only [to_m_l_toDef hN x0 l0, eq_m_l_eqDef hN x0 x0 l0, to_m_l_toStore hN x1 l1, eq_m_l_eqStore hN x1 x1 l1, hr, hi, eq_m_l_eqMatchS hN  (r) (r) rl0, mk0, mp0, mk1, mp1, rk0, rq0, rp0, seq_self, Option.bind_some, decide_true, bne_self_eq_false, Bool.not_true, Bool.not_false, Bool.false_eq_true, if_false, if_true]
namespace fnExactAllMatches
theorem law {x0 : TDef} (w0 : WfTDef x0) {x1 : TStore} (w1 : WfTStore x1) : m_l_FnExactAllMatches 1099511627776 x0 x1 = some true := law_FnExactAllMatches w0 w1 (by omega)
end fnExactAllMatches
end Go.Proofs.YtelchcokfcdndaaGreat
