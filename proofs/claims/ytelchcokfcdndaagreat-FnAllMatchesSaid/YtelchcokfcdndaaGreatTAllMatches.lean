/- Plain laws, one after the other: PLAllMatches. -/
import Derived.Test.YtelchcokfcdndaaGreatPLib
import Derived.Test.YtelchcokfcdndaaGreatWAllMatchesPur
import Derived.Test.YtelchcokfcdndaaGreatWAllMatchesMod
/-
  Plain laws of common loops, for the cores. No program.
-/
namespace Go.Proofs.YtelchcokfcdndaaGreat
open Eng
set_option linter.unusedVariables false
set_option linter.unusedSimpArgs false
theorem app_ok {α : Type} {xs ys : List α} (h : xs.length + ys.length ≤ 4294967296) : app xs ys = some (xs ++ ys) := by unfold app; rw [if_pos h]
theorem app_nil {α : Type} {ys : List α} (h : ys.length ≤ 4294967296) : app ([] : List α) ys = some ys := by rw [app_ok (by simpa using h)]; rfl
theorem allfrom {α : Type} (f : Nat → Int → Option Bool) (xs : List α) (hl : xs.length ≤ 4294967296) (p : α → Bool) (z : Bool) (i0 : Nat)
    (hs : ∀ n (i : Nat) (x : α), i0 ≤ i → idx xs (i : Int) = some x → x ∈ xs → decide ((i : Int) < (xs.length : Int)) = true → IntKind.i64.wrap ((i : Int) + 1) = ((i + 1 : Nat) : Int) → f (n + 1) i = if p x then f n ((i + 1 : Nat) : Int) else some false)
    (he : ∀ n (i : Nat), decide ((i : Int) < (xs.length : Int)) = false → f (n + 1) i = some z) :
    ∀ (n i : Nat), i0 ≤ i → i ≤ xs.length → xs.length - i < n → f n i = some ((xs.drop i).all p && z) := by
  intro n
  induction n with
  | zero => intro i _ _ h; omega
  | succ n ih =>
    intro i h0 hi hn
    by_cases hlt : i < xs.length
    · rw [List.drop_eq_getElem_cons hlt, List.all_cons, hs n i xs[i] h0 (idx_nat_lt hlt) (List.getElem_mem hlt) (decide_eq_true (by omega)) (wr1 i (by omega)), ih (i + 1) (by omega) (by omega) (by omega)]
      cases p xs[i] <;> simp
    · rw [he n i (decide_eq_false (by omega)), List.drop_of_length_le (by omega), List.all_nil, Bool.true_and]
theorem findloop {α : Type} (f : Nat → Int → Option Int) (xs : List α) (hl : xs.length ≤ 4294967296) (p : α → Bool)
    (hs : ∀ n (i : Nat) (x : α), idx xs (i : Int) = some x → x ∈ xs → decide ((i : Int) < (xs.length : Int)) = true → IntKind.i64.wrap ((i : Int) + 1) = ((i + 1 : Nat) : Int) → f (n + 1) i = if p x then some (i : Int) else f n ((i + 1 : Nat) : Int))
    (he : ∀ n (i : Nat), decide ((i : Int) < (xs.length : Int)) = false → f (n + 1) i = some (-1)) :
    ∀ (n i : Nat), i ≤ xs.length → xs.length - i < n → f n i = some (match (xs.drop i).findIdx? p with | some j => ((i + j : Nat) : Int) | none => -1) := by
  intro n
  induction n with
  | zero => intro i _ h; omega
  | succ n ih =>
    intro i hi hn
    by_cases hlt : i < xs.length
    · rw [List.drop_eq_getElem_cons hlt, List.findIdx?_cons, hs n i xs[i] (idx_nat_lt hlt) (List.getElem_mem hlt) (decide_eq_true (by omega)) (wr1 i (by omega)), ih (i + 1) (by omega) (by omega)]
      cases p xs[i]
      · simp only [Bool.false_eq_true, if_false]
        cases (xs.drop (i + 1)).findIdx? p with
        | none => rfl
        | some j => simp only [Option.map_some]; congr 2; omega
      · simp
    · rw [he n i (decide_eq_false (by omega)), List.drop_of_length_le (by omega)]; rfl
theorem find_any {α : Type} (xs : List α) (p : α → Bool) : decide (0 ≤ (match xs.findIdx? p with | some j => ((0 + j : Nat) : Int) | none => -1)) = xs.any p := by
  cases h : xs.findIdx? p with
  | none =>
    rw [List.findIdx?_eq_none_iff] at h
    simp only [show ¬ (0 : Int) ≤ -1 by omega, decide_false]
    symm; rw [List.any_eq_false]; intro x hx; simp [h x hx]
  | some j =>
    simp only [Nat.zero_add, show (0 : Int) ≤ (j : Int) by omega, decide_true]
    rw [List.findIdx?_eq_some_iff_getElem] at h
    obtain ⟨hj, hp, _⟩ := h
    symm; rw [List.any_eq_true]; exact ⟨_, List.getElem_mem hj, hp⟩
theorem andS (a b : Bool) : (if a = true then some b else some false) = some (a && b) := by cases a <;> rfl
theorem orS (a b : Bool) : (if a = true then some true else some b) = some (a || b) := by cases a <;> rfl
end Go.Proofs.YtelchcokfcdndaaGreat
/-
  Plain laws of loops over lists, one law for all. No program.
-/
namespace Go.Proofs.YtelchcokfcdndaaGreat
open Eng
set_option linter.unusedVariables false
set_option linter.unusedSimpArgs false
theorem lp {σ α β : Type} (xs : List α) (hl : xs.length ≤ 4294967296) (f : Nat → σ → Int → Option β) (G : List α → σ → Option β) (I : σ → List α → Prop)
    (hs : ∀ n s (i : Nat) (x : α) (t : List α), xs.drop i = x :: t → x ∈ xs → i < xs.length → idx xs (i : Int) = some x → decide ((i : Int) < (xs.length : Int)) = true → IntKind.i64.wrap ((i : Int) + 1) = ((i + 1 : Nat) : Int) → I s (x :: t) →
      (∀ s', I s' t → f n s' ((i + 1 : Nat) : Int) = G t s') → f (n + 1) s i = G (x :: t) s)
    (he : ∀ n s (i : Nat), i = xs.length → decide ((i : Int) < (xs.length : Int)) = false → I s [] → f (n + 1) s i = G [] s) :
    ∀ (n i : Nat) (s : σ), i ≤ xs.length → xs.length - i < n → I s (xs.drop i) → f n s i = G (xs.drop i) s := by
  intro n
  induction n with
  | zero => intro i s _ h; omega
  | succ n ih =>
    intro i s hi hn hI
    by_cases hlt : i < xs.length
    · have hd := List.drop_eq_getElem_cons hlt
      rw [hd] at hI ⊢
      exact hs n s i _ _ hd (List.getElem_mem hlt) hlt (idx_nat_lt hlt) (decide_eq_true (by omega)) (wr1 i (by omega)) hI (fun s' hs' => ih (i + 1) s' (by omega) (by omega) hs')
    · have hd : xs.drop i = [] := List.drop_of_length_le (by omega)
      rw [hd] at hI ⊢
      exact he n s i (by omega) (decide_eq_false (by omega)) hI
theorem lp' {σ α β : Type} {N : Nat} (hN : 1099000000000 ≤ N) (xs : List α) (hl : xs.length ≤ 4294967296) (f : Nat → σ → Int → Option β) (G : List α → σ → Option β) (I : σ → List α → Prop) (s : σ) (h0 : I s xs)
    (hs : ∀ n s (i : Nat) (x : α) (t : List α), xs.drop i = x :: t → x ∈ xs → i < xs.length → idx xs (i : Int) = some x → decide ((i : Int) < (xs.length : Int)) = true → IntKind.i64.wrap ((i : Int) + 1) = ((i + 1 : Nat) : Int) → I s (x :: t) →
      (∀ s', I s' t → f n s' ((i + 1 : Nat) : Int) = G t s') → f (n + 1) s i = G (x :: t) s)
    (he : ∀ n s (i : Nat), i = xs.length → decide ((i : Int) < (xs.length : Int)) = false → I s [] → f (n + 1) s i = G [] s) : f N s 0 = G xs s := by
  have := lp xs hl f G I hs he N 0 s (by omega) (by omega) (by simpa using h0)
  simpa using this
theorem lp0 {α β : Type} {N : Nat} (hN : 1099000000000 ≤ N) (xs : List α) (hl : xs.length ≤ 4294967296) (f : Nat → Int → Option β) (G : List α → Option β)
    (hs : ∀ n (i : Nat) (x : α) (t : List α), xs.drop i = x :: t → x ∈ xs → i < xs.length → idx xs (i : Int) = some x → decide ((i : Int) < (xs.length : Int)) = true → IntKind.i64.wrap ((i : Int) + 1) = ((i + 1 : Nat) : Int) →
      f n ((i + 1 : Nat) : Int) = G t → f (n + 1) i = G (x :: t))
    (he : ∀ n (i : Nat), i = xs.length → decide ((i : Int) < (xs.length : Int)) = false → f (n + 1) i = G []) : f N 0 = G xs := by
  have := lp' (σ := Unit) hN xs hl (fun n _ i => f n i) (fun t _ => G t) (fun _ _ => True) () trivial (fun n _ i x t h1 h2 h3 h4 h5 h6 _ h8 => hs n i x t h1 h2 h3 h4 h5 h6 (h8 () trivial)) (fun n _ i h1 h2 _ => he n i h1 h2)
  simpa using this
theorem orNB (a b : Bool) : (if (!a) = true then some true else some b) = some (!a || b) := by cases a <;> rfl
end Go.Proofs.YtelchcokfcdndaaGreat
namespace Go.Proofs.YtelchcokfcdndaaGreat
open Eng
set_option linter.unusedVariables false
set_option linter.unusedSimpArgs false
def zv : TVal := ⟨0, 0, ⟨#[]⟩⟩
def look (p : List TBind) (n : ByteArray) : TVal × Bool := match p.find? (fun b => seq b.Name n) with
  | some b => (b.V, true)
  | none => (zv, false)
theorem look_cons (b : TBind) (p : List TBind) (n : ByteArray) : look (b :: p) n = if seq b.Name n = true then (b.V, true) else look p n := by
  unfold look; rw [List.find?_cons]
  cases seq b.Name n <;> simp
theorem look_s {N : Nat} (hN : 1099000000000 ≤ N) (p : List TBind) (n : ByteArray) (hl : p.length ≤ 4294967296) : m_s_BindOf N p n = some (look p n) := by
  unfold m_s_BindOf
  have : ∀ (k i : Nat), i ≤ p.length → p.length - i < k → m_s_BindOf_l1 N p n k i = some (look (p.drop i) n) := by
    intro k
    induction k with
    | zero => intro i _ h; omega
    | succ k ih =>
      intro i hi hk
      simp only [m_s_BindOf_l1]
      by_cases hlt : i < p.length
      · have c1 : decide ((i : Int) < (p.length : Int)) = true := decide_eq_true (by omega)
        rw [List.drop_eq_getElem_cons hlt, look_cons]
        simp only [c1, if_true, idx_nat_lt hlt, Option.bind_some, wr1 i (by omega), ih (i + 1) (by omega) (by omega)]
        cases seq p[i].Name n <;> rfl
      · have c1 : decide ((i : Int) < (p.length : Int)) = false := decide_eq_false (by omega)
        simp only [c1, Bool.false_eq_true, if_false]
        rw [List.drop_of_length_le (by omega)]; rfl
  exact this N 0 (by omega) (by omega)
def matchArgs (b0 : List TBind) : List TArg → List TVal → List TBind → List TBind × Bool
  | a :: as, v :: vs, s =>
    if a.K = 2 then (if eqT_TVal a.V v = true then matchArgs b0 as vs s else (b0, false))
    else if a.K = 1 then (if (look s a.S).2 = true then (if eqT_TVal (look s a.S).1 v = true then matchArgs b0 as vs s else (b0, false)) else matchArgs b0 as vs (s ++ [⟨a.S, v⟩]))
    else matchArgs b0 as vs s
  | _, _, s => (s, true)
theorem match_loopS {N : Nat} (hN : 1099000000000 ≤ N) (p : TPat) (f : TFact) (b : List TBind) (he : p.Args.length = f.Fields.length) (hl : p.Args.length ≤ 1048576) (hb : b.length ≤ 2147483648) : ∀ (n i : Nat) (s : List TBind), i ≤ p.Args.length → p.Args.length - i < n → s.length ≤ 2147483648 + i →
    m_s_MatchPat_l1 N p f b n s i = some (matchArgs b (p.Args.drop i) (f.Fields.drop i) s) := by
  intro n
  induction n with
  | zero => intro i s _ h; omega
  | succ n ih =>
    intro i s hi hn hs
    simp only [m_s_MatchPat_l1]
    by_cases hlt : i < p.Args.length
    · have c1 : decide ((i : Int) < (p.Args.length : Int)) = true := decide_eq_true (by omega)
      have hlt' : i < f.Fields.length := by omega
      rw [List.drop_eq_getElem_cons hlt, List.drop_eq_getElem_cons hlt', matchArgs]
      simp only [c1, if_true, idx_nat_lt hlt, idx_nat_lt hlt', Option.bind_some, look_s hN s _ (show s.length ≤ 4294967296 by omega), app_nil (show b.length ≤ 4294967296 by omega), app_ok (show s.length + [(⟨p.Args[i].S, f.Fields[i]⟩ : TBind)].length ≤ 4294967296 by simp; omega), wr1 i (by omega), andS, orS]
      have ih1 := ih (i + 1) s (by omega) (by omega) (by omega)
      have ih2 := ih (i + 1) (s ++ [⟨p.Args[i].S, f.Fields[i]⟩]) (by omega) (by omega) (by simp; omega)
      by_cases k2 : p.Args[i].K = 2
      · have k1 : ¬ p.Args[i].K = 1 := by omega
        simp only [k2, k1, decide_true, decide_false, if_true, if_false, Bool.true_and, Bool.false_and, Bool.or_false, Bool.false_eq_true, Option.bind_some, show ¬ (2 : Int) = 1 by omega]
        cases eqT_TVal p.Args[i].V f.Fields[i] with
        | true => simpa using ih1
        | false => simp
      · by_cases k1 : p.Args[i].K = 1
        · simp only [k1, decide_true, decide_false, if_true, if_false, Bool.true_and, Bool.false_and, Bool.false_or, Bool.false_eq_true, Option.bind_some, show ¬ (1 : Int) = 2 by omega]
          cases (look s p.Args[i].S).2 with
          | true =>
            simp only [if_true, Bool.not_true, Bool.true_and, Bool.false_eq_true, if_false]
            cases eqT_TVal (look s p.Args[i].S).1 f.Fields[i] with
            | true => simpa using ih1
            | false => simp
          | false => simpa using ih2
        · simp only [k1, k2, decide_false, if_false, Bool.false_and, Bool.false_or, Bool.or_false, Bool.false_eq_true, Option.bind_some]
          simpa using ih1
    · have c1 : decide ((i : Int) < (p.Args.length : Int)) = false := decide_eq_false (by omega)
      simp only [c1, Bool.false_eq_true, if_false]
      rw [List.drop_of_length_le (by omega)]
      rfl
def matchPat (p : TPat) (f : TFact) (b : List TBind) : List TBind × Bool := if seq p.Kind f.Kind = true ∧ p.Args.length = f.Fields.length then matchArgs b p.Args f.Fields b else (b, false)
theorem match_s {N : Nat} (hN : 1099000000000 ≤ N) (p : TPat) (f : TFact) (b : List TBind) (hl : p.Args.length ≤ 1048576) (hb : b.length ≤ 2147483648) : m_s_MatchPat N p f b = some (matchPat p f b) := by
  unfold m_s_MatchPat matchPat
  rw [app_nil (by omega)]
  simp only [Option.bind_some, orS]
  cases hk : seq p.Kind f.Kind with
  | false => simp
  | true =>
    by_cases he : p.Args.length = f.Fields.length
    · have he' : decide ((p.Args.length : Int) = (f.Fields.length : Int)) = true := decide_eq_true (by omega)
      have := (match_loopS hN p f b he hl hb N 0 b (by omega) (by omega) (by omega))
      simp only [he', he, Bool.not_true, Bool.or_false, Bool.false_eq_true, if_false, true_and, if_true]
      simpa using this
    · have he' : decide ((p.Args.length : Int) = (f.Fields.length : Int)) = false := decide_eq_false (by omega)
      simp [he', he]
theorem matchArgs_len {b0 : List TBind} : ∀ (as : List TArg) (vs : List TVal) (s : List TBind), (matchArgs b0 as vs s).1.length ≤ b0.length ∨ (matchArgs b0 as vs s).1.length ≤ s.length + as.length
  | [], vs, s => .inr (by simp [matchArgs])
  | a :: as, [], s => .inr (by simp [matchArgs])
  | a :: as, v :: vs, s => by
    have h1 := matchArgs_len (b0 := b0) as vs s
    have h2 := matchArgs_len (b0 := b0) as vs (s ++ [⟨a.S, v⟩])
    simp only [List.length_append, List.length_cons, List.length_nil] at h1 h2 ⊢
    unfold matchArgs
    split
    · split
      · omega
      · exact .inl (Nat.le_refl _)
    · split
      · split
        · split
          · omega
          · exact .inl (Nat.le_refl _)
        · omega
      · omega
theorem matchPat_len (p : TPat) (f : TFact) (b : List TBind) : (matchPat p f b).1.length ≤ b.length + p.Args.length := by
  unfold matchPat
  split
  · have := matchArgs_len (b0 := b) p.Args f.Fields b; omega
  · simp
end Go.Proofs.YtelchcokfcdndaaGreat
namespace Go.Proofs.YtelchcokfcdndaaGreat
open Eng
set_option linter.unusedVariables false
set_option linter.unusedSimpArgs false
def hits (p : TPat) (l : List TBind) (xs : List TItem) : Nat := xs.countP fun x => (matchPat p x.F l).2
def blocked (ps : List TPat) (xs : List TItem) (l : List TBind) : Bool := ps.any fun p => p.Not && xs.any fun x => (matchPat p x.F l).2
theorem hits_pos (p : TPat) (l : List TBind) (xs : List TItem) : decide ((0 : Int) < (hits p l xs : Int)) = xs.any fun x => (matchPat p x.F l).2 := by
  rw [Bool.eq_iff_iff, decide_eq_true_eq, List.any_eq_true]
  have : (0 : Int) < (hits p l xs : Int) ↔ 0 < hits p l xs := by omega
  rw [this, hits, List.countP_pos_iff]
theorem blocked_s {N : Nat} (hN : 1099000000000 ≤ N) (r : TRule) (s : TStore) (l : List TBind) (hr : r.Pats.length ≤ 1048576) (hp : ∀ p ∈ r.Pats, p.Args.length ≤ 1048576) (hs : s.Items.length ≤ 1048576) (hb : l.length ≤ 2147483648) : m_s_Blocked N r s l = some (blocked r.Pats s.Items l) := by
  unfold m_s_Blocked
  refine lp0 hN r.Pats (by omega) (m_s_Blocked_l1 N r s l) (fun t => some (blocked t s.Items l)) (fun n i x t g1 g2 g3 g4 g5 g6 g7 => ?_) (fun n i g1 g2 => ?_)
  · simp only [m_s_Blocked_l1, g5, if_true]
    have inner : m_s_Blocked_l2 N r s l i (m_s_Blocked_l1 N r s l n) N 0 = some ((x.Not && s.Items.any fun y => (matchPat x y.F l).2) || blocked t s.Items l) := by
      refine lp0 hN s.Items (by omega) (m_s_Blocked_l2 N r s l i (m_s_Blocked_l1 N r s l n)) (fun u => some ((x.Not && u.any fun y => (matchPat x y.F l).2) || blocked t s.Items l)) (fun n' i' y u k1 k2 k3 k4 k5 k6 k7 => ?_) (fun n' i' k1 k2 => ?_)
      · simp only [m_s_Blocked_l2, k5, if_true, g4, Option.bind_some, k4, match_s hN x y.F l (hp x g2) hb, k6, k7, g6, g7, List.any_cons]
        cases x.Not <;> cases (matchPat x y.F l).2 <;> simp
      · simp only [m_s_Blocked_l2, k2, Bool.false_eq_true, if_false, Option.bind_some, g6, g7]; simp
    rw [inner]; unfold blocked; rw [List.any_cons]
  · simp only [m_s_Blocked_l1, g2, Bool.false_eq_true, if_false]; rfl
end Go.Proofs.YtelchcokfcdndaaGreat
namespace Go.Proofs.YtelchcokfcdndaaGreat
open Eng
set_option linter.unusedVariables false
set_option linter.unusedSimpArgs false
def argVal (a : TArg) (l : List TBind) : TVal × Bool := if a.K = 2 then (a.V, true) else if a.K = 1 then look l a.S else (zv, false)
def lessV (x y : TVal) : Bool := if x.K = y.K then (if x.N = y.N then slt x.S y.S else decide (x.N < y.N)) else decide (x.K < y.K)
def holds (c : TCond) (l : List TBind) : Bool := ((argVal c.L l).2 && (argVal c.R l).2) && (if c.Op = 1 then decide ((argVal c.L l).1 = (argVal c.R l).1) else if c.Op = 2 then !decide ((argVal c.L l).1 = (argVal c.R l).1) else if c.Op = 3 then lessV (argVal c.L l).1 (argVal c.R l).1 else false)
theorem argVal_s {N : Nat} (hN : 1099000000000 ≤ N) (a : TArg) (l : List TBind) (hl : l.length ≤ 4294967296) : m_s_ArgVal N a l = some (argVal a l) := by
  unfold m_s_ArgVal argVal
  rw [look_s hN l a.S hl]
  by_cases h2 : a.K = 2
  · simp [h2]
  · by_cases h1 : a.K = 1 <;> simp [h1, h2, zv]
theorem lessV_s (N : Nat) (x y : TVal) : m_s_LessVal N x y = some (lessV x y) := by
  unfold m_s_LessVal lessV
  by_cases h1 : x.K = y.K
  · by_cases h2 : x.N = y.N <;> simp [h1, h2]
  · simp [h1]
theorem holds_s {N : Nat} (hN : 1099000000000 ≤ N) (c : TCond) (l : List TBind) (hl : l.length ≤ 4294967296) : m_s_Holds N c l = some (holds c l) := by
  unfold m_s_Holds holds
  rw [argVal_s hN c.L l hl, argVal_s hN c.R l hl]
  simp only [Option.bind_some, lessV_s, eqT_TVal_eq]
  cases (argVal c.L l).2 with
  | false => simp
  | true =>
    cases (argVal c.R l).2 with
    | false => simp
    | true =>
      by_cases h1 : c.Op = 1
      · simp [h1]
      · by_cases h2 : c.Op = 2
        · simp [h2]
        · by_cases h3 : c.Op = 3 <;> simp [h1, h2, h3]
theorem holdAll_s {N : Nat} (hN : 1099000000000 ≤ N) (cs : List TCond) (l : List TBind) (hc : cs.length ≤ 4194304) (hl : l.length ≤ 4294967296) : m_s_HoldAll N cs l = some (cs.all fun c => holds c l) := by
  unfold m_s_HoldAll
  refine lp0 hN cs (by omega) (m_s_HoldAll_l1 N cs l) (fun t => some (t.all fun c => holds c l)) (fun n i x t h1 h2 h3 h4 h5 h6 h7 => ?_) (fun n i h1 h2 => ?_)
  · simp only [m_s_HoldAll_l1, h5, if_true, h4, Option.bind_some, holds_s hN x l hl, h6, h7, List.all_cons]
    cases holds x l <;> simp
  · simp only [m_s_HoldAll_l1, h2, Bool.false_eq_true, if_false]; rfl
end Go.Proofs.YtelchcokfcdndaaGreat
namespace Go.Proofs.YtelchcokfcdndaaGreat
open Eng
set_option linter.unusedVariables false
set_option linter.unusedSimpArgs false
def posCount : List TPat → Nat
  | [] => 0
  | p :: t => if p.Not then posCount t else posCount t + 1
theorem posCount_le : ∀ (l : List TPat), posCount l ≤ l.length
  | [] => by simp [posCount]
  | p :: t => by have := posCount_le t; unfold posCount; split <;> simp <;> omega
theorem count_s {N : Nat} (hN : 1099000000000 ≤ N) (r : TRule) (hl : r.Pats.length ≤ 1048576) : m_s_PosCount N r = some (posCount r.Pats : Int) := by
  unfold m_s_PosCount
  have := lp' hN r.Pats (by omega) (m_s_PosCount_l1 N r) (fun t s => some (s + (posCount t : Int))) (fun s t => 0 ≤ s ∧ s + t.length ≤ 1048576) (0 : Int) (by simp; omega) (fun n s i x t h1 h2 h3 h4 h5 h6 hI ih => by
    simp only [List.length_cons] at hI
    simp only [m_s_PosCount_l1, h5, if_true, h4, Option.bind_some, h6, posCount]
    cases hx : x.Not with
    | true => simpa using ih s (by omega)
    | false =>
      rw [wr (n := s + 1) (by omega) (by omega)]
      have := ih (s + 1) (by omega)
      simp only [Bool.not_false, if_true, this, Bool.false_eq_true, if_false]
      congr 1; omega) (fun n s i h1 h2 hI => by simp only [m_s_PosCount_l1, h2, Bool.false_eq_true, if_false, posCount]; simp)
  simpa using this
end Go.Proofs.YtelchcokfcdndaaGreat
namespace Go.Proofs.YtelchcokfcdndaaGreat
open Eng
set_option linter.unusedVariables false
set_option linter.unusedSimpArgs false
def sumArgs (l : List TPat) : Nat := (l.map fun p => p.Args.length).sum
theorem sumArgs_cons (p : TPat) (t : List TPat) : sumArgs (p :: t) = p.Args.length + sumArgs t := by simp [sumArgs]
theorem sumArgs_take (n : Nat) : ∀ (l : List TPat), sumArgs (l.take n) ≤ sumArgs l := by
  induction n with
  | zero => intro l; simp [sumArgs]
  | succ n ih =>
    intro l
    cases l with
    | nil => simp
    | cons p t => rw [List.take_succ_cons, sumArgs_cons, sumArgs_cons]; have := ih t; omega
end Go.Proofs.YtelchcokfcdndaaGreat
namespace Go.Proofs.YtelchcokfcdndaaGreat
open Eng
set_option linter.unusedVariables false
set_option linter.unusedSimpArgs false
def rowsP (fin : List Int → List TBind → List TMatch) (xs : List TItem) : List TPat → List Int → List TBind → List TMatch
  | [], ids, l => fin ids l
  | p :: t, ids, l => xs.flatMap fun x => if (matchPat p x.F l).2 = true then rowsP fin xs t (ids ++ [x.Id]) (matchPat p x.F l).1 else []
def finR (r : TRule) (xs : List TItem) (ids : List Int) (l : List TBind) : List TMatch := if (!blocked r.Pats xs l && r.Conds.all fun c => holds c l) = true then [⟨0, ids, l⟩] else []
def rowsOf (r : TRule) (xs : List TItem) : List TMatch := rowsP (finR r xs) xs (r.Pats.take (posCount r.Pats)) [] []
theorem flatMap_len {α β : Type} {f : α → List β} {M : Nat} : ∀ (l : List α), (∀ x ∈ l, (f x).length ≤ M) → (l.flatMap f).length ≤ l.length * M
  | [], _ => by simp
  | x :: t, h => by
    have h1 := flatMap_len t fun y hy => h y (by simp [hy])
    have h2 := h x (by simp)
    rw [List.flatMap_cons, List.length_append, List.length_cons, Nat.succ_mul]; omega
theorem rowsP_len {fin : List Int → List TBind → List TMatch} (hf : ∀ ids l, (fin ids l).length ≤ 1) (xs : List TItem) : ∀ (ps : List TPat) (ids : List Int) (l : List TBind), (rowsP fin xs ps ids l).length ≤ xs.length ^ ps.length
  | [], ids, l => by simpa [rowsP] using hf ids l
  | p :: t, ids, l => by
    unfold rowsP
    rw [List.length_cons, Nat.pow_succ, Nat.mul_comm]
    refine flatMap_len xs fun x hx => ?_
    split
    · exact rowsP_len hf xs t _ _
    · exact Nat.zero_le _
theorem finR_len (r : TRule) (xs : List TItem) (ids : List Int) (l : List TBind) : (finR r xs ids l).length ≤ 1 := by unfold finR; split <;> simp
structure SzRows (r : TRule) (s : TStore) : Prop where
  pl : r.Pats.length ≤ 1048576
  pa : ∀ p ∈ r.Pats, p.Args.length ≤ 1048576
  sa : sumArgs r.Pats ≤ 1048576
  cl : r.Conds.length ≤ 1048576
  xl : s.Items.length ≤ 1048576
  nm : s.Items.length ^ posCount r.Pats ≤ 1073741824
theorem rowsP_sz {fin : List Int → List TBind → List TMatch} (hf : ∀ ids l, ∀ m ∈ fin ids l, m.Ids = ids ∧ m.Binds = l) (xs : List TItem) : ∀ (ps : List TPat) (ids : List Int) (l : List TBind), ∀ m ∈ rowsP fin xs ps ids l, m.Ids.length = ids.length + ps.length ∧ m.Binds.length ≤ l.length + sumArgs ps
  | [], ids, l, m, hm => by
    obtain ⟨h1, h2⟩ := hf ids l m (by simpa [rowsP] using hm)
    rw [h1, h2]; simp
  | p :: t, ids, l, m, hm => by
    unfold rowsP at hm
    obtain ⟨x, hx, hm⟩ := List.mem_flatMap.1 hm
    split at hm
    · have h1 := rowsP_sz hf xs t (ids ++ [x.Id]) (matchPat p x.F l).1 m hm
      have h2 := matchPat_len p x.F l
      rw [sumArgs_cons]
      simp only [List.length_append, List.length_cons, List.length_nil] at h1 ⊢
      omega
    · cases hm
theorem finR_sz (r : TRule) (xs : List TItem) : ∀ ids l, ∀ m ∈ finR r xs ids l, m.Ids = ids ∧ m.Binds = l := by
  intro ids l m hm
  unfold finR at hm
  split at hm
  · simp at hm; rw [hm]; exact ⟨rfl, rfl⟩
  · cases hm
end Go.Proofs.YtelchcokfcdndaaGreat
namespace Go.Proofs.YtelchcokfcdndaaGreat
open Eng
set_option linter.unusedVariables false
set_option linter.unusedSimpArgs false
def pos (l : List TPat) : List TPat := l.filter fun p => !p.Not
theorem pos_eq (l : List TPat) : (l.filter fun p => p.Not == false) = pos l := by
  unfold pos; congr 1; funext p; cases p.Not <;> rfl
end Go.Proofs.YtelchcokfcdndaaGreat
namespace Go.Proofs.YtelchcokfcdndaaGreat
open Eng
set_option linter.unusedVariables false
set_option linter.unusedSimpArgs false
theorem rangeloop (f : Nat → Int → Option Bool) (n0 : Nat) (hm : n0 ≤ 4611686018427387903) (e : Nat → Bool) (z : Bool)
    (h : ∀ k (i : Nat), i < n0 → f (k + 1) i = if e i then f k (IntKind.i64.wrap ((i : Int) + 1)) else some false) (hz : ∀ k (i : Nat), i = n0 → f (k + 1) i = some z) :
    ∀ (n i : Nat), i ≤ n0 → n0 - i < n → f n i = some (((List.range n0).drop i).all e && z) := by
  intro n
  induction n with
  | zero => intro i _ h; omega
  | succ n ih =>
    intro i hi hn
    by_cases hlt : i < n0
    · rw [h n i hlt, List.drop_eq_getElem_cons (by simpa using hlt), List.getElem_range, List.all_cons]
      cases he : e i with
      | false => simp
      | true => simp only [if_true, Bool.true_and]; rw [wr1 i (by omega), ih (i + 1) (by omega) (by omega)]
    · have : i = n0 := by omega
      rw [hz n i this, List.drop_of_length_le (by simp; omega)]
      simp
theorem in0 (N : Nat) (a b c : Int) : m_s_l1In N a b c = some (decide (b ≤ a) && decide (a ≤ c)) := by
  unfold m_s_l1In
  by_cases h : b ≤ a <;> simp [h]
theorem in1 (N : Nat) (a b c : Int) : m_i_inRange N a b c = some (decide (b ≤ a) && decide (a ≤ c)) := by
  unfold m_i_inRange
  by_cases h : b ≤ a <;> simp [h]
theorem wrU (y : UInt8) : IntKind.i64.wrap (y.toNat : Int) = (y.toNat : Int) := wr (by omega) (by have := y.toNat_lt; omega)
def letter (y : UInt8) : Bool := (decide (97 ≤ (y.toNat : Int)) && decide ((y.toNat : Int) ≤ 122)) || (decide (48 ≤ (y.toNat : Int)) && decide ((y.toNat : Int) ≤ 57)) || decide ((y.toNat : Int) = 95)
theorem letter_s (N : Nat) (y : UInt8) : m_s_l1Letter N (y.toNat : Int) = some (letter y) := by
  unfold m_s_l1Letter letter
  simp only [wrU, in0, Option.bind_some]
  by_cases h1 : (decide (97 ≤ (y.toNat : Int)) && decide ((y.toNat : Int) ≤ 122)) = true
  · simp [h1]
  · rw [if_neg h1]
    simp only [Option.bind_some]
    rw [Bool.eq_false_iff.2 h1, Bool.false_or]
    by_cases h2 : (decide (48 ≤ (y.toNat : Int)) && decide ((y.toNat : Int) ≤ 57)) = true
    · simp [h2]
    · rw [if_neg h2, Bool.eq_false_iff.2 h2, Bool.false_or]; rfl
theorem letter_i (N : Nat) (y : UInt8) : m_i_isWordByte N (y.toNat : Int) = some (letter y) := by
  unfold m_i_isWordByte m_i_isSmall m_i_isDigit letter
  generalize (y.toNat : Int) = n
  rw [andS, andS, Option.bind_some, Option.bind_some, Option.bind_some, Option.bind_some, orS, Option.bind_some, orS]
  rfl
def small (y : UInt8) : Bool := decide (97 ≤ (y.toNat : Int)) && decide ((y.toNat : Int) ≤ 122)
def wordAll (s : ByteArray) : Bool := ((List.range s.size).drop 0).all (fun i => match s.data.toList[i]? with | some y => letter y | none => false)
theorem size_data (s : ByteArray) : s.data.toList.length = s.size := rfl
theorem plain_s {N : Nat} (hN : 1048578 ≤ N) (s : ByteArray) (hs : s.size ≤ 1048576) : m_s_l2Plain N s = some (wordAll s && decide ((s.size : Int) ≤ 20)) := by
  unfold m_s_l2Plain
  refine rangeloop (fun n i => m_s_l2Plain_l1 N s n i) s.size (by omega) _ _ (fun k i hi => ?_) (fun k i hi => ?_) N 0 (by omega) (by omega)
  · have hi' : i < s.data.toList.length := by rw [size_data]; exact hi
    simp only [m_s_l2Plain_l1, idx_nat_lt hi', Option.bind_some, letter_s, List.getElem?_eq_getElem hi']
    rw [if_pos (by simp; omega)]
    cases letter s.data.toList[i] <;> simp
  · simp only [m_s_l2Plain_l1]
    rw [if_neg (by simp; omega)]
theorem word_i {N : Nat} (hN : 1048578 ≤ N) (s : ByteArray) (n : Int) (hs : s.size ≤ 1048576) : m_i_isWord N s n = some (wordAll s && decide ((s.size : Int) ≤ n)) := by
  unfold m_i_isWord
  have : m_i_isWord_l1 N s N 0 = some (wordAll s && true) := by
    refine rangeloop (fun n i => m_i_isWord_l1 N s n i) s.size (by omega) _ _ (fun k i hi => ?_) (fun k i hi => ?_) N 0 (by omega) (by omega)
    · have hi' : i < s.data.toList.length := by rw [size_data]; exact hi
      simp only [m_i_isWord_l1, idx_nat_lt hi', Option.bind_some, letter_i, List.getElem?_eq_getElem hi']
      rw [if_pos (by simp; omega)]
      cases letter s.data.toList[i] <;> simp
    · simp only [m_i_isWord_l1]
      rw [if_neg (by simp; omega)]
  rw [this]
  by_cases h : n < (s.size : Int)
  · rw [if_pos (by simpa using h), decide_eq_false (by omega), Bool.and_false]
  · rw [if_neg (by simpa using h), decide_eq_true (show (s.size : Int) ≤ n by omega)]
theorem name_i {N : Nat} (hN : 1048578 ≤ N) (s : ByteArray) (hs : s.size ≤ 1048576) : m_i_NameOk N s = some ((match s.data.toList[0]? with | some y => small y | none => false) && (wordAll s && decide ((s.size : Int) ≤ 12))) := by
  unfold m_i_NameOk
  rw [word_i hN s 12 hs]
  by_cases h : 0 < s.size
  · have hi' : 0 < s.data.toList.length := by rw [size_data]; exact h
    have hidx : idx s.data.toList 0 = some s.data.toList[0] := by simpa using idx_nat_lt (i := 0) hi'
    rw [if_pos (by simpa using h), hidx, List.getElem?_eq_getElem hi']
    have : m_i_isSmall N (s.data.toList[0].toNat : Int) = some (small s.data.toList[0]) := by
      unfold m_i_isSmall small
      generalize (s.data.toList[0].toNat : Int) = n
      by_cases h1 : 97 ≤ n <;> simp [h1]
    simp only [Option.bind_some, this]
    cases small s.data.toList[0] <;> simp
  · rw [if_neg (by simpa using h), List.getElem?_eq_none (by rw [size_data]; omega)]
    rfl
theorem name_s {N : Nat} (hN : 1048578 ≤ N) (s : ByteArray) (hs : s.size ≤ 1048576) : m_s_NameOk N s = some ((match s.data.toList[0]? with | some y => small y | none => false) && (wordAll s && decide ((s.size : Int) ≤ 12))) := by
  unfold m_s_NameOk
  have := rangeloop (fun n i => m_s_NameOk_l1 N s n i) s.size (by omega) (fun i => match s.data.toList[i]? with | some y => letter y && (decide (¬ i = 0) || small y) | none => false) (decide (1 ≤ (s.size : Int)) && decide ((s.size : Int) ≤ 12)) (fun k i hi => by
    have hi' : i < s.data.toList.length := by rw [size_data]; exact hi
    simp only [m_s_NameOk_l1, idx_nat_lt hi', Option.bind_some, letter_s, List.getElem?_eq_getElem hi', wrU, in0]
    rw [if_pos (by simp; omega)]
    have h0 : decide ((i : Int) = 0) = decide (i = 0) := by rw [decide_eq_decide]; omega
    rw [h0]
    unfold small
    simp only [andS, orS, Option.bind_some]
    generalize letter s.data.toList[i] = a
    generalize (decide (97 ≤ (s.data.toList[i].toNat : Int)) && decide ((s.data.toList[i].toNat : Int) ≤ 122)) = b
    cases a <;> cases b <;> by_cases hz : i = 0 <;> simp [hz]) (fun k i hi => by
    simp only [m_s_NameOk_l1, in0, Option.bind_some]
    rw [if_neg (by simp; omega)]) N 0 (by omega) (by omega)
  rw [show m_s_NameOk_l1 N s N 0 = _ from this]
  congr 1
  unfold wordAll
  simp only [List.drop_zero]
  cases hsz : s.size with
  | zero =>
    rw [List.getElem?_eq_none (by rw [size_data]; omega)]
    simp
  | succ n =>
    have hi' : 0 < s.data.toList.length := by rw [size_data]; omega
    rw [List.getElem?_eq_getElem hi', List.range_succ_eq_map]
    simp only [List.all_cons, List.getElem?_eq_getElem hi', List.all_map, Function.comp_def, Nat.succ_eq_add_one]
    have : ∀ i, (match s.data.toList[i + 1]? with | some y => letter y && (decide (¬ i + 1 = 0) || small y) | none => false) = (match s.data.toList[i + 1]? with | some y => letter y | none => false) := by
      intro i; cases s.data.toList[i + 1]? <;> simp
    simp only [this]
    have h1 : decide (1 ≤ ((n + 1 : Nat) : Int)) = true := by simp; omega
    simp only [h1, Bool.true_and, not_true, decide_false, Bool.false_or]
    cases letter s.data.toList[0] <;> cases small s.data.toList[0] <;> simp
theorem val_s {N : Nat} (hN : 1048578 ≤ N) (v : TVal) (hs : v.S.size ≤ 1048576) : m_s_ValOk N v = m_i_ValOk N v := by
  unfold m_s_ValOk m_i_ValOk
  rw [plain_s hN _ hs, word_i hN _ _ hs, in0, in1]
  by_cases h1 : v.K = 1
  · simp [h1]
  · by_cases h2 : v.K = 2
    · simp only [h2, andS, orS, Option.bind_some]
      cases decide (v.N = 0) <;> cases wordAll v.S <;> cases decide ((v.S.size : Int) ≤ 20) <;> rfl
    · simp [h1, h2]
def okVal (v : TVal) : Bool := if v.K = 1 then (decide (-1000000000 ≤ v.N) && decide (v.N ≤ 1000000000)) && seq v.S ⟨#[]⟩ else if v.K = 2 then decide (v.N = 0) && (wordAll v.S && decide ((v.S.size : Int) ≤ 20)) else false
theorem val_i {N : Nat} (hN : 1048578 ≤ N) (v : TVal) (hs : v.S.size ≤ 1048576) : m_i_ValOk N v = some (okVal v) := by
  unfold m_i_ValOk okVal
  rw [word_i hN _ _ hs, in1]
  by_cases h1 : v.K = 1
  · simp only [h1, decide_true, if_true, Option.bind_some]
    cases (decide (-1000000000 ≤ v.N) && decide (v.N ≤ 1000000000)) <;> simp
  · by_cases h2 : v.K = 2
    · by_cases h3 : v.N = 0 <;> simp [h2, h3]
    · simp [h1, h2]
end Go.Proofs.YtelchcokfcdndaaGreat
namespace Go.Proofs.YtelchcokfcdndaaGreat
open Eng
set_option linter.unusedVariables false
set_option linter.unusedSimpArgs false
def large (y : UInt8) : Bool := decide (65 ≤ (y.toNat : Int)) && decide ((y.toNat : Int) ≤ 90)
theorem large_i (N : Nat) (y : UInt8) : m_i_isLarge N (y.toNat : Int) = some (large y) := by
  unfold m_i_isLarge large; cases decide (65 ≤ (y.toNat : Int)) <;> rfl
theorem large_s (N : Nat) (y : UInt8) : m_s_l5Large N (y.toNat : Int) = some (large y) := by
  unfold m_s_l5Large large; rw [wrU, in0]; rfl
def varOk (s : ByteArray) : Bool := match s.data.toList with
  | [] => false
  | b :: t => large b && (t.all (fun y => letter y || large y) && decide ((s.size : Int) ≤ 12))
theorem var_i {N : Nat} (hN : 1099000000000 ≤ N) (s : ByteArray) (hs : s.size ≤ 1048576) : m_i_isVar N s = some (varOk s) := by
  have hsz : s.size = s.data.toList.length := rfl
  have lp := allfrom (m_i_isVar_l1 N s) s.data.toList (by omega) (fun y => letter y || large y) true 0 (fun n i y _ hx _ hc hw => by
    rw [← hsz] at hc
    simp only [m_i_isVar_l1, hc, if_true, hx, Option.bind_some, letter_i, large_i, hw]
    cases letter y <;> cases large y <;> rfl) (fun n i hc => by rw [← hsz] at hc; simp only [m_i_isVar_l1, hc, Bool.false_eq_true, if_false])
  unfold m_i_isVar varOk
  cases hd : s.data.toList with
  | nil =>
    have : s.size = 0 := by rw [hsz, hd]; rfl
    rw [this]; rfl
  | cons b t =>
    have h1 : s.size = t.length + 1 := by rw [hsz, hd]; rfl
    have c1 : decide ((s.size : Int) < 1) = false := decide_eq_false (by omega)
    have := lp N 0 (by omega) (by omega) (by omega)
    rw [hd] at this
    have hi : idx (b :: t) 0 = some b := rfl
    simp only [c1, Bool.false_eq_true, if_false, Option.bind_some, hi, large_i]
    by_cases c2 : (s.size : Int) ≤ 12
    · have c3 : decide (12 < (s.size : Int)) = false := decide_eq_false (by omega)
      simp only [c2, c3, decide_true, Bool.and_true, Bool.false_eq_true, if_false, Option.bind_some]
      cases hb : large b with
      | false => rfl
      | true =>
        simp only [Bool.not_true, Bool.false_eq_true, if_false, Bool.true_and]
        refine this.trans ?_
        simp [hb]
    · have c3 : decide (12 < (s.size : Int)) = true := decide_eq_true (by omega)
      simp only [c2, c3, decide_false, Bool.and_false, if_true, Option.bind_some]
theorem var_s {N : Nat} (hN : 1099000000000 ≤ N) (s : ByteArray) (hs : s.size ≤ 1048576) : m_s_l5VarOk N s = some (varOk s) := by
  have hsz : s.size = s.data.toList.length := rfl
  have lp := allfrom (m_s_l5VarOk_l1 N s) s.data.toList (by omega) (fun y => letter y || large y) (decide (1 ≤ (s.size : Int)) && decide ((s.size : Int) ≤ 12)) 1 (fun n i y h1 hx _ hc hw => by
    rw [← hsz] at hc
    have h0 : decide ((i : Int) = 0) = false := decide_eq_false (by omega)
    simp only [m_s_l5VarOk_l1, hc, if_true, hx, Option.bind_some, letter_s, large_s, hw, h0, Bool.false_eq_true, if_false]
    cases letter y <;> cases large y <;> rfl) (fun n i hc => by rw [← hsz] at hc; simp only [m_s_l5VarOk_l1, hc, Bool.false_eq_true, if_false, in0, Option.bind_some])
  unfold m_s_l5VarOk varOk
  obtain ⟨n, rfl⟩ : ∃ n, N = n + 1 := ⟨N - 1, by omega⟩
  cases hd : s.data.toList with
  | nil =>
    have : s.size = 0 := by rw [hsz, hd]; rfl
    simp only [m_s_l5VarOk_l1, this, in0]; rfl
  | cons b t =>
    have h1 : s.size = t.length + 1 := by rw [hsz, hd]; rfl
    have c1 : decide ((0 : Int) < (s.size : Int)) = true := decide_eq_true (by omega)
    have := lp n 1 (by omega) (by omega) (by omega)
    rw [hd] at this
    have hi : idx (b :: t) 0 = some b := rfl
    simp only [m_s_l5VarOk_l1, c1, if_true, hd, hi, Option.bind_some, large_s, decide_true]
    cases hb : large b with
    | false => rfl
    | true =>
      simp only [Bool.not_true, Bool.false_eq_true, if_false, Option.bind_some, Bool.true_and]
      rw [show IntKind.i64.wrap ((0 : Int) + 1) = ((1 : Nat) : Int) from wr1 0 (by omega)]
      refine this.trans ?_
      simp [show (1 : Int) ≤ (s.size : Int) by omega]
def SzArg (a : TArg) : Prop := a.S.size ≤ 1048576 ∧ a.V.S.size ≤ 1048576
def okArg (a : TArg) : Bool := if a.K = 1 then varOk a.S && eqT_TVal a.V ⟨0, 0, ⟨#[]⟩⟩ else if a.K = 2 then okVal a.V && seq a.S ⟨#[]⟩ else if a.K = 3 then seq a.S ⟨#[]⟩ && eqT_TVal a.V ⟨0, 0, ⟨#[]⟩⟩ else false
theorem arg_s {N : Nat} (hN : 1099000000000 ≤ N) (a : TArg) (h : SzArg a) : m_s_ArgOk N a = some (okArg a) := by
  unfold m_s_ArgOk okArg
  rw [var_s hN _ h.1, val_s (by omega) _ h.2, val_i (by omega) _ h.2]
  simp only [Option.bind_some, andS, decide_eq_true_eq]
  split <;> (try split) <;> (try split) <;> rfl
theorem arg_i {N : Nat} (hN : 1099000000000 ≤ N) (a : TArg) (h : SzArg a) : m_i_ArgOk N a = some (okArg a) := by
  unfold m_i_ArgOk okArg
  rw [var_i hN _ h.1, val_i (by omega) _ h.2]
  simp only [Option.bind_some, andS, decide_eq_true_eq, Bool.and_comm]
  split <;> (try split) <;> (try split) <;> simp [Bool.and_comm]
def given (a : TArg) : Bool := okArg a && !decide (a.K = 3)
theorem given_s {N : Nat} (hN : 1099000000000 ≤ N) (a : TArg) (h : SzArg a) : m_s_l8Given N a = some (given a) := by
  unfold m_s_l8Given given; simp only [arg_s hN a h, Option.bind_some, andS]
theorem given_i {N : Nat} (hN : 1099000000000 ≤ N) (a : TArg) (h : SzArg a) : m_i_isTerm N a = some (given a) := by
  unfold m_i_isTerm given; simp only [arg_i hN a h, Option.bind_some, andS, Bool.and_comm]
def SzExpr (e : TExpr) : Prop := e.Op.size ≤ 1048576 ∧ SzArg e.L ∧ SzArg e.R
def okExpr (e : TExpr) : Bool := if seq e.Op ⟨#[]⟩ then given e.L && eqT_TArg e.R ⟨0, ⟨#[]⟩, ⟨0, 0, ⟨#[]⟩⟩⟩ else (seq e.Op ⟨#[43]⟩ || seq e.Op ⟨#[45]⟩) && (given e.L && given e.R)
theorem expr_s {N : Nat} (hN : 1099000000000 ≤ N) (e : TExpr) (h : SzExpr e) : m_s_ExprOk N e = some (okExpr e) := by
  unfold m_s_ExprOk m_s_ExprOk_j1 okExpr
  simp only [given_s hN _ h.2.1, given_s hN _ h.2.2, Option.bind_some, andS]
  cases seq e.Op ⟨#[]⟩ <;> cases seq e.Op ⟨#[43]⟩ <;> cases seq e.Op ⟨#[45]⟩ <;> rfl
theorem expr_i {N : Nat} (hN : 1099000000000 ≤ N) (e : TExpr) (h : SzExpr e) : m_i_ExprOk N e = some (okExpr e) := by
  unfold m_i_ExprOk m_i_ExprOk_j1 okExpr
  simp only [given_i hN _ h.2.1, given_i hN _ h.2.2, Option.bind_some, andS]
  cases seq e.Op ⟨#[]⟩ <;> cases seq e.Op ⟨#[43]⟩ <;> cases seq e.Op ⟨#[45]⟩ <;> rfl
def okName (s : ByteArray) : Bool := (match s.data.toList[0]? with | some y => small y | none => false) && (wordAll s && decide ((s.size : Int) ≤ 12))
theorem okName_s {N : Nat} (hN : 1099000000000 ≤ N) (s : ByteArray) (hs : s.size ≤ 1048576) : m_s_NameOk N s = some (okName s) := name_s (by omega) s hs
theorem okName_i {N : Nat} (hN : 1099000000000 ≤ N) (s : ByteArray) (hs : s.size ≤ 1048576) : m_i_NameOk N s = some (okName s) := name_i (by omega) s hs
def SzAct (a : TAct) : Prop := a.Name.size ≤ 1048576 ∧ a.Undo.size ≤ 1048576 ∧ a.Args.length ≤ 1048576 ∧ ∀ e ∈ a.Args, SzExpr e
theorem args_s {N : Nat} (hN : 1099000000000 ≤ N) (xs : List TExpr) (hl : xs.length ≤ 1048576) (h : ∀ e ∈ xs, SzExpr e) : m_s_l8Args N xs = some (xs.all okExpr && decide ((xs.length : Int) ≤ 5)) := by
  unfold m_s_l8Args
  have := allfrom (m_s_l8Args_l1 N xs) xs (by omega) okExpr (decide ((xs.length : Int) ≤ 5)) 0 (fun n i y _ hx hm hc hw => by
    simp only [m_s_l8Args_l1, hc, if_true, hx, Option.bind_some, expr_s hN y (h y hm), hw]; cases okExpr y <;> rfl) (fun n i hc => by simp only [m_s_l8Args_l1, hc, Bool.false_eq_true, if_false]) N 0 (by omega) (by omega) (by omega)
  simpa using this
theorem args_i {N : Nat} (hN : 1099000000000 ≤ N) (a : TAct) (h : SzAct a) : m_i_argsOk N a = some (okName a.Name && (a.Args.all okExpr && decide ((a.Args.length : Int) ≤ 5))) := by
  obtain ⟨h1, h2, h3, h4⟩ := h
  unfold m_i_argsOk
  have := allfrom (m_i_argsOk_l1 N a) a.Args (by omega) okExpr true 0 (fun n i y _ hx hm hc hw => by
    simp only [m_i_argsOk_l1, hc, if_true, hx, Option.bind_some, expr_i hN y (h4 y hm), hw]; cases okExpr y <;> rfl) (fun n i hc => by simp only [m_i_argsOk_l1, hc, Bool.false_eq_true, if_false]) N 0 (by omega) (by omega) (by omega)
  have this' : m_i_argsOk_l1 N a N 0 = some (a.Args.all okExpr) := by simpa using this
  simp only [okName_i hN _ h1, Option.bind_some, this']
  cases okName a.Name with
  | false => rfl
  | true =>
    by_cases c : (a.Args.length : Int) ≤ 5
    · have c' : decide (5 < (a.Args.length : Int)) = false := decide_eq_false (by omega)
      simp only [c, c', decide_true, Bool.and_true, Bool.true_and, Bool.not_true, Bool.false_eq_true, if_false, Option.bind_some]
    · have c' : decide (5 < (a.Args.length : Int)) = true := decide_eq_true (by omega)
      simp only [c, c', decide_false, Bool.and_false, Bool.not_true, Bool.false_eq_true, if_false, if_true, Option.bind_some]
def okAct (a : TAct) : Bool :=
  let na := okName a.Name && (a.Args.all okExpr && decide ((a.Args.length : Int) ≤ 5))
  let bare := seq a.Name ⟨#[]⟩ && decide ((a.Args.length : Int) = 0)
  if a.Kind = 1 then na && decide (a.N = 0) && seq a.Undo ⟨#[]⟩
  else if a.Kind = 2 then bare && (decide (0 ≤ a.N) && decide (a.N ≤ 7)) && seq a.Undo ⟨#[]⟩
  else if a.Kind = 3 then na && decide (a.N = 0) && (seq a.Undo ⟨#[]⟩ || okName a.Undo)
  else if a.Kind = 4 then na && (decide (0 ≤ a.N) && decide (a.N ≤ 100000)) && seq a.Undo ⟨#[]⟩
  else if a.Kind = 5 ∨ a.Kind = 6 then bare && decide (a.N = 0) && seq a.Undo ⟨#[]⟩
  else false
theorem act_s {N : Nat} (hN : 1099000000000 ≤ N) (a : TAct) (h : SzAct a) : m_s_ActOk N a = some (okAct a) := by
  obtain ⟨h1, h2, h3, h4⟩ := h
  unfold m_s_ActOk m_s_ActOk_j1 okAct
  simp only [args_s hN _ h3 h4, okName_s hN _ h1, okName_s hN _ h2, in0, Option.bind_some, andS, orS, decide_eq_true_eq]
  generalize okName a.Name = n; generalize a.Args.all okExpr = e; generalize okName a.Undo = u; generalize seq a.Name ⟨#[]⟩ = sn; generalize seq a.Undo ⟨#[]⟩ = su
  by_cases k1 : a.Kind = 1
  · simp [k1] <;> (cases n <;> cases e <;> simp)
  by_cases k3 : a.Kind = 3
  · simp [k3] <;> (cases n <;> cases e <;> simp)
  by_cases k4 : a.Kind = 4
  · simp [k4] <;> (cases n <;> cases e <;> simp)
  by_cases k2 : a.Kind = 2
  · simp [k2] <;> (cases sn <;> cases su <;> simp)
  by_cases k5 : a.Kind = 5
  · simp [k5] <;> (cases sn <;> cases su <;> simp)
  · by_cases k6 : a.Kind = 6
    · simp [k6] <;> (cases sn <;> cases su <;> simp)
    · simp [k1, k2, k3, k4, k5, k6]
theorem act_i {N : Nat} (hN : 1099000000000 ≤ N) (a : TAct) (h : SzAct a) : m_i_ActOk N a = some (okAct a) := by
  have hi := args_i hN a h
  obtain ⟨h1, h2, h3, h4⟩ := h
  unfold m_i_ActOk m_i_ActOk_j1 m_i_isUndo okAct
  simp only [hi, okName_i hN _ h2, in1, Option.bind_some, andS, orS, decide_eq_true_eq]
  generalize okName a.Name = n; generalize a.Args.all okExpr = e; generalize okName a.Undo = u; generalize seq a.Name ⟨#[]⟩ = sn; generalize seq a.Undo ⟨#[]⟩ = su
  by_cases k1 : a.Kind = 1
  · simp [k1] <;> (cases n <;> cases e <;> simp)
  by_cases k3 : a.Kind = 3
  · simp [k3] <;> (cases n <;> cases e <;> simp)
  by_cases k4 : a.Kind = 4
  · simp [k4] <;> (cases n <;> cases e <;> simp)
  by_cases k2 : a.Kind = 2
  · simp [k2] <;> (cases sn <;> cases su <;> simp)
  by_cases k5 : a.Kind = 5
  · simp [k5] <;> (cases sn <;> cases su <;> simp)
  · by_cases k6 : a.Kind = 6
    · simp [k6] <;> (cases sn <;> cases su <;> simp)
    · simp [k1, k2, k3, k4, k5, k6]
end Go.Proofs.YtelchcokfcdndaaGreat
namespace Go.Proofs.YtelchcokfcdndaaGreat
open Eng
set_option linter.unusedVariables false
set_option linter.unusedSimpArgs false
def SzPat (p : TPat) : Prop := p.Kind.size ≤ 1048576 ∧ p.Args.length ≤ 1048576 ∧ ∀ a ∈ p.Args, SzArg a
def okPat (p : TPat) : Bool := okName p.Kind && (decide ((p.Args.length : Int) ≤ 5) && p.Args.all okArg)
theorem pat_i {N : Nat} (hN : 1099000000000 ≤ N) (p : TPat) (h : SzPat p) : m_i_PatOk N p = some (okPat p) := by
  obtain ⟨h1, h2, h3⟩ := h
  have lp := lp0 hN p.Args (by omega) (m_i_PatOk_l1 N p) (fun t => some (t.all okArg)) (fun n i x t g1 g2 g3 g4 g5 g6 g7 => by
    simp only [m_i_PatOk_l1, g5, if_true, g4, Option.bind_some, arg_i hN x (h3 x g2), g6, g7, List.all_cons]; cases okArg x <;> rfl) (fun n i g1 g2 => by simp only [m_i_PatOk_l1, g2, Bool.false_eq_true, if_false]; rfl)
  unfold m_i_PatOk okPat
  simp only [okName_i hN _ h1, Option.bind_some, lp]
  by_cases c : (p.Args.length : Int) ≤ 5
  · have c' : decide (5 < (p.Args.length : Int)) = false := decide_eq_false (by omega)
    simp only [c, c', decide_true]; cases okName p.Kind <;> simp
  · have c' : decide (5 < (p.Args.length : Int)) = true := decide_eq_true (by omega)
    simp only [c, c', decide_false]; cases okName p.Kind <;> simp
theorem pat_s {N : Nat} (hN : 1099000000000 ≤ N) (p : TPat) (h : SzPat p) : m_s_PatOk N p = some (okPat p) := by
  obtain ⟨h1, h2, h3⟩ := h
  have lp := lp0 hN p.Args (by omega) (m_s_PatOk_l1 N p) (fun t => some (t.all okArg && (okName p.Kind && decide ((p.Args.length : Int) ≤ 5)))) (fun n i x t g1 g2 g3 g4 g5 g6 g7 => by
    simp only [m_s_PatOk_l1, g5, if_true, g4, Option.bind_some, arg_s hN x (h3 x g2), g6, g7, List.all_cons]; cases okArg x <;> simp) (fun n i g1 g2 => by
    simp only [m_s_PatOk_l1, g2, Bool.false_eq_true, if_false, okName_s hN _ h1, Option.bind_some, andS, List.all_nil, Bool.true_and])
  unfold m_s_PatOk okPat
  rw [lp]
  generalize okName p.Kind = a; generalize p.Args.all okArg = b; generalize decide ((p.Args.length : Int) ≤ 5) = c
  cases a <;> cases b <;> cases c <;> rfl
def SzCond (c : TCond) : Prop := SzArg c.L ∧ SzArg c.R
def okCond (c : TCond) : Bool := (decide (1 ≤ c.Op) && decide (c.Op ≤ 3)) && (given c.L && given c.R)
theorem cond_i {N : Nat} (hN : 1099000000000 ≤ N) (c : TCond) (h : SzCond c) : m_i_CondOk N c = some (okCond c) := by
  unfold m_i_CondOk okCond
  simp only [in1, given_i hN _ h.1, given_i hN _ h.2, Option.bind_some, andS, Bool.and_assoc]
theorem cond_s {N : Nat} (hN : 1099000000000 ≤ N) (c : TCond) (h : SzCond c) : m_s_CondOk N c = some (okCond c) := by
  unfold m_s_CondOk okCond given
  simp only [in0, arg_s hN _ h.1, arg_s hN _ h.2, Option.bind_some, andS]
  generalize okArg c.L = a; generalize okArg c.R = b; generalize (decide (c.L.K = 3)) = d; generalize (decide (c.R.K = 3)) = e; generalize (decide (1 ≤ c.Op) && decide (c.Op ≤ 3)) = f
  cases a <;> cases b <;> cases d <;> cases e <;> cases f <;> rfl
end Go.Proofs.YtelchcokfcdndaaGreat
namespace Go.Proofs.YtelchcokfcdndaaGreat
open Eng
set_option linter.unusedVariables false
set_option linter.unusedSimpArgs false
instance memDec (v : ByteArray) (xs : List ByteArray) : Decidable (v ∈ xs) := @List.instDecidableMemOfLawfulBEq _ instBEqOfDecidableEq _ v xs
theorem hasS {N : Nat} (hN : 1099000000000 ≤ N) (xs : List ByteArray) (v : ByteArray) (hl : xs.length ≤ 4294967296) : m_s_l6Has N xs v = some (decide (v ∈ xs)) := by
  unfold m_s_l6Has
  refine lp0 hN xs hl _ (fun t => some (decide (v ∈ t))) (fun n i x t h1 h2 h3 h4 h5 h6 h7 => ?_) (fun n i h1 h2 => ?_)
  · simp only [m_s_l6Has_l1, h5, if_true, h4, Option.bind_some, h6, h7, seq_eq]
    by_cases h : x = v
    · simp [h]
    · have h' : ¬ v = x := fun e => h e.symm
      simp [h, h']
  · simp only [m_s_l6Has_l1, h2, Bool.false_eq_true, if_false]; simp
def once (s : List ByteArray) (v : ByteArray) : List ByteArray := if v ∈ s then s else s ++ [v]
theorem once_len (s : List ByteArray) (v : ByteArray) : (once s v).length ≤ s.length + 1 := by unfold once; split <;> simp
theorem mem_once {s : List ByteArray} {v x : ByteArray} : x ∈ once s v ↔ x ∈ s ∨ x = v := by
  unfold once; split
  · rename_i h
    constructor
    · exact .inl
    · rintro (h' | rfl)
      · exact h'
      · exact h
  · simp
theorem mem_onces {x : ByteArray} : ∀ {vs s : List ByteArray}, x ∈ vs.foldl once s ↔ x ∈ s ∨ x ∈ vs
  | [], s => by simp
  | v :: vs, s => by rw [List.foldl_cons, mem_onces, mem_once, List.mem_cons, or_assoc]
theorem once_old {s : List ByteArray} {v : ByteArray} (h : v ∈ s) : once s v = s := by unfold once; rw [if_pos h]
theorem onces_len : ∀ (vs s : List ByteArray), (vs.foldl once s).length ≤ s.length + vs.length
  | [], s => by simp
  | v :: vs, s => by have := onces_len vs (once s v); have := once_len s v; simp only [List.foldl_cons, List.length_cons]; omega
theorem onces_once (s u : List ByteArray) (v : ByteArray) : (once u v).foldl once s = once (u.foldl once s) v := by
  by_cases h : v ∈ u
  · rw [once_old h, once_old (mem_onces.2 (.inr h))]
  · have : once u v = u ++ [v] := by unfold once; rw [if_neg h]
    rw [this, List.foldl_append]; rfl
theorem onces_onces : ∀ (vs u s : List ByteArray), (vs.foldl once u).foldl once s = vs.foldl once (u.foldl once s)
  | [], u, s => rfl
  | v :: vs, u, s => by rw [List.foldl_cons, onces_onces vs (once u v) s, onces_once, List.foldl_cons]
theorem onces_dedup (vs s : List ByteArray) : (vs.foldl once []).foldl once s = vs.foldl once s := onces_onces vs [] s
theorem onces_size {B : Nat} {vs s : List ByteArray} (h : ∀ x ∈ vs, x.size ≤ B) (h' : ∀ x ∈ s, x.size ≤ B) : ∀ x ∈ vs.foldl once s, x.size ≤ B := fun x hx => (mem_onces.1 hx).elim (h' x) (h x)
end Go.Proofs.YtelchcokfcdndaaGreat
namespace Go.Proofs.YtelchcokfcdndaaGreat
open Eng
set_option linter.unusedVariables false
set_option linter.unusedSimpArgs false
def argVars : List TArg → List ByteArray
  | [] => []
  | a :: t => if a.K = 1 then a.S :: argVars t else argVars t
theorem argVars_len : ∀ (l : List TArg), (argVars l).length ≤ l.length
  | [] => by simp [argVars]
  | a :: t => by have := argVars_len t; unfold argVars; split <;> simp <;> omega
theorem mem_argVars {x : ByteArray} : ∀ {l : List TArg}, x ∈ argVars l ↔ ∃ a ∈ l, a.K = 1 ∧ a.S = x
  | [] => by simp [argVars]
  | a :: t => by
    unfold argVars
    split
    · rename_i h; simp [mem_argVars, h, eq_comm]
    · rename_i h; simp [mem_argVars, h]
theorem vars_s {N : Nat} (hN : 1099000000000 ≤ N) (p : TPat) (hl : p.Args.length ≤ 1048576) : m_s_VarsOf N p = some ((argVars p.Args).foldl once []) := by
  unfold m_s_VarsOf
  refine lp' hN p.Args (by omega) (m_s_VarsOf_l1 N p) (fun t s => some ((argVars t).foldl once s)) (fun s t => s.length + t.length ≤ 4294967290) [] (by simp; omega) (fun n s i x t h1 h2 h3 h4 h5 h6 hI ih => ?_) (fun n s i h1 h2 hI => ?_)
  · simp only [List.length_cons] at hI
    simp only [m_s_VarsOf_l1, h5, if_true, h4, Option.bind_some, h6, argVars, hasS hN s x.S (by omega)]
    by_cases h : x.K = 1
    · simp only [h, decide_true, if_true, Option.bind_some, List.foldl_cons]
      have := ih (once s x.S) (by have := once_len s x.S; omega)
      unfold once at this ⊢
      by_cases hm : x.S ∈ s
      · simp only [hm, if_true] at this
        simpa [hm] using this
      · simp only [hm, if_false] at this
        simp only [hm, decide_false, Bool.not_false, if_true, app_ok (show s.length + [x.S].length ≤ 4294967296 by simp; omega), Option.bind_some, if_false]
        exact this
    · simp only [h, decide_false, Bool.false_eq_true, if_false, Option.bind_some]
      exact ih _ (by omega)
  · simp only [m_s_VarsOf_l1, h2, Bool.false_eq_true, if_false]; rfl
def posNames : List TPat → List ByteArray
  | [] => []
  | p :: t => if p.Not then posNames t else argVars p.Args ++ posNames t
def nArgs (l : List TPat) : Nat := (l.map fun p => p.Args.length).sum
theorem posNames_len : ∀ (l : List TPat), (posNames l).length ≤ nArgs l
  | [] => by simp [posNames, nArgs]
  | p :: t => by
    have h1 := posNames_len t
    have h2 := argVars_len p.Args
    have h3 : nArgs (p :: t) = p.Args.length + nArgs t := by simp [nArgs]
    rw [h3]
    unfold posNames
    split
    · omega
    · rw [List.length_append]; omega
theorem posVars_s {N : Nat} (hN : 1099000000000 ≤ N) (r : TRule) (hl : r.Pats.length ≤ 1048576) (ha : nArgs r.Pats ≤ 1048576) (hp : ∀ p ∈ r.Pats, p.Args.length ≤ 1048576) : m_s_PosVars N r = some ((posNames r.Pats).foldl once []) := by
  unfold m_s_PosVars
  refine lp' hN r.Pats (by omega) (m_s_PosVars_l1 N r) (fun t s => some ((posNames t).foldl once s)) (fun s t => s.length + nArgs t ≤ 4294967290) [] (by simp; omega) (fun n s i x t h1 h2 h3 h4 h5 h6 hI ih => ?_) (fun n s i h1 h2 hI => ?_)
  · have hI' : s.length + (x.Args.length + nArgs t) ≤ 4294967290 := by simpa [nArgs] using hI
    have hpx := hp x h2
    simp only [m_s_PosVars_l1, h5, if_true, h4, Option.bind_some, vars_s hN x hpx, posNames]
    have hvl := onces_len (argVars x.Args) []
    have hal := argVars_len x.Args
    simp only [List.length_nil, Nat.zero_add] at hvl
    have key : m_s_PosVars_l2 N r i (m_s_PosVars_l1 N r n) ((argVars x.Args).foldl once []) N s 0 = if x.Not then some ((posNames t).foldl once s) else some ((posNames t).foldl once (((argVars x.Args).foldl once []).foldl once s)) := by
      cases hx : x.Not with
      | true =>
        obtain ⟨m, rfl⟩ : ∃ m, N = m + 1 := ⟨N - 1, by omega⟩
        have ih0 := ih s (by omega)
        simp only [m_s_PosVars_l2, h4, Option.bind_some, hx, Bool.not_true, h6, ih0]
        split <;> rfl
      | false =>
        refine lp' hN ((argVars x.Args).foldl once []) (by omega) (m_s_PosVars_l2 N r i (m_s_PosVars_l1 N r n) ((argVars x.Args).foldl once [])) (fun u s => some ((posNames t).foldl once (u.foldl once s))) (fun s u => s.length + u.length + nArgs t ≤ 4294967290) s (by omega) (fun n' s' i' y u g1 g2 g3 g4 g5 g6 gI gih => ?_) (fun n' s' i' g1 g2 gI => ?_)
        · simp only [List.length_cons] at gI
          simp only [m_s_PosVars_l2, g5, if_true, h4, Option.bind_some, hx, Bool.not_false, g4, hasS hN s' y (by omega), List.foldl_cons, g6]
          have := gih (once s' y) (by have := once_len s' y; omega)
          unfold once at this ⊢
          by_cases hm : y ∈ s'
          · simp only [hm, if_true] at this
            simpa [hm] using this
          · simp only [hm, if_false] at this
            simp only [hm, decide_false, Bool.not_false, if_true, app_ok (show s'.length + [y].length ≤ 4294967296 by simp; omega), Option.bind_some, if_false]
            exact this
        · simp only [m_s_PosVars_l2, g2, Bool.false_eq_true, if_false, Option.bind_some, h6]
          exact ih s' (by simp at gI; omega)
    rw [show (m_s_PosVars_l2 N r i (m_s_PosVars_l1 N r n) ((argVars x.Args).foldl once []) N s 0) = _ from key]
    cases hx : x.Not with
    | true => simp
    | false => simp [List.foldl_append, onces_dedup]
  · simp only [m_s_PosVars_l1, h2, Bool.false_eq_true, if_false]; rfl
def bound (r : TRule) : List ByteArray := (posNames r.Pats).foldl once []
theorem bound_len {r : TRule} (h : nArgs r.Pats ≤ 1048576) : (bound r).length ≤ 1048576 := by
  have h1 := onces_len (posNames r.Pats) []
  have h2 := posNames_len r.Pats
  unfold bound; simp at h1; omega
end Go.Proofs.YtelchcokfcdndaaGreat
namespace Go.Proofs.YtelchcokfcdndaaGreat
open Eng
set_option linter.unusedVariables false
set_option linter.unusedSimpArgs false
theorem idxSl {N : Nat} (hN : 1099000000000 ≤ N) (xs : List ByteArray) (v : ByteArray) (hl : xs.length ≤ 4294967296) : ∃ r, m_sl_Index_Sstring_string N xs v = some r ∧ decide (0 ≤ r) = decide (v ∈ xs) := by
  unfold m_sl_Index_Sstring_string
  have := findloop (m_sl_Index_Sstring_string_l1 N xs v) xs hl (fun x => seq v x) (fun n i x hx _ hc hw => by simp only [m_sl_Index_Sstring_string_l1, hc, if_true, hx, Option.bind_some, hw]) (fun n i hc => by simp only [m_sl_Index_Sstring_string_l1, hc, Bool.false_eq_true, if_false]) N 0 (by omega) (by omega)
  rw [List.drop_zero, show ((0 : Nat) : Int) = 0 from rfl] at this
  refine ⟨_, this, ?_⟩
  rw [find_any, Bool.eq_iff_iff, List.any_eq_true, decide_eq_true_eq]
  simp only [seq_eq, decide_eq_true_eq]
  constructor
  · rintro ⟨x, hx, rfl⟩; exact hx
  · intro h; exact ⟨v, h, rfl⟩
theorem hasSl {N : Nat} (hN : 1099000000000 ≤ N) (xs : List ByteArray) (v : ByteArray) (hl : xs.length ≤ 4294967296) : m_sl_Contains_Sstring_string N xs v = some (decide (v ∈ xs)) := by
  unfold m_sl_Contains_Sstring_string
  obtain ⟨r, h1, h2⟩ := idxSl hN xs v hl
  rw [h1, Option.bind_some, h2]
theorem addOnce {N : Nat} (hN : 1099000000000 ≤ N) (s : List ByteArray) (v : ByteArray) (hl : s.length ≤ 4294967295) : m_i_addOnce N s v = some (once s v) := by
  unfold m_i_addOnce once
  rw [hasSl hN s v (by omega), Option.bind_some]
  by_cases h : v ∈ s
  · simp [h]
  · simp only [h, decide_false, Bool.false_eq_true, if_false, app_ok (show s.length + [v].length ≤ 4294967296 by simp; omega), Option.bind_some]
end Go.Proofs.YtelchcokfcdndaaGreat
namespace Go.Proofs.YtelchcokfcdndaaGreat
open Eng
set_option linter.unusedVariables false
set_option linter.unusedSimpArgs false
theorem addVars_i {N : Nat} (hN : 1099000000000 ≤ N) (l : List TArg) (s : List ByteArray) (hl : s.length + l.length ≤ 4294967290) : m_i_addVars N s l = some ((argVars l).foldl once s) := by
  unfold m_i_addVars
  refine lp' hN l (by omega) (m_i_addVars_l1 N l) (fun t s => some ((argVars t).foldl once s)) (fun s t => s.length + t.length ≤ 4294967290) s hl (fun n s i x t h1 h2 h3 h4 h5 h6 hI ih => ?_) (fun n s i h1 h2 hI => ?_)
  · simp only [List.length_cons] at hI
    simp only [m_i_addVars_l1, h5, if_true, h4, Option.bind_some, h6, argVars, addOnce hN s x.S (by omega)]
    by_cases h : x.K = 1
    · simp only [h, decide_true, if_true, List.foldl_cons]
      exact ih _ (by have := once_len s x.S; omega)
    · simp only [h, decide_false, Bool.false_eq_true, if_false]
      exact ih _ (by omega)
  · simp only [m_i_addVars_l1, h2, Bool.false_eq_true, if_false]; rfl
theorem posVars_i {N : Nat} (hN : 1099000000000 ≤ N) (r : TRule) (hl : r.Pats.length ≤ 1048576) (ha : nArgs r.Pats ≤ 1048576) : m_i_PosVars N r = some ((posNames r.Pats).foldl once []) := by
  unfold m_i_PosVars
  refine lp' hN r.Pats (by omega) (m_i_PosVars_l1 N r) (fun t s => some ((posNames t).foldl once s)) (fun s t => s.length + nArgs t ≤ 4294967290) [] (by simp; omega) (fun n s i x t h1 h2 h3 h4 h5 h6 hI ih => ?_) (fun n s i h1 h2 hI => ?_)
  · have hI' : s.length + (x.Args.length + nArgs t) ≤ 4294967290 := by simpa [nArgs] using hI
    simp only [m_i_PosVars_l1, h5, if_true, h4, Option.bind_some, h6, posNames, addVars_i hN x.Args s (by omega)]
    cases hx : x.Not with
    | true => simpa using ih s (by omega)
    | false =>
      have h1 := argVars_len x.Args
      have h2 := onces_len (argVars x.Args) s
      simpa [List.foldl_append] using ih _ (show ((argVars x.Args).foldl once s).length + nArgs t ≤ 4294967290 by omega)
  · simp only [m_i_PosVars_l1, h2, Bool.false_eq_true, if_false]; rfl
end Go.Proofs.YtelchcokfcdndaaGreat
namespace Go.Proofs.YtelchcokfcdndaaGreat
open Eng
set_option linter.unusedVariables false
set_option linter.unusedSimpArgs false
theorem count_i {N : Nat} (hN : 1099000000000 ≤ N) (r : TRule) (hl : r.Pats.length ≤ 1048576) : m_i_PosCount N r = some (posCount r.Pats : Int) := by
  unfold m_i_PosCount
  have := lp' hN r.Pats (by omega) (m_i_PosCount_l1 N r) (fun t s => some (s + (posCount t : Int))) (fun s t => 0 ≤ s ∧ s + t.length ≤ 1048576) (0 : Int) (by simp; omega) (fun n s i x t h1 h2 h3 h4 h5 h6 hI ih => by
    simp only [List.length_cons] at hI
    simp only [m_i_PosCount_l1, h5, if_true, h4, Option.bind_some, h6, posCount]
    cases hx : x.Not with
    | true => simpa using ih s (by omega)
    | false =>
      rw [wr (n := s + 1) (by omega) (by omega)]
      have := ih (s + 1) (by omega)
      simp only [Bool.not_false, if_true, this, Bool.false_eq_true, if_false]
      congr 1; omega) (fun n s i h1 h2 hI => by simp only [m_i_PosCount_l1, h2, Bool.false_eq_true, if_false, posCount]; simp)
  simpa using this
end Go.Proofs.YtelchcokfcdndaaGreat
namespace Go.Proofs.YtelchcokfcdndaaGreat
open Eng
set_option linter.unusedVariables false
set_option linter.unusedSimpArgs false
def known (vs : List ByteArray) (a : TArg) : Bool := !decide (a.K = 1) || decide (a.S ∈ vs)
theorem known_s {N : Nat} (hN : 1099000000000 ≤ N) (a : TArg) (vs : List ByteArray) (h : vs.length ≤ 4294967296) : m_s_l9Known N a vs = some (known vs a) := by
  unfold m_s_l9Known known
  simp only [hasS hN vs a.S h, Option.bind_some, orNB]
end Go.Proofs.YtelchcokfcdndaaGreat
namespace Go.Proofs.YtelchcokfcdndaaGreat
open Eng
set_option linter.unusedVariables false
set_option linter.unusedSimpArgs false
def patsFrom (c : Nat) : Nat → List TPat → Bool
  | _, [] => true
  | i, p :: t => okPat p && ((p.Not == decide (c ≤ i)) && patsFrom c (i + 1) t)
def okPats (l : List TPat) : Bool := (decide (1 ≤ l.length) && decide (l.length ≤ 6)) && ((decide (1 ≤ posCount l) && decide (posCount l ≤ 3)) && patsFrom (posCount l) 0 l)
theorem pats_i {N : Nat} (hN : 1099000000000 ≤ N) (r : TRule) (hl : r.Pats.length ≤ 1048576) (hp : ∀ p ∈ r.Pats, SzPat p) : m_i_patsOk N r = some (okPats r.Pats) := by
  have hc := count_i hN r hl
  have lp : ∀ (n i : Nat), i ≤ r.Pats.length → r.Pats.length - i < n → m_i_patsOk_l1 N r n i = some (patsFrom (posCount r.Pats) i (r.Pats.drop i)) := by
    intro n
    induction n with
    | zero => intro i _ h; omega
    | succ n ih =>
      intro i hi hn
      by_cases hlt : i < r.Pats.length
      · have c1 : decide ((i : Int) < (r.Pats.length : Int)) = true := decide_eq_true (by omega)
        rw [List.drop_eq_getElem_cons hlt]
        simp only [m_i_patsOk_l1, c1, if_true, idx_nat_lt hlt, Option.bind_some, pat_i hN _ (hp _ (List.getElem_mem hlt)), hc, wr1 i (by omega), ih (i + 1) (by omega) (by omega), patsFrom]
        have hd : decide ((posCount r.Pats : Int) ≤ (i : Int)) = decide (posCount r.Pats ≤ i) := by rw [decide_eq_decide]; omega
        rw [hd]
        cases okPat r.Pats[i] <;> cases r.Pats[i].Not <;> cases decide (posCount r.Pats ≤ i) <;> rfl
      · have c1 : decide ((i : Int) < (r.Pats.length : Int)) = false := decide_eq_false (by omega)
        rw [List.drop_of_length_le (by omega)]
        simp only [m_i_patsOk_l1, c1, Bool.false_eq_true, if_false]; rfl
  have l0 := lp N 0 (by omega) (by omega)
  have h1 : decide ((1 : Int) ≤ (r.Pats.length : Int)) = decide (1 ≤ r.Pats.length) := by rw [decide_eq_decide]; omega
  have h2 : decide ((r.Pats.length : Int) ≤ 6) = decide (r.Pats.length ≤ 6) := by rw [decide_eq_decide]; omega
  have h3 : decide ((1 : Int) ≤ (posCount r.Pats : Int)) = decide (1 ≤ posCount r.Pats) := by rw [decide_eq_decide]; omega
  have h4 : decide ((posCount r.Pats : Int) ≤ 3) = decide (posCount r.Pats ≤ 3) := by rw [decide_eq_decide]; omega
  unfold m_i_patsOk okPats
  simp only [in1, Option.bind_some, hc, h1, h2, h3, h4]
  rw [show m_i_patsOk_l1 N r N 0 = _ from l0, List.drop_zero]
  cases (decide (1 ≤ r.Pats.length) && decide (r.Pats.length ≤ 6)) <;> cases (decide (1 ≤ posCount r.Pats) && decide (posCount r.Pats ≤ 3)) <;> rfl
def patsS : Nat → Bool → List TPat → Bool
  | _, _, [] => true
  | i, b, p :: t => !(decide (2 < i) && !p.Not) && (okPat p && (!(decide (i = 0) && p.Not) && (!((decide (0 < i) && b) && !p.Not) && patsS (i + 1) p.Not t)))
theorem allNot : ∀ (l : List TPat) (i : Nat), 0 < i → patsS i true l = (l.all okPat && l.all fun p => p.Not)
  | [], i, h => rfl
  | p :: t, i, h => by
    have h1 : decide (i = 0) = false := decide_eq_false (by omega)
    have h2 : decide (0 < i) = true := decide_eq_true h
    unfold patsS
    simp only [h1, h2, Bool.false_and, Bool.not_false, Bool.true_and, List.all_cons]
    cases hp : p.Not with
    | false => cases okPat p <;> simp
    | true =>
      rw [allNot t (i + 1) (by omega)]
      cases okPat p <;> simp
theorem fromNot (c : Nat) : ∀ (l : List TPat) (i : Nat), c ≤ i → patsFrom c i l = (l.all okPat && l.all fun p => p.Not)
  | [], i, h => rfl
  | p :: t, i, h => by
    have h1 : decide (c ≤ i) = true := decide_eq_true h
    unfold patsFrom
    rw [fromNot c t (i + 1) (by omega), h1]
    simp only [List.all_cons]
    cases okPat p <;> cases p.Not <;> simp
theorem posCount_allNot : ∀ (l : List TPat), (l.all fun p => p.Not) = true ↔ posCount l = 0
  | [] => by simp [posCount]
  | p :: t => by
    unfold posCount
    have := posCount_allNot t
    cases hp : p.Not with
    | true => simp [hp]; simpa using this
    | false => simp [hp]
theorem patsS_iff : ∀ (l : List TPat) (i : Nat) (b : Bool), (0 < i → b = false) → i ≤ 3 → (patsS i b l = true ↔ (i = 0 → l = [] ∨ 0 < posCount l) ∧ i + posCount l ≤ 3 ∧ patsFrom (i + posCount l) i l = true)
  | [], i, b, hb, hi => by simp [patsS, posCount, patsFrom, hi]
  | p :: t, i, b, hb, hi => by
    have hb' : (decide (0 < i) && b) = false := by
      by_cases h : 0 < i
      · simp [hb h]
      · simp [h]
    unfold patsS patsFrom posCount
    rw [hb']
    cases hp : p.Not with
    | true =>
      simp only [Bool.not_true, Bool.and_false, Bool.not_false, Bool.true_and, if_true, Bool.and_true, Bool.false_and]
      by_cases h0 : i = 0
      · subst h0
        simp only [decide_true, Bool.not_true, Bool.and_false, Bool.false_and, Bool.false_eq_true, false_iff]
        rintro ⟨h1, h2, h3⟩
        have h1 : 0 < posCount t := by simpa using h1
        simp only [Bool.and_eq_true, beq_iff_eq] at h3
        have := h3.2.1
        simp at this
        omega
      · rw [decide_eq_false h0, allNot t (i + 1) (by omega)]
        simp only [Bool.not_false, Bool.true_and, Bool.and_eq_true, beq_iff_eq, h0, false_implies, true_and]
        constructor
        · rintro ⟨h1, h2, h3⟩
          have h4 := (posCount_allNot t).1 h3
          rw [h4]
          refine ⟨by omega, h1, by simp, ?_⟩
          rw [fromNot _ t (i + 1) (by omega), h2, h3]; rfl
        · rintro ⟨h1, h2, h3, h4⟩
          have h5 : i + posCount t ≤ i := by simpa using h3
          have h6 : posCount t = 0 := by omega
          exact ⟨h2, by
            rw [fromNot _ t (i + 1) (by omega)] at h4
            simp only [Bool.and_eq_true] at h4
            exact h4.1, (posCount_allNot t).2 h6⟩
    | false =>
      simp only [Bool.not_false, Bool.and_true, Bool.and_false, Bool.true_and, Bool.false_eq_true, if_false, Bool.and_eq_true, beq_iff_eq]
      have e1 : decide (i + (posCount t + 1) ≤ i) = false := decide_eq_false (by omega)
      rw [e1]
      have ar : i + (posCount t + 1) = i + 1 + posCount t := by omega
      by_cases h2 : 2 < i
      · simp only [h2, decide_true, Bool.not_true, Bool.false_eq_true, false_and, false_iff]
        rintro ⟨_, h3, _⟩; omega
      · have := patsS_iff t (i + 1) false (fun _ => rfl) (by omega)
        simp only [h2, decide_false, Bool.not_false, true_and]
        rw [this, ar]
        constructor
        · rintro ⟨h3, _, h4, h5⟩
          refine ⟨fun _ => .inr (by omega), h4, h3, ?_⟩
          first | exact ⟨rfl, h5⟩ | exact h5
        · rintro ⟨_, h4, h3, h5⟩
          refine ⟨h3, by omega, h4, ?_⟩
          first | exact h5.2 | exact h5
theorem okPats_eq (l : List TPat) : (patsS 0 false l && (decide (1 ≤ l.length) && decide (l.length ≤ 6))) = okPats l := by
  have := patsS_iff l 0 false (by simp) (by omega)
  simp only [true_implies, Nat.zero_add] at this
  rw [Bool.eq_iff_iff]
  unfold okPats
  simp only [Bool.and_eq_true, decide_eq_true_eq, this]
  constructor
  · rintro ⟨⟨h1, h2, h3⟩, h4, h5⟩
    have h1 := h1.resolve_left (by rintro rfl; simp at h4)
    exact ⟨⟨h4, h5⟩, ⟨by omega, h2⟩, h3⟩
  · rintro ⟨⟨h4, h5⟩, ⟨h1, h2⟩, h3⟩
    exact ⟨⟨.inr (by omega), h2, h3⟩, h4, h5⟩
theorem pats_s {N : Nat} (hN : 1099000000000 ≤ N) (l : List TPat) (hl : l.length ≤ 1048576) (hp : ∀ p ∈ l, SzPat p) : m_s_l9Pats N l = some (okPats l) := by
  have lp : ∀ (n i : Nat) (b : Bool), i ≤ l.length → l.length - i < n → (∀ (h : i - 1 < l.length), 0 < i → l[i - 1].Not = b) → m_s_l9Pats_l1 N l n i = some (patsS i b (l.drop i) && (decide (1 ≤ l.length) && decide (l.length ≤ 6))) := by
    intro n
    induction n with
    | zero => intro i b _ h; omega
    | succ n ih =>
      intro i b hi hn hb
      by_cases hlt : i < l.length
      · have c1 : decide ((i : Int) < (l.length : Int)) = true := decide_eq_true (by omega)
        have h2 : decide ((2 : Int) < (i : Int)) = decide (2 < i) := by rw [decide_eq_decide]; omega
        have h3 : decide ((i : Int) = 0) = decide (i = 0) := by rw [decide_eq_decide]; omega
        have h4 : decide ((0 : Int) < (i : Int)) = decide (0 < i) := by rw [decide_eq_decide]; omega
        rw [List.drop_eq_getElem_cons hlt]
        simp only [m_s_l9Pats_l1, c1, if_true, idx_nat_lt hlt, Option.bind_some, pat_s hN _ (hp _ (List.getElem_mem hlt)), h2, h3, h4, wr1 i (by omega), ih (i + 1) l[i].Not (by omega) (by omega) (fun h _ => rfl), patsS]
        by_cases h0 : 0 < i
        · have e1 : IntKind.i64.wrap ((i : Int) - 1) = ((i - 1 : Nat) : Int) := by rw [wr (by omega) (by omega)]; omega
          have e2 := hb (by omega) h0
          have e3 : decide (i = 0) = false := decide_eq_false (by omega)
          simp only [h0, decide_true, if_true, e1, idx_nat_lt (show i - 1 < l.length by omega), Option.bind_some, e2, e3]
          cases decide (2 < i) <;> cases l[i].Not <;> cases okPat l[i] <;> cases b <;> simp
        · have e3 : decide (i = 0) = true := decide_eq_true (by omega)
          simp only [h0, decide_false, Bool.false_eq_true, if_false, Option.bind_some, e3]
          cases decide (2 < i) <;> cases l[i].Not <;> cases okPat l[i] <;> simp
      · have c1 : decide ((i : Int) < (l.length : Int)) = false := decide_eq_false (by omega)
        have h1 : decide ((1 : Int) ≤ (l.length : Int)) = decide (1 ≤ l.length) := by rw [decide_eq_decide]; omega
        have h2 : decide ((l.length : Int) ≤ 6) = decide (l.length ≤ 6) := by rw [decide_eq_decide]; omega
        rw [List.drop_of_length_le (by omega)]
        simp only [m_s_l9Pats_l1, c1, Bool.false_eq_true, if_false, in0, Option.bind_some, h1, h2]; rfl
  unfold m_s_l9Pats
  rw [show m_s_l9Pats_l1 N l N 0 = _ from lp N 0 false (by omega) (by omega) (fun _ h => by omega), List.drop_zero, okPats_eq]
def okCondK (vs : List ByteArray) (c : TCond) : Bool := okCond c && (known vs c.L && known vs c.R)
theorem conds_s {N : Nat} (hN : 1099000000000 ≤ N) (l : List TCond) (vs : List ByteArray) (hl : l.length ≤ 1048576) (h : ∀ c ∈ l, SzCond c) (hv : vs.length ≤ 4294967296) : m_s_l9Conds N l vs = some (l.all (okCondK vs) && decide (l.length ≤ 6)) := by
  have h2 : decide ((l.length : Int) ≤ 6) = decide (l.length ≤ 6) := by rw [decide_eq_decide]; omega
  unfold m_s_l9Conds
  refine lp0 hN l (by omega) (m_s_l9Conds_l1 N l vs) (fun t => some (t.all (okCondK vs) && decide (l.length ≤ 6))) (fun n i x t g1 g2 g3 g4 g5 g6 g7 => ?_) (fun n i g1 g2 => ?_)
  · simp only [m_s_l9Conds_l1, g5, if_true, g4, Option.bind_some, cond_s hN x (h x g2), known_s hN _ vs hv, g6, g7, List.all_cons, okCondK]
    cases okCond x <;> cases known vs x.L <;> cases known vs x.R <;> simp
  · simp only [m_s_l9Conds_l1, g2, Bool.false_eq_true, if_false, h2]; rfl
def okExprK (vs : List ByteArray) (e : TExpr) : Bool := known vs e.L && known vs e.R
def okActK (vs : List ByteArray) (pos : Nat) (a : TAct) : Bool := okAct a && (!(decide (a.Kind = 2) && decide ((pos : Int) ≤ a.N)) && a.Args.all (okExprK vs))
theorem acts_s {N : Nat} (hN : 1099000000000 ≤ N) (l : List TAct) (vs : List ByteArray) (pos : Nat) (hl : l.length ≤ 1048576) (h : ∀ c ∈ l, SzAct c) (hv : vs.length ≤ 4294967296) : m_s_l9Acts N l vs pos = some (l.all (okActK vs pos) && (decide (1 ≤ l.length) && decide (l.length ≤ 6))) := by
  have h1 : decide ((1 : Int) ≤ (l.length : Int)) = decide (1 ≤ l.length) := by rw [decide_eq_decide]; omega
  have h2 : decide ((l.length : Int) ≤ 6) = decide (l.length ≤ 6) := by rw [decide_eq_decide]; omega
  unfold m_s_l9Acts
  refine lp0 hN l (by omega) (m_s_l9Acts_l1 N l vs pos) (fun t => some (t.all (okActK vs pos) && (decide (1 ≤ l.length) && decide (l.length ≤ 6)))) (fun n i x t g1 g2 g3 g4 g5 g6 g7 => ?_) (fun n i g1 g2 => ?_)
  · have hx := h x g2
    have inner := lp0 hN x.Args (by have := hx.2.2.1; omega) (m_s_l9Acts_l2 N l vs i (m_s_l9Acts_l1 N l vs pos n)) (fun u => some (u.all (okExprK vs) && (t.all (okActK vs pos) && (decide (1 ≤ l.length) && decide (l.length ≤ 6))))) (fun n' i' y u k1 k2 k3 k4 k5 k6 k7 => by
      simp only [m_s_l9Acts_l2, g4, Option.bind_some, k5, if_true, k4, known_s hN _ vs hv, k6, k7, List.all_cons, okExprK]
      cases known vs y.L <;> cases known vs y.R <;> simp) (fun n' i' k1 k2 => by
      simp only [m_s_l9Acts_l2, g4, Option.bind_some, k2, Bool.false_eq_true, if_false, g6, g7, List.all_nil, Bool.true_and])
    simp only [m_s_l9Acts_l1, g5, if_true, g4, Option.bind_some, act_s hN x hx, inner, List.all_cons, okActK]
    cases okAct x <;> cases decide (x.Kind = 2) <;> cases decide ((pos : Int) ≤ x.N) <;> simp [Bool.and_assoc]
  · simp only [m_s_l9Acts_l1, g2, Bool.false_eq_true, if_false, in0, Option.bind_some, h1, h2]; rfl
def SzRule (r : TRule) : Prop := r.Name.size ≤ 1048576 ∧ (r.Pats.length ≤ 1048576 ∧ ∀ p ∈ r.Pats, SzPat p) ∧ (r.Conds.length ≤ 1048576 ∧ ∀ c ∈ r.Conds, SzCond c) ∧ (r.Acts.length ≤ 1048576 ∧ ∀ a ∈ r.Acts, SzAct a) ∧ nArgs r.Pats ≤ 1048576 ∧ (r.Acts.map fun a => a.Args.length).sum ≤ 1048576
def okRule (r : TRule) : Bool := okName r.Name && ((decide (-100 ≤ r.Sal) && decide (r.Sal ≤ 100)) && (okPats r.Pats && ((r.Conds.all (okCondK (bound r)) && decide (r.Conds.length ≤ 6)) && (r.Acts.all (okActK (bound r) (posCount r.Pats)) && (decide (1 ≤ r.Acts.length) && decide (r.Acts.length ≤ 6))))))
theorem rule_s {N : Nat} (hN : 1099000000000 ≤ N) (r : TRule) (h : SzRule r) : m_s_RuleOk N r = some (okRule r) := by
  obtain ⟨h1, ⟨h2, h2'⟩, ⟨h3, h3'⟩, ⟨h4, h4'⟩, h5, h6⟩ := h
  have hb := bound_len h5
  unfold m_s_RuleOk okRule
  have e1 := conds_s hN _ (bound r) h3 h3' (by omega)
  have e2 := acts_s hN _ (bound r) (posCount r.Pats) h4 h4' (by omega)
  have e0 : m_s_PosVars N r = some (bound r) := posVars_s hN r h2 h5 (fun p hp => (h2' p hp).2.1)
  simp only [e0, Option.bind_some, okName_s hN _ h1, in0, pats_s hN _ h2 h2', e1, count_s hN r h2, e2, andS, Bool.and_assoc]
def condNames : List TCond → List ByteArray
  | [] => []
  | c :: t => argVars [c.L, c.R] ++ condNames t
def exprNames : List TExpr → List ByteArray
  | [] => []
  | e :: t => argVars [e.L, e.R] ++ exprNames t
def actNames : List TAct → List ByteArray
  | [] => []
  | a :: t => exprNames a.Args ++ actNames t
theorem condNames_len : ∀ (l : List TCond), (condNames l).length ≤ 2 * l.length
  | [] => by simp [condNames]
  | c :: t => by have := condNames_len t; have := argVars_len [c.L, c.R]; simp [condNames] at *; omega
theorem exprNames_len : ∀ (l : List TExpr), (exprNames l).length ≤ 2 * l.length
  | [] => by simp [exprNames]
  | c :: t => by have := exprNames_len t; have := argVars_len [c.L, c.R]; simp [exprNames] at *; omega
def nExprs (l : List TAct) : Nat := (l.map fun a => a.Args.length).sum
theorem actNames_len : ∀ (l : List TAct), (actNames l).length ≤ 2 * nExprs l
  | [] => by simp [actNames, nExprs]
  | a :: t => by have := actNames_len t; have := exprNames_len a.Args; simp [actNames, nExprs] at *; omega
theorem used3 {N : Nat} (hN : 1099000000000 ≤ N) (x : TAct) (s4 : Nat) (K : List ByteArray → Int → Option (List ByteArray)) (l : List TAct) (g : List ByteArray → Option (List ByteArray)) (s : List ByteArray) (hl : s.length + 2 * x.Args.length ≤ 4294967280) (hx : x.Args.length ≤ 1048576) (h4 : s4 ≤ 1048576)
    (hK : ∀ s', s'.length ≤ s.length + 2 * x.Args.length → K s' ((s4 + 1 : Nat) : Int) = g s') : m_i_usedVars_l3 N s4 K x N s 0 = g ((exprNames x.Args).foldl once s) := by
  refine lp' hN x.Args (by omega) (m_i_usedVars_l3 N s4 K x) (fun t s => g ((exprNames t).foldl once s)) (fun u t => u.length + 2 * t.length ≤ s.length + 2 * x.Args.length) s (by omega) (fun n u i y t h1 h2 h3 h4' h5 h6 hI ih => ?_) (fun n u i h1 h2 hI => ?_)
  · simp only [List.length_cons] at hI
    have hv := onces_len (argVars [y.L, y.R]) u
    have ha := argVars_len [y.L, y.R]
    simp only [List.length_cons, List.length_nil] at ha
    simp only [m_i_usedVars_l3, h5, if_true, h4', Option.bind_some, addVars_i hN [y.L, y.R] u (by simp; omega), h6, exprNames, List.foldl_append]
    exact ih _ (by omega)
  · simp only [m_i_usedVars_l3, h2, Bool.false_eq_true, if_false, wr1 s4 (by omega), exprNames]
    exact hK u (by simpa using hI)
theorem used_i {N : Nat} (hN : 1099000000000 ≤ N) (r : TRule) (hc : r.Conds.length ≤ 1048576) (ha : r.Acts.length ≤ 1048576) (hx : ∀ a ∈ r.Acts, a.Args.length ≤ 1048576) (he : nExprs r.Acts ≤ 1048576) : m_i_usedVars N r = some ((condNames r.Conds ++ actNames r.Acts).foldl once []) := by
  unfold m_i_usedVars
  have a2 : ∀ s : List ByteArray, s.length ≤ 4194304 → m_i_usedVars_l2 N r N s 0 = some ((actNames r.Acts).foldl once s) := fun s hs =>
    lp' hN r.Acts (by omega) (m_i_usedVars_l2 N r) (fun t s => some ((actNames t).foldl once s)) (fun s t => s.length + 2 * nExprs t ≤ 16777216) s (by omega) (fun n u i x t h1 h2 h3 h4 h5 h6 hI ih => by
      have hI' : u.length + 2 * (x.Args.length + nExprs t) ≤ 16777216 := by simpa [nExprs] using hI
      simp only [m_i_usedVars_l2, h5, if_true, h4, Option.bind_some, actNames, List.foldl_append]
      exact used3 hN x i (m_i_usedVars_l2 N r n) r.Acts (fun s' => some ((actNames t).foldl once s')) u (by omega) (hx x h2) (by omega) (fun s' hs' => ih s' (by omega))) (fun n u i h1 h2 hI => by simp only [m_i_usedVars_l2, h2, Bool.false_eq_true, if_false]; rfl)
  refine lp' hN r.Conds (by omega) (m_i_usedVars_l1 N r) (fun t s => some ((condNames t ++ actNames r.Acts).foldl once s)) (fun s t => s.length + 2 * t.length ≤ 4194304) [] (by simp; omega) (fun n u i x t h1 h2 h3 h4 h5 h6 hI ih => ?_) (fun n u i h1 h2 hI => ?_)
  · simp only [List.length_cons] at hI
    have hv := onces_len (argVars [x.L, x.R]) u
    have ha := argVars_len [x.L, x.R]
    simp only [List.length_cons, List.length_nil] at ha
    simp only [m_i_usedVars_l1, h5, if_true, h4, Option.bind_some, addVars_i hN [x.L, x.R] u (by simp; omega), h6, condNames, List.append_assoc]
    rw [List.foldl_append]
    exact ih _ (by omega)
  · simp only [m_i_usedVars_l1, h2, Bool.false_eq_true, if_false, condNames, List.nil_append]
    exact a2 u (by simpa using hI)
theorem known_iff (vs : List ByteArray) (a b : TArg) : (known vs a && known vs b) = true ↔ ∀ x ∈ argVars [a, b], x ∈ vs := by
  unfold known
  simp only [mem_argVars, List.mem_cons, List.not_mem_nil, or_false, Bool.and_eq_true, Bool.or_eq_true, Bool.not_eq_true', decide_eq_false_iff_not, decide_eq_true_eq]
  constructor
  · rintro ⟨h1, h2⟩ x ⟨c, rfl | rfl, h3, rfl⟩
    · exact h1.resolve_left (fun h => h h3)
    · exact h2.resolve_left (fun h => h h3)
  · intro h
    refine ⟨?_, ?_⟩
    · by_cases h1 : a.K = 1
      · exact .inr (h _ ⟨a, .inl rfl, h1, rfl⟩)
      · exact .inl h1
    · by_cases h1 : b.K = 1
      · exact .inr (h _ ⟨b, .inr rfl, h1, rfl⟩)
      · exact .inl h1
theorem condNames_iff (vs : List ByteArray) : ∀ (l : List TCond), (∀ x ∈ condNames l, x ∈ vs) ↔ ∀ c ∈ l, (known vs c.L && known vs c.R) = true
  | [] => by simp [condNames]
  | c :: t => by
    simp only [condNames, List.mem_append, or_imp, forall_and, condNames_iff vs t, List.mem_cons, forall_eq, known_iff]
theorem exprNames_iff (vs : List ByteArray) : ∀ (l : List TExpr), (∀ x ∈ exprNames l, x ∈ vs) ↔ ∀ c ∈ l, okExprK vs c = true
  | [] => by simp [exprNames]
  | c :: t => by
    simp only [exprNames, List.mem_append, or_imp, forall_and, exprNames_iff vs t, List.mem_cons, forall_eq, okExprK, known_iff]
theorem actNames_iff (vs : List ByteArray) : ∀ (l : List TAct), (∀ x ∈ actNames l, x ∈ vs) ↔ ∀ a ∈ l, a.Args.all (okExprK vs) = true
  | [] => by simp [actNames]
  | c :: t => by
    simp only [actNames, List.mem_append, or_imp, forall_and, actNames_iff vs t, List.mem_cons, forall_eq, exprNames_iff, List.all_eq_true]
theorem rule_i {N : Nat} (hN : 1099000000000 ≤ N) (r : TRule) (h : SzRule r) : m_i_RuleOk N r = some (okRule r) := by
  obtain ⟨h1, ⟨h2, h2'⟩, ⟨h3, h3'⟩, ⟨h4, h4'⟩, h5, h6⟩ := h
  have hb := bound_len h5
  have e0 : m_i_PosVars N r = some (bound r) := posVars_i hN r h2 h5
  have e1 := used_i hN r h3 h4 (fun a ha => (h4' a ha).2.2.1) h6
  have ul : ((condNames r.Conds ++ actNames r.Acts).foldl once []).length ≤ 4294967296 := by
    have a1 := onces_len (condNames r.Conds ++ actNames r.Acts) []
    have a2 := condNames_len r.Conds
    have a3 := actNames_len r.Acts
    have a4 : nExprs r.Acts ≤ 1048576 := h6
    simp only [List.length_append, List.length_nil] at a1; omega
  have l3 : m_i_RuleOk_l3 N (bound r) ((condNames r.Conds ++ actNames r.Acts).foldl once []) N 0 = some (((condNames r.Conds ++ actNames r.Acts).foldl once []).all fun x => decide (x ∈ bound r)) :=
    lp0 hN _ ul (m_i_RuleOk_l3 N (bound r) _) (fun t => some (t.all fun x => decide (x ∈ bound r))) (fun n i x t g1 g2 g3 g4 g5 g6 g7 => by
      simp only [m_i_RuleOk_l3, g5, if_true, g4, Option.bind_some, hasSl hN _ x (show (bound r).length ≤ 4294967296 by omega), g6, g7, List.all_cons]
      cases decide (x ∈ bound r) <;> rfl) (fun n i g1 g2 => by simp only [m_i_RuleOk_l3, g2, Bool.false_eq_true, if_false]; rfl)
  have l2 : m_i_RuleOk_l2 N r N 0 = some ((r.Acts.all fun a => okAct a && !(decide (a.Kind = 2) && decide ((posCount r.Pats : Int) ≤ a.N))) && ((condNames r.Conds ++ actNames r.Acts).foldl once []).all fun x => decide (x ∈ bound r)) :=
    lp0 hN r.Acts (by omega) (m_i_RuleOk_l2 N r) (fun t => some ((t.all fun a => okAct a && !(decide (a.Kind = 2) && decide ((posCount r.Pats : Int) ≤ a.N))) && ((condNames r.Conds ++ actNames r.Acts).foldl once []).all fun x => decide (x ∈ bound r))) (fun n i x t g1 g2 g3 g4 g5 g6 g7 => by
      simp only [m_i_RuleOk_l2, g5, if_true, g4, Option.bind_some, act_i hN x (h4' x g2), count_i hN r h2, g6, g7, List.all_cons]
      cases okAct x <;> cases decide (x.Kind = 2) <;> cases decide ((posCount r.Pats : Int) ≤ x.N) <;> simp) (fun n i g1 g2 => by
      simp only [m_i_RuleOk_l2, g2, Bool.false_eq_true, if_false, e0, e1, Option.bind_some, l3]; rfl)
  have l1 : m_i_RuleOk_l1 N r N 0 = some (r.Conds.all okCond && ((r.Acts.all fun a => okAct a && !(decide (a.Kind = 2) && decide ((posCount r.Pats : Int) ≤ a.N))) && ((condNames r.Conds ++ actNames r.Acts).foldl once []).all fun x => decide (x ∈ bound r))) :=
    lp0 hN r.Conds (by omega) (m_i_RuleOk_l1 N r) (fun t => some (t.all okCond && ((r.Acts.all fun a => okAct a && !(decide (a.Kind = 2) && decide ((posCount r.Pats : Int) ≤ a.N))) && ((condNames r.Conds ++ actNames r.Acts).foldl once []).all fun x => decide (x ∈ bound r)))) (fun n i x t g1 g2 g3 g4 g5 g6 g7 => by
      simp only [m_i_RuleOk_l1, g5, if_true, g4, Option.bind_some, cond_i hN x (h3' x g2), g6, g7, List.all_cons]
      cases okCond x <;> simp) (fun n i g1 g2 => by
      simp only [m_i_RuleOk_l1, g2, Bool.false_eq_true, if_false, l2]; rfl)
  have d1 : decide ((6 : Int) < (r.Conds.length : Int)) = !decide (r.Conds.length ≤ 6) := by rw [← decide_not, decide_eq_decide]; omega
  have d2 : decide ((1 : Int) ≤ (r.Acts.length : Int)) = decide (1 ≤ r.Acts.length) := by rw [decide_eq_decide]; omega
  have d3 : decide ((r.Acts.length : Int) ≤ 6) = decide (r.Acts.length ≤ 6) := by rw [decide_eq_decide]; omega
  have key : (r.Conds.all okCond && ((r.Acts.all fun a => okAct a && !(decide (a.Kind = 2) && decide ((posCount r.Pats : Int) ≤ a.N))) && ((condNames r.Conds ++ actNames r.Acts).foldl once []).all fun x => decide (x ∈ bound r))) = (r.Conds.all (okCondK (bound r)) && r.Acts.all (okActK (bound r) (posCount r.Pats))) := by
    rw [Bool.eq_iff_iff]
    have k1 : (((condNames r.Conds ++ actNames r.Acts).foldl once []).all fun x => decide (x ∈ bound r)) = true ↔ (∀ c ∈ r.Conds, (known (bound r) c.L && known (bound r) c.R) = true) ∧ ∀ a ∈ r.Acts, a.Args.all (okExprK (bound r)) = true := by
      rw [← condNames_iff, ← actNames_iff]
      simp only [List.all_eq_true, decide_eq_true_eq, mem_onces, List.not_mem_nil, false_or, List.mem_append, or_imp, forall_and]
    rw [Bool.and_eq_true, Bool.and_eq_true, Bool.and_eq_true, k1]
    simp only [List.all_eq_true, okCondK, okActK, Bool.and_eq_true, forall_and, and_imp]
    constructor
    · rintro ⟨a1, ⟨a2, a3⟩, ⟨a4, a5⟩, a6⟩; exact ⟨⟨a1, a4, a5⟩, a2, a3, a6⟩
    · rintro ⟨⟨a1, a4, a5⟩, a2, a3, a6⟩; exact ⟨a1, ⟨a2, a3⟩, ⟨a4, a5⟩, a6⟩
  unfold m_i_RuleOk okRule
  simp only [okName_i hN _ h1, Option.bind_some, in1, pats_i hN r h2 h2', d1, d2, d3, l1, key]
  generalize okName r.Name = a; generalize okPats r.Pats = b; generalize (decide (-100 ≤ r.Sal) && decide (r.Sal ≤ 100)) = c; generalize decide (r.Conds.length ≤ 6) = d; generalize (decide (1 ≤ r.Acts.length) && decide (r.Acts.length ≤ 6)) = e
  generalize r.Conds.all (okCondK (bound r)) = f; generalize r.Acts.all (okActK (bound r) (posCount r.Pats)) = g
  cases a <;> cases b <;> cases c <;> cases d <;> cases e <;> cases f <;> cases g <;> rfl
end Go.Proofs.YtelchcokfcdndaaGreat
namespace Go.Proofs.YtelchcokfcdndaaGreat
open Eng
set_option linter.unusedVariables false
set_option linter.unusedSimpArgs false
theorem patsFrom_filt {c : Nat} : ∀ (l : List TPat) (i : Nat), patsFrom c i l = true → l.filter (fun x => !x.Not) = l.take (c - i)
  | [], i, _ => by simp
  | p :: t, i, h => by
    unfold patsFrom at h
    simp only [Bool.and_eq_true, beq_iff_eq] at h
    have h1 := h.2.1
    have h2 := patsFrom_filt t (i + 1) h.2.2
    by_cases hc : c ≤ i
    · rw [decide_eq_true hc] at h1
      have e1 : c - i = 0 := by omega
      have e2 : c - (i + 1) = 0 := by omega
      rw [e1, List.take_zero, List.filter_cons, h1]
      rw [e2, List.take_zero] at h2
      simpa using h2
    · rw [decide_eq_false hc] at h1
      obtain ⟨k, hk⟩ : ∃ k, c - i = k + 1 := ⟨c - i - 1, by omega⟩
      have e2 : c - (i + 1) = k := by omega
      rw [hk, List.take_succ_cons, List.filter_cons, h1, ← e2, ← h2]
      simp
theorem okPats_filt {l : List TPat} (h : okPats l = true) : l.filter (fun x => !x.Not) = l.take (posCount l) := by
  unfold okPats at h
  simp only [Bool.and_eq_true] at h
  have := patsFrom_filt l 0 h.2.2
  simpa using this
end Go.Proofs.YtelchcokfcdndaaGreat
namespace Go.Proofs.YtelchcokfcdndaaGreat
open Eng
set_option linter.unusedVariables false
set_option linter.unusedSimpArgs false
def okFact (f : TFact) : Bool := okName f.Kind && (f.Fields.all okVal && decide (f.Fields.length ≤ 5))
def SzFact (f : TFact) : Prop := f.Kind.size ≤ 1048576 ∧ f.Fields.length ≤ 1048576 ∧ ∀ v ∈ f.Fields, v.S.size ≤ 1048576
def SzStore (s : TStore) : Prop := s.Items.length ≤ 1048576 ∧ ∀ x ∈ s.Items, SzFact x.F
def lastBelow (done : List TItem) (v : Int) : Bool := match done.getLast? with | none => true | some y => decide (y.Id < v)
def itemsOk (nx : Int) : List TItem → List TItem → Bool
  | _, [] => true
  | done, x :: t => (okFact x.F && (decide (1 ≤ x.Id) && decide (x.Id < nx))) && (lastBelow done x.Id && ((done.all fun y => !decide (x.F = y.F)) && itemsOk nx (done ++ [x]) t))
def okStore (s : TStore) : Bool := (decide (1 ≤ s.Next) && decide (s.Next ≤ 1000000)) && (decide (s.Items.length ≤ 40) && itemsOk s.Next [] s.Items)
theorem lastTake {α : Type} {xs : List α} {i : Nat} (h : 0 < i) (h' : i ≤ xs.length) : (xs.take i).getLast? = some (xs[i - 1]'(by omega)) := by
  rw [List.getLast?_eq_getElem?, List.length_take, Nat.min_eq_left h', List.getElem?_take_of_lt (by omega), List.getElem?_eq_getElem (by omega)]
end Go.Proofs.YtelchcokfcdndaaGreat
namespace Go.Proofs.YtelchcokfcdndaaGreat
open Eng
set_option linter.unusedVariables false
set_option linter.unusedSimpArgs false
theorem okRule_pats {r : TRule} (h : okRule r = true) : okPats r.Pats = true := by
  unfold okRule at h
  simp only [Bool.and_eq_true] at h
  exact h.2.2.1
theorem okRule_pos {r : TRule} (h : okRule r = true) : pos r.Pats = r.Pats.take (posCount r.Pats) := okPats_filt (okRule_pats h)
theorem sumArgs_le {B : Nat} : ∀ {l : List TPat}, (∀ p ∈ l, p.Args.length ≤ B) → sumArgs l ≤ l.length * B
  | [], _ => by simp [sumArgs]
  | p :: t, h => by
    have h1 := sumArgs_le (l := t) fun q hq => h q (by simp [hq])
    have h2 := h p (by simp)
    rw [sumArgs_cons, List.length_cons, Nat.succ_mul]; omega
theorem patsFrom_all' {c : Nat} : ∀ (l : List TPat) (i : Nat), patsFrom c i l = true → ∀ p ∈ l, okPat p = true
  | [], _, _, p, hp => by cases hp
  | x :: t, i, h, p, hp => by
    unfold patsFrom at h
    simp only [Bool.and_eq_true] at h
    rcases List.mem_cons.1 hp with rfl | hp
    · exact h.1
    · exact patsFrom_all' t _ h.2.2 p hp
theorem ok_rows {r : TRule} {s : TStore} (hr : okRule r = true) (hs : okStore s = true) : SzRows r s := by
  have hp := okRule_pats hr
  unfold okRule at hr
  simp only [Bool.and_eq_true, decide_eq_true_eq] at hr
  have hc := hr.2.2.2.1.2
  unfold okPats at hp
  simp only [Bool.and_eq_true, decide_eq_true_eq] at hp
  obtain ⟨⟨_, p1⟩, ⟨_, p2⟩, p3⟩ := hp
  have pa : ∀ p ∈ r.Pats, p.Args.length ≤ 5 := fun p hp => by
    have := patsFrom_all' _ _ p3 p hp
    unfold okPat at this
    simp only [Bool.and_eq_true, decide_eq_true_eq] at this
    omega
  have sa := sumArgs_le pa
  unfold okStore at hs
  simp only [Bool.and_eq_true, decide_eq_true_eq] at hs
  have xl := hs.2.1
  refine ⟨by omega, fun p hp => by have := pa p hp; omega, by omega, by omega, by omega, ?_⟩
  exact Nat.le_trans (Nat.pow_le_pow_left xl _) (Nat.le_trans (Nat.pow_le_pow_right (by omega) p2) (by decide))
def matchesOf (r : TRule) (s : TStore) : List TMatch := if (okRule r && okStore s) = true then rowsOf r s.Items else []
end Go.Proofs.YtelchcokfcdndaaGreat
namespace Go.Proofs.YtelchcokfcdndaaGreat
open Eng
set_option linter.unusedVariables false
set_option linter.unusedSimpArgs false
theorem ok_rowsOf {r : TRule} {s : TStore} (hr : okRule r = true) (hs : okStore s = true) : (rowsOf r s.Items).length ≤ 64000 := by
  have hp := okRule_pats hr
  unfold okPats at hp
  simp only [Bool.and_eq_true, decide_eq_true_eq] at hp
  obtain ⟨_, ⟨_, p2⟩, _⟩ := hp
  unfold okStore at hs
  simp only [Bool.and_eq_true, decide_eq_true_eq] at hs
  have xl := hs.2.1
  have h1 := rowsP_len (finR_len r s.Items) s.Items (r.Pats.take (posCount r.Pats)) [] []
  rw [List.length_take, Nat.min_eq_left (posCount_le r.Pats)] at h1
  exact Nat.le_trans h1 (Nat.le_trans (Nat.pow_le_pow_left xl _) (Nat.le_trans (Nat.pow_le_pow_right (by omega) p2) (by decide)))
end Go.Proofs.YtelchcokfcdndaaGreat
namespace Go.Proofs.YtelchcokfcdndaaGreat
open Eng
set_option linter.unusedVariables false
set_option linter.unusedSimpArgs false
def setRule (i : Nat) (m : TMatch) : TMatch := ⟨(i : Int), m.Ids, m.Binds⟩
def allFrom (xs : List TItem) : Nat → List TRule → List TMatch
  | _, [] => []
  | i, r :: t => (rowsOf r xs).map (setRule i) ++ allFrom xs (i + 1) t
theorem rowsOf_len {r : TRule} {s : TStore} (hz : SzRows r s) : (rowsOf r s.Items).length ≤ 1073741824 := by
  have h1 := rowsP_len (finR_len r s.Items) s.Items (r.Pats.take (posCount r.Pats)) [] []
  have h2 := posCount_le r.Pats
  rw [List.length_take, Nat.min_eq_left h2] at h1
  exact Nat.le_trans h1 hz.nm
theorem allFrom_len {xs : List TItem} {M : Nat} : ∀ (t : List TRule) (i : Nat), (∀ r ∈ t, (rowsOf r xs).length ≤ M) → (allFrom xs i t).length ≤ t.length * M
  | [], i, _ => by simp [allFrom]
  | r :: t, i, h => by
    have h1 := allFrom_len t (i + 1) fun y hy => h y (by simp [hy])
    have h2 := h r (by simp)
    unfold allFrom
    rw [List.length_append, List.length_map, List.length_cons, Nat.succ_mul]; omega
end Go.Proofs.YtelchcokfcdndaaGreat
namespace Go.Proofs.YtelchcokfcdndaaGreat
open Eng
set_option linter.unusedVariables false
set_option linter.unusedSimpArgs false
def ruleAt (l : List TRule) (v : ByteArray) : Int := match l.findIdx? (fun r => seq r.Name v) with | some j => (j : Int) | none => -1
theorem at_s {N : Nat} (hN : 1099000000000 ≤ N) (d : TDef) (v : ByteArray) (hl : d.Rules.length ≤ 1048576) : m_s_RuleAt N d v = some (ruleAt d.Rules v) := by
  unfold m_s_RuleAt ruleAt
  have a := findloop (m_s_RuleAt_l1 N d v) d.Rules (by omega) (fun x => seq x.Name v) (fun n i x hx _ hc hw => by simp only [m_s_RuleAt_l1, hc, if_true, hx, Option.bind_some, hw]) (fun n i hc => by simp only [m_s_RuleAt_l1, hc, Bool.false_eq_true, if_false]) N 0 (by omega) (by omega)
  rw [show ((0 : Nat) : Int) = 0 from rfl, List.drop_zero] at a
  rw [a]
  cases d.Rules.findIdx? (fun r => seq r.Name v) <;> simp
theorem at_i {N : Nat} (hN : 1099000000000 ≤ N) (d : TDef) (v : ByteArray) (hl : d.Rules.length ≤ 1048576) : m_i_RuleAt N d v = some (ruleAt d.Rules v) := by
  unfold m_i_RuleAt m_sl_IndexFunc_Si_Rule_i_Rule ruleAt
  have b := findloop (m_sl_IndexFunc_Si_Rule_i_Rule_l1 N d.Rules (fun a0 => m_i_RuleAt_c1 N a0 v)) d.Rules (by omega) (fun x => seq x.Name v) (fun n i x hx _ hc hw => by simp only [m_sl_IndexFunc_Si_Rule_i_Rule_l1, m_i_RuleAt_c1, hc, if_true, hx, Option.bind_some, hw]) (fun n i hc => by simp only [m_sl_IndexFunc_Si_Rule_i_Rule_l1, hc, Bool.false_eq_true, if_false]) N 0 (by omega) (by omega)
  rw [show ((0 : Nat) : Int) = 0 from rfl, List.drop_zero] at b
  rw [b]
  cases d.Rules.findIdx? (fun r => seq r.Name v) <;> simp
def rulesFrom (all : List TRule) : Nat → List TRule → Bool
  | _, [] => true
  | i, r :: t => okRule r && (decide (ruleAt all r.Name = (i : Int)) && rulesFrom all (i + 1) t)
def okDef (d : TDef) : Bool := okName d.Name && ((decide (1 ≤ d.Rules.length) && decide (d.Rules.length ≤ 12)) && rulesFrom d.Rules 0 d.Rules)
def SzDef (d : TDef) : Prop := d.Name.size ≤ 1048576 ∧ d.Rules.length ≤ 1048576 ∧ ∀ r ∈ d.Rules, SzRule r
theorem def_i {N : Nat} (hN : 1099000000000 ≤ N) (d : TDef) (h : SzDef d) : m_i_DefOk N d = some (okDef d) := by
  obtain ⟨h1, h2, h3⟩ := h
  have lp : ∀ (n i : Nat), i ≤ d.Rules.length → d.Rules.length - i < n → m_i_DefOk_l1 N d n i = some (rulesFrom d.Rules i (d.Rules.drop i)) := by
    intro n
    induction n with
    | zero => intro i _ h; omega
    | succ n ih =>
      intro i hi hn
      by_cases hlt : i < d.Rules.length
      · have c1 : decide ((i : Int) < (d.Rules.length : Int)) = true := decide_eq_true (by omega)
        rw [List.drop_eq_getElem_cons hlt]
        simp only [m_i_DefOk_l1, c1, if_true, idx_nat_lt hlt, Option.bind_some, rule_i hN _ (h3 _ (List.getElem_mem hlt)), at_i hN d _ h2, wr1 i (by omega), ih (i + 1) (by omega) (by omega), rulesFrom]
        cases okRule d.Rules[i] <;> cases decide (ruleAt d.Rules d.Rules[i].Name = (i : Int)) <;> simp
      · have c1 : decide ((i : Int) < (d.Rules.length : Int)) = false := decide_eq_false (by omega)
        rw [List.drop_of_length_le (by omega)]
        simp only [m_i_DefOk_l1, c1, Bool.false_eq_true, if_false]; rfl
  have l0 := lp N 0 (by omega) (by omega)
  have d1 : decide ((1 : Int) ≤ (d.Rules.length : Int)) = decide (1 ≤ d.Rules.length) := by rw [decide_eq_decide]; omega
  have d2 : decide ((d.Rules.length : Int) ≤ 12) = decide (d.Rules.length ≤ 12) := by rw [decide_eq_decide]; omega
  unfold m_i_DefOk okDef
  simp only [okName_i hN _ h1, Option.bind_some, in1, d1, d2]
  rw [show m_i_DefOk_l1 N d N 0 = _ from l0, List.drop_zero]
  cases okName d.Name <;> cases (decide (1 ≤ d.Rules.length) && decide (d.Rules.length ≤ 12)) <;> rfl
theorem def_s {N : Nat} (hN : 1099000000000 ≤ N) (d : TDef) (h : SzDef d) : m_s_DefOk N d = some (okDef d) := by
  obtain ⟨h1, h2, h3⟩ := h
  have d1 : decide ((1 : Int) ≤ (d.Rules.length : Int)) = decide (1 ≤ d.Rules.length) := by rw [decide_eq_decide]; omega
  have d2 : decide ((d.Rules.length : Int) ≤ 12) = decide (d.Rules.length ≤ 12) := by rw [decide_eq_decide]; omega
  have lp : ∀ (n i : Nat), i ≤ d.Rules.length → d.Rules.length - i < n → m_s_DefOk_l1 N d n i = some (rulesFrom d.Rules i (d.Rules.drop i) && (okName d.Name && (decide (1 ≤ d.Rules.length) && decide (d.Rules.length ≤ 12)))) := by
    intro n
    induction n with
    | zero => intro i _ h; omega
    | succ n ih =>
      intro i hi hn
      by_cases hlt : i < d.Rules.length
      · have c1 : decide ((i : Int) < (d.Rules.length : Int)) = true := decide_eq_true (by omega)
        rw [List.drop_eq_getElem_cons hlt]
        simp only [m_s_DefOk_l1, c1, if_true, idx_nat_lt hlt, Option.bind_some, rule_s hN _ (h3 _ (List.getElem_mem hlt)), at_s hN d _ h2, wr1 i (by omega), ih (i + 1) (by omega) (by omega), rulesFrom]
        cases okRule d.Rules[i] <;> cases decide (ruleAt d.Rules d.Rules[i].Name = (i : Int)) <;> simp
      · have c1 : decide ((i : Int) < (d.Rules.length : Int)) = false := decide_eq_false (by omega)
        rw [List.drop_of_length_le (by omega)]
        simp only [m_s_DefOk_l1, c1, Bool.false_eq_true, if_false, okName_s hN _ h1, in0, Option.bind_some, d1, d2, andS, rulesFrom, Bool.true_and]
  have l0 := lp N 0 (by omega) (by omega)
  unfold m_s_DefOk okDef
  rw [show m_s_DefOk_l1 N d N 0 = _ from l0, List.drop_zero]
  cases rulesFrom d.Rules 0 d.Rules <;> simp
theorem okDef_rule {d : TDef} (h : okDef d = true) : ∀ r ∈ d.Rules, okRule r = true := by
  unfold okDef at h
  simp only [Bool.and_eq_true] at h
  have : ∀ (l : List TRule) (i : Nat), rulesFrom d.Rules i l = true → ∀ r ∈ l, okRule r = true := by
    intro l
    induction l with
    | nil => intro i _ r hr; cases hr
    | cons x t ih =>
      intro i hi r hr
      unfold rulesFrom at hi
      simp only [Bool.and_eq_true] at hi
      rcases List.mem_cons.1 hr with rfl | hr
      · exact hi.1
      · exact ih _ hi.2.2 r hr
  exact this _ _ h.2.2
end Go.Proofs.YtelchcokfcdndaaGreat
namespace Go.Proofs.YtelchcokfcdndaaGreat
open Eng
set_option linter.unusedVariables false
set_option linter.unusedSimpArgs false
def allMatches (d : TDef) (s : TStore) : List TMatch := if (okDef d && okStore s) = true then allFrom s.Items 0 d.Rules else []
theorem okDef_len {d : TDef} (h : okDef d = true) : d.Rules.length ≤ 12 := by
  unfold okDef at h
  simp only [Bool.and_eq_true, decide_eq_true_eq] at h
  exact h.2.1.2
end Go.Proofs.YtelchcokfcdndaaGreat
namespace Go.Proofs.YtelchcokfcdndaaGreat
open Eng
set_option linter.unusedVariables false
set_option linter.unusedSimpArgs false
theorem look_i {N : Nat} (hN : 1099000000000 ≤ N) (p : List TBind) (n : ByteArray) (hl : p.length ≤ 4294967296) : m_i_BindOf N p n = some (look p n) := by
  unfold m_i_BindOf
  have : ∀ (k i : Nat), i ≤ p.length → p.length - i < k → m_i_BindOf_l1 N p n k i = some (look (p.drop i) n) := by
    intro k
    induction k with
    | zero => intro i _ h; omega
    | succ k ih =>
      intro i hi hk
      simp only [m_i_BindOf_l1]
      by_cases hlt : i < p.length
      · have c1 : decide ((i : Int) < (p.length : Int)) = true := decide_eq_true (by omega)
        rw [List.drop_eq_getElem_cons hlt, look_cons]
        simp only [c1, if_true, idx_nat_lt hlt, Option.bind_some, wr1 i (by omega), ih (i + 1) (by omega) (by omega)]
        cases seq p[i].Name n <;> rfl
      · have c1 : decide ((i : Int) < (p.length : Int)) = false := decide_eq_false (by omega)
        simp only [c1, Bool.false_eq_true, if_false]
        rw [List.drop_of_length_le (by omega)]; rfl
  exact this N 0 (by omega) (by omega)
theorem match_loopI {N : Nat} (hN : 1099000000000 ≤ N) (p : TPat) (f : TFact) (b : List TBind) (he : p.Args.length = f.Fields.length) (hl : p.Args.length ≤ 1048576) (hb : b.length ≤ 2147483648) : ∀ (n i : Nat) (s : List TBind), i ≤ p.Args.length → p.Args.length - i < n → s.length ≤ 2147483648 + i →
    m_i_MatchPat_l1 N p f b n s i = some (matchArgs b (p.Args.drop i) (f.Fields.drop i) s) := by
  intro n
  induction n with
  | zero => intro i s _ h; omega
  | succ n ih =>
    intro i s hi hn hs
    simp only [m_i_MatchPat_l1]
    by_cases hlt : i < p.Args.length
    · have c1 : decide ((i : Int) < (p.Args.length : Int)) = true := decide_eq_true (by omega)
      have hlt' : i < f.Fields.length := by omega
      rw [List.drop_eq_getElem_cons hlt, List.drop_eq_getElem_cons hlt', matchArgs]
      simp only [c1, if_true, idx_nat_lt hlt, idx_nat_lt hlt', Option.bind_some, look_i hN s _ (show s.length ≤ 4294967296 by omega), m_sl_Clone_Si_Bind_i_Bind, app_nil (show b.length ≤ 4294967296 by omega), app_ok (show s.length + [(⟨p.Args[i].S, f.Fields[i]⟩ : TBind)].length ≤ 4294967296 by simp; omega), wr1 i (by omega), andS, orS]
      have ih1 := ih (i + 1) s (by omega) (by omega) (by omega)
      have ih2 := ih (i + 1) (s ++ [⟨p.Args[i].S, f.Fields[i]⟩]) (by omega) (by omega) (by simp; omega)
      by_cases k2 : p.Args[i].K = 2
      · have k1 : ¬ p.Args[i].K = 1 := by omega
        simp only [k2, k1, decide_true, decide_false, if_true, if_false, Bool.true_and, Bool.false_and, Bool.or_false, Bool.false_eq_true, Option.bind_some, show ¬ (2 : Int) = 1 by omega]
        cases eqT_TVal p.Args[i].V f.Fields[i] with
        | true => simpa using ih1
        | false => simp
      · by_cases k1 : p.Args[i].K = 1
        · simp only [k1, decide_true, decide_false, if_true, if_false, Bool.true_and, Bool.false_and, Bool.false_or, Bool.false_eq_true, Option.bind_some, show ¬ (1 : Int) = 2 by omega]
          cases (look s p.Args[i].S).2 with
          | true =>
            simp only [if_true, Bool.not_true, Bool.true_and, Bool.false_eq_true, if_false]
            cases eqT_TVal (look s p.Args[i].S).1 f.Fields[i] with
            | true => simpa using ih1
            | false => simp
          | false => simpa using ih2
        · simp only [k1, k2, decide_false, if_false, Bool.false_and, Bool.false_or, Bool.or_false, Bool.false_eq_true, Option.bind_some]
          simpa using ih1
    · have c1 : decide ((i : Int) < (p.Args.length : Int)) = false := decide_eq_false (by omega)
      simp only [c1, Bool.false_eq_true, if_false]
      rw [List.drop_of_length_le (by omega)]
      rfl
theorem seq_comm' (a b : ByteArray) : seq a b = seq b a := by rw [seq_eq, seq_eq]; simp [eq_comm]
theorem match_i {N : Nat} (hN : 1099000000000 ≤ N) (p : TPat) (f : TFact) (b : List TBind) (hl : p.Args.length ≤ 1048576) (hb : b.length ≤ 2147483648) : m_i_MatchPat N p f b = some (matchPat p f b) := by
  unfold m_i_MatchPat matchPat m_sl_Clone_Si_Bind_i_Bind
  rw [app_nil (by omega), seq_comm' f.Kind p.Kind]
  simp only [Option.bind_some, orS]
  cases hk : seq p.Kind f.Kind with
  | false => simp
  | true =>
    by_cases he : p.Args.length = f.Fields.length
    · have he' : decide ((f.Fields.length : Int) = (p.Args.length : Int)) = true := decide_eq_true (by omega)
      have := (match_loopI hN p f b he hl hb N 0 b (by omega) (by omega) (by omega))
      simp only [he', he, Bool.not_true, Bool.or_false, Bool.false_eq_true, if_false, true_and, if_true]
      simpa using this
    · have he' : decide ((f.Fields.length : Int) = (p.Args.length : Int)) = false := decide_eq_false (by omega)
      simp [he', he]
end Go.Proofs.YtelchcokfcdndaaGreat
namespace Go.Proofs.YtelchcokfcdndaaGreat
open Eng
set_option linter.unusedVariables false
set_option linter.unusedSimpArgs false
theorem hits_i {N : Nat} (hN : 1099000000000 ≤ N) (p : TPat) (s : TStore) (l : List TBind) (hp : p.Args.length ≤ 1048576) (hs : s.Items.length ≤ 1048576) (hb : l.length ≤ 2147483648) : m_i_hitsIn N p s l = some (hits p l s.Items : Int) := by
  unfold m_i_hitsIn
  have := lp' hN s.Items (by omega) (m_i_hitsIn_l1 N p s l) (fun t k => some (k + (hits p l t : Int))) (fun k t => 0 ≤ k ∧ k + t.length ≤ 1048576) (0 : Int) (by simp; omega) (fun n k i x t h1 h2 h3 h4 h5 h6 hI ih => by
    simp only [List.length_cons] at hI
    simp only [m_i_hitsIn_l1, h5, if_true, h4, Option.bind_some, match_i hN p x.F l hp hb, h6]
    unfold hits at ih ⊢
    rw [List.countP_cons]
    cases (matchPat p x.F l).2 with
    | true =>
      rw [wr (n := k + 1) (by omega) (by omega)]
      simp only [if_true, ih (k + 1) (by omega)]; congr 1; omega
    | false => simpa using ih k (by omega)) (fun n k i h1 h2 hI => by simp only [m_i_hitsIn_l1, h2, Bool.false_eq_true, if_false, hits]; simp)
  simpa using this
theorem blocked_i {N : Nat} (hN : 1099000000000 ≤ N) (r : TRule) (s : TStore) (l : List TBind) (hr : r.Pats.length ≤ 1048576) (hp : ∀ p ∈ r.Pats, p.Args.length ≤ 1048576) (hs : s.Items.length ≤ 1048576) (hb : l.length ≤ 2147483648) : m_i_Blocked N r s l = some (blocked r.Pats s.Items l) := by
  unfold m_i_Blocked
  refine lp0 hN r.Pats (by omega) (m_i_Blocked_l1 N r s l) (fun t => some (blocked t s.Items l)) (fun n i x t g1 g2 g3 g4 g5 g6 g7 => ?_) (fun n i g1 g2 => ?_)
  · simp only [m_i_Blocked_l1, g5, if_true, g4, Option.bind_some, hits_i hN x s l (hp x g2) hs hb, hits_pos, g6, g7, andS]
    unfold blocked
    rw [List.any_cons]
    cases (x.Not && s.Items.any fun y => (matchPat x y.F l).2) <;> simp
  · simp only [m_i_Blocked_l1, g2, Bool.false_eq_true, if_false]; rfl
end Go.Proofs.YtelchcokfcdndaaGreat
namespace Go.Proofs.YtelchcokfcdndaaGreat
open Eng
set_option linter.unusedVariables false
set_option linter.unusedSimpArgs false
def cmp (a b : Int) : Int := if a < b then -1 else if b < a then 1 else 0
theorem cmp_eq (N : Nat) (a b : Int) : m_cmp_Compare_int N a b = some (cmp a b) := by
  unfold m_cmp_Compare_int m_cmp_isNaN_int cmp
  by_cases h1 : a < b
  · simp [h1]
  · by_cases h2 : b < a <;> simp [h1, h2]
end Go.Proofs.YtelchcokfcdndaaGreat
namespace Go.Proofs.YtelchcokfcdndaaGreat
open Eng
set_option linter.unusedVariables false
set_option linter.unusedSimpArgs false
theorem argVal_i {N : Nat} (hN : 1099000000000 ≤ N) (a : TArg) (l : List TBind) (hl : l.length ≤ 4294967296) : m_i_ArgVal N a l = some (argVal a l) := by
  unfold m_i_ArgVal argVal
  rw [look_i hN l a.S hl]
  by_cases h2 : a.K = 2
  · simp [h2]
  · by_cases h1 : a.K = 1 <;> simp [h1, h2, zv]
theorem or3 {N : Nat} (hN : 1099000000000 ≤ N) (a b c : Int) : m_cmp_Or_int N [a, b, c] = some (if a = 0 then (if b = 0 then c else b) else a) := by
  obtain ⟨n, rfl⟩ : ∃ n, N = n + 4 := ⟨N - 4, by omega⟩
  unfold m_cmp_Or_int
  have w1 : IntKind.i64.wrap ((0 : Int) + 1) = 1 := by decide
  have w2 : IntKind.i64.wrap ((1 : Int) + 1) = 2 := by decide
  have w3 : IntKind.i64.wrap ((2 : Int) + 1) = 3 := by decide
  have i0 : idx [a, b, c] 0 = some a := rfl
  have i1 : idx [a, b, c] 1 = some b := rfl
  have i2 : idx [a, b, c] 2 = some c := rfl
  have l2 : (([a, b, c] : List Int).length : Int) = 3 := rfl
  simp only [m_cmp_Or_int_l1, w1, w2, w3, i0, i1, i2, l2, Option.bind_some]
  by_cases ha : a = 0
  · by_cases hb : b = 0
    · by_cases hc : c = 0 <;> simp [ha, hb, hc]
    · simp [ha, hb]
  · simp [ha]
theorem cmpS (N : Nat) (a b : ByteArray) : m_cmp_Compare_string N a b = some (if slt a b = true then -1 else if (!slt a b && !seq a b) = true then 1 else 0) := by
  unfold m_cmp_Compare_string m_cmp_isNaN_string
  simp only [seq_self, Bool.not_true, Option.bind_some, Bool.false_eq_true, if_false]
  cases slt a b with
  | true => simp
  | false => cases seq a b <;> simp
theorem lessV_i {N : Nat} (hN : 1099000000000 ≤ N) (x y : TVal) : m_i_LessVal N x y = some (lessV x y) := by
  unfold m_i_LessVal m_i_compareVals lessV
  simp only [cmp_eq, cmpS, Option.bind_some, or3 hN, cmp]
  congr 1
  by_cases h1 : x.K = y.K
  · by_cases h2 : x.N = y.N
    · simp only [h1, h2, Int.lt_irrefl, if_false, if_true]
      cases slt x.S y.S with
      | true => simp
      | false => cases seq x.S y.S <;> simp
    · simp only [h1, h2, Int.lt_irrefl, if_false, if_true]
      by_cases h3 : x.N < y.N
      · simp [h3]
      · have h4 : y.N < x.N := by omega
        simp [h3, h4]
  · simp only [h1, if_false]
    by_cases h3 : x.K < y.K
    · simp [h3]
    · have h4 : y.K < x.K := by omega
      simp [h3, h4]
theorem holds_i {N : Nat} (hN : 1099000000000 ≤ N) (c : TCond) (l : List TBind) (hl : l.length ≤ 4294967296) : m_i_Holds N c l = some (holds c l) := by
  unfold m_i_Holds holds
  rw [argVal_i hN c.L l hl, argVal_i hN c.R l hl]
  simp only [Option.bind_some, lessV_i hN, eqT_TVal_eq]
  cases (argVal c.L l).2 with
  | false => simp
  | true =>
    cases (argVal c.R l).2 with
    | false => simp
    | true =>
      by_cases h1 : c.Op = 1
      · simp [h1]
      · by_cases h2 : c.Op = 2
        · simp [h2]
        · by_cases h3 : c.Op = 3 <;> simp [h1, h2, h3]
theorem holdAll_i {N : Nat} (hN : 1099000000000 ≤ N) (cs : List TCond) (l : List TBind) (hc : cs.length ≤ 4194304) (hl : l.length ≤ 4294967296) : m_i_HoldAll N cs l = some (cs.all fun c => holds c l) := by
  unfold m_i_HoldAll
  refine lp0 hN cs (by omega) (m_i_HoldAll_l1 N cs l) (fun t => some (t.all fun c => holds c l)) (fun n i x t h1 h2 h3 h4 h5 h6 h7 => ?_) (fun n i h1 h2 => ?_)
  · simp only [m_i_HoldAll_l1, h5, if_true, h4, Option.bind_some, holds_i hN x l hl, h6, h7, List.all_cons]
    cases holds x l <;> simp
  · simp only [m_i_HoldAll_l1, h2, Bool.false_eq_true, if_false]; rfl
end Go.Proofs.YtelchcokfcdndaaGreat
namespace Go.Proofs.YtelchcokfcdndaaGreat
open Eng
set_option linter.unusedVariables false
set_option linter.unusedSimpArgs false
theorem patsOf_i {N : Nat} (hN : 1099000000000 ≤ N) (r : TRule) (b : Bool) (hl : r.Pats.length ≤ 1048576) : m_i_pats N r b = some (r.Pats.filter fun p => p.Not == b) := by
  unfold m_i_pats
  refine (lp' hN r.Pats (by omega) (m_i_pats_l1 N r b) (fun t u => some (u ++ t.filter fun p => p.Not == b)) (fun u t => u.length + t.length ≤ 1048576) [] (by simpa using hl) (fun n u i p t g1 g2 g3 g4 g5 g6 gI ih => ?_) (fun n u i g1 g2 gI => ?_)).trans (by simp)
  · simp only [List.length_cons] at gI
    simp only [m_i_pats_l1, g5, if_true, g4, Option.bind_some, List.filter_cons, g6]
    cases hb : (p.Not == b) with
    | true =>
      simp only [if_true, app_ok (show u.length + [p].length ≤ 4294967296 by simp; omega), Option.bind_some]
      rw [ih _ (by simp; omega)]; simp
    | false =>
      simp only [Bool.false_eq_true, if_false]
      exact ih u (by omega)
  · simp only [m_i_pats_l1, g2, Bool.false_eq_true, if_false]; simp
end Go.Proofs.YtelchcokfcdndaaGreat
namespace Go.Proofs.YtelchcokfcdndaaGreat
open Eng
set_option linter.unusedVariables false
set_option linter.unusedSimpArgs false
theorem rows_i (r : TRule) (s : TStore) (hz : SzRows r s) (hnm : s.Items.length ^ (pos r.Pats).length ≤ 1073741824) : ∀ (k N : Nat) (out : List TMatch) (ids : List Int) (l : List TBind), 1099000000001 + k ≤ N → ids.length + k = (pos r.Pats).length → out.length + s.Items.length ^ k ≤ 4294967296 →
    l.length + sumArgs ((pos r.Pats).drop ids.length) ≤ 1048576 → m_i_addRows N out r s ids l = some (out ++ rowsP (finR r s.Items) s.Items ((pos r.Pats).drop ids.length) ids l) := by
  have hpl := hz.pl
  have hpp : (pos r.Pats).length ≤ r.Pats.length := List.length_filter_le _ _
  intro k
  induction k with
  | zero =>
    intro N out ids l hN hk ho hl
    obtain ⟨N, rfl⟩ : ∃ M, N = M + 1 := ⟨N - 1, by omega⟩
    have c1 : decide ((ids.length : Int) = ((pos r.Pats).length : Int)) = true := decide_eq_true (by omega)
    have e0 : (pos r.Pats).drop ids.length = [] := List.drop_of_length_le (by omega)
    rw [e0]
    simp only [m_i_addRows, patsOf_i (show 1099000000000 ≤ N by omega) r false hz.pl, pos_eq, Option.bind_some, c1, if_true, blocked_i (show 1099000000000 ≤ N by omega) r s l hz.pl hz.pa hz.xl (by omega), holdAll_i (show 1099000000000 ≤ N by omega) r.Conds l (by have := hz.cl; omega) (by omega), andS, rowsP, finR, m_sl_Clone_Sint_int, m_sl_Clone_Si_Bind_i_Bind]
    cases (!blocked r.Pats s.Items l && r.Conds.all fun c => holds c l) with
    | true =>
      simp only [if_true, app_nil (show ids.length ≤ 4294967296 by omega), app_nil (show l.length ≤ 4294967296 by omega), Option.bind_some, app_ok (show out.length + [(⟨0, ids, l⟩ : TMatch)].length ≤ 4294967296 by simp at ho ⊢; omega)]
    | false => simp
  | succ k ih =>
    intro N out ids l hN hk ho hl
    obtain ⟨N, rfl⟩ : ∃ M, N = M + 1 := ⟨N - 1, by omega⟩
    have c1 : decide ((ids.length : Int) = ((pos r.Pats).length : Int)) = false := decide_eq_false (by omega)
    have hi : ids.length < (pos r.Pats).length := by omega
    have hd := List.drop_eq_getElem_cons hi
    rw [hd] at hl ⊢
    rw [sumArgs_cons] at hl
    have hpa := hz.pa _ (List.mem_filter.1 (List.getElem_mem hi)).1
    simp only [m_i_addRows, patsOf_i (show 1099000000000 ≤ N by omega) r false hz.pl, pos_eq, Option.bind_some, c1, Bool.false_eq_true, if_false, rowsP]
    have hM : s.Items.length ^ (k + 1) = s.Items.length * s.Items.length ^ k := by rw [Nat.pow_succ, Nat.mul_comm]
    rw [hM] at ho
    have hxl := hz.xl
    refine lp' (show 1099000000000 ≤ N by omega) s.Items (by omega) (fun n (u : List TMatch) i => m_i_addRows_l1 N r s ids l (m_i_addRows N) (pos r.Pats) n u i) (fun t u => some (u ++ t.flatMap fun x => if (matchPat (pos r.Pats)[ids.length] x.F l).2 = true then rowsP (finR r s.Items) s.Items ((pos r.Pats).drop (ids.length + 1)) (ids ++ [x.Id]) (matchPat (pos r.Pats)[ids.length] x.F l).1 else []))
      (fun u t => u.length + t.length * s.Items.length ^ k ≤ 4294967296) out ho (fun n u i x t g1 g2 g3 g4 g5 g6 gI gh => ?_) (fun n u i g1 g2 gI => ?_)
    · rw [List.length_cons, Nat.succ_mul] at gI
      have hml := matchPat_len (pos r.Pats)[ids.length] x.F l
      simp only [m_i_addRows_l1, g5, if_true, idx_nat_lt hi, g4, Option.bind_some, match_i (show 1099000000000 ≤ N by omega) _ x.F l hpa (by omega), List.flatMap_cons, g6]
      cases hm : (matchPat (pos r.Pats)[ids.length] x.F l).2 with
      | true =>
        have hrl := rowsP_len (finR_len r s.Items) s.Items ((pos r.Pats).drop (ids.length + 1)) (ids ++ [x.Id]) (matchPat (pos r.Pats)[ids.length] x.F l).1
        have hdl : ((pos r.Pats).drop (ids.length + 1)).length = k := by rw [List.length_drop]; omega
        rw [hdl] at hrl
        have hids : (ids ++ [x.Id]).length = ids.length + 1 := by simp
        have := ih N u (ids ++ [x.Id]) (matchPat (pos r.Pats)[ids.length] x.F l).1 (by omega) (by omega) (by omega) (by rw [hids]; omega)
        rw [hids] at this
        simp only [if_true, m_sl_Clone_Sint_int, app_nil (show ids.length ≤ 4294967296 by omega), app_ok (show ids.length + [x.Id].length ≤ 4294967296 by simp; omega), Option.bind_some, this, m_i_addRows_j2, g6]
        rw [gh _ (by rw [List.length_append]; omega), List.append_assoc]
      | false =>
        simp only [Bool.false_eq_true, if_false, List.nil_append]
        exact gh u (by omega)
    · simp only [m_i_addRows_l1, g2, Bool.false_eq_true, if_false]; simp
theorem in_i {N : Nat} (hN : 1099400000000 ≤ N) (r : TRule) (s : TStore) (hz : SzRows r s) (hp : pos r.Pats = r.Pats.take (posCount r.Pats)) : m_i_matchesIn N r s = some (rowsOf r s.Items) := by
  unfold m_i_matchesIn rowsOf
  have h2 := posCount_le r.Pats
  have h1 := sumArgs_take (posCount r.Pats) r.Pats
  have h3 := hz.pl
  have h4 := hz.sa
  have h5 := hz.nm
  have hl : (pos r.Pats).length = posCount r.Pats := by rw [hp, List.length_take]; omega
  have := rows_i r s hz (by rw [hl]; exact h5) (posCount r.Pats) N [] [] [] (by omega) (by simp [hl]) (by simp; omega) (by rw [hp]; simp; omega)
  rw [this, hp]; simp
end Go.Proofs.YtelchcokfcdndaaGreat
namespace Go.Proofs.YtelchcokfcdndaaGreat
open Eng
set_option linter.unusedVariables false
set_option linter.unusedSimpArgs false
theorem all_i {N : Nat} (hN : 1099400000000 ≤ N) (d : TDef) (s : TStore) (hl : d.Rules.length ≤ 1048576) (hz : ∀ r ∈ d.Rules, SzRows r s ∧ pos r.Pats = r.Pats.take (posCount r.Pats)) (M : Nat) (hM : ∀ r ∈ d.Rules, (rowsOf r s.Items).length ≤ M) (hMl : d.Rules.length * M ≤ 4294967296) : m_i_allIn N d s = some (allFrom s.Items 0 d.Rules) := by
  unfold m_i_allIn
  have lp : ∀ (n i : Nat) (out : List TMatch), i ≤ d.Rules.length → d.Rules.length - i < n → out.length + (d.Rules.length - i) * M ≤ 4294967296 → m_i_allIn_l1 N d s n out i = some (out ++ allFrom s.Items i (d.Rules.drop i)) := by
    intro n
    induction n with
    | zero => intro i _ _ h; omega
    | succ n ih =>
      intro i out hi hn ho
      by_cases hlt : i < d.Rules.length
      · have c1 : decide ((i : Int) < (d.Rules.length : Int)) = true := decide_eq_true (by omega)
        obtain ⟨hr, hp⟩ := hz _ (List.getElem_mem hlt)
        have hm := hM _ (List.getElem_mem hlt)
        have hrl := rowsOf_len hr
        rw [List.drop_eq_getElem_cons hlt, allFrom]
        simp only [m_i_allIn_l1, c1, if_true, idx_nat_lt hlt, Option.bind_some, in_i hN _ s hr hp]
        have ha : (d.Rules.length - i) * M = M + (d.Rules.length - (i + 1)) * M := by
          rw [show d.Rules.length - i = (d.Rules.length - (i + 1)) + 1 by omega, Nat.succ_mul]; omega
        rw [ha] at ho
        refine (lp' (show 1099000000000 ≤ N by omega) (rowsOf d.Rules[i] s.Items) (by omega) (fun m (u : List TMatch) k => m_i_allIn_l2 N (i : Int) (m_i_allIn_l1 N d s n) (rowsOf d.Rules[i] s.Items) m u k) (fun t u => some (u ++ t.map (setRule i) ++ allFrom s.Items (i + 1) (d.Rules.drop (i + 1)))) (fun u t => u.length + t.length + (d.Rules.length - (i + 1)) * M ≤ 4294967296) out (by omega) (fun m u k x t g1 g2 g3 g4 g5 g6 gI gh => ?_) (fun m u k g1 g2 gI => ?_)).trans (by simp)
        · simp only [List.length_cons] at gI
          simp only [m_i_allIn_l2, g5, if_true, g4, Option.bind_some]
          rw [show (⟨(i : Int), x.Ids, x.Binds⟩ : TMatch) = setRule i x from rfl, app_ok (show u.length + [setRule i x].length ≤ 4294967296 by simp; omega), Option.bind_some, g6]
          rw [gh _ (by simp; omega)]; simp
        · simp only [m_i_allIn_l2, g2, Bool.false_eq_true, if_false, wr1 i (by omega)]
          rw [ih (i + 1) u (by omega) (by omega) (by simp at gI; omega)]; simp
      · have c1 : decide ((i : Int) < (d.Rules.length : Int)) = false := decide_eq_false (by omega)
        rw [List.drop_of_length_le (by omega)]
        simp only [m_i_allIn_l1, c1, Bool.false_eq_true, if_false, allFrom, List.append_nil]
  have := lp N 0 [] (by omega) (by omega) (by simpa using hMl)
  simpa using this
end Go.Proofs.YtelchcokfcdndaaGreat
namespace Go.Proofs.YtelchcokfcdndaaGreat
open Eng
set_option linter.unusedVariables false
set_option linter.unusedSimpArgs false
theorem fact_i {N : Nat} (hN : 1099000000000 ≤ N) (f : TFact) (h : SzFact f) : m_i_FactOk N f = some (okFact f) := by
  obtain ⟨h1, h2, h3⟩ := h
  unfold m_i_FactOk okFact
  have l1 : m_i_FactOk_l1 N f N 0 = some (f.Fields.all okVal) := lp0 hN f.Fields (by omega) (m_i_FactOk_l1 N f) (fun t => some (t.all okVal)) (fun n i x t g1 g2 g3 g4 g5 g6 g7 => by
    simp only [m_i_FactOk_l1, g5, if_true, g4, Option.bind_some, val_i (show 1048578 ≤ N by omega) x (h3 x g2), g6, g7, List.all_cons]
    cases okVal x <;> simp) (fun n i g1 g2 => by simp only [m_i_FactOk_l1, g2, Bool.false_eq_true, if_false]; rfl)
  have d1 : decide ((5 : Int) < (f.Fields.length : Int)) = !decide (f.Fields.length ≤ 5) := by rw [← decide_not, decide_eq_decide]; omega
  simp only [okName_i hN _ h1, Option.bind_some, d1, l1]
  cases okName f.Kind <;> cases decide (f.Fields.length ≤ 5) <;> simp
theorem sameF_i {N : Nat} (hN : 1099000000000 ≤ N) (x y : TFact) (hl : x.Fields.length ≤ 4294967296) : m_i_SameFact N x y = some (decide (x = y)) := by
  have e : m_sl_Equal_Si_Val_i_Val N x.Fields y.Fields = some (decide (x.Fields = y.Fields)) := by
    unfold m_sl_Equal_Si_Val_i_Val
    by_cases c : x.Fields.length = y.Fields.length
    · rw [if_neg (by simp; omega)]
      refine (eqloop (m_sl_Equal_Si_Val_i_Val_l1 N x.Fields y.Fields) x.Fields y.Fields c (by omega) (fun a b => some (decide (a = b))) (fun a _ b _ => rfl) (fun k i => by simp only [m_sl_Equal_Si_Val_i_Val_l1, eqT_TVal_eq, Option.bind_some]) N 0 (by omega) (by omega)).trans ?_
      simp
    · rw [if_pos (by simp; omega)]
      have : ¬ x.Fields = y.Fields := fun e => c (by rw [e])
      simp [this]
  unfold m_i_SameFact
  simp only [e, Option.bind_some, andS, seq_eq]
  obtain ⟨a, b⟩ := x; obtain ⟨c, d⟩ := y
  simp only [TFact.mk.injEq, Bool.decide_and]
theorem ssl_take {α : Type} {xs : List α} {i : Nat} (h : i ≤ xs.length) : ssl xs 0 (i : Int) = some (xs.take i) := by
  unfold ssl
  have : (0 : Int) ≤ 0 ∧ (0 : Int) ≤ (i : Int) ∧ (i : Int) ≤ (xs.length : Int) := by omega
  simp [h]
theorem store_i {N : Nat} (hN : 1099000000000 ≤ N) (s : TStore) (h : SzStore s) : m_i_StoreOk N s = some (okStore s) := by
  obtain ⟨h1, h2⟩ := h
  unfold m_i_StoreOk okStore
  have d1 : decide ((40 : Int) < (s.Items.length : Int)) = !decide (s.Items.length ≤ 40) := by rw [← decide_not, decide_eq_decide]; omega
  simp only [in1, Option.bind_some, d1]
  by_cases hn : 1 ≤ s.Next ∧ s.Next ≤ 1000000
  · have lp : ∀ (n i : Nat), i ≤ s.Items.length → s.Items.length - i < n → m_i_StoreOk_l1 N s n i = some (itemsOk s.Next (s.Items.take i) (s.Items.drop i)) := by
      intro n
      induction n with
      | zero => intro i _ h; omega
      | succ n ih =>
        intro i hi hm
        simp only [m_i_StoreOk_l1]
        by_cases hlt : i < s.Items.length
        · have c1 : decide ((i : Int) < (s.Items.length : Int)) = true := decide_eq_true (by omega)
          have hf := h2 _ (List.getElem_mem hlt)
          have hnx : IntKind.i64.wrap (s.Next - 1) = s.Next - 1 := wr (by omega) (by omega)
          have hprev : (if decide (0 < (i : Int)) = true then (idx s.Items (IntKind.i64.wrap ((i : Int) - 1))).bind fun x5 => some (decide (s.Items[i].Id ≤ x5.Id)) else some false) = some (!(lastBelow (s.Items.take i) s.Items[i].Id)) := by
            by_cases h0 : 0 < i
            · have e1 : IntKind.i64.wrap ((i : Int) - 1) = ((i - 1 : Nat) : Int) := by rw [wr (by omega) (by omega)]; omega
              unfold lastBelow; rw [lastTake h0 hi, decide_eq_true (show (0 : Int) < (i : Int) by omega), e1]
              simp only [if_true, idx_nat_lt (show i - 1 < s.Items.length by omega), Option.bind_some]
              rw [← decide_not]; congr 1; rw [decide_eq_decide]; omega
            · have : i = 0 := by omega
              subst this
              simp [lastBelow]
          have hdup : m_i_StoreOk_l2 N (i : Int) (m_i_StoreOk_l1 N s n) s.Items[i] (s.Items.take i) N 0 = some ((((s.Items.take i).all fun y => !decide (s.Items[i].F = y.F))) && itemsOk s.Next (s.Items.take (i + 1)) (s.Items.drop (i + 1))) := by
            refine lp0 hN (s.Items.take i) (by rw [List.length_take]; omega) (m_i_StoreOk_l2 N (i : Int) (m_i_StoreOk_l1 N s n) s.Items[i] (s.Items.take i)) (fun t => some ((t.all fun y => !decide (s.Items[i].F = y.F)) && itemsOk s.Next (s.Items.take (i + 1)) (s.Items.drop (i + 1)))) (fun m k y t g1 g2 g3 g4 g5 g6 g7 => ?_) (fun m k g1 g2 => ?_)
            · simp only [m_i_StoreOk_l2, g5, if_true, g4, Option.bind_some, sameF_i hN s.Items[i].F y.F (by have := hf.2.1; omega), g6, g7, List.all_cons]
              cases decide (s.Items[i].F = y.F) <;> simp
            · simp only [m_i_StoreOk_l2, g2, Bool.false_eq_true, if_false, wr1 i (by omega), ih (i + 1) (by omega) (by omega)]; rfl
          have d2 : decide (s.Items[i].Id ≤ s.Next - 1) = decide (s.Items[i].Id < s.Next) := by rw [decide_eq_decide]; omega
          have htk : s.Items.take (i + 1) = s.Items.take i ++ [s.Items[i]] := List.take_succ_eq_append_getElem hlt
          rw [List.drop_eq_getElem_cons hlt, itemsOk, ← htk]
          simp only [c1, if_true, idx_nat_lt hlt, Option.bind_some, fact_i hN _ hf, in1, hnx, d2, hprev, ssl_take (show i ≤ s.Items.length by omega), hdup]
          cases okFact s.Items[i].F with
          | false => simp
          | true =>
            cases (decide (1 ≤ s.Items[i].Id) && decide (s.Items[i].Id < s.Next)) with
            | false => simp
            | true =>
              cases (lastBelow (s.Items.take i) s.Items[i].Id) <;> simp
        · have c1 : decide ((i : Int) < (s.Items.length : Int)) = false := decide_eq_false (by omega)
          rw [List.drop_of_length_le (by omega)]
          simp only [c1, Bool.false_eq_true, if_false]; rfl
    have l0 := lp N 0 (by omega) (by omega)
    rw [List.take_zero, List.drop_zero, show ((0 : Nat) : Int) = 0 from rfl] at l0
    rw [l0, decide_eq_true hn.1, decide_eq_true hn.2]
    cases decide (s.Items.length ≤ 40) <;> simp
  · have : (decide (1 ≤ s.Next) && decide (s.Next ≤ 1000000)) = false := by
      rw [Bool.eq_false_iff]
      intro h
      simp only [Bool.and_eq_true, decide_eq_true_eq] at h
      exact hn h
    rw [this]
    cases decide (s.Items.length ≤ 40) <;> simp
end Go.Proofs.YtelchcokfcdndaaGreat
namespace Go.Proofs.YtelchcokfcdndaaGreat
open Eng
set_option linter.unusedVariables false
set_option linter.unusedSimpArgs false
theorem allM_i {N : Nat} (hN : 1099400000000 ≤ N) (d : TDef) (s : TStore) (hd : SzDef d) (hs : SzStore s) : m_i_AllMatches N d s = some (allMatches d s) := by
  unfold m_i_AllMatches allMatches
  rw [def_i (by omega) d hd, Option.bind_some, store_i (by omega) s hs]
  cases h1 : okDef d with
  | false => simp
  | true =>
    cases h2 : okStore s with
    | false => simp
    | true =>
      have hl := okDef_len h1
      have hr := okDef_rule h1
      have := all_i hN d s (by omega) (fun r h => ⟨ok_rows (hr r h) h2, okRule_pos (hr r h)⟩) 64000 (fun r h => ok_rowsOf (hr r h) h2) (by omega)
      simp [this]
end Go.Proofs.YtelchcokfcdndaaGreat
namespace Go.Proofs.YtelchcokfcdndaaGreat
open Eng
set_option linter.unusedVariables false
set_option linter.unusedSimpArgs false
theorem rows_s (r : TRule) (s : TStore) (hz : SzRows r s) : ∀ (k N : Nat) (out : List TMatch) (ids : List Int) (l : List TBind), 1099000000001 + k ≤ N → ids.length + k = posCount r.Pats → out.length + s.Items.length ^ k ≤ 4294967296 →
    l.length + sumArgs ((r.Pats.take (posCount r.Pats)).drop ids.length) ≤ 1048576 → m_s_l11Rows N out r s ids l = some (out ++ rowsP (finR r s.Items) s.Items ((r.Pats.take (posCount r.Pats)).drop ids.length) ids l) := by
  have hpc := posCount_le r.Pats
  have hpl := hz.pl
  intro k
  induction k with
  | zero =>
    intro N out ids l hN hk ho hl
    obtain ⟨N, rfl⟩ : ∃ M, N = M + 1 := ⟨N - 1, by omega⟩
    have c1 : decide ((ids.length : Int) = (posCount r.Pats : Int)) = true := decide_eq_true (by omega)
    have e0 : (r.Pats.take (posCount r.Pats)).drop ids.length = [] := List.drop_of_length_le (by rw [List.length_take]; omega)
    rw [e0]
    simp only [m_s_l11Rows, count_s (show 1099000000000 ≤ N by omega) r hz.pl, Option.bind_some, c1, if_true, blocked_s (show 1099000000000 ≤ N by omega) r s l hz.pl hz.pa hz.xl (by omega), holdAll_s (show 1099000000000 ≤ N by omega) r.Conds l (by have := hz.cl; omega) (by omega), andS, rowsP, finR, m_s_l11Rows_j1]
    cases (!blocked r.Pats s.Items l && r.Conds.all fun c => holds c l) with
    | true =>
      simp only [if_true, app_nil (show ids.length ≤ 4294967296 by omega), app_nil (show l.length ≤ 4294967296 by omega), Option.bind_some, app_ok (show out.length + [(⟨0, ids, l⟩ : TMatch)].length ≤ 4294967296 by simp at ho ⊢; omega)]
    | false => simp
  | succ k ih =>
    intro N out ids l hN hk ho hl
    obtain ⟨N, rfl⟩ : ∃ M, N = M + 1 := ⟨N - 1, by omega⟩
    have c1 : decide ((ids.length : Int) = (posCount r.Pats : Int)) = false := decide_eq_false (by omega)
    have hi : ids.length < r.Pats.length := by omega
    have hd : (r.Pats.take (posCount r.Pats)).drop ids.length = r.Pats[ids.length] :: (r.Pats.take (posCount r.Pats)).drop (ids.length + 1) := by
      rw [List.drop_eq_getElem_cons (by rw [List.length_take]; omega), List.getElem_take]
    rw [hd] at hl ⊢
    rw [sumArgs_cons] at hl
    have hpa := hz.pa _ (List.getElem_mem hi)
    simp only [m_s_l11Rows, count_s (show 1099000000000 ≤ N by omega) r hz.pl, Option.bind_some, c1, Bool.false_eq_true, if_false, rowsP]
    have hM : s.Items.length ^ (k + 1) = s.Items.length * s.Items.length ^ k := by rw [Nat.pow_succ, Nat.mul_comm]
    rw [hM] at ho
    have hxl := hz.xl
    refine lp' (show 1099000000000 ≤ N by omega) s.Items (by omega) (fun n (u : List TMatch) i => m_s_l11Rows_l2 N r s ids l (m_s_l11Rows N) n u i) (fun t u => some (u ++ t.flatMap fun x => if (matchPat r.Pats[ids.length] x.F l).2 = true then rowsP (finR r s.Items) s.Items ((r.Pats.take (posCount r.Pats)).drop (ids.length + 1)) (ids ++ [x.Id]) (matchPat r.Pats[ids.length] x.F l).1 else []))
      (fun u t => u.length + t.length * s.Items.length ^ k ≤ 4294967296) out ho (fun n u i x t g1 g2 g3 g4 g5 g6 gI gh => ?_) (fun n u i g1 g2 gI => ?_)
    · rw [List.length_cons, Nat.succ_mul] at gI
      have hml := matchPat_len r.Pats[ids.length] x.F l
      simp only [m_s_l11Rows_l2, g5, if_true, idx_nat_lt hi, g4, Option.bind_some, match_s (show 1099000000000 ≤ N by omega) _ x.F l hpa (by omega), List.flatMap_cons, g6]
      cases hm : (matchPat r.Pats[ids.length] x.F l).2 with
      | true =>
        have hrl := rowsP_len (finR_len r s.Items) s.Items ((r.Pats.take (posCount r.Pats)).drop (ids.length + 1)) (ids ++ [x.Id]) (matchPat r.Pats[ids.length] x.F l).1
        have hdl : ((r.Pats.take (posCount r.Pats)).drop (ids.length + 1)).length = k := by rw [List.length_drop, List.length_take]; omega
        rw [hdl] at hrl
        have hids : (ids ++ [x.Id]).length = ids.length + 1 := by simp
        have := ih N u (ids ++ [x.Id]) (matchPat r.Pats[ids.length] x.F l).1 (by omega) (by omega) (by omega) (by rw [hids]; omega)
        rw [hids] at this
        simp only [if_true, app_nil (show ids.length ≤ 4294967296 by omega), app_ok (show ids.length + [x.Id].length ≤ 4294967296 by simp; omega), Option.bind_some, this, m_s_l11Rows_j3, g6]
        rw [gh _ (by rw [List.length_append]; omega), List.append_assoc]
      | false =>
        simp only [Bool.false_eq_true, if_false, List.nil_append]
        exact gh u (by omega)
    · simp only [m_s_l11Rows_l2, g2, Bool.false_eq_true, if_false]; simp
theorem of_s {N : Nat} (hN : 1099400000000 ≤ N) (r : TRule) (s : TStore) (hz : SzRows r s) : m_s_l11Of N r s = some (rowsOf r s.Items) := by
  unfold m_s_l11Of rowsOf
  have h1 := sumArgs_take (posCount r.Pats) r.Pats
  have h2 := posCount_le r.Pats
  have h3 := hz.pl
  have h4 := hz.sa
  have h5 := hz.nm
  have := rows_s r s hz (posCount r.Pats) N [] [] [] (by omega) (by simp) (by simp; omega) (by simp; omega)
  rw [this]; simp
end Go.Proofs.YtelchcokfcdndaaGreat
namespace Go.Proofs.YtelchcokfcdndaaGreat
open Eng
set_option linter.unusedVariables false
set_option linter.unusedSimpArgs false
theorem all_s {N : Nat} (hN : 1099400000000 ≤ N) (d : TDef) (s : TStore) (hl : d.Rules.length ≤ 1048576) (hz : ∀ r ∈ d.Rules, SzRows r s) (M : Nat) (hM : ∀ r ∈ d.Rules, (rowsOf r s.Items).length ≤ M) (hMl : d.Rules.length * M ≤ 4294967296) : m_s_l11All N d s = some (allFrom s.Items 0 d.Rules) := by
  unfold m_s_l11All
  have lp : ∀ (n i : Nat) (out : List TMatch), i ≤ d.Rules.length → d.Rules.length - i < n → out.length + (d.Rules.length - i) * M ≤ 4294967296 → m_s_l11All_l1 N d s n out i = some (out ++ allFrom s.Items i (d.Rules.drop i)) := by
    intro n
    induction n with
    | zero => intro i _ _ h; omega
    | succ n ih =>
      intro i out hi hn ho
      by_cases hlt : i < d.Rules.length
      · have c1 : decide ((i : Int) < (d.Rules.length : Int)) = true := decide_eq_true (by omega)
        have hr := hz _ (List.getElem_mem hlt)
        have hm := hM _ (List.getElem_mem hlt)
        have hrl := rowsOf_len hr
        rw [List.drop_eq_getElem_cons hlt, allFrom]
        simp only [m_s_l11All_l1, c1, if_true, idx_nat_lt hlt, Option.bind_some, of_s hN _ s hr]
        have ha : (d.Rules.length - i) * M = M + (d.Rules.length - (i + 1)) * M := by
          rw [show d.Rules.length - i = (d.Rules.length - (i + 1)) + 1 by omega, Nat.succ_mul]; omega
        rw [ha] at ho
        have l2 : ∀ (m : Nat) (todo done : List TMatch), todo.length < m → done.length + todo.length = (rowsOf d.Rules[i] s.Items).length → ∀ (u : List TMatch), u.length + todo.length + (d.Rules.length - (i + 1)) * M ≤ 4294967296 →
            m_s_l11All_l2 N (i : Int) (m_s_l11All_l1 N d s n) m u (done ++ todo) (done.length : Int) = some (u ++ todo.map (setRule i) ++ allFrom s.Items (i + 1) (d.Rules.drop (i + 1))) := by
          intro m
          induction m with
          | zero => intro _ _ h; omega
          | succ m ihm =>
            intro todo done hm' hl' u hu
            simp only [m_s_l11All_l2]
            cases todo with
            | nil =>
              have e1 : decide ((done.length : Int) < ((done ++ ([] : List TMatch)).length : Int)) = false := decide_eq_false (by simp)
              rw [e1]
              simp only [Bool.false_eq_true, if_false, wr1 i (by omega)]
              rw [ih (i + 1) u (by omega) (by omega) (by simp at hu; omega)]; simp
            | cons x t =>
              have e1 : decide ((done.length : Int) < ((done ++ x :: t).length : Int)) = true := decide_eq_true (by simp; omega)
              have e2 : idx (done ++ x :: t) (done.length : Int) = some x := by
                rw [idx_nat_lt (show done.length < (done ++ x :: t).length by simp)]; simp
              have hset : (done ++ x :: t).set ((done.length : Int)).toNat (setRule i x) = (done ++ [setRule i x]) ++ t := by
                rw [Int.toNat_natCast, List.set_append_right _ _ (Nat.le_refl _)]; simp
              simp only [List.length_cons] at hm' hl' hu
              rw [e1]
              simp only [if_true, e2, Option.bind_some]
              rw [show (⟨(i : Int), x.Ids, x.Binds⟩ : TMatch) = setRule i x from rfl, app_ok (show u.length + [setRule i x].length ≤ 4294967296 by simp; omega), Option.bind_some, hset, wr1 _ (by omega)]
              have := ihm t (done ++ [setRule i x]) (by omega) (by simp; omega) (u ++ [setRule i x]) (by simp; omega)
              rw [List.length_append, List.length_cons, List.length_nil] at this
              rw [this]; simp
        have := l2 N (rowsOf d.Rules[i] s.Items) [] (by omega) (by simp) out (by omega)
        simp only [List.nil_append, List.length_nil] at this
        rw [show ((0 : Nat) : Int) = 0 from rfl] at this
        rw [this]; simp
      · have c1 : decide ((i : Int) < (d.Rules.length : Int)) = false := decide_eq_false (by omega)
        rw [List.drop_of_length_le (by omega)]
        simp only [m_s_l11All_l1, c1, Bool.false_eq_true, if_false, allFrom, List.append_nil]
  have := lp N 0 [] (by omega) (by omega) (by simpa using hMl)
  simpa using this
end Go.Proofs.YtelchcokfcdndaaGreat
namespace Go.Proofs.YtelchcokfcdndaaGreat
open Eng
set_option linter.unusedVariables false
set_option linter.unusedSimpArgs false
theorem sameVs {N : Nat} (hN : 1099000000000 ≤ N) (x y : List TVal) (hl : x.length ≤ 4294967296) : m_s_l3SameVals N x y = some (decide (x = y)) := by
  unfold m_s_l3SameVals
  by_cases c : x.length = y.length
  · rw [if_neg (by simp; omega)]
    refine (eqloop (m_s_l3SameVals_l1 N x y) x y c (by omega) (fun a b => some (decide (a = b))) (fun a _ b _ => rfl) (fun k i => by simp only [m_s_l3SameVals_l1, eqT_TVal_eq, Option.bind_some]) N 0 (by omega) (by omega)).trans ?_
    simp
  · rw [if_pos (by simp; omega)]
    have : ¬ x = y := fun e => c (by rw [e])
    simp [this]
end Go.Proofs.YtelchcokfcdndaaGreat
namespace Go.Proofs.YtelchcokfcdndaaGreat
open Eng
set_option linter.unusedVariables false
set_option linter.unusedSimpArgs false
theorem sameF_s {N : Nat} (hN : 1099000000000 ≤ N) (x y : TFact) (hl : x.Fields.length ≤ 4294967296) : m_s_SameFact N x y = some (decide (x = y)) := by
  unfold m_s_SameFact
  simp only [sameVs hN _ _ hl, Option.bind_some, andS, seq_eq]
  obtain ⟨a, b⟩ := x; obtain ⟨c, d⟩ := y
  simp only [TFact.mk.injEq, Bool.decide_and]
def idOf (xs : List TItem) (f : TFact) : Int := match xs.find? (fun x => decide (x.F = f)) with | some x => x.Id | none => 0
theorem idOf_cons (x : TItem) (xs : List TItem) (f : TFact) : idOf (x :: xs) f = if x.F = f then x.Id else idOf xs f := by
  unfold idOf
  rw [List.find?_cons]
  by_cases h : x.F = f <;> simp [h]
theorem idOf_s {N : Nat} (hN : 1099000000000 ≤ N) (s : TStore) (f : TFact) (hl : s.Items.length ≤ 1048576) (hx : ∀ x ∈ s.Items, x.F.Fields.length ≤ 1048576) : m_s_IdOf N s f = some (idOf s.Items f) := by
  unfold m_s_IdOf
  refine lp0 hN s.Items (by omega) (m_s_IdOf_l1 N s f) (fun t => some (idOf t f)) (fun n i x t h1 h2 h3 h4 h5 h6 h7 => ?_) (fun n i h1 h2 => ?_)
  · simp only [m_s_IdOf_l1, h5, if_true, h4, Option.bind_some, sameF_s hN x.F f (by have := hx x h2; omega), h6, h7, idOf_cons]
    by_cases h : x.F = f <;> simp [h]
  · simp only [m_s_IdOf_l1, h2, Bool.false_eq_true, if_false]; rfl
end Go.Proofs.YtelchcokfcdndaaGreat
namespace Go.Proofs.YtelchcokfcdndaaGreat
open Eng
set_option linter.unusedVariables false
set_option linter.unusedSimpArgs false
theorem fact_s {N : Nat} (hN : 1099000000000 ≤ N) (f : TFact) (h : SzFact f) : m_s_FactOk N f = some (okFact f) := by
  obtain ⟨h1, h2, h3⟩ := h
  unfold m_s_FactOk okFact m_s_l3Vals
  have d1 : decide ((f.Fields.length : Int) ≤ 5) = decide (f.Fields.length ≤ 5) := by rw [decide_eq_decide]; omega
  have l1 : m_s_l3Vals_l1 N f.Fields N 0 = some (f.Fields.all okVal && decide (f.Fields.length ≤ 5)) := lp0 hN f.Fields (by omega) (m_s_l3Vals_l1 N f.Fields) (fun t => some (t.all okVal && decide (f.Fields.length ≤ 5))) (fun n i x t g1 g2 g3 g4 g5 g6 g7 => by
    simp only [m_s_l3Vals_l1, g5, if_true, g4, Option.bind_some, val_s (show 1048578 ≤ N by omega) x (h3 x g2), val_i (show 1048578 ≤ N by omega) x (h3 x g2), g6, g7, List.all_cons]
    cases okVal x <;> simp) (fun n i g1 g2 => by simp only [m_s_l3Vals_l1, g2, Bool.false_eq_true, if_false, d1]; rfl)
  simp only [okName_s hN _ h1, Option.bind_some, l1, andS]
theorem idOf_done {done t : List TItem} {x : TItem} (h : ∀ y ∈ done, y.Id < x.Id) : decide (idOf (done ++ x :: t) x.F = x.Id) = done.all fun y => !decide (x.F = y.F) := by
  induction done with
  | nil =>
    rw [List.nil_append, idOf_cons, if_pos rfl]; simp
  | cons y d ih =>
    rw [List.cons_append, idOf_cons, List.all_cons]
    by_cases he : y.F = x.F
    · have := h y (by simp)
      rw [if_pos he]
      have e2 : decide (x.F = y.F) = true := decide_eq_true he.symm
      rw [e2, decide_eq_false (by omega)]; simp
    · rw [if_neg he, ih fun z hz => h z (by simp [hz])]
      have e2 : decide (x.F = y.F) = false := decide_eq_false (fun e => he e.symm)
      rw [e2]; simp
theorem store_s {N : Nat} (hN : 1099000000000 ≤ N) (s : TStore) (h : SzStore s) : m_s_StoreOk N s = some (okStore s) := by
  obtain ⟨h1, h2⟩ := h
  unfold m_s_StoreOk okStore
  have d1 : decide ((40 : Int) < (s.Items.length : Int)) = !decide (s.Items.length ≤ 40) := by rw [← decide_not, decide_eq_decide]; omega
  have lp : ∀ (n i : Nat), i ≤ s.Items.length → s.Items.length - i < n → (∀ y ∈ s.Items.take i, ∀ z, (s.Items.take i).getLast? = some z → y.Id ≤ z.Id) → m_s_StoreOk_l1 N s n i = some (itemsOk s.Next (s.Items.take i) (s.Items.drop i)) := by
    intro n
    induction n with
    | zero => intro i _ h; omega
    | succ n ih =>
      intro i hi hm hup
      simp only [m_s_StoreOk_l1]
      by_cases hlt : i < s.Items.length
      · have c1 : decide ((i : Int) < (s.Items.length : Int)) = true := decide_eq_true (by omega)
        have hf := h2 _ (List.getElem_mem hlt)
        have hprev : (if decide (0 < (i : Int)) = true then (idx s.Items (IntKind.i64.wrap ((i : Int) - 1))).bind fun x5 => some (decide (s.Items[i].Id ≤ x5.Id)) else some false) = some (!(lastBelow (s.Items.take i) s.Items[i].Id)) := by
          by_cases h0 : 0 < i
          · have e1 : IntKind.i64.wrap ((i : Int) - 1) = ((i - 1 : Nat) : Int) := by rw [wr (by omega) (by omega)]; omega
            unfold lastBelow; rw [lastTake h0 hi, decide_eq_true (show (0 : Int) < (i : Int) by omega), e1]
            simp only [if_true, idx_nat_lt (show i - 1 < s.Items.length by omega), Option.bind_some]
            rw [← decide_not]; congr 1; rw [decide_eq_decide]; omega
          · have : i = 0 := by omega
            subst this
            simp [lastBelow]
        have htk : s.Items.take (i + 1) = s.Items.take i ++ [s.Items[i]] := List.take_succ_eq_append_getElem hlt
        have hall : s.Items = s.Items.take i ++ s.Items[i] :: s.Items.drop (i + 1) := by
          rw [← List.drop_eq_getElem_cons hlt, List.take_append_drop]
        rw [List.drop_eq_getElem_cons hlt, itemsOk, ← htk]
        simp only [c1, if_true, idx_nat_lt hlt, Option.bind_some, fact_s hN _ hf, hprev, idOf_s hN s s.Items[i].F (by omega) (fun x hx => (h2 x hx).2.1), wr1 i (by omega)]
        cases okFact s.Items[i].F with
        | false => simp
        | true =>
          by_cases hid : 1 ≤ s.Items[i].Id
          · by_cases hnx : s.Items[i].Id < s.Next
            · have e1 : decide (s.Items[i].Id < 1) = false := decide_eq_false (by omega)
              have e2 : decide (s.Next ≤ s.Items[i].Id) = false := decide_eq_false (by omega)
              rw [e1, e2, decide_eq_true hid, decide_eq_true hnx]
              cases hl : (lastBelow (s.Items.take i) s.Items[i].Id) with
              | false => simp
              | true =>
                have hlow : ∀ y ∈ s.Items.take i, y.Id < s.Items[i].Id := by
                  intro y hy
                  cases hg : (s.Items.take i).getLast? with
                  | none => rw [List.getLast?_eq_none_iff] at hg; rw [hg] at hy; cases hy
                  | some z =>
                    unfold lastBelow at hl
                    rw [hg] at hl
                    have := of_decide_eq_true hl
                    have := hup y hy z hg
                    omega
                have hd := idOf_done (t := s.Items.drop (i + 1)) hlow
                rw [← hall] at hd
                have ih1 := ih (i + 1) (by omega) (by omega) (by
                  intro y hy z hz
                  rw [htk] at hy hz
                  rw [List.getLast?_concat] at hz
                  have hz := Option.some.inj hz
                  rcases List.mem_append.1 hy with hy | hy
                  · have := hlow y hy; rw [← hz]; omega
                  · simp at hy; rw [hy, ← hz]; exact Int.le_refl _)
                simp only [Bool.not_true, Bool.false_eq_true, if_false, Option.bind_some, hd, ih1, Bool.true_and, Bool.and_self]
                cases (s.Items.take i).all fun y => !decide (s.Items[i].F = y.F) <;> simp
            · have e2 : decide (s.Next ≤ s.Items[i].Id) = true := decide_eq_true (by omega)
              rw [e2, decide_eq_false hnx]
              cases decide (s.Items[i].Id < 1) <;> simp
          · have e1 : decide (s.Items[i].Id < 1) = true := decide_eq_true (by omega)
            rw [e1, decide_eq_false hid]
            simp
      · have c1 : decide ((i : Int) < (s.Items.length : Int)) = false := decide_eq_false (by omega)
        rw [List.drop_of_length_le (by omega)]
        simp only [c1, Bool.false_eq_true, if_false]; rfl
  have l0 := lp N 0 (by omega) (by omega) (by simp)
  rw [List.take_zero, List.drop_zero, show ((0 : Nat) : Int) = 0 from rfl] at l0
  simp only [in0, Option.bind_some, d1, l0]
  cases (decide (1 ≤ s.Next) && decide (s.Next ≤ 1000000)) <;> cases decide (s.Items.length ≤ 40) <;> simp
end Go.Proofs.YtelchcokfcdndaaGreat
namespace Go.Proofs.YtelchcokfcdndaaGreat
open Eng
set_option linter.unusedVariables false
set_option linter.unusedSimpArgs false
theorem allM_s {N : Nat} (hN : 1099400000000 ≤ N) (d : TDef) (s : TStore) (hd : SzDef d) (hs : SzStore s) : m_s_AllMatches N d s = some (allMatches d s) := by
  unfold m_s_AllMatches allMatches
  rw [def_s (by omega) d hd, Option.bind_some, store_s (by omega) s hs]
  cases h1 : okDef d with
  | false => simp
  | true =>
    cases h2 : okStore s with
    | false => simp
    | true =>
      have hl := okDef_len h1
      have hr := okDef_rule h1
      have := all_s hN d s (by omega) (fun r h => ok_rows (hr r h) h2) 64000 (fun r h => ok_rowsOf (hr r h) h2) (by omega)
      simp [this]
end Go.Proofs.YtelchcokfcdndaaGreat
namespace Go.Proofs.YtelchcokfcdndaaGreat
open Eng
set_option linter.unusedVariables false
set_option linter.unusedSimpArgs false
theorem matches_i {N : Nat} (hN : 1099400000000 ≤ N) (r : TRule) (s : TStore) (hr : SzRule r) (hs : SzStore s) : m_i_MatchesOf N r s = some (matchesOf r s) := by
  unfold m_i_MatchesOf matchesOf
  rw [rule_i (by omega) r hr, Option.bind_some, store_i (by omega) s hs]
  cases h1 : okRule r with
  | false => simp
  | true =>
    cases h2 : okStore s with
    | false => simp
    | true => simp [in_i hN r s (ok_rows h1 h2) (okRule_pos h1)]
end Go.Proofs.YtelchcokfcdndaaGreat
namespace Go.Proofs.YtelchcokfcdndaaGreat
open Eng
set_option linter.unusedVariables false
set_option linter.unusedSimpArgs false
theorem sameBinds {N : Nat} (hN : 1099000000000 ≤ N) (x y : List TBind) (hl : x.length ≤ 4294967296) : m_l_sameBinds N x y = some (decide (x = y)) := by
  unfold m_l_sameBinds
  by_cases c : x.length = y.length
  · rw [if_neg (by simp; omega)]
    refine (eqloop (m_l_sameBinds_l1 N x y) x y c (by omega) (fun a b => some (decide (a = b))) (fun a _ b _ => rfl) (fun k i => by simp only [m_l_sameBinds_l1, eqT_TBind_eq, Option.bind_some]) N 0 (by omega) (by omega)).trans ?_
    simp
  · rw [if_pos (by simp; omega)]
    have : ¬ x = y := fun e => c (by rw [e])
    simp [this]
end Go.Proofs.YtelchcokfcdndaaGreat
namespace Go.Proofs.YtelchcokfcdndaaGreat
open Eng
set_option linter.unusedVariables false
set_option linter.unusedSimpArgs false
theorem sameNs {N : Nat} (hN : 1099000000000 ≤ N) (x y : List Int) (hl : x.length ≤ 4294967296) : m_l_sameInts N x y = some (decide (x = y)) := by
  unfold m_l_sameInts
  by_cases c : x.length = y.length
  · rw [if_neg (by simp; omega)]
    refine (eqloop (m_l_sameInts_l1 N x y) x y c (by omega) (fun a b => some (decide (a = b))) (fun a _ b _ => rfl) (fun k i => rfl) N 0 (by omega) (by omega)).trans ?_
    simp
  · rw [if_pos (by simp; omega)]
    have : ¬ x = y := fun e => c (by rw [e])
    simp [this]
end Go.Proofs.YtelchcokfcdndaaGreat
namespace Go.Proofs.YtelchcokfcdndaaGreat
open Eng
set_option linter.unusedVariables false
set_option linter.unusedSimpArgs false
theorem and_le (i : Int) (m : Nat) (h : m < 4611686018427387904) : 0 ≤ andI .i64 i (m : Int) ∧ andI .i64 i (m : Int) ≤ (m : Int) := by
  unfold andI
  have h1 : ((BitVec.ofInt IntKind.i64.bits i) &&& (BitVec.ofInt IntKind.i64.bits (m : Int))).toNat ≤ m := by
    rw [BitVec.toNat_and]
    have h2 : (BitVec.ofInt IntKind.i64.bits (m : Int)).toNat = m := by
      rw [BitVec.toNat_ofInt]
      have : ((2 ^ IntKind.i64.bits : Nat) : Int) = 18446744073709551616 := by decide
      rw [this, Int.emod_eq_of_lt (by omega) (by omega)]
      simp
    rw [h2]; exact Nat.and_le_right
  rw [wr (by omega) (by omega)]
  omega
theorem and255 (i : Int) : 0 ≤ andI .i64 i 255 ∧ andI .i64 i 255 ≤ 255 := and_le i 255 (by omega)
def GC (b : List Int) (c : Tl1Cur) : Prop := c.b = b ∧ 0 ≤ c.i ∧ c.i ≤ (b.length : Int)
theorem GC.re {b : List Int} {c d : Tl1Cur} (h : GC b c) (h' : d.b = b) : GC b (⟨d.b, c.i, c.h⟩ : Tl1Cur) := ⟨h', h.2⟩
theorem new_ok {N : Nat} (hN : 1099000000000 ≤ N) (b : List Int) (hb : b.length ≤ 1048576) : ∃ c, m_s_l1New N b = some c ∧ GC b c := by
  unfold m_s_l1New
  have : ∀ (n i : Nat) (h : Int), i ≤ b.length → b.length - i < n → ∃ c, m_s_l1New_l1 N b n h i = some c ∧ GC b c := by
    intro n
    induction n with
    | zero => intro i h _ h'; omega
    | succ n ih =>
      intro i h hi hn
      simp only [m_s_l1New_l1]
      by_cases hlt : i < b.length
      · have c1 : decide ((i : Int) < (b.length : Int)) = true := decide_eq_true (by omega)
        simp only [c1, if_true, Option.bind_some, idx_nat_lt hlt, wr1 i (by omega)]
        split
        · exact ih (i + 1) _ (by omega) (by omega)
        · exact ⟨_, rfl, rfl, by simp, by simp⟩
      · have c1 : decide ((i : Int) < (b.length : Int)) = false := decide_eq_false (by omega)
        simp only [c1, Bool.false_eq_true, if_false, Option.bind_some]
        exact ⟨_, rfl, rfl, by simp, by simp⟩
  exact this N 0 _ (by omega) (by omega)
theorem byte_ok {N : Nat} (b : List Int) (hb : b.length ≤ 1048576) (c : Tl1Cur) (hc : GC b c) : ∃ v d, m_s_l1Byte N c = some (v, d) ∧ GC b d ∧ 0 ≤ v ∧ v ≤ 255 := by
  obtain ⟨rfl, h0, h1⟩ := hc
  unfold m_s_l1Byte
  by_cases hlt : c.i < (c.b.length : Int)
  · obtain ⟨i, hi⟩ : ∃ i : Nat, c.i = (i : Int) := ⟨c.i.toNat, by omega⟩
    have c1 : decide (c.i < (c.b.length : Int)) = true := decide_eq_true hlt
    rw [hi] at h0 h1 hlt ⊢
    rw [hi] at c1
    simp only [c1, if_true, idx_nat_lt (show i < c.b.length by omega), Option.bind_some, wr1 i (by omega)]
    exact ⟨_, _, rfl, ⟨rfl, by simp; omega, by simp; omega⟩, and255 _⟩
  · have c1 : decide (c.i < (c.b.length : Int)) = false := decide_eq_false hlt
    simp only [c1, Bool.false_eq_true, if_false]
    exact ⟨_, _, rfl, ⟨rfl, h0, h1⟩, and255 _⟩
theorem rem_ok {v n : Int} (hv : 0 ≤ v) (hn : 0 < n) : ∃ r, remI v n = some r ∧ 0 ≤ r ∧ r < n := by
  unfold remI
  rw [if_neg (by omega), Int.tmod_eq_emod_of_nonneg hv]
  exact ⟨_, rfl, Int.emod_nonneg _ (by omega), Int.emod_lt_of_pos _ hn⟩
theorem below_ok {N : Nat} (b : List Int) (hb : b.length ≤ 1048576) (c : Tl1Cur) (hc : GC b c) (n : Int) : ∃ v d, m_s_l1Below N c n = some (v, d) ∧ GC b d ∧ 0 ≤ v ∧ (0 < n → v < n) ∧ (n ≤ 0 → v = 0) := by
  unfold m_s_l1Below
  by_cases h0 : n ≤ 0
  · simp only [h0, decide_true, if_true]
    exact ⟨_, _, rfl, hc, by omega, by omega, fun _ => rfl⟩
  · simp only [h0, decide_false, Bool.false_eq_true, if_false]
    by_cases h1 : n ≤ 256
    · simp only [h1, decide_true, if_true]
      obtain ⟨v, d, e, g, a1, a2⟩ := byte_ok (N := N) b hb c hc
      obtain ⟨r, er, r0, r1⟩ := rem_ok a1 (show 0 < n by omega)
      simp only [e, Option.bind_some, er]
      exact ⟨_, _, rfl, g.re hc.1 |> fun _ => ⟨hc.1, g.2⟩, r0, fun _ => r1, fun h => h.elim⟩
    · simp only [h1, decide_false, Bool.false_eq_true, if_false]
      obtain ⟨v1, d1, e1, g1, a1, a1'⟩ := byte_ok (N := N) b hb c hc
      simp only [e1, Option.bind_some]
      obtain ⟨v2, d2, e2, g2, a2, a2'⟩ := byte_ok (N := N) b hb ⟨c.b, d1.i, d1.h⟩ ⟨hc.1, g1.2⟩
      simp only [e2, Option.bind_some]
      obtain ⟨v3, d3, e3, g3, a3, a3'⟩ := byte_ok (N := N) b hb ⟨c.b, d2.i, d2.h⟩ ⟨hc.1, g2.2⟩
      simp only [e3, Option.bind_some]
      rw [wr (n := v1 * 65536) (by omega) (by omega), wr (n := v2 * 256) (by omega) (by omega), wr (n := v1 * 65536 + v2 * 256) (by omega) (by omega), wr (n := v1 * 65536 + v2 * 256 + v3) (by omega) (by omega)]
      obtain ⟨r, er, r0, r1⟩ := rem_ok (show 0 ≤ v1 * 65536 + v2 * 256 + v3 by omega) (show 0 < n by omega)
      simp only [er, Option.bind_some]
      exact ⟨_, _, rfl, ⟨hc.1, g3.2⟩, r0, fun _ => r1, fun h => h.elim⟩
theorem wrm {s : Int} (h : 0 < s) (h' : s ≤ 4611686018427387904) : IntKind.i64.wrap (s - 1) = s - 1 := wr (by omega) (by omega)
end Go.Proofs.YtelchcokfcdndaaGreat
namespace Go.Proofs.YtelchcokfcdndaaGreat
open Eng
set_option linter.unusedVariables false
set_option linter.unusedSimpArgs false
def Dr {α : Type} (b : List Int) (Q : α → Prop) (o : Option (α × Tl1Cur)) : Prop := ∃ v d, o = some (v, d) ∧ GC b d ∧ Q v
theorem Dr.bind {α β : Type} {b : List Int} {Q : α → Prop} {R : β → Prop} {o : Option (α × Tl1Cur)} {f : α × Tl1Cur → Option (β × Tl1Cur)} (h : Dr b Q o) (k : ∀ v d, GC b d → Q v → Dr b R (f (v, d))) : Dr b R (o.bind f) := by
  obtain ⟨v, d, rfl, g, q⟩ := h; exact k v d g q
theorem Dr.bindO {γ β : Type} {b : List Int} {R : β → Prop} {x : γ} {o : Option γ} {f : γ → Option (β × Tl1Cur)} (h : o = some x) (k : Dr b R (f x)) : Dr b R (o.bind f) := by
  rw [h]; exact k
theorem Dr.ret {α : Type} {b : List Int} {Q : α → Prop} {v : α} {c : Tl1Cur} (g : GC b c) (q : Q v) : Dr b Q (some (v, c)) := ⟨v, c, rfl, g, q⟩
theorem Dr.ite {α : Type} {b : List Int} {Q : α → Prop} {x y : Option (α × Tl1Cur)} {p : Bool} (h1 : p = true → Dr b Q x) (h2 : p = false → Dr b Q y) : Dr b Q (if p = true then x else y) := by
  cases p with
  | true => exact h1 rfl
  | false => exact h2 rfl
theorem GC.at {b : List Int} {c d : Tl1Cur} (g : GC b d) (h : c.b = b) : GC b (⟨c.b, d.i, d.h⟩ : Tl1Cur) := ⟨h, g.2⟩
theorem below_d {N : Nat} {b : List Int} (hb : b.length ≤ 1048576) {c : Tl1Cur} (g : GC b c) (n : Int) (hn : 0 < n) : Dr b (fun v => 0 ≤ v ∧ v < n) (m_s_l1Below N c n) := by
  obtain ⟨v, d, e, g, h1, h2, -⟩ := below_ok (N := N) b hb c g n
  exact ⟨v, d, e, g, h1, h2 hn⟩
theorem below_d' {N : Nat} {b : List Int} (hb : b.length ≤ 1048576) {c : Tl1Cur} (g : GC b c) (n : Int) : Dr b (fun v => 0 ≤ v ∧ (0 < n → v < n)) (m_s_l1Below N c n) := by
  obtain ⟨v, d, e, g, h1, h2, -⟩ := below_ok (N := N) b hb c g n
  exact ⟨v, d, e, g, h1, h2⟩
theorem app_sm {α : Type} {xs ys : List α} (h : xs.length ≤ 4194304) (h' : ys.length ≤ 4194304) : app xs ys = some (xs ++ ys) := app_ok (by omega)
theorem mem_snoc {α : Type} {P : α → Prop} {xs : List α} {x : α} (h : ∀ a ∈ xs, P a) (h' : P x) : ∀ a ∈ xs ++ [x], P a := fun a ha => by
  rcases List.mem_append.1 ha with h1 | h1
  · exact h a h1
  · simp at h1; rw [h1]; exact h'
end Go.Proofs.YtelchcokfcdndaaGreat
namespace Go.Proofs.YtelchcokfcdndaaGreat
open Eng
theorem once_d {N : Nat} {b : List Int} (hb : b.length ≤ 1048576) {c : Tl1Cur} (g : GC b c) (n : Int) : Dr b (fun _ => True) (m_s_l1Once N c n) := by
  unfold m_s_l1Once
  exact (below_d' hb g n).bind fun v d gd _ => .ret (gd.at g.1) trivial
end Go.Proofs.YtelchcokfcdndaaGreat
namespace Go.Proofs.YtelchcokfcdndaaGreat
open Eng
theorem str_d {N : Nat} {b : List Int} (hb : b.length ≤ 1048576) {c : Tl1Cur} (g : GC b c) (l : List ByteArray) (h : 0 < l.length) : Dr b (fun s => s ∈ l) (m_s_l1Str N c l) := by
  unfold m_s_l1Str
  refine (below_d hb g (l.length : Int) (by omega)).bind fun v d gd q => ?_
  obtain ⟨j, rfl⟩ : ∃ j : Nat, v = (j : Int) := ⟨v.toNat, by omega⟩
  exact .bindO (idx_nat_lt (show j < l.length by omega)) (.ret (gd.at g.1) (List.getElem_mem _))
end Go.Proofs.YtelchcokfcdndaaGreat
namespace Go.Proofs.YtelchcokfcdndaaGreat
open Eng
def drVal (v : TVal) : Prop := (∃ n : Int, 1 ≤ n ∧ n ≤ 3 ∧ v = ⟨1, n, ⟨#[]⟩⟩) ∨ ∃ s ∈ ([⟨#[97]⟩, ⟨#[98]⟩] : List ByteArray), v = ⟨2, 0, s⟩
theorem small_d {N : Nat} {b : List Int} (hb : b.length ≤ 1048576) {c : Tl1Cur} (g : GC b c) : Dr b drVal (m_s_l3Small N c) := by
  unfold m_s_l3Small
  refine (once_d hb g 2).bind fun v d gd _ => .ite (fun _ => ?_) fun _ => ?_
  · exact (below_d hb (gd.at g.1) 3 (by omega)).bind fun w e ge q => .ret (ge.at g.1) (.inl ⟨_, by dsimp only; rw [wr (by omega) (by omega)]; omega, by dsimp only; rw [wr (by omega) (by omega)]; omega, rfl⟩)
  · exact (str_d hb (gd.at g.1) _ (by decide)).bind fun w e ge q => .ret (ge.at g.1) (.inr ⟨w, q, rfl⟩)
theorem drVal_sz {v : TVal} (h : drVal v) : v.S.size ≤ 16 := by
  rcases h with ⟨n, _, _, rfl⟩ | ⟨s, hs, rfl⟩
  · show (0 : Nat) ≤ 16; omega
  · exact (show ∀ s ∈ ([⟨#[97]⟩, ⟨#[98]⟩] : List ByteArray), s.size ≤ 16 by decide) s hs
end Go.Proofs.YtelchcokfcdndaaGreat
namespace Go.Proofs.YtelchcokfcdndaaGreat
open Eng
set_option linter.unusedVariables false
def shArg (a : TArg) : Prop := a.S.size ≤ 16 ∧ a.V.S.size ≤ 16
def shPat (p : TPat) : Prop := p.Kind.size ≤ 16 ∧ p.Args.length ≤ 16 ∧ ∀ a ∈ p.Args, shArg a
def drArg (a : TArg) : Prop := a = ⟨3, ⟨#[]⟩, ⟨0, 0, ⟨#[]⟩⟩⟩ ∨ (∃ v, drVal v ∧ a = ⟨2, ⟨#[]⟩, v⟩) ∨ ∃ s ∈ ([⟨#[88]⟩, ⟨#[89]⟩, ⟨#[90]⟩, ⟨#[88]⟩] : List ByteArray), a = ⟨1, s, ⟨0, 0, ⟨#[]⟩⟩⟩
theorem drArg_sz {a : TArg} (h : drArg a) : shArg a := by
  rcases h with rfl | ⟨v, hv, rfl⟩ | ⟨s, hs, rfl⟩
  · exact ⟨Nat.zero_le _, Nat.zero_le _⟩
  · exact ⟨Nat.zero_le _, drVal_sz hv⟩
  · exact ⟨(show ∀ s ∈ ([⟨#[88]⟩, ⟨#[89]⟩, ⟨#[90]⟩, ⟨#[88]⟩] : List ByteArray), s.size ≤ 16 by decide) s hs, Nat.zero_le _⟩
theorem arg_d {N : Nat} {b : List Int} (hb : b.length ≤ 1048576) {c : Tl1Cur} (g : GC b c) : Dr b drArg (m_s_l6Arg N c) := by
  unfold m_s_l6Arg
  refine (below_d hb g 6 (by omega)).bind fun v d gd _ => .ite (fun _ => .ret (gd.at g.1) (.inl rfl)) fun _ => .ite (fun _ => ?_) fun _ => ?_
  · exact (small_d hb (gd.at g.1)).bind fun w e ge q => .bindO rfl (.ret (ge.at g.1) (.inr (.inl ⟨w, q, rfl⟩)))
  · exact (str_d hb (gd.at g.1) _ (by decide)).bind fun w e ge q => .bindO rfl (.ret (ge.at g.1) (.inr (.inr ⟨w, q, rfl⟩)))
def drPat (n : Bool) (p : TPat) : Prop := p.Not = n ∧ p.Kind ∈ ([⟨#[111, 114, 100, 101, 114]⟩, ⟨#[112, 97, 105, 100]⟩, ⟨#[105, 116, 101, 109]⟩, ⟨#[111, 114, 100, 101, 114]⟩] : List ByteArray) ∧ p.Args.length ≤ 2 ∧ ∀ a ∈ p.Args, drArg a
theorem drPat_sz {n : Bool} {p : TPat} (h : drPat n p) : shPat p := by
  obtain ⟨_, h1, h2, h3⟩ := h
  exact ⟨(show ∀ s ∈ ([⟨#[111, 114, 100, 101, 114]⟩, ⟨#[112, 97, 105, 100]⟩, ⟨#[105, 116, 101, 109]⟩, ⟨#[111, 114, 100, 101, 114]⟩] : List ByteArray), s.size ≤ 16 by decide) _ h1, by omega, fun a ha => drArg_sz (h3 a ha)⟩
theorem pat_d {N : Nat} (hN : 1099000000000 ≤ N) {b : List Int} (hb : b.length ≤ 1048576) {c : Tl1Cur} (g : GC b c) (nt : Bool) : Dr b (drPat nt) (m_s_l6Draw N c nt) := by
  unfold m_s_l6Draw
  refine (str_d hb g _ (by decide)).bind fun k d gd hk => ?_
  have lp : ∀ (m : Nat), m ≤ 2 → ∀ (n i : Nat) (s : List TArg) (x h : Int), i ≤ m → m - i < n → s.length = i → (∀ a ∈ s, drArg a) → GC b ⟨c.b, x, h⟩ → Dr b (drPat nt) (m_s_l6Draw_l2 N c nt (k, d) (m : Int) n s (i : Int) x h) := by
    intro m hm n
    induction n with
    | zero => intro i _ _ _ _ h; omega
    | succ n ih =>
      intro i s x h hi hn hs ha gx
      simp only [m_s_l6Draw_l2]
      refine .ite (fun hlt => ?_) (fun hge => .ret gx ⟨rfl, hk, by dsimp only; omega, ha⟩)
      have hlt := of_decide_eq_true hlt
      refine (arg_d hb gx).bind fun a e ge q => .bindO (app_sm (by omega) (by simp)) ?_
      rw [wr1 i (by omega)]
      exact ih (i + 1) _ _ _ (by omega) (by omega) (by simp; omega) (mem_snoc ha q) (ge.at (c := ⟨c.b, x, h⟩) gx.1)
  exact .ite (fun _ => lp 2 (by omega) N 0 [] _ _ (by omega) (by omega) rfl (by simp) (gd.at g.1)) (fun _ => lp 1 (by omega) N 0 [] _ _ (by omega) (by omega) rfl (by simp) (gd.at g.1))
end Go.Proofs.YtelchcokfcdndaaGreat
namespace Go.Proofs.YtelchcokfcdndaaGreat
open Eng
set_option linter.unusedVariables false
def shCond (c : TCond) : Prop := shArg c.L ∧ shArg c.R
def drTerm (a : TArg) : Prop := (∃ v, drVal v ∧ a = ⟨2, ⟨#[]⟩, v⟩) ∨ ∃ s ∈ ([⟨#[88]⟩, ⟨#[89]⟩, ⟨#[90]⟩, ⟨#[88]⟩] : List ByteArray), a = ⟨1, s, ⟨0, 0, ⟨#[]⟩⟩⟩
theorem drTerm_arg {a : TArg} (h : drTerm a) : drArg a := .inr h
theorem term_d {N : Nat} {b : List Int} (hb : b.length ≤ 1048576) {c : Tl1Cur} (g : GC b c) : Dr b drTerm (m_s_l7Arg N c) := by
  unfold m_s_l7Arg
  refine (once_d hb g 3).bind fun v d gd _ => .ite (fun _ => ?_) fun _ => ?_
  · exact (small_d hb (gd.at g.1)).bind fun w e ge q => .bindO rfl (.ret (ge.at g.1) (.inl ⟨w, q, rfl⟩))
  · exact (str_d hb (gd.at g.1) _ (by decide)).bind fun w e ge q => .bindO rfl (.ret (ge.at g.1) (.inr ⟨w, (show ∀ s ∈ ([⟨#[88]⟩, ⟨#[89]⟩] : List ByteArray), s ∈ ([⟨#[88]⟩, ⟨#[89]⟩, ⟨#[90]⟩, ⟨#[88]⟩] : List ByteArray) by simp) w q, rfl⟩))
def drCond (c : TCond) : Prop := 1 ≤ c.Op ∧ c.Op ≤ 3 ∧ drTerm c.L ∧ drTerm c.R
theorem drCond_sz {c : TCond} (h : drCond c) : shCond c := ⟨drArg_sz (drTerm_arg h.2.2.1), drArg_sz (drTerm_arg h.2.2.2)⟩
theorem cond_d {N : Nat} {b : List Int} (hb : b.length ≤ 1048576) {c : Tl1Cur} (g : GC b c) : Dr b drCond (m_s_l7Draw N c) := by
  unfold m_s_l7Draw
  refine (below_d hb g 3 (by omega)).bind fun v d gd q => (term_d hb (gd.at g.1)).bind fun l e ge ql => (term_d hb (ge.at g.1)).bind fun r f gf qr => .ret (gf.at g.1) ⟨?_, ?_, ql, qr⟩
  · dsimp only; rw [wr (by omega) (by omega)]; omega
  · dsimp only; rw [wr (by omega) (by omega)]; omega
end Go.Proofs.YtelchcokfcdndaaGreat
namespace Go.Proofs.YtelchcokfcdndaaGreat
open Eng
theorem int_d {N : Nat} {b : List Int} (hb : b.length ≤ 1048576) {c : Tl1Cur} (g : GC b c) (l : List Int) (h : 0 < l.length) : Dr b (fun s => s ∈ l) (m_s_l1Int N c l) := by
  unfold m_s_l1Int
  refine (below_d hb g (l.length : Int) (by omega)).bind fun v d gd q => ?_
  obtain ⟨j, rfl⟩ : ∃ j : Nat, v = (j : Int) := ⟨v.toNat, by omega⟩
  exact .bindO (idx_nat_lt (show j < l.length by omega)) (.ret (gd.at g.1) (List.getElem_mem _))
end Go.Proofs.YtelchcokfcdndaaGreat
namespace Go.Proofs.YtelchcokfcdndaaGreat
open Eng
set_option linter.unusedVariables false
def shExpr (e : TExpr) : Prop := e.Op.size ≤ 16 ∧ shArg e.L ∧ shArg e.R
def shAct (a : TAct) : Prop := a.Name.size ≤ 16 ∧ a.Args.length ≤ 16 ∧ (∀ e ∈ a.Args, shExpr e) ∧ a.Undo.size ≤ 16
def noArg : TArg := ⟨0, ⟨#[]⟩, ⟨0, 0, ⟨#[]⟩⟩⟩
def exprW (T : TArg → Prop) (e : TExpr) : Prop := T e.L ∧ ((e.Op = ⟨#[]⟩ ∧ e.R = noArg) ∨ e.Op ∈ ([⟨#[43]⟩, ⟨#[45]⟩] : List ByteArray) ∧ T e.R)
theorem exprW_sz {T : TArg → Prop} (hT : ∀ a, T a → shArg a) {e : TExpr} (h : exprW T e) : shExpr e := by
  obtain ⟨h1, ⟨h2, h3⟩ | ⟨h2, h3⟩⟩ := h
  · exact ⟨by rw [h2]; exact Nat.zero_le _, hT _ h1, by rw [h3]; exact ⟨Nat.zero_le _, Nat.zero_le _⟩⟩
  · exact ⟨(show ∀ s ∈ ([⟨#[43]⟩, ⟨#[45]⟩] : List ByteArray), s.size ≤ 16 by decide) _ h2, hT _ h1, hT _ h3⟩
theorem expr_d {N : Nat} {b : List Int} (hb : b.length ≤ 1048576) {c : Tl1Cur} (g : GC b c) : Dr b (exprW drTerm) (m_s_l8Expr N c) := by
  unfold m_s_l8Expr
  refine (term_d hb g).bind fun l d gd ql => (once_d hb (gd.at g.1) 4).bind fun v e ge _ => .ite (fun _ => ?_) fun _ => ?_
  · exact (str_d hb (ge.at g.1) _ (by decide)).bind fun o f gf qo => (term_d hb (gf.at g.1)).bind fun r k gk qr => .ret (gk.at g.1) ⟨ql, .inr ⟨qo, qr⟩⟩
  · exact .ret (ge.at g.1) ⟨ql, .inl ⟨rfl, rfl⟩⟩
def actW (T : TArg → Prop) (pos : Int) (a : TAct) : Prop := a.Args.length ≤ 2 ∧ (∀ e ∈ a.Args, exprW T e) ∧
  ((a.Kind = 2 ∧ a.Name = ⟨#[]⟩ ∧ a.Args = [] ∧ 0 ≤ a.N ∧ (0 < pos → a.N < pos) ∧ a.Undo = ⟨#[]⟩) ∨
   ((a.Kind = 5 ∨ a.Kind = 6) ∧ a.Name = ⟨#[]⟩ ∧ a.Args = [] ∧ a.N = 0 ∧ a.Undo = ⟨#[]⟩) ∨
   ((a.Kind = 1 ∨ a.Kind = 3 ∨ a.Kind = 4) ∧ a.Name ∈ ([⟨#[111, 114, 100, 101, 114]⟩, ⟨#[112, 97, 105, 100]⟩, ⟨#[105, 116, 101, 109]⟩, ⟨#[115, 104, 105, 112]⟩, ⟨#[99, 104, 97, 114, 103, 101]⟩] : List ByteArray) ∧
     (a.N = 0 ∨ a.Kind = 4 ∧ a.N ∈ ([0, 1, 5, 100000] : List Int)) ∧ (a.Undo = ⟨#[]⟩ ∨ a.Kind = 3 ∧ a.Undo ∈ ([⟨#[114, 101, 102, 117, 110, 100]⟩, ⟨#[99, 97, 110, 99, 101, 108]⟩] : List ByteArray))))
theorem actW_sz {T : TArg → Prop} (hT : ∀ a, T a → shArg a) {pos : Int} {a : TAct} (h : actW T pos a) : shAct a := by
  obtain ⟨h1, h2, h3⟩ := h
  refine ⟨?_, by omega, fun e he => exprW_sz hT (h2 e he), ?_⟩
  · rcases h3 with h | h | h
    · rw [h.2.1]; exact Nat.zero_le _
    · rw [h.2.1]; exact Nat.zero_le _
    · exact (show ∀ s ∈ ([⟨#[111, 114, 100, 101, 114]⟩, ⟨#[112, 97, 105, 100]⟩, ⟨#[105, 116, 101, 109]⟩, ⟨#[115, 104, 105, 112]⟩, ⟨#[99, 104, 97, 114, 103, 101]⟩] : List ByteArray), s.size ≤ 16 by decide) _ h.2.1
  · rcases h3 with h | h | h
    · rw [h.2.2.2.2.2]; exact Nat.zero_le _
    · rw [h.2.2.2.2]; exact Nat.zero_le _
    · rcases h.2.2.2 with h | h
      · rw [h]; exact Nat.zero_le _
      · exact (show ∀ s ∈ ([⟨#[114, 101, 102, 117, 110, 100]⟩, ⟨#[99, 97, 110, 99, 101, 108]⟩] : List ByteArray), s.size ≤ 16 by decide) _ h.2
theorem act_d {N : Nat} (hN : 1099000000000 ≤ N) {b : List Int} (hb : b.length ≤ 1048576) {c : Tl1Cur} (g : GC b c) (pos : Int) : Dr b (actW drTerm pos) (m_s_l8Draw N c pos) := by
  unfold m_s_l8Draw
  refine (int_d hb g _ (by decide)).bind fun k d gd hk => ?_
  dsimp only
  by_cases k2 : k = 2
  · refine .ite (fun _ => ?_) (fun h => absurd k2 (of_decide_eq_false h))
    exact (below_d' hb (gd.at g.1) pos).bind fun v e ge q => .ret (ge.at g.1) ⟨by simp, by simp, .inl ⟨k2, rfl, rfl, q.1, q.2, rfl⟩⟩
  refine .ite (fun h => absurd (of_decide_eq_true h) k2) (fun _ => ?_)
  have j5 : ∀ (nm : ByteArray) (d0 : Tl1Cur) (s3 : List TExpr) (n : Int) (q : Bool) (x h : Int), GC b ⟨c.b, x, h⟩ → (q = true → k = 3) →
      (∀ u, (u = (⟨#[]⟩ : ByteArray) ∨ k = 3 ∧ u ∈ ([⟨#[114, 101, 102, 117, 110, 100]⟩, ⟨#[99, 97, 110, 99, 101, 108]⟩] : List ByteArray)) → actW drTerm pos ⟨k, nm, s3, n, u⟩) → Dr b (actW drTerm pos) (m_s_l8Draw_j5 N c (k, d) (nm, d0) s3 n q x h) := by
    intro nm d0 s3 n q x h gx hq hu
    unfold m_s_l8Draw_j5
    refine .ite (fun hq' => ?_) (fun _ => .ret gx (hu _ (.inl rfl)))
    exact (str_d hb gx _ (by decide)).bind fun u e ge qu => .ret (ge.at (c := ⟨c.b, x, h⟩) gx.1) (hu _ (.inr ⟨hq hq', qu⟩))
  have j4 : ∀ (nm : ByteArray) (d0 : Tl1Cur) (s3 : List TExpr) (n : Int) (x h : Int), GC b ⟨c.b, x, h⟩ →
      (∀ u, (u = (⟨#[]⟩ : ByteArray) ∨ k = 3 ∧ u ∈ ([⟨#[114, 101, 102, 117, 110, 100]⟩, ⟨#[99, 97, 110, 99, 101, 108]⟩] : List ByteArray)) → actW drTerm pos ⟨k, nm, s3, n, u⟩) → Dr b (actW drTerm pos) (m_s_l8Draw_j4 N c (k, d) (nm, d0) s3 x h n) := by
    intro nm d0 s3 n x h gx hu
    unfold m_s_l8Draw_j4
    refine .ite (fun h3 => ?_) (fun _ => j5 _ _ _ _ _ _ _ gx (fun h => by simp at h) hu)
    exact (once_d hb gx 2).bind fun u e ge _ => j5 _ _ _ _ _ _ _ (ge.at (c := ⟨c.b, x, h⟩) gx.1) (fun _ => of_decide_eq_true h3) hu
  have lp : ∀ (nm : ByteArray) (d0 : Tl1Cur), nm ∈ ([⟨#[111, 114, 100, 101, 114]⟩, ⟨#[112, 97, 105, 100]⟩, ⟨#[105, 116, 101, 109]⟩, ⟨#[115, 104, 105, 112]⟩, ⟨#[99, 104, 97, 114, 103, 101]⟩] : List ByteArray) → (k = 1 ∨ k = 3 ∨ k = 4) →
      ∀ (m : Nat), m ≤ 2 → ∀ (n i : Nat) (s : List TExpr) (x h : Int), i ≤ m → m - i < n → s.length = i → (∀ a ∈ s, exprW drTerm a) → GC b ⟨c.b, x, h⟩ → Dr b (actW drTerm pos) (m_s_l8Draw_l3 N c (k, d) (nm, d0) (m : Int) n s (i : Int) x h) := by
    intro nm d0 hnm hk3 m hm n
    induction n with
    | zero => intro i _ _ _ _ h; omega
    | succ n ih =>
      intro i s x h hi hn hs ha gx
      simp only [m_s_l8Draw_l3]
      refine .ite (fun hlt => ?_) (fun hge => .ite (fun h4 => ?_) (fun _ => ?_))
      · have hlt := of_decide_eq_true hlt
        refine (expr_d hb gx).bind fun a e ge q => .bindO (app_sm (by omega) (by simp)) ?_
        rw [wr1 i (by omega)]
        exact ih (i + 1) _ _ _ (by omega) (by omega) (by simp; omega) (mem_snoc ha q) (ge.at (c := ⟨c.b, x, h⟩) gx.1)
      · have h4 : k = 4 := of_decide_eq_true h4
        exact (int_d hb gx _ (by decide)).bind fun v e ge q => j4 _ _ _ _ _ _ (ge.at (c := ⟨c.b, x, h⟩) gx.1) fun u hu => ⟨by dsimp only; omega, ha, .inr (.inr ⟨hk3, hnm, .inr ⟨h4, q⟩, hu⟩)⟩
      · exact j4 _ _ _ _ _ _ gx fun u hu => ⟨by dsimp only; omega, ha, .inr (.inr ⟨hk3, hnm, .inl rfl, hu⟩)⟩
  have j1 : Dr b (actW drTerm pos) (m_s_l8Draw_j1 N c (k, d) true) → k = 5 ∨ k = 6 → Dr b (actW drTerm pos) (m_s_l8Draw_j1 N c (k, d) true) := fun h _ => h
  have jt : k = 5 ∨ k = 6 → Dr b (actW drTerm pos) (m_s_l8Draw_j1 N c (k, d) true) := by
    intro h56
    unfold m_s_l8Draw_j1
    simp only [if_true]
    exact .ret (gd.at g.1) ⟨by simp, by simp, .inr (.inl ⟨h56, rfl, rfl, rfl, rfl⟩)⟩
  have jf : k = 1 ∨ k = 3 ∨ k = 4 → Dr b (actW drTerm pos) (m_s_l8Draw_j1 N c (k, d) false) := by
    intro h134
    unfold m_s_l8Draw_j1
    simp only [Bool.false_eq_true, if_false]
    refine (str_d hb (gd.at g.1) _ (by decide)).bind fun nm e ge hnm => ?_
    unfold m_s_l8Draw_j2
    exact .ite (fun _ => lp nm e hnm h134 2 (by omega) N 0 [] _ _ (by omega) (by omega) rfl (by simp) (ge.at g.1)) (fun _ => lp nm e hnm h134 1 (by omega) N 0 [] _ _ (by omega) (by omega) rfl (by simp) (ge.at g.1))
  have hk' : k = 1 ∨ k = 3 ∨ k = 4 ∨ k = 5 ∨ k = 6 := by
    simp at hk; omega
  by_cases k5 : k = 5
  · rw [decide_eq_true k5]; simp only [if_true]; exact jt (.inl k5)
  · rw [decide_eq_false k5]; simp only [Bool.false_eq_true, if_false]
    by_cases k6 : k = 6
    · rw [decide_eq_true k6]; exact jt (.inr k6)
    · rw [decide_eq_false k6]; exact jf (by omega)
end Go.Proofs.YtelchcokfcdndaaGreat
namespace Go.Proofs.YtelchcokfcdndaaGreat
open Eng
set_option linter.unusedVariables false
set_option linter.unusedSimpArgs false
def shRule (r : TRule) : Prop := r.Name.size ≤ 16 ∧ (r.Pats.length ≤ 16 ∧ ∀ p ∈ r.Pats, shPat p) ∧ (r.Conds.length ≤ 16 ∧ ∀ c ∈ r.Conds, shCond c) ∧ r.Acts.length ≤ 16 ∧ ∀ a ∈ r.Acts, shAct a
def fitTerm (vs : List ByteArray) (a : TArg) : Prop := (∃ v, drVal v ∧ a = ⟨2, ⟨#[]⟩, v⟩) ∨ ∃ s ∈ vs, a = ⟨1, s, ⟨0, 0, ⟨#[]⟩⟩⟩
theorem fit_ok {N : Nat} (hN : 1099000000000 ≤ N) {vs : List ByteArray} (hv : vs.length ≤ 4194304) {a : TArg} (h : drTerm a) : ∃ a', m_s_l9Fit N a vs = some a' ∧ fitTerm vs a' := by
  unfold m_s_l9Fit
  rw [known_s hN a vs (by omega), Option.bind_some]
  rcases h with ⟨v, hv, rfl⟩ | ⟨s, hs, rfl⟩
  · exact ⟨_, by simp [known], .inl ⟨v, hv, rfl⟩⟩
  · by_cases hm : s ∈ vs
    · exact ⟨_, by simp [known, hm], .inr ⟨s, hm, rfl⟩⟩
    · have e1 : known vs ⟨1, s, ⟨0, 0, ⟨#[]⟩⟩⟩ = false := by simp [known, hm]
      simp only [e1, Bool.false_eq_true, if_false]
      cases vs with
      | nil => exact ⟨_, rfl, .inl ⟨⟨1, 1, ⟨#[]⟩⟩, .inl ⟨1, by omega, by omega, rfl⟩, rfl⟩⟩
      | cons x t =>
        have e2 : decide (((x :: t).length : Int) = 0) = false := decide_eq_false (by simp only [List.length_cons]; omega)
        have e3 : idx (x :: t) 0 = some x := idx_nat_lt (xs := x :: t) (i := 0) (by simp)
        simp only [e2, Bool.false_eq_true, if_false, e3, Option.bind_some]
        exact ⟨_, rfl, .inr ⟨x, by simp, rfl⟩⟩
theorem fitTerm_sz {vs : List ByteArray} (hv : ∀ s ∈ vs, s.size ≤ 16) {a : TArg} (h : fitTerm vs a) : shArg a := by
  rcases h with ⟨v, h, rfl⟩ | ⟨s, h, rfl⟩
  · exact ⟨Nat.zero_le _, drVal_sz h⟩
  · exact ⟨hv s h, Nat.zero_le _⟩
def drPats (l : List TPat) : Prop := ∃ ps ns, l = ps ++ ns ∧ 1 ≤ ps.length ∧ ps.length ≤ 3 ∧ ns.length ≤ 1 ∧ (∀ p ∈ ps, drPat false p) ∧ ∀ p ∈ ns, drPat true p
theorem drPats_pat {l : List TPat} (h : drPats l) : ∀ p ∈ l, ∃ n, drPat n p := by
  obtain ⟨ps, ns, rfl, -, -, -, h1, h2⟩ := h
  intro p hp
  rcases List.mem_append.1 hp with h | h
  · exact ⟨_, h1 p h⟩
  · exact ⟨_, h2 p h⟩
theorem drPats_len {l : List TPat} (h : drPats l) : 1 ≤ l.length ∧ l.length ≤ 4 := by
  obtain ⟨ps, ns, rfl, h1, h2, h3, -⟩ := h
  rw [List.length_append]; omega
theorem nArgs_le {B : Nat} : ∀ {l : List TPat}, (∀ p ∈ l, p.Args.length ≤ B) → nArgs l ≤ l.length * B
  | [], _ => by simp [nArgs]
  | p :: t, h => by
    have h1 := nArgs_le (l := t) fun q hq => h q (by simp [hq])
    have h2 := h p (by simp)
    have h3 : nArgs (p :: t) = p.Args.length + nArgs t := by simp [nArgs]
    rw [h3, List.length_cons, Nat.succ_mul]; omega
theorem drPats_args {l : List TPat} (h : drPats l) : nArgs l ≤ 8 := by
  have h1 := nArgs_le (B := 2) fun p hp => (drPats_pat h p hp).elim fun n hn => hn.2.2.1
  have := drPats_len h
  omega
theorem argVars_size {B : Nat} {l : List TArg} (h : ∀ a ∈ l, a.S.size ≤ B) : ∀ x ∈ argVars l, x.size ≤ B := fun x hx => by
  obtain ⟨a, ha, _, rfl⟩ := mem_argVars.1 hx; exact h a ha
theorem posNames_size {B : Nat} : ∀ {l : List TPat}, (∀ p ∈ l, ∀ a ∈ p.Args, a.S.size ≤ B) → ∀ x ∈ posNames l, x.size ≤ B
  | [], _, x, hx => by simp [posNames] at hx
  | p :: t, h, x, hx => by
    unfold posNames at hx
    split at hx
    · exact posNames_size (fun q hq => h q (by simp [hq])) x hx
    · rcases List.mem_append.1 hx with hx | hx
      · exact argVars_size (h p (by simp)) x hx
      · exact posNames_size (fun q hq => h q (by simp [hq])) x hx
def bnd (l : List TPat) : List ByteArray := (posNames l).foldl once []
theorem bnd_sz {l : List TPat} (h : drPats l) : ∀ s ∈ bnd l, s.size ≤ 16 := onces_size (posNames_size fun p hp a ha => (drPats_pat h p hp).elim fun n hn => (drArg_sz (hn.2.2.2 a ha)).1) (by simp)
theorem bnd_len {l : List TPat} (h : drPats l) : (bnd l).length ≤ 8 := by
  have h1 := onces_len (posNames l) []
  have h2 := posNames_len l
  have h3 := drPats_args h
  simp only [List.length_nil] at h1
  unfold bnd; omega
def drRule (nm : ByteArray) (r : TRule) : Prop := r.Name = nm ∧ r.Sal ∈ ([0, 0, 5, (-5), 100] : List Int) ∧ drPats r.Pats ∧ (r.Conds.length ≤ 1 ∧ ∀ c ∈ r.Conds, 1 ≤ c.Op ∧ c.Op ≤ 3 ∧ fitTerm (bnd r.Pats) c.L ∧ fitTerm (bnd r.Pats) c.R) ∧
  (1 ≤ r.Acts.length ∧ r.Acts.length ≤ 3 ∧ ∀ a ∈ r.Acts, actW (fitTerm (bnd r.Pats)) (posCount r.Pats) a)
theorem drRule_sz {nm : ByteArray} {r : TRule} (hn : nm.size ≤ 16) (h : drRule nm r) : shRule r := by
  obtain ⟨h1, _, h3, ⟨h4, h4'⟩, h5, h6, h7⟩ := h
  have hT : ∀ a, fitTerm (bnd r.Pats) a → shArg a := fun a ha => fitTerm_sz (bnd_sz h3) ha
  have := drPats_len h3
  exact ⟨by rw [h1]; exact hn, ⟨by omega, fun p hp => (drPats_pat h3 p hp).elim fun n hn => drPat_sz hn⟩, ⟨by omega, fun c hc => ⟨hT _ (h4' c hc).2.2.1, hT _ (h4' c hc).2.2.2⟩⟩, by omega, fun a ha => actW_sz hT (h7 a ha)⟩
theorem fits {N : Nat} (hN : 1099000000000 ≤ N) {b : List Int} {vs : List ByteArray} (hv : vs.length ≤ 4194304) (s11 : List TAct) (s12 : Int) (K : List TAct → Int → Int → Int → Option (TRule × Tl1Cur)) (x10 : TAct × Tl1Cur) {R : TRule → Prop} {m : Nat} (hm : m ≤ 4194304)
    (hK : ∀ es : List TExpr, es.length = m → (∀ e ∈ es, exprW (fitTerm vs) e) → Dr b R ((app s11 [⟨x10.1.Kind, x10.1.Name, es, x10.1.N, x10.1.Undo⟩]).bind fun x14 => K x14 (IntKind.i64.wrap (s12 - 1)) x10.2.i x10.2.h)) :
    ∀ (n : Nat) (todo done : List TExpr), todo.length < n → done.length + todo.length = m → (∀ e ∈ done, exprW (fitTerm vs) e) → (∀ e ∈ todo, exprW drTerm e) → Dr b R (m_s_l9Draw_l5 N vs s11 s12 K x10 n (done ++ todo) (done.length : Int)) := by
  intro n
  induction n with
  | zero => intro _ _ h; omega
  | succ n ih =>
    intro todo done hn hl hd ht
    simp only [m_s_l9Draw_l5]
    cases todo with
    | nil =>
      have e1 : decide ((done.length : Int) < ((done ++ ([] : List TExpr)).length : Int)) = false := decide_eq_false (by simp)
      rw [e1]
      simp only [Bool.false_eq_true, if_false, List.append_nil]
      exact hK done (by simpa using hl) hd
    | cons e t =>
      have e1 : decide ((done.length : Int) < ((done ++ e :: t).length : Int)) = true := decide_eq_true (by simp; omega)
      have e2 : idx (done ++ e :: t) (done.length : Int) = some e := by
        rw [idx_nat_lt (show done.length < (done ++ e :: t).length by simp)]; simp
      have hset : ∀ y, (done ++ e :: t).set ((done.length : Int)).toNat y = (done ++ [y]) ++ t := fun y => by
        rw [Int.toNat_natCast, List.set_append_right _ _ (Nat.le_refl _)]; simp
      simp only [List.length_cons] at hn hl
      rw [e1]
      simp only [if_true]
      refine .bindO e2 ?_
      obtain ⟨hL, hR⟩ := ht e (by simp)
      obtain ⟨l', el, hl'⟩ := fit_ok hN hv hL
      refine .bindO el ?_
      have next : ∀ y, exprW (fitTerm vs) y → Dr b R (m_s_l9Draw_l5 N vs s11 s12 K x10 n ((done ++ e :: t).set ((done.length : Int)).toNat y) (IntKind.i64.wrap ((done.length : Int) + 1))) := by
        intro y hy
        rw [hset, wr1 _ (by omega)]
        have := ih t (done ++ [y]) (by omega) (by simp; omega) (mem_snoc hd hy) (fun a ha => ht a (by simp [ha]))
        simpa using this
      rcases hR with ⟨hO, hR⟩ | ⟨hO, hR⟩
      · have e3 : (!seq e.Op ⟨#[]⟩) = false := by rw [seq_eq, hO]; simp
        rw [e3]
        exact next _ ⟨hl', .inl ⟨hO, hR⟩⟩
      · have e3 : (!seq e.Op ⟨#[]⟩) = true := by
          have : e.Op ≠ ⟨#[]⟩ := (show ∀ s ∈ ([⟨#[43]⟩, ⟨#[45]⟩] : List ByteArray), s ≠ ⟨#[]⟩ by decide) _ hO
          rw [seq_eq]; simp [this]
        rw [e3]
        obtain ⟨r', er, hr'⟩ := fit_ok hN hv hR
        exact .bindO er (next _ ⟨hl', .inr ⟨hO, hr'⟩⟩)
theorem posVars_d {N : Nat} (hN : 1099000000000 ≤ N) (r : TRule) (h : drPats r.Pats) : m_s_PosVars N r = some (bnd r.Pats) := by
  have h1 := drPats_len h
  have h2 := drPats_args h
  exact posVars_s hN r (by omega) (by omega) fun p hp => by
    obtain ⟨n, hn⟩ := drPats_pat h p hp
    have := hn.2.2.1
    omega
theorem rule_d {N : Nat} (hN : 1099000000000 ≤ N) {b : List Int} (hb : b.length ≤ 1048576) {c : Tl1Cur} (g : GC b c) (nm : ByteArray) : Dr b (drRule nm) (m_s_l9Draw N c nm) := by
  unfold m_s_l9Draw
  refine (int_d hb g _ (by decide)).bind fun sal d gd hs => (below_d hb (gd.at g.1) 3 (by omega)).bind fun v0 e0 ge0 q0 => ?_
  -- the acts
  have l4 : ∀ (pats : List TPat) (conds : List TCond), drPats pats → (conds.length ≤ 1 ∧ ∀ c ∈ conds, 1 ≤ c.Op ∧ c.Op ≤ 3 ∧ fitTerm (bnd pats) c.L ∧ fitTerm (bnd pats) c.R) →
      ∀ (n : Nat) (s : List TAct) (k x h : Int), 0 ≤ k → k < n → 1 ≤ s.length + k → s.length + k ≤ 3 → (∀ a ∈ s, actW (fitTerm (bnd pats)) (posCount pats) a) → GC b ⟨c.b, x, h⟩ → Dr b (drRule nm) (m_s_l9Draw_l4 N c nm (sal, d) pats (bnd pats) conds n s k x h) := by
    intro pats conds hp hc n
    have hpl := drPats_len hp
    induction n with
    | zero => intro s k x h h0 h1; omega
    | succ n ih =>
      intro s k x h h0 h1 h2 h3 ha gx
      simp only [m_s_l9Draw_l4]
      refine .ite (fun hk => ?_) (fun hk => ?_)
      · have hk := of_decide_eq_true hk
        refine .bindO (count_s hN _ (show pats.length ≤ 1048576 by omega)) ((act_d hN hb gx _).bind fun a f gf qa => ?_)
        have hal := qa.1
        have := fits hN (b := b) (vs := bnd pats) (by have := bnd_len hp; omega) s k (m_s_l9Draw_l4 N c nm (sal, d) pats (bnd pats) conds n) (a, f) (R := drRule nm) (m := a.Args.length) (by omega) (fun es hl he => by
          refine .bindO (app_sm (by omega) (by simp)) ?_
          rw [wrm hk (by omega)]
          refine ih _ (k - 1) _ _ (by omega) (by omega) (by simp; omega) (by simp; omega) (mem_snoc ha ?_) (gf.at (c := ⟨c.b, x, h⟩) gx.1)
          refine ⟨by dsimp only; omega, he, ?_⟩
          rcases qa.2.2 with h | h | h
          · exact .inl ⟨h.1, h.2.1, by have := h.2.2.1; rw [this] at hl; exact List.eq_nil_of_length_eq_zero hl, h.2.2.2⟩
          · exact .inr (.inl ⟨h.1, h.2.1, by have := h.2.2.1; rw [this] at hl; exact List.eq_nil_of_length_eq_zero hl, h.2.2.2⟩)
          · exact .inr (.inr h)) N a.Args [] (by omega) (by simp) (by simp) qa.2.1
        exact this
      · have hk := of_decide_eq_false hk
        exact .ret gx ⟨rfl, hs, hp, hc, by dsimp only; omega, by dsimp only; omega, ha⟩
  have j3 : ∀ (pats : List TPat) (conds : List TCond), drPats pats → (conds.length ≤ 1 ∧ ∀ c ∈ conds, 1 ≤ c.Op ∧ c.Op ≤ 3 ∧ fitTerm (bnd pats) c.L ∧ fitTerm (bnd pats) c.R) → ∀ (x h : Int), GC b ⟨c.b, x, h⟩ → Dr b (drRule nm) (m_s_l9Draw_j3 N c nm (sal, d) pats (bnd pats) conds x h) := by
    intro pats conds hp hc x h gx
    unfold m_s_l9Draw_j3
    refine (below_d hb gx 3 (by omega)).bind fun v e ge q => ?_
    dsimp only
    rw [wr (show -9223372036854775808 ≤ 1 + v by omega) (by omega)]
    exact l4 pats conds hp hc N [] _ _ _ (by omega) (by omega) (by simp; omega) (by simp; omega) (by simp) (ge.at (c := ⟨c.b, x, h⟩) gx.1)
  have j2 : ∀ (pats : List TPat), drPats pats → ∀ (x h : Int), GC b ⟨c.b, x, h⟩ → Dr b (drRule nm) (m_s_l9Draw_j2 N c nm (sal, d) pats x h) := by
    intro pats hp x h gx
    unfold m_s_l9Draw_j2
    have hv : (bnd pats).length ≤ 4194304 := by have := bnd_len hp; omega
    refine .bindO (posVars_d hN _ hp) ((once_d hb gx 3).bind fun v e ge _ => .ite (fun _ => ?_) (fun _ => ?_))
    · refine (cond_d hb (ge.at (c := ⟨c.b, x, h⟩) gx.1)).bind fun cd f gf qc => ?_
      obtain ⟨l', el, hl⟩ := fit_ok hN hv qc.2.2.1
      obtain ⟨r', er, hr⟩ := fit_ok hN hv qc.2.2.2
      refine .bindO el (.bindO er (.bindO (app_sm (by simp) (by simp)) ?_))
      exact j3 pats _ hp ⟨by simp, by simp; exact ⟨qc.1, qc.2.1, hl, hr⟩⟩ _ _ (gf.at (c := ⟨c.b, x, h⟩) gx.1)
    · exact j3 pats [] hp ⟨by simp, by simp⟩ _ _ (ge.at (c := ⟨c.b, x, h⟩) gx.1)
  have l1 : ∀ (n : Nat) (s : List TPat) (k x h : Int), 0 ≤ k → k < n → 1 ≤ s.length + k → s.length + k ≤ 3 → (∀ p ∈ s, drPat false p) → GC b ⟨c.b, x, h⟩ → Dr b (drRule nm) (m_s_l9Draw_l1 N c nm (sal, d) n s k x h) := by
    intro n
    induction n with
    | zero => intro s k x h h0 h1; omega
    | succ n ih =>
      intro s k x h h0 h1 h2 h3 hp gx
      simp only [m_s_l9Draw_l1]
      refine .ite (fun hk => ?_) (fun hk => ?_)
      · have hk := of_decide_eq_true hk
        refine (pat_d hN hb gx false).bind fun p f gf qp => .bindO (app_sm (by omega) (by simp)) ?_
        rw [wrm hk (by omega)]
        exact ih _ (k - 1) _ _ (by omega) (by omega) (by simp; omega) (by simp; omega) (mem_snoc hp qp) (gf.at (c := ⟨c.b, x, h⟩) gx.1)
      · have hk := of_decide_eq_false hk
        refine (once_d hb gx 3).bind fun v f gf _ => .ite (fun _ => ?_) (fun _ => ?_)
        · refine (pat_d hN hb (gf.at (c := ⟨c.b, x, h⟩) gx.1) true).bind fun p f' gf' qp => .bindO (app_sm (by omega) (by simp)) ?_
          exact j2 _ ⟨s, [p], rfl, by omega, by omega, by simp, hp, by simpa using qp⟩ _ _ (gf'.at (c := ⟨c.b, x, h⟩) gx.1)
        · exact j2 _ ⟨s, [], by simp, by omega, by omega, by simp, hp, by simp⟩ _ _ (gf.at (c := ⟨c.b, x, h⟩) gx.1)
  dsimp only
  rw [wr (show -9223372036854775808 ≤ 1 + v0 by omega) (by omega)]
  exact l1 N [] _ _ _ (by omega) (by omega) (by simp; omega) (by simp; omega) (by simp) (ge0.at g.1)
end Go.Proofs.YtelchcokfcdndaaGreat
namespace Go.Proofs.YtelchcokfcdndaaGreat
open Eng
set_option linter.unusedVariables false
set_option linter.unusedSimpArgs false
theorem drVal_ok {v : TVal} (h : drVal v) : okVal v = true := by
  rcases h with ⟨n, h1, h2, rfl⟩ | ⟨s, hs, rfl⟩
  · have a1 : decide (-1000000000 ≤ n) = true := decide_eq_true (by omega)
    have a2 : decide (n ≤ 1000000000) = true := decide_eq_true (by omega)
    unfold okVal
    simp only [if_true, a1, a2, seq_self, Bool.and_self]
  · exact (show ∀ s ∈ ([⟨#[97]⟩, ⟨#[98]⟩] : List ByteArray), okVal ⟨2, 0, s⟩ = true by decide) s hs
end Go.Proofs.YtelchcokfcdndaaGreat
namespace Go.Proofs.YtelchcokfcdndaaGreat
open Eng
set_option linter.unusedVariables false
set_option linter.unusedSimpArgs false
def kinds3 : List ByteArray := [⟨#[111, 114, 100, 101, 114]⟩, ⟨#[112, 97, 105, 100]⟩, ⟨#[105, 116, 101, 109]⟩, ⟨#[111, 114, 100, 101, 114]⟩]
def drFact (f : TFact) : Prop := f.Kind ∈ kinds3 ∧ f.Fields.length ≤ 5 ∧ ∀ v ∈ f.Fields, drVal v
theorem fact_d {N : Nat} (hN : 1099000000000 ≤ N) {b : List Int} (hb : b.length ≤ 1048576) {c : Tl1Cur} (g : GC b c) : Dr b drFact (m_s_l3Draw N c) := by
  unfold m_s_l3Draw
  refine (str_d hb g _ (by decide)).bind fun k d gd hk => ?_
  have lp : ∀ (m : Nat), m ≤ 5 → ∀ (n i : Nat) (s : List TVal) (x h : Int), i ≤ m → m - i < n → s.length = i → (∀ a ∈ s, drVal a) → GC b ⟨c.b, x, h⟩ → Dr b drFact (m_s_l3Draw_l3 N c (k, d) (m : Int) n s (i : Int) x h) := by
    intro m hm n
    induction n with
    | zero => intro i _ _ _ _ h; omega
    | succ n ih =>
      intro i s x h hi hn hs ha gx
      simp only [m_s_l3Draw_l3]
      refine .ite (fun hlt => ?_) (fun hge => .ret gx ⟨hk, by dsimp only; omega, ha⟩)
      have hlt := of_decide_eq_true hlt
      refine (small_d hb gx).bind fun a e ge q => .bindO (app_sm (by omega) (by simp)) ?_
      rw [wr1 i (by omega)]
      exact ih (i + 1) _ _ _ (by omega) (by omega) (by simp; omega) (mem_snoc ha q) (ge.at (c := ⟨c.b, x, h⟩) gx.1)
  have j1 : ∀ (m : Nat), m ≤ 5 → Dr b drFact (m_s_l3Draw_j1 N c (k, d) (m : Int)) := by
    intro m hm
    unfold m_s_l3Draw_j1 m_s_l3Draw_j2
    refine (once_d hb (gd.at g.1) 12).bind fun v e ge _ => .ite (fun _ => ?_) (fun _ => ?_)
    · refine (below_d hb (ge.at g.1) 6 (by omega)).bind fun w f gf hw => ?_
      obtain ⟨j, rfl⟩ : ∃ j : Nat, w = (j : Int) := ⟨w.toNat, by omega⟩
      exact lp j (by omega) N 0 [] _ _ (by omega) (by omega) rfl (by simp) (gf.at g.1)
    · exact lp m hm N 0 [] _ _ (by omega) (by omega) rfl (by simp) (ge.at g.1)
  exact .ite (fun _ => j1 2 (by omega)) (fun _ => j1 1 (by omega))
end Go.Proofs.YtelchcokfcdndaaGreat
namespace Go.Proofs.YtelchcokfcdndaaGreat
open Eng
set_option linter.unusedVariables false
set_option linter.unusedSimpArgs false
def drItems (nx : Int) (l : List TItem) : Prop := 1 ≤ nx ∧ (l.length : Int) < nx ∧ (∀ x ∈ l, 1 ≤ x.Id ∧ x.Id < nx ∧ drFact x.F) ∧ l.Pairwise fun a b => a.Id < b.Id ∧ a.F ≠ b.F
def drStore (s : TStore) : Prop := s.Next ≤ 9 ∧ drItems s.Next s.Items
theorem drop_d {N : Nat} (hN : 1099000000000 ≤ N) (s : TStore) (v : Int) (hl : s.Items.length ≤ 1048576) : ∃ q, m_s_l4Drop N s v = some (q, ⟨s.Items.filter fun x => !decide (x.Id = v), s.Next⟩) := by
  unfold m_s_l4Drop
  have := lp' hN s.Items (by omega) (fun n (u : List TItem) i => (m_s_l4Drop_l1 N s v n u i).map (·.2)) (fun t u => some ⟨u ++ t.filter fun x => !decide (x.Id = v), s.Next⟩) (fun u t => u.length + t.length ≤ 1048576) [] (by simpa using hl) (fun n u i x t g1 g2 g3 g4 g5 g6 gI ih => by
    simp only [List.length_cons] at gI
    simp only [m_s_l4Drop_l1, g5, if_true, g4, Option.bind_some, g6, List.filter_cons]
    by_cases h : x.Id = v
    · simp only [h, decide_true, Bool.not_true, Bool.false_eq_true, if_false]
      exact ih u (by omega)
    · simp only [h, decide_false, Bool.not_false, if_true, app_ok (show u.length + [x].length ≤ 4294967296 by simp; omega), Option.bind_some]
      rw [ih _ (by simp; omega)]; simp) (fun n u i g1 g2 gI => by simp only [m_s_l4Drop_l1, g2, Bool.false_eq_true, if_false, Option.map_some, List.filter_nil, List.append_nil])
  simp only [List.nil_append] at this
  cases hd : m_s_l4Drop_l1 N s v N [] 0 with
  | none => rw [hd] at this; simp at this
  | some r =>
    rw [hd] at this
    simp only [Option.map_some, Option.some.injEq] at this
    exact ⟨r.1, by rw [← this]⟩
theorem assert_d {N : Nat} (hN : 1099000000000 ≤ N) (l : List TItem) (nx : Int) (f : TFact) (hf : drFact f) (h : drItems nx l) (hnx : nx ≤ 100) : ∃ q l' nx', m_s_l4Assert N ⟨l, nx⟩ f = some (q, ⟨l', nx'⟩) ∧ drItems nx' l' ∧ nx' ≤ nx + 1 := by
  obtain ⟨h1, h2, h3, h4⟩ := h
  have hl := fun x hx => (h3 x hx).2.2.2.1
  unfold m_s_l4Assert
  rw [idOf_s hN ⟨l, nx⟩ f (by show l.length ≤ _; omega) (fun x hx => by have := hl x hx; omega)]
  simp only [Option.bind_some]
  by_cases hp : 0 < idOf l f
  · simp only [hp, decide_true, if_true]
    exact ⟨_, _, _, rfl, ⟨h1, h2, h3, h4⟩, by omega⟩
  · simp only [hp, decide_false, Bool.false_eq_true, if_false]
    have hn : ∀ x ∈ l, x.F ≠ f := by
      intro x hx e
      apply hp
      unfold idOf
      cases hh : l.find? (fun x => decide (x.F = f)) with
      | none =>
        rw [List.find?_eq_none] at hh
        have := hh x hx
        simp [e] at this
      | some y =>
        have := (h3 y (List.mem_of_find?_eq_some hh)).1
        simp only; omega
    by_cases h40 : (40 : Int) ≤ (l.length : Int)
    · simp only [h40, decide_true, if_true, Option.bind_some]
      exact ⟨_, _, _, rfl, ⟨h1, h2, h3, h4⟩, by omega⟩
    · have hm : ¬ (1000000 : Int) ≤ nx := by omega
      simp only [h40, hm, decide_false, Bool.false_eq_true, if_false, Option.bind_some]
      have hc : m_s_l3Copy N f = some f := by
        unfold m_s_l3Copy
        rw [app_nil (show f.Fields.length ≤ 4294967296 by have := hf.2.1; omega)]; rfl
      simp only [hc, Option.bind_some, app_ok (show l.length + [(⟨nx, f⟩ : TItem)].length ≤ 4294967296 by simp; omega)]
      rw [wr (show -9223372036854775808 ≤ nx + 1 by omega) (by omega)]
      refine ⟨_, _, _, rfl, ⟨by omega, by simp; omega, ?_, ?_⟩, by omega⟩
      · refine mem_snoc (fun x hx => ?_) ⟨by omega, by simp only; omega, hf⟩
        have := h3 x hx
        exact ⟨this.1, by omega, this.2.2⟩
      · refine List.pairwise_append.2 ⟨h4, by simp, fun a ha b hb => ?_⟩
        simp at hb; subst hb
        exact ⟨(h3 a ha).2.1, hn a ha⟩
theorem store_d {N : Nat} (hN : 1099000000000 ≤ N) {b : List Int} (hb : b.length ≤ 1048576) {c : Tl1Cur} (g : GC b c) : Dr b drStore (m_s_l4Draw N c) := by
  unfold m_s_l4Draw
  refine (below_d hb g 9 (by omega)).bind fun v d gd hv => ?_
  have lp : ∀ (n : Nat) (l : List TItem) (k x h nx : Int), 0 ≤ k → k < n → nx + k ≤ 9 → drItems nx l → GC b ⟨c.b, x, h⟩ → Dr b drStore (m_s_l4Draw_l1 N c n l k x h nx) := by
    intro n
    induction n with
    | zero => intro l k x h nx h0 h1; omega
    | succ n ih =>
      intro l k x h nx h0 h1 h2 hl gx
      simp only [m_s_l4Draw_l1]
      refine .ite (fun hk => ?_) (fun _ => .ret gx ⟨by show nx ≤ 9; omega, hl⟩)
      have hk := of_decide_eq_true hk
      have hlen := hl.2.1
      refine (once_d hb gx 5).bind fun q e ge _ => ?_
      have gx' := ge.at (c := ⟨c.b, x, h⟩) gx.1
      have rest : Dr b drStore ((m_s_l3Draw N (⟨c.b, e.i, e.h⟩ : Tl1Cur)).bind fun x6 => (m_s_l4Assert N (⟨l, nx⟩ : TStore) x6.1).bind fun x7 => m_s_l4Draw_l1 N c n x7.2.Items (IntKind.i64.wrap (k - 1)) x6.2.i x6.2.h x7.2.Next) := by
        refine (fact_d hN hb gx').bind fun f e2 ge2 hf => ?_
        obtain ⟨q', l', nx', e3, hl', hnx'⟩ := assert_d hN l nx f hf hl (by omega)
        refine .bindO e3 ?_
        rw [wrm hk (by omega)]
        exact ih l' (k - 1) _ _ nx' (by omega) (by omega) (by omega) hl' (ge2.at (c := ⟨c.b, e.i, e.h⟩) gx'.1)
      by_cases hq : q = true ∧ 0 < l.length
      · have e0 : (if q = true then some (decide (0 < (l.length : Int))) else some false) = some true := by
          rw [hq.1, decide_eq_true (show (0 : Int) < (l.length : Int) by omega)]; rfl
        refine .bindO e0 ?_
        simp only [if_true]
        refine (below_d hb gx' (l.length : Int) (by omega)).bind fun w e2 ge2 hw => ?_
        obtain ⟨j, rfl⟩ : ∃ j : Nat, w = (j : Int) := ⟨w.toNat, by omega⟩
        refine .bindO (idx_nat_lt (show j < l.length by omega)) ?_
        obtain ⟨q', e3⟩ := drop_d hN ⟨l, nx⟩ l[j].Id (show l.length ≤ 1048576 by omega)
        refine .bindO e3 ?_
        rw [wrm hk (by omega)]
        have hfl := List.length_filter_le (fun x : TItem => !decide (x.Id = l[j].Id)) l
        exact ih _ (k - 1) _ _ nx (by omega) (by omega) (by omega) ⟨hl.1, by show ((l.filter _).length : Int) < nx; omega, fun y hy => hl.2.2.1 y (List.mem_filter.1 hy).1, hl.2.2.2.filter _⟩ (ge2.at (c := ⟨c.b, e.i, e.h⟩) gx'.1)
      · have e0 : (if q = true then some (decide (0 < (l.length : Int))) else some false) = some false := by
          cases q with
          | false => rfl
          | true =>
            have : ¬ 0 < l.length := fun h => hq ⟨rfl, h⟩
            rw [decide_eq_false (show ¬ (0 : Int) < (l.length : Int) by omega)]; rfl
        refine .bindO e0 ?_
        simp only [Bool.false_eq_true, if_false]
        exact rest
  exact lp N [] v _ _ 1 hv.1 (by omega) (by omega) ⟨by omega, by simp, by simp, by simp⟩ (gd.at g.1)
end Go.Proofs.YtelchcokfcdndaaGreat
namespace Go.Proofs.YtelchcokfcdndaaGreat
open Eng
set_option linter.unusedVariables false
set_option linter.unusedSimpArgs false
theorem drFact_ok {f : TFact} (h : drFact f) : okFact f = true := by
  obtain ⟨h1, h2, h3⟩ := h
  have a1 := (show ∀ s ∈ kinds3, okName s = true by decide) _ h1
  unfold okFact
  rw [a1, decide_eq_true h2, List.all_eq_true.2 fun v hv => drVal_ok (h3 v hv)]; rfl
theorem drFact_sz {f : TFact} (h : drFact f) : SzFact f := by
  obtain ⟨h1, h2, h3⟩ := h
  have a1 := (show ∀ s ∈ kinds3, s.size ≤ 16 by decide) _ h1
  exact ⟨by omega, by omega, fun v hv => by have := drVal_sz (h3 v hv); omega⟩
theorem drStore_sz {s : TStore} (h : drStore s) : SzStore s := by
  obtain ⟨h1, h2, h3, h4, h5⟩ := h
  exact ⟨by omega, fun x hx => drFact_sz (h4 x hx).2.2⟩
theorem items_ok {nx : Int} : ∀ (t done : List TItem), (∀ x ∈ t, 1 ≤ x.Id ∧ x.Id < nx ∧ drFact x.F) → (done ++ t).Pairwise (fun a b => a.Id < b.Id ∧ a.F ≠ b.F) → itemsOk nx done t = true
  | [], done, _, _ => rfl
  | x :: t, done, h, hp => by
    obtain ⟨h1, h2, h3⟩ := h x (by simp)
    have hp' := List.pairwise_append.1 hp
    have hl : lastBelow done x.Id = true := by
      unfold lastBelow
      cases hg : done.getLast? with
      | none => rfl
      | some y => exact decide_eq_true (hp'.2.2 y (List.mem_of_getLast? hg) x (by simp)).1
    have hd : (done.all fun y => !decide (x.F = y.F)) = true := List.all_eq_true.2 fun y hy => by
      have := (hp'.2.2 y hy x (by simp)).2
      rw [decide_eq_false fun e => this e.symm]; rfl
    unfold itemsOk
    rw [drFact_ok h3, decide_eq_true h1, decide_eq_true h2, hl, hd, items_ok t (done ++ [x]) (fun y hy => h y (by simp [hy])) (by simpa using hp)]; rfl
theorem drStore_ok {s : TStore} (h : drStore s) : okStore s = true := by
  obtain ⟨h1, h2, h3, h4, h5⟩ := h
  unfold okStore
  rw [decide_eq_true h2, decide_eq_true (show s.Next ≤ 1000000 by omega), decide_eq_true (show s.Items.length ≤ 40 by omega), items_ok s.Items [] h4 (by simpa using h5)]; rfl
end Go.Proofs.YtelchcokfcdndaaGreat
namespace Go.Proofs.YtelchcokfcdndaaGreat
open Eng
theorem shArg_Sz {a : TArg} (h : shArg a) : SzArg a := by have := h.1; have := h.2; exact ⟨by omega, by omega⟩
theorem shPat_Sz {p : TPat} (h : shPat p) : SzPat p := by
  obtain ⟨h1, h2, h3⟩ := h
  exact ⟨by omega, by omega, fun a ha => shArg_Sz (h3 a ha)⟩
theorem shCond_Sz {c : TCond} (h : shCond c) : SzCond c := ⟨shArg_Sz h.1, shArg_Sz h.2⟩
theorem shExpr_Sz {e : TExpr} (h : shExpr e) : SzExpr e := by
  obtain ⟨h1, h2, h3⟩ := h
  exact ⟨by omega, shArg_Sz h2, shArg_Sz h3⟩
theorem shAct_Sz {a : TAct} (h : shAct a) : SzAct a := by
  obtain ⟨h1, h2, h3, h4⟩ := h
  exact ⟨by omega, by omega, by omega, fun a ha => shExpr_Sz (h3 a ha)⟩
theorem nExprs_le {B : Nat} : ∀ {l : List TAct}, (∀ p ∈ l, p.Args.length ≤ B) → nExprs l ≤ l.length * B
  | [], _ => by simp [nExprs]
  | p :: t, h => by
    have h1 := nExprs_le (l := t) fun q hq => h q (by simp [hq])
    have h2 := h p (by simp)
    have h3 : nExprs (p :: t) = p.Args.length + nExprs t := by simp [nExprs]
    rw [h3, List.length_cons, Nat.succ_mul]; omega
theorem shRule_Sz {r : TRule} (h : shRule r) : SzRule r := by
  obtain ⟨h1, ⟨h2, h2'⟩, ⟨h3, h3'⟩, h4, h4'⟩ := h
  have h5 := nArgs_le (B := 16) fun p hp => (h2' p hp).2.1
  have h6 := nExprs_le (B := 16) fun a ha => (h4' a ha).2.1
  exact ⟨by omega, ⟨by omega, fun p hp => shPat_Sz (h2' p hp)⟩, ⟨by omega, fun c hc => shCond_Sz (h3' c hc)⟩, ⟨by omega, fun a ha => shAct_Sz (h4' a ha)⟩, by omega, by
    have : nExprs r.Acts ≤ 1048576 := by omega
    exact this⟩
end Go.Proofs.YtelchcokfcdndaaGreat
namespace Go.Proofs.YtelchcokfcdndaaGreat
open Eng
set_option linter.unusedVariables false
set_option linter.unusedSimpArgs false
def shDef (d : TDef) : Prop := d.Name.size ≤ 16 ∧ d.Rules.length ≤ 16 ∧ ∀ r ∈ d.Rules, shRule r
def rNames : List ByteArray := [⟨#[114, 49]⟩, ⟨#[114, 50]⟩, ⟨#[114, 51]⟩, ⟨#[114, 52]⟩]
def drDef (d : TDef) : Prop := d.Name ∈ ([⟨#[102, 108, 111, 119]⟩, ⟨#[115, 104, 105, 112]⟩, ⟨#[120]⟩] : List ByteArray) ∧ 1 ≤ d.Rules.length ∧ d.Rules.length ≤ 4 ∧ ∀ (i : Nat) (r : TRule), d.Rules[i]? = some r → ∃ nm, rNames[i]? = some nm ∧ drRule nm r
theorem rNames_sz : ∀ s ∈ rNames, s.size ≤ 16 := by decide
theorem drDef_sz {d : TDef} (h : drDef d) : shDef d := by
  obtain ⟨h1, h2, h3, h4⟩ := h
  refine ⟨(show ∀ s ∈ ([⟨#[102, 108, 111, 119]⟩, ⟨#[115, 104, 105, 112]⟩, ⟨#[120]⟩] : List ByteArray), s.size ≤ 16 by decide) _ h1, by omega, fun r hr => ?_⟩
  obtain ⟨i, hi, e⟩ := List.getElem_of_mem hr
  obtain ⟨nm, e1, e2⟩ := h4 i r (by rw [List.getElem?_eq_getElem hi, e])
  exact drRule_sz (rNames_sz nm (List.mem_of_getElem? e1)) e2
theorem def_d {N : Nat} (hN : 1099000000000 ≤ N) {b : List Int} (hb : b.length ≤ 1048576) {c : Tl1Cur} (g : GC b c) : Dr b drDef (m_s_l10Draw N c) := by
  unfold m_s_l10Draw
  refine (str_d hb g _ (by decide)).bind fun nm d gd hnm => ?_
  have lp : ∀ (n i : Nat) (s : List TRule) (x h : Int), i ≤ 4 → 4 - i < n → s.length = i → (∀ (j : Nat) (r : TRule), s[j]? = some r → ∃ nm, rNames[j]? = some nm ∧ drRule nm r) → GC b ⟨c.b, x, h⟩ → Dr b drDef (m_s_l10Draw_l1 N c (nm, d) n s (i : Int) x h) := by
    intro n
    induction n with
    | zero => intro i _ _ _ _ h; omega
    | succ n ih =>
      intro i s x h hi hn hs hr gx
      simp only [m_s_l10Draw_l1]
      refine (below_d hb gx 4 (by omega)).bind fun v e ge q => ?_
      dsimp only
      rw [wr (show -9223372036854775808 ≤ 1 + v by omega) (by omega)]
      by_cases h1 : (i : Int) < 1 + v ∧ i < 4
      · have e1 : decide ((i : Int) < 1 + v) = true := decide_eq_true h1.1
        have e2 : decide ((i : Int) < 4) = true := decide_eq_true (by omega)
        have e3 : idx rNames (i : Int) = some (rNames[i]'(by unfold rNames; simp; omega)) := idx_nat_lt (by unfold rNames; simp; omega)
        simp only [e1, e2, if_true, Option.bind_some]
        refine .bindO e3 ((rule_d hN hb (ge.at (c := ⟨c.b, x, h⟩) gx.1) _).bind fun r f gf qr => .bindO (app_sm (by omega) (by simp)) ?_)
        rw [wr1 i (by omega)]
        refine ih (i + 1) _ _ _ (by omega) (by omega) (by simp; omega) ?_ (gf.at (c := ⟨c.b, x, h⟩) gx.1)
        intro j r' hj
        by_cases hji : j < s.length
        · rw [List.getElem?_append_left hji] at hj; exact hr j r' hj
        · rw [List.getElem?_append_right (by omega)] at hj
          have : j = i := by
            have := (List.getElem?_eq_some_iff.1 hj).1
            simp at this; omega
          subst this
          have h0 : j - s.length = 0 := by omega
          rw [h0] at hj
          simp at hj
          subst hj
          exact ⟨_, List.getElem?_eq_getElem _, qr⟩
      · have e1 : (if decide ((i : Int) < 1 + v) = true then some (decide ((i : Int) < 4)) else some false) = some false := by
          by_cases h2 : (i : Int) < 1 + v
          · have h3 : ¬ (i : Int) < 4 := by omega
            simp [h2, h3]
          · simp [h2]
        rw [e1, Option.bind_some]
        simp only [Bool.false_eq_true, if_false]
        exact .ret (ge.at (c := ⟨c.b, x, h⟩) gx.1) ⟨hnm, by dsimp only; omega, by dsimp only; omega, hr⟩
  exact lp N 0 [] _ _ (by omega) (by omega) rfl (by simp) (gd.at g.1)
end Go.Proofs.YtelchcokfcdndaaGreat
namespace Go.Proofs.YtelchcokfcdndaaGreat
open Eng
set_option linter.unusedVariables false
set_option linter.unusedSimpArgs false
theorem wr5 {v : Int} (h : 0 ≤ v) (h' : v < 4294967296) : IntKind.i64.wrap (5 + v) = 5 + v := wr (by omega) (by omega)
theorem patAny_d {N : Nat} (hN : 1099000000000 ≤ N) {b : List Int} (hb : b.length ≤ 1048576) {c : Tl1Cur} (g : GC b c) : Dr b shPat (m_s_l6Any N c) := by
  unfold m_s_l6Any
  refine (once_d hb g 3).bind fun nt d0 g0 _ => (pat_d hN hb (g0.at g.1) nt).bind fun p d gd hp => (below_d hb (gd.at g.1) 10 (by omega)).bind fun v e ge _ => ?_
  obtain ⟨s1, s2, s3⟩ := drPat_sz hp
  refine .ite (fun _ => ?_) fun _ => .ite (fun _ => ?_) fun _ => .ite (fun _ => ?_) fun _ => .ret (ge.at g.1) ⟨s1, s2, s3⟩
  · exact (str_d hb (ge.at g.1) _ (by decide)).bind fun k f gf hk => .ret (gf.at g.1) ⟨(show ∀ s ∈ ([⟨#[]⟩, ⟨#[65]⟩, ⟨#[120]⟩] : List ByteArray), s.size ≤ 16 by decide) _ hk, s2, s3⟩
  · refine (below_d hb (ge.at g.1) 5 (by omega)).bind fun k f gf hk => (str_d hb (gf.at g.1) _ (by decide)).bind fun s f' gf' hs => .bindO (app_sm (show p.Args.length ≤ 4194304 by have := hp.2.2.1; omega) (by simp)) (.ret (gf'.at g.1) ⟨s1, ?_, mem_snoc s3 ⟨?_, Nat.zero_le _⟩⟩)
    · have := hp.2.2.1; simp; omega
    · exact (show ∀ s ∈ ([⟨#[]⟩, ⟨#[120]⟩, ⟨#[88]⟩] : List ByteArray), s.size ≤ 16 by decide) _ hs
  · have lp : ∀ (n : Nat) (s : List TArg) (x h : Int), s.length ≤ 6 → 6 - s.length < n → (∀ a ∈ s, shArg a) → GC b ⟨c.b, x, h⟩ → Dr b shPat (m_s_l6Any_l3 N c (p, d) n s x h) := by
      intro n
      induction n with
      | zero => intro s _ _ _ h; omega
      | succ n ih =>
        intro s x h hl hn hs gx
        simp only [m_s_l6Any_l3]
        refine (below_d hb gx 2 (by omega)).bind fun w f gf hw => ?_
        dsimp only
        rw [wr5 hw.1 (by omega)]
        refine .ite (fun hlt => ?_) (fun _ => .ret (gf.at (c := ⟨c.b, x, h⟩) gx.1) ⟨s1, by dsimp only; omega, hs⟩)
        have hlt := of_decide_eq_true hlt
        refine (arg_d hb (gf.at (c := ⟨c.b, x, h⟩) gx.1)).bind fun a f' gf' qa => .bindO (app_sm (by omega) (by simp)) ?_
        exact ih _ _ _ (by simp; omega) (by simp; omega) (mem_snoc hs (drArg_sz qa)) (gf'.at (c := ⟨c.b, x, h⟩) gx.1)
    exact lp N p.Args _ _ (by have := hp.2.2.1; omega) (by omega) s3 (ge.at g.1)
end Go.Proofs.YtelchcokfcdndaaGreat
namespace Go.Proofs.YtelchcokfcdndaaGreat
open Eng
set_option linter.unusedVariables false
set_option linter.unusedSimpArgs false
theorem condAny_d {N : Nat} {b : List Int} (hb : b.length ≤ 1048576) {c : Tl1Cur} (g : GC b c) : Dr b shCond (m_s_l7Any N c) := by
  unfold m_s_l7Any
  refine (cond_d hb g).bind fun cd d gd hc => (below_d hb (gd.at g.1) 8 (by omega)).bind fun v e ge _ => ?_
  obtain ⟨s1, s2⟩ := drCond_sz hc
  refine .ite (fun _ => ?_) fun _ => .ite (fun _ => ?_) fun _ => .ite (fun _ => ?_) fun _ => .ret (ge.at g.1) ⟨s1, s2⟩
  · exact (below_d hb (ge.at g.1) 6 (by omega)).bind fun k f gf _ => .ret (gf.at g.1) ⟨s1, s2⟩
  · exact (arg_d hb (ge.at g.1)).bind fun k f gf qa => .ret (gf.at g.1) ⟨drArg_sz qa, s2⟩
  · exact (below_d hb (ge.at g.1) 5 (by omega)).bind fun k f gf _ => .ret (gf.at g.1) ⟨s1, Nat.zero_le _, Nat.zero_le _⟩
theorem str3 : ∀ s ∈ ([⟨#[]⟩, ⟨#[65]⟩, ⟨#[120]⟩] : List ByteArray), s.size ≤ 16 := by decide
theorem actAny_d {N : Nat} (hN : 1099000000000 ≤ N) {b : List Int} (hb : b.length ≤ 1048576) {c : Tl1Cur} (g : GC b c) : Dr b shAct (m_s_l8Any N c) := by
  unfold m_s_l8Any
  refine (act_d hN hb g 2).bind fun a d gd ha => (below_d hb (gd.at g.1) 10 (by omega)).bind fun v e ge _ => ?_
  obtain ⟨s1, s2, s3, s4⟩ := actW_sz (fun a h => drArg_sz (drTerm_arg h)) ha
  refine .ite (fun _ => ?_) fun _ => .ite (fun _ => ?_) fun _ => .ite (fun _ => ?_) fun _ => .ite (fun _ => ?_) fun _ => .ite (fun _ => ?_) fun _ => .ret (ge.at g.1) ⟨s1, s2, s3, s4⟩
  · exact (below_d hb (ge.at g.1) 8 (by omega)).bind fun k f gf _ => .ret (gf.at g.1) ⟨s1, s2, s3, s4⟩
  · exact (str_d hb (ge.at g.1) _ (by decide)).bind fun k f gf hk => .ret (gf.at g.1) ⟨str3 _ hk, s2, s3, s4⟩
  · exact (int_d hb (ge.at g.1) _ (by decide)).bind fun k f gf hk => .ret (gf.at g.1) ⟨s1, s2, s3, s4⟩
  · exact (str_d hb (ge.at g.1) _ (by decide)).bind fun k f gf hk => .ret (gf.at g.1) ⟨s1, s2, s3, str3 _ hk⟩
  · refine (str_d hb (ge.at g.1) _ (by decide)).bind fun k f gf hk => (arg_d hb (gf.at g.1)).bind fun l f1 g1 ql => (arg_d hb (g1.at g.1)).bind fun r f2 g2 qr => .bindO (app_sm (show a.Args.length ≤ 4194304 by omega) (by simp)) (.ret (g2.at g.1) ⟨s1, ?_, mem_snoc s3 ⟨?_, drArg_sz ql, drArg_sz qr⟩, s4⟩)
    · have := ha.1; simp; omega
    · exact (show ∀ s ∈ ([⟨#[]⟩, ⟨#[42]⟩] : List ByteArray), s.size ≤ 16 by decide) _ hk
def shRule' (r : TRule) : Prop := shRule r ∧ 1 ≤ r.Pats.length ∧ r.Pats.length ≤ 15 ∧ r.Conds.length ≤ 15 ∧ r.Acts.length ≤ 15
theorem ssl00 {α : Type} (l : List α) : ssl l 0 0 = some [] := by
  unfold ssl
  simp
theorem bend_d {N : Nat} (hN : 1099000000000 ≤ N) {b : List Int} (hb : b.length ≤ 1048576) {c : Tl1Cur} (g : GC b c) {r : TRule} (hr : shRule' r) : Dr b shRule (m_s_l9Bend N c r) := by
  obtain ⟨⟨s1, ⟨s2, s2'⟩, ⟨s3, s3'⟩, s4, s4'⟩, l0, l1, l2, l3⟩ := hr
  unfold m_s_l9Bend
  refine .bindO (app_nil (show r.Pats.length ≤ 4294967296 by omega)) ((below_d hb g 10 (by omega)).bind fun v e ge _ => ?_)
  refine .ite (fun _ => ?_) fun _ => .ite (fun _ => ?_) fun _ => .ite (fun _ => ?_) fun _ => .ite (fun _ => ?_) fun _ => .ite (fun _ => ?_) fun _ => .ite (fun _ => ?_) fun _ => .ite (fun _ => ?_) fun _ => .ret (ge.at g.1) ⟨s1, ⟨s2, s2'⟩, ⟨s3, s3'⟩, s4, s4'⟩
  · exact (str_d hb (ge.at g.1) _ (by decide)).bind fun k f gf hk => .ret (gf.at g.1) ⟨str3 _ hk, ⟨s2, s2'⟩, ⟨s3, s3'⟩, s4, s4'⟩
  · exact (int_d hb (ge.at g.1) _ (by decide)).bind fun k f gf hk => .ret (gf.at g.1) ⟨s1, ⟨s2, s2'⟩, ⟨s3, s3'⟩, s4, s4'⟩
  · exact (patAny_d hN hb (ge.at g.1)).bind fun p f gf hp => .bindO (app_sm (by omega) (by simp)) (.ret (gf.at g.1) ⟨s1, ⟨by simp; omega, mem_snoc s2' hp⟩, ⟨s3, s3'⟩, s4, s4'⟩)
  · exact .bindO (app_nil (show r.Conds.length ≤ 4294967296 by omega)) ((condAny_d hb (ge.at g.1)).bind fun p f gf hp => .bindO (app_sm (by omega) (by simp)) (.ret (gf.at g.1) ⟨s1, ⟨s2, s2'⟩, ⟨by simp; omega, mem_snoc s3' hp⟩, s4, s4'⟩))
  · exact .bindO (app_nil (show r.Acts.length ≤ 4294967296 by omega)) ((actAny_d hN hb (ge.at g.1)).bind fun p f gf hp => .bindO (app_sm (by omega) (by simp)) (.ret (gf.at g.1) ⟨s1, ⟨s2, s2'⟩, ⟨s3, s3'⟩, by simp; omega, mem_snoc s4' hp⟩))
  · have e0 : idx r.Pats 0 = some (r.Pats[0]'(by omega)) := idx_nat_lt (xs := r.Pats) (i := 0) (by omega)
    have h0 := s2' r.Pats[0] (List.getElem_mem _)
    refine .bindO e0 (.ret (ge.at g.1) ⟨s1, ⟨by simpa using s2, fun p hp => ?_⟩, ⟨s3, s3'⟩, s4, s4'⟩)
    rcases List.mem_or_eq_of_mem_set hp with h | h
    · exact s2' p h
    · rw [h]; exact h0
  · exact .bindO (ssl00 r.Acts) (.ret (ge.at g.1) ⟨s1, ⟨s2, s2'⟩, ⟨s3, s3'⟩, by simp, by simp⟩)
theorem drRule_sh {nm : ByteArray} {r : TRule} (hn : nm.size ≤ 16) (h : drRule nm r) : shRule' r := by
  have h1 := drRule_sz hn h
  have h2 := drPats_len h.2.2.1
  have h3 := h.2.2.2.1.1
  have h4 := h.2.2.2.2.2.1
  exact ⟨h1, by omega, by omega, by omega, by omega⟩
theorem ruleAny_d {N : Nat} (hN : 1099000000000 ≤ N) {b : List Int} (hb : b.length ≤ 1048576) {c : Tl1Cur} (g : GC b c) : Dr b shRule (m_s_l9Any N c) := by
  unfold m_s_l9Any
  refine (str_d hb g _ (by decide)).bind fun nm d0 g0 hnm => (rule_d hN hb (g0.at g.1) nm).bind fun r d gd hr => (once_d hb (gd.at g.1) 3).bind fun v e ge _ => ?_
  have h1 := drRule_sh ((show ∀ s ∈ ([⟨#[114, 49]⟩, ⟨#[114, 50]⟩, ⟨#[115, 104, 105, 112]⟩] : List ByteArray), s.size ≤ 16 by decide) _ hnm) hr
  refine .ite (fun _ => ?_) fun _ => .ret (ge.at g.1) h1.1
  exact (bend_d hN hb (ge.at g.1) h1).bind fun q f gf hq => .ret (gf.at g.1) hq
end Go.Proofs.YtelchcokfcdndaaGreat
namespace Go.Proofs.YtelchcokfcdndaaGreat
open Eng
set_option linter.unusedVariables false
set_option linter.unusedSimpArgs false
theorem defAny_d {N : Nat} (hN : 1099000000000 ≤ N) {b : List Int} (hb : b.length ≤ 1048576) {c : Tl1Cur} (g : GC b c) : Dr b shDef (m_s_l10Any N c) := by
  unfold m_s_l10Any
  refine (def_d hN hb g).bind fun x d gd hx => (below_d hb (gd.at g.1) 10 (by omega)).bind fun v e ge _ => ?_
  obtain ⟨s1, s2, s3⟩ := drDef_sz hx
  have l0 := hx.2.1
  have l1 := hx.2.2.1
  have e0 : idx x.Rules 0 = some (x.Rules[0]'(by omega)) := idx_nat_lt (xs := x.Rules) (i := 0) (by omega)
  have h0 : shRule' (x.Rules[0]'(by omega)) := by
    obtain ⟨nm, h1, h2⟩ := hx.2.2.2 0 _ (List.getElem?_eq_getElem (by omega))
    exact drRule_sh (rNames_sz nm (List.mem_of_getElem? h1)) h2
  refine .ite (fun _ => ?_) fun _ => .ite (fun _ => ?_) fun _ => .ite (fun _ => ?_) fun _ => .ite (fun _ => ?_) fun _ => .ret (ge.at g.1) ⟨s1, s2, s3⟩
  · exact (str_d hb (ge.at g.1) _ (by decide)).bind fun k f gf hk => .ret (gf.at g.1) ⟨(show ∀ s ∈ ([⟨#[]⟩, ⟨#[65]⟩] : List ByteArray), s.size ≤ 16 by decide) _ hk, s2, s3⟩
  · exact (ruleAny_d hN hb (ge.at g.1)).bind fun r f gf hr => .bindO (app_sm (show x.Rules.length ≤ 4194304 by omega) (by simp)) (.ret (gf.at g.1) ⟨s1, by simp; omega, mem_snoc s3 hr⟩)
  · refine .bindO e0 ((bend_d hN hb (ge.at g.1) h0).bind fun r f gf hr => .bindO e0 (.ret (gf.at g.1) ⟨s1, by simpa using s2, fun p hp => ?_⟩))
    rcases List.mem_or_eq_of_mem_set hp with h | h
    · exact s3 p h
    · rw [h]; exact hr
  · exact .bindO (ssl00 x.Rules) (.ret (ge.at g.1) ⟨s1, by simp, by simp⟩)
end Go.Proofs.YtelchcokfcdndaaGreat
namespace Go.Proofs.YtelchcokfcdndaaGreat
open Eng
theorem shDef_Sz {d : TDef} (h : shDef d) : SzDef d := by
  obtain ⟨h1, h2, h3⟩ := h
  exact ⟨by omega, by omega, fun r hr => shRule_Sz (h3 r hr)⟩
end Go.Proofs.YtelchcokfcdndaaGreat
namespace Go.Proofs.YtelchcokfcdndaaGreat
open Eng
set_option linter.unusedVariables false
set_option linter.unusedSimpArgs false
theorem draw_ok {N : Nat} (hN : 1099000000000 ≤ N) {b : List Int} (hb : b.length ≤ 1048576) : ∃ d s, m_s_DrawAllMatches N b = some (d, s) ∧ shDef d ∧ drStore s := by
  unfold m_s_DrawAllMatches
  obtain ⟨c, e0, g0⟩ := new_ok hN b hb
  rw [e0, Option.bind_some]
  obtain ⟨d, c1, e1, g1, hd⟩ := def_d hN hb g0
  obtain ⟨q, c2, e2, g2, -⟩ := once_d (N := N) hb (g1.at g0.1) 8
  simp only [e1, Option.bind_some, e2]
  have j1 : ∀ (d : TDef) (x h : Int), shDef d → GC b ⟨c.b, x, h⟩ → ∃ d' s, m_s_DrawAllMatches_j1 N c d.Rules x h d.Name = some (d', s) ∧ shDef d' ∧ drStore s := by
    intro d x h hd gx
    unfold m_s_DrawAllMatches_j1
    obtain ⟨s, c3, e3, g3, hs⟩ := store_d hN hb gx
    simp only [e3, Option.bind_some]
    exact ⟨_, _, rfl, hd, hs⟩
  have g2' := g2.at (c := ⟨c.b, c1.i, c1.h⟩) g0.1
  cases q with
  | true =>
    obtain ⟨d', c3, e3, g3, hd'⟩ := defAny_d hN hb g2'
    simp only [if_true, e3, Option.bind_some]
    exact j1 d' _ _ hd' (g3.at (c := ⟨c.b, c2.i, c2.h⟩) g0.1)
  | false =>
    simp only [Bool.false_eq_true, if_false]
    exact j1 d _ _ (drDef_sz hd) g2'
theorem all_loop {N : Nat} (hN : 1099400000000 ≤ N) (d : TDef) (s : TStore) (hd : SzDef d) (hs : SzStore s) (okd : okDef d = true) (oks : okStore s = true) : m_l_FnAllMatches_l1 N (d, s) (allFrom s.Items 0 d.Rules) N 0 0 = some true := by
  have hN' : 1099000000000 ≤ N := by omega
  have hl := okDef_len okd
  have hr := okDef_rule okd
  have hall : allMatches d s = allFrom s.Items 0 d.Rules := by unfold allMatches; rw [okd, oks]; rfl
  have hX := allFrom_len (xs := s.Items) (M := 64000) d.Rules 0 fun r h => ok_rowsOf (hr r h) oks
  generalize hXe : allFrom s.Items 0 d.Rules = X at hall hX ⊢
  have lp : ∀ (n i : Nat) (done : List TMatch), i ≤ d.Rules.length → d.Rules.length - i < n → X = done ++ allFrom s.Items i (d.Rules.drop i) → m_l_FnAllMatches_l1 N (d, s) X n (done.length : Int) (i : Int) = some true := by
    intro n
    induction n with
    | zero => intro i _ _ h; omega
    | succ n ih =>
      intro i done hi hn hx
      simp only [m_l_FnAllMatches_l1]
      by_cases hlt : i < d.Rules.length
      · have c1 : decide ((i : Int) < (d.Rules.length : Int)) = true := decide_eq_true (by omega)
        have okr := hr _ (List.getElem_mem hlt)
        have hm : matchesOf d.Rules[i] s = rowsOf d.Rules[i] s.Items := by unfold matchesOf; rw [okr, oks]; rfl
        have hrl := ok_rowsOf okr oks
        rw [List.drop_eq_getElem_cons hlt, allFrom] at hx
        simp only [c1, if_true, idx_nat_lt hlt, Option.bind_some, matches_i hN _ s (hd.2.2 _ (List.getElem_mem hlt)) hs, hm]
        have hxl : X.length = done.length + ((rowsOf d.Rules[i] s.Items).length + (allFrom s.Items (i + 1) (d.Rules.drop (i + 1))).length) := by rw [hx]; simp
        have inner := lp' hN' (rowsOf d.Rules[i] s.Items) (by omega) (fun m (k : Nat) j => m_l_FnAllMatches_l2 N X (i : Int) (m_l_FnAllMatches_l1 N (d, s) X n) (rowsOf d.Rules[i] s.Items) m (k : Int) j) (fun _ _ => some true)
          (fun k t => k + t.length = done.length + (rowsOf d.Rules[i] s.Items).length ∧ X.drop k = t.map (setRule i) ++ allFrom s.Items (i + 1) (d.Rules.drop (i + 1))) done.length ⟨rfl, by rw [hx]; simp⟩
          (fun m k j x t g1 g2 g3 g4 g5 g6 gI gh => by
            obtain ⟨i1, i2⟩ := gI
            rw [List.map_cons, List.cons_append] at i2
            simp only [List.length_cons] at i1
            have hk : k < X.length := by omega
            have hxk : X[k] = setRule i x := by
              have := List.drop_eq_getElem_cons hk
              rw [i2] at this
              exact (List.cons.inj this).1.symm
            have hdr : X.drop (k + 1) = t.map (setRule i) ++ allFrom s.Items (i + 1) (d.Rules.drop (i + 1)) := by
              have := List.drop_eq_getElem_cons hk
              rw [i2] at this
              exact (List.cons.inj this).2.symm
            have hz := ok_rows okr oks
            have hsz := rowsP_sz (finR_sz d.Rules[i] s.Items) s.Items (d.Rules[i].Pats.take (posCount d.Rules[i].Pats)) [] [] x g2
            have h5 := sumArgs_take (posCount d.Rules[i].Pats) d.Rules[i].Pats
            have h6 := hz.sa
            have h7 := hz.pl
            rw [List.length_take] at hsz
            simp only [List.length_nil] at hsz
            have k1 : decide ((X.length : Int) ≤ (k : Int)) = false := decide_eq_false (by omega)
            have e1 : (setRule i x).Rule = (i : Int) := rfl
            have e2 : (setRule i x).Ids = x.Ids := rfl
            have e3 : (setRule i x).Binds = x.Binds := rfl
            simp only [m_l_FnAllMatches_l2, g5, if_true, k1, Bool.false_eq_true, if_false, idx_nat_lt hk, hxk, Option.bind_some, e1, e2, e3, decide_true, Bool.not_true, g4, sameNs hN' x.Ids x.Ids (by omega), sameBinds hN' x.Binds x.Binds (by omega), g6, wr1 k (by omega)]
            exact gh (k + 1) ⟨by omega, hdr⟩)
          (fun m k j g1 g2 gI => by
            obtain ⟨i1, i2⟩ := gI
            simp only [m_l_FnAllMatches_l2, g2, Bool.false_eq_true, if_false, wr1 i (by omega)]
            have := ih (i + 1) (done ++ (rowsOf d.Rules[i] s.Items).map (setRule i)) (by omega) (by omega) (by rw [hx]; simp)
            have hk : (done ++ (rowsOf d.Rules[i] s.Items).map (setRule i)).length = k := by simp; simp at i1; omega
            rw [hk] at this
            exact this)
        exact inner
      · have c1 : decide ((i : Int) < (d.Rules.length : Int)) = false := decide_eq_false (by omega)
        rw [List.drop_of_length_le (by omega), allFrom, List.append_nil] at hx
        have k1 : decide ((done.length : Int) = (X.length : Int)) = true := decide_eq_true (by rw [hx])
        simp only [c1, Bool.false_eq_true, if_false, k1, if_true, allM_s hN d s hd hs, hall, Option.bind_some, m_l_FnAllMatches_j3]
  have := lp N 0 [] (by omega) (by omega) (by simpa using hXe.symm)
  simpa using this
theorem law_FnAllMatches {N : Nat} (hN : 1099400000000 ≤ N) (b : List Int) : m_l_FnAllMatches N b = some true := by
  have hN' : 1099000000000 ≤ N := by omega
  unfold m_l_FnAllMatches m_l_big
  by_cases hb : b.length ≤ 1048576
  · have c1 : decide (1048576 < (b.length : Int)) = false := decide_eq_false (by omega)
    obtain ⟨d, s, e, hd, hs⟩ := draw_ok hN' hb
    have szd := shDef_Sz hd
    have szs' := drStore_sz hs
    have oks := drStore_ok hs
    simp only [c1, Option.bind_some, Bool.false_eq_true, if_false, e, allM_i hN d s szd szs', def_s hN' d szd]
    cases okd : okDef d with
    | false => simp [allMatches, okd]
    | true =>
      have hall : allMatches d s = allFrom s.Items 0 d.Rules := by unfold allMatches; rw [okd, oks]; rfl
      rw [hall]
      have := all_loop hN d s szd szs' okd oks
      simpa using this
  · have c1 : decide (1048576 < (b.length : Int)) = true := decide_eq_true (by omega)
    simp only [c1, Option.bind_some, if_true]
namespace fnAllMatches
theorem law {x0 : List Int} (w0 : (WfL (WfI .u8)) x0) : m_l_FnAllMatches 1099511627776 x0 = some true := law_FnAllMatches (by omega) x0
end fnAllMatches
end Go.Proofs.YtelchcokfcdndaaGreat
