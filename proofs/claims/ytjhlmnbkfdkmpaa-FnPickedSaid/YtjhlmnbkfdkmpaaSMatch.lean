/- Plain laws: matching a pattern with a fact, as the reference does. -/
import Derived.Test.YtjhlmnbkfdkmpaaCL2
import Derived.Test.YtjhlmnbkfdkmpaaWPickedPur
namespace Go.Proofs.Ytjhlmnbkfdkmpaa
open Eng
set_option linter.unusedVariables false
set_option linter.unusedSimpArgs false

def zv : TVal := ⟨0, 0, ⟨#[]⟩⟩
/-- What a name is bound to. -/
def look (p : List TBind) (n : ByteArray) : TVal × Bool := match p.find? (fun b => seq b.Name n) with
  | some b => (b.V, true)
  | none => (zv, false)
theorem look_cons (b : TBind) (p : List TBind) (n : ByteArray) : look (b :: p) n = if seq b.Name n = true then (b.V, true) else look p n := by
  unfold look; rw [List.find?_cons]
  cases seq b.Name n <;> simp
theorem look_s {N : Nat} (hN : 1099000000000 ≤ N) (p : List TBind) (n : ByteArray) (hl : p.length ≤ 4294967296) : m_s_BindOf N p n = some (look p n) := by
  unfold m_s_BindOf
  have : ∀ (k i : Nat), i ≤ p.length → p.length - i < k → m_s_BindOf_l1 N p n k i = some (look (p.drop i) n) := by
    intro k
    induction k with
    | zero => intro i _ h; omega
    | succ k ih =>
      intro i hi hk
      simp only [m_s_BindOf_l1]
      by_cases hlt : i < p.length
      · have c1 : decide ((i : Int) < (p.length : Int)) = true := decide_eq_true (by omega)
        rw [List.drop_eq_getElem_cons hlt, look_cons]
        simp only [c1, if_true, idx_nat_lt hlt, Option.bind_some, wr1 i (by omega), ih (i + 1) (by omega) (by omega)]
        cases seq p[i].Name n <;> rfl
      · have c1 : decide ((i : Int) < (p.length : Int)) = false := decide_eq_false (by omega)
        simp only [c1, Bool.false_eq_true, if_false]
        rw [List.drop_of_length_le (by omega)]; rfl
  exact this N 0 (by omega) (by omega)
/-- A pattern's questions, one after the other, against a fact's fields. b0: what is answered if one fails. -/
def matchArgs (b0 : List TBind) : List TArg → List TVal → List TBind → List TBind × Bool
  | a :: as, v :: vs, s =>
    if a.K = 2 then (if eqT_TVal a.V v = true then matchArgs b0 as vs s else (b0, false))
    else if a.K = 1 then (if (look s a.S).2 = true then (if eqT_TVal (look s a.S).1 v = true then matchArgs b0 as vs s else (b0, false)) else matchArgs b0 as vs (s ++ [⟨a.S, v⟩]))
    else matchArgs b0 as vs s
  | _, _, s => (s, true)
theorem match_loopS {N : Nat} (hN : 1099000000000 ≤ N) (p : TPat) (f : TFact) (b : List TBind) (he : p.Args.length = f.Fields.length) (hl : p.Args.length ≤ 1048576) (hb : b.length ≤ 2147483648) : ∀ (n i : Nat) (s : List TBind), i ≤ p.Args.length → p.Args.length - i < n → s.length ≤ 2147483648 + i →
    m_s_MatchPat_l1 N p f b n s i = some (matchArgs b (p.Args.drop i) (f.Fields.drop i) s) := by
  intro n
  induction n with
  | zero => intro i s _ h; omega
  | succ n ih =>
    intro i s hi hn hs
    simp only [m_s_MatchPat_l1]
    by_cases hlt : i < p.Args.length
    · have c1 : decide ((i : Int) < (p.Args.length : Int)) = true := decide_eq_true (by omega)
      have hlt' : i < f.Fields.length := by omega
      rw [List.drop_eq_getElem_cons hlt, List.drop_eq_getElem_cons hlt', matchArgs]
      simp only [c1, if_true, idx_nat_lt hlt, idx_nat_lt hlt', Option.bind_some, look_s hN s _ (show s.length ≤ 4294967296 by omega), app_nil (show b.length ≤ 4294967296 by omega), app_ok (show s.length + [(⟨p.Args[i].S, f.Fields[i]⟩ : TBind)].length ≤ 4294967296 by simp; omega), wr1 i (by omega), andS, orS]
      have ih1 := ih (i + 1) s (by omega) (by omega) (by omega)
      have ih2 := ih (i + 1) (s ++ [⟨p.Args[i].S, f.Fields[i]⟩]) (by omega) (by omega) (by simp; omega)
      by_cases k2 : p.Args[i].K = 2
      · have k1 : ¬ p.Args[i].K = 1 := by omega
        simp only [k2, k1, decide_true, decide_false, if_true, if_false, Bool.true_and, Bool.false_and, Bool.or_false, Bool.false_eq_true, Option.bind_some, show ¬ (2 : Int) = 1 by omega]
        cases eqT_TVal p.Args[i].V f.Fields[i] with
        | true => simpa using ih1
        | false => simp
      · by_cases k1 : p.Args[i].K = 1
        · simp only [k1, decide_true, decide_false, if_true, if_false, Bool.true_and, Bool.false_and, Bool.false_or, Bool.false_eq_true, Option.bind_some, show ¬ (1 : Int) = 2 by omega]
          cases (look s p.Args[i].S).2 with
          | true =>
            simp only [if_true, Bool.not_true, Bool.true_and, Bool.false_eq_true, if_false]
            cases eqT_TVal (look s p.Args[i].S).1 f.Fields[i] with
            | true => simpa using ih1
            | false => simp
          | false => simpa using ih2
        · simp only [k1, k2, decide_false, if_false, Bool.false_and, Bool.false_or, Bool.or_false, Bool.false_eq_true, Option.bind_some]
          simpa using ih1
    · have c1 : decide ((i : Int) < (p.Args.length : Int)) = false := decide_eq_false (by omega)
      simp only [c1, Bool.false_eq_true, if_false]
      rw [List.drop_of_length_le (by omega)]
      rfl
def matchPat (p : TPat) (f : TFact) (b : List TBind) : List TBind × Bool := if seq p.Kind f.Kind = true ∧ p.Args.length = f.Fields.length then matchArgs b p.Args f.Fields b else (b, false)
theorem match_s {N : Nat} (hN : 1099000000000 ≤ N) (p : TPat) (f : TFact) (b : List TBind) (hl : p.Args.length ≤ 1048576) (hb : b.length ≤ 2147483648) : m_s_MatchPat N p f b = some (matchPat p f b) := by
  unfold m_s_MatchPat matchPat
  rw [app_nil (by omega)]
  simp only [Option.bind_some, orS]
  cases hk : seq p.Kind f.Kind with
  | false => simp
  | true =>
    by_cases he : p.Args.length = f.Fields.length
    · have he' : decide ((p.Args.length : Int) = (f.Fields.length : Int)) = true := decide_eq_true (by omega)
      have := (match_loopS hN p f b he hl hb N 0 b (by omega) (by omega) (by omega))
      simp only [he', he, Bool.not_true, Bool.or_false, Bool.false_eq_true, if_false, true_and, if_true]
      simpa using this
    · have he' : decide ((p.Args.length : Int) = (f.Fields.length : Int)) = false := decide_eq_false (by omega)
      simp [he', he]
theorem matchArgs_len {b0 : List TBind} : ∀ (as : List TArg) (vs : List TVal) (s : List TBind), (matchArgs b0 as vs s).1.length ≤ b0.length ∨ (matchArgs b0 as vs s).1.length ≤ s.length + as.length
  | [], vs, s => .inr (by simp [matchArgs])
  | a :: as, [], s => .inr (by simp [matchArgs])
  | a :: as, v :: vs, s => by
    have h1 := matchArgs_len (b0 := b0) as vs s
    have h2 := matchArgs_len (b0 := b0) as vs (s ++ [⟨a.S, v⟩])
    simp only [List.length_append, List.length_cons, List.length_nil] at h1 h2 ⊢
    unfold matchArgs
    split
    · split
      · omega
      · exact .inl (Nat.le_refl _)
    · split
      · split
        · split
          · omega
          · exact .inl (Nat.le_refl _)
        · omega
      · omega
theorem matchPat_len (p : TPat) (f : TFact) (b : List TBind) : (matchPat p f b).1.length ≤ b.length + p.Args.length := by
  unfold matchPat
  split
  · have := matchArgs_len (b0 := b) p.Args f.Fields b; omega
  · simp
theorem matchArgs_all {P : TBind → Prop} {b0 : List TBind} (h0 : ∀ x ∈ b0, P x) : ∀ (as : List TArg) (vs : List TVal) (s : List TBind), (∀ x ∈ s, P x) → (∀ a ∈ as, ∀ v ∈ vs, P ⟨a.S, v⟩) → ∀ x ∈ (matchArgs b0 as vs s).1, P x
  | [], vs, s, hs, _ => by simpa [matchArgs] using hs
  | a :: as, [], s, hs, _ => by simpa [matchArgs] using hs
  | a :: as, v :: vs, s, hs, h => by
    have ht : ∀ c ∈ as, ∀ w ∈ vs, P ⟨c.S, w⟩ := fun c hc w hw => h c (by simp [hc]) w (by simp [hw])
    have h1 := matchArgs_all h0 as vs s hs ht
    have h2 := matchArgs_all h0 as vs (s ++ [⟨a.S, v⟩]) (fun x hx => by
      rcases List.mem_append.1 hx with hx | hx
      · exact hs x hx
      · simp at hx; rw [hx]; exact h a (by simp) v (by simp)) ht
    unfold matchArgs
    split
    · split
      · exact h1
      · exact h0
    · split
      · split
        · split
          · exact h1
          · exact h0
        · exact h2
      · exact h1
theorem matchPat_all {P : TBind → Prop} {p : TPat} {f : TFact} {b : List TBind} (h0 : ∀ x ∈ b, P x) (h : ∀ a ∈ p.Args, ∀ v ∈ f.Fields, P ⟨a.S, v⟩) : ∀ x ∈ (matchPat p f b).1, P x := by
  unfold matchPat
  split
  · exact matchArgs_all h0 _ _ _ h0 h
  · exact h0
end Go.Proofs.Ytjhlmnbkfdkmpaa
