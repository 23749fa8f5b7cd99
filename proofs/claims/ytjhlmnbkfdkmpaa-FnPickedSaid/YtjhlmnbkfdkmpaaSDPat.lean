/- Plain laws: draws: patterns. -/
import Derived.Test.YtjhlmnbkfdkmpaaSDVal
namespace Go.Proofs.Ytjhlmnbkfdkmpaa
open Eng
set_option linter.unusedVariables false
def shArg (a : TArg) : Prop := a.S.size ≤ 16 ∧ a.V.S.size ≤ 16
def shPat (p : TPat) : Prop := p.Kind.size ≤ 16 ∧ p.Args.length ≤ 16 ∧ ∀ a ∈ p.Args, shArg a
def drArg (a : TArg) : Prop := a = ⟨3, ⟨#[]⟩, ⟨0, 0, ⟨#[]⟩⟩⟩ ∨ (∃ v, drVal v ∧ a = ⟨2, ⟨#[]⟩, v⟩) ∨ ∃ s ∈ ([⟨#[88]⟩, ⟨#[89]⟩, ⟨#[90]⟩, ⟨#[88]⟩] : List ByteArray), a = ⟨1, s, ⟨0, 0, ⟨#[]⟩⟩⟩
theorem drArg_sz {a : TArg} (h : drArg a) : shArg a := by
  rcases h with rfl | ⟨v, hv, rfl⟩ | ⟨s, hs, rfl⟩
  · exact ⟨Nat.zero_le _, Nat.zero_le _⟩
  · exact ⟨Nat.zero_le _, drVal_sz hv⟩
  · exact ⟨(show ∀ s ∈ ([⟨#[88]⟩, ⟨#[89]⟩, ⟨#[90]⟩, ⟨#[88]⟩] : List ByteArray), s.size ≤ 16 by decide) s hs, Nat.zero_le _⟩
theorem arg_d {N : Nat} {b : List Int} (hb : b.length ≤ 1048576) {c : Tl1Cur} (g : GC b c) : Dr b drArg (m_s_l6Arg N c) := by
  unfold m_s_l6Arg
  refine (below_d hb g 6 (by omega)).bind fun v d gd _ => .ite (fun _ => .ret (gd.at g.1) (.inl rfl)) fun _ => .ite (fun _ => ?_) fun _ => ?_
  · exact (small_d hb (gd.at g.1)).bind fun w e ge q => .bindO rfl (.ret (ge.at g.1) (.inr (.inl ⟨w, q, rfl⟩)))
  · exact (str_d hb (gd.at g.1) _ (by decide)).bind fun w e ge q => .bindO rfl (.ret (ge.at g.1) (.inr (.inr ⟨w, q, rfl⟩)))
def drPat (n : Bool) (p : TPat) : Prop := p.Not = n ∧ p.Kind ∈ ([⟨#[111, 114, 100, 101, 114]⟩, ⟨#[112, 97, 105, 100]⟩, ⟨#[105, 116, 101, 109]⟩, ⟨#[111, 114, 100, 101, 114]⟩] : List ByteArray) ∧ p.Args.length ≤ 2 ∧ ∀ a ∈ p.Args, drArg a
theorem drPat_sz {n : Bool} {p : TPat} (h : drPat n p) : shPat p := by
  obtain ⟨_, h1, h2, h3⟩ := h
  exact ⟨(show ∀ s ∈ ([⟨#[111, 114, 100, 101, 114]⟩, ⟨#[112, 97, 105, 100]⟩, ⟨#[105, 116, 101, 109]⟩, ⟨#[111, 114, 100, 101, 114]⟩] : List ByteArray), s.size ≤ 16 by decide) _ h1, by omega, fun a ha => drArg_sz (h3 a ha)⟩
theorem pat_d {N : Nat} (hN : 1099000000000 ≤ N) {b : List Int} (hb : b.length ≤ 1048576) {c : Tl1Cur} (g : GC b c) (nt : Bool) : Dr b (drPat nt) (m_s_l6Draw N c nt) := by
  unfold m_s_l6Draw
  refine (str_d hb g _ (by decide)).bind fun k d gd hk => ?_
  have lp : ∀ (m : Nat), m ≤ 2 → ∀ (n i : Nat) (s : List TArg) (x h : Int), i ≤ m → m - i < n → s.length = i → (∀ a ∈ s, drArg a) → GC b ⟨c.b, x, h⟩ → Dr b (drPat nt) (m_s_l6Draw_l2 N c nt (k, d) (m : Int) n s (i : Int) x h) := by
    intro m hm n
    induction n with
    | zero => intro i _ _ _ _ h; omega
    | succ n ih =>
      intro i s x h hi hn hs ha gx
      simp only [m_s_l6Draw_l2]
      refine .ite (fun hlt => ?_) (fun hge => .ret gx ⟨rfl, hk, by dsimp only; omega, ha⟩)
      have hlt := of_decide_eq_true hlt
      refine (arg_d hb gx).bind fun a e ge q => .bindO (app_sm (by omega) (by simp)) ?_
      rw [wr1 i (by omega)]
      exact ih (i + 1) _ _ _ (by omega) (by omega) (by simp; omega) (mem_snoc ha q) (ge.at (c := ⟨c.b, x, h⟩) gx.1)
  exact .ite (fun _ => lp 2 (by omega) N 0 [] _ _ (by omega) (by omega) rfl (by simp) (gd.at g.1)) (fun _ => lp 1 (by omega) N 0 [] _ _ (by omega) (by omega) rfl (by simp) (gd.at g.1))
end Go.Proofs.Ytjhlmnbkfdkmpaa
