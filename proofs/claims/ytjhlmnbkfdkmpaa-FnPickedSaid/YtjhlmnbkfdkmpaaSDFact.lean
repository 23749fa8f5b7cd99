/- Plain laws: draws: facts. -/
import Derived.Test.YtjhlmnbkfdkmpaaSDVal
namespace Go.Proofs.Ytjhlmnbkfdkmpaa
open Eng
set_option linter.unusedVariables false
set_option linter.unusedSimpArgs false
def kinds3 : List ByteArray := [⟨#[111, 114, 100, 101, 114]⟩, ⟨#[112, 97, 105, 100]⟩, ⟨#[105, 116, 101, 109]⟩, ⟨#[111, 114, 100, 101, 114]⟩]
def drFact (f : TFact) : Prop := f.Kind ∈ kinds3 ∧ f.Fields.length ≤ 5 ∧ ∀ v ∈ f.Fields, drVal v
theorem fact_d {N : Nat} (hN : 1099000000000 ≤ N) {b : List Int} (hb : b.length ≤ 1048576) {c : Tl1Cur} (g : GC b c) : Dr b drFact (m_s_l3Draw N c) := by
  unfold m_s_l3Draw
  refine (str_d hb g _ (by decide)).bind fun k d gd hk => ?_
  have lp : ∀ (m : Nat), m ≤ 5 → ∀ (n i : Nat) (s : List TVal) (x h : Int), i ≤ m → m - i < n → s.length = i → (∀ a ∈ s, drVal a) → GC b ⟨c.b, x, h⟩ → Dr b drFact (m_s_l3Draw_l3 N c (k, d) (m : Int) n s (i : Int) x h) := by
    intro m hm n
    induction n with
    | zero => intro i _ _ _ _ h; omega
    | succ n ih =>
      intro i s x h hi hn hs ha gx
      simp only [m_s_l3Draw_l3]
      refine .ite (fun hlt => ?_) (fun hge => .ret gx ⟨hk, by dsimp only; omega, ha⟩)
      have hlt := of_decide_eq_true hlt
      refine (small_d hb gx).bind fun a e ge q => .bindO (app_sm (by omega) (by simp)) ?_
      rw [wr1 i (by omega)]
      exact ih (i + 1) _ _ _ (by omega) (by omega) (by simp; omega) (mem_snoc ha q) (ge.at (c := ⟨c.b, x, h⟩) gx.1)
  have j1 : ∀ (m : Nat), m ≤ 5 → Dr b drFact (m_s_l3Draw_j1 N c (k, d) (m : Int)) := by
    intro m hm
    unfold m_s_l3Draw_j1 m_s_l3Draw_j2
    refine (once_d hb (gd.at g.1) 12).bind fun v e ge _ => .ite (fun _ => ?_) (fun _ => ?_)
    · refine (below_d hb (ge.at g.1) 6 (by omega)).bind fun w f gf hw => ?_
      obtain ⟨j, rfl⟩ : ∃ j : Nat, w = (j : Int) := ⟨w.toNat, by omega⟩
      exact lp j (by omega) N 0 [] _ _ (by omega) (by omega) rfl (by simp) (gf.at g.1)
    · exact lp m hm N 0 [] _ _ (by omega) (by omega) rfl (by simp) (ge.at g.1)
  exact .ite (fun _ => j1 2 (by omega)) (fun _ => j1 1 (by omega))
end Go.Proofs.Ytjhlmnbkfdkmpaa
