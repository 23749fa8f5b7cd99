/- Plain laws: draws: patterns, right or not. -/
import Derived.Test.YtjhlmnbkfdkmpaaSDPat
namespace Go.Proofs.Ytjhlmnbkfdkmpaa
open Eng
set_option linter.unusedVariables false
set_option linter.unusedSimpArgs false
theorem wr5 {v : Int} (h : 0 ≤ v) (h' : v < 4294967296) : IntKind.i64.wrap (5 + v) = 5 + v := wr (by omega) (by omega)
theorem patAny_d {N : Nat} (hN : 1099000000000 ≤ N) {b : List Int} (hb : b.length ≤ 1048576) {c : Tl1Cur} (g : GC b c) : Dr b shPat (m_s_l6Any N c) := by
  unfold m_s_l6Any
  refine (once_d hb g 3).bind fun nt d0 g0 _ => (pat_d hN hb (g0.at g.1) nt).bind fun p d gd hp => (below_d hb (gd.at g.1) 10 (by omega)).bind fun v e ge _ => ?_
  obtain ⟨s1, s2, s3⟩ := drPat_sz hp
  refine .ite (fun _ => ?_) fun _ => .ite (fun _ => ?_) fun _ => .ite (fun _ => ?_) fun _ => .ret (ge.at g.1) ⟨s1, s2, s3⟩
  · exact (str_d hb (ge.at g.1) _ (by decide)).bind fun k f gf hk => .ret (gf.at g.1) ⟨(show ∀ s ∈ ([⟨#[]⟩, ⟨#[65]⟩, ⟨#[120]⟩] : List ByteArray), s.size ≤ 16 by decide) _ hk, s2, s3⟩
  · refine (below_d hb (ge.at g.1) 5 (by omega)).bind fun k f gf hk => (str_d hb (gf.at g.1) _ (by decide)).bind fun s f' gf' hs => .bindO (app_sm (show p.Args.length ≤ 4194304 by have := hp.2.2.1; omega) (by simp)) (.ret (gf'.at g.1) ⟨s1, ?_, mem_snoc s3 ⟨?_, Nat.zero_le _⟩⟩)
    · have := hp.2.2.1; simp; omega
    · exact (show ∀ s ∈ ([⟨#[]⟩, ⟨#[120]⟩, ⟨#[88]⟩] : List ByteArray), s.size ≤ 16 by decide) _ hs
  · have lp : ∀ (n : Nat) (s : List TArg) (x h : Int), s.length ≤ 6 → 6 - s.length < n → (∀ a ∈ s, shArg a) → GC b ⟨c.b, x, h⟩ → Dr b shPat (m_s_l6Any_l3 N c (p, d) n s x h) := by
      intro n
      induction n with
      | zero => intro s _ _ _ h; omega
      | succ n ih =>
        intro s x h hl hn hs gx
        simp only [m_s_l6Any_l3]
        refine (below_d hb gx 2 (by omega)).bind fun w f gf hw => ?_
        dsimp only
        rw [wr5 hw.1 (by omega)]
        refine .ite (fun hlt => ?_) (fun _ => .ret (gf.at (c := ⟨c.b, x, h⟩) gx.1) ⟨s1, by dsimp only; omega, hs⟩)
        have hlt := of_decide_eq_true hlt
        refine (arg_d hb (gf.at (c := ⟨c.b, x, h⟩) gx.1)).bind fun a f' gf' qa => .bindO (app_sm (by omega) (by simp)) ?_
        exact ih _ _ _ (by simp; omega) (by simp; omega) (mem_snoc hs (drArg_sz qa)) (gf'.at (c := ⟨c.b, x, h⟩) gx.1)
    exact lp N p.Args _ _ (by have := hp.2.2.1; omega) (by omega) s3 (ge.at g.1)
end Go.Proofs.Ytjhlmnbkfdkmpaa
