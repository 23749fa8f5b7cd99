/- Plain laws: draws: small values. -/
import Derived.Test.YtjhlmnbkfdkmpaaSDOnce
import Derived.Test.YtjhlmnbkfdkmpaaSDStr
namespace Go.Proofs.Ytjhlmnbkfdkmpaa
open Eng
def drVal (v : TVal) : Prop := (∃ n : Int, 1 ≤ n ∧ n ≤ 3 ∧ v = ⟨1, n, ⟨#[]⟩⟩) ∨ ∃ s ∈ ([⟨#[97]⟩, ⟨#[98]⟩] : List ByteArray), v = ⟨2, 0, s⟩
theorem small_d {N : Nat} {b : List Int} (hb : b.length ≤ 1048576) {c : Tl1Cur} (g : GC b c) : Dr b drVal (m_s_l3Small N c) := by
  unfold m_s_l3Small
  refine (once_d hb g 2).bind fun v d gd _ => .ite (fun _ => ?_) fun _ => ?_
  · exact (below_d hb (gd.at g.1) 3 (by omega)).bind fun w e ge q => .ret (ge.at g.1) (.inl ⟨_, by dsimp only; rw [wr (by omega) (by omega)]; omega, by dsimp only; rw [wr (by omega) (by omega)]; omega, rfl⟩)
  · exact (str_d hb (gd.at g.1) _ (by decide)).bind fun w e ge q => .ret (ge.at g.1) (.inr ⟨w, q, rfl⟩)
theorem drVal_sz {v : TVal} (h : drVal v) : v.S.size ≤ 16 := by
  rcases h with ⟨n, _, _, rfl⟩ | ⟨s, hs, rfl⟩
  · show (0 : Nat) ≤ 16; omega
  · exact (show ∀ s ∈ ([⟨#[97]⟩, ⟨#[98]⟩] : List ByteArray), s.size ≤ 16 by decide) s hs
end Go.Proofs.Ytjhlmnbkfdkmpaa
