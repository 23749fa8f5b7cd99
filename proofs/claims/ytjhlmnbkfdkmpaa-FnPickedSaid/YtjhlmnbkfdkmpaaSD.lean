/- Plain laws: draws. A cursor over the drawn bytes gives numbers within bounds, and never fails. -/
import Derived.Test.YtjhlmnbkfdkmpaaCL
import Derived.Test.YtjhlmnbkfdkmpaaWPickedMod
namespace Go.Proofs.Ytjhlmnbkfdkmpaa
open Eng
set_option linter.unusedVariables false
set_option linter.unusedSimpArgs false

theorem and_le (i : Int) (m : Nat) (h : m < 4611686018427387904) : 0 ≤ andI .i64 i (m : Int) ∧ andI .i64 i (m : Int) ≤ (m : Int) := by
  unfold andI
  have h1 : ((BitVec.ofInt IntKind.i64.bits i) &&& (BitVec.ofInt IntKind.i64.bits (m : Int))).toNat ≤ m := by
    rw [BitVec.toNat_and]
    have h2 : (BitVec.ofInt IntKind.i64.bits (m : Int)).toNat = m := by
      rw [BitVec.toNat_ofInt]
      have : ((2 ^ IntKind.i64.bits : Nat) : Int) = 18446744073709551616 := by decide
      rw [this, Int.emod_eq_of_lt (by omega) (by omega)]
      simp
    rw [h2]; exact Nat.and_le_right
  rw [wr (by omega) (by omega)]
  omega
theorem and255 (i : Int) : 0 ≤ andI .i64 i 255 ∧ andI .i64 i 255 ≤ 255 := and_le i 255 (by omega)

/-- A cursor over the bytes b. -/
def GC (b : List Int) (c : Tl1Cur) : Prop := c.b = b ∧ 0 ≤ c.i ∧ c.i ≤ (b.length : Int)
theorem GC.mk' {b : List Int} {c : Tl1Cur} (h : GC b c) : GC b (⟨c.b, c.i, c.h⟩ : Tl1Cur) := h
theorem GC.re {b : List Int} {c d : Tl1Cur} (h : GC b c) (h' : d.b = b) : GC b (⟨d.b, c.i, c.h⟩ : Tl1Cur) := ⟨h', h.2⟩

theorem new_ok {N : Nat} (hN : 1099000000000 ≤ N) (b : List Int) (hb : b.length ≤ 1048576) : ∃ c, m_s_l1New N b = some c ∧ GC b c := by
  unfold m_s_l1New
  have : ∀ (n i : Nat) (h : Int), i ≤ b.length → b.length - i < n → ∃ c, m_s_l1New_l1 N b n h i = some c ∧ GC b c := by
    intro n
    induction n with
    | zero => intro i h _ h'; omega
    | succ n ih =>
      intro i h hi hn
      simp only [m_s_l1New_l1]
      by_cases hlt : i < b.length
      · have c1 : decide ((i : Int) < (b.length : Int)) = true := decide_eq_true (by omega)
        simp only [c1, if_true, Option.bind_some, idx_nat_lt hlt, wr1 i (by omega)]
        split
        · exact ih (i + 1) _ (by omega) (by omega)
        · exact ⟨_, rfl, rfl, by simp, by simp⟩
      · have c1 : decide ((i : Int) < (b.length : Int)) = false := decide_eq_false (by omega)
        simp only [c1, Bool.false_eq_true, if_false, Option.bind_some]
        exact ⟨_, rfl, rfl, by simp, by simp⟩
  exact this N 0 _ (by omega) (by omega)

theorem byte_ok {N : Nat} (b : List Int) (hb : b.length ≤ 1048576) (c : Tl1Cur) (hc : GC b c) : ∃ v d, m_s_l1Byte N c = some (v, d) ∧ GC b d ∧ 0 ≤ v ∧ v ≤ 255 := by
  obtain ⟨rfl, h0, h1⟩ := hc
  unfold m_s_l1Byte
  by_cases hlt : c.i < (c.b.length : Int)
  · obtain ⟨i, hi⟩ : ∃ i : Nat, c.i = (i : Int) := ⟨c.i.toNat, by omega⟩
    have c1 : decide (c.i < (c.b.length : Int)) = true := decide_eq_true hlt
    rw [hi] at h0 h1 hlt ⊢
    rw [hi] at c1
    simp only [c1, if_true, idx_nat_lt (show i < c.b.length by omega), Option.bind_some, wr1 i (by omega)]
    exact ⟨_, _, rfl, ⟨rfl, by simp; omega, by simp; omega⟩, and255 _⟩
  · have c1 : decide (c.i < (c.b.length : Int)) = false := decide_eq_false hlt
    simp only [c1, Bool.false_eq_true, if_false]
    exact ⟨_, _, rfl, ⟨rfl, h0, h1⟩, and255 _⟩

theorem rem_ok {v n : Int} (hv : 0 ≤ v) (hn : 0 < n) : ∃ r, remI v n = some r ∧ 0 ≤ r ∧ r < n := by
  unfold remI
  rw [if_neg (by omega), Int.tmod_eq_emod_of_nonneg hv]
  exact ⟨_, rfl, Int.emod_nonneg _ (by omega), Int.emod_lt_of_pos _ hn⟩

theorem below_ok {N : Nat} (b : List Int) (hb : b.length ≤ 1048576) (c : Tl1Cur) (hc : GC b c) (n : Int) : ∃ v d, m_s_l1Below N c n = some (v, d) ∧ GC b d ∧ 0 ≤ v ∧ (0 < n → v < n) ∧ (n ≤ 0 → v = 0) := by
  unfold m_s_l1Below
  by_cases h0 : n ≤ 0
  · simp only [h0, decide_true, if_true]
    exact ⟨_, _, rfl, hc, by omega, by omega, fun _ => rfl⟩
  · simp only [h0, decide_false, Bool.false_eq_true, if_false]
    by_cases h1 : n ≤ 256
    · simp only [h1, decide_true, if_true]
      obtain ⟨v, d, e, g, a1, a2⟩ := byte_ok (N := N) b hb c hc
      obtain ⟨r, er, r0, r1⟩ := rem_ok a1 (show 0 < n by omega)
      simp only [e, Option.bind_some, er]
      exact ⟨_, _, rfl, g.re hc.1 |> fun _ => ⟨hc.1, g.2⟩, r0, fun _ => r1, fun h => h.elim⟩
    · simp only [h1, decide_false, Bool.false_eq_true, if_false]
      obtain ⟨v1, d1, e1, g1, a1, a1'⟩ := byte_ok (N := N) b hb c hc
      simp only [e1, Option.bind_some]
      obtain ⟨v2, d2, e2, g2, a2, a2'⟩ := byte_ok (N := N) b hb ⟨c.b, d1.i, d1.h⟩ ⟨hc.1, g1.2⟩
      simp only [e2, Option.bind_some]
      obtain ⟨v3, d3, e3, g3, a3, a3'⟩ := byte_ok (N := N) b hb ⟨c.b, d2.i, d2.h⟩ ⟨hc.1, g2.2⟩
      simp only [e3, Option.bind_some]
      rw [wr (n := v1 * 65536) (by omega) (by omega), wr (n := v2 * 256) (by omega) (by omega), wr (n := v1 * 65536 + v2 * 256) (by omega) (by omega), wr (n := v1 * 65536 + v2 * 256 + v3) (by omega) (by omega)]
      obtain ⟨r, er, r0, r1⟩ := rem_ok (show 0 ≤ v1 * 65536 + v2 * 256 + v3 by omega) (show 0 < n by omega)
      simp only [er, Option.bind_some]
      exact ⟨_, _, rfl, ⟨hc.1, g3.2⟩, r0, fun _ => r1, fun h => h.elim⟩
theorem wrm {s : Int} (h : 0 < s) (h' : s ≤ 4611686018427387904) : IntKind.i64.wrap (s - 1) = s - 1 := wr (by omega) (by omega)
end Go.Proofs.Ytjhlmnbkfdkmpaa
