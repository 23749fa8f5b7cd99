/- Plain laws: draws: once in n. -/
import Derived.Test.YtjhlmnbkfdkmpaaSDC
namespace Go.Proofs.Ytjhlmnbkfdkmpaa
open Eng
theorem once_d {N : Nat} {b : List Int} (hb : b.length ≤ 1048576) {c : Tl1Cur} (g : GC b c) (n : Int) : Dr b (fun _ => True) (m_s_l1Once N c n) := by
  unfold m_s_l1Once
  exact (below_d' hb g n).bind fun v d gd _ => .ret (gd.at g.1) trivial
end Go.Proofs.Ytjhlmnbkfdkmpaa
