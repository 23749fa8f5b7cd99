/- Plain law: the core of Blocked. -/
import Derived.Test.YtjhlmnbkfdkmpaaSBlocked
namespace Go.Proofs.Ytjhlmnbkfdkmpaa
open Eng
theorem c_Blocked {N : Nat} (hN : 1099511627776 ≤ N) (r : TRule) (s : TStore) (l : List TBind) (hr : totTRule r ≤ 1048576) (hs : totTStore s ≤ 1048576) (hb : (l.length : Int) + (l.map totTBind).sum ≤ 1048576) : ∃ b, m_s_Blocked N r s l = some b ∧ m_i_Blocked N r s l = some b := by
  unfold totTRule at hr
  unfold totTStore at hs
  have n1 : ∀ y ∈ r.Pats, 0 ≤ totTPat y := fun y _ => totTPat_nn y
  have s1 := sum_nonneg _ _ n1
  have s2 := sum_nonneg totTCond r.Conds (fun y _ => totTCond_nn y)
  have s3 := sum_nonneg totTAct r.Acts (fun y _ => totTAct_nn y)
  have s4 := sum_nonneg totTItem s.Items (fun y _ => totTItem_nn y)
  have s5 := sum_nonneg totTBind l (fun y _ => totTBind_nn y)
  have ha : ∀ p ∈ r.Pats, p.Args.length ≤ 1048576 := fun p h1 => by
    have h2 := sum_mem _ _ n1 p h1
    have h3 : totTPat p ≤ 1048576 := by omega
    unfold totTPat at h3
    have := sum_nonneg totTArg p.Args (fun y _ => totTArg_nn y)
    omega
  exact ⟨_, blocked_s hN r s l (by omega) ha (by omega) (by omega), blocked_i hN r s l (by omega) ha (by omega) (by omega)⟩
end Go.Proofs.Ytjhlmnbkfdkmpaa
