/- Printed by a program of ours: each Go function computes its Lean function. -/
import Derived.Test.YtpajhchhkfnieaaProg
import Derived.Test.YtpajhchhkfnieaaPCMod
namespace Go.Proofs.Ytpajhchhkfnieaa
open Eng
open Go.RowKit (Below)
set_option linter.unusedVariables false
set_option linter.unusedSimpArgs false

set_option maxRecDepth 100000
set_option maxHeartbeats 1000000
theorem mixed : Try.prog.follows .mixedOrders = true := by kernel_rfl
theorem Sl_24 : Sl Try.prog 24 32 3 = true := by kernel_rfl
theorem Tn_32 : Tn Try.prog 32 3 = true := by kernel_rfl
theorem Fun_118 : Fun Try.prog 118 = true := by kernel_rfl
theorem Sl_29 : Sl Try.prog 29 3 1 = true := by kernel_rfl
theorem T1_3 : T1 Try.prog 3 = true := by kernel_rfl
theorem Fld_32_0 : Fld Try.prog 32 0 0 = true := by kernel_rfl
theorem Fld_32_1 : Fld Try.prog 32 1 1 = true := by kernel_rfl
theorem T1_29 : T1 Try.prog 29 = true := by kernel_rfl
theorem Fun_70 : Fun Try.prog 70 = true := by kernel_rfl
theorem Fun_18 : Fun Try.prog 18 = true := by kernel_rfl
theorem Fun_74 : Fun Try.prog 74 = true := by kernel_rfl
theorem Fun_73 : Fun Try.prog 73 = true := by kernel_rfl
theorem Fld_93_2 : Fld Try.prog 93 2 2 = true := by kernel_rfl
theorem T1_9 : T1 Try.prog 9 = true := by kernel_rfl
theorem Str_9 : Str Try.prog 9 = true := by kernel_rfl
theorem Fld_142_0 : Fld Try.prog 142 0 0 = true := by kernel_rfl
theorem Fld_142_1 : Fld Try.prog 142 1 1 = true := by kernel_rfl
theorem Tn_93 : Tn Try.prog 93 3 = true := by kernel_rfl
theorem Fun_122 : Fun Try.prog 122 = true := by kernel_rfl
theorem Sl_49 : Sl Try.prog 49 142 4 = true := by kernel_rfl
theorem Tn_142 : Tn Try.prog 142 4 = true := by kernel_rfl
theorem Fun_104 : Fun Try.prog 104 = true := by kernel_rfl
theorem Fld_51_1 : Fld Try.prog 51 1 1 = true := by kernel_rfl
theorem Fun_78 : Fun Try.prog 78 = true := by kernel_rfl
theorem Fld_51_2 : Fld Try.prog 51 2 2 = true := by kernel_rfl
theorem T1_49 : T1 Try.prog 49 = true := by kernel_rfl
theorem Fun_58 : Fun Try.prog 58 = true := by kernel_rfl
theorem Zr_100 : (Try.prog.info? 100).map (·.zero) = some (some (.agg #[.int .i64 0, .int .i64 0, .string ⟨#[]⟩])) := by kernel_rfl
theorem Fld_93_0 : Fld Try.prog 93 0 0 = true := by kernel_rfl
theorem Fld_100_0 : Fld Try.prog 100 0 0 = true := by kernel_rfl
theorem Sz_3 : Sz Try.prog 3 1 = true := by kernel_rfl
theorem Fld_93_1 : Fld Try.prog 93 1 1 = true := by kernel_rfl
theorem Fld_100_1 : Fld Try.prog 100 1 1 = true := by kernel_rfl
theorem Fld_100_2 : Fld Try.prog 100 2 2 = true := by kernel_rfl
theorem Sz_9 : Sz Try.prog 9 1 = true := by kernel_rfl
theorem Tn_100 : Tn Try.prog 100 3 = true := by kernel_rfl
theorem Sz_100 : Sz Try.prog 100 3 = true := by kernel_rfl
theorem Zr_130 : (Try.prog.info? 130).map (·.zero) = some (some (.agg #[.string ⟨#[]⟩, .int .i64 0, .int .i64 0, .string ⟨#[]⟩])) := by kernel_rfl
theorem Fld_130_0 : Fld Try.prog 130 0 0 = true := by kernel_rfl
theorem Fun_123 : Fun Try.prog 123 = true := by kernel_rfl
theorem Fld_130_1 : Fld Try.prog 130 1 1 = true := by kernel_rfl
theorem Tn_130 : Tn Try.prog 130 4 = true := by kernel_rfl
theorem Sz_130 : Sz Try.prog 130 4 = true := by kernel_rfl
theorem Sl_30 : Sl Try.prog 30 130 4 = true := by kernel_rfl
theorem By_130 : By Try.prog 130 48 = true := by kernel_rfl
theorem Fun_109 : Fun Try.prog 109 = true := by kernel_rfl
theorem Zr_3 : (Try.prog.info? 3).map (·.zero) = some (some (.int .i64 0)) := by kernel_rfl
theorem By_3 : By Try.prog 3 8 = true := by kernel_rfl
theorem Zr_32 : (Try.prog.info? 32).map (·.zero) = some (some (.agg #[.int .i64 0, .slice none 0 0, .slice none 0 0])) := by kernel_rfl
theorem Fld_51_0 : Fld Try.prog 51 0 0 = true := by kernel_rfl
theorem Fun_82 : Fun Try.prog 82 = true := by kernel_rfl
theorem Sz_29 : Sz Try.prog 29 1 = true := by kernel_rfl
theorem Fun_61 : Fun Try.prog 61 = true := by kernel_rfl
theorem Fld_32_2 : Fld Try.prog 32 2 2 = true := by kernel_rfl
theorem Sz_30 : Sz Try.prog 30 1 = true := by kernel_rfl
theorem Sz_32 : Sz Try.prog 32 3 = true := by kernel_rfl
theorem Fun_63 : Fun Try.prog 63 = true := by kernel_rfl
theorem Fun_113 : Fun Try.prog 113 = true := by kernel_rfl
theorem Fun_85 : Fun Try.prog 85 = true := by kernel_rfl
theorem T1_30 : T1 Try.prog 30 = true := by kernel_rfl
theorem Fun_64 : Fun Try.prog 64 = true := by kernel_rfl
theorem Sl_64 : Sl Try.prog 64 51 3 = true := by kernel_rfl
theorem Tn_51 : Tn Try.prog 51 3 = true := by kernel_rfl
theorem Fun_29 : Fun Try.prog 29 = true := by kernel_rfl
theorem Fun_79 : Fun Try.prog 79 = true := by kernel_rfl
theorem Fun_30 : Fun Try.prog 30 = true := by kernel_rfl
theorem By_32 : By Try.prog 32 56 = true := by kernel_rfl
theorem Fun_31 : Fun Try.prog 31 = true := by kernel_rfl
theorem Fun_32 : Fun Try.prog 32 = true := by kernel_rfl
theorem Fun_38 : Fun Try.prog 38 = true := by kernel_rfl
theorem Fun_40 : Fun Try.prog 40 = true := by kernel_rfl
theorem Fun_39 : Fun Try.prog 39 = true := by kernel_rfl
theorem Fun_20 : Fun Try.prog 20 = true := by kernel_rfl
theorem Bo_4 : Bo Try.prog 4 = true := by kernel_rfl
theorem Fun_41 : Fun Try.prog 41 = true := by kernel_rfl
theorem m_sl_IndexFunc_Si_Match_i_Match_ok {Φ : Hp} {w : World} (hΦ : In Φ w) (N : Nat) (p0 : (List TMatch)) (p1 : TMatch → Option (Bool)) {pv0 : Value} {pG0 : List Nat} {p1f : Nat} {p1fr : List Value} (ph0 : RSl RTMatch 3 Φ pG0 pv0 p0) (p1hF : Fun Try.prog p1f = true) (p1h : ∀ {Φ' : Hp} {w' : World}, Hle Φ Φ' → In Φ' w' → ∀ (p1a0 : TMatch) {p1v0_0 : Value} {p1G0_0 : List Nat} {p1v0_1 : Value} {p1G0_1 : List Nat} (_ : RSl (RI .i64) 1 Φ' p1G0_0 p1v0_0 p1a0.Ids) (_ : RSl RTBind 4 Φ' p1G0_1 p1v0_1 p1a0.Binds) {r : Bool}, p1 p1a0 = some r → Calls Try.prog p1f (([.agg [.int .i64 p1a0.Rule, p1v0_0, p1v0_1].toArray] : List Value) ++ p1fr).toArray w' (Post (.bool r) w')) {r : Int} (h : m_sl_IndexFunc_Si_Match_i_Match N p0 p1 = some r) :
    Calls Try.prog 118 [pv0, .func (.func p1f) #[] p1fr.toArray].toArray w (Post (.int .i64 r) w) := by
  refine enter Try.func118 rfl Try.ntmps118 rfl (St.start hΦ) ?_
  unfold m_sl_IndexFunc_Si_Match_i_Match at h
  refine WT.seq ?_
  refine WT.region ?_
  refine WL.q (q_assign rfl) rfl rfl rfl ?_
  refine WL.nil ?_
  refine WT.seq ?_
  refine WT.seq ?_
  refine WT.region ?_
  refine WL.q (q_move rfl) rfl rfl rfl ?_
  refine WL.q (q_lenR Sl_24 rfl rfl ph0) rfl rfl rfl ?_
  refine WL.q (q_move rfl) rfl rfl rfl ?_
  refine WL.nil ?_
  refine WT.block ?_
  refine WT.loop ?_
  refine WT.keep [(0, pv0), (1, .func (.func p1f) #[] p1fr.toArray), (4, .int .i64 0), (7, .int .i64 (p0.length : Int)), (8, .int .i64 0)] ⟨rfl, rfl, rfl, rfl, rfl, trivial⟩ ?_
  refine loop_ind (σ := Int) (fun s => [(0, pv0), (1, .func (.func p1f) #[] p1fr.toArray), (4, .int .i64 0), (7, .int .i64 (p0.length : Int)), (8, .int .i64 s)]) (fun s => St w Φ []) (fun m s => m_sl_IndexFunc_Si_Match_i_Match_l1 N p0 p1 m s = some r) (fun s hm => none_ne (show (none : Option (Int)) = some r from hm)) (fun k1 ih1 s hm => ?_) N (0) h
  revert hm; revert s; intro s1 hm
  have h : m_sl_IndexFunc_Si_Match_i_Match_l1 N p0 p1 (k1 + 1) s1 = some r := hm
  show WT _ _ [(0, pv0), (1, .func (.func p1f) #[] p1fr.toArray), (4, .int .i64 0), (7, .int .i64 (p0.length : Int)), (8, .int .i64 s1)] (St w Φ [])
  unfold m_sl_IndexFunc_Si_Match_i_Match_l1 at h
  refine WT.seq ?_
  refine WT.region ?_
  refine WL.q (q_lss rfl rfl) rfl rfl rfl ?_
  refine WL.nil ?_
  refine WT.seq ?_
  refine WT.cond rfl (fun c1 => ?_) (fun c1 => ?_)
  · replace h := ite_t h c1
    refine WT.skip ?_
    refine WT.seq ?_
    refine WT.block ?_
    refine WT.seq ?_
    refine WT.region ?_
    refine WL.q (q_move rfl) rfl rfl rfl ?_
    refine WL.q (q_assign rfl) rfl rfl rfl ?_
    refine WL.nil ?_
    refine WT.seq ?_
    refine WT.region ?_
    refine WL.q (q_move rfl) rfl rfl rfl ?_
    refine WL.q (q_move rfl) rfl rfl rfl ?_
    refine WL.q (q_move rfl) rfl rfl rfl ?_
    obtain ⟨x1, hx1, h⟩ := bind_some h
    obtain ⟨cs1, F1, -, g1, r1⟩ := ph0.el (idx_some hx1).2.2
    obtain ⟨v1, G1, v2, G2, rfl, -, h1, h2⟩ := r1
    refine WL.q (q_indexAddr Sl_24 rfl rfl ph0 hx1) rfl rfl rfl ?_
    refine WL.q (q_loadN Tn_32 rfl (fun w1 hw => (g1.of_eq 0 3 rfl rfl : rg _ _ _ [.int .i64 x1.Rule, v1, v2]).rangeAt hw.fro) rfl) rfl rfl rfl ?_
    obtain ⟨x2, hx2, h⟩ := bind_some h
    refine WL.call (c_pureV p1hF rfl rfl (fun w1 hw => p1h (Hle.refl _) hw.fro x1 h1 h2 hx2)) rfl rfl rfl (fun _ => ?_)
    refine WL.nil ?_
    refine WT.cond rfl (fun c2 => ?_) (fun c2 => ?_)
    · replace h := ite_t h c2
      refine WT.seq ?_
      refine WT.region ?_
      refine WL.q (q_move rfl) rfl rfl rfl ?_
      refine WL.q (q_assign rfl) rfl rfl rfl ?_
      refine WL.nil ?_
      refine WT.ret Try.func118 (resOk.one rfl) (fun w1 hw => ?_)
      cases h
      exact post_of_St hw
    · replace h := ite_f h c2
      refine WT.skip ?_
      refine WT.inBlock ?_
      refine WT.region ?_
      refine WL.q (q_add rfl rfl) rfl rfl rfl ?_
      refine WL.q (q_move rfl) rfl rfl rfl ?_
      refine WL.nil ?_
      refine WT.inLoop (WT.mono (l' := [(0, pv0), (1, .func (.func p1f) #[] p1fr.toArray), (4, .int .i64 0), (7, .int .i64 (p0.length : Int)), (8, .int .i64 (IntKind.i64.wrap (s1 + 1)))]) (S' := St w Φ []) ⟨rfl, rfl, rfl, rfl, rfl, trivial⟩ (fun w1 hw => hw.drop 0) ?_)
      exact ih1 (IntKind.i64.wrap (s1 + 1)) h
  · replace h := ite_f h c1
    refine WT.exit rfl ?_
    refine WT.seq ?_
    refine WT.region ?_
    refine WL.q (q_assign rfl) rfl rfl rfl ?_
    refine WL.nil ?_
    refine WT.ret Try.func118 (resOk.one rfl) (fun w1 hw => ?_)
    cases h
    exact post_of_St hw
theorem m_sl_ContainsFunc_Si_Match_i_Match_ok {Φ : Hp} {w : World} (hΦ : In Φ w) (N : Nat) (p0 : (List TMatch)) (p1 : TMatch → Option (Bool)) {pv0 : Value} {pG0 : List Nat} {p1f : Nat} {p1fr : List Value} (ph0 : RSl RTMatch 3 Φ pG0 pv0 p0) (p1hF : Fun Try.prog p1f = true) (p1h : ∀ {Φ' : Hp} {w' : World}, Hle Φ Φ' → In Φ' w' → ∀ (p1a0 : TMatch) {p1v0_0 : Value} {p1G0_0 : List Nat} {p1v0_1 : Value} {p1G0_1 : List Nat} (_ : RSl (RI .i64) 1 Φ' p1G0_0 p1v0_0 p1a0.Ids) (_ : RSl RTBind 4 Φ' p1G0_1 p1v0_1 p1a0.Binds) {r : Bool}, p1 p1a0 = some r → Calls Try.prog p1f (([.agg [.int .i64 p1a0.Rule, p1v0_0, p1v0_1].toArray] : List Value) ++ p1fr).toArray w' (Post (.bool r) w')) {r : Bool} (h : m_sl_ContainsFunc_Si_Match_i_Match N p0 p1 = some r) :
    Calls Try.prog 73 [pv0, .func (.func p1f) #[] p1fr.toArray].toArray w (Post (.bool r) w) := by
  refine enter Try.func73 rfl Try.ntmps73 rfl (St.start hΦ) ?_
  unfold m_sl_ContainsFunc_Si_Match_i_Match at h
  refine WT.seq ?_
  refine WT.region ?_
  refine WL.q (q_assign rfl) rfl rfl rfl ?_
  refine WL.nil ?_
  refine WT.seq ?_
  refine WT.region ?_
  refine WL.q (q_move rfl) rfl rfl rfl ?_
  refine WL.q (q_move rfl) rfl rfl rfl ?_
  obtain ⟨x1, hx1, h⟩ := bind_some h
  refine WL.call (c_pure Fun_118 rfl (fun w1 hw => m_sl_IndexFunc_Si_Match_i_Match_ok hw.fro N p0 p1 ph0 p1hF (fun hle' => p1h (Hle.trans (Hle.refl _) hle')) hx1)) rfl rfl rfl (fun _ => ?_)
  refine WL.q (q_geq rfl rfl) rfl rfl rfl ?_
  refine WL.q (q_assign rfl) rfl rfl rfl ?_
  refine WL.nil ?_
  refine WT.ret Try.func73 (resOk.one rfl) (fun w1 hw => ?_)
  cases h
  exact post_of_St hw
theorem m_sl_Equal_Sint_int_ok {Φ : Hp} {w : World} (hΦ : In Φ w) (N : Nat) (p0 : (List Int)) (p1 : (List Int)) {pv0 : Value} {pG0 : List Nat} {pv1 : Value} {pG1 : List Nat} (ph0 : RSl (RI .i64) 1 Φ pG0 pv0 p0) (ph1 : RSl (RI .i64) 1 Φ pG1 pv1 p1) {r : Bool} (h : m_sl_Equal_Sint_int N p0 p1 = some r) :
    Calls Try.prog 70 [pv0, pv1].toArray w (Post (.bool r) w) := by
  refine enter Try.func70 rfl Try.ntmps70 rfl (St.start hΦ) ?_
  unfold m_sl_Equal_Sint_int at h
  refine WT.seq ?_
  refine WT.region ?_
  refine WL.q (q_assign rfl) rfl rfl rfl ?_
  refine WL.nil ?_
  refine WT.seq ?_
  refine WT.seq ?_
  refine WT.region ?_
  refine WL.q (q_move rfl) rfl rfl rfl ?_
  refine WL.q (q_lenR Sl_29 rfl rfl ph0) rfl rfl rfl ?_
  refine WL.q (q_move rfl) rfl rfl rfl ?_
  refine WL.q (q_lenR Sl_29 rfl rfl ph1) rfl rfl rfl ?_
  refine WL.q (q_neq rfl rfl) rfl rfl rfl ?_
  refine WL.nil ?_
  refine WT.cond rfl (fun c1 => ?_) (fun c1 => ?_)
  · replace h := ite_t h c1
    refine WT.seq ?_
    refine WT.region ?_
    refine WL.q (q_assign rfl) rfl rfl rfl ?_
    refine WL.nil ?_
    refine WT.ret Try.func70 (resOk.one rfl) (fun w1 hw => ?_)
    cases h
    exact post_of_St hw
  · replace h := ite_f h c1
    refine WT.skip ?_
    refine WT.seq ?_
    refine WT.seq ?_
    refine WT.region ?_
    refine WL.q (q_move rfl) rfl rfl rfl ?_
    refine WL.q (q_lenR Sl_29 rfl rfl ph0) rfl rfl rfl ?_
    refine WL.q (q_move rfl) rfl rfl rfl ?_
    refine WL.nil ?_
    refine WT.block ?_
    refine WT.loop ?_
    refine WT.keep [(0, pv0), (1, pv1), (4, .bool false), (12, .int .i64 (p0.length : Int)), (13, .int .i64 0)] ⟨rfl, rfl, rfl, rfl, rfl, trivial⟩ ?_
    refine loop_ind (σ := Int) (fun s => [(0, pv0), (1, pv1), (4, .bool false), (12, .int .i64 (p0.length : Int)), (13, .int .i64 s)]) (fun s => St w Φ []) (fun m s => m_sl_Equal_Sint_int_l1 N p0 p1 m s = some r) (fun s hm => none_ne (show (none : Option (Bool)) = some r from hm)) (fun k1 ih1 s hm => ?_) N (0) h
    revert hm; revert s; intro s1 hm
    have h : m_sl_Equal_Sint_int_l1 N p0 p1 (k1 + 1) s1 = some r := hm
    show WT _ _ [(0, pv0), (1, pv1), (4, .bool false), (12, .int .i64 (p0.length : Int)), (13, .int .i64 s1)] (St w Φ [])
    unfold m_sl_Equal_Sint_int_l1 at h
    refine WT.seq ?_
    refine WT.region ?_
    refine WL.q (q_lss rfl rfl) rfl rfl rfl ?_
    refine WL.nil ?_
    refine WT.seq ?_
    refine WT.cond rfl (fun c2 => ?_) (fun c2 => ?_)
    · replace h := ite_t h c2
      refine WT.skip ?_
      refine WT.seq ?_
      refine WT.block ?_
      refine WT.seq ?_
      refine WT.region ?_
      refine WL.q (q_move rfl) rfl rfl rfl ?_
      refine WL.q (q_assign rfl) rfl rfl rfl ?_
      refine WL.nil ?_
      refine WT.seq ?_
      refine WT.draw mixed (by kernel_rfl) (fun _ h => h.drew) ?_
      refine WQ.q (q_move rfl) rfl rfl rfl ?_
      refine WQ.q (q_move rfl) rfl rfl rfl ?_
      obtain ⟨x1, hx1, h⟩ := bind_some h
      obtain ⟨cs1, F1, -, g1, r1⟩ := ph0.el (idx_some hx1).2.2
      obtain ⟨rfl, -⟩ := r1
      refine WQ.q (q_indexAddr Sl_29 rfl rfl ph0 hx1) rfl rfl rfl ?_
      refine WQ.q (q_load1 T1_3 rfl (fun w1 hw => (g1.of_eq 0 1 rfl rfl : rg _ _ _ [.int .i64 x1]).rangeAt hw.fro)) rfl rfl rfl ?_
      refine WQ.q (q_move rfl) rfl rfl rfl ?_
      refine WQ.q (q_move rfl) rfl rfl rfl ?_
      obtain ⟨x2, hx2, h⟩ := bind_some h
      obtain ⟨cs2, F2, -, g2, r2⟩ := ph1.el (idx_some hx2).2.2
      obtain ⟨rfl, -⟩ := r2
      refine WQ.q (q_indexAddr Sl_29 rfl rfl ph1 hx2) rfl rfl rfl ?_
      refine WQ.q (q_load1 T1_3 rfl (fun w1 hw => (g2.of_eq 0 1 rfl rfl : rg _ _ _ [.int .i64 x2]).rangeAt hw.fro)) rfl rfl rfl ?_
      refine WQ.q (q_neq rfl rfl) rfl rfl rfl ?_
      refine WQ.nil ?_
      refine WT.cond rfl (fun c3 => ?_) (fun c3 => ?_)
      · replace h := ite_t h c3
        refine WT.seq ?_
        refine WT.region ?_
        refine WL.q (q_assign rfl) rfl rfl rfl ?_
        refine WL.nil ?_
        refine WT.ret Try.func70 (resOk.one rfl) (fun w1 hw => ?_)
        cases h
        exact post_of_St hw
      · replace h := ite_f h c3
        refine WT.skip ?_
        refine WT.inBlock ?_
        refine WT.region ?_
        refine WL.q (q_add rfl rfl) rfl rfl rfl ?_
        refine WL.q (q_move rfl) rfl rfl rfl ?_
        refine WL.nil ?_
        refine WT.inLoop (WT.mono (l' := [(0, pv0), (1, pv1), (4, .bool false), (12, .int .i64 (p0.length : Int)), (13, .int .i64 (IntKind.i64.wrap (s1 + 1)))]) (S' := St w Φ []) ⟨rfl, rfl, rfl, rfl, rfl, trivial⟩ (fun w1 hw => hw.drop 0) ?_)
        exact ih1 (IntKind.i64.wrap (s1 + 1)) h
    · replace h := ite_f h c2
      refine WT.exit rfl ?_
      refine WT.seq ?_
      refine WT.region ?_
      refine WL.q (q_assign rfl) rfl rfl rfl ?_
      refine WL.nil ?_
      refine WT.ret Try.func70 (resOk.one rfl) (fun w1 hw => ?_)
      cases h
      exact post_of_St hw
theorem m_i_SameMatch_ok {Φ : Hp} {w : World} (hΦ : In Φ w) (N : Nat) (p0 : TMatch) (p1 : TMatch) {pv0_0 : Value} {pG0_0 : List Nat} {pv0_1 : Value} {pG0_1 : List Nat} {pv1_0 : Value} {pG1_0 : List Nat} {pv1_1 : Value} {pG1_1 : List Nat} (ph0_0 : RSl (RI .i64) 1 Φ pG0_0 pv0_0 p0.Ids) (ph0_1 : RSl RTBind 4 Φ pG0_1 pv0_1 p0.Binds) (ph1_0 : RSl (RI .i64) 1 Φ pG1_0 pv1_0 p1.Ids) (ph1_1 : RSl RTBind 4 Φ pG1_1 pv1_1 p1.Binds) {r : Bool} (h : m_i_SameMatch N p0 p1 = some r) :
    Calls Try.prog 18 [.agg [.int .i64 p0.Rule, pv0_0, pv0_1].toArray, .agg [.int .i64 p1.Rule, pv1_0, pv1_1].toArray].toArray w (Post (.bool r) w) := by
  refine enter Try.func18 rfl Try.ntmps18 rfl (St.start hΦ) ?_
  unfold m_i_SameMatch at h
  refine WT.seq ?_
  refine WT.region ?_
  refine WL.box (C := #[.int .i64 p0.Rule, pv0_0, pv0_1]) rfl rfl rfl rfl rfl rfl (fun b_1 => ?_)
  refine WL.box (C := #[.int .i64 p1.Rule, pv1_0, pv1_1]) rfl rfl rfl rfl rfl rfl (fun b_2 => ?_)
  refine WL.q (q_assign rfl) rfl rfl rfl ?_
  refine WL.nil ?_
  refine WT.seq ?_
  refine WT.region ?_
  refine WL.q (q_fieldAddr Fld_32_0 rfl) rfl rfl rfl ?_
  refine WL.q (q_load1 T1_3 rfl (fun w1 hw => hw.rgL (i := 1) rfl 0 1 [.int .i64 p0.Rule] rfl)) rfl rfl rfl ?_
  refine WL.q (q_fieldAddr Fld_32_0 rfl) rfl rfl rfl ?_
  refine WL.q (q_load1 T1_3 rfl (fun w1 hw => hw.rgL (i := 0) rfl 0 1 [.int .i64 p1.Rule] rfl)) rfl rfl rfl ?_
  refine WL.q (q_eql rfl rfl) rfl rfl rfl ?_
  refine WL.q (q_move rfl) rfl rfl rfl ?_
  obtain ⟨b1, hb_1, h⟩ := bind_some h
  refine WL.cutN 6 [(16, .bool b1), (4, .bool false)] ?_ (fun K => ?_)
  rotate_left
  · refine WL.split (d := 10) rfl (fun c1 => ?_) (fun c1 => ?_)
    · replace hb_1 := ite_t hb_1 c1
      refine WL.yes rfl rfl ?_
      refine WL.q (q_fieldAddr Fld_32_1 rfl) rfl rfl rfl ?_
      refine WL.yes rfl rfl ?_
      refine WL.q (q_load1 T1_29 rfl (fun w1 hw => hw.rgL (i := 1) rfl 1 1 [pv0_0] rfl)) rfl rfl rfl ?_
      refine WL.yes rfl rfl ?_
      refine WL.q (q_fieldAddr Fld_32_1 rfl) rfl rfl rfl ?_
      refine WL.yes rfl rfl ?_
      refine WL.q (q_load1 T1_29 rfl (fun w1 hw => hw.rgL (i := 0) rfl 1 1 [pv1_0] rfl)) rfl rfl rfl ?_
      refine WL.yes rfl rfl ?_
      obtain ⟨x1, hx1, hb_1⟩ := bind_some hb_1
      refine WL.call (c_pure Fun_70 rfl (fun w1 hw => m_sl_Equal_Sint_int_ok hw.fro N p0.Ids p1.Ids ph0_0 ph1_0 hx1)) rfl rfl rfl (fun _ => ?_)
      refine WL.q (q_pick1 rfl rfl) rfl rfl rfl ?_
      cases hb_1
      exact WL.keep (by exact ⟨rfl, rfl, trivial⟩) K
    · replace hb_1 := ite_f hb_1 c1
      refine WL.no rfl rfl rfl rfl ?_
      refine WL.no rfl rfl rfl rfl ?_
      refine WL.no rfl rfl rfl rfl ?_
      refine WL.no rfl rfl rfl rfl ?_
      refine WL.no rfl rfl rfl rfl ?_
      refine WL.q (q_pick0 rfl rfl) rfl rfl rfl ?_
      cases hb_1
      exact WL.keep (by exact ⟨rfl, rfl, trivial⟩) K
  refine WL.q (q_assign rfl) rfl rfl rfl ?_
  refine WL.nil ?_
  refine WT.ret Try.func18 (resOk.one rfl) (fun w1 hw => ?_)
  cases h
  exact post_of_St hw
theorem m_i_FiredHas_c1_ok {Φ : Hp} {w : World} (hΦ : In Φ w) (N : Nat) (p0 : TMatch) (c0 : TMatch) {pv0_0 : Value} {pG0_0 : List Nat} {pv0_1 : Value} {pG0_1 : List Nat} {cv0_0 : Value} {cG0_0 : List Nat} {cv0_1 : Value} {cG0_1 : List Nat} {cb0 : Nat} (ph0_0 : RSl (RI .i64) 1 Φ pG0_0 pv0_0 p0.Ids) (ph0_1 : RSl RTBind 4 Φ pG0_1 pv0_1 p0.Binds) (ch0_0 : RSl (RI .i64) 1 Φ cG0_0 cv0_0 c0.Ids) (ch0_1 : RSl RTBind 4 Φ cG0_1 cv0_1 c0.Binds) (cg0 : rg Φ cb0 0 [.int .i64 c0.Rule, cv0_0, cv0_1]) {r : Bool} (h : m_i_FiredHas_c1 N p0 c0 = some r) :
    Calls Try.prog 74 [.agg [.int .i64 p0.Rule, pv0_0, pv0_1].toArray, .pointer (some ⟨cb0, 0, none⟩)].toArray w (Post (.bool r) w) := by
  refine enter Try.func74 rfl Try.ntmps74 rfl (St.start hΦ) ?_
  unfold m_i_FiredHas_c1 at h
  refine WT.seq ?_
  refine WT.region ?_
  refine WL.box (C := #[.int .i64 p0.Rule, pv0_0, pv0_1]) rfl rfl rfl rfl rfl rfl (fun b_1 => ?_)
  refine WL.q (q_assign rfl) rfl rfl rfl ?_
  refine WL.nil ?_
  refine WT.seq ?_
  refine WT.region ?_
  refine WL.q (q_loadN Tn_32 rfl (fun w1 hw => hw.rgL (i := 0) rfl 0 3 [.int .i64 p0.Rule, pv0_0, pv0_1] rfl) rfl) rfl rfl rfl ?_
  refine WL.q (q_loadN Tn_32 rfl (fun w1 hw => (cg0.of_eq 0 3 rfl rfl : rg _ _ _ [.int .i64 c0.Rule, cv0_0, cv0_1]).rangeAt hw.fro) rfl) rfl rfl rfl ?_
  obtain ⟨x1, hx1, h⟩ := bind_some h
  refine WL.call (c_pure Fun_18 rfl (fun w1 hw => m_i_SameMatch_ok hw.fro N p0 c0 ph0_0 ph0_1 ch0_0 ch0_1 hx1)) rfl rfl rfl (fun _ => ?_)
  refine WL.q (q_assign rfl) rfl rfl rfl ?_
  refine WL.nil ?_
  refine WT.ret Try.func74 (resOk.one rfl) (fun w1 hw => ?_)
  cases h
  exact post_of_St hw
theorem m_i_FiredHas_ok {Φ : Hp} {w : World} (hΦ : In Φ w) (N : Nat) (p0 : (List TMatch)) (p1 : TMatch) {pv0 : Value} {pG0 : List Nat} {pv1_0 : Value} {pG1_0 : List Nat} {pv1_1 : Value} {pG1_1 : List Nat} (ph0 : RSl RTMatch 3 Φ pG0 pv0 p0) (ph1_0 : RSl (RI .i64) 1 Φ pG1_0 pv1_0 p1.Ids) (ph1_1 : RSl RTBind 4 Φ pG1_1 pv1_1 p1.Binds) {r : Bool} (h : m_i_FiredHas N p0 p1 = some r) :
    Calls Try.prog 20 [pv0, .agg [.int .i64 p1.Rule, pv1_0, pv1_1].toArray].toArray w (Post (.bool r) w) := by
  refine enter Try.func20 rfl Try.ntmps20 rfl (St.start hΦ) ?_
  unfold m_i_FiredHas at h
  have hle := Hle.refl Φ
  refine WT.seq ?_
  refine WT.region ?_
  refine WL.box (C := #[.int .i64 p1.Rule, pv1_0, pv1_1]) rfl rfl rfl rfl rfl rfl (fun b_1 => ?_)
  refine WL.q (q_assign rfl) rfl rfl rfl ?_
  refine WL.nil ?_
  refine WT.seq ?_
  refine WT.region ?_
  refine WL.q (q_move rfl) rfl rfl rfl ?_
  refine WL.freezeVar (i := 0) rfl (fun Φ_1 le1 ho1 g1 => ?_)
  replace ph0 := RSl.mono RTMatch.mono le1 ph0
  replace ph1_0 := RSl.mono RI.mono le1 ph1_0
  replace ph1_1 := RSl.mono RTBind.mono le1 ph1_1
  replace hle := hle.trans le1
  replace g1 : rg Φ_1 b_1 0 [.int .i64 p1.Rule, pv1_0, pv1_1] := g1
  refine WL.q (q_makeFunc rfl) rfl rfl rfl ?_
  obtain ⟨x1, hx1, h⟩ := bind_some h
  refine WL.call (c_pure Fun_73 rfl (fun w1 hw => m_sl_ContainsFunc_Si_Match_i_Match_ok hw.fro N p0 (fun a0 => m_i_FiredHas_c1 N a0 p1) ph0 Fun_74 (fun hle' hin a0 => fun f0 f1 => fun hr => m_i_FiredHas_c1_ok hin N a0 p1 f0 f1 (RSl.mono RI.mono hle' ph1_0) (RSl.mono RTBind.mono hle' ph1_1) (g1.mono hle') hr) hx1)) rfl rfl rfl (fun _ => ?_)
  refine WL.q (q_assign rfl) rfl rfl rfl ?_
  refine WL.nil ?_
  refine WT.ret Try.func20 (resOk.one rfl) (fun w1 hw => ?_)
  cases h
  exact post_of_St hw
theorem m_l_szVal_ok {Φ : Hp} {w : World} (hΦ : In Φ w) (N : Nat) (p0 : TVal) (p1 : Int)   {r : Int} (h : m_l_szVal N p0 p1 = some r) :
    Calls Try.prog 122 [.agg [.int .i64 p0.K, .int .i64 p0.N, .string p0.S].toArray, .int .i64 p1].toArray w (Post (.int .i64 r) w) := by
  refine enter Try.func122 rfl Try.ntmps122 rfl (St.start hΦ) ?_
  unfold m_l_szVal at h
  refine WT.seq ?_
  refine WT.region ?_
  refine WL.box (C := #[.int .i64 p0.K, .int .i64 p0.N, .string p0.S]) rfl rfl rfl rfl rfl rfl (fun b_1 => ?_)
  refine WL.q (q_assign rfl) rfl rfl rfl ?_
  refine WL.nil ?_
  refine WT.seq ?_
  refine WT.region ?_
  refine WL.q (q_move rfl) rfl rfl rfl ?_
  refine WL.q (q_fieldAddr Fld_93_2 rfl) rfl rfl rfl ?_
  refine WL.q (q_load1 T1_9 rfl (fun w1 hw => hw.rgL (i := 0) rfl 2 1 [.string p0.S] rfl)) rfl rfl rfl ?_
  refine WL.q (q_lenS Str_9 rfl rfl) rfl rfl rfl ?_
  refine WL.q (q_sub rfl rfl) rfl rfl rfl ?_
  refine WL.q (q_assign rfl) rfl rfl rfl ?_
  refine WL.nil ?_
  refine WT.seq ?_
  refine WT.seq ?_
  refine WT.region ?_
  refine WL.q (q_move rfl) rfl rfl rfl ?_
  refine WL.q (q_lss rfl rfl) rfl rfl rfl ?_
  refine WL.nil ?_
  refine WT.cond rfl (fun c1 => ?_) (fun c1 => ?_)
  · replace h := ite_t h c1
    refine WT.seq ?_
    refine WT.region ?_
    refine WL.q (q_assign rfl) rfl rfl rfl ?_
    refine WL.nil ?_
    refine WT.ret Try.func122 (resOk.one rfl) (fun w1 hw => ?_)
    cases h
    exact post_of_St hw
  · replace h := ite_f h c1
    refine WT.skip ?_
    refine WT.seq ?_
    refine WT.region ?_
    refine WL.q (q_move rfl) rfl rfl rfl ?_
    refine WL.q (q_assign rfl) rfl rfl rfl ?_
    refine WL.nil ?_
    refine WT.ret Try.func122 (resOk.one rfl) (fun w1 hw => ?_)
    cases h
    exact post_of_St hw
theorem m_l_szBind_ok {Φ : Hp} {w : World} (hΦ : In Φ w) (N : Nat) (p0 : TBind) (p1 : Int)   {r : Int} (h : m_l_szBind N p0 p1 = some r) :
    Calls Try.prog 104 [.agg [.string p0.Name, .int .i64 p0.V.K, .int .i64 p0.V.N, .string p0.V.S].toArray, .int .i64 p1].toArray w (Post (.int .i64 r) w) := by
  refine enter Try.func104 rfl Try.ntmps104 rfl (St.start hΦ) ?_
  unfold m_l_szBind at h
  refine WT.seq ?_
  refine WT.region ?_
  refine WL.box (C := #[.string p0.Name, .int .i64 p0.V.K, .int .i64 p0.V.N, .string p0.V.S]) rfl rfl rfl rfl rfl rfl (fun b_1 => ?_)
  refine WL.q (q_assign rfl) rfl rfl rfl ?_
  refine WL.nil ?_
  refine WT.seq ?_
  refine WT.region ?_
  refine WL.q (q_move rfl) rfl rfl rfl ?_
  refine WL.q (q_fieldAddr Fld_142_0 rfl) rfl rfl rfl ?_
  refine WL.q (q_load1 T1_9 rfl (fun w1 hw => hw.rgL (i := 0) rfl 0 1 [.string p0.Name] rfl)) rfl rfl rfl ?_
  refine WL.q (q_lenS Str_9 rfl rfl) rfl rfl rfl ?_
  refine WL.q (q_sub rfl rfl) rfl rfl rfl ?_
  refine WL.q (q_assign rfl) rfl rfl rfl ?_
  refine WL.nil ?_
  refine WT.seq ?_
  refine WT.seq ?_
  refine WT.region ?_
  refine WL.q (q_move rfl) rfl rfl rfl ?_
  refine WL.q (q_lss rfl rfl) rfl rfl rfl ?_
  refine WL.nil ?_
  refine WT.cond rfl (fun c1 => ?_) (fun c1 => ?_)
  · replace h := ite_t h c1
    refine WT.seq ?_
    refine WT.region ?_
    refine WL.q (q_assign rfl) rfl rfl rfl ?_
    refine WL.nil ?_
    refine WT.ret Try.func104 (resOk.one rfl) (fun w1 hw => ?_)
    cases h
    exact post_of_St hw
  · replace h := ite_f h c1
    refine WT.skip ?_
    refine WT.seq ?_
    refine WT.region ?_
    refine WL.q (q_fieldAddr Fld_142_1 rfl) rfl rfl rfl ?_
    refine WL.q (q_loadN Tn_93 rfl (fun w1 hw => hw.rgL (i := 0) rfl 1 3 [.int .i64 p0.V.K, .int .i64 p0.V.N, .string p0.V.S] rfl) rfl) rfl rfl rfl ?_
    refine WL.q (q_move rfl) rfl rfl rfl ?_
    obtain ⟨x1, hx1, h⟩ := bind_some h
    refine WL.call (c_pure Fun_122 rfl (fun w1 hw => m_l_szVal_ok hw.fro N p0.V (IntKind.i64.wrap (p1 - (p0.Name.size : Int))) hx1)) rfl rfl rfl (fun _ => ?_)
    refine WL.q (q_assign rfl) rfl rfl rfl ?_
    refine WL.nil ?_
    refine WT.seq ?_
    refine WT.seq ?_
    refine WT.region ?_
    refine WL.q (q_move rfl) rfl rfl rfl ?_
    refine WL.q (q_lss rfl rfl) rfl rfl rfl ?_
    refine WL.nil ?_
    refine WT.cond rfl (fun c2 => ?_) (fun c2 => ?_)
    · replace h := ite_t h c2
      refine WT.seq ?_
      refine WT.region ?_
      refine WL.q (q_assign rfl) rfl rfl rfl ?_
      refine WL.nil ?_
      refine WT.ret Try.func104 (resOk.one rfl) (fun w1 hw => ?_)
      cases h
      exact post_of_St hw
    · replace h := ite_f h c2
      refine WT.skip ?_
      refine WT.seq ?_
      refine WT.region ?_
      refine WL.q (q_move rfl) rfl rfl rfl ?_
      refine WL.q (q_assign rfl) rfl rfl rfl ?_
      refine WL.nil ?_
      refine WT.ret Try.func104 (resOk.one rfl) (fun w1 hw => ?_)
      cases h
      exact post_of_St hw
theorem m_l_szBindS_ok {Φ : Hp} {w : World} (hΦ : In Φ w) (N : Nat) (p0 : (List TBind)) (p1 : Int) {pv0 : Value} {pG0 : List Nat} (ph0 : RSl RTBind 4 Φ pG0 pv0 p0) {r : Int} (h : m_l_szBindS N p0 p1 = some r) :
    Calls Try.prog 58 [pv0, .int .i64 p1].toArray w (Post (.int .i64 r) w) := by
  refine enter Try.func58 rfl Try.ntmps58 rfl (St.start hΦ) ?_
  unfold m_l_szBindS at h
  refine WT.seq ?_
  refine WT.region ?_
  refine WL.q (q_assign rfl) rfl rfl rfl ?_
  refine WL.nil ?_
  refine WT.seq ?_
  refine WT.region ?_
  refine WL.q (q_move rfl) rfl rfl rfl ?_
  refine WL.q (q_move rfl) rfl rfl rfl ?_
  refine WL.q (q_lenR Sl_49 rfl rfl ph0) rfl rfl rfl ?_
  refine WL.q (q_sub rfl rfl) rfl rfl rfl ?_
  refine WL.q (q_assign rfl) rfl rfl rfl ?_
  refine WL.nil ?_
  refine WT.seq ?_
  refine WT.seq ?_
  refine WT.region ?_
  refine WL.q (q_move rfl) rfl rfl rfl ?_
  refine WL.q (q_lss rfl rfl) rfl rfl rfl ?_
  refine WL.nil ?_
  refine WT.cond rfl (fun c1 => ?_) (fun c1 => ?_)
  · replace h := ite_t h c1
    refine WT.seq ?_
    refine WT.region ?_
    refine WL.q (q_assign rfl) rfl rfl rfl ?_
    refine WL.nil ?_
    refine WT.ret Try.func58 (resOk.one rfl) (fun w1 hw => ?_)
    cases h
    exact post_of_St hw
  · replace h := ite_f h c1
    refine WT.skip ?_
    refine WT.seq ?_
    refine WT.seq ?_
    refine WT.region ?_
    refine WL.q (q_assign rfl) rfl rfl rfl ?_
    refine WL.nil ?_
    refine WT.block ?_
    refine WT.loop ?_
    refine WT.keep [(0, pv0), (1, .int .i64 (IntKind.i64.wrap (p1 - (p0.length : Int)))), (4, .int .i64 0), (5, .int .i64 0)] ⟨rfl, rfl, rfl, rfl, trivial⟩ ?_
    refine loop_ind (σ := Int × Int) (fun s => [(0, pv0), (1, .int .i64 s.1), (4, .int .i64 0), (5, .int .i64 s.2)]) (fun s => St w Φ []) (fun m s => m_l_szBindS_l1 N p0 m s.1 s.2 = some r) (fun s hm => none_ne (show (none : Option (Int)) = some r from hm)) (fun k1 ih1 s hm => ?_) N (IntKind.i64.wrap (p1 - (p0.length : Int)), 0) h
    obtain ⟨s1, s2⟩ := s
    have h : m_l_szBindS_l1 N p0 (k1 + 1) s1 s2 = some r := hm
    show WT _ _ [(0, pv0), (1, .int .i64 s1), (4, .int .i64 0), (5, .int .i64 s2)] (St w Φ [])
    unfold m_l_szBindS_l1 at h
    refine WT.seq ?_
    refine WT.seq ?_
    refine WT.region ?_
    refine WL.q (q_move rfl) rfl rfl rfl ?_
    refine WL.q (q_move rfl) rfl rfl rfl ?_
    refine WL.q (q_lenR Sl_49 rfl rfl ph0) rfl rfl rfl ?_
    refine WL.q (q_lss rfl rfl) rfl rfl rfl ?_
    refine WL.nil ?_
    refine WT.cond rfl (fun c2 => ?_) (fun c2 => ?_)
    · replace h := ite_t h c2
      refine WT.skip ?_
      refine WT.seq ?_
      refine WT.block ?_
      refine WT.seq ?_
      refine WT.region ?_
      refine WL.q (q_move rfl) rfl rfl rfl ?_
      refine WL.q (q_move rfl) rfl rfl rfl ?_
      obtain ⟨x1, hx1, h⟩ := bind_some h
      obtain ⟨cs1, F1, -, g1, r1⟩ := ph0.el (idx_some hx1).2.2
      obtain ⟨rfl, -⟩ := r1
      refine WL.q (q_indexAddr Sl_49 rfl rfl ph0 hx1) rfl rfl rfl ?_
      refine WL.q (q_loadN Tn_142 rfl (fun w1 hw => (g1.of_eq 0 4 rfl rfl : rg _ _ _ [.string x1.Name, .int .i64 x1.V.K, .int .i64 x1.V.N, .string x1.V.S]).rangeAt hw.fro) rfl) rfl rfl rfl ?_
      refine WL.q (q_move rfl) rfl rfl rfl ?_
      obtain ⟨x2, hx2, h⟩ := bind_some h
      refine WL.call (c_pure Fun_104 rfl (fun w1 hw => m_l_szBind_ok hw.fro N x1 s1 hx2)) rfl rfl rfl (fun _ => ?_)
      refine WL.q (q_assign rfl) rfl rfl rfl ?_
      refine WL.nil ?_
      refine WT.seq ?_
      refine WT.region ?_
      refine WL.q (q_move rfl) rfl rfl rfl ?_
      refine WL.q (q_lss rfl rfl) rfl rfl rfl ?_
      refine WL.nil ?_
      refine WT.cond rfl (fun c3 => ?_) (fun c3 => ?_)
      · replace h := ite_t h c3
        refine WT.seq ?_
        refine WT.region ?_
        refine WL.q (q_assign rfl) rfl rfl rfl ?_
        refine WL.nil ?_
        refine WT.ret Try.func58 (resOk.one rfl) (fun w1 hw => ?_)
        cases h
        exact post_of_St hw
      · replace h := ite_f h c3
        refine WT.skip ?_
        refine WT.inBlock ?_
        refine WT.region ?_
        refine WL.q (q_move rfl) rfl rfl rfl ?_
        refine WL.q (q_add rfl rfl) rfl rfl rfl ?_
        refine WL.q (q_assign rfl) rfl rfl rfl ?_
        refine WL.nil ?_
        refine WT.inLoop (WT.mono (l' := [(0, pv0), (1, .int .i64 x2), (4, .int .i64 0), (5, .int .i64 (IntKind.i64.wrap (s2 + 1)))]) (S' := St w Φ []) ⟨rfl, rfl, rfl, rfl, trivial⟩ (fun w1 hw => hw.drop 0) ?_)
        exact ih1 (x2, IntKind.i64.wrap (s2 + 1)) h
    · replace h := ite_f h c2
      refine WT.exit rfl ?_
      refine WT.seq ?_
      refine WT.region ?_
      refine WL.q (q_move rfl) rfl rfl rfl ?_
      refine WL.q (q_assign rfl) rfl rfl rfl ?_
      refine WL.nil ?_
      refine WT.ret Try.func58 (resOk.one rfl) (fun w1 hw => ?_)
      cases h
      exact post_of_St hw
theorem m_l_szIntS_ok {Φ : Hp} {w : World} (hΦ : In Φ w) (N : Nat) (p0 : (List Int)) (p1 : Int) {pv0 : Value} {pG0 : List Nat} (ph0 : RSl (RI .i64) 1 Φ pG0 pv0 p0) {r : Int} (h : m_l_szIntS N p0 p1 = some r) :
    Calls Try.prog 78 [pv0, .int .i64 p1].toArray w (Post (.int .i64 r) w) := by
  refine enter Try.func78 rfl Try.ntmps78 rfl (St.start hΦ) ?_
  unfold m_l_szIntS at h
  refine WT.seq ?_
  refine WT.region ?_
  refine WL.q (q_assign rfl) rfl rfl rfl ?_
  refine WL.nil ?_
  refine WT.seq ?_
  refine WT.region ?_
  refine WL.q (q_move rfl) rfl rfl rfl ?_
  refine WL.q (q_move rfl) rfl rfl rfl ?_
  refine WL.q (q_lenR Sl_29 rfl rfl ph0) rfl rfl rfl ?_
  refine WL.q (q_sub rfl rfl) rfl rfl rfl ?_
  refine WL.q (q_assign rfl) rfl rfl rfl ?_
  refine WL.nil ?_
  refine WT.seq ?_
  refine WT.seq ?_
  refine WT.region ?_
  refine WL.q (q_move rfl) rfl rfl rfl ?_
  refine WL.q (q_lss rfl rfl) rfl rfl rfl ?_
  refine WL.nil ?_
  refine WT.cond rfl (fun c1 => ?_) (fun c1 => ?_)
  · replace h := ite_t h c1
    refine WT.seq ?_
    refine WT.region ?_
    refine WL.q (q_assign rfl) rfl rfl rfl ?_
    refine WL.nil ?_
    refine WT.ret Try.func78 (resOk.one rfl) (fun w1 hw => ?_)
    cases h
    exact post_of_St hw
  · replace h := ite_f h c1
    refine WT.skip ?_
    refine WT.seq ?_
    refine WT.region ?_
    refine WL.q (q_move rfl) rfl rfl rfl ?_
    refine WL.q (q_assign rfl) rfl rfl rfl ?_
    refine WL.nil ?_
    refine WT.ret Try.func78 (resOk.one rfl) (fun w1 hw => ?_)
    cases h
    exact post_of_St hw
theorem m_l_szMatch_ok {Φ : Hp} {w : World} (hΦ : In Φ w) (N : Nat) (p0 : TMatch) (p1 : Int) {pv0_0 : Value} {pG0_0 : List Nat} {pv0_1 : Value} {pG0_1 : List Nat} (ph0_0 : RSl (RI .i64) 1 Φ pG0_0 pv0_0 p0.Ids) (ph0_1 : RSl RTBind 4 Φ pG0_1 pv0_1 p0.Binds) {r : Int} (h : m_l_szMatch N p0 p1 = some r) :
    Calls Try.prog 29 [.agg [.int .i64 p0.Rule, pv0_0, pv0_1].toArray, .int .i64 p1].toArray w (Post (.int .i64 r) w) := by
  refine enter Try.func29 rfl Try.ntmps29 rfl (St.start hΦ) ?_
  unfold m_l_szMatch at h
  refine WT.seq ?_
  refine WT.region ?_
  refine WL.box (C := #[.int .i64 p0.Rule, pv0_0, pv0_1]) rfl rfl rfl rfl rfl rfl (fun b_1 => ?_)
  refine WL.q (q_assign rfl) rfl rfl rfl ?_
  refine WL.nil ?_
  refine WT.seq ?_
  refine WT.region ?_
  refine WL.q (q_fieldAddr Fld_51_1 rfl) rfl rfl rfl ?_
  refine WL.q (q_load1 T1_29 rfl (fun w1 hw => hw.rgL (i := 0) rfl 1 1 [pv0_0] rfl)) rfl rfl rfl ?_
  refine WL.q (q_move rfl) rfl rfl rfl ?_
  obtain ⟨x1, hx1, h⟩ := bind_some h
  refine WL.call (c_pure Fun_78 rfl (fun w1 hw => m_l_szIntS_ok hw.fro N p0.Ids p1 ph0_0 hx1)) rfl rfl rfl (fun _ => ?_)
  refine WL.q (q_assign rfl) rfl rfl rfl ?_
  refine WL.nil ?_
  refine WT.seq ?_
  refine WT.seq ?_
  refine WT.region ?_
  refine WL.q (q_move rfl) rfl rfl rfl ?_
  refine WL.q (q_lss rfl rfl) rfl rfl rfl ?_
  refine WL.nil ?_
  refine WT.cond rfl (fun c1 => ?_) (fun c1 => ?_)
  · replace h := ite_t h c1
    refine WT.seq ?_
    refine WT.region ?_
    refine WL.q (q_assign rfl) rfl rfl rfl ?_
    refine WL.nil ?_
    refine WT.ret Try.func29 (resOk.one rfl) (fun w1 hw => ?_)
    cases h
    exact post_of_St hw
  · replace h := ite_f h c1
    refine WT.skip ?_
    refine WT.seq ?_
    refine WT.region ?_
    refine WL.q (q_fieldAddr Fld_51_2 rfl) rfl rfl rfl ?_
    refine WL.q (q_load1 T1_49 rfl (fun w1 hw => hw.rgL (i := 0) rfl 2 1 [pv0_1] rfl)) rfl rfl rfl ?_
    refine WL.q (q_move rfl) rfl rfl rfl ?_
    obtain ⟨x2, hx2, h⟩ := bind_some h
    refine WL.call (c_pure Fun_58 rfl (fun w1 hw => m_l_szBindS_ok hw.fro N p0.Binds x1 ph0_1 hx2)) rfl rfl rfl (fun _ => ?_)
    refine WL.q (q_assign rfl) rfl rfl rfl ?_
    refine WL.nil ?_
    refine WT.seq ?_
    refine WT.seq ?_
    refine WT.region ?_
    refine WL.q (q_move rfl) rfl rfl rfl ?_
    refine WL.q (q_lss rfl rfl) rfl rfl rfl ?_
    refine WL.nil ?_
    refine WT.cond rfl (fun c2 => ?_) (fun c2 => ?_)
    · replace h := ite_t h c2
      refine WT.seq ?_
      refine WT.region ?_
      refine WL.q (q_assign rfl) rfl rfl rfl ?_
      refine WL.nil ?_
      refine WT.ret Try.func29 (resOk.one rfl) (fun w1 hw => ?_)
      cases h
      exact post_of_St hw
    · replace h := ite_f h c2
      refine WT.skip ?_
      refine WT.seq ?_
      refine WT.region ?_
      refine WL.q (q_move rfl) rfl rfl rfl ?_
      refine WL.q (q_assign rfl) rfl rfl rfl ?_
      refine WL.nil ?_
      refine WT.ret Try.func29 (resOk.one rfl) (fun w1 hw => ?_)
      cases h
      exact post_of_St hw
theorem m_l_toVal_ok {Φ : Hp} {w : World} (hΦ : In Φ w) (N : Nat) (p0 : TVal)   {r : TVal} (h : m_l_toVal N p0 = some r) :
    Calls Try.prog 123 [.agg [.int .i64 p0.K, .int .i64 p0.N, .string p0.S].toArray].toArray w (Post (.agg [.int .i64 r.K, .int .i64 r.N, .string r.S].toArray) w) := by
  refine enter Try.func123 rfl Try.ntmps123 rfl (St.start hΦ) ?_
  unfold m_l_toVal at h
  refine WT.seq ?_
  refine WT.region ?_
  refine WL.box (C := #[.int .i64 p0.K, .int .i64 p0.N, .string p0.S]) rfl rfl rfl rfl rfl rfl (fun b_1 => ?_)
  refine WL.alloc (C := #[.int .i64 0, .int .i64 0, .string (⟨#[]⟩ : ByteArray)]) rfl rfl rfl rfl Zr_100 rfl (fun b_2 => ?_)
  refine WL.nil ?_
  refine WT.seq ?_
  refine WT.region ?_
  refine WL.alloc (C := #[.int .i64 0, .int .i64 0, .string (⟨#[]⟩ : ByteArray)]) rfl rfl rfl rfl Zr_100 rfl (fun b_3 => ?_)
  refine WL.nil ?_
  refine WT.seq ?_
  refine WT.region ?_
  refine WL.q (q_fieldAddr Fld_93_0 rfl) rfl rfl rfl ?_
  refine WL.q (q_load1 T1_3 rfl (fun w1 hw => hw.rgL (i := 2) rfl 0 1 [.int .i64 p0.K] rfl)) rfl rfl rfl ?_
  refine WL.q (q_fieldAddr Fld_100_0 rfl) rfl rfl rfl ?_
  refine WL.store (i := 0) (vs := [.int .i64 p0.K]) (C' := [.int .i64 p0.K, .int .i64 0, .string (⟨#[]⟩ : ByteArray)]) rfl rfl rfl Sz_3 rfl rfl rfl rfl rfl rfl ⟨rfl, trivial⟩ rfl ?_
  refine WL.nil ?_
  refine WT.seq ?_
  refine WT.region ?_
  refine WL.q (q_fieldAddr Fld_93_1 rfl) rfl rfl rfl ?_
  refine WL.q (q_load1 T1_3 rfl (fun w1 hw => hw.rgL (i := 2) rfl 1 1 [.int .i64 p0.N] rfl)) rfl rfl rfl ?_
  refine WL.q (q_fieldAddr Fld_100_1 rfl) rfl rfl rfl ?_
  refine WL.store (i := 0) (vs := [.int .i64 p0.N]) (C' := [.int .i64 p0.K, .int .i64 p0.N, .string (⟨#[]⟩ : ByteArray)]) rfl rfl rfl Sz_3 rfl rfl rfl rfl rfl rfl ⟨rfl, trivial⟩ rfl ?_
  refine WL.nil ?_
  refine WT.seq ?_
  refine WT.region ?_
  refine WL.q (q_fieldAddr Fld_93_2 rfl) rfl rfl rfl ?_
  refine WL.q (q_load1 T1_9 rfl (fun w1 hw => hw.rgL (i := 2) rfl 2 1 [.string p0.S] rfl)) rfl rfl rfl ?_
  refine WL.q (q_fieldAddr Fld_100_2 rfl) rfl rfl rfl ?_
  refine WL.store (i := 0) (vs := [.string p0.S]) (C' := [.int .i64 p0.K, .int .i64 p0.N, .string p0.S]) rfl rfl rfl Sz_9 rfl rfl rfl rfl rfl rfl ⟨rfl, trivial⟩ rfl ?_
  refine WL.nil ?_
  refine WT.seq ?_
  refine WT.region ?_
  refine WL.q (q_loadN Tn_100 rfl (fun w1 hw => hw.rgL (i := 0) rfl 0 3 [.int .i64 p0.K, .int .i64 p0.N, .string p0.S] rfl) rfl) rfl rfl rfl ?_
  refine WL.store (i := 1) (vs := [.int .i64 p0.K, .int .i64 p0.N, .string p0.S]) (C' := [.int .i64 p0.K, .int .i64 p0.N, .string p0.S]) rfl rfl rfl Sz_100 rfl rfl rfl rfl rfl rfl ⟨rfl, rfl, rfl, trivial⟩ rfl ?_
  refine WL.nil ?_
  refine WT.ret Try.func123 (resOk.one (rv_cell Tn_100 rfl (fun w1 hw => hw.rgL (i := 1) rfl 0 3 [.int .i64 p0.K, .int .i64 p0.N, .string p0.S] rfl) rfl)) (fun w1 hw => ?_)
  cases h
  exact post_of_St hw
theorem m_l_toBind_ok {Φ : Hp} {w : World} (hΦ : In Φ w) (N : Nat) (p0 : TBind)   {r : TBind} (h : m_l_toBind N p0 = some r) :
    Calls Try.prog 109 [.agg [.string p0.Name, .int .i64 p0.V.K, .int .i64 p0.V.N, .string p0.V.S].toArray].toArray w (Post (.agg [.string r.Name, .int .i64 r.V.K, .int .i64 r.V.N, .string r.V.S].toArray) w) := by
  refine enter Try.func109 rfl Try.ntmps109 rfl (St.start hΦ) ?_
  unfold m_l_toBind at h
  refine WT.seq ?_
  refine WT.region ?_
  refine WL.box (C := #[.string p0.Name, .int .i64 p0.V.K, .int .i64 p0.V.N, .string p0.V.S]) rfl rfl rfl rfl rfl rfl (fun b_1 => ?_)
  refine WL.alloc (C := #[.string (⟨#[]⟩ : ByteArray), .int .i64 0, .int .i64 0, .string (⟨#[]⟩ : ByteArray)]) rfl rfl rfl rfl Zr_130 rfl (fun b_2 => ?_)
  refine WL.nil ?_
  refine WT.seq ?_
  refine WT.region ?_
  refine WL.alloc (C := #[.string (⟨#[]⟩ : ByteArray), .int .i64 0, .int .i64 0, .string (⟨#[]⟩ : ByteArray)]) rfl rfl rfl rfl Zr_130 rfl (fun b_3 => ?_)
  refine WL.nil ?_
  refine WT.seq ?_
  refine WT.region ?_
  refine WL.q (q_fieldAddr Fld_142_0 rfl) rfl rfl rfl ?_
  refine WL.q (q_load1 T1_9 rfl (fun w1 hw => hw.rgL (i := 2) rfl 0 1 [.string p0.Name] rfl)) rfl rfl rfl ?_
  refine WL.q (q_fieldAddr Fld_130_0 rfl) rfl rfl rfl ?_
  refine WL.store (i := 0) (vs := [.string p0.Name]) (C' := [.string p0.Name, .int .i64 0, .int .i64 0, .string (⟨#[]⟩ : ByteArray)]) rfl rfl rfl Sz_9 rfl rfl rfl rfl rfl rfl ⟨rfl, trivial⟩ rfl ?_
  refine WL.nil ?_
  refine WT.seq ?_
  refine WT.region ?_
  refine WL.q (q_fieldAddr Fld_142_1 rfl) rfl rfl rfl ?_
  refine WL.q (q_loadN Tn_93 rfl (fun w1 hw => hw.rgL (i := 2) rfl 1 3 [.int .i64 p0.V.K, .int .i64 p0.V.N, .string p0.V.S] rfl) rfl) rfl rfl rfl ?_
  obtain ⟨x1, hx1, h⟩ := bind_some h
  refine WL.call (c_pure Fun_123 rfl (fun w1 hw => m_l_toVal_ok hw.fro N p0.V hx1)) rfl rfl rfl (fun _ => ?_)
  refine WL.q (q_fieldAddr Fld_130_1 rfl) rfl rfl rfl ?_
  refine WL.store (i := 0) (vs := [.int .i64 x1.K, .int .i64 x1.N, .string x1.S]) (C' := [.string p0.Name, .int .i64 x1.K, .int .i64 x1.N, .string x1.S]) rfl rfl rfl Sz_100 rfl rfl rfl rfl rfl rfl ⟨rfl, rfl, rfl, trivial⟩ rfl ?_
  refine WL.nil ?_
  refine WT.seq ?_
  refine WT.region ?_
  refine WL.q (q_loadN Tn_130 rfl (fun w1 hw => hw.rgL (i := 0) rfl 0 4 [.string p0.Name, .int .i64 x1.K, .int .i64 x1.N, .string x1.S] rfl) rfl) rfl rfl rfl ?_
  refine WL.store (i := 1) (vs := [.string p0.Name, .int .i64 x1.K, .int .i64 x1.N, .string x1.S]) (C' := [.string p0.Name, .int .i64 x1.K, .int .i64 x1.N, .string x1.S]) rfl rfl rfl Sz_130 rfl rfl rfl rfl rfl rfl ⟨rfl, rfl, rfl, rfl, trivial⟩ rfl ?_
  refine WL.nil ?_
  refine WT.ret Try.func109 (resOk.one (rv_cell Tn_130 rfl (fun w1 hw => hw.rgL (i := 1) rfl 0 4 [.string p0.Name, .int .i64 x1.K, .int .i64 x1.N, .string x1.S] rfl) rfl)) (fun w1 hw => ?_)
  cases h
  exact post_of_St hw
theorem m_l_toBindS_ok {Φ : Hp} {w : World} (hΦ : In Φ w) (N : Nat) (p0 : (List TBind)) {pv0 : Value} {pG0 : List Nat} (ph0 : RSl RTBind 4 Φ pG0 pv0 p0) {r : (List TBind)} (h : m_l_toBindS N p0 = some r) :
    Calls Try.prog 61 [pv0].toArray w (PostL Φ w (fun Φ' F v => ∃ (s0 : Value) (F0 : List Nat), v = s0 ∧ F = F0 ∧ RSl RTBind 4 Φ' F0 s0 r)) := by
  refine enter Try.func61 rfl Try.ntmps61 rfl (St.start hΦ) ?_
  unfold m_l_toBindS at h
  have hle := Hle.refl Φ
  have hold : ∀ x, x < w.heap.size → Φ x = Φ x := fun _ _ => rfl
  refine WT.seq ?_
  refine WT.region ?_
  refine WL.q (q_assign rfl) rfl rfl rfl ?_
  refine WL.nil ?_
  refine WT.seq ?_
  refine WT.region ?_
  refine WL.q (q_move rfl) rfl rfl rfl ?_
  refine WL.q (q_lenR Sl_49 rfl rfl ph0) rfl rfl rfl ?_
  obtain ⟨x1, hx1, h⟩ := bind_some h
  refine WL.make (R := RTBind) rfl rfl rfl rfl Sl_30 Zr_130 By_130 rfl rfl rfl ⟨rfl, rfl⟩ rfl rfl hx1 (fun b_1 cl1 fs1 k1 q1 => ?_)
  refine WL.q (q_assign rfl) rfl rfl rfl ?_
  refine WL.nil ?_
  refine WT.seq ?_
  refine WT.seq ?_
  refine WT.region ?_
  refine WL.q (q_assign rfl) rfl rfl rfl ?_
  refine WL.nil ?_
  refine WT.block ?_
  refine WT.loop ?_
  refine WT.keep [(0, pv0), (2, .slice none 0 0), (3, (.slice (some ⟨b_1, 0, none⟩) x1.length x1.length)), (4, .int .i64 0)] ⟨rfl, rfl, rfl, rfl, trivial⟩ ?_
  refine loop_ind (σ := Int × (List TBind) × Value × List Value × List (List Nat)) (fun s => [(0, pv0), (2, .slice none 0 0), (3, s.2.2.1), (4, .int .i64 s.1)]) (fun s => St w Φ [Ent.row 130 4 s.2.2.1 s.2.1.length s.2.2.2.1]) (fun m s => m_l_toBindS_l1 N p0 m s.1 s.2.1 = some r ∧ (RC RTBind 4 Φ s.2.2.2.2 s.2.2.2.1 s.2.1) ∧ (SP s.2.2.2.2.flatten [])) (fun s hm => none_ne (show (none : Option ((List TBind))) = some r from hm.1)) (fun k1 ih1 s hm => ?_) N (0, x1, (.slice (some ⟨b_1, 0, none⟩) x1.length x1.length), cl1, fs1) ⟨h, k1, q1⟩
  obtain ⟨s1, s2, u1, cl2, fs2⟩ := s
  obtain ⟨h, k2, q2⟩ := hm
  replace h : m_l_toBindS_l1 N p0 (k1 + 1) s1 s2 = some r := h
  replace k2 : RC RTBind 4 Φ fs2 cl2 s2 := k2
  replace q2 : SP fs2.flatten [] := q2
  show WT _ _ [(0, pv0), (2, .slice none 0 0), (3, u1), (4, .int .i64 s1)] (St w Φ [Ent.row 130 4 u1 s2.length cl2])
  unfold m_l_toBindS_l1 at h
  refine WT.seq ?_
  refine WT.seq ?_
  refine WT.region ?_
  refine WL.q (q_move rfl) rfl rfl rfl ?_
  refine WL.q (q_move rfl) rfl rfl rfl ?_
  refine WL.q (q_lenR Sl_49 rfl rfl ph0) rfl rfl rfl ?_
  refine WL.q (q_lss rfl rfl) rfl rfl rfl ?_
  refine WL.nil ?_
  refine WT.cond rfl (fun c1 => ?_) (fun c1 => ?_)
  · replace h := ite_t h c1
    refine WT.skip ?_
    refine WT.seq ?_
    refine WT.block ?_
    refine WT.region ?_
    refine WL.q (q_move rfl) rfl rfl rfl ?_
    refine WL.q (q_move rfl) rfl rfl rfl ?_
    refine WL.q (q_move rfl) rfl rfl rfl ?_
    refine WL.q (q_move rfl) rfl rfl rfl ?_
    obtain ⟨x2, hx2, h⟩ := bind_some h
    obtain ⟨cs1, F1, -, g1, r1⟩ := ph0.el (idx_some hx2).2.2
    obtain ⟨rfl, -⟩ := r1
    refine WL.q (q_indexAddr Sl_49 rfl rfl ph0 hx2) rfl rfl rfl ?_
    refine WL.q (q_loadN Tn_142 rfl (fun w1 hw => (g1.of_eq 0 4 rfl rfl : rg _ _ _ [.string x2.Name, .int .i64 x2.V.K, .int .i64 x2.V.N, .string x2.V.S]).rangeAt hw.fro) rfl) rfl rfl rfl ?_
    obtain ⟨x3, hx3, h⟩ := bind_some h
    refine WL.call (c_pure Fun_109 rfl (fun w1 hw => m_l_toBind_ok hw.fro N x2 hx3)) rfl rfl rfl (fun _ => ?_)
    obtain ⟨x4, hx4, h⟩ := bind_some h
    refine WL.q (q_indexAddrRow Sl_30 rfl rfl (j := 0) rfl hx4) rfl rfl rfl ?_
    refine WL.storeRow (j := 0) (cs := [.string x3.Name, .int .i64 x3.V.K, .int .i64 x3.V.N, .string x3.V.S]) (x' := x3) (F := []) rfl rfl rfl Sz_130 rfl rfl rfl (idx_lt hx4) rfl rfl ⟨rfl, rfl, rfl, rfl, trivial⟩ k2 ⟨rfl, rfl⟩ (fun cl3 k3 => ?_)
    have q3 : SP ((fs2.set s1.toNat [])).flatten [] := by simpa using SP.set (F := []) q2 (s1.toNat)
    refine WL.nil ?_
    refine WT.inBlock ?_
    refine WT.region ?_
    refine WL.q (q_move rfl) rfl rfl rfl ?_
    refine WL.q (q_add rfl rfl) rfl rfl rfl ?_
    refine WL.q (q_assign rfl) rfl rfl rfl ?_
    refine WL.nil ?_
    refine WT.inLoop (WT.mono (l' := [(0, pv0), (2, .slice none 0 0), (3, u1), (4, .int .i64 (IntKind.i64.wrap (s1 + 1)))]) (S' := St w Φ [Ent.row 130 4 u1 (s2.set s1.toNat x3).length cl3]) ⟨rfl, rfl, rfl, rfl, trivial⟩ (fun w1 hw => hw.drop 0) ?_)
    exact ih1 (IntKind.i64.wrap (s1 + 1), (s2.set s1.toNat x3), u1, cl3, (fs2.set s1.toNat [])) ⟨h, k3, q3⟩
  · replace h := ite_f h c1
    refine WT.exit rfl ?_
    refine WT.seq ?_
    refine WT.region ?_
    refine WL.q (q_move rfl) rfl rfl rfl ?_
    refine WL.q (q_assign rfl) rfl rfl rfl ?_
    refine WL.nil ?_
    refine WT.ret Try.func61 (resOk.one rfl) (fun w1 hw => ?_)
    cases h
    obtain ⟨Φ_1, le1, ho1, hw, k4⟩ := hw.freezeRow RTBind.mono (i := 0) rfl k2
    replace ph0 := RSl.mono RTBind.mono le1 ph0
    replace k2 := RC.mono RTBind.mono le1 k2
    replace hle := hle.trans le1
    replace hold : ∀ x, x < w.heap.size → Φ_1 x = Φ x := fun x hx => (ho1 x hx).trans (hold x hx)
    replace hw := hw.front (i := 0) rfl
    replace hw : St w Φ_1 [Ent.dat u1.ownBlock.toList] w1 := hw
    refine postL_of_St (F := (u1.ownBlock.toList ++ fs2.flatten)) hw hle hold ?_ ⟨u1, (u1.ownBlock.toList ++ fs2.flatten), rfl, rfl, k4⟩
    have hfin := ((SP.append (SP.refl u1.ownBlock.toList) q2)).trans (SP.left _ (blksOf []))
    simpa only [blksOf, List.flatMap_cons, Ent.dat, List.append_assoc, List.nil_append, List.append_nil] using hfin
theorem m_l_toIntS_ok {Φ : Hp} {w : World} (hΦ : In Φ w) (N : Nat) (p0 : (List Int)) {pv0 : Value} {pG0 : List Nat} (ph0 : RSl (RI .i64) 1 Φ pG0 pv0 p0) {r : (List Int)} (h : m_l_toIntS N p0 = some r) :
    Calls Try.prog 82 [pv0].toArray w (PostL Φ w (fun Φ' F v => ∃ (s0 : Value) (F0 : List Nat), v = s0 ∧ F = F0 ∧ RSl (RI .i64) 1 Φ' F0 s0 r)) := by
  refine enter Try.func82 rfl Try.ntmps82 rfl (St.start hΦ) ?_
  unfold m_l_toIntS at h
  have hle := Hle.refl Φ
  have hold : ∀ x, x < w.heap.size → Φ x = Φ x := fun _ _ => rfl
  refine WT.seq ?_
  refine WT.region ?_
  refine WL.q (q_assign rfl) rfl rfl rfl ?_
  refine WL.nil ?_
  refine WT.seq ?_
  refine WT.region ?_
  refine WL.q (q_move rfl) rfl rfl rfl ?_
  refine WL.q (q_lenR Sl_29 rfl rfl ph0) rfl rfl rfl ?_
  obtain ⟨x1, hx1, h⟩ := bind_some h
  refine WL.make (R := (RI .i64)) rfl rfl rfl rfl Sl_29 Zr_3 By_3 rfl rfl rfl ⟨rfl, rfl⟩ rfl rfl hx1 (fun b_1 cl1 fs1 k1 q1 => ?_)
  refine WL.q (q_assign rfl) rfl rfl rfl ?_
  refine WL.nil ?_
  refine WT.seq ?_
  refine WT.seq ?_
  refine WT.region ?_
  refine WL.q (q_assign rfl) rfl rfl rfl ?_
  refine WL.nil ?_
  refine WT.block ?_
  refine WT.loop ?_
  refine WT.keep [(0, pv0), (2, .slice none 0 0), (3, (.slice (some ⟨b_1, 0, none⟩) x1.length x1.length)), (4, .int .i64 0)] ⟨rfl, rfl, rfl, rfl, trivial⟩ ?_
  refine loop_ind (σ := Int × (List Int) × Value × List Value × List (List Nat)) (fun s => [(0, pv0), (2, .slice none 0 0), (3, s.2.2.1), (4, .int .i64 s.1)]) (fun s => St w Φ [Ent.row 3 1 s.2.2.1 s.2.1.length s.2.2.2.1]) (fun m s => m_l_toIntS_l1 N p0 m s.1 s.2.1 = some r ∧ (RC (RI .i64) 1 Φ s.2.2.2.2 s.2.2.2.1 s.2.1) ∧ (SP s.2.2.2.2.flatten [])) (fun s hm => none_ne (show (none : Option ((List Int))) = some r from hm.1)) (fun k1 ih1 s hm => ?_) N (0, x1, (.slice (some ⟨b_1, 0, none⟩) x1.length x1.length), cl1, fs1) ⟨h, k1, q1⟩
  obtain ⟨s1, s2, u1, cl2, fs2⟩ := s
  obtain ⟨h, k2, q2⟩ := hm
  replace h : m_l_toIntS_l1 N p0 (k1 + 1) s1 s2 = some r := h
  replace k2 : RC (RI .i64) 1 Φ fs2 cl2 s2 := k2
  replace q2 : SP fs2.flatten [] := q2
  show WT _ _ [(0, pv0), (2, .slice none 0 0), (3, u1), (4, .int .i64 s1)] (St w Φ [Ent.row 3 1 u1 s2.length cl2])
  unfold m_l_toIntS_l1 at h
  refine WT.seq ?_
  refine WT.seq ?_
  refine WT.region ?_
  refine WL.q (q_move rfl) rfl rfl rfl ?_
  refine WL.q (q_move rfl) rfl rfl rfl ?_
  refine WL.q (q_lenR Sl_29 rfl rfl ph0) rfl rfl rfl ?_
  refine WL.q (q_lss rfl rfl) rfl rfl rfl ?_
  refine WL.nil ?_
  refine WT.cond rfl (fun c1 => ?_) (fun c1 => ?_)
  · replace h := ite_t h c1
    refine WT.skip ?_
    refine WT.seq ?_
    refine WT.block ?_
    refine WT.region ?_
    refine WL.q (q_move rfl) rfl rfl rfl ?_
    refine WL.q (q_move rfl) rfl rfl rfl ?_
    refine WL.q (q_move rfl) rfl rfl rfl ?_
    refine WL.q (q_move rfl) rfl rfl rfl ?_
    obtain ⟨x2, hx2, h⟩ := bind_some h
    obtain ⟨cs1, F1, -, g1, r1⟩ := ph0.el (idx_some hx2).2.2
    obtain ⟨rfl, -⟩ := r1
    refine WL.q (q_indexAddr Sl_29 rfl rfl ph0 hx2) rfl rfl rfl ?_
    refine WL.q (q_load1 T1_3 rfl (fun w1 hw => (g1.of_eq 0 1 rfl rfl : rg _ _ _ [.int .i64 x2]).rangeAt hw.fro)) rfl rfl rfl ?_
    obtain ⟨x3, hx3, h⟩ := bind_some h
    refine WL.q (q_indexAddrRow Sl_29 rfl rfl (j := 0) rfl hx3) rfl rfl rfl ?_
    refine WL.storeRow (j := 0) (cs := [.int .i64 x2]) (x' := x2) (F := []) rfl rfl rfl Sz_3 rfl rfl rfl (idx_lt hx3) rfl rfl ⟨rfl, trivial⟩ k2 ⟨rfl, rfl⟩ (fun cl3 k3 => ?_)
    have q3 : SP ((fs2.set s1.toNat [])).flatten [] := by simpa using SP.set (F := []) q2 (s1.toNat)
    refine WL.nil ?_
    refine WT.inBlock ?_
    refine WT.region ?_
    refine WL.q (q_move rfl) rfl rfl rfl ?_
    refine WL.q (q_add rfl rfl) rfl rfl rfl ?_
    refine WL.q (q_assign rfl) rfl rfl rfl ?_
    refine WL.nil ?_
    refine WT.inLoop (WT.mono (l' := [(0, pv0), (2, .slice none 0 0), (3, u1), (4, .int .i64 (IntKind.i64.wrap (s1 + 1)))]) (S' := St w Φ [Ent.row 3 1 u1 (s2.set s1.toNat x2).length cl3]) ⟨rfl, rfl, rfl, rfl, trivial⟩ (fun w1 hw => hw.drop 0) ?_)
    exact ih1 (IntKind.i64.wrap (s1 + 1), (s2.set s1.toNat x2), u1, cl3, (fs2.set s1.toNat [])) ⟨h, k3, q3⟩
  · replace h := ite_f h c1
    refine WT.exit rfl ?_
    refine WT.seq ?_
    refine WT.region ?_
    refine WL.q (q_move rfl) rfl rfl rfl ?_
    refine WL.q (q_assign rfl) rfl rfl rfl ?_
    refine WL.nil ?_
    refine WT.ret Try.func82 (resOk.one rfl) (fun w1 hw => ?_)
    cases h
    obtain ⟨Φ_1, le1, ho1, hw, k4⟩ := hw.freezeRow RI.mono (i := 0) rfl k2
    replace ph0 := RSl.mono RI.mono le1 ph0
    replace k2 := RC.mono RI.mono le1 k2
    replace hle := hle.trans le1
    replace hold : ∀ x, x < w.heap.size → Φ_1 x = Φ x := fun x hx => (ho1 x hx).trans (hold x hx)
    replace hw := hw.front (i := 0) rfl
    replace hw : St w Φ_1 [Ent.dat u1.ownBlock.toList] w1 := hw
    refine postL_of_St (F := (u1.ownBlock.toList ++ fs2.flatten)) hw hle hold ?_ ⟨u1, (u1.ownBlock.toList ++ fs2.flatten), rfl, rfl, k4⟩
    have hfin := ((SP.append (SP.refl u1.ownBlock.toList) q2)).trans (SP.left _ (blksOf []))
    simpa only [blksOf, List.flatMap_cons, Ent.dat, List.append_assoc, List.nil_append, List.append_nil] using hfin
theorem m_l_toMatch_ok {Φ : Hp} {w : World} (hΦ : In Φ w) (N : Nat) (p0 : TMatch) {pv0_0 : Value} {pG0_0 : List Nat} {pv0_1 : Value} {pG0_1 : List Nat} (ph0_0 : RSl (RI .i64) 1 Φ pG0_0 pv0_0 p0.Ids) (ph0_1 : RSl RTBind 4 Φ pG0_1 pv0_1 p0.Binds) {r : TMatch} (h : m_l_toMatch N p0 = some r) :
    Calls Try.prog 31 [.agg [.int .i64 p0.Rule, pv0_0, pv0_1].toArray].toArray w (PostL Φ w (fun Φ' F v => ∃ (c0 : List Value) (F0 : List Nat), v = .agg c0.toArray ∧ F = F0 ∧ RTMatch Φ' F0 c0 r)) := by
  refine enter Try.func31 rfl Try.ntmps31 rfl (St.start hΦ) ?_
  unfold m_l_toMatch at h
  have hle := Hle.refl Φ
  have hold : ∀ x, x < w.heap.size → Φ x = Φ x := fun _ _ => rfl
  refine WT.seq ?_
  refine WT.region ?_
  refine WL.box (C := #[.int .i64 p0.Rule, pv0_0, pv0_1]) rfl rfl rfl rfl rfl rfl (fun b_1 => ?_)
  refine WL.alloc (C := #[.int .i64 0, .slice none 0 0, .slice none 0 0]) rfl rfl rfl rfl Zr_32 rfl (fun b_2 => ?_)
  refine WL.nil ?_
  refine WT.seq ?_
  refine WT.region ?_
  refine WL.alloc (C := #[.int .i64 0, .slice none 0 0, .slice none 0 0]) rfl rfl rfl rfl Zr_32 rfl (fun b_3 => ?_)
  refine WL.nil ?_
  refine WT.seq ?_
  refine WT.region ?_
  refine WL.q (q_fieldAddr Fld_51_0 rfl) rfl rfl rfl ?_
  refine WL.q (q_load1 T1_3 rfl (fun w1 hw => hw.rgL (i := 2) rfl 0 1 [.int .i64 p0.Rule] rfl)) rfl rfl rfl ?_
  refine WL.q (q_fieldAddr Fld_32_0 rfl) rfl rfl rfl ?_
  refine WL.store (i := 0) (vs := [.int .i64 p0.Rule]) (C' := [.int .i64 p0.Rule, .slice none 0 0, .slice none 0 0]) rfl rfl rfl Sz_3 rfl rfl rfl rfl rfl rfl ⟨rfl, trivial⟩ rfl ?_
  refine WL.nil ?_
  refine WT.seq ?_
  refine WT.region ?_
  refine WL.q (q_fieldAddr Fld_51_1 rfl) rfl rfl rfl ?_
  refine WL.q (q_load1 T1_29 rfl (fun w1 hw => hw.rgL (i := 2) rfl 1 1 [pv0_0] rfl)) rfl rfl rfl ?_
  obtain ⟨x1, hx1, h⟩ := bind_some h
  refine WL.callL rfl rfl rfl rfl Fun_82 rfl (fun w1 hw => m_l_toIntS_ok hw.fro N p0.Ids ph0_0 hx1) (fun v1 Φ_1 D1 le1 ho1 qq1 => ?_)
  replace ph0_0 := RSl.mono RI.mono le1 ph0_0
  replace ph0_1 := RSl.mono RTBind.mono le1 ph0_1
  replace hle := hle.trans le1
  replace hold : ∀ x, x < w.heap.size → Φ_1 x = Φ x := fun x hx => (ho1 x hx).trans (hold x hx)
  obtain ⟨v2, G1, rfl, rfl, h1⟩ := qq1
  refine WL.q (q_fieldAddr Fld_32_1 rfl) rfl rfl rfl ?_
  refine WL.store (i := 1) (vs := [v1]) (C' := [.int .i64 p0.Rule, v1, .slice none 0 0]) rfl rfl rfl Sz_29 rfl rfl rfl (one_cells (RSl.one h1)) rfl rfl ⟨RSl.one h1, trivial⟩ rfl ?_
  refine WL.nil ?_
  refine WT.seq ?_
  refine WT.region ?_
  refine WL.q (q_fieldAddr Fld_51_2 rfl) rfl rfl rfl ?_
  refine WL.q (q_load1 T1_49 rfl (fun w1 hw => hw.rgL (i := 3) rfl 2 1 [pv0_1] rfl)) rfl rfl rfl ?_
  obtain ⟨x2, hx2, h⟩ := bind_some h
  refine WL.callL rfl rfl rfl rfl Fun_61 rfl (fun w1 hw => m_l_toBindS_ok hw.fro N p0.Binds ph0_1 hx2) (fun v3 Φ_2 D2 le2 ho2 qq2 => ?_)
  replace ph0_0 := RSl.mono RI.mono le2 ph0_0
  replace ph0_1 := RSl.mono RTBind.mono le2 ph0_1
  replace h1 := RSl.mono RI.mono le2 h1
  replace hle := hle.trans le2
  replace hold : ∀ x, x < w.heap.size → Φ_2 x = Φ x := fun x hx => (ho2 x hx).trans (hold x hx)
  obtain ⟨v4, G2, rfl, rfl, h2⟩ := qq2
  refine WL.q (q_fieldAddr Fld_32_2 rfl) rfl rfl rfl ?_
  refine WL.store (i := 2) (vs := [v3]) (C' := [.int .i64 p0.Rule, v1, v3]) rfl rfl rfl Sz_30 rfl rfl rfl (one_cells (RSl.one h2)) rfl rfl ⟨RSl.one h2, trivial⟩ rfl ?_
  refine WL.nil ?_
  refine WT.seq ?_
  refine WT.region ?_
  refine WL.q (q_loadN Tn_32 rfl (fun w1 hw => hw.rgL (i := 2) rfl 0 3 [.int .i64 p0.Rule, v1, v3] rfl) rfl) rfl rfl rfl ?_
  refine WL.store (i := 3) (vs := [.int .i64 p0.Rule, v1, v3]) (C' := [.int .i64 p0.Rule, v1, v3]) rfl rfl rfl Sz_32 rfl rfl rfl rfl rfl rfl ⟨rfl, RSl.one h1, RSl.one h2, trivial⟩ rfl ?_
  refine WL.nil ?_
  refine WT.ret Try.func31 (resOk.one (rv_cell Tn_32 rfl (fun w1 hw => hw.rgL (i := 3) rfl 0 3 [.int .i64 p0.Rule, v1, v3] rfl) rfl)) (fun w1 hw => ?_)
  cases h
  replace hw := hw.front (i := 0) rfl
  replace hw := hw.front (i := 1) rfl
  replace hw : St w Φ_2 [Ent.dat D1, Ent.dat D2, Ent.obj b_3 (.cells #[.int .i64 p0.Rule, v1, v3] 32 (0, 0)), Ent.obj b_2 (.cells #[.int .i64 p0.Rule, v1, v3] 32 (0, 0)), Ent.obj b_1 (.cells #[.int .i64 p0.Rule, pv0_0, pv0_1] 51 (0, 0))] w1 := hw
  refine postL_of_St (F := (D1 ++ D2)) hw hle hold ?_ ⟨[.int .i64 p0.Rule, v1, v3], D1 ++ D2, rfl, rfl, ⟨v1, D1, v3, D2, rfl, rfl, h1, h2⟩⟩
  have hfin := ((SP.append (SP.refl D1) (SP.refl D2))).trans (SP.left _ (blksOf [Ent.obj b_3 (.cells #[.int .i64 p0.Rule, v1, v3] 32 (0, 0)), Ent.obj b_2 (.cells #[.int .i64 p0.Rule, v1, v3] 32 (0, 0)), Ent.obj b_1 (.cells #[.int .i64 p0.Rule, pv0_0, pv0_1] 51 (0, 0))]))
  simpa only [blksOf, List.flatMap_cons, Ent.dat, List.append_assoc, List.nil_append, List.append_nil] using hfin
theorem m_l_eqVal_ok {Φ : Hp} {w : World} (hΦ : In Φ w) (N : Nat) (p0 : TVal) (p1 : TVal)   {r : Bool} (h : m_l_eqVal N p0 p1 = some r) :
    Calls Try.prog 63 [.agg [.int .i64 p0.K, .int .i64 p0.N, .string p0.S].toArray, .agg [.int .i64 p1.K, .int .i64 p1.N, .string p1.S].toArray].toArray w (Post (.bool r) w) := by
  refine enter Try.func63 rfl Try.ntmps63 rfl (St.start hΦ) ?_
  unfold m_l_eqVal at h
  refine WT.seq ?_
  refine WT.region ?_
  refine WL.box (C := #[.int .i64 p0.K, .int .i64 p0.N, .string p0.S]) rfl rfl rfl rfl rfl rfl (fun b_1 => ?_)
  refine WL.box (C := #[.int .i64 p1.K, .int .i64 p1.N, .string p1.S]) rfl rfl rfl rfl rfl rfl (fun b_2 => ?_)
  refine WL.q (q_assign rfl) rfl rfl rfl ?_
  refine WL.nil ?_
  refine WT.seq ?_
  refine WT.seq ?_
  refine WT.region ?_
  refine WL.q (q_fieldAddr Fld_100_0 rfl) rfl rfl rfl ?_
  refine WL.q (q_load1 T1_3 rfl (fun w1 hw => hw.rgL (i := 1) rfl 0 1 [.int .i64 p0.K] rfl)) rfl rfl rfl ?_
  refine WL.q (q_fieldAddr Fld_100_0 rfl) rfl rfl rfl ?_
  refine WL.q (q_load1 T1_3 rfl (fun w1 hw => hw.rgL (i := 0) rfl 0 1 [.int .i64 p1.K] rfl)) rfl rfl rfl ?_
  refine WL.q (q_neq rfl rfl) rfl rfl rfl ?_
  refine WL.nil ?_
  refine WT.cond rfl (fun c1 => ?_) (fun c1 => ?_)
  · replace h := ite_t h c1
    refine WT.seq ?_
    refine WT.region ?_
    refine WL.q (q_assign rfl) rfl rfl rfl ?_
    refine WL.nil ?_
    refine WT.ret Try.func63 (resOk.one rfl) (fun w1 hw => ?_)
    cases h
    exact post_of_St hw
  · replace h := ite_f h c1
    refine WT.skip ?_
    refine WT.seq ?_
    refine WT.seq ?_
    refine WT.region ?_
    refine WL.q (q_fieldAddr Fld_100_1 rfl) rfl rfl rfl ?_
    refine WL.q (q_load1 T1_3 rfl (fun w1 hw => hw.rgL (i := 1) rfl 1 1 [.int .i64 p0.N] rfl)) rfl rfl rfl ?_
    refine WL.q (q_fieldAddr Fld_100_1 rfl) rfl rfl rfl ?_
    refine WL.q (q_load1 T1_3 rfl (fun w1 hw => hw.rgL (i := 0) rfl 1 1 [.int .i64 p1.N] rfl)) rfl rfl rfl ?_
    refine WL.q (q_neq rfl rfl) rfl rfl rfl ?_
    refine WL.nil ?_
    refine WT.cond rfl (fun c2 => ?_) (fun c2 => ?_)
    · replace h := ite_t h c2
      refine WT.seq ?_
      refine WT.region ?_
      refine WL.q (q_assign rfl) rfl rfl rfl ?_
      refine WL.nil ?_
      refine WT.ret Try.func63 (resOk.one rfl) (fun w1 hw => ?_)
      cases h
      exact post_of_St hw
    · replace h := ite_f h c2
      refine WT.skip ?_
      refine WT.seq ?_
      refine WT.seq ?_
      refine WT.region ?_
      refine WL.q (q_fieldAddr Fld_100_2 rfl) rfl rfl rfl ?_
      refine WL.q (q_load1 T1_9 rfl (fun w1 hw => hw.rgL (i := 1) rfl 2 1 [.string p0.S] rfl)) rfl rfl rfl ?_
      refine WL.q (q_fieldAddr Fld_100_2 rfl) rfl rfl rfl ?_
      refine WL.q (q_load1 T1_9 rfl (fun w1 hw => hw.rgL (i := 0) rfl 2 1 [.string p1.S] rfl)) rfl rfl rfl ?_
      refine WL.q (q_sne rfl rfl) rfl rfl rfl ?_
      refine WL.nil ?_
      refine WT.cond rfl (fun c3 => ?_) (fun c3 => ?_)
      · replace h := ite_t h c3
        refine WT.seq ?_
        refine WT.region ?_
        refine WL.q (q_assign rfl) rfl rfl rfl ?_
        refine WL.nil ?_
        refine WT.ret Try.func63 (resOk.one rfl) (fun w1 hw => ?_)
        cases h
        exact post_of_St hw
      · replace h := ite_f h c3
        refine WT.skip ?_
        refine WT.seq ?_
        refine WT.region ?_
        refine WL.q (q_assign rfl) rfl rfl rfl ?_
        refine WL.nil ?_
        refine WT.ret Try.func63 (resOk.one rfl) (fun w1 hw => ?_)
        cases h
        exact post_of_St hw
theorem m_l_eqBind_ok {Φ : Hp} {w : World} (hΦ : In Φ w) (N : Nat) (p0 : TBind) (p1 : TBind)   {r : Bool} (h : m_l_eqBind N p0 p1 = some r) :
    Calls Try.prog 113 [.agg [.string p0.Name, .int .i64 p0.V.K, .int .i64 p0.V.N, .string p0.V.S].toArray, .agg [.string p1.Name, .int .i64 p1.V.K, .int .i64 p1.V.N, .string p1.V.S].toArray].toArray w (Post (.bool r) w) := by
  refine enter Try.func113 rfl Try.ntmps113 rfl (St.start hΦ) ?_
  unfold m_l_eqBind at h
  refine WT.seq ?_
  refine WT.region ?_
  refine WL.box (C := #[.string p0.Name, .int .i64 p0.V.K, .int .i64 p0.V.N, .string p0.V.S]) rfl rfl rfl rfl rfl rfl (fun b_1 => ?_)
  refine WL.box (C := #[.string p1.Name, .int .i64 p1.V.K, .int .i64 p1.V.N, .string p1.V.S]) rfl rfl rfl rfl rfl rfl (fun b_2 => ?_)
  refine WL.q (q_assign rfl) rfl rfl rfl ?_
  refine WL.nil ?_
  refine WT.seq ?_
  refine WT.seq ?_
  refine WT.region ?_
  refine WL.q (q_fieldAddr Fld_130_0 rfl) rfl rfl rfl ?_
  refine WL.q (q_load1 T1_9 rfl (fun w1 hw => hw.rgL (i := 1) rfl 0 1 [.string p0.Name] rfl)) rfl rfl rfl ?_
  refine WL.q (q_fieldAddr Fld_130_0 rfl) rfl rfl rfl ?_
  refine WL.q (q_load1 T1_9 rfl (fun w1 hw => hw.rgL (i := 0) rfl 0 1 [.string p1.Name] rfl)) rfl rfl rfl ?_
  refine WL.q (q_sne rfl rfl) rfl rfl rfl ?_
  refine WL.nil ?_
  refine WT.cond rfl (fun c1 => ?_) (fun c1 => ?_)
  · replace h := ite_t h c1
    refine WT.seq ?_
    refine WT.region ?_
    refine WL.q (q_assign rfl) rfl rfl rfl ?_
    refine WL.nil ?_
    refine WT.ret Try.func113 (resOk.one rfl) (fun w1 hw => ?_)
    cases h
    exact post_of_St hw
  · replace h := ite_f h c1
    refine WT.skip ?_
    refine WT.seq ?_
    refine WT.seq ?_
    refine WT.region ?_
    refine WL.q (q_fieldAddr Fld_130_1 rfl) rfl rfl rfl ?_
    refine WL.q (q_loadN Tn_100 rfl (fun w1 hw => hw.rgL (i := 1) rfl 1 3 [.int .i64 p0.V.K, .int .i64 p0.V.N, .string p0.V.S] rfl) rfl) rfl rfl rfl ?_
    refine WL.q (q_fieldAddr Fld_130_1 rfl) rfl rfl rfl ?_
    refine WL.q (q_loadN Tn_100 rfl (fun w1 hw => hw.rgL (i := 0) rfl 1 3 [.int .i64 p1.V.K, .int .i64 p1.V.N, .string p1.V.S] rfl) rfl) rfl rfl rfl ?_
    obtain ⟨x1, hx1, h⟩ := bind_some h
    refine WL.call (c_pure Fun_63 rfl (fun w1 hw => m_l_eqVal_ok hw.fro N p0.V p1.V hx1)) rfl rfl rfl (fun _ => ?_)
    refine WL.q (q_not rfl) rfl rfl rfl ?_
    refine WL.nil ?_
    refine WT.cond rfl (fun c2 => ?_) (fun c2 => ?_)
    · replace h := ite_t h c2
      refine WT.seq ?_
      refine WT.region ?_
      refine WL.q (q_assign rfl) rfl rfl rfl ?_
      refine WL.nil ?_
      refine WT.ret Try.func113 (resOk.one rfl) (fun w1 hw => ?_)
      cases h
      exact post_of_St hw
    · replace h := ite_f h c2
      refine WT.skip ?_
      refine WT.seq ?_
      refine WT.region ?_
      refine WL.q (q_assign rfl) rfl rfl rfl ?_
      refine WL.nil ?_
      refine WT.ret Try.func113 (resOk.one rfl) (fun w1 hw => ?_)
      cases h
      exact post_of_St hw
theorem m_l_eqBindS_ok {Φ : Hp} {w : World} (hΦ : In Φ w) (N : Nat) (p0 : (List TBind)) (p1 : (List TBind)) {pv0 : Value} {pG0 : List Nat} {pv1 : Value} {pG1 : List Nat} (ph0 : RSl RTBind 4 Φ pG0 pv0 p0) (ph1 : RSl RTBind 4 Φ pG1 pv1 p1) {r : Bool} (h : m_l_eqBindS N p0 p1 = some r) :
    Calls Try.prog 64 [pv0, pv1].toArray w (Post (.bool r) w) := by
  refine enter Try.func64 rfl Try.ntmps64 rfl (St.start hΦ) ?_
  unfold m_l_eqBindS at h
  refine WT.seq ?_
  refine WT.region ?_
  refine WL.q (q_assign rfl) rfl rfl rfl ?_
  refine WL.nil ?_
  refine WT.seq ?_
  refine WT.seq ?_
  refine WT.region ?_
  refine WL.q (q_move rfl) rfl rfl rfl ?_
  refine WL.q (q_lenR Sl_30 rfl rfl ph0) rfl rfl rfl ?_
  refine WL.q (q_move rfl) rfl rfl rfl ?_
  refine WL.q (q_lenR Sl_30 rfl rfl ph1) rfl rfl rfl ?_
  refine WL.q (q_neq rfl rfl) rfl rfl rfl ?_
  refine WL.nil ?_
  refine WT.cond rfl (fun c1 => ?_) (fun c1 => ?_)
  · replace h := ite_t h c1
    refine WT.seq ?_
    refine WT.region ?_
    refine WL.q (q_assign rfl) rfl rfl rfl ?_
    refine WL.nil ?_
    refine WT.ret Try.func64 (resOk.one rfl) (fun w1 hw => ?_)
    cases h
    exact post_of_St hw
  · replace h := ite_f h c1
    refine WT.skip ?_
    refine WT.seq ?_
    refine WT.seq ?_
    refine WT.region ?_
    refine WL.q (q_assign rfl) rfl rfl rfl ?_
    refine WL.nil ?_
    refine WT.block ?_
    refine WT.loop ?_
    refine WT.keep [(0, pv0), (1, pv1), (4, .bool false), (5, .int .i64 0)] ⟨rfl, rfl, rfl, rfl, trivial⟩ ?_
    refine loop_ind (σ := Int) (fun s => [(0, pv0), (1, pv1), (4, .bool false), (5, .int .i64 s)]) (fun s => St w Φ []) (fun m s => m_l_eqBindS_l1 N p0 p1 m s = some r) (fun s hm => none_ne (show (none : Option (Bool)) = some r from hm)) (fun k1 ih1 s hm => ?_) N (0) h
    revert hm; revert s; intro s1 hm
    have h : m_l_eqBindS_l1 N p0 p1 (k1 + 1) s1 = some r := hm
    show WT _ _ [(0, pv0), (1, pv1), (4, .bool false), (5, .int .i64 s1)] (St w Φ [])
    unfold m_l_eqBindS_l1 at h
    refine WT.seq ?_
    refine WT.seq ?_
    refine WT.region ?_
    refine WL.q (q_move rfl) rfl rfl rfl ?_
    refine WL.q (q_move rfl) rfl rfl rfl ?_
    refine WL.q (q_lenR Sl_30 rfl rfl ph0) rfl rfl rfl ?_
    refine WL.q (q_lss rfl rfl) rfl rfl rfl ?_
    refine WL.nil ?_
    refine WT.cond rfl (fun c2 => ?_) (fun c2 => ?_)
    · replace h := ite_t h c2
      refine WT.skip ?_
      refine WT.seq ?_
      refine WT.block ?_
      refine WT.seq ?_
      refine WT.draw mixed (by kernel_rfl) (fun _ h => h.drew) ?_
      refine WQ.q (q_move rfl) rfl rfl rfl ?_
      refine WQ.q (q_move rfl) rfl rfl rfl ?_
      obtain ⟨x1, hx1, h⟩ := bind_some h
      obtain ⟨cs1, F1, -, g1, r1⟩ := ph0.el (idx_some hx1).2.2
      obtain ⟨rfl, -⟩ := r1
      refine WQ.q (q_indexAddr Sl_30 rfl rfl ph0 hx1) rfl rfl rfl ?_
      refine WQ.q (q_loadN Tn_130 rfl (fun w1 hw => (g1.of_eq 0 4 rfl rfl : rg _ _ _ [.string x1.Name, .int .i64 x1.V.K, .int .i64 x1.V.N, .string x1.V.S]).rangeAt hw.fro) rfl) rfl rfl rfl ?_
      refine WQ.q (q_move rfl) rfl rfl rfl ?_
      refine WQ.q (q_move rfl) rfl rfl rfl ?_
      obtain ⟨x2, hx2, h⟩ := bind_some h
      obtain ⟨cs2, F2, -, g2, r2⟩ := ph1.el (idx_some hx2).2.2
      obtain ⟨rfl, -⟩ := r2
      refine WQ.q (q_indexAddr Sl_30 rfl rfl ph1 hx2) rfl rfl rfl ?_
      refine WQ.q (q_loadN Tn_130 rfl (fun w1 hw => (g2.of_eq 0 4 rfl rfl : rg _ _ _ [.string x2.Name, .int .i64 x2.V.K, .int .i64 x2.V.N, .string x2.V.S]).rangeAt hw.fro) rfl) rfl rfl rfl ?_
      obtain ⟨x3, hx3, h⟩ := bind_some h
      refine WQ.call (c_pure Fun_113 rfl (fun w1 hw => m_l_eqBind_ok hw.fro N x1 x2 hx3)) rfl rfl rfl ?_
      refine WQ.q (q_not rfl) rfl rfl rfl ?_
      refine WQ.nil ?_
      refine WT.cond rfl (fun c3 => ?_) (fun c3 => ?_)
      · replace h := ite_t h c3
        refine WT.seq ?_
        refine WT.region ?_
        refine WL.q (q_assign rfl) rfl rfl rfl ?_
        refine WL.nil ?_
        refine WT.ret Try.func64 (resOk.one rfl) (fun w1 hw => ?_)
        cases h
        exact post_of_St hw
      · replace h := ite_f h c3
        refine WT.skip ?_
        refine WT.inBlock ?_
        refine WT.region ?_
        refine WL.q (q_move rfl) rfl rfl rfl ?_
        refine WL.q (q_add rfl rfl) rfl rfl rfl ?_
        refine WL.q (q_assign rfl) rfl rfl rfl ?_
        refine WL.nil ?_
        refine WT.inLoop (WT.mono (l' := [(0, pv0), (1, pv1), (4, .bool false), (5, .int .i64 (IntKind.i64.wrap (s1 + 1)))]) (S' := St w Φ []) ⟨rfl, rfl, rfl, rfl, trivial⟩ (fun w1 hw => hw.drop 0) ?_)
        exact ih1 (IntKind.i64.wrap (s1 + 1)) h
    · replace h := ite_f h c2
      refine WT.exit rfl ?_
      refine WT.seq ?_
      refine WT.region ?_
      refine WL.q (q_assign rfl) rfl rfl rfl ?_
      refine WL.nil ?_
      refine WT.ret Try.func64 (resOk.one rfl) (fun w1 hw => ?_)
      cases h
      exact post_of_St hw
theorem m_l_eqIntS_ok {Φ : Hp} {w : World} (hΦ : In Φ w) (N : Nat) (p0 : (List Int)) (p1 : (List Int)) {pv0 : Value} {pG0 : List Nat} {pv1 : Value} {pG1 : List Nat} (ph0 : RSl (RI .i64) 1 Φ pG0 pv0 p0) (ph1 : RSl (RI .i64) 1 Φ pG1 pv1 p1) {r : Bool} (h : m_l_eqIntS N p0 p1 = some r) :
    Calls Try.prog 85 [pv0, pv1].toArray w (Post (.bool r) w) := by
  refine enter Try.func85 rfl Try.ntmps85 rfl (St.start hΦ) ?_
  unfold m_l_eqIntS at h
  refine WT.seq ?_
  refine WT.region ?_
  refine WL.q (q_assign rfl) rfl rfl rfl ?_
  refine WL.nil ?_
  refine WT.seq ?_
  refine WT.seq ?_
  refine WT.region ?_
  refine WL.q (q_move rfl) rfl rfl rfl ?_
  refine WL.q (q_lenR Sl_29 rfl rfl ph0) rfl rfl rfl ?_
  refine WL.q (q_move rfl) rfl rfl rfl ?_
  refine WL.q (q_lenR Sl_29 rfl rfl ph1) rfl rfl rfl ?_
  refine WL.q (q_neq rfl rfl) rfl rfl rfl ?_
  refine WL.nil ?_
  refine WT.cond rfl (fun c1 => ?_) (fun c1 => ?_)
  · replace h := ite_t h c1
    refine WT.seq ?_
    refine WT.region ?_
    refine WL.q (q_assign rfl) rfl rfl rfl ?_
    refine WL.nil ?_
    refine WT.ret Try.func85 (resOk.one rfl) (fun w1 hw => ?_)
    cases h
    exact post_of_St hw
  · replace h := ite_f h c1
    refine WT.skip ?_
    refine WT.seq ?_
    refine WT.seq ?_
    refine WT.region ?_
    refine WL.q (q_assign rfl) rfl rfl rfl ?_
    refine WL.nil ?_
    refine WT.block ?_
    refine WT.loop ?_
    refine WT.keep [(0, pv0), (1, pv1), (4, .bool false), (5, .int .i64 0)] ⟨rfl, rfl, rfl, rfl, trivial⟩ ?_
    refine loop_ind (σ := Int) (fun s => [(0, pv0), (1, pv1), (4, .bool false), (5, .int .i64 s)]) (fun s => St w Φ []) (fun m s => m_l_eqIntS_l1 N p0 p1 m s = some r) (fun s hm => none_ne (show (none : Option (Bool)) = some r from hm)) (fun k1 ih1 s hm => ?_) N (0) h
    revert hm; revert s; intro s1 hm
    have h : m_l_eqIntS_l1 N p0 p1 (k1 + 1) s1 = some r := hm
    show WT _ _ [(0, pv0), (1, pv1), (4, .bool false), (5, .int .i64 s1)] (St w Φ [])
    unfold m_l_eqIntS_l1 at h
    refine WT.seq ?_
    refine WT.seq ?_
    refine WT.region ?_
    refine WL.q (q_move rfl) rfl rfl rfl ?_
    refine WL.q (q_move rfl) rfl rfl rfl ?_
    refine WL.q (q_lenR Sl_29 rfl rfl ph0) rfl rfl rfl ?_
    refine WL.q (q_lss rfl rfl) rfl rfl rfl ?_
    refine WL.nil ?_
    refine WT.cond rfl (fun c2 => ?_) (fun c2 => ?_)
    · replace h := ite_t h c2
      refine WT.skip ?_
      refine WT.seq ?_
      refine WT.block ?_
      refine WT.seq ?_
      refine WT.draw mixed (by kernel_rfl) (fun _ h => h.drew) ?_
      refine WQ.q (q_move rfl) rfl rfl rfl ?_
      refine WQ.q (q_move rfl) rfl rfl rfl ?_
      obtain ⟨x1, hx1, h⟩ := bind_some h
      obtain ⟨cs1, F1, -, g1, r1⟩ := ph0.el (idx_some hx1).2.2
      obtain ⟨rfl, -⟩ := r1
      refine WQ.q (q_indexAddr Sl_29 rfl rfl ph0 hx1) rfl rfl rfl ?_
      refine WQ.q (q_load1 T1_3 rfl (fun w1 hw => (g1.of_eq 0 1 rfl rfl : rg _ _ _ [.int .i64 x1]).rangeAt hw.fro)) rfl rfl rfl ?_
      refine WQ.q (q_move rfl) rfl rfl rfl ?_
      refine WQ.q (q_move rfl) rfl rfl rfl ?_
      obtain ⟨x2, hx2, h⟩ := bind_some h
      obtain ⟨cs2, F2, -, g2, r2⟩ := ph1.el (idx_some hx2).2.2
      obtain ⟨rfl, -⟩ := r2
      refine WQ.q (q_indexAddr Sl_29 rfl rfl ph1 hx2) rfl rfl rfl ?_
      refine WQ.q (q_load1 T1_3 rfl (fun w1 hw => (g2.of_eq 0 1 rfl rfl : rg _ _ _ [.int .i64 x2]).rangeAt hw.fro)) rfl rfl rfl ?_
      refine WQ.q (q_neq rfl rfl) rfl rfl rfl ?_
      refine WQ.nil ?_
      refine WT.cond rfl (fun c3 => ?_) (fun c3 => ?_)
      · replace h := ite_t h c3
        refine WT.seq ?_
        refine WT.region ?_
        refine WL.q (q_assign rfl) rfl rfl rfl ?_
        refine WL.nil ?_
        refine WT.ret Try.func85 (resOk.one rfl) (fun w1 hw => ?_)
        cases h
        exact post_of_St hw
      · replace h := ite_f h c3
        refine WT.skip ?_
        refine WT.inBlock ?_
        refine WT.region ?_
        refine WL.q (q_move rfl) rfl rfl rfl ?_
        refine WL.q (q_add rfl rfl) rfl rfl rfl ?_
        refine WL.q (q_assign rfl) rfl rfl rfl ?_
        refine WL.nil ?_
        refine WT.inLoop (WT.mono (l' := [(0, pv0), (1, pv1), (4, .bool false), (5, .int .i64 (IntKind.i64.wrap (s1 + 1)))]) (S' := St w Φ []) ⟨rfl, rfl, rfl, rfl, trivial⟩ (fun w1 hw => hw.drop 0) ?_)
        exact ih1 (IntKind.i64.wrap (s1 + 1)) h
    · replace h := ite_f h c2
      refine WT.exit rfl ?_
      refine WT.seq ?_
      refine WT.region ?_
      refine WL.q (q_assign rfl) rfl rfl rfl ?_
      refine WL.nil ?_
      refine WT.ret Try.func85 (resOk.one rfl) (fun w1 hw => ?_)
      cases h
      exact post_of_St hw
theorem m_l_eqMatch_ok {Φ : Hp} {w : World} (hΦ : In Φ w) (N : Nat) (p0 : TMatch) (p1 : TMatch) {pv0_0 : Value} {pG0_0 : List Nat} {pv0_1 : Value} {pG0_1 : List Nat} {pv1_0 : Value} {pG1_0 : List Nat} {pv1_1 : Value} {pG1_1 : List Nat} (ph0_0 : RSl (RI .i64) 1 Φ pG0_0 pv0_0 p0.Ids) (ph0_1 : RSl RTBind 4 Φ pG0_1 pv0_1 p0.Binds) (ph1_0 : RSl (RI .i64) 1 Φ pG1_0 pv1_0 p1.Ids) (ph1_1 : RSl RTBind 4 Φ pG1_1 pv1_1 p1.Binds) {r : Bool} (h : m_l_eqMatch N p0 p1 = some r) :
    Calls Try.prog 32 [.agg [.int .i64 p0.Rule, pv0_0, pv0_1].toArray, .agg [.int .i64 p1.Rule, pv1_0, pv1_1].toArray].toArray w (Post (.bool r) w) := by
  refine enter Try.func32 rfl Try.ntmps32 rfl (St.start hΦ) ?_
  unfold m_l_eqMatch at h
  refine WT.seq ?_
  refine WT.region ?_
  refine WL.box (C := #[.int .i64 p0.Rule, pv0_0, pv0_1]) rfl rfl rfl rfl rfl rfl (fun b_1 => ?_)
  refine WL.box (C := #[.int .i64 p1.Rule, pv1_0, pv1_1]) rfl rfl rfl rfl rfl rfl (fun b_2 => ?_)
  refine WL.q (q_assign rfl) rfl rfl rfl ?_
  refine WL.nil ?_
  refine WT.seq ?_
  refine WT.seq ?_
  refine WT.region ?_
  refine WL.q (q_fieldAddr Fld_32_0 rfl) rfl rfl rfl ?_
  refine WL.q (q_load1 T1_3 rfl (fun w1 hw => hw.rgL (i := 1) rfl 0 1 [.int .i64 p0.Rule] rfl)) rfl rfl rfl ?_
  refine WL.q (q_fieldAddr Fld_32_0 rfl) rfl rfl rfl ?_
  refine WL.q (q_load1 T1_3 rfl (fun w1 hw => hw.rgL (i := 0) rfl 0 1 [.int .i64 p1.Rule] rfl)) rfl rfl rfl ?_
  refine WL.q (q_neq rfl rfl) rfl rfl rfl ?_
  refine WL.nil ?_
  refine WT.cond rfl (fun c1 => ?_) (fun c1 => ?_)
  · replace h := ite_t h c1
    refine WT.seq ?_
    refine WT.region ?_
    refine WL.q (q_assign rfl) rfl rfl rfl ?_
    refine WL.nil ?_
    refine WT.ret Try.func32 (resOk.one rfl) (fun w1 hw => ?_)
    cases h
    exact post_of_St hw
  · replace h := ite_f h c1
    refine WT.skip ?_
    refine WT.seq ?_
    refine WT.seq ?_
    refine WT.region ?_
    refine WL.q (q_fieldAddr Fld_32_1 rfl) rfl rfl rfl ?_
    refine WL.q (q_load1 T1_29 rfl (fun w1 hw => hw.rgL (i := 1) rfl 1 1 [pv0_0] rfl)) rfl rfl rfl ?_
    refine WL.q (q_fieldAddr Fld_32_1 rfl) rfl rfl rfl ?_
    refine WL.q (q_load1 T1_29 rfl (fun w1 hw => hw.rgL (i := 0) rfl 1 1 [pv1_0] rfl)) rfl rfl rfl ?_
    obtain ⟨x1, hx1, h⟩ := bind_some h
    refine WL.call (c_pure Fun_85 rfl (fun w1 hw => m_l_eqIntS_ok hw.fro N p0.Ids p1.Ids ph0_0 ph1_0 hx1)) rfl rfl rfl (fun _ => ?_)
    refine WL.q (q_not rfl) rfl rfl rfl ?_
    refine WL.nil ?_
    refine WT.cond rfl (fun c2 => ?_) (fun c2 => ?_)
    · replace h := ite_t h c2
      refine WT.seq ?_
      refine WT.region ?_
      refine WL.q (q_assign rfl) rfl rfl rfl ?_
      refine WL.nil ?_
      refine WT.ret Try.func32 (resOk.one rfl) (fun w1 hw => ?_)
      cases h
      exact post_of_St hw
    · replace h := ite_f h c2
      refine WT.skip ?_
      refine WT.seq ?_
      refine WT.seq ?_
      refine WT.region ?_
      refine WL.q (q_fieldAddr Fld_32_2 rfl) rfl rfl rfl ?_
      refine WL.q (q_load1 T1_30 rfl (fun w1 hw => hw.rgL (i := 1) rfl 2 1 [pv0_1] rfl)) rfl rfl rfl ?_
      refine WL.q (q_fieldAddr Fld_32_2 rfl) rfl rfl rfl ?_
      refine WL.q (q_load1 T1_30 rfl (fun w1 hw => hw.rgL (i := 0) rfl 2 1 [pv1_1] rfl)) rfl rfl rfl ?_
      obtain ⟨x2, hx2, h⟩ := bind_some h
      refine WL.call (c_pure Fun_64 rfl (fun w1 hw => m_l_eqBindS_ok hw.fro N p0.Binds p1.Binds ph0_1 ph1_1 hx2)) rfl rfl rfl (fun _ => ?_)
      refine WL.q (q_not rfl) rfl rfl rfl ?_
      refine WL.nil ?_
      refine WT.cond rfl (fun c3 => ?_) (fun c3 => ?_)
      · replace h := ite_t h c3
        refine WT.seq ?_
        refine WT.region ?_
        refine WL.q (q_assign rfl) rfl rfl rfl ?_
        refine WL.nil ?_
        refine WT.ret Try.func32 (resOk.one rfl) (fun w1 hw => ?_)
        cases h
        exact post_of_St hw
      · replace h := ite_f h c3
        refine WT.skip ?_
        refine WT.seq ?_
        refine WT.region ?_
        refine WL.q (q_assign rfl) rfl rfl rfl ?_
        refine WL.nil ?_
        refine WT.ret Try.func32 (resOk.one rfl) (fun w1 hw => ?_)
        cases h
        exact post_of_St hw
theorem m_l_szMatchS_ok {Φ : Hp} {w : World} (hΦ : In Φ w) (N : Nat) (p0 : (List TMatch)) (p1 : Int) {pv0 : Value} {pG0 : List Nat} (ph0 : RSl RTMatch 3 Φ pG0 pv0 p0) {r : Int} (h : m_l_szMatchS N p0 p1 = some r) :
    Calls Try.prog 38 [pv0, .int .i64 p1].toArray w (Post (.int .i64 r) w) := by
  refine enter Try.func38 rfl Try.ntmps38 rfl (St.start hΦ) ?_
  unfold m_l_szMatchS at h
  refine WT.seq ?_
  refine WT.region ?_
  refine WL.q (q_assign rfl) rfl rfl rfl ?_
  refine WL.nil ?_
  refine WT.seq ?_
  refine WT.region ?_
  refine WL.q (q_move rfl) rfl rfl rfl ?_
  refine WL.q (q_move rfl) rfl rfl rfl ?_
  refine WL.q (q_lenR Sl_64 rfl rfl ph0) rfl rfl rfl ?_
  refine WL.q (q_sub rfl rfl) rfl rfl rfl ?_
  refine WL.q (q_assign rfl) rfl rfl rfl ?_
  refine WL.nil ?_
  refine WT.seq ?_
  refine WT.seq ?_
  refine WT.region ?_
  refine WL.q (q_move rfl) rfl rfl rfl ?_
  refine WL.q (q_lss rfl rfl) rfl rfl rfl ?_
  refine WL.nil ?_
  refine WT.cond rfl (fun c1 => ?_) (fun c1 => ?_)
  · replace h := ite_t h c1
    refine WT.seq ?_
    refine WT.region ?_
    refine WL.q (q_assign rfl) rfl rfl rfl ?_
    refine WL.nil ?_
    refine WT.ret Try.func38 (resOk.one rfl) (fun w1 hw => ?_)
    cases h
    exact post_of_St hw
  · replace h := ite_f h c1
    refine WT.skip ?_
    refine WT.seq ?_
    refine WT.seq ?_
    refine WT.region ?_
    refine WL.q (q_assign rfl) rfl rfl rfl ?_
    refine WL.nil ?_
    refine WT.block ?_
    refine WT.loop ?_
    refine WT.keep [(0, pv0), (1, .int .i64 (IntKind.i64.wrap (p1 - (p0.length : Int)))), (4, .int .i64 0), (5, .int .i64 0)] ⟨rfl, rfl, rfl, rfl, trivial⟩ ?_
    refine loop_ind (σ := Int × Int) (fun s => [(0, pv0), (1, .int .i64 s.1), (4, .int .i64 0), (5, .int .i64 s.2)]) (fun s => St w Φ []) (fun m s => m_l_szMatchS_l1 N p0 m s.1 s.2 = some r) (fun s hm => none_ne (show (none : Option (Int)) = some r from hm)) (fun k1 ih1 s hm => ?_) N (IntKind.i64.wrap (p1 - (p0.length : Int)), 0) h
    obtain ⟨s1, s2⟩ := s
    have h : m_l_szMatchS_l1 N p0 (k1 + 1) s1 s2 = some r := hm
    show WT _ _ [(0, pv0), (1, .int .i64 s1), (4, .int .i64 0), (5, .int .i64 s2)] (St w Φ [])
    unfold m_l_szMatchS_l1 at h
    refine WT.seq ?_
    refine WT.seq ?_
    refine WT.region ?_
    refine WL.q (q_move rfl) rfl rfl rfl ?_
    refine WL.q (q_move rfl) rfl rfl rfl ?_
    refine WL.q (q_lenR Sl_64 rfl rfl ph0) rfl rfl rfl ?_
    refine WL.q (q_lss rfl rfl) rfl rfl rfl ?_
    refine WL.nil ?_
    refine WT.cond rfl (fun c2 => ?_) (fun c2 => ?_)
    · replace h := ite_t h c2
      refine WT.skip ?_
      refine WT.seq ?_
      refine WT.block ?_
      refine WT.seq ?_
      refine WT.region ?_
      refine WL.q (q_move rfl) rfl rfl rfl ?_
      refine WL.q (q_move rfl) rfl rfl rfl ?_
      obtain ⟨x1, hx1, h⟩ := bind_some h
      obtain ⟨cs1, F1, -, g1, r1⟩ := ph0.el (idx_some hx1).2.2
      obtain ⟨v1, G1, v2, G2, rfl, -, h1, h2⟩ := r1
      refine WL.q (q_indexAddr Sl_64 rfl rfl ph0 hx1) rfl rfl rfl ?_
      refine WL.q (q_loadN Tn_51 rfl (fun w1 hw => (g1.of_eq 0 3 rfl rfl : rg _ _ _ [.int .i64 x1.Rule, v1, v2]).rangeAt hw.fro) rfl) rfl rfl rfl ?_
      refine WL.q (q_move rfl) rfl rfl rfl ?_
      obtain ⟨x2, hx2, h⟩ := bind_some h
      refine WL.call (c_pure Fun_29 rfl (fun w1 hw => m_l_szMatch_ok hw.fro N x1 s1 h1 h2 hx2)) rfl rfl rfl (fun _ => ?_)
      refine WL.q (q_assign rfl) rfl rfl rfl ?_
      refine WL.nil ?_
      refine WT.seq ?_
      refine WT.region ?_
      refine WL.q (q_move rfl) rfl rfl rfl ?_
      refine WL.q (q_lss rfl rfl) rfl rfl rfl ?_
      refine WL.nil ?_
      refine WT.cond rfl (fun c3 => ?_) (fun c3 => ?_)
      · replace h := ite_t h c3
        refine WT.seq ?_
        refine WT.region ?_
        refine WL.q (q_assign rfl) rfl rfl rfl ?_
        refine WL.nil ?_
        refine WT.ret Try.func38 (resOk.one rfl) (fun w1 hw => ?_)
        cases h
        exact post_of_St hw
      · replace h := ite_f h c3
        refine WT.skip ?_
        refine WT.inBlock ?_
        refine WT.region ?_
        refine WL.q (q_move rfl) rfl rfl rfl ?_
        refine WL.q (q_add rfl rfl) rfl rfl rfl ?_
        refine WL.q (q_assign rfl) rfl rfl rfl ?_
        refine WL.nil ?_
        refine WT.inLoop (WT.mono (l' := [(0, pv0), (1, .int .i64 x2), (4, .int .i64 0), (5, .int .i64 (IntKind.i64.wrap (s2 + 1)))]) (S' := St w Φ []) ⟨rfl, rfl, rfl, rfl, trivial⟩ (fun w1 hw => hw.drop 0) ?_)
        exact ih1 (x2, IntKind.i64.wrap (s2 + 1)) h
    · replace h := ite_f h c2
      refine WT.exit rfl ?_
      refine WT.seq ?_
      refine WT.region ?_
      refine WL.q (q_move rfl) rfl rfl rfl ?_
      refine WL.q (q_assign rfl) rfl rfl rfl ?_
      refine WL.nil ?_
      refine WT.ret Try.func38 (resOk.one rfl) (fun w1 hw => ?_)
      cases h
      exact post_of_St hw
theorem m_s_l11Same_ok {Φ : Hp} {w : World} (hΦ : In Φ w) (N : Nat) (p0 : (List Int)) (p1 : (List Int)) {pv0 : Value} {pG0 : List Nat} {pv1 : Value} {pG1 : List Nat} (ph0 : RSl (RI .i64) 1 Φ pG0 pv0 p0) (ph1 : RSl (RI .i64) 1 Φ pG1 pv1 p1) {r : Bool} (h : m_s_l11Same N p0 p1 = some r) :
    Calls Try.prog 79 [pv0, pv1].toArray w (Post (.bool r) w) := by
  refine enter Try.func79 rfl Try.ntmps79 rfl (St.start hΦ) ?_
  unfold m_s_l11Same at h
  refine WT.seq ?_
  refine WT.region ?_
  refine WL.q (q_assign rfl) rfl rfl rfl ?_
  refine WL.nil ?_
  refine WT.seq ?_
  refine WT.seq ?_
  refine WT.region ?_
  refine WL.q (q_move rfl) rfl rfl rfl ?_
  refine WL.q (q_lenR Sl_29 rfl rfl ph0) rfl rfl rfl ?_
  refine WL.q (q_move rfl) rfl rfl rfl ?_
  refine WL.q (q_lenR Sl_29 rfl rfl ph1) rfl rfl rfl ?_
  refine WL.q (q_neq rfl rfl) rfl rfl rfl ?_
  refine WL.nil ?_
  refine WT.cond rfl (fun c1 => ?_) (fun c1 => ?_)
  · replace h := ite_t h c1
    refine WT.seq ?_
    refine WT.region ?_
    refine WL.q (q_assign rfl) rfl rfl rfl ?_
    refine WL.nil ?_
    refine WT.ret Try.func79 (resOk.one rfl) (fun w1 hw => ?_)
    cases h
    exact post_of_St hw
  · replace h := ite_f h c1
    refine WT.skip ?_
    refine WT.seq ?_
    refine WT.seq ?_
    refine WT.region ?_
    refine WL.q (q_assign rfl) rfl rfl rfl ?_
    refine WL.nil ?_
    refine WT.block ?_
    refine WT.loop ?_
    refine WT.keep [(0, pv0), (1, pv1), (4, .bool false), (5, .int .i64 0)] ⟨rfl, rfl, rfl, rfl, trivial⟩ ?_
    refine loop_ind (σ := Int) (fun s => [(0, pv0), (1, pv1), (4, .bool false), (5, .int .i64 s)]) (fun s => St w Φ []) (fun m s => m_s_l11Same_l1 N p0 p1 m s = some r) (fun s hm => none_ne (show (none : Option (Bool)) = some r from hm)) (fun k1 ih1 s hm => ?_) N (0) h
    revert hm; revert s; intro s1 hm
    have h : m_s_l11Same_l1 N p0 p1 (k1 + 1) s1 = some r := hm
    show WT _ _ [(0, pv0), (1, pv1), (4, .bool false), (5, .int .i64 s1)] (St w Φ [])
    unfold m_s_l11Same_l1 at h
    refine WT.seq ?_
    refine WT.seq ?_
    refine WT.region ?_
    refine WL.q (q_move rfl) rfl rfl rfl ?_
    refine WL.q (q_move rfl) rfl rfl rfl ?_
    refine WL.q (q_lenR Sl_29 rfl rfl ph0) rfl rfl rfl ?_
    refine WL.q (q_lss rfl rfl) rfl rfl rfl ?_
    refine WL.nil ?_
    refine WT.cond rfl (fun c2 => ?_) (fun c2 => ?_)
    · replace h := ite_t h c2
      refine WT.skip ?_
      refine WT.seq ?_
      refine WT.block ?_
      refine WT.seq ?_
      refine WT.draw mixed (by kernel_rfl) (fun _ h => h.drew) ?_
      refine WQ.q (q_move rfl) rfl rfl rfl ?_
      refine WQ.q (q_move rfl) rfl rfl rfl ?_
      obtain ⟨x1, hx1, h⟩ := bind_some h
      obtain ⟨cs1, F1, -, g1, r1⟩ := ph0.el (idx_some hx1).2.2
      obtain ⟨rfl, -⟩ := r1
      refine WQ.q (q_indexAddr Sl_29 rfl rfl ph0 hx1) rfl rfl rfl ?_
      refine WQ.q (q_load1 T1_3 rfl (fun w1 hw => (g1.of_eq 0 1 rfl rfl : rg _ _ _ [.int .i64 x1]).rangeAt hw.fro)) rfl rfl rfl ?_
      refine WQ.q (q_move rfl) rfl rfl rfl ?_
      refine WQ.q (q_move rfl) rfl rfl rfl ?_
      obtain ⟨x2, hx2, h⟩ := bind_some h
      obtain ⟨cs2, F2, -, g2, r2⟩ := ph1.el (idx_some hx2).2.2
      obtain ⟨rfl, -⟩ := r2
      refine WQ.q (q_indexAddr Sl_29 rfl rfl ph1 hx2) rfl rfl rfl ?_
      refine WQ.q (q_load1 T1_3 rfl (fun w1 hw => (g2.of_eq 0 1 rfl rfl : rg _ _ _ [.int .i64 x2]).rangeAt hw.fro)) rfl rfl rfl ?_
      refine WQ.q (q_neq rfl rfl) rfl rfl rfl ?_
      refine WQ.nil ?_
      refine WT.cond rfl (fun c3 => ?_) (fun c3 => ?_)
      · replace h := ite_t h c3
        refine WT.seq ?_
        refine WT.region ?_
        refine WL.q (q_assign rfl) rfl rfl rfl ?_
        refine WL.nil ?_
        refine WT.ret Try.func79 (resOk.one rfl) (fun w1 hw => ?_)
        cases h
        exact post_of_St hw
      · replace h := ite_f h c3
        refine WT.skip ?_
        refine WT.inBlock ?_
        refine WT.region ?_
        refine WL.q (q_move rfl) rfl rfl rfl ?_
        refine WL.q (q_add rfl rfl) rfl rfl rfl ?_
        refine WL.q (q_assign rfl) rfl rfl rfl ?_
        refine WL.nil ?_
        refine WT.inLoop (WT.mono (l' := [(0, pv0), (1, pv1), (4, .bool false), (5, .int .i64 (IntKind.i64.wrap (s1 + 1)))]) (S' := St w Φ []) ⟨rfl, rfl, rfl, rfl, trivial⟩ (fun w1 hw => hw.drop 0) ?_)
        exact ih1 (IntKind.i64.wrap (s1 + 1)) h
    · replace h := ite_f h c2
      refine WT.exit rfl ?_
      refine WT.seq ?_
      refine WT.region ?_
      refine WL.q (q_assign rfl) rfl rfl rfl ?_
      refine WL.nil ?_
      refine WT.ret Try.func79 (resOk.one rfl) (fun w1 hw => ?_)
      cases h
      exact post_of_St hw
theorem m_s_SameMatch_ok {Φ : Hp} {w : World} (hΦ : In Φ w) (N : Nat) (p0 : TMatch) (p1 : TMatch) {pv0_0 : Value} {pG0_0 : List Nat} {pv0_1 : Value} {pG0_1 : List Nat} {pv1_0 : Value} {pG1_0 : List Nat} {pv1_1 : Value} {pG1_1 : List Nat} (ph0_0 : RSl (RI .i64) 1 Φ pG0_0 pv0_0 p0.Ids) (ph0_1 : RSl RTBind 4 Φ pG0_1 pv0_1 p0.Binds) (ph1_0 : RSl (RI .i64) 1 Φ pG1_0 pv1_0 p1.Ids) (ph1_1 : RSl RTBind 4 Φ pG1_1 pv1_1 p1.Binds) {r : Bool} (h : m_s_SameMatch N p0 p1 = some r) :
    Calls Try.prog 30 [.agg [.int .i64 p0.Rule, pv0_0, pv0_1].toArray, .agg [.int .i64 p1.Rule, pv1_0, pv1_1].toArray].toArray w (Post (.bool r) w) := by
  refine enter Try.func30 rfl Try.ntmps30 rfl (St.start hΦ) ?_
  unfold m_s_SameMatch at h
  refine WT.seq ?_
  refine WT.region ?_
  refine WL.box (C := #[.int .i64 p0.Rule, pv0_0, pv0_1]) rfl rfl rfl rfl rfl rfl (fun b_1 => ?_)
  refine WL.box (C := #[.int .i64 p1.Rule, pv1_0, pv1_1]) rfl rfl rfl rfl rfl rfl (fun b_2 => ?_)
  refine WL.q (q_assign rfl) rfl rfl rfl ?_
  refine WL.nil ?_
  refine WT.seq ?_
  refine WT.region ?_
  refine WL.q (q_fieldAddr Fld_32_0 rfl) rfl rfl rfl ?_
  refine WL.q (q_load1 T1_3 rfl (fun w1 hw => hw.rgL (i := 1) rfl 0 1 [.int .i64 p0.Rule] rfl)) rfl rfl rfl ?_
  refine WL.q (q_fieldAddr Fld_32_0 rfl) rfl rfl rfl ?_
  refine WL.q (q_load1 T1_3 rfl (fun w1 hw => hw.rgL (i := 0) rfl 0 1 [.int .i64 p1.Rule] rfl)) rfl rfl rfl ?_
  refine WL.q (q_eql rfl rfl) rfl rfl rfl ?_
  refine WL.q (q_move rfl) rfl rfl rfl ?_
  obtain ⟨b1, hb_1, h⟩ := bind_some h
  refine WL.cutN 6 [(16, .bool b1), (4, .bool false)] ?_ (fun K => ?_)
  rotate_left
  · refine WL.split (d := 10) rfl (fun c1 => ?_) (fun c1 => ?_)
    · replace hb_1 := ite_t hb_1 c1
      refine WL.yes rfl rfl ?_
      refine WL.q (q_fieldAddr Fld_32_1 rfl) rfl rfl rfl ?_
      refine WL.yes rfl rfl ?_
      refine WL.q (q_load1 T1_29 rfl (fun w1 hw => hw.rgL (i := 1) rfl 1 1 [pv0_0] rfl)) rfl rfl rfl ?_
      refine WL.yes rfl rfl ?_
      refine WL.q (q_fieldAddr Fld_32_1 rfl) rfl rfl rfl ?_
      refine WL.yes rfl rfl ?_
      refine WL.q (q_load1 T1_29 rfl (fun w1 hw => hw.rgL (i := 0) rfl 1 1 [pv1_0] rfl)) rfl rfl rfl ?_
      refine WL.yes rfl rfl ?_
      obtain ⟨x1, hx1, hb_1⟩ := bind_some hb_1
      refine WL.call (c_pure Fun_79 rfl (fun w1 hw => m_s_l11Same_ok hw.fro N p0.Ids p1.Ids ph0_0 ph1_0 hx1)) rfl rfl rfl (fun _ => ?_)
      refine WL.q (q_pick1 rfl rfl) rfl rfl rfl ?_
      cases hb_1
      exact WL.keep (by exact ⟨rfl, rfl, trivial⟩) K
    · replace hb_1 := ite_f hb_1 c1
      refine WL.no rfl rfl rfl rfl ?_
      refine WL.no rfl rfl rfl rfl ?_
      refine WL.no rfl rfl rfl rfl ?_
      refine WL.no rfl rfl rfl rfl ?_
      refine WL.no rfl rfl rfl rfl ?_
      refine WL.q (q_pick0 rfl rfl) rfl rfl rfl ?_
      cases hb_1
      exact WL.keep (by exact ⟨rfl, rfl, trivial⟩) K
  refine WL.q (q_assign rfl) rfl rfl rfl ?_
  refine WL.nil ?_
  refine WT.ret Try.func30 (resOk.one rfl) (fun w1 hw => ?_)
  cases h
  exact post_of_St hw
theorem m_s_FiredHas_ok {Φ : Hp} {w : World} (hΦ : In Φ w) (N : Nat) (p0 : (List TMatch)) (p1 : TMatch) {pv0 : Value} {pG0 : List Nat} {pv1_0 : Value} {pG1_0 : List Nat} {pv1_1 : Value} {pG1_1 : List Nat} (ph0 : RSl RTMatch 3 Φ pG0 pv0 p0) (ph1_0 : RSl (RI .i64) 1 Φ pG1_0 pv1_0 p1.Ids) (ph1_1 : RSl RTBind 4 Φ pG1_1 pv1_1 p1.Binds) {r : Bool} (h : m_s_FiredHas N p0 p1 = some r) :
    Calls Try.prog 39 [pv0, .agg [.int .i64 p1.Rule, pv1_0, pv1_1].toArray].toArray w (Post (.bool r) w) := by
  refine enter Try.func39 rfl Try.ntmps39 rfl (St.start hΦ) ?_
  unfold m_s_FiredHas at h
  refine WT.seq ?_
  refine WT.region ?_
  refine WL.box (C := #[.int .i64 p1.Rule, pv1_0, pv1_1]) rfl rfl rfl rfl rfl rfl (fun b_1 => ?_)
  refine WL.q (q_assign rfl) rfl rfl rfl ?_
  refine WL.nil ?_
  refine WT.seq ?_
  refine WT.seq ?_
  refine WT.region ?_
  refine WL.q (q_assign rfl) rfl rfl rfl ?_
  refine WL.nil ?_
  refine WT.block ?_
  refine WT.loop ?_
  refine WT.keep [(0, pv0), (3, .pointer (some ⟨b_1, 0, none⟩)), (4, .bool false), (5, .int .i64 0)] ⟨rfl, rfl, rfl, rfl, trivial⟩ ?_
  refine loop_ind (σ := Int) (fun s => [(0, pv0), (3, .pointer (some ⟨b_1, 0, none⟩)), (4, .bool false), (5, .int .i64 s)]) (fun s => St w Φ [Ent.obj b_1 (.cells #[.int .i64 p1.Rule, pv1_0, pv1_1] 32 (0, 0))]) (fun m s => m_s_FiredHas_l1 N p0 p1 m s = some r) (fun s hm => none_ne (show (none : Option (Bool)) = some r from hm)) (fun k1 ih1 s hm => ?_) N (0) h
  revert hm; revert s; intro s1 hm
  have h : m_s_FiredHas_l1 N p0 p1 (k1 + 1) s1 = some r := hm
  show WT _ _ [(0, pv0), (3, .pointer (some ⟨b_1, 0, none⟩)), (4, .bool false), (5, .int .i64 s1)] (St w Φ [Ent.obj b_1 (.cells #[.int .i64 p1.Rule, pv1_0, pv1_1] 32 (0, 0))])
  unfold m_s_FiredHas_l1 at h
  refine WT.seq ?_
  refine WT.seq ?_
  refine WT.region ?_
  refine WL.q (q_move rfl) rfl rfl rfl ?_
  refine WL.q (q_move rfl) rfl rfl rfl ?_
  refine WL.q (q_lenR Sl_24 rfl rfl ph0) rfl rfl rfl ?_
  refine WL.q (q_lss rfl rfl) rfl rfl rfl ?_
  refine WL.nil ?_
  refine WT.cond rfl (fun c1 => ?_) (fun c1 => ?_)
  · replace h := ite_t h c1
    refine WT.skip ?_
    refine WT.seq ?_
    refine WT.block ?_
    refine WT.seq ?_
    refine WT.draw mixed (by kernel_rfl) (fun _ h => h.drew) ?_
    refine WQ.q (q_move rfl) rfl rfl rfl ?_
    refine WQ.q (q_move rfl) rfl rfl rfl ?_
    obtain ⟨x1, hx1, h⟩ := bind_some h
    obtain ⟨cs1, F1, -, g1, r1⟩ := ph0.el (idx_some hx1).2.2
    obtain ⟨v1, G1, v2, G2, rfl, -, h1, h2⟩ := r1
    refine WQ.q (q_indexAddr Sl_24 rfl rfl ph0 hx1) rfl rfl rfl ?_
    refine WQ.q (q_loadN Tn_32 rfl (fun w1 hw => (g1.of_eq 0 3 rfl rfl : rg _ _ _ [.int .i64 x1.Rule, v1, v2]).rangeAt hw.fro) rfl) rfl rfl rfl ?_
    refine WQ.q (q_loadN Tn_32 rfl (fun w1 hw => hw.rgL (i := 0) rfl 0 3 [.int .i64 p1.Rule, pv1_0, pv1_1] rfl) rfl) rfl rfl rfl ?_
    obtain ⟨x2, hx2, h⟩ := bind_some h
    refine WQ.call (c_pure Fun_30 rfl (fun w1 hw => m_s_SameMatch_ok hw.fro N x1 p1 h1 h2 ph1_0 ph1_1 hx2)) rfl rfl rfl ?_
    refine WQ.nil ?_
    refine WT.cond rfl (fun c2 => ?_) (fun c2 => ?_)
    · replace h := ite_t h c2
      refine WT.seq ?_
      refine WT.region ?_
      refine WL.q (q_assign rfl) rfl rfl rfl ?_
      refine WL.nil ?_
      refine WT.ret Try.func39 (resOk.one rfl) (fun w1 hw => ?_)
      cases h
      exact post_of_St hw
    · replace h := ite_f h c2
      refine WT.skip ?_
      refine WT.inBlock ?_
      refine WT.region ?_
      refine WL.q (q_move rfl) rfl rfl rfl ?_
      refine WL.q (q_add rfl rfl) rfl rfl rfl ?_
      refine WL.q (q_assign rfl) rfl rfl rfl ?_
      refine WL.nil ?_
      refine WT.inLoop (WT.mono (l' := [(0, pv0), (3, .pointer (some ⟨b_1, 0, none⟩)), (4, .bool false), (5, .int .i64 (IntKind.i64.wrap (s1 + 1)))]) (S' := St w Φ [Ent.obj b_1 (.cells #[.int .i64 p1.Rule, pv1_0, pv1_1] 32 (0, 0))]) ⟨rfl, rfl, rfl, rfl, trivial⟩ (fun w1 hw => hw.drop 0) ?_)
      exact ih1 (IntKind.i64.wrap (s1 + 1)) h
  · replace h := ite_f h c1
    refine WT.exit rfl ?_
    refine WT.seq ?_
    refine WT.region ?_
    refine WL.q (q_assign rfl) rfl rfl rfl ?_
    refine WL.nil ?_
    refine WT.ret Try.func39 (resOk.one rfl) (fun w1 hw => ?_)
    cases h
    exact post_of_St hw
theorem m_l_toMatchS_ok {Φ : Hp} {w : World} (hΦ : In Φ w) (N : Nat) (p0 : (List TMatch)) {pv0 : Value} {pG0 : List Nat} (ph0 : RSl RTMatch 3 Φ pG0 pv0 p0) {r : (List TMatch)} (h : m_l_toMatchS N p0 = some r) :
    Calls Try.prog 40 [pv0].toArray w (PostL Φ w (fun Φ' F v => ∃ (s0 : Value) (F0 : List Nat), v = s0 ∧ F = F0 ∧ RSl RTMatch 3 Φ' F0 s0 r)) := by
  refine enter Try.func40 rfl Try.ntmps40 rfl (St.start hΦ) ?_
  unfold m_l_toMatchS at h
  have hle := Hle.refl Φ
  have hold : ∀ x, x < w.heap.size → Φ x = Φ x := fun _ _ => rfl
  refine WT.seq ?_
  refine WT.region ?_
  refine WL.q (q_assign rfl) rfl rfl rfl ?_
  refine WL.nil ?_
  refine WT.seq ?_
  refine WT.region ?_
  refine WL.q (q_move rfl) rfl rfl rfl ?_
  refine WL.q (q_lenR Sl_64 rfl rfl ph0) rfl rfl rfl ?_
  obtain ⟨x1, hx1, h⟩ := bind_some h
  refine WL.conv (S' := St w Φ (Ent.dat [] :: [])) (fun w1 hw => hw.addDat) ?_
  refine WL.make (R := RTMatch) rfl rfl rfl rfl Sl_24 Zr_32 By_32 rfl rfl rfl ⟨.slice none 0 0, [], .slice none 0 0, [], rfl, rfl, RSl.nil _ _ _, RSl.nil _ _ _⟩ rfl rfl hx1 (fun b_1 cl1 fs1 k1 q1 => ?_)
  refine WL.q (q_assign rfl) rfl rfl rfl ?_
  refine WL.nil ?_
  refine WT.seq ?_
  refine WT.seq ?_
  refine WT.region ?_
  refine WL.q (q_assign rfl) rfl rfl rfl ?_
  refine WL.nil ?_
  refine WT.block ?_
  refine WT.loop ?_
  refine WT.keep [(0, pv0), (2, .slice none 0 0), (3, (.slice (some ⟨b_1, 0, none⟩) x1.length x1.length)), (4, .int .i64 0)] ⟨rfl, rfl, rfl, rfl, trivial⟩ ?_
  refine loop_ind (σ := Hp × Int × (List TMatch) × Value × List Value × List (List Nat) × List Nat) (fun s => [(0, pv0), (2, .slice none 0 0), (3, s.2.2.2.1), (4, .int .i64 s.2.1)]) (fun s => St w s.1 [Ent.row 32 3 s.2.2.2.1 s.2.2.1.length s.2.2.2.2.1, Ent.dat s.2.2.2.2.2.2]) (fun m s => m_l_toMatchS_l1 N p0 m s.2.1 s.2.2.1 = some r ∧ (Hle Φ s.1) ∧ (Hle Φ s.1) ∧ (∀ x, x < w.heap.size → s.1 x = Φ x) ∧ (RC RTMatch 3 s.1 s.2.2.2.2.2.1 s.2.2.2.2.1 s.2.2.1) ∧ (SP s.2.2.2.2.2.1.flatten s.2.2.2.2.2.2)) (fun s hm => none_ne (show (none : Option ((List TMatch))) = some r from hm.1)) (fun k1 ih1 s hm => ?_) N (Φ, 0, x1, (.slice (some ⟨b_1, 0, none⟩) x1.length x1.length), cl1, fs1, []) ⟨h, hle, Hle.refl _, hold, k1, q1⟩
  obtain ⟨Φ_1, s1, s2, u1, cl2, fs2, D1⟩ := s
  obtain ⟨h, hle, hb1, hold, k2, q2⟩ := hm
  replace h : m_l_toMatchS_l1 N p0 (k1 + 1) s1 s2 = some r := h
  replace hle : Hle Φ Φ_1 := hle
  replace hb1 : Hle Φ Φ_1 := hb1
  replace hold : ∀ x, x < w.heap.size → Φ_1 x = Φ x := hold
  replace k2 : RC RTMatch 3 Φ_1 fs2 cl2 s2 := k2
  replace q2 : SP fs2.flatten D1 := q2
  show WT _ _ [(0, pv0), (2, .slice none 0 0), (3, u1), (4, .int .i64 s1)] (St w Φ_1 [Ent.row 32 3 u1 s2.length cl2, Ent.dat D1])
  unfold m_l_toMatchS_l1 at h
  replace ph0 := RSl.mono RTMatch.mono hb1 ph0
  refine WT.seq ?_
  refine WT.seq ?_
  refine WT.region ?_
  refine WL.q (q_move rfl) rfl rfl rfl ?_
  refine WL.q (q_move rfl) rfl rfl rfl ?_
  refine WL.q (q_lenR Sl_64 rfl rfl ph0) rfl rfl rfl ?_
  refine WL.q (q_lss rfl rfl) rfl rfl rfl ?_
  refine WL.nil ?_
  refine WT.cond rfl (fun c1 => ?_) (fun c1 => ?_)
  · replace h := ite_t h c1
    refine WT.skip ?_
    refine WT.seq ?_
    refine WT.block ?_
    refine WT.region ?_
    refine WL.q (q_move rfl) rfl rfl rfl ?_
    refine WL.q (q_move rfl) rfl rfl rfl ?_
    refine WL.q (q_move rfl) rfl rfl rfl ?_
    refine WL.q (q_move rfl) rfl rfl rfl ?_
    obtain ⟨x2, hx2, h⟩ := bind_some h
    obtain ⟨cs1, F1, -, g1, r1⟩ := ph0.el (idx_some hx2).2.2
    obtain ⟨v1, G1, v2, G2, rfl, -, h1, h2⟩ := r1
    refine WL.q (q_indexAddr Sl_64 rfl rfl ph0 hx2) rfl rfl rfl ?_
    refine WL.q (q_loadN Tn_51 rfl (fun w1 hw => (g1.of_eq 0 3 rfl rfl : rg _ _ _ [.int .i64 x2.Rule, v1, v2]).rangeAt hw.fro) rfl) rfl rfl rfl ?_
    obtain ⟨x3, hx3, h⟩ := bind_some h
    refine WL.callL rfl rfl rfl rfl Fun_31 rfl (fun w1 hw => m_l_toMatch_ok hw.fro N x2 h1 h2 hx3) (fun v3 Φ_2 D2 le1 ho1 qq1 => ?_)
    replace ph0 := RSl.mono RTMatch.mono le1 ph0
    replace g1 := g1.mono le1
    replace h1 := RSl.mono RI.mono le1 h1
    replace h2 := RSl.mono RTBind.mono le1 h2
    replace k2 := RC.mono RTMatch.mono le1 k2
    replace hle := hle.trans le1
    replace hb1 := hb1.trans le1
    replace hold : ∀ x, x < w.heap.size → Φ_2 x = Φ x := fun x hx => (ho1 x hx).trans (hold x hx)
    obtain ⟨cs2, G3, rfl, rfl, h3⟩ := qq1
    obtain ⟨v4, G4, v5, G5, rfl, rfl, h4, h5⟩ := h3
    obtain ⟨x4, hx4, h⟩ := bind_some h
    refine WL.q (q_indexAddrRow Sl_24 rfl rfl (j := 1) rfl hx4) rfl rfl rfl ?_
    refine WL.storeRow (j := 1) (cs := [.int .i64 x3.Rule, v4, v5]) (x' := x3) (F := (G4 ++ G5)) rfl rfl rfl Sz_32 rfl rfl rfl (idx_lt hx4) rfl rfl ⟨rfl, RSl.one h4, RSl.one h5, trivial⟩ k2 ⟨v4, G4, v5, G5, rfl, rfl, h4, h5⟩ (fun cl3 k3 => ?_)
    refine WL.conv (fun w1 hw => hw.merge (i := 1) rfl) ?_
    have q3 := SP.set (F := (G4 ++ G5)) q2 (s1.toNat)
    refine WL.nil ?_
    refine WT.inBlock ?_
    refine WT.region ?_
    refine WL.q (q_move rfl) rfl rfl rfl ?_
    refine WL.q (q_add rfl rfl) rfl rfl rfl ?_
    refine WL.q (q_assign rfl) rfl rfl rfl ?_
    refine WL.nil ?_
    refine WT.inLoop (WT.mono (l' := [(0, pv0), (2, .slice none 0 0), (3, u1), (4, .int .i64 (IntKind.i64.wrap (s1 + 1)))]) (S' := St w Φ_2 [Ent.row 32 3 u1 (s2.set s1.toNat x3).length cl3, Ent.dat (D1 ++ (G4 ++ G5))]) ⟨rfl, rfl, rfl, rfl, trivial⟩ (fun w1 hw => hw.drop 0) ?_)
    exact ih1 (Φ_2, IntKind.i64.wrap (s1 + 1), (s2.set s1.toNat x3), u1, cl3, (fs2.set s1.toNat (G4 ++ G5)), (D1 ++ (G4 ++ G5))) ⟨h, hle, hb1, hold, k3, q3⟩
  · replace h := ite_f h c1
    refine WT.exit rfl ?_
    refine WT.seq ?_
    refine WT.region ?_
    refine WL.q (q_move rfl) rfl rfl rfl ?_
    refine WL.q (q_assign rfl) rfl rfl rfl ?_
    refine WL.nil ?_
    refine WT.ret Try.func40 (resOk.one rfl) (fun w1 hw => ?_)
    cases h
    obtain ⟨Φ_3, le2, ho2, hw, k4⟩ := hw.freezeRow RTMatch.mono (i := 0) rfl k2
    replace ph0 := RSl.mono RTMatch.mono le2 ph0
    replace k2 := RC.mono RTMatch.mono le2 k2
    replace hle := hle.trans le2
    replace hb1 := hb1.trans le2
    replace hold : ∀ x, x < w.heap.size → Φ_3 x = Φ x := fun x hx => (ho2 x hx).trans (hold x hx)
    replace hw := hw.front (i := 1) rfl
    replace hw := hw.front (i := 1) rfl
    replace hw : St w Φ_3 [Ent.dat u1.ownBlock.toList, Ent.dat D1] w1 := hw
    refine postL_of_St (F := (u1.ownBlock.toList ++ fs2.flatten)) hw hle hold ?_ ⟨u1, (u1.ownBlock.toList ++ fs2.flatten), rfl, rfl, k4⟩
    have hfin := ((SP.append (SP.refl u1.ownBlock.toList) q2)).trans (SP.left _ (blksOf []))
    simpa only [blksOf, List.flatMap_cons, Ent.dat, List.append_assoc, List.nil_append, List.append_nil] using hfin
theorem m_l_eqMatchS_ok {Φ : Hp} {w : World} (hΦ : In Φ w) (N : Nat) (p0 : (List TMatch)) (p1 : (List TMatch)) {pv0 : Value} {pG0 : List Nat} {pv1 : Value} {pG1 : List Nat} (ph0 : RSl RTMatch 3 Φ pG0 pv0 p0) (ph1 : RSl RTMatch 3 Φ pG1 pv1 p1) {r : Bool} (h : m_l_eqMatchS N p0 p1 = some r) :
    Calls Try.prog 41 [pv0, pv1].toArray w (Post (.bool r) w) := by
  refine enter Try.func41 rfl Try.ntmps41 rfl (St.start hΦ) ?_
  unfold m_l_eqMatchS at h
  refine WT.seq ?_
  refine WT.region ?_
  refine WL.q (q_assign rfl) rfl rfl rfl ?_
  refine WL.nil ?_
  refine WT.seq ?_
  refine WT.seq ?_
  refine WT.region ?_
  refine WL.q (q_move rfl) rfl rfl rfl ?_
  refine WL.q (q_lenR Sl_24 rfl rfl ph0) rfl rfl rfl ?_
  refine WL.q (q_move rfl) rfl rfl rfl ?_
  refine WL.q (q_lenR Sl_24 rfl rfl ph1) rfl rfl rfl ?_
  refine WL.q (q_neq rfl rfl) rfl rfl rfl ?_
  refine WL.nil ?_
  refine WT.cond rfl (fun c1 => ?_) (fun c1 => ?_)
  · replace h := ite_t h c1
    refine WT.seq ?_
    refine WT.region ?_
    refine WL.q (q_assign rfl) rfl rfl rfl ?_
    refine WL.nil ?_
    refine WT.ret Try.func41 (resOk.one rfl) (fun w1 hw => ?_)
    cases h
    exact post_of_St hw
  · replace h := ite_f h c1
    refine WT.skip ?_
    refine WT.seq ?_
    refine WT.seq ?_
    refine WT.region ?_
    refine WL.q (q_assign rfl) rfl rfl rfl ?_
    refine WL.nil ?_
    refine WT.block ?_
    refine WT.loop ?_
    refine WT.keep [(0, pv0), (1, pv1), (4, .bool false), (5, .int .i64 0)] ⟨rfl, rfl, rfl, rfl, trivial⟩ ?_
    refine loop_ind (σ := Int) (fun s => [(0, pv0), (1, pv1), (4, .bool false), (5, .int .i64 s)]) (fun s => St w Φ []) (fun m s => m_l_eqMatchS_l1 N p0 p1 m s = some r) (fun s hm => none_ne (show (none : Option (Bool)) = some r from hm)) (fun k1 ih1 s hm => ?_) N (0) h
    revert hm; revert s; intro s1 hm
    have h : m_l_eqMatchS_l1 N p0 p1 (k1 + 1) s1 = some r := hm
    show WT _ _ [(0, pv0), (1, pv1), (4, .bool false), (5, .int .i64 s1)] (St w Φ [])
    unfold m_l_eqMatchS_l1 at h
    refine WT.seq ?_
    refine WT.seq ?_
    refine WT.region ?_
    refine WL.q (q_move rfl) rfl rfl rfl ?_
    refine WL.q (q_move rfl) rfl rfl rfl ?_
    refine WL.q (q_lenR Sl_24 rfl rfl ph0) rfl rfl rfl ?_
    refine WL.q (q_lss rfl rfl) rfl rfl rfl ?_
    refine WL.nil ?_
    refine WT.cond rfl (fun c2 => ?_) (fun c2 => ?_)
    · replace h := ite_t h c2
      refine WT.skip ?_
      refine WT.seq ?_
      refine WT.block ?_
      refine WT.seq ?_
      refine WT.draw mixed (by kernel_rfl) (fun _ h => h.drew) ?_
      refine WQ.q (q_move rfl) rfl rfl rfl ?_
      refine WQ.q (q_move rfl) rfl rfl rfl ?_
      obtain ⟨x1, hx1, h⟩ := bind_some h
      obtain ⟨cs1, F1, -, g1, r1⟩ := ph0.el (idx_some hx1).2.2
      obtain ⟨v1, G1, v2, G2, rfl, -, h1, h2⟩ := r1
      refine WQ.q (q_indexAddr Sl_24 rfl rfl ph0 hx1) rfl rfl rfl ?_
      refine WQ.q (q_loadN Tn_32 rfl (fun w1 hw => (g1.of_eq 0 3 rfl rfl : rg _ _ _ [.int .i64 x1.Rule, v1, v2]).rangeAt hw.fro) rfl) rfl rfl rfl ?_
      refine WQ.q (q_move rfl) rfl rfl rfl ?_
      refine WQ.q (q_move rfl) rfl rfl rfl ?_
      obtain ⟨x2, hx2, h⟩ := bind_some h
      obtain ⟨cs2, F2, -, g2, r2⟩ := ph1.el (idx_some hx2).2.2
      obtain ⟨v3, G3, v4, G4, rfl, -, h3, h4⟩ := r2
      refine WQ.q (q_indexAddr Sl_24 rfl rfl ph1 hx2) rfl rfl rfl ?_
      refine WQ.q (q_loadN Tn_32 rfl (fun w1 hw => (g2.of_eq 0 3 rfl rfl : rg _ _ _ [.int .i64 x2.Rule, v3, v4]).rangeAt hw.fro) rfl) rfl rfl rfl ?_
      obtain ⟨x3, hx3, h⟩ := bind_some h
      refine WQ.call (c_pure Fun_32 rfl (fun w1 hw => m_l_eqMatch_ok hw.fro N x1 x2 h1 h2 h3 h4 hx3)) rfl rfl rfl ?_
      refine WQ.q (q_not rfl) rfl rfl rfl ?_
      refine WQ.nil ?_
      refine WT.cond rfl (fun c3 => ?_) (fun c3 => ?_)
      · replace h := ite_t h c3
        refine WT.seq ?_
        refine WT.region ?_
        refine WL.q (q_assign rfl) rfl rfl rfl ?_
        refine WL.nil ?_
        refine WT.ret Try.func41 (resOk.one rfl) (fun w1 hw => ?_)
        cases h
        exact post_of_St hw
      · replace h := ite_f h c3
        refine WT.skip ?_
        refine WT.inBlock ?_
        refine WT.region ?_
        refine WL.q (q_move rfl) rfl rfl rfl ?_
        refine WL.q (q_add rfl rfl) rfl rfl rfl ?_
        refine WL.q (q_assign rfl) rfl rfl rfl ?_
        refine WL.nil ?_
        refine WT.inLoop (WT.mono (l' := [(0, pv0), (1, pv1), (4, .bool false), (5, .int .i64 (IntKind.i64.wrap (s1 + 1)))]) (S' := St w Φ []) ⟨rfl, rfl, rfl, rfl, trivial⟩ (fun w1 hw => hw.drop 0) ?_)
        exact ih1 (IntKind.i64.wrap (s1 + 1)) h
    · replace h := ite_f h c2
      refine WT.exit rfl ?_
      refine WT.seq ?_
      refine WT.region ?_
      refine WL.q (q_assign rfl) rfl rfl rfl ?_
      refine WL.nil ?_
      refine WT.ret Try.func41 (resOk.one rfl) (fun w1 hw => ?_)
      cases h
      exact post_of_St hw
theorem m_l_FnExactFiredHas_ok {Φ : Hp} {w : World} (hΦ : In Φ w) (N : Nat) (p0 : (List TMatch)) (p1 : TMatch) {pv0 : Value} {pG0 : List Nat} {pv1_0 : Value} {pG1_0 : List Nat} {pv1_1 : Value} {pG1_1 : List Nat} (ph0 : RSl RTMatch 3 Φ pG0 pv0 p0) (ph1_0 : RSl (RI .i64) 1 Φ pG1_0 pv1_0 p1.Ids) (ph1_1 : RSl RTBind 4 Φ pG1_1 pv1_1 p1.Binds) {r : Bool} (h : m_l_FnExactFiredHas N p0 p1 = some r) :
    Calls Try.prog 9 [pv0, .agg [.int .i64 p1.Rule, pv1_0, pv1_1].toArray].toArray w (Post (.bool r) w) := by
  refine enter Try.func9 rfl Try.ntmps9 rfl (St.start hΦ) ?_
  unfold m_l_FnExactFiredHas at h
  have hle := Hle.refl Φ
  refine WT.seq ?_
  refine WT.region ?_
  refine WL.box (C := #[.int .i64 p1.Rule, pv1_0, pv1_1]) rfl rfl rfl rfl rfl rfl (fun b_1 => ?_)
  refine WL.q (q_assign rfl) rfl rfl rfl ?_
  refine WL.nil ?_
  refine WT.seq ?_
  refine WT.region ?_
  refine WL.q (q_assign rfl) rfl rfl rfl ?_
  refine WL.nil ?_
  refine WT.seq ?_
  refine WT.region ?_
  refine WL.q (q_move rfl) rfl rfl rfl ?_
  refine WL.q (q_move rfl) rfl rfl rfl ?_
  obtain ⟨x1, hx1, h⟩ := bind_some h
  refine WL.call (c_pure Fun_38 rfl (fun w1 hw => m_l_szMatchS_ok hw.fro N p0 1048576 ph0 hx1)) rfl rfl rfl (fun _ => ?_)
  refine WL.q (q_assign rfl) rfl rfl rfl ?_
  refine WL.nil ?_
  refine WT.seq ?_
  refine WT.seq ?_
  refine WT.region ?_
  refine WL.q (q_move rfl) rfl rfl rfl ?_
  refine WL.q (q_lss rfl rfl) rfl rfl rfl ?_
  refine WL.nil ?_
  refine WT.cond rfl (fun c1 => ?_) (fun c1 => ?_)
  · replace h := ite_t h c1
    refine WT.seq ?_
    refine WT.region ?_
    refine WL.q (q_assign rfl) rfl rfl rfl ?_
    refine WL.nil ?_
    refine WT.ret Try.func9 (resOk.one rfl) (fun w1 hw => ?_)
    cases h
    exact post_of_St hw
  · replace h := ite_f h c1
    refine WT.skip ?_
    refine WT.seq ?_
    refine WT.region ?_
    refine WL.q (q_loadN Tn_51 rfl (fun w1 hw => hw.rgL (i := 0) rfl 0 3 [.int .i64 p1.Rule, pv1_0, pv1_1] rfl) rfl) rfl rfl rfl ?_
    refine WL.q (q_move rfl) rfl rfl rfl ?_
    obtain ⟨x2, hx2, h⟩ := bind_some h
    refine WL.call (c_pure Fun_29 rfl (fun w1 hw => m_l_szMatch_ok hw.fro N p1 x1 ph1_0 ph1_1 hx2)) rfl rfl rfl (fun _ => ?_)
    refine WL.q (q_assign rfl) rfl rfl rfl ?_
    refine WL.nil ?_
    refine WT.seq ?_
    refine WT.seq ?_
    refine WT.region ?_
    refine WL.q (q_move rfl) rfl rfl rfl ?_
    refine WL.q (q_lss rfl rfl) rfl rfl rfl ?_
    refine WL.nil ?_
    refine WT.cond rfl (fun c2 => ?_) (fun c2 => ?_)
    · replace h := ite_t h c2
      refine WT.seq ?_
      refine WT.region ?_
      refine WL.q (q_assign rfl) rfl rfl rfl ?_
      refine WL.nil ?_
      refine WT.ret Try.func9 (resOk.one rfl) (fun w1 hw => ?_)
      cases h
      exact post_of_St hw
    · replace h := ite_f h c2
      refine WT.skip ?_
      refine WT.seq ?_
      refine WT.mix (Kn Φ [Ent.obj b_1 (.cells #[.int .i64 p1.Rule, pv1_0, pv1_1] 51 (0, 0))]) (fun _ => true) mixed (fun _ h => h.drew) ?_
      refine WM.q 0 rfl (by kernel_rfl) (fun w1 hw => Kn.of_St (Hle.refl _) (AllIn.mem ⟨List.mem_of_getElem? (i := 0) rfl, trivial⟩) hw) (q_move rfl) rfl rfl rfl ?_
      refine WM.q 2 rfl (by kernel_rfl) (fun w1 hw => Kn.of_St (Hle.refl _) (AllIn.mem ⟨List.mem_of_getElem? (i := 0) rfl, trivial⟩) hw) (q_loadN Tn_51 rfl (fun w1 hw => hw.rgL (i := 0) rfl 0 3 [.int .i64 p1.Rule, pv1_0, pv1_1] rfl) rfl) rfl rfl rfl ?_
      obtain ⟨x3, hx3, h⟩ := bind_some h
      refine WM.callL 1 rfl (by kernel_rfl) rfl rfl rfl rfl Fun_40 rfl (fun Φx F w1 hlx hw => Kn.of_St (Hle.trans (Hle.refl _) hlx) (AllIn.mem ⟨List.mem_of_getElem? (i := 1) rfl, trivial⟩) hw) (fun w1 hw => m_l_toMatchS_ok hw.fro N p0 ph0 hx3) (fun v1 Φ_1 D1 le1 ho1 qq1 => ?_)
      replace ph0 := RSl.mono RTMatch.mono le1 ph0
      replace ph1_0 := RSl.mono RI.mono le1 ph1_0
      replace ph1_1 := RSl.mono RTBind.mono le1 ph1_1
      replace hle := hle.trans le1
      obtain ⟨v2, G1, rfl, rfl, h1⟩ := qq1
      obtain ⟨x4, hx4, h⟩ := bind_some h
      refine WM.callL 3 rfl (by kernel_rfl) rfl rfl rfl rfl Fun_31 rfl (fun Φx F w1 hlx hw => Kn.of_St (Hle.trans (Hle.trans (Hle.refl _) le1) hlx) (AllIn.mem ⟨List.mem_of_getElem? (i := 2) rfl, trivial⟩) hw) (fun w1 hw => m_l_toMatch_ok hw.fro N p1 ph1_0 ph1_1 hx4) (fun v3 Φ_2 D2 le2 ho2 qq2 => ?_)
      replace ph0 := RSl.mono RTMatch.mono le2 ph0
      replace ph1_0 := RSl.mono RI.mono le2 ph1_0
      replace ph1_1 := RSl.mono RTBind.mono le2 ph1_1
      replace h1 := RSl.mono RTMatch.mono le2 h1
      replace hle := hle.trans le2
      obtain ⟨cs1, G2, rfl, rfl, h2⟩ := qq2
      obtain ⟨v4, G3, v5, G4, rfl, rfl, h3, h4⟩ := h2
      obtain ⟨x5, hx5, h⟩ := bind_some h
      refine WM.call 4 rfl (by kernel_rfl) (fun _ _ w1 hw => Kn.of_St (Hle.trans (Hle.trans (Hle.refl _) le1) le2) (AllIn.mem ⟨List.mem_of_getElem? (i := 2) rfl, trivial⟩) hw) (c_pure Fun_39 rfl (fun w1 hw => m_s_FiredHas_ok hw.fro N x3 x4 h1 h3 h4 hx5)) rfl rfl rfl (fun _ => ?_)
      refine WM.q 5 rfl (by kernel_rfl) (fun w1 hw => Kn.of_St (Hle.trans (Hle.trans (Hle.refl _) le1) le2) (AllIn.mem ⟨List.mem_of_getElem? (i := 2) rfl, trivial⟩) hw) (q_assign rfl) rfl rfl rfl ?_
      refine WM.nil (by kernel_rfl) ?_
      refine WT.seq ?_
      refine WT.region ?_
      refine WL.q (q_move rfl) rfl rfl rfl ?_
      obtain ⟨x6, hx6, h⟩ := bind_some h
      refine WL.callL rfl rfl rfl rfl Fun_40 rfl (fun w1 hw => m_l_toMatchS_ok hw.fro N p0 ph0 hx6) (fun v6 Φ_3 D3 le3 ho3 qq3 => ?_)
      replace ph0 := RSl.mono RTMatch.mono le3 ph0
      replace ph1_0 := RSl.mono RI.mono le3 ph1_0
      replace ph1_1 := RSl.mono RTBind.mono le3 ph1_1
      replace h1 := RSl.mono RTMatch.mono le3 h1
      replace h3 := RSl.mono RI.mono le3 h3
      replace h4 := RSl.mono RTBind.mono le3 h4
      replace hle := hle.trans le3
      obtain ⟨v7, G5, rfl, rfl, h5⟩ := qq3
      refine WL.q (q_assign rfl) rfl rfl rfl ?_
      refine WL.nil ?_
      refine WT.seq ?_
      refine WT.region ?_
      refine WL.q (q_loadN Tn_51 rfl (fun w1 hw => hw.rgL (i := 3) rfl 0 3 [.int .i64 p1.Rule, pv1_0, pv1_1] rfl) rfl) rfl rfl rfl ?_
      obtain ⟨x7, hx7, h⟩ := bind_some h
      refine WL.callL rfl rfl rfl rfl Fun_31 rfl (fun w1 hw => m_l_toMatch_ok hw.fro N p1 ph1_0 ph1_1 hx7) (fun v8 Φ_4 D4 le4 ho4 qq4 => ?_)
      replace ph0 := RSl.mono RTMatch.mono le4 ph0
      replace ph1_0 := RSl.mono RI.mono le4 ph1_0
      replace ph1_1 := RSl.mono RTBind.mono le4 ph1_1
      replace h1 := RSl.mono RTMatch.mono le4 h1
      replace h3 := RSl.mono RI.mono le4 h3
      replace h4 := RSl.mono RTBind.mono le4 h4
      replace h5 := RSl.mono RTMatch.mono le4 h5
      replace hle := hle.trans le4
      obtain ⟨cs2, G6, rfl, rfl, h6⟩ := qq4
      obtain ⟨v9, G7, v10, G8, rfl, rfl, h7, h8⟩ := h6
      refine WL.alloc (C := #[.int .i64 0, .slice none 0 0, .slice none 0 0]) rfl rfl rfl rfl Zr_32 rfl (fun b_2 => ?_)
      refine WL.store (i := 0) (vs := [.int .i64 x7.Rule, v9, v10]) (C' := [.int .i64 x7.Rule, v9, v10]) rfl rfl rfl Sz_32 rfl rfl rfl rfl rfl rfl ⟨rfl, RSl.one h7, RSl.one h8, trivial⟩ rfl ?_
      refine WL.nil ?_
      refine WT.seq ?_
      refine WT.region ?_
      refine WL.q (q_move rfl) rfl rfl rfl ?_
      refine WL.q (q_loadN Tn_32 rfl (fun w1 hw => hw.rgL (i := 0) rfl 0 3 [.int .i64 x7.Rule, v9, v10] rfl) rfl) rfl rfl rfl ?_
      obtain ⟨x8, hx8, h⟩ := bind_some h
      refine WL.call (c_pure Fun_20 rfl (fun w1 hw => m_i_FiredHas_ok hw.fro N x6 x7 h5 h7 h8 hx8)) rfl rfl rfl (fun _ => ?_)
      refine WL.q (q_assign rfl) rfl rfl rfl ?_
      refine WL.nil ?_
      refine WT.seq ?_
      refine WT.seq ?_
      refine WT.region ?_
      refine WL.q (q_move rfl) rfl rfl rfl ?_
      refine WL.q (q_move rfl) rfl rfl rfl ?_
      refine WL.q (q_bne Bo_4 rfl rfl) rfl rfl rfl ?_
      refine WL.nil ?_
      refine WT.cond rfl (fun c3 => ?_) (fun c3 => ?_)
      · replace h := ite_t h c3
        refine WT.seq ?_
        refine WT.region ?_
        refine WL.q (q_assign rfl) rfl rfl rfl ?_
        refine WL.nil ?_
        refine WT.ret Try.func9 (resOk.one rfl) (fun w1 hw => ?_)
        cases h
        exact post_of_St hw
      · replace h := ite_f h c3
        refine WT.skip ?_
        refine WT.seq ?_
        refine WT.seq ?_
        refine WT.region ?_
        refine WL.q (q_move rfl) rfl rfl rfl ?_
        refine WL.q (q_move rfl) rfl rfl rfl ?_
        obtain ⟨x9, hx9, h⟩ := bind_some h
        refine WL.callL rfl rfl rfl rfl Fun_40 rfl (fun w1 hw => m_l_toMatchS_ok hw.fro N p0 ph0 hx9) (fun v11 Φ_5 D5 le5 ho5 qq5 => ?_)
        replace ph0 := RSl.mono RTMatch.mono le5 ph0
        replace ph1_0 := RSl.mono RI.mono le5 ph1_0
        replace ph1_1 := RSl.mono RTBind.mono le5 ph1_1
        replace h1 := RSl.mono RTMatch.mono le5 h1
        replace h3 := RSl.mono RI.mono le5 h3
        replace h4 := RSl.mono RTBind.mono le5 h4
        replace h5 := RSl.mono RTMatch.mono le5 h5
        replace h7 := RSl.mono RI.mono le5 h7
        replace h8 := RSl.mono RTBind.mono le5 h8
        replace hle := hle.trans le5
        obtain ⟨v12, G9, rfl, rfl, h9⟩ := qq5
        obtain ⟨x10, hx10, h⟩ := bind_some h
        refine WL.call (c_pure Fun_41 rfl (fun w1 hw => m_l_eqMatchS_ok hw.fro N x6 x9 h5 h9 hx10)) rfl rfl rfl (fun _ => ?_)
        refine WL.q (q_not rfl) rfl rfl rfl ?_
        refine WL.nil ?_
        refine WT.cond rfl (fun c4 => ?_) (fun c4 => ?_)
        · replace h := ite_t h c4
          refine WT.seq ?_
          refine WT.region ?_
          refine WL.q (q_assign rfl) rfl rfl rfl ?_
          refine WL.nil ?_
          refine WT.ret Try.func9 (resOk.one rfl) (fun w1 hw => ?_)
          cases h
          exact post_of_St hw
        · replace h := ite_f h c4
          refine WT.skip ?_
          refine WT.seq ?_
          refine WT.seq ?_
          refine WT.mix (Kn Φ_5 [Ent.obj b_2 (.cells #[.int .i64 x7.Rule, v9, v10] 32 (0, 0)), Ent.obj b_1 (.cells #[.int .i64 p1.Rule, pv1_0, pv1_1] 51 (0, 0))]) (fun _ => true) mixed (fun _ h => h.drew) ?_
          refine WM.q 0 rfl (by kernel_rfl) (fun w1 hw => Kn.of_St (Hle.refl _) (AllIn.mem ⟨List.mem_of_getElem? (i := 1) rfl, List.mem_of_getElem? (i := 6) rfl, trivial⟩) hw) (q_loadN Tn_32 rfl (fun w1 hw => hw.rgL (i := 0) rfl 0 3 [.int .i64 x7.Rule, v9, v10] rfl) rfl) rfl rfl rfl ?_
          refine WM.q 1 rfl (by kernel_rfl) (fun w1 hw => Kn.of_St (Hle.refl _) (AllIn.mem ⟨List.mem_of_getElem? (i := 1) rfl, List.mem_of_getElem? (i := 6) rfl, trivial⟩) hw) (q_loadN Tn_51 rfl (fun w1 hw => hw.rgL (i := 1) rfl 0 3 [.int .i64 p1.Rule, pv1_0, pv1_1] rfl) rfl) rfl rfl rfl ?_
          obtain ⟨x11, hx11, h⟩ := bind_some h
          refine WM.callL 2 rfl (by kernel_rfl) rfl rfl rfl rfl Fun_31 rfl (fun Φx F w1 hlx hw => Kn.of_St (Hle.trans (Hle.refl _) hlx) (AllIn.mem ⟨List.mem_of_getElem? (i := 2) rfl, List.mem_of_getElem? (i := 7) rfl, trivial⟩) hw) (fun w1 hw => m_l_toMatch_ok hw.fro N p1 ph1_0 ph1_1 hx11) (fun v13 Φ_6 D6 le6 ho6 qq6 => ?_)
          replace ph0 := RSl.mono RTMatch.mono le6 ph0
          replace ph1_0 := RSl.mono RI.mono le6 ph1_0
          replace ph1_1 := RSl.mono RTBind.mono le6 ph1_1
          replace h1 := RSl.mono RTMatch.mono le6 h1
          replace h3 := RSl.mono RI.mono le6 h3
          replace h4 := RSl.mono RTBind.mono le6 h4
          replace h5 := RSl.mono RTMatch.mono le6 h5
          replace h7 := RSl.mono RI.mono le6 h7
          replace h8 := RSl.mono RTBind.mono le6 h8
          replace h9 := RSl.mono RTMatch.mono le6 h9
          replace hle := hle.trans le6
          obtain ⟨cs3, G10, rfl, rfl, h10⟩ := qq6
          obtain ⟨v14, G11, v15, G12, rfl, rfl, h11, h12⟩ := h10
          obtain ⟨x12, hx12, h⟩ := bind_some h
          refine WM.call 3 rfl (by kernel_rfl) (fun _ _ w1 hw => Kn.of_St (Hle.trans (Hle.refl _) le6) (AllIn.mem ⟨List.mem_of_getElem? (i := 2) rfl, List.mem_of_getElem? (i := 7) rfl, trivial⟩) hw) (c_pure Fun_32 rfl (fun w1 hw => m_l_eqMatch_ok hw.fro N x7 x11 h7 h8 h11 h12 hx12)) rfl rfl rfl (fun _ => ?_)
          refine WM.q 4 rfl (by kernel_rfl) (fun w1 hw => Kn.of_St (Hle.trans (Hle.refl _) le6) (AllIn.mem ⟨List.mem_of_getElem? (i := 2) rfl, List.mem_of_getElem? (i := 7) rfl, trivial⟩) hw) (q_not rfl) rfl rfl rfl ?_
          refine WM.nil (by kernel_rfl) ?_
          refine WT.cond rfl (fun c5 => ?_) (fun c5 => ?_)
          · replace h := ite_t h c5
            refine WT.seq ?_
            refine WT.region ?_
            refine WL.q (q_assign rfl) rfl rfl rfl ?_
            refine WL.nil ?_
            refine WT.ret Try.func9 (resOk.one rfl) (fun w1 hw => ?_)
            cases h
            exact post_of_St hw
          · replace h := ite_f h c5
            refine WT.skip ?_
            refine WT.seq ?_
            refine WT.region ?_
            refine WL.q (q_assign rfl) rfl rfl rfl ?_
            refine WL.nil ?_
            refine WT.ret Try.func9 (resOk.one rfl) (fun w1 hw => ?_)
            cases h
            exact post_of_St hw
end Go.Proofs.Ytpajhchhkfnieaa
