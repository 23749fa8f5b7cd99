/- Printed by a program of ours: each Go function computes its Lean function. -/
import Derived.Test.YtpajhchhkfnieaaProg
import Derived.Test.YtpajhchhkfnieaaPAWalk2
namespace Go.Proofs.Ytpajhchhkfnieaa
open Eng
open Go.RowKit (Below)
set_option linter.unusedVariables false
set_option linter.unusedSimpArgs false

set_option maxRecDepth 100000
set_option maxHeartbeats 1000000
theorem m_l_FnExactSameMatch_ok {Φ : Hp} {w : World} (hΦ : In Φ w) (N : Nat) (p0 : TMatch) (p1 : TMatch) {pv0_0 : Value} {pG0_0 : List Nat} {pv0_1 : Value} {pG0_1 : List Nat} {pv1_0 : Value} {pG1_0 : List Nat} {pv1_1 : Value} {pG1_1 : List Nat} (ph0_0 : RSl (RI .i64) 1 Φ pG0_0 pv0_0 p0.Ids) (ph0_1 : RSl RTBind 4 Φ pG0_1 pv0_1 p0.Binds) (ph1_0 : RSl (RI .i64) 1 Φ pG1_0 pv1_0 p1.Ids) (ph1_1 : RSl RTBind 4 Φ pG1_1 pv1_1 p1.Binds) {r : Bool} (h : m_l_FnExactSameMatch N p0 p1 = some r) :
    Calls Try.prog 6 [.agg [.int .i64 p0.Rule, pv0_0, pv0_1].toArray, .agg [.int .i64 p1.Rule, pv1_0, pv1_1].toArray].toArray w (Post (.bool r) w) := by
  refine enter Try.func6 rfl Try.ntmps6 rfl (St.start hΦ) ?_
  unfold m_l_FnExactSameMatch at h
  have hle := Hle.refl Φ
  refine WT.seq ?_
  refine WT.region ?_
  refine WL.box (C := #[.int .i64 p0.Rule, pv0_0, pv0_1]) rfl rfl rfl rfl rfl rfl (fun b_1 => ?_)
  refine WL.box (C := #[.int .i64 p1.Rule, pv1_0, pv1_1]) rfl rfl rfl rfl rfl rfl (fun b_2 => ?_)
  refine WL.q (q_assign rfl) rfl rfl rfl ?_
  refine WL.nil ?_
  refine WT.seq ?_
  refine WT.region ?_
  refine WL.q (q_assign rfl) rfl rfl rfl ?_
  refine WL.nil ?_
  refine WT.seq ?_
  refine WT.region ?_
  refine WL.q (q_loadN Tn_51 rfl (fun w1 hw => hw.rgL (i := 1) rfl 0 3 [.int .i64 p0.Rule, pv0_0, pv0_1] rfl) rfl) rfl rfl rfl ?_
  refine WL.q (q_move rfl) rfl rfl rfl ?_
  obtain ⟨x1, hx1, h⟩ := bind_some h
  refine WL.call (c_pure Fun_29 rfl (fun w1 hw => m_l_szMatch_ok hw.fro N p0 1048576 ph0_0 ph0_1 hx1)) rfl rfl rfl (fun _ => ?_)
  refine WL.q (q_assign rfl) rfl rfl rfl ?_
  refine WL.nil ?_
  refine WT.seq ?_
  refine WT.seq ?_
  refine WT.region ?_
  refine WL.q (q_move rfl) rfl rfl rfl ?_
  refine WL.q (q_lss rfl rfl) rfl rfl rfl ?_
  refine WL.nil ?_
  refine WT.cond rfl (fun c1 => ?_) (fun c1 => ?_)
  · replace h := ite_t h c1
    refine WT.seq ?_
    refine WT.region ?_
    refine WL.q (q_assign rfl) rfl rfl rfl ?_
    refine WL.nil ?_
    refine WT.ret Try.func6 (resOk.one rfl) (fun w1 hw => ?_)
    cases h
    exact post_of_St hw
  · replace h := ite_f h c1
    refine WT.skip ?_
    refine WT.seq ?_
    refine WT.region ?_
    refine WL.q (q_loadN Tn_51 rfl (fun w1 hw => hw.rgL (i := 0) rfl 0 3 [.int .i64 p1.Rule, pv1_0, pv1_1] rfl) rfl) rfl rfl rfl ?_
    refine WL.q (q_move rfl) rfl rfl rfl ?_
    obtain ⟨x2, hx2, h⟩ := bind_some h
    refine WL.call (c_pure Fun_29 rfl (fun w1 hw => m_l_szMatch_ok hw.fro N p1 x1 ph1_0 ph1_1 hx2)) rfl rfl rfl (fun _ => ?_)
    refine WL.q (q_assign rfl) rfl rfl rfl ?_
    refine WL.nil ?_
    refine WT.seq ?_
    refine WT.seq ?_
    refine WT.region ?_
    refine WL.q (q_move rfl) rfl rfl rfl ?_
    refine WL.q (q_lss rfl rfl) rfl rfl rfl ?_
    refine WL.nil ?_
    refine WT.cond rfl (fun c2 => ?_) (fun c2 => ?_)
    · replace h := ite_t h c2
      refine WT.seq ?_
      refine WT.region ?_
      refine WL.q (q_assign rfl) rfl rfl rfl ?_
      refine WL.nil ?_
      refine WT.ret Try.func6 (resOk.one rfl) (fun w1 hw => ?_)
      cases h
      exact post_of_St hw
    · replace h := ite_f h c2
      refine WT.skip ?_
      refine WT.seq ?_
      refine WT.mix (Kn Φ [Ent.obj b_2 (.cells #[.int .i64 p1.Rule, pv1_0, pv1_1] 51 (0, 0)), Ent.obj b_1 (.cells #[.int .i64 p0.Rule, pv0_0, pv0_1] 51 (0, 0))]) (fun _ => true) mixed (fun _ h => h.drew) ?_
      refine WM.q 0 rfl (by kernel_rfl) (fun w1 hw => Kn.of_St (Hle.refl _) (AllIn.mem ⟨List.mem_of_getElem? (i := 0) rfl, List.mem_of_getElem? (i := 1) rfl, trivial⟩) hw) (q_loadN Tn_51 rfl (fun w1 hw => hw.rgL (i := 1) rfl 0 3 [.int .i64 p0.Rule, pv0_0, pv0_1] rfl) rfl) rfl rfl rfl ?_
      refine WM.q 2 rfl (by kernel_rfl) (fun w1 hw => Kn.of_St (Hle.refl _) (AllIn.mem ⟨List.mem_of_getElem? (i := 0) rfl, List.mem_of_getElem? (i := 1) rfl, trivial⟩) hw) (q_loadN Tn_51 rfl (fun w1 hw => hw.rgL (i := 0) rfl 0 3 [.int .i64 p1.Rule, pv1_0, pv1_1] rfl) rfl) rfl rfl rfl ?_
      obtain ⟨x3, hx3, h⟩ := bind_some h
      refine WM.callL 1 rfl (by kernel_rfl) rfl rfl rfl rfl Fun_31 rfl (fun Φx F w1 hlx hw => Kn.of_St (Hle.trans (Hle.refl _) hlx) (AllIn.mem ⟨List.mem_of_getElem? (i := 1) rfl, List.mem_of_getElem? (i := 2) rfl, trivial⟩) hw) (fun w1 hw => m_l_toMatch_ok hw.fro N p0 ph0_0 ph0_1 hx3) (fun v1 Φ_1 D1 le1 ho1 qq1 => ?_)
      replace ph0_0 := RSl.mono RI.mono le1 ph0_0
      replace ph0_1 := RSl.mono RTBind.mono le1 ph0_1
      replace ph1_0 := RSl.mono RI.mono le1 ph1_0
      replace ph1_1 := RSl.mono RTBind.mono le1 ph1_1
      replace hle := hle.trans le1
      obtain ⟨cs1, G1, rfl, rfl, h1⟩ := qq1
      obtain ⟨v2, G2, v3, G3, rfl, rfl, h2, h3⟩ := h1
      obtain ⟨x4, hx4, h⟩ := bind_some h
      refine WM.callL 3 rfl (by kernel_rfl) rfl rfl rfl rfl Fun_31 rfl (fun Φx F w1 hlx hw => Kn.of_St (Hle.trans (Hle.trans (Hle.refl _) le1) hlx) (AllIn.mem ⟨List.mem_of_getElem? (i := 2) rfl, List.mem_of_getElem? (i := 3) rfl, trivial⟩) hw) (fun w1 hw => m_l_toMatch_ok hw.fro N p1 ph1_0 ph1_1 hx4) (fun v4 Φ_2 D2 le2 ho2 qq2 => ?_)
      replace ph0_0 := RSl.mono RI.mono le2 ph0_0
      replace ph0_1 := RSl.mono RTBind.mono le2 ph0_1
      replace ph1_0 := RSl.mono RI.mono le2 ph1_0
      replace ph1_1 := RSl.mono RTBind.mono le2 ph1_1
      replace h2 := RSl.mono RI.mono le2 h2
      replace h3 := RSl.mono RTBind.mono le2 h3
      replace hle := hle.trans le2
      obtain ⟨cs2, G4, rfl, rfl, h4⟩ := qq2
      obtain ⟨v5, G5, v6, G6, rfl, rfl, h5, h6⟩ := h4
      obtain ⟨x5, hx5, h⟩ := bind_some h
      refine WM.call 4 rfl (by kernel_rfl) (fun _ _ w1 hw => Kn.of_St (Hle.trans (Hle.trans (Hle.refl _) le1) le2) (AllIn.mem ⟨List.mem_of_getElem? (i := 2) rfl, List.mem_of_getElem? (i := 3) rfl, trivial⟩) hw) (c_pure Fun_30 rfl (fun w1 hw => m_s_SameMatch_ok hw.fro N x3 x4 h2 h3 h5 h6 hx5)) rfl rfl rfl (fun _ => ?_)
      refine WM.q 5 rfl (by kernel_rfl) (fun w1 hw => Kn.of_St (Hle.trans (Hle.trans (Hle.refl _) le1) le2) (AllIn.mem ⟨List.mem_of_getElem? (i := 2) rfl, List.mem_of_getElem? (i := 3) rfl, trivial⟩) hw) (q_assign rfl) rfl rfl rfl ?_
      refine WM.nil (by kernel_rfl) ?_
      refine WT.seq ?_
      refine WT.region ?_
      refine WL.q (q_loadN Tn_51 rfl (fun w1 hw => hw.rgL (i := 3) rfl 0 3 [.int .i64 p0.Rule, pv0_0, pv0_1] rfl) rfl) rfl rfl rfl ?_
      obtain ⟨x6, hx6, h⟩ := bind_some h
      refine WL.callL rfl rfl rfl rfl Fun_31 rfl (fun w1 hw => m_l_toMatch_ok hw.fro N p0 ph0_0 ph0_1 hx6) (fun v7 Φ_3 D3 le3 ho3 qq3 => ?_)
      replace ph0_0 := RSl.mono RI.mono le3 ph0_0
      replace ph0_1 := RSl.mono RTBind.mono le3 ph0_1
      replace ph1_0 := RSl.mono RI.mono le3 ph1_0
      replace ph1_1 := RSl.mono RTBind.mono le3 ph1_1
      replace h2 := RSl.mono RI.mono le3 h2
      replace h3 := RSl.mono RTBind.mono le3 h3
      replace h5 := RSl.mono RI.mono le3 h5
      replace h6 := RSl.mono RTBind.mono le3 h6
      replace hle := hle.trans le3
      obtain ⟨cs3, G7, rfl, rfl, h7⟩ := qq3
      obtain ⟨v8, G8, v9, G9, rfl, rfl, h8, h9⟩ := h7
      refine WL.alloc (C := #[.int .i64 0, .slice none 0 0, .slice none 0 0]) rfl rfl rfl rfl Zr_32 rfl (fun b_3 => ?_)
      refine WL.store (i := 0) (vs := [.int .i64 x6.Rule, v8, v9]) (C' := [.int .i64 x6.Rule, v8, v9]) rfl rfl rfl Sz_32 rfl rfl rfl rfl rfl rfl ⟨rfl, RSl.one h8, RSl.one h9, trivial⟩ rfl ?_
      refine WL.nil ?_
      refine WT.seq ?_
      refine WT.region ?_
      refine WL.q (q_loadN Tn_51 rfl (fun w1 hw => hw.rgL (i := 4) rfl 0 3 [.int .i64 p1.Rule, pv1_0, pv1_1] rfl) rfl) rfl rfl rfl ?_
      obtain ⟨x7, hx7, h⟩ := bind_some h
      refine WL.callL rfl rfl rfl rfl Fun_31 rfl (fun w1 hw => m_l_toMatch_ok hw.fro N p1 ph1_0 ph1_1 hx7) (fun v10 Φ_4 D4 le4 ho4 qq4 => ?_)
      replace ph0_0 := RSl.mono RI.mono le4 ph0_0
      replace ph0_1 := RSl.mono RTBind.mono le4 ph0_1
      replace ph1_0 := RSl.mono RI.mono le4 ph1_0
      replace ph1_1 := RSl.mono RTBind.mono le4 ph1_1
      replace h2 := RSl.mono RI.mono le4 h2
      replace h3 := RSl.mono RTBind.mono le4 h3
      replace h5 := RSl.mono RI.mono le4 h5
      replace h6 := RSl.mono RTBind.mono le4 h6
      replace h8 := RSl.mono RI.mono le4 h8
      replace h9 := RSl.mono RTBind.mono le4 h9
      replace hle := hle.trans le4
      obtain ⟨cs4, G10, rfl, rfl, h10⟩ := qq4
      obtain ⟨v11, G11, v12, G12, rfl, rfl, h11, h12⟩ := h10
      refine WL.alloc (C := #[.int .i64 0, .slice none 0 0, .slice none 0 0]) rfl rfl rfl rfl Zr_32 rfl (fun b_4 => ?_)
      refine WL.store (i := 0) (vs := [.int .i64 x7.Rule, v11, v12]) (C' := [.int .i64 x7.Rule, v11, v12]) rfl rfl rfl Sz_32 rfl rfl rfl rfl rfl rfl ⟨rfl, RSl.one h11, RSl.one h12, trivial⟩ rfl ?_
      refine WL.nil ?_
      refine WT.seq ?_
      refine WT.region ?_
      refine WL.q (q_loadN Tn_32 rfl (fun w1 hw => hw.rgL (i := 2) rfl 0 3 [.int .i64 x6.Rule, v8, v9] rfl) rfl) rfl rfl rfl ?_
      refine WL.q (q_loadN Tn_32 rfl (fun w1 hw => hw.rgL (i := 0) rfl 0 3 [.int .i64 x7.Rule, v11, v12] rfl) rfl) rfl rfl rfl ?_
      obtain ⟨x8, hx8, h⟩ := bind_some h
      refine WL.call (c_pure Fun_18 rfl (fun w1 hw => m_i_SameMatch_ok hw.fro N x6 x7 h8 h9 h11 h12 hx8)) rfl rfl rfl (fun _ => ?_)
      refine WL.q (q_assign rfl) rfl rfl rfl ?_
      refine WL.nil ?_
      refine WT.seq ?_
      refine WT.seq ?_
      refine WT.region ?_
      refine WL.q (q_move rfl) rfl rfl rfl ?_
      refine WL.q (q_move rfl) rfl rfl rfl ?_
      refine WL.q (q_bne Bo_4 rfl rfl) rfl rfl rfl ?_
      refine WL.nil ?_
      refine WT.cond rfl (fun c3 => ?_) (fun c3 => ?_)
      · replace h := ite_t h c3
        refine WT.seq ?_
        refine WT.region ?_
        refine WL.q (q_assign rfl) rfl rfl rfl ?_
        refine WL.nil ?_
        refine WT.ret Try.func6 (resOk.one rfl) (fun w1 hw => ?_)
        cases h
        exact post_of_St hw
      · replace h := ite_f h c3
        refine WT.skip ?_
        refine WT.seq ?_
        refine WT.seq ?_
        refine WT.mix (Kn Φ_4 [Ent.obj b_4 (.cells #[.int .i64 x7.Rule, v11, v12] 32 (0, 0)), Ent.obj b_3 (.cells #[.int .i64 x6.Rule, v8, v9] 32 (0, 0)), Ent.obj b_2 (.cells #[.int .i64 p1.Rule, pv1_0, pv1_1] 51 (0, 0)), Ent.obj b_1 (.cells #[.int .i64 p0.Rule, pv0_0, pv0_1] 51 (0, 0))]) (fun _ => true) mixed (fun _ h => h.drew) ?_
        refine WM.q 0 rfl (by kernel_rfl) (fun w1 hw => Kn.of_St (Hle.refl _) (AllIn.mem ⟨List.mem_of_getElem? (i := 0) rfl, List.mem_of_getElem? (i := 2) rfl, List.mem_of_getElem? (i := 6) rfl, List.mem_of_getElem? (i := 7) rfl, trivial⟩) hw) (q_loadN Tn_32 rfl (fun w1 hw => hw.rgL (i := 1) rfl 0 3 [.int .i64 x6.Rule, v8, v9] rfl) rfl) rfl rfl rfl ?_
        refine WM.q 1 rfl (by kernel_rfl) (fun w1 hw => Kn.of_St (Hle.refl _) (AllIn.mem ⟨List.mem_of_getElem? (i := 0) rfl, List.mem_of_getElem? (i := 2) rfl, List.mem_of_getElem? (i := 6) rfl, List.mem_of_getElem? (i := 7) rfl, trivial⟩) hw) (q_loadN Tn_51 rfl (fun w1 hw => hw.rgL (i := 3) rfl 0 3 [.int .i64 p0.Rule, pv0_0, pv0_1] rfl) rfl) rfl rfl rfl ?_
        obtain ⟨x9, hx9, h⟩ := bind_some h
        refine WM.callL 2 rfl (by kernel_rfl) rfl rfl rfl rfl Fun_31 rfl (fun Φx F w1 hlx hw => Kn.of_St (Hle.trans (Hle.refl _) hlx) (AllIn.mem ⟨List.mem_of_getElem? (i := 1) rfl, List.mem_of_getElem? (i := 3) rfl, List.mem_of_getElem? (i := 7) rfl, List.mem_of_getElem? (i := 8) rfl, trivial⟩) hw) (fun w1 hw => m_l_toMatch_ok hw.fro N p0 ph0_0 ph0_1 hx9) (fun v13 Φ_5 D5 le5 ho5 qq5 => ?_)
        replace ph0_0 := RSl.mono RI.mono le5 ph0_0
        replace ph0_1 := RSl.mono RTBind.mono le5 ph0_1
        replace ph1_0 := RSl.mono RI.mono le5 ph1_0
        replace ph1_1 := RSl.mono RTBind.mono le5 ph1_1
        replace h2 := RSl.mono RI.mono le5 h2
        replace h3 := RSl.mono RTBind.mono le5 h3
        replace h5 := RSl.mono RI.mono le5 h5
        replace h6 := RSl.mono RTBind.mono le5 h6
        replace h8 := RSl.mono RI.mono le5 h8
        replace h9 := RSl.mono RTBind.mono le5 h9
        replace h11 := RSl.mono RI.mono le5 h11
        replace h12 := RSl.mono RTBind.mono le5 h12
        replace hle := hle.trans le5
        obtain ⟨cs5, G13, rfl, rfl, h13⟩ := qq5
        obtain ⟨v14, G14, v15, G15, rfl, rfl, h14, h15⟩ := h13
        obtain ⟨x10, hx10, h⟩ := bind_some h
        refine WM.call 3 rfl (by kernel_rfl) (fun _ _ w1 hw => Kn.of_St (Hle.trans (Hle.refl _) le5) (AllIn.mem ⟨List.mem_of_getElem? (i := 1) rfl, List.mem_of_getElem? (i := 3) rfl, List.mem_of_getElem? (i := 7) rfl, List.mem_of_getElem? (i := 8) rfl, trivial⟩) hw) (c_pure Fun_32 rfl (fun w1 hw => m_l_eqMatch_ok hw.fro N x6 x9 h8 h9 h14 h15 hx10)) rfl rfl rfl (fun _ => ?_)
        refine WM.q 4 rfl (by kernel_rfl) (fun w1 hw => Kn.of_St (Hle.trans (Hle.refl _) le5) (AllIn.mem ⟨List.mem_of_getElem? (i := 1) rfl, List.mem_of_getElem? (i := 3) rfl, List.mem_of_getElem? (i := 7) rfl, List.mem_of_getElem? (i := 8) rfl, trivial⟩) hw) (q_not rfl) rfl rfl rfl ?_
        refine WM.nil (by kernel_rfl) ?_
        refine WT.cond rfl (fun c4 => ?_) (fun c4 => ?_)
        · replace h := ite_t h c4
          refine WT.seq ?_
          refine WT.region ?_
          refine WL.q (q_assign rfl) rfl rfl rfl ?_
          refine WL.nil ?_
          refine WT.ret Try.func6 (resOk.one rfl) (fun w1 hw => ?_)
          cases h
          exact post_of_St hw
        · replace h := ite_f h c4
          refine WT.skip ?_
          refine WT.seq ?_
          refine WT.seq ?_
          refine WT.mix (Kn Φ_5 [Ent.obj b_4 (.cells #[.int .i64 x7.Rule, v11, v12] 32 (0, 0)), Ent.obj b_3 (.cells #[.int .i64 x6.Rule, v8, v9] 32 (0, 0)), Ent.obj b_2 (.cells #[.int .i64 p1.Rule, pv1_0, pv1_1] 51 (0, 0)), Ent.obj b_1 (.cells #[.int .i64 p0.Rule, pv0_0, pv0_1] 51 (0, 0))]) (fun _ => true) mixed (fun _ h => h.drew) ?_
          refine WM.q 0 rfl (by kernel_rfl) (fun w1 hw => Kn.of_St (Hle.refl _) (AllIn.mem ⟨List.mem_of_getElem? (i := 1) rfl, List.mem_of_getElem? (i := 3) rfl, List.mem_of_getElem? (i := 7) rfl, List.mem_of_getElem? (i := 8) rfl, trivial⟩) hw) (q_loadN Tn_32 rfl (fun w1 hw => hw.rgL (i := 0) rfl 0 3 [.int .i64 x7.Rule, v11, v12] rfl) rfl) rfl rfl rfl ?_
          refine WM.q 1 rfl (by kernel_rfl) (fun w1 hw => Kn.of_St (Hle.refl _) (AllIn.mem ⟨List.mem_of_getElem? (i := 1) rfl, List.mem_of_getElem? (i := 3) rfl, List.mem_of_getElem? (i := 7) rfl, List.mem_of_getElem? (i := 8) rfl, trivial⟩) hw) (q_loadN Tn_51 rfl (fun w1 hw => hw.rgL (i := 2) rfl 0 3 [.int .i64 p1.Rule, pv1_0, pv1_1] rfl) rfl) rfl rfl rfl ?_
          obtain ⟨x11, hx11, h⟩ := bind_some h
          refine WM.callL 2 rfl (by kernel_rfl) rfl rfl rfl rfl Fun_31 rfl (fun Φx F w1 hlx hw => Kn.of_St (Hle.trans (Hle.refl _) hlx) (AllIn.mem ⟨List.mem_of_getElem? (i := 2) rfl, List.mem_of_getElem? (i := 4) rfl, List.mem_of_getElem? (i := 8) rfl, List.mem_of_getElem? (i := 9) rfl, trivial⟩) hw) (fun w1 hw => m_l_toMatch_ok hw.fro N p1 ph1_0 ph1_1 hx11) (fun v16 Φ_6 D6 le6 ho6 qq6 => ?_)
          replace ph0_0 := RSl.mono RI.mono le6 ph0_0
          replace ph0_1 := RSl.mono RTBind.mono le6 ph0_1
          replace ph1_0 := RSl.mono RI.mono le6 ph1_0
          replace ph1_1 := RSl.mono RTBind.mono le6 ph1_1
          replace h2 := RSl.mono RI.mono le6 h2
          replace h3 := RSl.mono RTBind.mono le6 h3
          replace h5 := RSl.mono RI.mono le6 h5
          replace h6 := RSl.mono RTBind.mono le6 h6
          replace h8 := RSl.mono RI.mono le6 h8
          replace h9 := RSl.mono RTBind.mono le6 h9
          replace h11 := RSl.mono RI.mono le6 h11
          replace h12 := RSl.mono RTBind.mono le6 h12
          replace h14 := RSl.mono RI.mono le6 h14
          replace h15 := RSl.mono RTBind.mono le6 h15
          replace hle := hle.trans le6
          obtain ⟨cs6, G16, rfl, rfl, h16⟩ := qq6
          obtain ⟨v17, G17, v18, G18, rfl, rfl, h17, h18⟩ := h16
          obtain ⟨x12, hx12, h⟩ := bind_some h
          refine WM.call 3 rfl (by kernel_rfl) (fun _ _ w1 hw => Kn.of_St (Hle.trans (Hle.refl _) le6) (AllIn.mem ⟨List.mem_of_getElem? (i := 2) rfl, List.mem_of_getElem? (i := 4) rfl, List.mem_of_getElem? (i := 8) rfl, List.mem_of_getElem? (i := 9) rfl, trivial⟩) hw) (c_pure Fun_32 rfl (fun w1 hw => m_l_eqMatch_ok hw.fro N x7 x11 h11 h12 h17 h18 hx12)) rfl rfl rfl (fun _ => ?_)
          refine WM.q 4 rfl (by kernel_rfl) (fun w1 hw => Kn.of_St (Hle.trans (Hle.refl _) le6) (AllIn.mem ⟨List.mem_of_getElem? (i := 2) rfl, List.mem_of_getElem? (i := 4) rfl, List.mem_of_getElem? (i := 8) rfl, List.mem_of_getElem? (i := 9) rfl, trivial⟩) hw) (q_not rfl) rfl rfl rfl ?_
          refine WM.nil (by kernel_rfl) ?_
          refine WT.cond rfl (fun c5 => ?_) (fun c5 => ?_)
          · replace h := ite_t h c5
            refine WT.seq ?_
            refine WT.region ?_
            refine WL.q (q_assign rfl) rfl rfl rfl ?_
            refine WL.nil ?_
            refine WT.ret Try.func6 (resOk.one rfl) (fun w1 hw => ?_)
            cases h
            exact post_of_St hw
          · replace h := ite_f h c5
            refine WT.skip ?_
            refine WT.seq ?_
            refine WT.region ?_
            refine WL.q (q_assign rfl) rfl rfl rfl ?_
            refine WL.nil ?_
            refine WT.ret Try.func6 (resOk.one rfl) (fun w1 hw => ?_)
            cases h
            exact post_of_St hw
end Go.Proofs.Ytpajhchhkfnieaa
