/- Printed by a program of ours: each Go function computes its Lean function. -/
import Derived.Test.YtjangilipfjcmaaGreatProg
import Derived.Test.YtjangilipfjcmaaGreatWExactNetOkWalk2
namespace Go.Proofs.YtjangilipfjcmaaGreat
open Eng
open Go.RowKit (Below)
set_option linter.unusedVariables false
set_option linter.unusedSimpArgs false

set_option maxRecDepth 100000
set_option maxHeartbeats 1000000
theorem m_s_l11Same_ok {Φ : Hp} {w : World} (hΦ : In Φ w) (N : Nat) (p0 : (List Int)) (p1 : (List Int)) {pv0 : Value} {pG0 : List Nat} {pv1 : Value} {pG1 : List Nat} (ph0 : RSl (RI .i64) 1 Φ pG0 pv0 p0) (ph1 : RSl (RI .i64) 1 Φ pG1 pv1 p1) {r : Bool} (h : m_s_l11Same N p0 p1 = some r) :
    Calls Tryz.prog 112 [pv0, pv1].toArray w (Post (.bool r) w) := by
  refine enter Tryz.func112 rfl Tryz.ntmps112 rfl (St.start0 hΦ) ?_
  generalize hb0 : (⟨w, [], Φ⟩ : Base) = w0
  unfold m_s_l11Same at h
  refine WT.seq ?_
  refine WT.region ?_
  refine lq (q_assign rfl) rfl ?_
  refine WL.nil ?_
  refine WT.seq ?_
  refine WT.seq ?_
  refine WT.region ?_
  refine lq (q_move rfl) rfl ?_
  refine lq (q_lenR Sl_41 rfl rfl ph0) rfl ?_
  refine lq (q_move rfl) rfl ?_
  refine lq (q_lenR Sl_41 rfl rfl ph1) rfl ?_
  refine lq (q_neq rfl rfl) rfl ?_
  refine WL.nil ?_
  refine WT.cond rfl (fun c1 => ?_) (fun c1 => ?_)
  · replace h := ite_t h c1
    refine WT.seq ?_
    refine WT.region ?_
    refine lq (q_assign rfl) rfl ?_
    refine WL.nil ?_
    refine WT.ret Tryz.func112 (resOk.one rfl) (fun w1 hw => ?_)
    subst hb0
    cases h
    exact post_of_St hw
  replace h := ite_f h c1
  refine WT.skip ?_
  refine WT.seq ?_
  refine WT.seq ?_
  refine WT.region ?_
  refine lq (q_assign rfl) rfl ?_
  refine WL.nil ?_
  refine WT.block ?_
  refine WT.loop ?_
  refine WT.mono (l' := [(0, pv0), (1, pv1), (5, .int .i64 0)]) (S' := St w0 Φ [] []) ⟨rfl, rfl, rfl, trivial⟩ (fun w1 hw => (hw.sel (js := []) rfl).selO (js := []) rfl) ?_
  refine loop_ind (σ := Int) (fun s => [(0, pv0), (1, pv1), (5, .int .i64 s)]) (fun s => St w0 Φ [] []) (fun m s => m_s_l11Same_l1 N p0 p1 m s = some r) (fun s hm => none_ne (show (none : Option (Bool)) = some r from hm)) (fun n1 ih1 s hm => ?_) N (0) h
  revert hm; revert s; intro s1 hm
  have h : m_s_l11Same_l1 N p0 p1 (n1 + 1) s1 = some r := hm
  show WT _ _ [(0, pv0), (1, pv1), (5, .int .i64 s1)] (St w0 Φ [] [])
  unfold m_s_l11Same_l1 at h
  refine WT.seq ?_
  refine WT.seq ?_
  refine WT.region ?_
  refine lq (q_move rfl) rfl ?_
  refine lq (q_move rfl) rfl ?_
  refine lq (q_lenR Sl_41 rfl rfl ph0) rfl ?_
  refine lq (q_lss rfl rfl) rfl ?_
  refine WL.nil ?_
  refine WT.cond rfl (fun c2 => ?_) (fun c2 => ?_)
  · replace h := ite_t h c2
    refine WT.skip ?_
    refine WT.seq ?_
    refine WT.block ?_
    refine WT.seq ?_
    refine WT.draw mixed (by kernel_rfl) (fun _ h => h.drew) ?_
    refine qq (q_move rfl) rfl ?_
    refine qq (q_move rfl) rfl ?_
    obtain ⟨x1, hx1, h⟩ := bind_some h
    obtain ⟨cs1, F1, -, g1, hb1, hs1, r1⟩ := ph0.el (idx_some hx1).2.2
    obtain ⟨rfl, -⟩ := r1
    refine qq (q_indexAddr Sl_41 rfl rfl ph0 hx1) rfl ?_
    refine qq (q_load1 T1_3 rfl (fun w1 hw => (g1.of_eq 0 1 rfl rfl : rg _ _ _ [.int .i64 x1]).rangeAt hw.fro)) rfl ?_
    refine qq (q_move rfl) rfl ?_
    refine qq (q_move rfl) rfl ?_
    obtain ⟨x2, hx2, h⟩ := bind_some h
    obtain ⟨cs2, F2, -, g2, hb2, hs2, r2⟩ := ph1.el (idx_some hx2).2.2
    obtain ⟨rfl, -⟩ := r2
    refine qq (q_indexAddr Sl_41 rfl rfl ph1 hx2) rfl ?_
    refine qq (q_load1 T1_3 rfl (fun w1 hw => (g2.of_eq 0 1 rfl rfl : rg _ _ _ [.int .i64 x2]).rangeAt hw.fro)) rfl ?_
    refine qq (q_neq rfl rfl) rfl ?_
    refine WQ.nil ?_
    refine WT.cond rfl (fun c3 => ?_) (fun c3 => ?_)
    · replace h := ite_t h c3
      refine WT.seq ?_
      refine WT.region ?_
      refine lq (q_assign rfl) rfl ?_
      refine WL.nil ?_
      refine WT.ret Tryz.func112 (resOk.one rfl) (fun w1 hw => ?_)
      subst hb0
      cases h
      exact post_of_St hw
    replace h := ite_f h c3
    refine WT.skip ?_
    refine WT.inBlock ?_
    refine WT.region ?_
    refine lq (q_move rfl) rfl ?_
    refine lq (q_add rfl rfl) rfl ?_
    refine lq (q_assign rfl) rfl ?_
    refine WL.nil ?_
    refine WT.inLoop (WT.mono (l' := [(0, pv0), (1, pv1), (5, .int .i64 (IntKind.i64.wrap (s1 + 1)))]) (S' := St w0 Φ [] []) ⟨rfl, rfl, rfl, trivial⟩ (fun w1 hw => (hw.sel (js := []) rfl).selO (js := []) rfl) ?_)
    exact ih1 (IntKind.i64.wrap (s1 + 1)) h
  replace h := ite_f h c2
  refine WT.exit rfl ?_
  refine WT.seq ?_
  refine WT.region ?_
  refine lq (q_assign rfl) rfl ?_
  refine WL.nil ?_
  refine WT.ret Tryz.func112 (resOk.one rfl) (fun w1 hw => ?_)
  subst hb0
  cases h
  exact post_of_St hw
theorem m_s_l3SameVals_ok {Φ : Hp} {w : World} (hΦ : In Φ w) (N : Nat) (p0 : (List TVal)) (p1 : (List TVal)) {pv0 : Value} {pG0 : List Nat} {pv1 : Value} {pG1 : List Nat} (ph0 : RSl RTVal 3 Φ pG0 pv0 p0) (ph1 : RSl RTVal 3 Φ pG1 pv1 p1) {r : Bool} (h : m_s_l3SameVals N p0 p1 = some r) :
    Calls Tryz.prog 174 [pv0, pv1].toArray w (Post (.bool r) w) := by
  refine enter Tryz.func174 rfl Tryz.ntmps174 rfl (St.start0 hΦ) ?_
  generalize hb0 : (⟨w, [], Φ⟩ : Base) = w0
  unfold m_s_l3SameVals at h
  refine WT.seq ?_
  refine WT.region ?_
  refine lq (q_assign rfl) rfl ?_
  refine WL.nil ?_
  refine WT.seq ?_
  refine WT.seq ?_
  refine WT.region ?_
  refine lq (q_move rfl) rfl ?_
  refine lq (q_lenR Sl_100 rfl rfl ph0) rfl ?_
  refine lq (q_move rfl) rfl ?_
  refine lq (q_lenR Sl_100 rfl rfl ph1) rfl ?_
  refine lq (q_neq rfl rfl) rfl ?_
  refine WL.nil ?_
  refine WT.cond rfl (fun c1 => ?_) (fun c1 => ?_)
  · replace h := ite_t h c1
    refine WT.seq ?_
    refine WT.region ?_
    refine lq (q_assign rfl) rfl ?_
    refine WL.nil ?_
    refine WT.ret Tryz.func174 (resOk.one rfl) (fun w1 hw => ?_)
    subst hb0
    cases h
    exact post_of_St hw
  replace h := ite_f h c1
  refine WT.skip ?_
  refine WT.seq ?_
  refine WT.seq ?_
  refine WT.region ?_
  refine lq (q_assign rfl) rfl ?_
  refine WL.nil ?_
  refine WT.block ?_
  refine WT.loop ?_
  refine WT.mono (l' := [(0, pv0), (1, pv1), (5, .int .i64 0)]) (S' := St w0 Φ [] []) ⟨rfl, rfl, rfl, trivial⟩ (fun w1 hw => (hw.sel (js := []) rfl).selO (js := []) rfl) ?_
  refine loop_ind (σ := Int) (fun s => [(0, pv0), (1, pv1), (5, .int .i64 s)]) (fun s => St w0 Φ [] []) (fun m s => m_s_l3SameVals_l1 N p0 p1 m s = some r) (fun s hm => none_ne (show (none : Option (Bool)) = some r from hm)) (fun n1 ih1 s hm => ?_) N (0) h
  revert hm; revert s; intro s1 hm
  have h : m_s_l3SameVals_l1 N p0 p1 (n1 + 1) s1 = some r := hm
  show WT _ _ [(0, pv0), (1, pv1), (5, .int .i64 s1)] (St w0 Φ [] [])
  unfold m_s_l3SameVals_l1 at h
  refine WT.seq ?_
  refine WT.seq ?_
  refine WT.region ?_
  refine lq (q_move rfl) rfl ?_
  refine lq (q_move rfl) rfl ?_
  refine lq (q_lenR Sl_100 rfl rfl ph0) rfl ?_
  refine lq (q_lss rfl rfl) rfl ?_
  refine WL.nil ?_
  refine WT.cond rfl (fun c2 => ?_) (fun c2 => ?_)
  · replace h := ite_t h c2
    refine WT.skip ?_
    refine WT.seq ?_
    refine WT.block ?_
    refine WT.seq ?_
    refine WT.draw mixed (by kernel_rfl) (fun _ h => h.drew) ?_
    refine qq (q_move rfl) rfl ?_
    refine qq (q_move rfl) rfl ?_
    obtain ⟨x1, hx1, h⟩ := bind_some h
    obtain ⟨cs1, F1, -, g1, hb1, hs1, r1⟩ := ph0.el (idx_some hx1).2.2
    obtain ⟨rfl, -⟩ := r1
    refine qq (q_indexAddr Sl_100 rfl rfl ph0 hx1) rfl ?_
    refine qq (q_loadN Tn_121 rfl (fun w1 hw => (g1.of_eq 0 3 rfl rfl : rg _ _ _ [.int .i64 x1.K, .int .i64 x1.N, .string x1.S]).rangeAt hw.fro) rfl) rfl ?_
    refine qq (q_move rfl) rfl ?_
    refine qq (q_move rfl) rfl ?_
    obtain ⟨x2, hx2, h⟩ := bind_some h
    obtain ⟨cs2, F2, -, g2, hb2, hs2, r2⟩ := ph1.el (idx_some hx2).2.2
    obtain ⟨rfl, -⟩ := r2
    refine qq (q_indexAddr Sl_100 rfl rfl ph1 hx2) rfl ?_
    refine qq (q_loadN Tn_121 rfl (fun w1 hw => (g2.of_eq 0 3 rfl rfl : rg _ _ _ [.int .i64 x2.K, .int .i64 x2.N, .string x2.S]).rangeAt hw.fro) rfl) rfl ?_
    refine qq (q_neA EqT_121 rfl rfl rfl (r := eqT_TVal x1 x2) rfl) rfl ?_
    refine WQ.nil ?_
    refine WT.cond rfl (fun c3 => ?_) (fun c3 => ?_)
    · replace h := ite_t h c3
      refine WT.seq ?_
      refine WT.region ?_
      refine lq (q_assign rfl) rfl ?_
      refine WL.nil ?_
      refine WT.ret Tryz.func174 (resOk.one rfl) (fun w1 hw => ?_)
      subst hb0
      cases h
      exact post_of_St hw
    replace h := ite_f h c3
    refine WT.skip ?_
    refine WT.inBlock ?_
    refine WT.region ?_
    refine lq (q_move rfl) rfl ?_
    refine lq (q_add rfl rfl) rfl ?_
    refine lq (q_assign rfl) rfl ?_
    refine WL.nil ?_
    refine WT.inLoop (WT.mono (l' := [(0, pv0), (1, pv1), (5, .int .i64 (IntKind.i64.wrap (s1 + 1)))]) (S' := St w0 Φ [] []) ⟨rfl, rfl, rfl, trivial⟩ (fun w1 hw => (hw.sel (js := []) rfl).selO (js := []) rfl) ?_)
    exact ih1 (IntKind.i64.wrap (s1 + 1)) h
  replace h := ite_f h c2
  refine WT.exit rfl ?_
  refine WT.seq ?_
  refine WT.region ?_
  refine lq (q_assign rfl) rfl ?_
  refine WL.nil ?_
  refine WT.ret Tryz.func174 (resOk.one rfl) (fun w1 hw => ?_)
  subst hb0
  cases h
  exact post_of_St hw
theorem m_s_SameAlpha_ok {Φ : Hp} {w : World} (hΦ : In Φ w) (N : Nat) (p0 : TAlpha) (p1 : TAlpha) {pv0_0 : Value} {pG0_0 : List Nat} {pv0_1 : Value} {pG0_1 : List Nat} {pv1_0 : Value} {pG1_0 : List Nat} {pv1_1 : Value} {pG1_1 : List Nat} (ph0_0 : RSl RTVal 3 Φ pG0_0 pv0_0 p0.Consts) (ph0_1 : RSl (RI .i64) 1 Φ pG0_1 pv0_1 p0.At) (ph1_0 : RSl RTVal 3 Φ pG1_0 pv1_0 p1.Consts) (ph1_1 : RSl (RI .i64) 1 Φ pG1_1 pv1_1 p1.At) {r : Bool} (h : m_s_SameAlpha N p0 p1 = some r) :
    Calls Tryz.prog 111 [.agg [.string p0.Kind, .int .i64 p0.N, pv0_0, pv0_1].toArray, .agg [.string p1.Kind, .int .i64 p1.N, pv1_0, pv1_1].toArray].toArray w (Post (.bool r) w) := by
  refine enter Tryz.func111 rfl Tryz.ntmps111 rfl (St.start0 hΦ) ?_
  unfold m_s_SameAlpha at h
  refine WT.seq ?_
  refine WT.region ?_
  refine ln (n_box (C := #[.string p0.Kind, .int .i64 p0.N, pv0_0, pv0_1]) rfl rfl) rfl (fun b_1 => ?_)
  refine ln (n_box (C := #[.string p1.Kind, .int .i64 p1.N, pv1_0, pv1_1]) rfl rfl) rfl (fun b_2 => ?_)
  refine lq (q_assign rfl) rfl ?_
  refine WL.nil ?_
  refine WT.seq ?_
  refine WT.region ?_
  refine lq (q_fieldAddr Fld_102_0 rfl) rfl ?_
  refine lq (q_load1 T1_9 rfl (fun w1 hw => hw.rgO (i := 1) rfl 0 1 [.string p0.Kind] rfl)) rfl ?_
  refine lq (q_fieldAddr Fld_102_0 rfl) rfl ?_
  refine lq (q_load1 T1_9 rfl (fun w1 hw => hw.rgO (i := 0) rfl 0 1 [.string p1.Kind] rfl)) rfl ?_
  refine lq (q_seq rfl rfl) rfl ?_
  refine lq (q_move rfl) rfl ?_
  obtain ⟨b1, hb_1, h⟩ := bind_some h
  refine WL.cutN 6 [(16, .bool b1), (2, .pointer (some ⟨b_1, 0, none⟩)), (3, .pointer (some ⟨b_2, 0, none⟩)), (4, .bool false)] ?_ (fun K => ?_)
  rotate_left
  · refine WL.split (d := 10) rfl (fun c1 => ?_) (fun c1 => ?_)
    · replace hb_1 := ite_t hb_1 c1
      refine WL.yes rfl rfl ?_
      refine lq (q_fieldAddr Fld_102_1 rfl) rfl ?_
      refine WL.yes rfl rfl ?_
      refine lq (q_load1 T1_3 rfl (fun w1 hw => hw.rgO (i := 1) rfl 1 1 [.int .i64 p0.N] rfl)) rfl ?_
      refine WL.yes rfl rfl ?_
      refine lq (q_fieldAddr Fld_102_1 rfl) rfl ?_
      refine WL.yes rfl rfl ?_
      refine lq (q_load1 T1_3 rfl (fun w1 hw => hw.rgO (i := 0) rfl 1 1 [.int .i64 p1.N] rfl)) rfl ?_
      refine WL.yes rfl rfl ?_
      refine lq (q_eql rfl rfl) rfl ?_
      refine WL.q (q_pick1 rfl rfl) rfl rfl rfl ?_
      cases hb_1
      exact WL.keep (by exact ⟨rfl, rfl, rfl, rfl, trivial⟩) K
    · replace hb_1 := ite_f hb_1 c1
      refine WL.no rfl rfl rfl rfl ?_
      refine WL.no rfl rfl rfl rfl ?_
      refine WL.no rfl rfl rfl rfl ?_
      refine WL.no rfl rfl rfl rfl ?_
      refine WL.no rfl rfl rfl rfl ?_
      refine WL.q (q_pick0 rfl rfl) rfl rfl rfl ?_
      cases hb_1
      exact WL.keep (by exact ⟨rfl, rfl, rfl, rfl, trivial⟩) K
  refine lq (q_move rfl) rfl ?_
  obtain ⟨b2, hb_2, h⟩ := bind_some h
  refine WL.cutN 6 [(23, .bool b2), (2, .pointer (some ⟨b_1, 0, none⟩)), (3, .pointer (some ⟨b_2, 0, none⟩)), (4, .bool false)] ?_ (fun K => ?_)
  rotate_left
  · refine WL.split (d := 17) rfl (fun c2 => ?_) (fun c2 => ?_)
    · replace hb_2 := ite_t hb_2 c2
      refine WL.yes rfl rfl ?_
      refine lq (q_fieldAddr Fld_102_3 rfl) rfl ?_
      refine WL.yes rfl rfl ?_
      refine lq (q_load1 T1_41 rfl (fun w1 hw => hw.rgO (i := 1) rfl 3 1 [pv0_1] rfl)) rfl ?_
      refine WL.yes rfl rfl ?_
      refine lq (q_fieldAddr Fld_102_3 rfl) rfl ?_
      refine WL.yes rfl rfl ?_
      refine lq (q_load1 T1_41 rfl (fun w1 hw => hw.rgO (i := 0) rfl 3 1 [pv1_1] rfl)) rfl ?_
      refine WL.yes rfl rfl ?_
      obtain ⟨x1, hx1, hb_2⟩ := bind_some hb_2
      refine lp (p_call Fun_112 rfl (fun w1 hw => m_s_l11Same_ok hw.fro N p0.At p1.At ph0_1 ph1_1 hx1)) rfl ?_
      refine WL.q (q_pick1 rfl rfl) rfl rfl rfl ?_
      cases hb_2
      exact WL.keep (by exact ⟨rfl, rfl, rfl, rfl, trivial⟩) K
    · replace hb_2 := ite_f hb_2 c2
      refine WL.no rfl rfl rfl rfl ?_
      refine WL.no rfl rfl rfl rfl ?_
      refine WL.no rfl rfl rfl rfl ?_
      refine WL.no rfl rfl rfl rfl ?_
      refine WL.no rfl rfl rfl rfl ?_
      refine WL.q (q_pick0 rfl rfl) rfl rfl rfl ?_
      cases hb_2
      exact WL.keep (by exact ⟨rfl, rfl, rfl, rfl, trivial⟩) K
  refine lq (q_move rfl) rfl ?_
  obtain ⟨b3, hb_3, h⟩ := bind_some h
  refine WL.cutN 6 [(30, .bool b3), (4, .bool false)] ?_ (fun K => ?_)
  rotate_left
  · refine WL.split (d := 24) rfl (fun c3 => ?_) (fun c3 => ?_)
    · replace hb_3 := ite_t hb_3 c3
      refine WL.yes rfl rfl ?_
      refine lq (q_fieldAddr Fld_102_2 rfl) rfl ?_
      refine WL.yes rfl rfl ?_
      refine lq (q_load1 T1_100 rfl (fun w1 hw => hw.rgO (i := 1) rfl 2 1 [pv0_0] rfl)) rfl ?_
      refine WL.yes rfl rfl ?_
      refine lq (q_fieldAddr Fld_102_2 rfl) rfl ?_
      refine WL.yes rfl rfl ?_
      refine lq (q_load1 T1_100 rfl (fun w1 hw => hw.rgO (i := 0) rfl 2 1 [pv1_0] rfl)) rfl ?_
      refine WL.yes rfl rfl ?_
      obtain ⟨x2, hx2, hb_3⟩ := bind_some hb_3
      refine lp (p_call Fun_174 rfl (fun w1 hw => m_s_l3SameVals_ok hw.fro N p0.Consts p1.Consts ph0_0 ph1_0 hx2)) rfl ?_
      refine WL.q (q_pick1 rfl rfl) rfl rfl rfl ?_
      cases hb_3
      exact WL.keep (by exact ⟨rfl, rfl, trivial⟩) K
    · replace hb_3 := ite_f hb_3 c3
      refine WL.no rfl rfl rfl rfl ?_
      refine WL.no rfl rfl rfl rfl ?_
      refine WL.no rfl rfl rfl rfl ?_
      refine WL.no rfl rfl rfl rfl ?_
      refine WL.no rfl rfl rfl rfl ?_
      refine WL.q (q_pick0 rfl rfl) rfl rfl rfl ?_
      cases hb_3
      exact WL.keep (by exact ⟨rfl, rfl, trivial⟩) K
  refine lq (q_assign rfl) rfl ?_
  refine WL.nil ?_
  refine WT.ret Tryz.func111 (resOk.one rfl) (fun w1 hw => ?_)
  cases h
  exact post_of_St hw
theorem m_s_l12Find_ok {Φ : Hp} {w : World} (hΦ : In Φ w) (N : Nat) (p0 : TNet) (p1 : TAlpha) {pv0_0 : Value} {pD0_0 : List Nat} {pv0_1 : Value} {pG0_1 : List Nat} {pb0 : Nat} {pv1_0 : Value} {pG1_0 : List Nat} {pv1_1 : Value} {pG1_1 : List Nat} (ph0_0 : OSl RTAlpha 102 4 Φ pD0_0 pv0_0 p0.Alphas) (ph0_1 : RSl RTChain 2 Φ pG0_1 pv0_1 p0.Chains) (pp0 : Φ pb0 = some (.cells #[pv0_0, pv0_1] 27 (0, 0))) (ph1_0 : RSl RTVal 3 Φ pG1_0 pv1_0 p1.Consts) (ph1_1 : RSl (RI .i64) 1 Φ pG1_1 pv1_1 p1.At) (pd0_0 : Dj pD0_0 [[pb0], ob pv0_0].flatten) (pd0_1 : Dj pG0_1 [[pb0], ob pv0_0].flatten) (pd1_0 : Dj pG1_0 [[pb0], ob pv0_0].flatten) (pd1_1 : Dj pG1_1 [[pb0], ob pv0_0].flatten) (hB : [[pb0], ob pv0_0].flatten.Nodup) (hlt : ∀ k ∈ [[pb0], ob pv0_0].flatten, k < w.heap.size) {r : Int × TNet} (h : m_s_l12Find N p0 p1 = some r) :
    Calls Tryz.prog 104 [.pointer (some ⟨pb0, 0, none⟩), .agg [.string p1.Kind, .int .i64 p1.N, pv1_0, pv1_1].toArray].toArray w (PostG Φ w [[pb0], ob pv0_0].flatten (fun Φ' Fs v => ∃ (so_0_0 : Value) (Do_0_0 : List Nat), v = .int .i64 r.1 ∧ Fs = [[pb0], ob so_0_0] ∧ OSl RTAlpha 102 4 Φ' Do_0_0 so_0_0 r.2.Alphas ∧ (∀ k ∈ Do_0_0, k ∈ (pD0_0 ++ (pG1_0 ++ pG1_1))) ∧ r.2.Chains = p0.Chains ∧ Φ' pb0 = some (.cells #[so_0_0, pv0_1] 27 (0, 0)))) := by
  refine enter Tryz.func104 rfl Tryz.ntmps104 rfl (St.start hΦ [[pb0], ob pv0_0] hB hlt) ?_
  have pa0_0 : Old ⟨w, [[pb0], ob pv0_0].flatten, Φ⟩ pD0_0 := Old.mk hΦ ph0_0.kn pd0_0
  have pa0_1 : Old ⟨w, [[pb0], ob pv0_0].flatten, Φ⟩ pG0_1 := Old.mk hΦ ph0_1.kn pd0_1
  have pa1_0 : Old ⟨w, [[pb0], ob pv0_0].flatten, Φ⟩ pG1_0 := Old.mk hΦ ph1_0.kn pd1_0
  have pa1_1 : Old ⟨w, [[pb0], ob pv0_0].flatten, Φ⟩ pG1_1 := Old.mk hΦ ph1_1.kn pd1_1
  revert pa0_0 pa0_1 pa1_0 pa1_1
  generalize hb0 : (⟨w, [[pb0], ob pv0_0].flatten, Φ⟩ : Base) = w0
  intro pa0_0 pa0_1 pa1_0 pa1_1
  unfold m_s_l12Find at h
  refine WT.seq ?_
  refine WT.region ?_
  refine ln (n_box (C := #[.string p1.Kind, .int .i64 p1.N, pv1_0, pv1_1]) rfl rfl) rfl (fun b_1 => ?_)
  refine lq (q_assign rfl) rfl ?_
  refine WL.nil ?_
  refine WT.seq ?_
  refine WT.seq ?_
  refine WT.region ?_
  refine lq (q_assign rfl) rfl ?_
  refine WL.nil ?_
  refine WT.block ?_
  refine WT.loop ?_
  refine WT.mono (l' := [(0, .pointer (some ⟨pb0, 0, none⟩)), (3, .pointer (some ⟨b_1, 0, none⟩)), (5, .int .i64 0)]) (S' := St w0 Φ [(b_1, .cells #[.string p1.Kind, .int .i64 p1.N, pv1_0, pv1_1] 102 (0, 0))] [[pb0], ob pv0_0]) ⟨rfl, rfl, rfl, trivial⟩ (fun w1 hw => (hw.sel (js := [0, 0]) rfl).selO (js := [0]) rfl) ?_
  refine loop_ind (σ := Int) (fun s => [(0, .pointer (some ⟨pb0, 0, none⟩)), (3, .pointer (some ⟨b_1, 0, none⟩)), (5, .int .i64 s)]) (fun s => St w0 Φ [(b_1, .cells #[.string p1.Kind, .int .i64 p1.N, pv1_0, pv1_1] 102 (0, 0))] [[pb0], ob pv0_0]) (fun m s => m_s_l12Find_l1 N p0 p1 m s = some r) (fun s hm => none_ne (show (none : Option (Int × TNet)) = some r from hm)) (fun n1 ih1 s hm => ?_) N (0) h
  revert hm; revert s; intro s1 hm
  have h : m_s_l12Find_l1 N p0 p1 (n1 + 1) s1 = some r := hm
  show WT _ _ [(0, .pointer (some ⟨pb0, 0, none⟩)), (3, .pointer (some ⟨b_1, 0, none⟩)), (5, .int .i64 s1)] (St w0 Φ [(b_1, .cells #[.string p1.Kind, .int .i64 p1.N, pv1_0, pv1_1] 102 (0, 0))] [[pb0], ob pv0_0])
  unfold m_s_l12Find_l1 at h
  refine WT.seq ?_
  refine WT.seq ?_
  refine WT.region ?_
  refine lq (q_move rfl) rfl ?_
  refine lq (q_move rfl) rfl ?_
  refine lq (q_nilCheck rfl) rfl ?_
  refine lq (q_fieldAddr Fld_27_0 rfl) rfl ?_
  refine lq (q_load1 T1_24 rfl (fun w1 hw => ((rg_cells pp0).of_eq 0 1 rfl rfl : rg _ _ _ [pv0_0]).rangeAt hw.fro)) rfl ?_
  refine lq (q_lenR Sl_24 rfl rfl ph0_0.rsl) rfl ?_
  refine lq (q_lss rfl rfl) rfl ?_
  refine WL.nil ?_
  refine WT.cond rfl (fun c1 => ?_) (fun c1 => ?_)
  · replace h := ite_t h c1
    refine WT.skip ?_
    refine WT.seq ?_
    refine WT.block ?_
    refine WT.seq ?_
    refine WT.draw mixed (by kernel_rfl) (fun _ h => h.drew) ?_
    refine qq (q_move rfl) rfl ?_
    refine qq (q_nilCheck rfl) rfl ?_
    refine qq (q_fieldAddr Fld_27_0 rfl) rfl ?_
    refine qq (q_load1 T1_24 rfl (fun w1 hw => ((rg_cells pp0).of_eq 0 1 rfl rfl : rg _ _ _ [pv0_0]).rangeAt hw.fro)) rfl ?_
    refine qq (q_move rfl) rfl ?_
    obtain ⟨x1, hx1, h⟩ := bind_some h
    obtain ⟨cs1, F1, -, g1, hb1, hs1, r1⟩ := ph0_0.elS (idx_some hx1).2.2
    obtain ⟨v1, G1, v2, G2, rfl, rfl, h1, h2⟩ := r1
    refine qq (q_indexAddr Sl_24 rfl rfl ph0_0.rsl hx1) rfl ?_
    refine qq (q_loadN Tn_102 rfl (fun w1 hw => (g1.of_eq 0 4 rfl rfl : rg _ _ _ [.string x1.Kind, .int .i64 x1.N, v1, v2]).rangeAt hw.fro) rfl) rfl ?_
    refine qq (q_loadN Tn_102 rfl (fun w1 hw => hw.rgO (i := 0) rfl 0 4 [.string p1.Kind, .int .i64 p1.N, pv1_0, pv1_1] rfl) rfl) rfl ?_
    obtain ⟨x2, hx2, h⟩ := bind_some h
    refine qp (p_call Fun_111 rfl (fun w1 hw => m_s_SameAlpha_ok hw.fro N x1 p1 h1 h2 ph1_0 ph1_1 hx2)) rfl ?_
    refine WQ.nil ?_
    refine WT.cond rfl (fun c2 => ?_) (fun c2 => ?_)
    · replace h := ite_t h c2
      refine WT.seq ?_
      refine WT.region ?_
      refine lq (q_move rfl) rfl ?_
      refine lq (q_assign rfl) rfl ?_
      refine WL.nil ?_
      refine WT.ret Tryz.func104 (resOk.one rfl) (fun w1 hw => ?_)
      subst hb0
      cases h
      refine postG_of_St (js := [0, 0]) hw rfl ⟨pv0_0, pD0_0, rfl, rfl, ph0_0, (fun k hk => (List.mem_append.2 (.inl hk))), rfl, pp0⟩
    replace h := ite_f h c2
    refine WT.skip ?_
    refine WT.inBlock ?_
    refine WT.region ?_
    refine lq (q_move rfl) rfl ?_
    refine lq (q_add rfl rfl) rfl ?_
    refine lq (q_assign rfl) rfl ?_
    refine WL.nil ?_
    refine WT.inLoop (WT.mono (l' := [(0, .pointer (some ⟨pb0, 0, none⟩)), (3, .pointer (some ⟨b_1, 0, none⟩)), (5, .int .i64 (IntKind.i64.wrap (s1 + 1)))]) (S' := St w0 Φ [(b_1, .cells #[.string p1.Kind, .int .i64 p1.N, pv1_0, pv1_1] 102 (0, 0))] [[pb0], ob pv0_0]) ⟨rfl, rfl, rfl, trivial⟩ (fun w1 hw => (hw.sel (js := [0, 0]) rfl).selO (js := [0]) rfl) ?_)
    exact ih1 (IntKind.i64.wrap (s1 + 1)) h
  replace h := ite_f h c1
  refine WT.exit rfl ?_
  refine WT.seq ?_
  refine WT.mix (Kn Φ [pb0] [(b_1, .cells #[.string p1.Kind, .int .i64 p1.N, pv1_0, pv1_1] 102 (0, 0))]) (fun i => match i with | 10 => false | _ => true) mixed (fun _ h => h.drew) ?_
  refine mq 0 rfl (by kernel_rfl) (fun w1 hw => Kn.of (fun _ _ _ h => h) (AllIn.mem ⟨List.mem_of_getElem? (i := 0) rfl, trivial⟩) hw) (q_move rfl) rfl ?_
  refine mq 1 rfl (by kernel_rfl) (fun w1 hw => Kn.of (fun _ _ _ h => h) (AllIn.mem ⟨List.mem_of_getElem? (i := 0) rfl, trivial⟩) hw) (q_move rfl) rfl ?_
  refine mq 2 rfl (by kernel_rfl) (fun w1 hw => Kn.of (fun _ _ _ h => h) (AllIn.mem ⟨List.mem_of_getElem? (i := 0) rfl, trivial⟩) hw) (q_nilCheck rfl) rfl ?_
  refine mq 3 rfl (by kernel_rfl) (fun w1 hw => Kn.of (fun _ _ _ h => h) (AllIn.mem ⟨List.mem_of_getElem? (i := 0) rfl, trivial⟩) hw) (q_fieldAddr Fld_27_0 rfl) rfl ?_
  refine mq 4 rfl (by kernel_rfl) (fun w1 hw => Kn.of (fun _ _ _ h => h) (AllIn.mem ⟨List.mem_of_getElem? (i := 0) rfl, trivial⟩) hw) (q_load1 T1_24 rfl (fun w1 hw => hw.rg (by simp) ((rg_cells pp0).of_eq 0 1 rfl rfl : rg _ _ _ [pv0_0]))) rfl ?_
  refine mq 5 rfl (by kernel_rfl) (fun w1 hw => Kn.of (fun _ _ _ h => h) (AllIn.mem ⟨List.mem_of_getElem? (i := 0) rfl, trivial⟩) hw) (q_loadN Tn_102 rfl (fun w1 hw => hw.rgO (i := 0) rfl 0 4 [.string p1.Kind, .int .i64 p1.N, pv1_0, pv1_1] rfl) rfl) rfl ?_
  have rc1 : RC RTAlpha 4 Φ ([pG1_0 ++ (pG1_1)] : List (List Nat)) [.string p1.Kind, .int .i64 p1.N, pv1_0, pv1_1] ([p1] : List TAlpha) := RC.cons (c := [.string p1.Kind, .int .i64 p1.N, pv1_0, pv1_1]) (cells := []) ⟨pv1_0, pG1_0, pv1_1, pG1_1, rfl, rfl, ph1_0, ph1_1⟩ rfl (RC.nil _ _ _)
  refine WM.one 6 (by kernel_rfl) (me rfl (fun _ v Φx D w1 hq hw => Kn.of (fun k hk o ho => hq.1 k o (by simp) ((fun _ _ _ h => h) k hk o ho)) (AllIn.mem ⟨List.mem_of_getElem? (i := 0) rfl, trivial⟩) hw) (e_lit (vs := [(0, .agg [.string p1.Kind, .int .i64 p1.N, pv1_0, pv1_1].toArray)]) (C := #[.string p1.Kind, .int .i64 p1.N, pv1_0, pv1_1]) RTAlpha.lasts Sl_24 Zr_102 rfl rfl rfl rfl (fill_made MC_102_1 (fill_cons (cells := [.string ⟨#[]⟩, .int .i64 0, .slice none 0 0, .slice none 0 0]) (c := [.string p1.Kind, .int .i64 p1.N, pv1_0, pv1_1]) (C' := [.string p1.Kind, .int .i64 p1.N, pv1_0, pv1_1]) rfl rfl rfl rfl rfl (fill_nil))) rfl rc1 rfl (RC.kn RTAlpha.knows rc1)) rfl (fun v3 Φ_1 D1 q1 => ?_))
  obtain ⟨fr1, h3⟩ := q1
  replace h3 : OSl RTAlpha 102 4 Φ_1 (pG1_0 ++ (pG1_1)) v3 ([p1] : List TAlpha) := by simpa [List.append_assoc] using h3
  replace ph0_1 := ph0_1.frame RTChain.lasts fr1 (Dj.empty _)
  replace ph0_0 := ph0_0.frame RTAlpha.lasts fr1 (Dj.empty _) (Dj.empty _)
  replace pp0 := fr1 _ _ (by simp) pp0
  obtain ⟨x3, hx3, h⟩ := bind_some h
  refine WM.one 7 (by kernel_rfl) (me rfl (fun _ v Φx D w1 hq hw => Kn.of (fun k hk o ho => hq.1.2 k o ((hq.1.1.r (i := 1) rfl) k hk) ((fun k hk o ho => fr1 k o (by simp) ((fun _ _ _ h => h) k hk o ho)) k hk o ho)) (AllIn.mem ⟨List.mem_of_getElem? (i := 0) rfl, trivial⟩) hw) (e_appO RTAlpha.lasts RTAlpha.one Sl_24 Ei_102 rfl rfl rfl rfl rfl (js := [2]) (Rr := [ob v3, [pb0]]) rfl ph0_0 h3 (fun ap => (ap.o pa0_0)) (fun ap => (Dj.sub (Dj.app (ap.o pa1_0) (ap.o pa1_1)) (fun k hk => (by simpa [List.append_assoc] using hk : k ∈ (pG1_0 ++ pG1_1))))) hx3) rfl (fun v4 Φ_2 D2 q2 => ?_))
  obtain ⟨⟨ap1, fr2⟩, h4⟩ := q2
  replace ph0_1 := ph0_1.frame RTChain.lasts fr2 (ap1.o pa0_1)
  replace pp0 := fr2 _ _ ((ap1.r (i := 1) rfl) _ (by simp)) pp0
  refine mqT 8 [9, 10] rfl (by kernel_rfl) (fun w1 hw => Kn.of (fun k hk o ho => fr2 k o ((ap1.r (i := 1) rfl) k hk) ((fun k hk o ho => fr1 k o (by simp) ((fun _ _ _ h => h) k hk o ho)) k hk o ho)) (AllIn.mem ⟨List.mem_of_getElem? (i := 0) rfl, trivial⟩) hw) (q_nilCheck rfl) rfl ?_
  refine mq 9 rfl (by kernel_rfl) (fun w1 hw => Kn.of (fun k hk o ho => fr2 k o ((ap1.r (i := 1) rfl) k hk) ((fun k hk o ho => fr1 k o (by simp) ((fun _ _ _ h => h) k hk o ho)) k hk o ho)) (AllIn.mem ⟨List.mem_of_getElem? (i := 0) rfl, trivial⟩) hw) (q_fieldAddr Fld_27_0 rfl) rfl ?_
  refine WM.thw (js := [2]) (R := [ob v4, ob v3]) rfl pp0 (fun Φ_3 ap2 fr3 => ?_)
  replace ph0_1 := ph0_1.frame RTChain.lasts fr3 (ap2.o pa0_1)
  replace h4 := h4.frame RTAlpha.lasts fr3 (ap2.r (i := 0) rfl) (Dj.app (ap2.o pa0_0) (Dj.sub (Dj.app (ap2.o pa1_0) (ap2.o pa1_1)) (fun k hk => (by simpa [List.append_assoc] using hk : k ∈ (pG1_0 ++ pG1_1)))))
  refine WM.one 10 (by kernel_rfl) (ms rfl (fun hc => by cases hc) (s_store (i := 0) (vs := [v4]) (C' := [v4, pv0_1]) (O' := [(pb0, .cells #[v4, pv0_1] 27 (0, 0)), (b_1, .cells #[.string p1.Kind, .int .i64 p1.N, pv1_0, pv1_1] 102 (0, 0))]) Sz_24 rfl rfl rfl (one_cells h4.one) rfl rfl ⟨h4.one, trivial⟩ rfl rfl) rfl ?_)
  refine WM.nil (by kernel_rfl) ?_
  refine WT.seq ?_
  refine WT.region ?_
  refine lq (q_move rfl) rfl ?_
  refine lq (q_nilCheck rfl) rfl ?_
  refine lq (q_fieldAddr Fld_27_0 rfl) rfl ?_
  refine lq (q_load1 T1_24 rfl (fun w1 hw => hw.rgO (i := 0) rfl 0 1 [v4] rfl)) rfl ?_
  refine lq (q_lenR Sl_24 rfl rfl h4.rsl) rfl ?_
  refine lq (q_sub rfl rfl) rfl ?_
  refine lq (q_assign rfl) rfl ?_
  refine WL.nil ?_
  refine WT.frz (js := [0]) (R := [(b_1, .cells #[.string p1.Kind, .int .i64 p1.N, pv1_0, pv1_1] 102 (0, 0))]) rfl (fun Φ_4 fr4 k1 => ?_)
  replace ph0_1 := ph0_1.frame RTChain.lasts fr4 (Dj.empty _)
  replace h4 := h4.frame RTAlpha.lasts fr4 (Dj.empty _) (Dj.empty _)
  refine WT.ret Tryz.func104 (resOk.one rfl) (fun w1 hw => ?_)
  subst hb0
  cases h
  refine postG_of_St (js := [0, 0]) hw rfl ⟨v4, (pD0_0 ++ (pG1_0 ++ (pG1_1))), rfl, rfl, h4, (fun k hk => ((List.mem_append.1 hk).elim (fun h => (List.mem_append.2 (.inl h))) (fun h => ((List.mem_append.1 ((fun k hk => (by simpa [List.append_assoc] using hk : k ∈ (pG1_0 ++ pG1_1))) k h)).elim (fun h => (List.mem_append.2 (.inr (List.mem_append.2 (.inl h))))) (fun h => (List.mem_append.2 (.inr (List.mem_append.2 (.inr h))))))))), rfl, k1⟩
theorem m_s_AlphaOf_ok {Φ : Hp} {w : World} (hΦ : In Φ w) (N : Nat) (p0 : TPat) {pv0_0 : Value} {pG0_0 : List Nat} (ph0_0 : RSl RTArg 5 Φ pG0_0 pv0_0 p0.Args) {r : TAlpha} (h : m_s_AlphaOf N p0 = some r) :
    Calls Tryz.prog 105 [.agg [.string p0.Kind, pv0_0, .bool p0.Not].toArray].toArray w (PostG Φ w [] (fun Φ' Fs v => ∃ (sr_0_0 : Value) (sr_0_1 : Value), v = .agg [.string r.Kind, .int .i64 r.N, sr_0_0, sr_0_1].toArray ∧ Fs = [ob sr_0_0, ob sr_0_1] ∧ OSl RTVal 121 3 Φ' [] sr_0_0 r.Consts ∧ OSl (RI .i64) 3 1 Φ' [] sr_0_1 r.At)) := by
  refine enter Tryz.func105 rfl Tryz.ntmps105 rfl (St.start0 hΦ) ?_
  have pa0_0 : Old ⟨w, [], Φ⟩ pG0_0 := Old.mk hΦ ph0_0.kn (Dj.empty _)
  revert pa0_0
  generalize hb0 : (⟨w, [], Φ⟩ : Base) = w0
  intro pa0_0
  unfold m_s_AlphaOf at h
  refine WT.seq ?_
  refine WT.region ?_
  refine ln (n_box (C := #[.string p0.Kind, pv0_0, .bool p0.Not]) rfl rfl) rfl (fun b_1 => ?_)
  refine ln (n_alloc (C := #[.string (⟨#[]⟩ : ByteArray), .int .i64 0, .slice none 0 0, .slice none 0 0]) Zr_102 rfl) rfl (fun b_2 => ?_)
  refine WL.nil ?_
  refine WT.seq ?_
  refine WT.region ?_
  refine lq (q_fieldAddr Fld_114_0 rfl) rfl ?_
  refine lq (q_load1 T1_9 rfl (fun w1 hw => hw.rgO (i := 1) rfl 0 1 [.string p0.Kind] rfl)) rfl ?_
  refine lq (q_fieldAddr Fld_114_1 rfl) rfl ?_
  refine lq (q_load1 T1_112 rfl (fun w1 hw => hw.rgO (i := 1) rfl 1 1 [pv0_0] rfl)) rfl ?_
  refine lq (q_lenR Sl_112 rfl rfl ph0_0) rfl ?_
  refine lq (q_build (vs := [(0, .string p0.Kind), (1, .int .i64 (p0.Args.length : Int))]) (C := #[.string p0.Kind, .int .i64 (p0.Args.length : Int), .slice none 0 0, .slice none 0 0]) Pl_102 Zr_102 rfl (fill_cons (cells := [.string ⟨#[]⟩, .int .i64 0, .slice none 0 0, .slice none 0 0]) (c := [.string p0.Kind]) (C' := [.string p0.Kind, .int .i64 0, .slice none 0 0, .slice none 0 0]) rfl rfl rfl rfl rfl (fill_cons (cells := [.string p0.Kind, .int .i64 0, .slice none 0 0, .slice none 0 0]) (c := [.int .i64 (p0.Args.length : Int)]) (C' := [.string p0.Kind, .int .i64 (p0.Args.length : Int), .slice none 0 0, .slice none 0 0]) rfl rfl rfl rfl rfl (fill_nil)))) rfl ?_
  refine ln (n_alloc (C := #[.string (⟨#[]⟩ : ByteArray), .int .i64 0, .slice none 0 0, .slice none 0 0]) Zr_102 rfl) rfl (fun b_3 => ?_)
  refine ls (s_store (i := 0) (vs := [.string p0.Kind, .int .i64 (p0.Args.length : Int), .slice none 0 0, .slice none 0 0]) (C' := [.string p0.Kind, .int .i64 (p0.Args.length : Int), .slice none 0 0, .slice none 0 0]) (O' := [(b_3, .cells #[.string p0.Kind, .int .i64 (p0.Args.length : Int), .slice none 0 0, .slice none 0 0] 102 (0, 0)), (b_2, .cells #[.string (⟨#[]⟩ : ByteArray), .int .i64 0, .slice none 0 0, .slice none 0 0] 102 (0, 0)), (b_1, .cells #[.string p0.Kind, pv0_0, .bool p0.Not] 114 (0, 0))]) Sz_102 rfl rfl rfl rfl rfl rfl ⟨rfl, rfl, rfl, rfl, trivial⟩ rfl rfl) rfl ?_
  refine WL.nil ?_
  refine WT.seq ?_
  refine WT.seq ?_
  refine WT.region ?_
  refine lq (q_assign rfl) rfl ?_
  refine WL.nil ?_
  refine WT.block ?_
  refine WT.loop ?_
  refine WT.conv (S' := St w0 Φ [(b_3, .cells #[.string p0.Kind, .int .i64 (p0.Args.length : Int), .slice none 0 0, .slice none 0 0] 102 (0, 0)), (b_2, .cells #[.string (⟨#[]⟩ : ByteArray), .int .i64 0, .slice none 0 0, .slice none 0 0] 102 (0, 0)), (b_1, .cells #[.string p0.Kind, pv0_0, .bool p0.Not] 114 (0, 0))] (ob (.slice none 0 0) :: [])) (fun w1 hw => hw.addNil) ?_
  have k1 := OSl.nil RTVal 121 3 Φ
  refine WT.conv (S' := St w0 Φ [(b_3, .cells #[.string p0.Kind, .int .i64 (p0.Args.length : Int), (.slice none 0 0), .slice none 0 0] 102 (0, 0)), (b_2, .cells #[.string (⟨#[]⟩ : ByteArray), .int .i64 0, .slice none 0 0, .slice none 0 0] 102 (0, 0)), (b_1, .cells #[.string p0.Kind, pv0_0, .bool p0.Not] 114 (0, 0))] (ob (.slice none 0 0) :: [ob (.slice none 0 0)])) (fun w1 hw => hw.addNil) ?_
  have k2 := OSl.nil (RI .i64) 3 1 Φ
  refine WT.mono (l' := [(1, .pointer (some ⟨b_1, 0, none⟩)), (2, .pointer (some ⟨b_2, 0, none⟩)), (3, .pointer (some ⟨b_3, 0, none⟩)), (4, .int .i64 0)]) (S' := St w0 Φ [(b_3, .cells #[.string p0.Kind, .int .i64 (p0.Args.length : Int), (.slice none 0 0), (.slice none 0 0)] 102 (0, 0)), (b_2, .cells #[.string (⟨#[]⟩ : ByteArray), .int .i64 0, .slice none 0 0, .slice none 0 0] 102 (0, 0)), (b_1, .cells #[.string p0.Kind, pv0_0, .bool p0.Not] 114 (0, 0))] [ob (.slice none 0 0), ob (.slice none 0 0)]) ⟨rfl, rfl, rfl, rfl, trivial⟩ (fun w1 hw => (hw.sel (js := [0, 0]) rfl).selO (js := [0, 0, 0]) rfl) ?_
  refine loop_ind (σ := Hp × (List TVal) × Value × (List Int) × Value × Int) (fun s => [(1, .pointer (some ⟨b_1, 0, none⟩)), (2, .pointer (some ⟨b_2, 0, none⟩)), (3, .pointer (some ⟨b_3, 0, none⟩)), (4, .int .i64 s.2.2.2.2.2)]) (fun s => St w0 s.1 [(b_3, .cells #[.string p0.Kind, .int .i64 (p0.Args.length : Int), s.2.2.1, s.2.2.2.2.1] 102 (0, 0)), (b_2, .cells #[.string (⟨#[]⟩ : ByteArray), .int .i64 0, .slice none 0 0, .slice none 0 0] 102 (0, 0)), (b_1, .cells #[.string p0.Kind, pv0_0, .bool p0.Not] 114 (0, 0))] [ob s.2.2.2.2.1, ob s.2.2.1]) (fun m s => m_s_AlphaOf_l1 N p0 m s.2.1 s.2.2.2.1 s.2.2.2.2.2 = some r ∧ (OSl RTVal 121 3 s.1 [] s.2.2.1 s.2.1) ∧ (OSl (RI .i64) 3 1 s.1 [] s.2.2.2.2.1 s.2.2.2.1) ∧ (RSl RTArg 5 s.1 pG0_0 pv0_0 p0.Args)) (fun s hm => none_ne (show (none : Option (TAlpha)) = some r from hm.1)) (fun n1 ih1 s hm => ?_) N (Φ, ([] : List TVal), (.slice none 0 0), ([] : List Int), (.slice none 0 0), 0) ⟨h, k1, k2, ph0_0⟩
  obtain ⟨Φ_1, s1, u1, s2, u2, s3⟩ := s
  obtain ⟨h, k3, k4, ph0_0⟩ := hm
  replace h : m_s_AlphaOf_l1 N p0 (n1 + 1) s1 s2 s3 = some r := h
  replace k3 : OSl RTVal 121 3 Φ_1 [] u1 s1 := k3
  replace k4 : OSl (RI .i64) 3 1 Φ_1 [] u2 s2 := k4
  replace ph0_0 : RSl RTArg 5 Φ_1 pG0_0 pv0_0 p0.Args := ph0_0
  show WT _ _ [(1, .pointer (some ⟨b_1, 0, none⟩)), (2, .pointer (some ⟨b_2, 0, none⟩)), (3, .pointer (some ⟨b_3, 0, none⟩)), (4, .int .i64 s3)] (St w0 Φ_1 [(b_3, .cells #[.string p0.Kind, .int .i64 (p0.Args.length : Int), u1, u2] 102 (0, 0)), (b_2, .cells #[.string (⟨#[]⟩ : ByteArray), .int .i64 0, .slice none 0 0, .slice none 0 0] 102 (0, 0)), (b_1, .cells #[.string p0.Kind, pv0_0, .bool p0.Not] 114 (0, 0))] [ob u2, ob u1])
  unfold m_s_AlphaOf_l1 at h
  refine WT.seq ?_
  refine WT.seq ?_
  refine WT.region ?_
  refine lq (q_move rfl) rfl ?_
  refine lq (q_fieldAddr Fld_114_1 rfl) rfl ?_
  refine lq (q_load1 T1_112 rfl (fun w1 hw => hw.rgO (i := 2) rfl 1 1 [pv0_0] rfl)) rfl ?_
  refine lq (q_lenR Sl_112 rfl rfl ph0_0) rfl ?_
  refine lq (q_lss rfl rfl) rfl ?_
  refine WL.nil ?_
  refine WT.cond rfl (fun c1 => ?_) (fun c1 => ?_)
  · replace h := ite_t h c1
    refine WT.skip ?_
    refine WT.seq ?_
    refine WT.block ?_
    refine WT.seq ?_
    refine WT.region ?_
    refine lq (q_fieldAddr Fld_114_1 rfl) rfl ?_
    refine lq (q_load1 T1_112 rfl (fun w1 hw => hw.rgO (i := 2) rfl 1 1 [pv0_0] rfl)) rfl ?_
    refine lq (q_move rfl) rfl ?_
    obtain ⟨x1, hx1, h⟩ := bind_some h
    obtain ⟨cs1, F1, -, g1, hb1, hs1, r1⟩ := ph0_0.el (idx_some hx1).2.2
    obtain ⟨rfl, -⟩ := r1
    refine lq (q_indexAddr Sl_112 rfl rfl ph0_0 hx1) rfl ?_
    refine lq (q_fieldAddr Fld_126_0 rfl) rfl ?_
    refine lq (q_load1 T1_3 rfl (fun w1 hw => (g1.of_eq 0 1 rfl rfl : rg _ _ _ [.int .i64 x1.K]).rangeAt hw.fro)) rfl ?_
    refine lq (q_eql rfl rfl) rfl ?_
    refine WL.nil ?_
    refine WT.cond rfl (fun c2 => ?_) (fun c2 => ?_)
    · replace h := ite_t h c2
      refine WT.seq ?_
      refine WT.mix (Kn Φ_1 pG0_0 [(b_3, .cells #[.string p0.Kind, .int .i64 (p0.Args.length : Int), u1, u2] 102 (0, 0)), (b_2, .cells #[.string (⟨#[]⟩ : ByteArray), .int .i64 0, .slice none 0 0, .slice none 0 0] 102 (0, 0)), (b_1, .cells #[.string p0.Kind, pv0_0, .bool p0.Not] 114 (0, 0))]) (fun i => match i with | 11 => false | _ => true) mixed (fun _ h => h.drew) ?_
      refine mq 0 rfl (by kernel_rfl) (fun w1 hw => Kn.of (fun _ _ _ h => h) (AllIn.mem ⟨List.mem_of_getElem? (i := 0) rfl, List.mem_of_getElem? (i := 1) rfl, List.mem_of_getElem? (i := 2) rfl, trivial⟩) hw) (q_fieldAddr Fld_102_2 rfl) rfl ?_
      refine mq 1 rfl (by kernel_rfl) (fun w1 hw => Kn.of (fun _ _ _ h => h) (AllIn.mem ⟨List.mem_of_getElem? (i := 0) rfl, List.mem_of_getElem? (i := 1) rfl, List.mem_of_getElem? (i := 2) rfl, trivial⟩) hw) (q_load1 T1_100 rfl (fun w1 hw => hw.rgO (i := 0) rfl 2 1 [u1] rfl)) rfl ?_
      refine mq 2 rfl (by kernel_rfl) (fun w1 hw => Kn.of (fun _ _ _ h => h) (AllIn.mem ⟨List.mem_of_getElem? (i := 0) rfl, List.mem_of_getElem? (i := 1) rfl, List.mem_of_getElem? (i := 2) rfl, trivial⟩) hw) (q_fieldAddr Fld_114_1 rfl) rfl ?_
      refine mq 3 rfl (by kernel_rfl) (fun w1 hw => Kn.of (fun _ _ _ h => h) (AllIn.mem ⟨List.mem_of_getElem? (i := 0) rfl, List.mem_of_getElem? (i := 1) rfl, List.mem_of_getElem? (i := 2) rfl, trivial⟩) hw) (q_load1 T1_112 rfl (fun w1 hw => hw.rgO (i := 2) rfl 1 1 [pv0_0] rfl)) rfl ?_
      refine mq 4 rfl (by kernel_rfl) (fun w1 hw => Kn.of (fun _ _ _ h => h) (AllIn.mem ⟨List.mem_of_getElem? (i := 0) rfl, List.mem_of_getElem? (i := 1) rfl, List.mem_of_getElem? (i := 2) rfl, trivial⟩) hw) (q_move rfl) rfl ?_
      obtain ⟨x2, hx2, h⟩ := bind_some h
      obtain ⟨cs2, F2, -, g2, hb2, hs2, r2⟩ := ph0_0.el (idx_some hx2).2.2
      obtain ⟨rfl, -⟩ := r2
      refine mq 5 rfl (by kernel_rfl) (fun w1 hw => Kn.of (fun _ _ _ h => h) (AllIn.mem ⟨List.mem_of_getElem? (i := 0) rfl, List.mem_of_getElem? (i := 1) rfl, List.mem_of_getElem? (i := 2) rfl, trivial⟩) hw) (q_indexAddr Sl_112 rfl rfl ph0_0 hx2) rfl ?_
      refine mq 6 rfl (by kernel_rfl) (fun w1 hw => Kn.of (fun _ _ _ h => h) (AllIn.mem ⟨List.mem_of_getElem? (i := 0) rfl, List.mem_of_getElem? (i := 1) rfl, List.mem_of_getElem? (i := 2) rfl, trivial⟩) hw) (q_fieldAddr Fld_126_2 rfl) rfl ?_
      refine mq 7 rfl (by kernel_rfl) (fun w1 hw => Kn.of (fun _ _ _ h => h) (AllIn.mem ⟨List.mem_of_getElem? (i := 0) rfl, List.mem_of_getElem? (i := 1) rfl, List.mem_of_getElem? (i := 2) rfl, trivial⟩) hw) (q_loadN Tn_121 rfl (fun w1 hw => hw.rg hb2 (g2.of_eq 2 3 rfl rfl : rg _ _ _ [.int .i64 x2.V.K, .int .i64 x2.V.N, .string x2.V.S])) rfl) rfl ?_
      have rc1 : RC RTVal 3 Φ_1 ([[]] : List (List Nat)) [.int .i64 x2.V.K, .int .i64 x2.V.N, .string x2.V.S] ([x2.V] : List TVal) := RC.cons (c := [.int .i64 x2.V.K, .int .i64 x2.V.N, .string x2.V.S]) (cells := []) ⟨rfl, rfl⟩ rfl (RC.nil _ _ _)
      refine WM.one 8 (by kernel_rfl) (me rfl (fun _ v Φx D w1 hq hw => Kn.of (fun k hk o ho => hq.1 k o (by simp) ((fun _ _ _ h => h) k hk o ho)) (AllIn.mem ⟨List.mem_of_getElem? (i := 0) rfl, List.mem_of_getElem? (i := 1) rfl, List.mem_of_getElem? (i := 2) rfl, trivial⟩) hw) (e_lit (vs := [(0, .agg [.int .i64 x2.V.K, .int .i64 x2.V.N, .string x2.V.S].toArray)]) (C := #[.int .i64 x2.V.K, .int .i64 x2.V.N, .string x2.V.S]) RTVal.lasts Sl_100 Zr_121 rfl rfl rfl rfl (fill_made MC_121_1 (fill_cons (cells := [.int .i64 0, .int .i64 0, .string ⟨#[]⟩]) (c := [.int .i64 x2.V.K, .int .i64 x2.V.N, .string x2.V.S]) (C' := [.int .i64 x2.V.K, .int .i64 x2.V.N, .string x2.V.S]) rfl rfl rfl rfl rfl (fill_nil))) rfl rc1 rfl (by simpa using Kw.nil)) rfl (fun v1 Φ_2 D1 q1 => ?_))
      obtain ⟨fr1, h1⟩ := q1
      replace h1 : OSl RTVal 121 3 Φ_2 [] v1 ([x2.V] : List TVal) := by simpa using h1
      replace ph0_0 := ph0_0.frame RTArg.lasts fr1 (Dj.empty _)
      replace k3 := k3.frame RTVal.lasts fr1 (Dj.empty _) (Dj.empty _)
      replace k4 := k4.frame RI.lasts fr1 (Dj.empty _) (Dj.empty _)
      obtain ⟨x3, hx3, h⟩ := bind_some h
      refine WM.one 9 (by kernel_rfl) (me rfl (fun _ v Φx D w1 hq hw => Kn.of (fun k hk o ho => hq.1.2 k o ((hq.1.1.o pa0_0) k hk) ((fun k hk o ho => fr1 k o (by simp) ((fun _ _ _ h => h) k hk o ho)) k hk o ho)) (AllIn.mem ⟨List.mem_of_getElem? (i := 0) rfl, List.mem_of_getElem? (i := 1) rfl, List.mem_of_getElem? (i := 2) rfl, trivial⟩) hw) (e_appF RTVal.lasts RTVal.one RTVal.flat Sl_100 Ei_121 rfl rfl rfl rfl rfl (js := [2]) (Rr := [ob v1, ob u2]) rfl k3 h1.rsl hx3) rfl (fun v2 Φ_3 D2 q2 => ?_))
      obtain ⟨⟨ap1, fr2⟩, h2⟩ := q2
      replace ph0_0 := ph0_0.frame RTArg.lasts fr2 (ap1.o pa0_0)
      replace k4 := k4.frame RI.lasts fr2 (ap1.r (i := 1) rfl) (Dj.nil _)
      refine mq 10 rfl (by kernel_rfl) (fun w1 hw => Kn.of (fun k hk o ho => fr2 k o ((ap1.o pa0_0) k hk) ((fun k hk o ho => fr1 k o (by simp) ((fun _ _ _ h => h) k hk o ho)) k hk o ho)) (AllIn.mem ⟨List.mem_of_getElem? (i := 0) rfl, List.mem_of_getElem? (i := 1) rfl, List.mem_of_getElem? (i := 2) rfl, trivial⟩) hw) (q_fieldAddr Fld_102_2 rfl) rfl ?_
      refine WM.one 11 (by kernel_rfl) (ms rfl (fun hc => by cases hc) (s_store (i := 0) (vs := [v2]) (C' := [.string p0.Kind, .int .i64 (p0.Args.length : Int), v2, u2]) (O' := [(b_3, .cells #[.string p0.Kind, .int .i64 (p0.Args.length : Int), v2, u2] 102 (0, 0)), (b_2, .cells #[.string (⟨#[]⟩ : ByteArray), .int .i64 0, .slice none 0 0, .slice none 0 0] 102 (0, 0)), (b_1, .cells #[.string p0.Kind, pv0_0, .bool p0.Not] 114 (0, 0))]) Sz_100 rfl rfl rfl (one_cells h2.one) rfl rfl ⟨h2.one, trivial⟩ rfl rfl) rfl ?_)
      refine WM.nil (by kernel_rfl) ?_
      refine WT.region ?_
      refine lq (q_fieldAddr Fld_102_3 rfl) rfl ?_
      refine lq (q_load1 T1_41 rfl (fun w1 hw => hw.rgO (i := 0) rfl 3 1 [u2] rfl)) rfl ?_
      refine lq (q_move rfl) rfl ?_
      have rc2 : RC (RI .i64) 1 Φ_3 ([[]] : List (List Nat)) [.int .i64 s3] ([s3] : List Int) := RC.cons (c := [.int .i64 s3]) (cells := []) ⟨rfl, rfl⟩ rfl (RC.nil _ _ _)
      refine le' (e_lit (vs := [(0, .int .i64 s3)]) (C := #[.int .i64 s3]) RI.lasts Sl_41 Zr_3 rfl rfl rfl rfl (fill_made MC_3_1 (fill_cons (cells := [.int .i64 0]) (c := [.int .i64 s3]) (C' := [.int .i64 s3]) rfl rfl rfl rfl rfl (fill_nil))) rfl rc2 rfl (by simpa using Kw.nil)) rfl (fun v3 Φ_4 D3 q3 => ?_)
      obtain ⟨fr3, h3⟩ := q3
      replace h3 : OSl (RI .i64) 3 1 Φ_4 [] v3 ([s3] : List Int) := by simpa using h3
      replace ph0_0 := ph0_0.frame RTArg.lasts fr3 (Dj.empty _)
      replace h2 := h2.frame RTVal.lasts fr3 (Dj.empty _) (Dj.empty _)
      replace k4 := k4.frame RI.lasts fr3 (Dj.empty _) (Dj.empty _)
      obtain ⟨x4, hx4, h⟩ := bind_some h
      refine le' (e_appF RI.lasts RI.one RI.flat Sl_41 Ei_3 rfl rfl rfl rfl rfl (js := [3]) (Rr := [ob v3, ob v2, ob v1]) rfl k4 h3.rsl hx4) rfl (fun v4 Φ_5 D4 q4 => ?_)
      obtain ⟨⟨ap2, fr4⟩, h4⟩ := q4
      replace ph0_0 := ph0_0.frame RTArg.lasts fr4 (ap2.o pa0_0)
      replace h2 := h2.frame RTVal.lasts fr4 (ap2.r (i := 1) rfl) (Dj.nil _)
      refine lq (q_fieldAddr Fld_102_3 rfl) rfl ?_
      refine ls (s_store (i := 0) (vs := [v4]) (C' := [.string p0.Kind, .int .i64 (p0.Args.length : Int), v2, v4]) (O' := [(b_3, .cells #[.string p0.Kind, .int .i64 (p0.Args.length : Int), v2, v4] 102 (0, 0)), (b_2, .cells #[.string (⟨#[]⟩ : ByteArray), .int .i64 0, .slice none 0 0, .slice none 0 0] 102 (0, 0)), (b_1, .cells #[.string p0.Kind, pv0_0, .bool p0.Not] 114 (0, 0))]) Sz_41 rfl rfl rfl (one_cells h4.one) rfl rfl ⟨h4.one, trivial⟩ rfl rfl) rfl ?_
      refine WL.nil ?_
      refine WT.inBlock ?_
      refine WT.region ?_
      refine lq (q_move rfl) rfl ?_
      refine lq (q_add rfl rfl) rfl ?_
      refine lq (q_assign rfl) rfl ?_
      refine WL.nil ?_
      refine WT.inLoop (WT.mono (l' := [(1, .pointer (some ⟨b_1, 0, none⟩)), (2, .pointer (some ⟨b_2, 0, none⟩)), (3, .pointer (some ⟨b_3, 0, none⟩)), (4, .int .i64 (IntKind.i64.wrap (s3 + 1)))]) (S' := St w0 Φ_5 [(b_3, .cells #[.string p0.Kind, .int .i64 (p0.Args.length : Int), v2, v4] 102 (0, 0)), (b_2, .cells #[.string (⟨#[]⟩ : ByteArray), .int .i64 0, .slice none 0 0, .slice none 0 0] 102 (0, 0)), (b_1, .cells #[.string p0.Kind, pv0_0, .bool p0.Not] 114 (0, 0))] [ob v4, ob v2]) ⟨rfl, rfl, rfl, rfl, trivial⟩ (fun w1 hw => (hw.sel (js := [0, 1]) rfl).selO (js := [0, 0, 0]) rfl) ?_)
      exact ih1 (Φ_5, x3, v2, x4, v4, IntKind.i64.wrap (s3 + 1)) ⟨h, h2, h4, ph0_0⟩
    replace h := ite_f h c2
    refine WT.skip ?_
    refine WT.inBlock ?_
    refine WT.region ?_
    refine lq (q_move rfl) rfl ?_
    refine lq (q_add rfl rfl) rfl ?_
    refine lq (q_assign rfl) rfl ?_
    refine WL.nil ?_
    refine WT.inLoop (WT.mono (l' := [(1, .pointer (some ⟨b_1, 0, none⟩)), (2, .pointer (some ⟨b_2, 0, none⟩)), (3, .pointer (some ⟨b_3, 0, none⟩)), (4, .int .i64 (IntKind.i64.wrap (s3 + 1)))]) (S' := St w0 Φ_1 [(b_3, .cells #[.string p0.Kind, .int .i64 (p0.Args.length : Int), u1, u2] 102 (0, 0)), (b_2, .cells #[.string (⟨#[]⟩ : ByteArray), .int .i64 0, .slice none 0 0, .slice none 0 0] 102 (0, 0)), (b_1, .cells #[.string p0.Kind, pv0_0, .bool p0.Not] 114 (0, 0))] [ob u2, ob u1]) ⟨rfl, rfl, rfl, rfl, trivial⟩ (fun w1 hw => (hw.sel (js := [0, 0]) rfl).selO (js := [0, 0, 0]) rfl) ?_)
    exact ih1 (Φ_1, s1, u1, s2, u2, IntKind.i64.wrap (s3 + 1)) ⟨h, k3, k4, ph0_0⟩
  replace h := ite_f h c1
  refine WT.exit rfl ?_
  refine WT.seq ?_
  refine WT.region ?_
  refine lq (q_loadN Tn_102 rfl (fun w1 hw => hw.rgO (i := 0) rfl 0 4 [.string p0.Kind, .int .i64 (p0.Args.length : Int), u1, u2] rfl) rfl) rfl ?_
  refine ls (s_store (i := 1) (vs := [.string p0.Kind, .int .i64 (p0.Args.length : Int), u1, u2]) (C' := [.string p0.Kind, .int .i64 (p0.Args.length : Int), u1, u2]) (O' := [(b_3, .cells #[.string p0.Kind, .int .i64 (p0.Args.length : Int), u1, u2] 102 (0, 0)), (b_2, .cells #[.string p0.Kind, .int .i64 (p0.Args.length : Int), u1, u2] 102 (0, 0)), (b_1, .cells #[.string p0.Kind, pv0_0, .bool p0.Not] 114 (0, 0))]) Sz_102 rfl rfl rfl rfl rfl rfl ⟨rfl, rfl, k3.one, k4.one, trivial⟩ rfl rfl) rfl ?_
  refine WL.nil ?_
  refine WT.ret Tryz.func105 (resOk.one (rv_cell Tn_102 rfl (fun w1 hw => hw.rgO (i := 1) rfl 0 4 [.string p0.Kind, .int .i64 (p0.Args.length : Int), u1, u2] rfl) rfl)) (fun w1 hw => ?_)
  subst hb0
  cases h
  refine postG_of_St (js := [1, 0]) hw rfl ⟨u1, u2, rfl, rfl, k3, k4⟩
theorem m_s_l12Net_ok {Φ : Hp} {w : World} (hΦ : In Φ w) (N : Nat) (p0 : TDef) {pv0_0 : Value} {pG0_0 : List Nat} (ph0_0 : RSl RTRule 5 Φ pG0_0 pv0_0 p0.Rules) {r : TNet} (h : m_s_l12Net N p0 = some r) :
    Calls Tryz.prog 46 [.agg [.string p0.Name, pv0_0].toArray].toArray w (PostG Φ w [] (fun Φ' Fs v => ∃ (sr_0_0 : Value) (Dr_0_0 : List Nat) (sr_0_1 : Value) (Dr_0_1 : List Nat) (X : List Nat), v = .agg [sr_0_0, sr_0_1].toArray ∧ Fs = [ob sr_0_0, ob sr_0_1, Dr_0_1, X] ∧ OSl RTAlpha 102 4 Φ' Dr_0_0 sr_0_0 r.Alphas ∧ (∀ k ∈ Dr_0_0, k ∈ X) ∧ OSl OTChain 43 2 Φ' Dr_0_1 sr_0_1 r.Chains)) := by
  refine enter Tryz.func46 rfl Tryz.ntmps46 rfl (St.start0 hΦ) ?_
  have pa0_0 : Old ⟨w, [], Φ⟩ pG0_0 := Old.mk hΦ ph0_0.kn (Dj.empty _)
  revert pa0_0
  generalize hb0 : (⟨w, [], Φ⟩ : Base) = w0
  intro pa0_0
  unfold m_s_l12Net at h
  refine WT.seq ?_
  refine WT.region ?_
  refine ln (n_box (C := #[.string p0.Name, pv0_0]) rfl rfl) rfl (fun b_1 => ?_)
  refine ln (n_alloc (C := #[.slice none 0 0, .slice none 0 0]) Zr_27 rfl) rfl (fun b_2 => ?_)
  refine WL.nil ?_
  refine WT.seq ?_
  refine WT.region ?_
  refine lq (q_build (vs := []) (C := #[.slice none 0 0, .slice none 0 0]) Pl_27 Zr_27 rfl (fill_nil)) rfl ?_
  refine ln (n_alloc (C := #[.slice none 0 0, .slice none 0 0]) Zr_27 rfl) rfl (fun b_3 => ?_)
  refine ls (s_store (i := 0) (vs := [.slice none 0 0, .slice none 0 0]) (C' := [.slice none 0 0, .slice none 0 0]) (O' := [(b_3, .cells #[.slice none 0 0, .slice none 0 0] 27 (0, 0)), (b_2, .cells #[.slice none 0 0, .slice none 0 0] 27 (0, 0)), (b_1, .cells #[.string p0.Name, pv0_0] 30 (0, 0))]) Sz_27 rfl rfl rfl rfl rfl rfl ⟨rfl, rfl, trivial⟩ rfl rfl) rfl ?_
  refine WL.nil ?_
  refine WT.seq ?_
  refine WT.seq ?_
  refine WT.region ?_
  refine lq (q_assign rfl) rfl ?_
  refine WL.nil ?_
  refine WT.block ?_
  refine WT.loop ?_
  refine WT.conv (S' := St w0 Φ [(b_3, .cells #[.slice none 0 0, .slice none 0 0] 27 (0, 0)), (b_2, .cells #[.slice none 0 0, .slice none 0 0] 27 (0, 0)), (b_1, .cells #[.string p0.Name, pv0_0] 30 (0, 0))] ([] :: [])) (fun w1 hw => hw.addNil) ?_
  refine WT.conv (S' := St w0 Φ [(b_3, .cells #[.slice none 0 0, .slice none 0 0] 27 (0, 0)), (b_2, .cells #[.slice none 0 0, .slice none 0 0] 27 (0, 0)), (b_1, .cells #[.string p0.Name, pv0_0] 30 (0, 0))] (ob (.slice none 0 0) :: [[]])) (fun w1 hw => hw.addNil) ?_
  have k1 := OSl.nil RTAlpha 102 4 Φ
  refine WT.conv (S' := St w0 Φ [(b_3, .cells #[(.slice none 0 0), .slice none 0 0] 27 (0, 0)), (b_2, .cells #[.slice none 0 0, .slice none 0 0] 27 (0, 0)), (b_1, .cells #[.string p0.Name, pv0_0] 30 (0, 0))] (ob (.slice none 0 0) :: [ob (.slice none 0 0), []])) (fun w1 hw => hw.addNil) ?_
  refine WT.conv (S' := St w0 Φ [(b_3, .cells #[(.slice none 0 0), .slice none 0 0] 27 (0, 0)), (b_2, .cells #[.slice none 0 0, .slice none 0 0] 27 (0, 0)), (b_1, .cells #[.string p0.Name, pv0_0] 30 (0, 0))] ([] :: [ob (.slice none 0 0), ob (.slice none 0 0), []])) (fun w1 hw => hw.addNil) ?_
  have k2 := OSl.nil OTChain 43 2 Φ
  refine WT.mono (l' := [(1, .pointer (some ⟨b_1, 0, none⟩)), (2, .pointer (some ⟨b_2, 0, none⟩)), (3, .pointer (some ⟨b_3, 0, none⟩)), (4, .int .i64 0)]) (S' := St w0 Φ [(b_3, .cells #[(.slice none 0 0), (.slice none 0 0)] 27 (0, 0)), (b_2, .cells #[.slice none 0 0, .slice none 0 0] 27 (0, 0)), (b_1, .cells #[.string p0.Name, pv0_0] 30 (0, 0))] [[], ob (.slice none 0 0), ob (.slice none 0 0), []]) ⟨rfl, rfl, rfl, rfl, trivial⟩ (fun w1 hw => (hw.sel (js := [0, 0, 0, 0]) rfl).selO (js := [0, 0, 0]) rfl) ?_
  refine loop_ind (σ := Hp × List Nat × (List TAlpha) × Value × List Nat × (List TChain) × Value × List Nat × Int) (fun s => [(1, .pointer (some ⟨b_1, 0, none⟩)), (2, .pointer (some ⟨b_2, 0, none⟩)), (3, .pointer (some ⟨b_3, 0, none⟩)), (4, .int .i64 s.2.2.2.2.2.2.2.2)]) (fun s => St w0 s.1 [(b_3, .cells #[s.2.2.2.1, s.2.2.2.2.2.2.1] 27 (0, 0)), (b_2, .cells #[.slice none 0 0, .slice none 0 0] 27 (0, 0)), (b_1, .cells #[.string p0.Name, pv0_0] 30 (0, 0))] [s.2.2.2.2.2.2.2.1, ob s.2.2.2.2.2.2.1, ob s.2.2.2.1, s.2.1]) (fun m s => m_s_l12Net_l1 N p0 m s.2.2.1 s.2.2.2.2.2.1 s.2.2.2.2.2.2.2.2 = some r ∧ (OSl RTAlpha 102 4 s.1 s.2.2.2.2.1 s.2.2.2.1 s.2.2.1) ∧ (∀ k ∈ s.2.2.2.2.1, k ∈ s.2.1) ∧ (OSl OTChain 43 2 s.1 s.2.2.2.2.2.2.2.1 s.2.2.2.2.2.2.1 s.2.2.2.2.2.1) ∧ (RSl RTRule 5 s.1 pG0_0 pv0_0 p0.Rules)) (fun s hm => none_ne (show (none : Option (TNet)) = some r from hm.1)) (fun n1 ih1 s hm => ?_) N (Φ, [], ([] : List TAlpha), (.slice none 0 0), [], ([] : List TChain), (.slice none 0 0), [], 0) ⟨h, k1, (by simp), k2, ph0_0⟩
  obtain ⟨Φ_1, X1, s1, u1, D1, s2, u2, D2, s3⟩ := s
  obtain ⟨h, k3, i1, k4, ph0_0⟩ := hm
  replace h : m_s_l12Net_l1 N p0 (n1 + 1) s1 s2 s3 = some r := h
  replace k3 : OSl RTAlpha 102 4 Φ_1 D1 u1 s1 := k3
  replace i1 : ∀ k ∈ D1, k ∈ X1 := i1
  replace k4 : OSl OTChain 43 2 Φ_1 D2 u2 s2 := k4
  replace ph0_0 : RSl RTRule 5 Φ_1 pG0_0 pv0_0 p0.Rules := ph0_0
  show WT _ _ [(1, .pointer (some ⟨b_1, 0, none⟩)), (2, .pointer (some ⟨b_2, 0, none⟩)), (3, .pointer (some ⟨b_3, 0, none⟩)), (4, .int .i64 s3)] (St w0 Φ_1 [(b_3, .cells #[u1, u2] 27 (0, 0)), (b_2, .cells #[.slice none 0 0, .slice none 0 0] 27 (0, 0)), (b_1, .cells #[.string p0.Name, pv0_0] 30 (0, 0))] [D2, ob u2, ob u1, X1])
  unfold m_s_l12Net_l1 at h
  refine WT.seq ?_
  refine WT.seq ?_
  refine WT.region ?_
  refine lq (q_move rfl) rfl ?_
  refine lq (q_fieldAddr Fld_30_1 rfl) rfl ?_
  refine lq (q_load1 T1_28 rfl (fun w1 hw => hw.rgO (i := 2) rfl 1 1 [pv0_0] rfl)) rfl ?_
  refine lq (q_lenR Sl_28 rfl rfl ph0_0) rfl ?_
  refine lq (q_lss rfl rfl) rfl ?_
  refine WL.nil ?_
  refine WT.cond rfl (fun c1 => ?_) (fun c1 => ?_)
  · replace h := ite_t h c1
    refine WT.skip ?_
    refine WT.seq ?_
    refine WT.block ?_
    refine WT.seq ?_
    refine WT.region ?_
    refine lq (q_build (vs := []) (C := #[.slice none 0 0, .slice none 0 0]) Pl_43 Zr_43 rfl (fill_nil)) rfl ?_
    refine ln (n_alloc (C := #[.slice none 0 0, .slice none 0 0]) Zr_43 rfl) rfl (fun b_4 => ?_)
    refine ls (s_store (i := 0) (vs := [.slice none 0 0, .slice none 0 0]) (C' := [.slice none 0 0, .slice none 0 0]) (O' := [(b_4, .cells #[.slice none 0 0, .slice none 0 0] 43 (0, 0)), (b_3, .cells #[u1, u2] 27 (0, 0)), (b_2, .cells #[.slice none 0 0, .slice none 0 0] 27 (0, 0)), (b_1, .cells #[.string p0.Name, pv0_0] 30 (0, 0))]) Sz_43 rfl rfl rfl rfl rfl rfl ⟨rfl, rfl, trivial⟩ rfl rfl) rfl ?_
    refine WL.nil ?_
    refine WT.seq ?_
    refine WT.seq ?_
    refine WT.region ?_
    refine lq (q_assign rfl) rfl ?_
    refine WL.nil ?_
    refine WT.block ?_
    refine WT.loop ?_
    refine WT.conv (S' := St w0 Φ_1 [(b_4, .cells #[.slice none 0 0, .slice none 0 0] 43 (0, 0)), (b_3, .cells #[u1, u2] 27 (0, 0)), (b_2, .cells #[.slice none 0 0, .slice none 0 0] 27 (0, 0)), (b_1, .cells #[.string p0.Name, pv0_0] 30 (0, 0))] ([] :: [D2, ob u2, ob u1, X1])) (fun w1 hw => hw.addNil) ?_
    refine WT.conv (S' := St w0 Φ_1 [(b_4, .cells #[.slice none 0 0, .slice none 0 0] 43 (0, 0)), (b_3, .cells #[u1, u2] 27 (0, 0)), (b_2, .cells #[.slice none 0 0, .slice none 0 0] 27 (0, 0)), (b_1, .cells #[.string p0.Name, pv0_0] 30 (0, 0))] (ob (.slice none 0 0) :: [[], D2, ob u2, ob u1, X1])) (fun w1 hw => hw.addNil) ?_
    have k5 := OSl.nil (RI .i64) 3 1 Φ_1
    refine WT.conv (S' := St w0 Φ_1 [(b_4, .cells #[.slice none 0 0, (.slice none 0 0)] 43 (0, 0)), (b_3, .cells #[u1, u2] 27 (0, 0)), (b_2, .cells #[.slice none 0 0, .slice none 0 0] 27 (0, 0)), (b_1, .cells #[.string p0.Name, pv0_0] 30 (0, 0))] (ob (.slice none 0 0) :: [ob (.slice none 0 0), [], D2, ob u2, ob u1, X1])) (fun w1 hw => hw.addNil) ?_
    have k6 := OSl.nil (RI .i64) 3 1 Φ_1
    refine WT.mono (l' := [(1, .pointer (some ⟨b_1, 0, none⟩)), (2, .pointer (some ⟨b_2, 0, none⟩)), (3, .pointer (some ⟨b_3, 0, none⟩)), (4, .int .i64 s3), (5, .pointer (some ⟨b_4, 0, none⟩)), (6, .int .i64 0)]) (S' := St w0 Φ_1 [(b_4, .cells #[(.slice none 0 0), (.slice none 0 0)] 43 (0, 0)), (b_3, .cells #[u1, u2] 27 (0, 0)), (b_2, .cells #[.slice none 0 0, .slice none 0 0] 27 (0, 0)), (b_1, .cells #[.string p0.Name, pv0_0] 30 (0, 0))] [ob (.slice none 0 0), ob (.slice none 0 0), [], D2, ob u2, ob u1, X1]) ⟨rfl, rfl, rfl, rfl, rfl, rfl, trivial⟩ (fun w1 hw => (hw.sel (js := [0, 0, 0, 0, 0, 0, 0]) rfl).selO (js := [0, 0, 0, 0]) rfl) ?_
    refine loop_ind (σ := Hp × List Nat × (List TAlpha) × Value × List Nat × (List Int) × Value × (List Int) × Value × Int) (fun s => [(1, .pointer (some ⟨b_1, 0, none⟩)), (2, .pointer (some ⟨b_2, 0, none⟩)), (3, .pointer (some ⟨b_3, 0, none⟩)), (4, .int .i64 s3), (5, .pointer (some ⟨b_4, 0, none⟩)), (6, .int .i64 s.2.2.2.2.2.2.2.2.2)]) (fun s => St w0 s.1 [(b_4, .cells #[s.2.2.2.2.2.2.2.2.1, s.2.2.2.2.2.2.1] 43 (0, 0)), (b_3, .cells #[s.2.2.2.1, u2] 27 (0, 0)), (b_2, .cells #[.slice none 0 0, .slice none 0 0] 27 (0, 0)), (b_1, .cells #[.string p0.Name, pv0_0] 30 (0, 0))] [ob s.2.2.2.2.2.2.2.2.1, ob s.2.2.2.2.2.2.1, s.2.1, D2, ob u2, ob s.2.2.2.1, X1]) (fun m s => m_s_l12Net_l2 N p0 s2 s3 (m_s_l12Net_l1 N p0 n1) m s.2.2.1 s.2.2.2.2.2.1 s.2.2.2.2.2.2.2.1 s.2.2.2.2.2.2.2.2.2 = some r ∧ (OSl RTAlpha 102 4 s.1 s.2.2.2.2.1 s.2.2.2.1 s.2.2.1) ∧ (∀ k ∈ s.2.2.2.2.1, k ∈ (X1 ++ s.2.1)) ∧ (OSl OTChain 43 2 s.1 D2 u2 s2) ∧ (OSl (RI .i64) 3 1 s.1 [] s.2.2.2.2.2.2.1 s.2.2.2.2.2.1) ∧ (OSl (RI .i64) 3 1 s.1 [] s.2.2.2.2.2.2.2.2.1 s.2.2.2.2.2.2.2.1) ∧ (RSl RTRule 5 s.1 pG0_0 pv0_0 p0.Rules)) (fun s hm => none_ne (show (none : Option (TNet)) = some r from hm.1)) (fun n2 ih2 s hm => ?_) N (Φ_1, [], s1, u1, D1, ([] : List Int), (.slice none 0 0), ([] : List Int), (.slice none 0 0), 0) ⟨h, k3, (fun k hk => (List.mem_append.2 (.inl (i1 k hk)))), k4, k5, k6, ph0_0⟩
    obtain ⟨Φ_2, X2, s4, u3, D3, s5, u4, s6, u5, s7⟩ := s
    obtain ⟨h, k7, i2, k4, k8, k9, ph0_0⟩ := hm
    replace h : m_s_l12Net_l2 N p0 s2 s3 (m_s_l12Net_l1 N p0 n1) (n2 + 1) s4 s5 s6 s7 = some r := h
    replace k7 : OSl RTAlpha 102 4 Φ_2 D3 u3 s4 := k7
    replace i2 : ∀ k ∈ D3, k ∈ (X1 ++ X2) := i2
    replace k4 : OSl OTChain 43 2 Φ_2 D2 u2 s2 := k4
    replace k8 : OSl (RI .i64) 3 1 Φ_2 [] u4 s5 := k8
    replace k9 : OSl (RI .i64) 3 1 Φ_2 [] u5 s6 := k9
    replace ph0_0 : RSl RTRule 5 Φ_2 pG0_0 pv0_0 p0.Rules := ph0_0
    show WT _ _ [(1, .pointer (some ⟨b_1, 0, none⟩)), (2, .pointer (some ⟨b_2, 0, none⟩)), (3, .pointer (some ⟨b_3, 0, none⟩)), (4, .int .i64 s3), (5, .pointer (some ⟨b_4, 0, none⟩)), (6, .int .i64 s7)] (St w0 Φ_2 [(b_4, .cells #[u5, u4] 43 (0, 0)), (b_3, .cells #[u3, u2] 27 (0, 0)), (b_2, .cells #[.slice none 0 0, .slice none 0 0] 27 (0, 0)), (b_1, .cells #[.string p0.Name, pv0_0] 30 (0, 0))] [ob u5, ob u4, X2, D2, ob u2, ob u3, X1])
    unfold m_s_l12Net_l2 at h
    refine WT.seq ?_
    refine WT.seq ?_
    refine WT.region ?_
    refine lq (q_move rfl) rfl ?_
    refine lq (q_fieldAddr Fld_30_1 rfl) rfl ?_
    refine lq (q_load1 T1_28 rfl (fun w1 hw => hw.rgO (i := 3) rfl 1 1 [pv0_0] rfl)) rfl ?_
    refine lq (q_move rfl) rfl ?_
    obtain ⟨x1, hx1, h⟩ := bind_some h
    obtain ⟨cs1, F1, -, g1, hb1, hs1, r1⟩ := ph0_0.el (idx_some hx1).2.2
    obtain ⟨v1, G1, v2, G2, v3, G3, rfl, rfl, h1, h2, h3⟩ := r1
    refine lq (q_indexAddr Sl_28 rfl rfl ph0_0 hx1) rfl ?_
    refine lq (q_fieldAddr Fld_49_2 rfl) rfl ?_
    refine lq (q_load1 T1_45 rfl (fun w1 hw => (g1.of_eq 2 1 rfl rfl : rg _ _ _ [v1]).rangeAt hw.fro)) rfl ?_
    refine lq (q_lenR Sl_45 rfl rfl h1) rfl ?_
    refine lq (q_lss rfl rfl) rfl ?_
    refine WL.nil ?_
    refine WT.cond rfl (fun c2 => ?_) (fun c2 => ?_)
    · replace h := ite_t h c2
      refine WT.skip ?_
      refine WT.seq ?_
      refine WT.block ?_
      refine WT.seq ?_
      refine WT.region ?_
      refine lq (q_fieldAddr Fld_30_1 rfl) rfl ?_
      refine lq (q_load1 T1_28 rfl (fun w1 hw => hw.rgO (i := 3) rfl 1 1 [pv0_0] rfl)) rfl ?_
      refine lq (q_move rfl) rfl ?_
      obtain ⟨x2, hx2, h⟩ := bind_some h
      obtain ⟨cs2, F2, -, g2, hb2, hs2, r2⟩ := ph0_0.el (idx_some hx2).2.2
      obtain ⟨v4, G4, v5, G5, v6, G6, rfl, rfl, h4, h5, h6⟩ := r2
      refine lq (q_indexAddr Sl_28 rfl rfl ph0_0 hx2) rfl ?_
      refine lq (q_fieldAddr Fld_49_2 rfl) rfl ?_
      refine lq (q_load1 T1_45 rfl (fun w1 hw => (g2.of_eq 2 1 rfl rfl : rg _ _ _ [v4]).rangeAt hw.fro)) rfl ?_
      refine lq (q_move rfl) rfl ?_
      obtain ⟨x3, hx3, h⟩ := bind_some h
      obtain ⟨cs3, F3, -, g3, hb3, hs3, r3⟩ := h4.el (idx_some hx3).2.2
      obtain ⟨v7, G7, rfl, hq1, h7⟩ := r3
      obtain rfl := hq1.symm
      refine lq (q_indexAddr Sl_45 rfl rfl h4 hx3) rfl ?_
      refine lq (q_loadN Tn_114 rfl (fun w1 hw => (g3.of_eq 0 3 rfl rfl : rg _ _ _ [.string x3.Kind, v7, .bool x3.Not]).rangeAt hw.fro) rfl) rfl ?_
      refine ln (n_alloc (C := #[.string (⟨#[]⟩ : ByteArray), .slice none 0 0, .bool false]) Zr_114 rfl) rfl (fun b_5 => ?_)
      refine ls (s_store (i := 0) (vs := [.string x3.Kind, v7, .bool x3.Not]) (C' := [.string x3.Kind, v7, .bool x3.Not]) (O' := [(b_5, .cells #[.string x3.Kind, v7, .bool x3.Not] 114 (0, 0)), (b_4, .cells #[u5, u4] 43 (0, 0)), (b_3, .cells #[u3, u2] 27 (0, 0)), (b_2, .cells #[.slice none 0 0, .slice none 0 0] 27 (0, 0)), (b_1, .cells #[.string p0.Name, pv0_0] 30 (0, 0))]) Sz_114 rfl rfl rfl rfl rfl rfl ⟨rfl, h7.one, rfl, trivial⟩ rfl rfl) rfl ?_
      refine WL.nil ?_
      refine WT.seq ?_
      refine WT.region ?_
      refine lq (q_loadN Tn_114 rfl (fun w1 hw => hw.rgO (i := 0) rfl 0 3 [.string x3.Kind, v7, .bool x3.Not] rfl) rfl) rfl ?_
      obtain ⟨x4, hx4, h⟩ := bind_some h
      refine lc (k_call (js := []) (R := [ob u5, ob u4, X2, D2, ob u2, ob u3, X1]) Fun_105 rfl rfl (fun w1 hw ap hl => m_s_AlphaOf_ok hw.fro N x3 h7  hx4)) rfl (fun v8 Φ_3 F4 q1 => ?_)
      obtain ⟨ap1, fr1, v9, v10, rfl, rfl, h8, h9⟩ := q1
      replace ph0_0 := ph0_0.frame RTRule.lasts fr1 (ap1.o pa0_0)
      replace h7 := h7.frame RTArg.lasts fr1 (Dj.sub (Dj.sub (ap1.o pa0_0) (fun k h => hs2 k (List.mem_append.2 (.inl h)))) (fun k h => hs3 k h))
      replace k7 := k7.frame RTAlpha.lasts fr1 (ap1.r (i := 5) rfl) (Dj.sub (Dj.app (ap1.r (i := 6) rfl) (ap1.r (i := 2) rfl)) i2)
      replace k4 := k4.frame OTChain.lasts fr1 (ap1.r (i := 4) rfl) (ap1.r (i := 3) rfl)
      replace k8 := k8.frame RI.lasts fr1 (ap1.r (i := 1) rfl) (Dj.nil _)
      replace k9 := k9.frame RI.lasts fr1 (ap1.r (i := 0) rfl) (Dj.nil _)
      refine WL.frz (js := [2]) (R := [(b_5, .cells #[.string x3.Kind, v7, .bool x3.Not] 114 (0, 0)), (b_4, .cells #[u5, u4] 43 (0, 0)), (b_2, .cells #[.slice none 0 0, .slice none 0 0] 27 (0, 0)), (b_1, .cells #[.string p0.Name, pv0_0] 30 (0, 0))]) rfl (fun Φ_4 fr2 k10 => ?_)
      replace ph0_0 := ph0_0.frame RTRule.lasts fr2 (Dj.empty _)
      replace h7 := h7.frame RTArg.lasts fr2 (Dj.empty _)
      replace k7 := k7.frame RTAlpha.lasts fr2 (Dj.empty _) (Dj.empty _)
      replace k4 := k4.frame OTChain.lasts fr2 (Dj.empty _) (Dj.empty _)
      replace k8 := k8.frame RI.lasts fr2 (Dj.empty _) (Dj.empty _)
      replace k9 := k9.frame RI.lasts fr2 (Dj.empty _) (Dj.empty _)
      replace h8 := h8.frame RTVal.lasts fr2 (Dj.empty _) (Dj.empty _)
      replace h9 := h9.frame RI.lasts fr2 (Dj.empty _) (Dj.empty _)
      obtain ⟨x5, hx5, h⟩ := bind_some h
      refine lc (k_call (js := [0, 7]) (R := [ob v9, ob v10, ob u5, ob u4, X2, D2, ob u2, X1]) Fun_104 rfl rfl (fun w1 hw ap hl => m_s_l12Find_ok hw.fro N (⟨s4, s2⟩ : TNet) x4 k7 (k4.rslG OTChain.gives) k10 h8.rsl h9.rsl (Dj.sub (Dj.app (ap.r (i := 7) rfl) (ap.r (i := 4) rfl)) i2) (Dj.app (ap.r (i := 6) rfl) (ap.r (i := 5) rfl)) (Dj.app (ap.r (i := 0) rfl) (Dj.nil _)) (Dj.app (ap.r (i := 1) rfl) (Dj.nil _)) ap.nd hl hx5)) rfl (fun v11 Φ_5 F5 q2 => ?_)
      obtain ⟨ap2, fr3, v12, D4, rfl, rfl, h10, i3, e1, h11⟩ := q2
      replace ph0_0 := ph0_0.frame RTRule.lasts fr3 (ap2.o pa0_0)
      replace h7 := h7.frame RTArg.lasts fr3 (Dj.sub (Dj.sub (ap2.o pa0_0) (fun k h => hs2 k (List.mem_append.2 (.inl h)))) (fun k h => hs3 k h))
      replace k4 := k4.frame OTChain.lasts fr3 (ap2.r (i := 6) rfl) (ap2.r (i := 5) rfl)
      replace k8 := k8.frame RI.lasts fr3 (ap2.r (i := 3) rfl) (Dj.nil _)
      replace k9 := k9.frame RI.lasts fr3 (ap2.r (i := 2) rfl) (Dj.nil _)
      refine lq (q_assign rfl) rfl ?_
      refine WL.nil ?_
      refine WT.seq ?_
      refine WT.region ?_
      refine lq (q_fieldAddr Fld_114_2 rfl) rfl ?_
      refine lq (q_load1 T1_4 rfl (fun w1 hw => hw.rgO (i := 0) rfl 2 1 [.bool x3.Not] rfl)) rfl ?_
      refine WL.nil ?_
      refine WT.cond rfl (fun c3 => ?_) (fun c3 => ?_)
      · replace h := ite_t h c3
        refine WT.region ?_
        refine lq (q_fieldAddr Fld_43_1 rfl) rfl ?_
        refine lq (q_load1 T1_41 rfl (fun w1 hw => hw.rgO (i := 1) rfl 1 1 [u4] rfl)) rfl ?_
        refine lq (q_move rfl) rfl ?_
        have rc1 : RC (RI .i64) 1 Φ_5 ([[]] : List (List Nat)) [.int .i64 x5.1] ([x5.1] : List Int) := RC.cons (c := [.int .i64 x5.1]) (cells := []) ⟨rfl, rfl⟩ rfl (RC.nil _ _ _)
        refine le' (e_lit (vs := [(0, .int .i64 x5.1)]) (C := #[.int .i64 x5.1]) RI.lasts Sl_41 Zr_3 rfl rfl rfl rfl (fill_made MC_3_1 (fill_cons (cells := [.int .i64 0]) (c := [.int .i64 x5.1]) (C' := [.int .i64 x5.1]) rfl rfl rfl rfl rfl (fill_nil))) rfl rc1 rfl (by simpa using Kw.nil)) rfl (fun v13 Φ_6 D5 q3 => ?_)
        obtain ⟨fr4, h12⟩ := q3
        replace h12 : OSl (RI .i64) 3 1 Φ_6 [] v13 ([x5.1] : List Int) := by simpa using h12
        replace ph0_0 := ph0_0.frame RTRule.lasts fr4 (Dj.empty _)
        replace k4 := k4.frame OTChain.lasts fr4 (Dj.empty _) (Dj.empty _)
        replace k8 := k8.frame RI.lasts fr4 (Dj.empty _) (Dj.empty _)
        replace k9 := k9.frame RI.lasts fr4 (Dj.empty _) (Dj.empty _)
        replace h10 := h10.frame RTAlpha.lasts fr4 (Dj.empty _) (Dj.empty _)
        replace h11 := fr4 _ _ (by simp) h11
        obtain ⟨x6, hx6, h⟩ := bind_some h
        refine le' (e_appF RI.lasts RI.one RI.flat Sl_41 Ei_3 rfl rfl rfl rfl rfl (js := [6]) (Rr := [ob v13, [b_3], ob v12, ob v9, ob v10, ob u5, X2, D2, ob u2, X1]) rfl k8 h12.rsl hx6) rfl (fun v14 Φ_7 D6 q4 => ?_)
        obtain ⟨⟨ap3, fr5⟩, h13⟩ := q4
        replace ph0_0 := ph0_0.frame RTRule.lasts fr5 (ap3.o pa0_0)
        replace k4 := k4.frame OTChain.lasts fr5 (ap3.r (i := 8) rfl) (ap3.r (i := 7) rfl)
        replace k9 := k9.frame RI.lasts fr5 (ap3.r (i := 5) rfl) (Dj.nil _)
        replace h10 := h10.frame RTAlpha.lasts fr5 (ap3.r (i := 2) rfl) (Dj.sub (Dj.app (Dj.sub (Dj.app (ap3.r (i := 9) rfl) (ap3.r (i := 6) rfl)) i2) (Dj.app (Dj.sub (ap3.r (i := 3) rfl) apnil) (Dj.sub (ap3.r (i := 4) rfl) apnil))) i3)
        replace h11 := fr5 _ _ ((ap3.r (i := 1) rfl) _ (by simp)) h11
        refine lq (q_fieldAddr Fld_43_1 rfl) rfl ?_
        refine ls (s_store (i := 1) (vs := [v14]) (C' := [u5, v14]) (O' := [(b_5, .cells #[.string x3.Kind, v7, .bool x3.Not] 114 (0, 0)), (b_4, .cells #[u5, v14] 43 (0, 0)), (b_2, .cells #[.slice none 0 0, .slice none 0 0] 27 (0, 0)), (b_1, .cells #[.string p0.Name, pv0_0] 30 (0, 0))]) Sz_41 rfl rfl rfl (one_cells h13.one) rfl rfl ⟨h13.one, trivial⟩ rfl rfl) rfl ?_
        refine WL.nil ?_
        refine WT.inBlock ?_
        refine WT.region ?_
        refine lq (q_move rfl) rfl ?_
        refine lq (q_add rfl rfl) rfl ?_
        refine lq (q_assign rfl) rfl ?_
        refine WL.nil ?_
        refine WT.thw (js := [2]) (R := [ob v14, ob v13, ob v12, ob v9, ob v10, ob u5, X2, D2, ob u2, X1]) rfl h11 (fun Φ_8 ap4 fr6 => ?_)
        replace ph0_0 := ph0_0.frame RTRule.lasts fr6 (ap4.o pa0_0)
        replace k4 := k4.frame OTChain.lasts fr6 (ap4.r (i := 8) rfl) (ap4.r (i := 7) rfl)
        replace h13 := h13.frame RI.lasts fr6 (ap4.r (i := 0) rfl) (Dj.nil _)
        replace k9 := k9.frame RI.lasts fr6 (ap4.r (i := 5) rfl) (Dj.nil _)
        replace h10 := h10.frame RTAlpha.lasts fr6 (ap4.r (i := 2) rfl) (Dj.sub (Dj.app (Dj.sub (Dj.app (ap4.r (i := 9) rfl) (ap4.r (i := 6) rfl)) i2) (Dj.app (Dj.sub (ap4.r (i := 3) rfl) apnil) (Dj.sub (ap4.r (i := 4) rfl) apnil))) i3)
        refine WT.conv (S' := St w0 Φ_8 [(b_3, .cells #[v12, u2] 27 (0, 0)), (b_5, .cells #[.string x3.Kind, v7, .bool x3.Not] 114 (0, 0)), (b_4, .cells #[u5, v14] 43 (0, 0)), (b_2, .cells #[.slice none 0 0, .slice none 0 0] 27 (0, 0)), (b_1, .cells #[.string p0.Name, pv0_0] 30 (0, 0))] [(X2 ++ (ob v9 ++ (ob v10))), ob v14, ob v13, ob v12, ob u5, D2, ob u2, X1]) (fun w1 hw => hw.merge (js := [6, 3, 3]) rfl (SP.eq (by simp [List.append_assoc]))) ?_
        refine WT.inLoop (WT.mono (l' := [(1, .pointer (some ⟨b_1, 0, none⟩)), (2, .pointer (some ⟨b_2, 0, none⟩)), (3, .pointer (some ⟨b_3, 0, none⟩)), (4, .int .i64 s3), (5, .pointer (some ⟨b_4, 0, none⟩)), (6, .int .i64 (IntKind.i64.wrap (s7 + 1)))]) (S' := St w0 Φ_8 [(b_4, .cells #[u5, v14] 43 (0, 0)), (b_3, .cells #[v12, u2] 27 (0, 0)), (b_2, .cells #[.slice none 0 0, .slice none 0 0] 27 (0, 0)), (b_1, .cells #[.string p0.Name, pv0_0] 30 (0, 0))] [ob u5, ob v14, (X2 ++ (ob v9 ++ (ob v10))), D2, ob u2, ob v12, X1]) ⟨rfl, rfl, rfl, rfl, rfl, rfl, trivial⟩ (fun w1 hw => (hw.sel (js := [4, 1, 0, 2, 2, 1, 1]) rfl).selO (js := [2, 0, 1, 1]) rfl) ?_)
        exact ih2 (Φ_8, (X2 ++ (ob v9 ++ (ob v10))), x5.2.Alphas, v12, D4, x6, v14, s6, u5, IntKind.i64.wrap (s7 + 1)) ⟨h, h10, (fun k hk => ((List.mem_append.1 (i3 k hk)).elim (fun h => ((List.mem_append.1 (i2 k h)).elim (fun h => (List.mem_append.2 (.inl h))) (fun h => (List.mem_append.2 (.inr ((fun k hk => (List.mem_append.2 (.inl hk))) k h)))))) (fun h => ((List.mem_append.1 h).elim (fun h => (List.mem_append.2 (.inr ((fun k hk => (List.mem_append.2 (.inr (List.mem_append.2 (.inl hk))))) k (apnil k h))))) (fun h => (List.mem_append.2 (.inr ((fun k hk => (List.mem_append.2 (.inr (List.mem_append.2 (.inr hk))))) k (apnil k h))))))))), k4, h13, k9, ph0_0⟩
      replace h := ite_f h c3
      refine WT.region ?_
      refine lq (q_fieldAddr Fld_43_0 rfl) rfl ?_
      refine lq (q_load1 T1_41 rfl (fun w1 hw => hw.rgO (i := 1) rfl 0 1 [u5] rfl)) rfl ?_
      refine lq (q_move rfl) rfl ?_
      have rc2 : RC (RI .i64) 1 Φ_5 ([[]] : List (List Nat)) [.int .i64 x5.1] ([x5.1] : List Int) := RC.cons (c := [.int .i64 x5.1]) (cells := []) ⟨rfl, rfl⟩ rfl (RC.nil _ _ _)
      refine le' (e_lit (vs := [(0, .int .i64 x5.1)]) (C := #[.int .i64 x5.1]) RI.lasts Sl_41 Zr_3 rfl rfl rfl rfl (fill_made MC_3_1 (fill_cons (cells := [.int .i64 0]) (c := [.int .i64 x5.1]) (C' := [.int .i64 x5.1]) rfl rfl rfl rfl rfl (fill_nil))) rfl rc2 rfl (by simpa using Kw.nil)) rfl (fun v15 Φ_9 D7 q5 => ?_)
      obtain ⟨fr7, h14⟩ := q5
      replace h14 : OSl (RI .i64) 3 1 Φ_9 [] v15 ([x5.1] : List Int) := by simpa using h14
      replace ph0_0 := ph0_0.frame RTRule.lasts fr7 (Dj.empty _)
      replace k4 := k4.frame OTChain.lasts fr7 (Dj.empty _) (Dj.empty _)
      replace k8 := k8.frame RI.lasts fr7 (Dj.empty _) (Dj.empty _)
      replace k9 := k9.frame RI.lasts fr7 (Dj.empty _) (Dj.empty _)
      replace h10 := h10.frame RTAlpha.lasts fr7 (Dj.empty _) (Dj.empty _)
      replace h11 := fr7 _ _ (by simp) h11
      obtain ⟨x7, hx7, h⟩ := bind_some h
      refine le' (e_appF RI.lasts RI.one RI.flat Sl_41 Ei_3 rfl rfl rfl rfl rfl (js := [5]) (Rr := [ob v15, [b_3], ob v12, ob v9, ob v10, ob u4, X2, D2, ob u2, X1]) rfl k9 h14.rsl hx7) rfl (fun v16 Φ_10 D8 q6 => ?_)
      obtain ⟨⟨ap5, fr8⟩, h15⟩ := q6
      replace ph0_0 := ph0_0.frame RTRule.lasts fr8 (ap5.o pa0_0)
      replace k4 := k4.frame OTChain.lasts fr8 (ap5.r (i := 8) rfl) (ap5.r (i := 7) rfl)
      replace k8 := k8.frame RI.lasts fr8 (ap5.r (i := 5) rfl) (Dj.nil _)
      replace h10 := h10.frame RTAlpha.lasts fr8 (ap5.r (i := 2) rfl) (Dj.sub (Dj.app (Dj.sub (Dj.app (ap5.r (i := 9) rfl) (ap5.r (i := 6) rfl)) i2) (Dj.app (Dj.sub (ap5.r (i := 3) rfl) apnil) (Dj.sub (ap5.r (i := 4) rfl) apnil))) i3)
      replace h11 := fr8 _ _ ((ap5.r (i := 1) rfl) _ (by simp)) h11
      refine lq (q_fieldAddr Fld_43_0 rfl) rfl ?_
      refine ls (s_store (i := 1) (vs := [v16]) (C' := [v16, u4]) (O' := [(b_5, .cells #[.string x3.Kind, v7, .bool x3.Not] 114 (0, 0)), (b_4, .cells #[v16, u4] 43 (0, 0)), (b_2, .cells #[.slice none 0 0, .slice none 0 0] 27 (0, 0)), (b_1, .cells #[.string p0.Name, pv0_0] 30 (0, 0))]) Sz_41 rfl rfl rfl (one_cells h15.one) rfl rfl ⟨h15.one, trivial⟩ rfl rfl) rfl ?_
      refine WL.nil ?_
      refine WT.inBlock ?_
      refine WT.region ?_
      refine lq (q_move rfl) rfl ?_
      refine lq (q_add rfl rfl) rfl ?_
      refine lq (q_assign rfl) rfl ?_
      refine WL.nil ?_
      refine WT.thw (js := [2]) (R := [ob v16, ob v15, ob v12, ob v9, ob v10, ob u4, X2, D2, ob u2, X1]) rfl h11 (fun Φ_11 ap6 fr9 => ?_)
      replace ph0_0 := ph0_0.frame RTRule.lasts fr9 (ap6.o pa0_0)
      replace k4 := k4.frame OTChain.lasts fr9 (ap6.r (i := 8) rfl) (ap6.r (i := 7) rfl)
      replace k8 := k8.frame RI.lasts fr9 (ap6.r (i := 5) rfl) (Dj.nil _)
      replace h15 := h15.frame RI.lasts fr9 (ap6.r (i := 0) rfl) (Dj.nil _)
      replace h10 := h10.frame RTAlpha.lasts fr9 (ap6.r (i := 2) rfl) (Dj.sub (Dj.app (Dj.sub (Dj.app (ap6.r (i := 9) rfl) (ap6.r (i := 6) rfl)) i2) (Dj.app (Dj.sub (ap6.r (i := 3) rfl) apnil) (Dj.sub (ap6.r (i := 4) rfl) apnil))) i3)
      refine WT.conv (S' := St w0 Φ_11 [(b_3, .cells #[v12, u2] 27 (0, 0)), (b_5, .cells #[.string x3.Kind, v7, .bool x3.Not] 114 (0, 0)), (b_4, .cells #[v16, u4] 43 (0, 0)), (b_2, .cells #[.slice none 0 0, .slice none 0 0] 27 (0, 0)), (b_1, .cells #[.string p0.Name, pv0_0] 30 (0, 0))] [(X2 ++ (ob v9 ++ (ob v10))), ob v16, ob v15, ob v12, ob u4, D2, ob u2, X1]) (fun w1 hw => hw.merge (js := [6, 3, 3]) rfl (SP.eq (by simp [List.append_assoc]))) ?_
      refine WT.inLoop (WT.mono (l' := [(1, .pointer (some ⟨b_1, 0, none⟩)), (2, .pointer (some ⟨b_2, 0, none⟩)), (3, .pointer (some ⟨b_3, 0, none⟩)), (4, .int .i64 s3), (5, .pointer (some ⟨b_4, 0, none⟩)), (6, .int .i64 (IntKind.i64.wrap (s7 + 1)))]) (S' := St w0 Φ_11 [(b_4, .cells #[v16, u4] 43 (0, 0)), (b_3, .cells #[v12, u2] 27 (0, 0)), (b_2, .cells #[.slice none 0 0, .slice none 0 0] 27 (0, 0)), (b_1, .cells #[.string p0.Name, pv0_0] 30 (0, 0))] [ob v16, ob u4, (X2 ++ (ob v9 ++ (ob v10))), D2, ob u2, ob v12, X1]) ⟨rfl, rfl, rfl, rfl, rfl, rfl, trivial⟩ (fun w1 hw => (hw.sel (js := [1, 3, 0, 2, 2, 1, 1]) rfl).selO (js := [2, 0, 1, 1]) rfl) ?_)
      exact ih2 (Φ_11, (X2 ++ (ob v9 ++ (ob v10))), x5.2.Alphas, v12, D4, s5, u4, x7, v16, IntKind.i64.wrap (s7 + 1)) ⟨h, h10, (fun k hk => ((List.mem_append.1 (i3 k hk)).elim (fun h => ((List.mem_append.1 (i2 k h)).elim (fun h => (List.mem_append.2 (.inl h))) (fun h => (List.mem_append.2 (.inr ((fun k hk => (List.mem_append.2 (.inl hk))) k h)))))) (fun h => ((List.mem_append.1 h).elim (fun h => (List.mem_append.2 (.inr ((fun k hk => (List.mem_append.2 (.inr (List.mem_append.2 (.inl hk))))) k (apnil k h))))) (fun h => (List.mem_append.2 (.inr ((fun k hk => (List.mem_append.2 (.inr (List.mem_append.2 (.inr hk))))) k (apnil k h))))))))), k4, k8, h15, ph0_0⟩
    replace h := ite_f h c2
    refine WT.exit rfl ?_
    refine WT.region ?_
    refine lq (q_fieldAddr Fld_27_1 rfl) rfl ?_
    refine lq (q_load1 T1_25 rfl (fun w1 hw => hw.rgO (i := 1) rfl 1 1 [u2] rfl)) rfl ?_
    refine lq (q_loadN Tn_43 rfl (fun w1 hw => hw.rgO (i := 0) rfl 0 2 [u5, u4] rfl) rfl) rfl ?_
    have rc3 : RC OTChain 2 Φ_2 ([(ob u5 ++ []) ++ ((ob u4 ++ []))] : List (List Nat)) [u5, u4] ([(⟨s6, s5⟩ : TChain)] : List TChain) := RC.cons (c := [u5, u4]) (cells := []) ⟨u5, u4, rfl, rfl, k9, k8⟩ rfl (RC.nil _ _ _)
    refine le' (e_lit (vs := [(0, .agg [u5, u4].toArray)]) (C := #[u5, u4]) OTChain.lasts Sl_25 Zr_43 rfl rfl rfl rfl (fill_made MC_43_1 (fill_cons (cells := [.slice none 0 0, .slice none 0 0]) (c := [u5, u4]) (C' := [u5, u4]) rfl rfl rfl rfl rfl (fill_nil))) rfl rc3 rfl (RC.kn OTChain.knows rc3)) rfl (fun v17 Φ_12 D9 q7 => ?_)
    obtain ⟨fr10, h16⟩ := q7
    replace h16 : OSl OTChain 43 2 Φ_12 ((ob u5 ++ []) ++ ((ob u4 ++ []))) v17 ([(⟨s6, s5⟩ : TChain)] : List TChain) := by simpa [List.append_assoc] using h16
    replace ph0_0 := ph0_0.frame RTRule.lasts fr10 (Dj.empty _)
    replace k7 := k7.frame RTAlpha.lasts fr10 (Dj.empty _) (Dj.empty _)
    replace k4 := k4.frame OTChain.lasts fr10 (Dj.empty _) (Dj.empty _)
    refine WL.conv (S' := St w0 Φ_12 [(b_4, .cells #[u5, u4] 43 (0, 0)), (b_3, .cells #[u3, u2] 27 (0, 0)), (b_2, .cells #[.slice none 0 0, .slice none 0 0] 27 (0, 0)), (b_1, .cells #[.string p0.Name, pv0_0] 30 (0, 0))] [((ob u5 ++ []) ++ ((ob u4 ++ []))), ob v17, X2, D2, ob u2, ob u3, X1]) (fun w1 hw => hw.merge (js := [1, 1]) rfl (SP.eq (by simp [List.append_assoc, ob_nil]))) ?_
    obtain ⟨x8, hx8, h⟩ := bind_some h
    refine le' (e_appO OTChain.lasts OTChain.one Sl_25 Ei_43 rfl rfl rfl rfl rfl (js := [4]) (Rr := [((ob u5 ++ []) ++ ((ob u4 ++ []))), ob v17, X2, D2, ob u3, X1]) rfl k4 h16 (fun ap => (ap.r (i := 3) rfl)) (fun ap => (ap.r (i := 0) rfl)) hx8) rfl (fun v18 Φ_13 D10 q8 => ?_)
    obtain ⟨⟨ap7, fr11⟩, h17⟩ := q8
    replace ph0_0 := ph0_0.frame RTRule.lasts fr11 (ap7.o pa0_0)
    replace k7 := k7.frame RTAlpha.lasts fr11 (ap7.r (i := 4) rfl) (Dj.sub (Dj.app (ap7.r (i := 5) rfl) (ap7.r (i := 2) rfl)) i2)
    refine WL.conv (S' := St w0 Φ_13 [(b_4, .cells #[u5, u4] 43 (0, 0)), (b_3, .cells #[u3, u2] 27 (0, 0)), (b_2, .cells #[.slice none 0 0, .slice none 0 0] 27 (0, 0)), (b_1, .cells #[.string p0.Name, pv0_0] 30 (0, 0))] [(D2 ++ ((ob u5 ++ []) ++ ((ob u4 ++ [])))), ob v18, ob v17, X2, ob u3, X1]) (fun w1 hw => hw.merge (js := [4, 1]) rfl (SP.eq (by simp))) ?_
    refine lq (q_fieldAddr Fld_27_1 rfl) rfl ?_
    refine ls (s_store (i := 1) (vs := [v18]) (C' := [u3, v18]) (O' := [(b_4, .cells #[u5, u4] 43 (0, 0)), (b_3, .cells #[u3, v18] 27 (0, 0)), (b_2, .cells #[.slice none 0 0, .slice none 0 0] 27 (0, 0)), (b_1, .cells #[.string p0.Name, pv0_0] 30 (0, 0))]) Sz_25 rfl rfl rfl (one_cells h17.one) rfl rfl ⟨h17.one, trivial⟩ rfl rfl) rfl ?_
    refine WL.nil ?_
    refine WT.inBlock ?_
    refine WT.region ?_
    refine lq (q_move rfl) rfl ?_
    refine lq (q_add rfl rfl) rfl ?_
    refine lq (q_assign rfl) rfl ?_
    refine WL.nil ?_
    refine WT.conv (S' := St w0 Φ_13 [(b_4, .cells #[u5, u4] 43 (0, 0)), (b_3, .cells #[u3, v18] 27 (0, 0)), (b_2, .cells #[.slice none 0 0, .slice none 0 0] 27 (0, 0)), (b_1, .cells #[.string p0.Name, pv0_0] 30 (0, 0))] [(X1 ++ (X2)), (D2 ++ ((ob u5 ++ []) ++ ((ob u4 ++ [])))), ob v18, ob v17, ob u3]) (fun w1 hw => hw.merge (js := [5, 3]) rfl (SP.eq (by simp [List.append_assoc]))) ?_
    refine WT.inLoop (WT.mono (l' := [(1, .pointer (some ⟨b_1, 0, none⟩)), (2, .pointer (some ⟨b_2, 0, none⟩)), (3, .pointer (some ⟨b_3, 0, none⟩)), (4, .int .i64 (IntKind.i64.wrap (s3 + 1)))]) (S' := St w0 Φ_13 [(b_3, .cells #[u3, v18] 27 (0, 0)), (b_2, .cells #[.slice none 0 0, .slice none 0 0] 27 (0, 0)), (b_1, .cells #[.string p0.Name, pv0_0] 30 (0, 0))] [(D2 ++ ((ob u5 ++ []) ++ ((ob u4 ++ [])))), ob v18, ob u3, (X1 ++ (X2))]) ⟨rfl, rfl, rfl, rfl, trivial⟩ (fun w1 hw => (hw.sel (js := [1, 1, 2, 0]) rfl).selO (js := [1, 1, 1]) rfl) ?_)
    exact ih1 (Φ_13, (X1 ++ (X2)), s4, u3, D3, x8, v18, (D2 ++ ((ob u5 ++ []) ++ ((ob u4 ++ [])))), IntKind.i64.wrap (s3 + 1)) ⟨h, k7, (fun k hk => ((List.mem_append.1 (i2 k hk)).elim (fun h => ((fun k hk => (List.mem_append.2 (.inl hk))) k h)) (fun h => ((fun k hk => (List.mem_append.2 (.inr hk))) k h)))), h17, ph0_0⟩
  replace h := ite_f h c1
  refine WT.exit rfl ?_
  refine WT.seq ?_
  refine WT.region ?_
  refine lq (q_loadN Tn_27 rfl (fun w1 hw => hw.rgO (i := 0) rfl 0 2 [u1, u2] rfl) rfl) rfl ?_
  refine ls (s_store (i := 1) (vs := [u1, u2]) (C' := [u1, u2]) (O' := [(b_3, .cells #[u1, u2] 27 (0, 0)), (b_2, .cells #[u1, u2] 27 (0, 0)), (b_1, .cells #[.string p0.Name, pv0_0] 30 (0, 0))]) Sz_27 rfl rfl rfl rfl rfl rfl ⟨k3.one, k4.one, trivial⟩ rfl rfl) rfl ?_
  refine WL.nil ?_
  refine WT.ret Tryz.func46 (resOk.one (rv_cell Tn_27 rfl (fun w1 hw => hw.rgO (i := 1) rfl 0 2 [u1, u2] rfl) rfl)) (fun w1 hw => ?_)
  subst hb0
  cases h
  replace hw := hw.merge (js := [3]) (F := [X1].flatten) rfl (SP.eq (by simp))
  refine postG_of_St (js := [3, 2, 1, 0]) hw rfl ⟨u1, D1, u2, D2, [X1].flatten, rfl, rfl, k3, (fun k hk => (List.mem_flatten.2 ⟨X1, by simp, (i1 k hk)⟩)), k4⟩
theorem m_s_l12Same_ok {Φ : Hp} {w : World} (hΦ : In Φ w) (N : Nat) (p0 : TNet) (p1 : TNet) {pv0_0 : Value} {pG0_0 : List Nat} {pv0_1 : Value} {pG0_1 : List Nat} {pv1_0 : Value} {pG1_0 : List Nat} {pv1_1 : Value} {pG1_1 : List Nat} (ph0_0 : RSl RTAlpha 4 Φ pG0_0 pv0_0 p0.Alphas) (ph0_1 : RSl RTChain 2 Φ pG0_1 pv0_1 p0.Chains) (ph1_0 : RSl RTAlpha 4 Φ pG1_0 pv1_0 p1.Alphas) (ph1_1 : RSl RTChain 2 Φ pG1_1 pv1_1 p1.Chains) {r : Bool} (h : m_s_l12Same N p0 p1 = some r) :
    Calls Tryz.prog 55 [.agg [pv0_0, pv0_1].toArray, .agg [pv1_0, pv1_1].toArray].toArray w (Post (.bool r) w) := by
  refine enter Tryz.func55 rfl Tryz.ntmps55 rfl (St.start0 hΦ) ?_
  generalize hb0 : (⟨w, [], Φ⟩ : Base) = w0
  unfold m_s_l12Same at h
  refine WT.seq ?_
  refine WT.region ?_
  refine ln (n_box (C := #[pv0_0, pv0_1]) rfl rfl) rfl (fun b_1 => ?_)
  refine ln (n_box (C := #[pv1_0, pv1_1]) rfl rfl) rfl (fun b_2 => ?_)
  refine lq (q_assign rfl) rfl ?_
  refine WL.nil ?_
  refine WT.seq ?_
  refine WT.seq ?_
  refine WT.region ?_
  refine lq (q_fieldAddr Fld_27_0 rfl) rfl ?_
  refine lq (q_load1 T1_24 rfl (fun w1 hw => hw.rgO (i := 1) rfl 0 1 [pv0_0] rfl)) rfl ?_
  refine lq (q_lenR Sl_24 rfl rfl ph0_0) rfl ?_
  refine lq (q_fieldAddr Fld_27_0 rfl) rfl ?_
  refine lq (q_load1 T1_24 rfl (fun w1 hw => hw.rgO (i := 0) rfl 0 1 [pv1_0] rfl)) rfl ?_
  refine lq (q_lenR Sl_24 rfl rfl ph1_0) rfl ?_
  refine lq (q_neq rfl rfl) rfl ?_
  refine lq (q_move rfl) rfl ?_
  obtain ⟨b1, hb_1, h⟩ := bind_some h
  refine WL.cutN 8 [(22, .bool b1), (2, .pointer (some ⟨b_1, 0, none⟩)), (3, .pointer (some ⟨b_2, 0, none⟩))] ?_ (fun K => ?_)
  rotate_left
  · refine WL.split (d := 14) rfl (fun c1 => ?_) (fun c1 => ?_)
    · replace hb_1 := ite_t hb_1 c1
      refine WL.no rfl rfl rfl rfl ?_
      refine WL.no rfl rfl rfl rfl ?_
      refine WL.no rfl rfl rfl rfl ?_
      refine WL.no rfl rfl rfl rfl ?_
      refine WL.no rfl rfl rfl rfl ?_
      refine WL.no rfl rfl rfl rfl ?_
      refine WL.no rfl rfl rfl rfl ?_
      refine WL.q (q_pick1 rfl rfl) rfl rfl rfl ?_
      cases hb_1
      exact WL.keep (by exact ⟨rfl, rfl, rfl, trivial⟩) K
    · replace hb_1 := ite_f hb_1 c1
      refine WL.yes rfl rfl ?_
      refine lq (q_fieldAddr Fld_27_1 rfl) rfl ?_
      refine WL.yes rfl rfl ?_
      refine lq (q_load1 T1_25 rfl (fun w1 hw => hw.rgO (i := 1) rfl 1 1 [pv0_1] rfl)) rfl ?_
      refine WL.yes rfl rfl ?_
      refine lq (q_lenR Sl_25 rfl rfl ph0_1) rfl ?_
      refine WL.yes rfl rfl ?_
      refine lq (q_fieldAddr Fld_27_1 rfl) rfl ?_
      refine WL.yes rfl rfl ?_
      refine lq (q_load1 T1_25 rfl (fun w1 hw => hw.rgO (i := 0) rfl 1 1 [pv1_1] rfl)) rfl ?_
      refine WL.yes rfl rfl ?_
      refine lq (q_lenR Sl_25 rfl rfl ph1_1) rfl ?_
      refine WL.yes rfl rfl ?_
      refine lq (q_neq rfl rfl) rfl ?_
      refine WL.q (q_pick0 rfl rfl) rfl rfl rfl ?_
      cases hb_1
      exact WL.keep (by exact ⟨rfl, rfl, rfl, trivial⟩) K
  refine WL.nil ?_
  refine WT.cond rfl (fun c2 => ?_) (fun c2 => ?_)
  · replace h := ite_t h c2
    refine WT.seq ?_
    refine WT.region ?_
    refine lq (q_assign rfl) rfl ?_
    refine WL.nil ?_
    refine WT.ret Tryz.func55 (resOk.one rfl) (fun w1 hw => ?_)
    subst hb0
    cases h
    exact post_of_St hw
  replace h := ite_f h c2
  refine WT.skip ?_
  refine WT.seq ?_
  refine WT.seq ?_
  refine WT.region ?_
  refine lq (q_assign rfl) rfl ?_
  refine WL.nil ?_
  refine WT.block ?_
  refine WT.loop ?_
  refine WT.mono (l' := [(2, .pointer (some ⟨b_1, 0, none⟩)), (3, .pointer (some ⟨b_2, 0, none⟩)), (5, .int .i64 0)]) (S' := St w0 Φ [(b_2, .cells #[pv1_0, pv1_1] 27 (0, 0)), (b_1, .cells #[pv0_0, pv0_1] 27 (0, 0))] []) ⟨rfl, rfl, rfl, trivial⟩ (fun w1 hw => (hw.sel (js := []) rfl).selO (js := [0, 0]) rfl) ?_
  refine loop_ind (σ := Int) (fun s => [(2, .pointer (some ⟨b_1, 0, none⟩)), (3, .pointer (some ⟨b_2, 0, none⟩)), (5, .int .i64 s)]) (fun s => St w0 Φ [(b_2, .cells #[pv1_0, pv1_1] 27 (0, 0)), (b_1, .cells #[pv0_0, pv0_1] 27 (0, 0))] []) (fun m s => m_s_l12Same_l1 N p0 p1 m s = some r) (fun s hm => none_ne (show (none : Option (Bool)) = some r from hm)) (fun n1 ih1 s hm => ?_) N (0) h
  revert hm; revert s; intro s1 hm
  have h : m_s_l12Same_l1 N p0 p1 (n1 + 1) s1 = some r := hm
  show WT _ _ [(2, .pointer (some ⟨b_1, 0, none⟩)), (3, .pointer (some ⟨b_2, 0, none⟩)), (5, .int .i64 s1)] (St w0 Φ [(b_2, .cells #[pv1_0, pv1_1] 27 (0, 0)), (b_1, .cells #[pv0_0, pv0_1] 27 (0, 0))] [])
  unfold m_s_l12Same_l1 at h
  refine WT.seq ?_
  refine WT.seq ?_
  refine WT.region ?_
  refine lq (q_move rfl) rfl ?_
  refine lq (q_fieldAddr Fld_27_0 rfl) rfl ?_
  refine lq (q_load1 T1_24 rfl (fun w1 hw => hw.rgO (i := 1) rfl 0 1 [pv0_0] rfl)) rfl ?_
  refine lq (q_lenR Sl_24 rfl rfl ph0_0) rfl ?_
  refine lq (q_lss rfl rfl) rfl ?_
  refine WL.nil ?_
  refine WT.cond rfl (fun c3 => ?_) (fun c3 => ?_)
  · replace h := ite_t h c3
    refine WT.skip ?_
    refine WT.seq ?_
    refine WT.block ?_
    refine WT.seq ?_
    refine WT.draw mixed (by kernel_rfl) (fun _ h => h.drew) ?_
    refine qq (q_fieldAddr Fld_27_0 rfl) rfl ?_
    refine qq (q_load1 T1_24 rfl (fun w1 hw => hw.rgO (i := 1) rfl 0 1 [pv0_0] rfl)) rfl ?_
    refine qq (q_move rfl) rfl ?_
    obtain ⟨x1, hx1, h⟩ := bind_some h
    obtain ⟨cs1, F1, -, g1, hb1, hs1, r1⟩ := ph0_0.el (idx_some hx1).2.2
    obtain ⟨v1, G1, v2, G2, rfl, rfl, h1, h2⟩ := r1
    refine qq (q_indexAddr Sl_24 rfl rfl ph0_0 hx1) rfl ?_
    refine qq (q_loadN Tn_102 rfl (fun w1 hw => (g1.of_eq 0 4 rfl rfl : rg _ _ _ [.string x1.Kind, .int .i64 x1.N, v1, v2]).rangeAt hw.fro) rfl) rfl ?_
    refine qq (q_fieldAddr Fld_27_0 rfl) rfl ?_
    refine qq (q_load1 T1_24 rfl (fun w1 hw => hw.rgO (i := 0) rfl 0 1 [pv1_0] rfl)) rfl ?_
    refine qq (q_move rfl) rfl ?_
    obtain ⟨x2, hx2, h⟩ := bind_some h
    obtain ⟨cs2, F2, -, g2, hb2, hs2, r2⟩ := ph1_0.el (idx_some hx2).2.2
    obtain ⟨v3, G3, v4, G4, rfl, rfl, h3, h4⟩ := r2
    refine qq (q_indexAddr Sl_24 rfl rfl ph1_0 hx2) rfl ?_
    refine qq (q_loadN Tn_102 rfl (fun w1 hw => (g2.of_eq 0 4 rfl rfl : rg _ _ _ [.string x2.Kind, .int .i64 x2.N, v3, v4]).rangeAt hw.fro) rfl) rfl ?_
    obtain ⟨x3, hx3, h⟩ := bind_some h
    refine qp (p_call Fun_111 rfl (fun w1 hw => m_s_SameAlpha_ok hw.fro N x1 x2 h1 h2 h3 h4 hx3)) rfl ?_
    refine qq (q_not rfl) rfl ?_
    refine WQ.nil ?_
    refine WT.cond rfl (fun c4 => ?_) (fun c4 => ?_)
    · replace h := ite_t h c4
      refine WT.seq ?_
      refine WT.region ?_
      refine lq (q_assign rfl) rfl ?_
      refine WL.nil ?_
      refine WT.ret Tryz.func55 (resOk.one rfl) (fun w1 hw => ?_)
      subst hb0
      cases h
      exact post_of_St hw
    replace h := ite_f h c4
    refine WT.skip ?_
    refine WT.inBlock ?_
    refine WT.region ?_
    refine lq (q_move rfl) rfl ?_
    refine lq (q_add rfl rfl) rfl ?_
    refine lq (q_assign rfl) rfl ?_
    refine WL.nil ?_
    refine WT.inLoop (WT.mono (l' := [(2, .pointer (some ⟨b_1, 0, none⟩)), (3, .pointer (some ⟨b_2, 0, none⟩)), (5, .int .i64 (IntKind.i64.wrap (s1 + 1)))]) (S' := St w0 Φ [(b_2, .cells #[pv1_0, pv1_1] 27 (0, 0)), (b_1, .cells #[pv0_0, pv0_1] 27 (0, 0))] []) ⟨rfl, rfl, rfl, trivial⟩ (fun w1 hw => (hw.sel (js := []) rfl).selO (js := [0, 0]) rfl) ?_)
    exact ih1 (IntKind.i64.wrap (s1 + 1)) h
  replace h := ite_f h c3
  refine WT.exit rfl ?_
  refine WT.seq ?_
  refine WT.seq ?_
  refine WT.region ?_
  refine lq (q_assign rfl) rfl ?_
  refine WL.nil ?_
  refine WT.block ?_
  refine WT.loop ?_
  refine WT.mono (l' := [(2, .pointer (some ⟨b_1, 0, none⟩)), (3, .pointer (some ⟨b_2, 0, none⟩)), (6, .int .i64 0)]) (S' := St w0 Φ [(b_2, .cells #[pv1_0, pv1_1] 27 (0, 0)), (b_1, .cells #[pv0_0, pv0_1] 27 (0, 0))] []) ⟨rfl, rfl, rfl, trivial⟩ (fun w1 hw => (hw.sel (js := []) rfl).selO (js := [0, 0]) rfl) ?_
  refine loop_ind (σ := Int) (fun s => [(2, .pointer (some ⟨b_1, 0, none⟩)), (3, .pointer (some ⟨b_2, 0, none⟩)), (6, .int .i64 s)]) (fun s => St w0 Φ [(b_2, .cells #[pv1_0, pv1_1] 27 (0, 0)), (b_1, .cells #[pv0_0, pv0_1] 27 (0, 0))] []) (fun m s => m_s_l12Same_l2 N p0 p1 m s = some r) (fun s hm => none_ne (show (none : Option (Bool)) = some r from hm)) (fun n2 ih2 s hm => ?_) N (0) h
  revert hm; revert s; intro s2 hm
  have h : m_s_l12Same_l2 N p0 p1 (n2 + 1) s2 = some r := hm
  show WT _ _ [(2, .pointer (some ⟨b_1, 0, none⟩)), (3, .pointer (some ⟨b_2, 0, none⟩)), (6, .int .i64 s2)] (St w0 Φ [(b_2, .cells #[pv1_0, pv1_1] 27 (0, 0)), (b_1, .cells #[pv0_0, pv0_1] 27 (0, 0))] [])
  unfold m_s_l12Same_l2 at h
  refine WT.seq ?_
  refine WT.seq ?_
  refine WT.region ?_
  refine lq (q_move rfl) rfl ?_
  refine lq (q_fieldAddr Fld_27_1 rfl) rfl ?_
  refine lq (q_load1 T1_25 rfl (fun w1 hw => hw.rgO (i := 1) rfl 1 1 [pv0_1] rfl)) rfl ?_
  refine lq (q_lenR Sl_25 rfl rfl ph0_1) rfl ?_
  refine lq (q_lss rfl rfl) rfl ?_
  refine WL.nil ?_
  refine WT.cond rfl (fun c5 => ?_) (fun c5 => ?_)
  · replace h := ite_t h c5
    refine WT.skip ?_
    refine WT.seq ?_
    refine WT.block ?_
    refine WT.seq ?_
    refine WT.draw mixed (by kernel_rfl) (fun _ h => h.drew) ?_
    refine qq (q_fieldAddr Fld_27_1 rfl) rfl ?_
    refine qq (q_load1 T1_25 rfl (fun w1 hw => hw.rgO (i := 1) rfl 1 1 [pv0_1] rfl)) rfl ?_
    refine qq (q_move rfl) rfl ?_
    obtain ⟨x4, hx4, h⟩ := bind_some h
    obtain ⟨cs3, F3, -, g3, hb3, hs3, r3⟩ := ph0_1.el (idx_some hx4).2.2
    obtain ⟨v5, G5, v6, G6, rfl, rfl, h5, h6⟩ := r3
    refine qq (q_indexAddr Sl_25 rfl rfl ph0_1 hx4) rfl ?_
    refine qq (q_fieldAddr Fld_43_0 rfl) rfl ?_
    refine qq (q_load1 T1_41 rfl (fun w1 hw => (g3.of_eq 0 1 rfl rfl : rg _ _ _ [v5]).rangeAt hw.fro)) rfl ?_
    refine qq (q_fieldAddr Fld_27_1 rfl) rfl ?_
    refine qq (q_load1 T1_25 rfl (fun w1 hw => hw.rgO (i := 0) rfl 1 1 [pv1_1] rfl)) rfl ?_
    refine qq (q_move rfl) rfl ?_
    obtain ⟨x5, hx5, h⟩ := bind_some h
    obtain ⟨cs4, F4, -, g4, hb4, hs4, r4⟩ := ph1_1.el (idx_some hx5).2.2
    obtain ⟨v7, G7, v8, G8, rfl, rfl, h7, h8⟩ := r4
    refine qq (q_indexAddr Sl_25 rfl rfl ph1_1 hx5) rfl ?_
    refine qq (q_fieldAddr Fld_43_0 rfl) rfl ?_
    refine qq (q_load1 T1_41 rfl (fun w1 hw => (g4.of_eq 0 1 rfl rfl : rg _ _ _ [v7]).rangeAt hw.fro)) rfl ?_
    obtain ⟨x6, hx6, h⟩ := bind_some h
    refine qp (p_call Fun_112 rfl (fun w1 hw => m_s_l11Same_ok hw.fro N x4.Pos x5.Pos h5 h7 hx6)) rfl ?_
    refine qq (q_not rfl) rfl ?_
    refine qq (q_move rfl) rfl ?_
    obtain ⟨b2, hb_2, h⟩ := bind_some h
    refine WQ.cutN 15 [(78, .bool b2), (2, .pointer (some ⟨b_1, 0, none⟩)), (3, .pointer (some ⟨b_2, 0, none⟩)), (6, .int .i64 s2)] ?_ (fun K => ?_)
    rotate_left
    · refine WQ.split (d := 63) rfl (fun c6 => ?_) (fun c6 => ?_)
      · replace hb_2 := ite_t hb_2 c6
        refine WQ.no rfl rfl rfl rfl ?_
        refine WQ.no rfl rfl rfl rfl ?_
        refine WQ.no rfl rfl rfl rfl ?_
        refine WQ.no rfl rfl rfl rfl ?_
        refine WQ.no rfl rfl rfl rfl ?_
        refine WQ.no rfl rfl rfl rfl ?_
        refine WQ.no rfl rfl rfl rfl ?_
        refine WQ.no rfl rfl rfl rfl ?_
        refine WQ.no rfl rfl rfl rfl ?_
        refine WQ.no rfl rfl rfl rfl ?_
        refine WQ.no rfl rfl rfl rfl ?_
        refine WQ.no rfl rfl rfl rfl ?_
        refine WQ.no rfl rfl rfl rfl ?_
        refine WQ.no rfl rfl rfl rfl ?_
        refine WQ.q (q_pick1 rfl rfl) rfl rfl rfl ?_
        cases hb_2
        exact WQ.keep (by exact ⟨rfl, rfl, rfl, rfl, trivial⟩) K
      · replace hb_2 := ite_f hb_2 c6
        refine WQ.yes rfl rfl ?_
        refine qq (q_fieldAddr Fld_27_1 rfl) rfl ?_
        refine WQ.yes rfl rfl ?_
        refine qq (q_load1 T1_25 rfl (fun w1 hw => hw.rgO (i := 1) rfl 1 1 [pv0_1] rfl)) rfl ?_
        refine WQ.yes rfl rfl ?_
        refine qq (q_move rfl) rfl ?_
        refine WQ.yes rfl rfl ?_
        obtain ⟨x7, hx7, hb_2⟩ := bind_some hb_2
        obtain ⟨cs5, F5, -, g5, hb5, hs5, r5⟩ := ph0_1.el (idx_some hx7).2.2
        obtain ⟨v9, G9, v10, G10, rfl, rfl, h9, h10⟩ := r5
        refine qq (q_indexAddr Sl_25 rfl rfl ph0_1 hx7) rfl ?_
        refine WQ.yes rfl rfl ?_
        refine qq (q_fieldAddr Fld_43_1 rfl) rfl ?_
        refine WQ.yes rfl rfl ?_
        refine qq (q_load1 T1_41 rfl (fun w1 hw => (g5.of_eq 1 1 rfl rfl : rg _ _ _ [v10]).rangeAt hw.fro)) rfl ?_
        refine WQ.yes rfl rfl ?_
        refine qq (q_fieldAddr Fld_27_1 rfl) rfl ?_
        refine WQ.yes rfl rfl ?_
        refine qq (q_load1 T1_25 rfl (fun w1 hw => hw.rgO (i := 0) rfl 1 1 [pv1_1] rfl)) rfl ?_
        refine WQ.yes rfl rfl ?_
        refine qq (q_move rfl) rfl ?_
        refine WQ.yes rfl rfl ?_
        obtain ⟨x8, hx8, hb_2⟩ := bind_some hb_2
        obtain ⟨cs6, F6, -, g6, hb6, hs6, r6⟩ := ph1_1.el (idx_some hx8).2.2
        obtain ⟨v11, G11, v12, G12, rfl, rfl, h11, h12⟩ := r6
        refine qq (q_indexAddr Sl_25 rfl rfl ph1_1 hx8) rfl ?_
        refine WQ.yes rfl rfl ?_
        refine qq (q_fieldAddr Fld_43_1 rfl) rfl ?_
        refine WQ.yes rfl rfl ?_
        refine qq (q_load1 T1_41 rfl (fun w1 hw => (g6.of_eq 1 1 rfl rfl : rg _ _ _ [v12]).rangeAt hw.fro)) rfl ?_
        refine WQ.yes rfl rfl ?_
        obtain ⟨x9, hx9, hb_2⟩ := bind_some hb_2
        refine qp (p_call Fun_112 rfl (fun w1 hw => m_s_l11Same_ok hw.fro N x7.Neg x8.Neg h10 h12 hx9)) rfl ?_
        refine WQ.yes rfl rfl ?_
        refine qq (q_not rfl) rfl ?_
        refine WQ.q (q_pick0 rfl rfl) rfl rfl rfl ?_
        cases hb_2
        exact WQ.keep (by exact ⟨rfl, rfl, rfl, rfl, trivial⟩) K
    refine WQ.nil ?_
    refine WT.cond rfl (fun c7 => ?_) (fun c7 => ?_)
    · replace h := ite_t h c7
      refine WT.seq ?_
      refine WT.region ?_
      refine lq (q_assign rfl) rfl ?_
      refine WL.nil ?_
      refine WT.ret Tryz.func55 (resOk.one rfl) (fun w1 hw => ?_)
      subst hb0
      cases h
      exact post_of_St hw
    replace h := ite_f h c7
    refine WT.skip ?_
    refine WT.inBlock ?_
    refine WT.region ?_
    refine lq (q_move rfl) rfl ?_
    refine lq (q_add rfl rfl) rfl ?_
    refine lq (q_assign rfl) rfl ?_
    refine WL.nil ?_
    refine WT.inLoop (WT.mono (l' := [(2, .pointer (some ⟨b_1, 0, none⟩)), (3, .pointer (some ⟨b_2, 0, none⟩)), (6, .int .i64 (IntKind.i64.wrap (s2 + 1)))]) (S' := St w0 Φ [(b_2, .cells #[pv1_0, pv1_1] 27 (0, 0)), (b_1, .cells #[pv0_0, pv0_1] 27 (0, 0))] []) ⟨rfl, rfl, rfl, trivial⟩ (fun w1 hw => (hw.sel (js := []) rfl).selO (js := [0, 0]) rfl) ?_)
    exact ih2 (IntKind.i64.wrap (s2 + 1)) h
  replace h := ite_f h c5
  refine WT.exit rfl ?_
  refine WT.seq ?_
  refine WT.region ?_
  refine lq (q_assign rfl) rfl ?_
  refine WL.nil ?_
  refine WT.ret Tryz.func55 (resOk.one rfl) (fun w1 hw => ?_)
  subst hb0
  cases h
  exact post_of_St hw
theorem m_s_NetOk_ok {Φ : Hp} {w : World} (hΦ : In Φ w) (N : Nat) (p0 : TNet) (p1 : TDef) {pv0_0 : Value} {pG0_0 : List Nat} {pv0_1 : Value} {pG0_1 : List Nat} {pv1_0 : Value} {pG1_0 : List Nat} (ph0_0 : RSl RTAlpha 4 Φ pG0_0 pv0_0 p0.Alphas) (ph0_1 : RSl RTChain 2 Φ pG0_1 pv0_1 p0.Chains) (ph1_0 : RSl RTRule 5 Φ pG1_0 pv1_0 p1.Rules) {r : Bool} (h : m_s_NetOk N p0 p1 = some r) :
    Calls Tryz.prog 14 [.agg [pv0_0, pv0_1].toArray, .agg [.string p1.Name, pv1_0].toArray].toArray w (Post (.bool r) w) := by
  refine enter Tryz.func14 rfl Tryz.ntmps14 rfl (St.start0 hΦ) ?_
  have pa0_0 : Old ⟨w, [], Φ⟩ pG0_0 := Old.mk hΦ ph0_0.kn (Dj.empty _)
  have pa0_1 : Old ⟨w, [], Φ⟩ pG0_1 := Old.mk hΦ ph0_1.kn (Dj.empty _)
  unfold m_s_NetOk at h
  refine WT.seq ?_
  refine WT.region ?_
  refine ln (n_box (C := #[pv0_0, pv0_1]) rfl rfl) rfl (fun b_1 => ?_)
  refine ln (n_box (C := #[.string p1.Name, pv1_0]) rfl rfl) rfl (fun b_2 => ?_)
  refine lq (q_assign rfl) rfl ?_
  refine WL.nil ?_
  refine WT.seq ?_
  refine WT.mix (Kn Φ [] [(b_2, .cells #[.string p1.Name, pv1_0] 30 (0, 0)), (b_1, .cells #[pv0_0, pv0_1] 27 (0, 0))]) (fun _ => true) mixed (fun _ h => h.drew) ?_
  refine mq 0 rfl (by kernel_rfl) (fun w1 hw => Kn.of (fun k hk _ _ => by simp at hk) (AllIn.mem ⟨List.mem_of_getElem? (i := 0) rfl, List.mem_of_getElem? (i := 1) rfl, trivial⟩) hw) (q_loadN Tn_30 rfl (fun w1 hw => hw.rgO (i := 0) rfl 0 2 [.string p1.Name, pv1_0] rfl) rfl) rfl ?_
  obtain ⟨x1, hx1, h⟩ := bind_some h
  refine WM.one 1 (by kernel_rfl) (mp rfl (fun _ w1 hw => Kn.of (fun k hk _ _ => by simp at hk) (AllIn.mem ⟨List.mem_of_getElem? (i := 0) rfl, List.mem_of_getElem? (i := 1) rfl, trivial⟩) hw) (p_call Fun_31 rfl (fun w1 hw => m_s_DefOk_ok hw.fro N p1 ph1_0 hx1)) rfl ?_)
  refine mq 2 rfl (by kernel_rfl) (fun w1 hw => Kn.of (fun k hk _ _ => by simp at hk) (AllIn.mem ⟨List.mem_of_getElem? (i := 0) rfl, List.mem_of_getElem? (i := 1) rfl, trivial⟩) hw) (q_move rfl) rfl ?_
  refine WM.split (d := 7) rfl (fun c1 => ?_) (fun c1 => ?_)
  · replace h := ite_t h c1
    refine mqG 3 [6, 7, 8] rfl (by kernel_rfl) (fun w1 hw => Kn.of (fun k hk _ _ => by simp at hk) (AllIn.mem ⟨List.mem_of_getElem? (i := 0) rfl, List.mem_of_getElem? (i := 1) rfl, trivial⟩) hw) (q_loadN Tn_27 rfl (fun w1 hw => hw.rgO (i := 1) rfl 0 2 [pv0_0, pv0_1] rfl) rfl) rfl ?_
    refine mqG 4 [5, 6, 7, 8] rfl (by kernel_rfl) (fun w1 hw => Kn.of (fun k hk _ _ => by simp at hk) (AllIn.mem ⟨List.mem_of_getElem? (i := 0) rfl, List.mem_of_getElem? (i := 1) rfl, trivial⟩) hw) (q_loadN Tn_30 rfl (fun w1 hw => hw.rgO (i := 0) rfl 0 2 [.string p1.Name, pv1_0] rfl) rfl) rfl ?_
    obtain ⟨x2, hx2, h⟩ := bind_some h
    refine WM.one 5 (by kernel_rfl) (mcG rfl (fun _ v Φx D w1 hq hw => Kn.of (fun k hk _ _ => by simp at hk) (AllIn.mem ⟨List.mem_of_getElem? (i := 0) rfl, List.mem_of_getElem? (i := 1) rfl, trivial⟩) hw) (k_call (js := []) (R := []) Fun_46 rfl rfl (fun w1 hw ap hl => m_s_l12Net_ok hw.fro N p1 ph1_0  hx2)) rfl (fun v1 Φ_1 F1 q1 => ?_))
    obtain ⟨ap1, fr1, v2, D1, v3, D2, X1, rfl, rfl, h1, i1, h2⟩ := q1
    replace ph0_0 := ph0_0.frame RTAlpha.lasts fr1 (ap1.o pa0_0)
    replace ph0_1 := ph0_1.frame RTChain.lasts fr1 (ap1.o pa0_1)
    obtain ⟨x4, hx3, h⟩ := bind_some h
    refine WM.one 6 (by kernel_rfl) (mpG rfl (fun _ w1 hw => Kn.of (fun k hk _ _ => by simp at hk) (AllIn.mem ⟨List.mem_of_getElem? (i := 0) rfl, List.mem_of_getElem? (i := 1) rfl, trivial⟩) hw) (p_call Fun_55 rfl (fun w1 hw => m_s_l12Same_ok hw.fro N p0 x2 ph0_0 ph0_1 h1.rsl (h2.rslG OTChain.gives) hx3)) rfl ?_)
    refine mq 7 rfl (by kernel_rfl) (fun w1 hw => Kn.of (fun k hk _ _ => by simp at hk) (AllIn.mem ⟨List.mem_of_getElem? (i := 0) rfl, List.mem_of_getElem? (i := 1) rfl, trivial⟩) hw) (q_pick1 rfl rfl) rfl ?_
    refine mq 8 rfl (by kernel_rfl) (fun w1 hw => Kn.of (fun k hk _ _ => by simp at hk) (AllIn.mem ⟨List.mem_of_getElem? (i := 0) rfl, List.mem_of_getElem? (i := 1) rfl, trivial⟩) hw) (q_assign rfl) rfl ?_
    refine WM.nil (by kernel_rfl) ?_
    refine WT.ret Tryz.func14 (resOk.one rfl) (fun w1 hw => ?_)
    cases h
    exact post_of_St hw
  replace h := ite_f h c1
  refine mno 3 [6, 7, 8] rfl (by kernel_rfl) (fun w1 hw => Kn.of (fun k hk _ _ => by simp at hk) (AllIn.mem ⟨List.mem_of_getElem? (i := 0) rfl, List.mem_of_getElem? (i := 1) rfl, trivial⟩) hw) rfl (.inl rfl) rfl rfl ?_
  refine mno 4 [5, 6, 7, 8] rfl (by kernel_rfl) (fun w1 hw => Kn.of (fun k hk _ _ => by simp at hk) (AllIn.mem ⟨List.mem_of_getElem? (i := 0) rfl, List.mem_of_getElem? (i := 1) rfl, trivial⟩) hw) rfl (.inl rfl) rfl rfl ?_
  refine mno 5 [6, 7, 8] rfl (by kernel_rfl) (fun w1 hw => Kn.of (fun k hk _ _ => by simp at hk) (AllIn.mem ⟨List.mem_of_getElem? (i := 0) rfl, List.mem_of_getElem? (i := 1) rfl, trivial⟩) hw) rfl (.inl rfl) rfl rfl ?_
  refine mno 6 [7, 8] rfl (by kernel_rfl) (fun w1 hw => Kn.of (fun k hk _ _ => by simp at hk) (AllIn.mem ⟨List.mem_of_getElem? (i := 0) rfl, List.mem_of_getElem? (i := 1) rfl, trivial⟩) hw) rfl (.inl rfl) rfl rfl ?_
  refine mq 7 rfl (by kernel_rfl) (fun w1 hw => Kn.of (fun k hk _ _ => by simp at hk) (AllIn.mem ⟨List.mem_of_getElem? (i := 0) rfl, List.mem_of_getElem? (i := 1) rfl, trivial⟩) hw) (q_pick0 rfl rfl) rfl ?_
  refine mq 8 rfl (by kernel_rfl) (fun w1 hw => Kn.of (fun k hk _ _ => by simp at hk) (AllIn.mem ⟨List.mem_of_getElem? (i := 0) rfl, List.mem_of_getElem? (i := 1) rfl, trivial⟩) hw) (q_assign rfl) rfl ?_
  refine WM.nil (by kernel_rfl) ?_
  refine WT.ret Tryz.func14 (resOk.one rfl) (fun w1 hw => ?_)
  cases h
  exact post_of_St hw
theorem m_l_szVal_ok {Φ : Hp} {w : World} (hΦ : In Φ w) (N : Nat) (p0 : TVal) (p1 : Int)   {r : Int} (h : m_l_szVal N p0 p1 = some r) :
    Calls Tryz.prog 226 [.agg [.int .i64 p0.K, .int .i64 p0.N, .string p0.S].toArray, .int .i64 p1].toArray w (Post (.int .i64 r) w) := by
  refine enter Tryz.func226 rfl Tryz.ntmps226 rfl (St.start0 hΦ) ?_
  unfold m_l_szVal at h
  refine WT.seq ?_
  refine WT.region ?_
  refine ln (n_box (C := #[.int .i64 p0.K, .int .i64 p0.N, .string p0.S]) rfl rfl) rfl (fun b_1 => ?_)
  refine lq (q_assign rfl) rfl ?_
  refine WL.nil ?_
  refine WT.seq ?_
  refine WT.region ?_
  refine lq (q_move rfl) rfl ?_
  refine lq (q_fieldAddr Fld_260_2 rfl) rfl ?_
  refine lq (q_load1 T1_9 rfl (fun w1 hw => hw.rgO (i := 0) rfl 2 1 [.string p0.S] rfl)) rfl ?_
  refine lq (q_lenS Str_9 rfl rfl) rfl ?_
  refine lq (q_sub rfl rfl) rfl ?_
  refine lq (q_assign rfl) rfl ?_
  refine WL.nil ?_
  refine WT.seq ?_
  refine WT.seq ?_
  refine WT.region ?_
  refine lq (q_move rfl) rfl ?_
  refine lq (q_lss rfl rfl) rfl ?_
  refine WL.nil ?_
  refine WT.cond rfl (fun c1 => ?_) (fun c1 => ?_)
  · replace h := ite_t h c1
    refine WT.seq ?_
    refine WT.region ?_
    refine lq (q_assign rfl) rfl ?_
    refine WL.nil ?_
    refine WT.ret Tryz.func226 (resOk.one rfl) (fun w1 hw => ?_)
    cases h
    exact post_of_St hw
  replace h := ite_f h c1
  refine WT.skip ?_
  refine WT.seq ?_
  refine WT.region ?_
  refine lq (q_move rfl) rfl ?_
  refine lq (q_assign rfl) rfl ?_
  refine WL.nil ?_
  refine WT.ret Tryz.func226 (resOk.one rfl) (fun w1 hw => ?_)
  cases h
  exact post_of_St hw
theorem m_l_szValS_ok {Φ : Hp} {w : World} (hΦ : In Φ w) (N : Nat) (p0 : (List TVal)) (p1 : Int) {pv0 : Value} {pG0 : List Nat} (ph0 : RSl RTVal 3 Φ pG0 pv0 p0) {r : Int} (h : m_l_szValS N p0 p1 = some r) :
    Calls Tryz.prog 201 [pv0, .int .i64 p1].toArray w (Post (.int .i64 r) w) := by
  refine enter Tryz.func201 rfl Tryz.ntmps201 rfl (St.start0 hΦ) ?_
  generalize hb0 : (⟨w, [], Φ⟩ : Base) = w0
  unfold m_l_szValS at h
  refine WT.seq ?_
  refine WT.region ?_
  refine lq (q_assign rfl) rfl ?_
  refine WL.nil ?_
  refine WT.seq ?_
  refine WT.region ?_
  refine lq (q_move rfl) rfl ?_
  refine lq (q_move rfl) rfl ?_
  refine lq (q_lenR Sl_204 rfl rfl ph0) rfl ?_
  refine lq (q_sub rfl rfl) rfl ?_
  refine lq (q_assign rfl) rfl ?_
  refine WL.nil ?_
  refine WT.seq ?_
  refine WT.seq ?_
  refine WT.region ?_
  refine lq (q_move rfl) rfl ?_
  refine lq (q_lss rfl rfl) rfl ?_
  refine WL.nil ?_
  refine WT.cond rfl (fun c1 => ?_) (fun c1 => ?_)
  · replace h := ite_t h c1
    refine WT.seq ?_
    refine WT.region ?_
    refine lq (q_assign rfl) rfl ?_
    refine WL.nil ?_
    refine WT.ret Tryz.func201 (resOk.one rfl) (fun w1 hw => ?_)
    subst hb0
    cases h
    exact post_of_St hw
  replace h := ite_f h c1
  refine WT.skip ?_
  refine WT.seq ?_
  refine WT.seq ?_
  refine WT.region ?_
  refine lq (q_assign rfl) rfl ?_
  refine WL.nil ?_
  refine WT.block ?_
  refine WT.loop ?_
  refine WT.mono (l' := [(0, pv0), (1, .int .i64 (IntKind.i64.wrap (p1 - (p0.length : Int)))), (5, .int .i64 0)]) (S' := St w0 Φ [] []) ⟨rfl, rfl, rfl, trivial⟩ (fun w1 hw => (hw.sel (js := []) rfl).selO (js := []) rfl) ?_
  refine loop_ind (σ := Int × Int) (fun s => [(0, pv0), (1, .int .i64 s.1), (5, .int .i64 s.2)]) (fun s => St w0 Φ [] []) (fun m s => m_l_szValS_l1 N p0 m s.1 s.2 = some r) (fun s hm => none_ne (show (none : Option (Int)) = some r from hm)) (fun n1 ih1 s hm => ?_) N (IntKind.i64.wrap (p1 - (p0.length : Int)), 0) h
  obtain ⟨s1, s2⟩ := s
  have h : m_l_szValS_l1 N p0 (n1 + 1) s1 s2 = some r := hm
  show WT _ _ [(0, pv0), (1, .int .i64 s1), (5, .int .i64 s2)] (St w0 Φ [] [])
  unfold m_l_szValS_l1 at h
  refine WT.seq ?_
  refine WT.seq ?_
  refine WT.region ?_
  refine lq (q_move rfl) rfl ?_
  refine lq (q_move rfl) rfl ?_
  refine lq (q_lenR Sl_204 rfl rfl ph0) rfl ?_
  refine lq (q_lss rfl rfl) rfl ?_
  refine WL.nil ?_
  refine WT.cond rfl (fun c2 => ?_) (fun c2 => ?_)
  · replace h := ite_t h c2
    refine WT.skip ?_
    refine WT.seq ?_
    refine WT.block ?_
    refine WT.seq ?_
    refine WT.region ?_
    refine lq (q_move rfl) rfl ?_
    refine lq (q_move rfl) rfl ?_
    obtain ⟨x1, hx1, h⟩ := bind_some h
    obtain ⟨cs1, F1, -, g1, hb1, hs1, r1⟩ := ph0.el (idx_some hx1).2.2
    obtain ⟨rfl, -⟩ := r1
    refine lq (q_indexAddr Sl_204 rfl rfl ph0 hx1) rfl ?_
    refine lq (q_loadN Tn_260 rfl (fun w1 hw => (g1.of_eq 0 3 rfl rfl : rg _ _ _ [.int .i64 x1.K, .int .i64 x1.N, .string x1.S]).rangeAt hw.fro) rfl) rfl ?_
    refine lq (q_move rfl) rfl ?_
    obtain ⟨x2, hx2, h⟩ := bind_some h
    refine lp (p_call Fun_226 rfl (fun w1 hw => m_l_szVal_ok hw.fro N x1 s1 hx2)) rfl ?_
    refine lq (q_assign rfl) rfl ?_
    refine WL.nil ?_
    refine WT.seq ?_
    refine WT.region ?_
    refine lq (q_move rfl) rfl ?_
    refine lq (q_lss rfl rfl) rfl ?_
    refine WL.nil ?_
    refine WT.cond rfl (fun c3 => ?_) (fun c3 => ?_)
    · replace h := ite_t h c3
      refine WT.seq ?_
      refine WT.region ?_
      refine lq (q_assign rfl) rfl ?_
      refine WL.nil ?_
      refine WT.ret Tryz.func201 (resOk.one rfl) (fun w1 hw => ?_)
      subst hb0
      cases h
      exact post_of_St hw
    replace h := ite_f h c3
    refine WT.skip ?_
    refine WT.inBlock ?_
    refine WT.region ?_
    refine lq (q_move rfl) rfl ?_
    refine lq (q_add rfl rfl) rfl ?_
    refine lq (q_assign rfl) rfl ?_
    refine WL.nil ?_
    refine WT.inLoop (WT.mono (l' := [(0, pv0), (1, .int .i64 x2), (5, .int .i64 (IntKind.i64.wrap (s2 + 1)))]) (S' := St w0 Φ [] []) ⟨rfl, rfl, rfl, trivial⟩ (fun w1 hw => (hw.sel (js := []) rfl).selO (js := []) rfl) ?_)
    exact ih1 (x2, IntKind.i64.wrap (s2 + 1)) h
  replace h := ite_f h c2
  refine WT.exit rfl ?_
  refine WT.seq ?_
  refine WT.region ?_
  refine lq (q_move rfl) rfl ?_
  refine lq (q_assign rfl) rfl ?_
  refine WL.nil ?_
  refine WT.ret Tryz.func201 (resOk.one rfl) (fun w1 hw => ?_)
  subst hb0
  cases h
  exact post_of_St hw
theorem m_l_szIntS_ok {Φ : Hp} {w : World} (hΦ : In Φ w) (N : Nat) (p0 : (List Int)) (p1 : Int) {pv0 : Value} {pG0 : List Nat} (ph0 : RSl (RI .i64) 1 Φ pG0 pv0 p0) {r : Int} (h : m_l_szIntS N p0 p1 = some r) :
    Calls Tryz.prog 202 [pv0, .int .i64 p1].toArray w (Post (.int .i64 r) w) := by
  refine enter Tryz.func202 rfl Tryz.ntmps202 rfl (St.start0 hΦ) ?_
  unfold m_l_szIntS at h
  refine WT.seq ?_
  refine WT.region ?_
  refine lq (q_assign rfl) rfl ?_
  refine WL.nil ?_
  refine WT.seq ?_
  refine WT.region ?_
  refine lq (q_move rfl) rfl ?_
  refine lq (q_move rfl) rfl ?_
  refine lq (q_lenR Sl_41 rfl rfl ph0) rfl ?_
  refine lq (q_sub rfl rfl) rfl ?_
  refine lq (q_assign rfl) rfl ?_
  refine WL.nil ?_
  refine WT.seq ?_
  refine WT.seq ?_
  refine WT.region ?_
  refine lq (q_move rfl) rfl ?_
  refine lq (q_lss rfl rfl) rfl ?_
  refine WL.nil ?_
  refine WT.cond rfl (fun c1 => ?_) (fun c1 => ?_)
  · replace h := ite_t h c1
    refine WT.seq ?_
    refine WT.region ?_
    refine lq (q_assign rfl) rfl ?_
    refine WL.nil ?_
    refine WT.ret Tryz.func202 (resOk.one rfl) (fun w1 hw => ?_)
    cases h
    exact post_of_St hw
  replace h := ite_f h c1
  refine WT.skip ?_
  refine WT.seq ?_
  refine WT.region ?_
  refine lq (q_move rfl) rfl ?_
  refine lq (q_assign rfl) rfl ?_
  refine WL.nil ?_
  refine WT.ret Tryz.func202 (resOk.one rfl) (fun w1 hw => ?_)
  cases h
  exact post_of_St hw
theorem m_l_szAlpha_ok {Φ : Hp} {w : World} (hΦ : In Φ w) (N : Nat) (p0 : TAlpha) (p1 : Int) {pv0_0 : Value} {pG0_0 : List Nat} {pv0_1 : Value} {pG0_1 : List Nat} (ph0_0 : RSl RTVal 3 Φ pG0_0 pv0_0 p0.Consts) (ph0_1 : RSl (RI .i64) 1 Φ pG0_1 pv0_1 p0.At) {r : Int} (h : m_l_szAlpha N p0 p1 = some r) :
    Calls Tryz.prog 151 [.agg [.string p0.Kind, .int .i64 p0.N, pv0_0, pv0_1].toArray, .int .i64 p1].toArray w (Post (.int .i64 r) w) := by
  refine enter Tryz.func151 rfl Tryz.ntmps151 rfl (St.start0 hΦ) ?_
  unfold m_l_szAlpha at h
  refine WT.seq ?_
  refine WT.region ?_
  refine ln (n_box (C := #[.string p0.Kind, .int .i64 p0.N, pv0_0, pv0_1]) rfl rfl) rfl (fun b_1 => ?_)
  refine lq (q_assign rfl) rfl ?_
  refine WL.nil ?_
  refine WT.seq ?_
  refine WT.region ?_
  refine lq (q_move rfl) rfl ?_
  refine lq (q_fieldAddr Fld_206_0 rfl) rfl ?_
  refine lq (q_load1 T1_9 rfl (fun w1 hw => hw.rgO (i := 0) rfl 0 1 [.string p0.Kind] rfl)) rfl ?_
  refine lq (q_lenS Str_9 rfl rfl) rfl ?_
  refine lq (q_sub rfl rfl) rfl ?_
  refine lq (q_assign rfl) rfl ?_
  refine WL.nil ?_
  refine WT.seq ?_
  refine WT.seq ?_
  refine WT.region ?_
  refine lq (q_move rfl) rfl ?_
  refine lq (q_lss rfl rfl) rfl ?_
  refine WL.nil ?_
  refine WT.cond rfl (fun c1 => ?_) (fun c1 => ?_)
  · replace h := ite_t h c1
    refine WT.seq ?_
    refine WT.region ?_
    refine lq (q_assign rfl) rfl ?_
    refine WL.nil ?_
    refine WT.ret Tryz.func151 (resOk.one rfl) (fun w1 hw => ?_)
    cases h
    exact post_of_St hw
  replace h := ite_f h c1
  refine WT.skip ?_
  refine WT.seq ?_
  refine WT.region ?_
  refine lq (q_fieldAddr Fld_206_2 rfl) rfl ?_
  refine lq (q_load1 T1_204 rfl (fun w1 hw => hw.rgO (i := 0) rfl 2 1 [pv0_0] rfl)) rfl ?_
  refine lq (q_move rfl) rfl ?_
  obtain ⟨x1, hx1, h⟩ := bind_some h
  refine lp (p_call Fun_201 rfl (fun w1 hw => m_l_szValS_ok hw.fro N p0.Consts (IntKind.i64.wrap (p1 - (p0.Kind.size : Int))) ph0_0 hx1)) rfl ?_
  refine lq (q_assign rfl) rfl ?_
  refine WL.nil ?_
  refine WT.seq ?_
  refine WT.seq ?_
  refine WT.region ?_
  refine lq (q_move rfl) rfl ?_
  refine lq (q_lss rfl rfl) rfl ?_
  refine WL.nil ?_
  refine WT.cond rfl (fun c2 => ?_) (fun c2 => ?_)
  · replace h := ite_t h c2
    refine WT.seq ?_
    refine WT.region ?_
    refine lq (q_assign rfl) rfl ?_
    refine WL.nil ?_
    refine WT.ret Tryz.func151 (resOk.one rfl) (fun w1 hw => ?_)
    cases h
    exact post_of_St hw
  replace h := ite_f h c2
  refine WT.skip ?_
  refine WT.seq ?_
  refine WT.region ?_
  refine lq (q_fieldAddr Fld_206_3 rfl) rfl ?_
  refine lq (q_load1 T1_41 rfl (fun w1 hw => hw.rgO (i := 0) rfl 3 1 [pv0_1] rfl)) rfl ?_
  refine lq (q_move rfl) rfl ?_
  obtain ⟨x2, hx2, h⟩ := bind_some h
  refine lp (p_call Fun_202 rfl (fun w1 hw => m_l_szIntS_ok hw.fro N p0.At x1 ph0_1 hx2)) rfl ?_
  refine lq (q_assign rfl) rfl ?_
  refine WL.nil ?_
  refine WT.seq ?_
  refine WT.seq ?_
  refine WT.region ?_
  refine lq (q_move rfl) rfl ?_
  refine lq (q_lss rfl rfl) rfl ?_
  refine WL.nil ?_
  refine WT.cond rfl (fun c3 => ?_) (fun c3 => ?_)
  · replace h := ite_t h c3
    refine WT.seq ?_
    refine WT.region ?_
    refine lq (q_assign rfl) rfl ?_
    refine WL.nil ?_
    refine WT.ret Tryz.func151 (resOk.one rfl) (fun w1 hw => ?_)
    cases h
    exact post_of_St hw
  replace h := ite_f h c3
  refine WT.skip ?_
  refine WT.seq ?_
  refine WT.region ?_
  refine lq (q_move rfl) rfl ?_
  refine lq (q_assign rfl) rfl ?_
  refine WL.nil ?_
  refine WT.ret Tryz.func151 (resOk.one rfl) (fun w1 hw => ?_)
  cases h
  exact post_of_St hw
theorem m_l_szAlphaS_ok {Φ : Hp} {w : World} (hΦ : In Φ w) (N : Nat) (p0 : (List TAlpha)) (p1 : Int) {pv0 : Value} {pG0 : List Nat} (ph0 : RSl RTAlpha 4 Φ pG0 pv0 p0) {r : Int} (h : m_l_szAlphaS N p0 p1 = some r) :
    Calls Tryz.prog 87 [pv0, .int .i64 p1].toArray w (Post (.int .i64 r) w) := by
  refine enter Tryz.func87 rfl Tryz.ntmps87 rfl (St.start0 hΦ) ?_
  generalize hb0 : (⟨w, [], Φ⟩ : Base) = w0
  unfold m_l_szAlphaS at h
  refine WT.seq ?_
  refine WT.region ?_
  refine lq (q_assign rfl) rfl ?_
  refine WL.nil ?_
  refine WT.seq ?_
  refine WT.region ?_
  refine lq (q_move rfl) rfl ?_
  refine lq (q_move rfl) rfl ?_
  refine lq (q_lenR Sl_76 rfl rfl ph0) rfl ?_
  refine lq (q_sub rfl rfl) rfl ?_
  refine lq (q_assign rfl) rfl ?_
  refine WL.nil ?_
  refine WT.seq ?_
  refine WT.seq ?_
  refine WT.region ?_
  refine lq (q_move rfl) rfl ?_
  refine lq (q_lss rfl rfl) rfl ?_
  refine WL.nil ?_
  refine WT.cond rfl (fun c1 => ?_) (fun c1 => ?_)
  · replace h := ite_t h c1
    refine WT.seq ?_
    refine WT.region ?_
    refine lq (q_assign rfl) rfl ?_
    refine WL.nil ?_
    refine WT.ret Tryz.func87 (resOk.one rfl) (fun w1 hw => ?_)
    subst hb0
    cases h
    exact post_of_St hw
  replace h := ite_f h c1
  refine WT.skip ?_
  refine WT.seq ?_
  refine WT.seq ?_
  refine WT.region ?_
  refine lq (q_assign rfl) rfl ?_
  refine WL.nil ?_
  refine WT.block ?_
  refine WT.loop ?_
  refine WT.mono (l' := [(0, pv0), (1, .int .i64 (IntKind.i64.wrap (p1 - (p0.length : Int)))), (5, .int .i64 0)]) (S' := St w0 Φ [] []) ⟨rfl, rfl, rfl, trivial⟩ (fun w1 hw => (hw.sel (js := []) rfl).selO (js := []) rfl) ?_
  refine loop_ind (σ := Int × Int) (fun s => [(0, pv0), (1, .int .i64 s.1), (5, .int .i64 s.2)]) (fun s => St w0 Φ [] []) (fun m s => m_l_szAlphaS_l1 N p0 m s.1 s.2 = some r) (fun s hm => none_ne (show (none : Option (Int)) = some r from hm)) (fun n1 ih1 s hm => ?_) N (IntKind.i64.wrap (p1 - (p0.length : Int)), 0) h
  obtain ⟨s1, s2⟩ := s
  have h : m_l_szAlphaS_l1 N p0 (n1 + 1) s1 s2 = some r := hm
  show WT _ _ [(0, pv0), (1, .int .i64 s1), (5, .int .i64 s2)] (St w0 Φ [] [])
  unfold m_l_szAlphaS_l1 at h
  refine WT.seq ?_
  refine WT.seq ?_
  refine WT.region ?_
  refine lq (q_move rfl) rfl ?_
  refine lq (q_move rfl) rfl ?_
  refine lq (q_lenR Sl_76 rfl rfl ph0) rfl ?_
  refine lq (q_lss rfl rfl) rfl ?_
  refine WL.nil ?_
  refine WT.cond rfl (fun c2 => ?_) (fun c2 => ?_)
  · replace h := ite_t h c2
    refine WT.skip ?_
    refine WT.seq ?_
    refine WT.block ?_
    refine WT.seq ?_
    refine WT.region ?_
    refine lq (q_move rfl) rfl ?_
    refine lq (q_move rfl) rfl ?_
    obtain ⟨x1, hx1, h⟩ := bind_some h
    obtain ⟨cs1, F1, -, g1, hb1, hs1, r1⟩ := ph0.el (idx_some hx1).2.2
    obtain ⟨v1, G1, v2, G2, rfl, rfl, h1, h2⟩ := r1
    refine lq (q_indexAddr Sl_76 rfl rfl ph0 hx1) rfl ?_
    refine lq (q_loadN Tn_206 rfl (fun w1 hw => (g1.of_eq 0 4 rfl rfl : rg _ _ _ [.string x1.Kind, .int .i64 x1.N, v1, v2]).rangeAt hw.fro) rfl) rfl ?_
    refine lq (q_move rfl) rfl ?_
    obtain ⟨x2, hx2, h⟩ := bind_some h
    refine lp (p_call Fun_151 rfl (fun w1 hw => m_l_szAlpha_ok hw.fro N x1 s1 h1 h2 hx2)) rfl ?_
    refine lq (q_assign rfl) rfl ?_
    refine WL.nil ?_
    refine WT.seq ?_
    refine WT.region ?_
    refine lq (q_move rfl) rfl ?_
    refine lq (q_lss rfl rfl) rfl ?_
    refine WL.nil ?_
    refine WT.cond rfl (fun c3 => ?_) (fun c3 => ?_)
    · replace h := ite_t h c3
      refine WT.seq ?_
      refine WT.region ?_
      refine lq (q_assign rfl) rfl ?_
      refine WL.nil ?_
      refine WT.ret Tryz.func87 (resOk.one rfl) (fun w1 hw => ?_)
      subst hb0
      cases h
      exact post_of_St hw
    replace h := ite_f h c3
    refine WT.skip ?_
    refine WT.inBlock ?_
    refine WT.region ?_
    refine lq (q_move rfl) rfl ?_
    refine lq (q_add rfl rfl) rfl ?_
    refine lq (q_assign rfl) rfl ?_
    refine WL.nil ?_
    refine WT.inLoop (WT.mono (l' := [(0, pv0), (1, .int .i64 x2), (5, .int .i64 (IntKind.i64.wrap (s2 + 1)))]) (S' := St w0 Φ [] []) ⟨rfl, rfl, rfl, trivial⟩ (fun w1 hw => (hw.sel (js := []) rfl).selO (js := []) rfl) ?_)
    exact ih1 (x2, IntKind.i64.wrap (s2 + 1)) h
  replace h := ite_f h c2
  refine WT.exit rfl ?_
  refine WT.seq ?_
  refine WT.region ?_
  refine lq (q_move rfl) rfl ?_
  refine lq (q_assign rfl) rfl ?_
  refine WL.nil ?_
  refine WT.ret Tryz.func87 (resOk.one rfl) (fun w1 hw => ?_)
  subst hb0
  cases h
  exact post_of_St hw
theorem m_l_szChain_ok {Φ : Hp} {w : World} (hΦ : In Φ w) (N : Nat) (p0 : TChain) (p1 : Int) {pv0_0 : Value} {pG0_0 : List Nat} {pv0_1 : Value} {pG0_1 : List Nat} (ph0_0 : RSl (RI .i64) 1 Φ pG0_0 pv0_0 p0.Pos) (ph0_1 : RSl (RI .i64) 1 Φ pG0_1 pv0_1 p0.Neg) {r : Int} (h : m_l_szChain N p0 p1 = some r) :
    Calls Tryz.prog 152 [.agg [pv0_0, pv0_1].toArray, .int .i64 p1].toArray w (Post (.int .i64 r) w) := by
  refine enter Tryz.func152 rfl Tryz.ntmps152 rfl (St.start0 hΦ) ?_
  unfold m_l_szChain at h
  refine WT.seq ?_
  refine WT.region ?_
  refine ln (n_box (C := #[pv0_0, pv0_1]) rfl rfl) rfl (fun b_1 => ?_)
  refine lq (q_assign rfl) rfl ?_
  refine WL.nil ?_
  refine WT.seq ?_
  refine WT.region ?_
  refine lq (q_fieldAddr Fld_208_0 rfl) rfl ?_
  refine lq (q_load1 T1_41 rfl (fun w1 hw => hw.rgO (i := 0) rfl 0 1 [pv0_0] rfl)) rfl ?_
  refine lq (q_move rfl) rfl ?_
  obtain ⟨x1, hx1, h⟩ := bind_some h
  refine lp (p_call Fun_202 rfl (fun w1 hw => m_l_szIntS_ok hw.fro N p0.Pos p1 ph0_0 hx1)) rfl ?_
  refine lq (q_assign rfl) rfl ?_
  refine WL.nil ?_
  refine WT.seq ?_
  refine WT.seq ?_
  refine WT.region ?_
  refine lq (q_move rfl) rfl ?_
  refine lq (q_lss rfl rfl) rfl ?_
  refine WL.nil ?_
  refine WT.cond rfl (fun c1 => ?_) (fun c1 => ?_)
  · replace h := ite_t h c1
    refine WT.seq ?_
    refine WT.region ?_
    refine lq (q_assign rfl) rfl ?_
    refine WL.nil ?_
    refine WT.ret Tryz.func152 (resOk.one rfl) (fun w1 hw => ?_)
    cases h
    exact post_of_St hw
  replace h := ite_f h c1
  refine WT.skip ?_
  refine WT.seq ?_
  refine WT.region ?_
  refine lq (q_fieldAddr Fld_208_1 rfl) rfl ?_
  refine lq (q_load1 T1_41 rfl (fun w1 hw => hw.rgO (i := 0) rfl 1 1 [pv0_1] rfl)) rfl ?_
  refine lq (q_move rfl) rfl ?_
  obtain ⟨x2, hx2, h⟩ := bind_some h
  refine lp (p_call Fun_202 rfl (fun w1 hw => m_l_szIntS_ok hw.fro N p0.Neg x1 ph0_1 hx2)) rfl ?_
  refine lq (q_assign rfl) rfl ?_
  refine WL.nil ?_
  refine WT.seq ?_
  refine WT.seq ?_
  refine WT.region ?_
  refine lq (q_move rfl) rfl ?_
  refine lq (q_lss rfl rfl) rfl ?_
  refine WL.nil ?_
  refine WT.cond rfl (fun c2 => ?_) (fun c2 => ?_)
  · replace h := ite_t h c2
    refine WT.seq ?_
    refine WT.region ?_
    refine lq (q_assign rfl) rfl ?_
    refine WL.nil ?_
    refine WT.ret Tryz.func152 (resOk.one rfl) (fun w1 hw => ?_)
    cases h
    exact post_of_St hw
  replace h := ite_f h c2
  refine WT.skip ?_
  refine WT.seq ?_
  refine WT.region ?_
  refine lq (q_move rfl) rfl ?_
  refine lq (q_assign rfl) rfl ?_
  refine WL.nil ?_
  refine WT.ret Tryz.func152 (resOk.one rfl) (fun w1 hw => ?_)
  cases h
  exact post_of_St hw
theorem m_l_szChainS_ok {Φ : Hp} {w : World} (hΦ : In Φ w) (N : Nat) (p0 : (List TChain)) (p1 : Int) {pv0 : Value} {pG0 : List Nat} (ph0 : RSl RTChain 2 Φ pG0 pv0 p0) {r : Int} (h : m_l_szChainS N p0 p1 = some r) :
    Calls Tryz.prog 88 [pv0, .int .i64 p1].toArray w (Post (.int .i64 r) w) := by
  refine enter Tryz.func88 rfl Tryz.ntmps88 rfl (St.start0 hΦ) ?_
  generalize hb0 : (⟨w, [], Φ⟩ : Base) = w0
  unfold m_l_szChainS at h
  refine WT.seq ?_
  refine WT.region ?_
  refine lq (q_assign rfl) rfl ?_
  refine WL.nil ?_
  refine WT.seq ?_
  refine WT.region ?_
  refine lq (q_move rfl) rfl ?_
  refine lq (q_move rfl) rfl ?_
  refine lq (q_lenR Sl_77 rfl rfl ph0) rfl ?_
  refine lq (q_sub rfl rfl) rfl ?_
  refine lq (q_assign rfl) rfl ?_
  refine WL.nil ?_
  refine WT.seq ?_
  refine WT.seq ?_
  refine WT.region ?_
  refine lq (q_move rfl) rfl ?_
  refine lq (q_lss rfl rfl) rfl ?_
  refine WL.nil ?_
  refine WT.cond rfl (fun c1 => ?_) (fun c1 => ?_)
  · replace h := ite_t h c1
    refine WT.seq ?_
    refine WT.region ?_
    refine lq (q_assign rfl) rfl ?_
    refine WL.nil ?_
    refine WT.ret Tryz.func88 (resOk.one rfl) (fun w1 hw => ?_)
    subst hb0
    cases h
    exact post_of_St hw
  replace h := ite_f h c1
  refine WT.skip ?_
  refine WT.seq ?_
  refine WT.seq ?_
  refine WT.region ?_
  refine lq (q_assign rfl) rfl ?_
  refine WL.nil ?_
  refine WT.block ?_
  refine WT.loop ?_
  refine WT.mono (l' := [(0, pv0), (1, .int .i64 (IntKind.i64.wrap (p1 - (p0.length : Int)))), (5, .int .i64 0)]) (S' := St w0 Φ [] []) ⟨rfl, rfl, rfl, trivial⟩ (fun w1 hw => (hw.sel (js := []) rfl).selO (js := []) rfl) ?_
  refine loop_ind (σ := Int × Int) (fun s => [(0, pv0), (1, .int .i64 s.1), (5, .int .i64 s.2)]) (fun s => St w0 Φ [] []) (fun m s => m_l_szChainS_l1 N p0 m s.1 s.2 = some r) (fun s hm => none_ne (show (none : Option (Int)) = some r from hm)) (fun n1 ih1 s hm => ?_) N (IntKind.i64.wrap (p1 - (p0.length : Int)), 0) h
  obtain ⟨s1, s2⟩ := s
  have h : m_l_szChainS_l1 N p0 (n1 + 1) s1 s2 = some r := hm
  show WT _ _ [(0, pv0), (1, .int .i64 s1), (5, .int .i64 s2)] (St w0 Φ [] [])
  unfold m_l_szChainS_l1 at h
  refine WT.seq ?_
  refine WT.seq ?_
  refine WT.region ?_
  refine lq (q_move rfl) rfl ?_
  refine lq (q_move rfl) rfl ?_
  refine lq (q_lenR Sl_77 rfl rfl ph0) rfl ?_
  refine lq (q_lss rfl rfl) rfl ?_
  refine WL.nil ?_
  refine WT.cond rfl (fun c2 => ?_) (fun c2 => ?_)
  · replace h := ite_t h c2
    refine WT.skip ?_
    refine WT.seq ?_
    refine WT.block ?_
    refine WT.seq ?_
    refine WT.region ?_
    refine lq (q_move rfl) rfl ?_
    refine lq (q_move rfl) rfl ?_
    obtain ⟨x1, hx1, h⟩ := bind_some h
    obtain ⟨cs1, F1, -, g1, hb1, hs1, r1⟩ := ph0.el (idx_some hx1).2.2
    obtain ⟨v1, G1, v2, G2, rfl, rfl, h1, h2⟩ := r1
    refine lq (q_indexAddr Sl_77 rfl rfl ph0 hx1) rfl ?_
    refine lq (q_loadN Tn_208 rfl (fun w1 hw => (g1.of_eq 0 2 rfl rfl : rg _ _ _ [v1, v2]).rangeAt hw.fro) rfl) rfl ?_
    refine lq (q_move rfl) rfl ?_
    obtain ⟨x2, hx2, h⟩ := bind_some h
    refine lp (p_call Fun_152 rfl (fun w1 hw => m_l_szChain_ok hw.fro N x1 s1 h1 h2 hx2)) rfl ?_
    refine lq (q_assign rfl) rfl ?_
    refine WL.nil ?_
    refine WT.seq ?_
    refine WT.region ?_
    refine lq (q_move rfl) rfl ?_
    refine lq (q_lss rfl rfl) rfl ?_
    refine WL.nil ?_
    refine WT.cond rfl (fun c3 => ?_) (fun c3 => ?_)
    · replace h := ite_t h c3
      refine WT.seq ?_
      refine WT.region ?_
      refine lq (q_assign rfl) rfl ?_
      refine WL.nil ?_
      refine WT.ret Tryz.func88 (resOk.one rfl) (fun w1 hw => ?_)
      subst hb0
      cases h
      exact post_of_St hw
    replace h := ite_f h c3
    refine WT.skip ?_
    refine WT.inBlock ?_
    refine WT.region ?_
    refine lq (q_move rfl) rfl ?_
    refine lq (q_add rfl rfl) rfl ?_
    refine lq (q_assign rfl) rfl ?_
    refine WL.nil ?_
    refine WT.inLoop (WT.mono (l' := [(0, pv0), (1, .int .i64 x2), (5, .int .i64 (IntKind.i64.wrap (s2 + 1)))]) (S' := St w0 Φ [] []) ⟨rfl, rfl, rfl, trivial⟩ (fun w1 hw => (hw.sel (js := []) rfl).selO (js := []) rfl) ?_)
    exact ih1 (x2, IntKind.i64.wrap (s2 + 1)) h
  replace h := ite_f h c2
  refine WT.exit rfl ?_
  refine WT.seq ?_
  refine WT.region ?_
  refine lq (q_move rfl) rfl ?_
  refine lq (q_assign rfl) rfl ?_
  refine WL.nil ?_
  refine WT.ret Tryz.func88 (resOk.one rfl) (fun w1 hw => ?_)
  subst hb0
  cases h
  exact post_of_St hw
theorem m_l_szNet_ok {Φ : Hp} {w : World} (hΦ : In Φ w) (N : Nat) (p0 : TNet) (p1 : Int) {pv0_0 : Value} {pG0_0 : List Nat} {pv0_1 : Value} {pG0_1 : List Nat} (ph0_0 : RSl RTAlpha 4 Φ pG0_0 pv0_0 p0.Alphas) (ph0_1 : RSl RTChain 2 Φ pG0_1 pv0_1 p0.Chains) {r : Int} (h : m_l_szNet N p0 p1 = some r) :
    Calls Tryz.prog 33 [.agg [pv0_0, pv0_1].toArray, .int .i64 p1].toArray w (Post (.int .i64 r) w) := by
  refine enter Tryz.func33 rfl Tryz.ntmps33 rfl (St.start0 hΦ) ?_
  unfold m_l_szNet at h
  refine WT.seq ?_
  refine WT.region ?_
  refine ln (n_box (C := #[pv0_0, pv0_1]) rfl rfl) rfl (fun b_1 => ?_)
  refine lq (q_assign rfl) rfl ?_
  refine WL.nil ?_
  refine WT.seq ?_
  refine WT.region ?_
  refine lq (q_fieldAddr Fld_79_0 rfl) rfl ?_
  refine lq (q_load1 T1_76 rfl (fun w1 hw => hw.rgO (i := 0) rfl 0 1 [pv0_0] rfl)) rfl ?_
  refine lq (q_move rfl) rfl ?_
  obtain ⟨x1, hx1, h⟩ := bind_some h
  refine lp (p_call Fun_87 rfl (fun w1 hw => m_l_szAlphaS_ok hw.fro N p0.Alphas p1 ph0_0 hx1)) rfl ?_
  refine lq (q_assign rfl) rfl ?_
  refine WL.nil ?_
  refine WT.seq ?_
  refine WT.seq ?_
  refine WT.region ?_
  refine lq (q_move rfl) rfl ?_
  refine lq (q_lss rfl rfl) rfl ?_
  refine WL.nil ?_
  refine WT.cond rfl (fun c1 => ?_) (fun c1 => ?_)
  · replace h := ite_t h c1
    refine WT.seq ?_
    refine WT.region ?_
    refine lq (q_assign rfl) rfl ?_
    refine WL.nil ?_
    refine WT.ret Tryz.func33 (resOk.one rfl) (fun w1 hw => ?_)
    cases h
    exact post_of_St hw
  replace h := ite_f h c1
  refine WT.skip ?_
  refine WT.seq ?_
  refine WT.region ?_
  refine lq (q_fieldAddr Fld_79_1 rfl) rfl ?_
  refine lq (q_load1 T1_77 rfl (fun w1 hw => hw.rgO (i := 0) rfl 1 1 [pv0_1] rfl)) rfl ?_
  refine lq (q_move rfl) rfl ?_
  obtain ⟨x2, hx2, h⟩ := bind_some h
  refine lp (p_call Fun_88 rfl (fun w1 hw => m_l_szChainS_ok hw.fro N p0.Chains x1 ph0_1 hx2)) rfl ?_
  refine lq (q_assign rfl) rfl ?_
  refine WL.nil ?_
  refine WT.seq ?_
  refine WT.seq ?_
  refine WT.region ?_
  refine lq (q_move rfl) rfl ?_
  refine lq (q_lss rfl rfl) rfl ?_
  refine WL.nil ?_
  refine WT.cond rfl (fun c2 => ?_) (fun c2 => ?_)
  · replace h := ite_t h c2
    refine WT.seq ?_
    refine WT.region ?_
    refine lq (q_assign rfl) rfl ?_
    refine WL.nil ?_
    refine WT.ret Tryz.func33 (resOk.one rfl) (fun w1 hw => ?_)
    cases h
    exact post_of_St hw
  replace h := ite_f h c2
  refine WT.skip ?_
  refine WT.seq ?_
  refine WT.region ?_
  refine lq (q_move rfl) rfl ?_
  refine lq (q_assign rfl) rfl ?_
  refine WL.nil ?_
  refine WT.ret Tryz.func33 (resOk.one rfl) (fun w1 hw => ?_)
  cases h
  exact post_of_St hw
theorem m_l_szArg_ok {Φ : Hp} {w : World} (hΦ : In Φ w) (N : Nat) (p0 : TArg) (p1 : Int)   {r : Int} (h : m_l_szArg N p0 p1 = some r) :
    Calls Tryz.prog 246 [.agg [.int .i64 p0.K, .string p0.S, .int .i64 p0.V.K, .int .i64 p0.V.N, .string p0.V.S].toArray, .int .i64 p1].toArray w (Post (.int .i64 r) w) := by
  refine enter Tryz.func246 rfl Tryz.ntmps246 rfl (St.start0 hΦ) ?_
  unfold m_l_szArg at h
  refine WT.seq ?_
  refine WT.region ?_
  refine ln (n_box (C := #[.int .i64 p0.K, .string p0.S, .int .i64 p0.V.K, .int .i64 p0.V.N, .string p0.V.S]) rfl rfl) rfl (fun b_1 => ?_)
  refine lq (q_assign rfl) rfl ?_
  refine WL.nil ?_
  refine WT.seq ?_
  refine WT.region ?_
  refine lq (q_move rfl) rfl ?_
  refine lq (q_fieldAddr Fld_267_1 rfl) rfl ?_
  refine lq (q_load1 T1_9 rfl (fun w1 hw => hw.rgO (i := 0) rfl 1 1 [.string p0.S] rfl)) rfl ?_
  refine lq (q_lenS Str_9 rfl rfl) rfl ?_
  refine lq (q_sub rfl rfl) rfl ?_
  refine lq (q_assign rfl) rfl ?_
  refine WL.nil ?_
  refine WT.seq ?_
  refine WT.seq ?_
  refine WT.region ?_
  refine lq (q_move rfl) rfl ?_
  refine lq (q_lss rfl rfl) rfl ?_
  refine WL.nil ?_
  refine WT.cond rfl (fun c1 => ?_) (fun c1 => ?_)
  · replace h := ite_t h c1
    refine WT.seq ?_
    refine WT.region ?_
    refine lq (q_assign rfl) rfl ?_
    refine WL.nil ?_
    refine WT.ret Tryz.func246 (resOk.one rfl) (fun w1 hw => ?_)
    cases h
    exact post_of_St hw
  replace h := ite_f h c1
  refine WT.skip ?_
  refine WT.seq ?_
  refine WT.region ?_
  refine lq (q_fieldAddr Fld_267_2 rfl) rfl ?_
  refine lq (q_loadN Tn_260 rfl (fun w1 hw => hw.rgO (i := 0) rfl 2 3 [.int .i64 p0.V.K, .int .i64 p0.V.N, .string p0.V.S] rfl) rfl) rfl ?_
  refine lq (q_move rfl) rfl ?_
  obtain ⟨x1, hx1, h⟩ := bind_some h
  refine lp (p_call Fun_226 rfl (fun w1 hw => m_l_szVal_ok hw.fro N p0.V (IntKind.i64.wrap (p1 - (p0.S.size : Int))) hx1)) rfl ?_
  refine lq (q_assign rfl) rfl ?_
  refine WL.nil ?_
  refine WT.seq ?_
  refine WT.seq ?_
  refine WT.region ?_
  refine lq (q_move rfl) rfl ?_
  refine lq (q_lss rfl rfl) rfl ?_
  refine WL.nil ?_
  refine WT.cond rfl (fun c2 => ?_) (fun c2 => ?_)
  · replace h := ite_t h c2
    refine WT.seq ?_
    refine WT.region ?_
    refine lq (q_assign rfl) rfl ?_
    refine WL.nil ?_
    refine WT.ret Tryz.func246 (resOk.one rfl) (fun w1 hw => ?_)
    cases h
    exact post_of_St hw
  replace h := ite_f h c2
  refine WT.skip ?_
  refine WT.seq ?_
  refine WT.region ?_
  refine lq (q_move rfl) rfl ?_
  refine lq (q_assign rfl) rfl ?_
  refine WL.nil ?_
  refine WT.ret Tryz.func246 (resOk.one rfl) (fun w1 hw => ?_)
  cases h
  exact post_of_St hw
theorem m_l_szArgS_ok {Φ : Hp} {w : World} (hΦ : In Φ w) (N : Nat) (p0 : (List TArg)) (p1 : Int) {pv0 : Value} {pG0 : List Nat} (ph0 : RSl RTArg 5 Φ pG0 pv0 p0) {r : Int} (h : m_l_szArgS N p0 p1 = some r) :
    Calls Tryz.prog 245 [pv0, .int .i64 p1].toArray w (Post (.int .i64 r) w) := by
  refine enter Tryz.func245 rfl Tryz.ntmps245 rfl (St.start0 hΦ) ?_
  generalize hb0 : (⟨w, [], Φ⟩ : Base) = w0
  unfold m_l_szArgS at h
  refine WT.seq ?_
  refine WT.region ?_
  refine lq (q_assign rfl) rfl ?_
  refine WL.nil ?_
  refine WT.seq ?_
  refine WT.region ?_
  refine lq (q_move rfl) rfl ?_
  refine lq (q_move rfl) rfl ?_
  refine lq (q_lenR Sl_262 rfl rfl ph0) rfl ?_
  refine lq (q_sub rfl rfl) rfl ?_
  refine lq (q_assign rfl) rfl ?_
  refine WL.nil ?_
  refine WT.seq ?_
  refine WT.seq ?_
  refine WT.region ?_
  refine lq (q_move rfl) rfl ?_
  refine lq (q_lss rfl rfl) rfl ?_
  refine WL.nil ?_
  refine WT.cond rfl (fun c1 => ?_) (fun c1 => ?_)
  · replace h := ite_t h c1
    refine WT.seq ?_
    refine WT.region ?_
    refine lq (q_assign rfl) rfl ?_
    refine WL.nil ?_
    refine WT.ret Tryz.func245 (resOk.one rfl) (fun w1 hw => ?_)
    subst hb0
    cases h
    exact post_of_St hw
  replace h := ite_f h c1
  refine WT.skip ?_
  refine WT.seq ?_
  refine WT.seq ?_
  refine WT.region ?_
  refine lq (q_assign rfl) rfl ?_
  refine WL.nil ?_
  refine WT.block ?_
  refine WT.loop ?_
  refine WT.mono (l' := [(0, pv0), (1, .int .i64 (IntKind.i64.wrap (p1 - (p0.length : Int)))), (5, .int .i64 0)]) (S' := St w0 Φ [] []) ⟨rfl, rfl, rfl, trivial⟩ (fun w1 hw => (hw.sel (js := []) rfl).selO (js := []) rfl) ?_
  refine loop_ind (σ := Int × Int) (fun s => [(0, pv0), (1, .int .i64 s.1), (5, .int .i64 s.2)]) (fun s => St w0 Φ [] []) (fun m s => m_l_szArgS_l1 N p0 m s.1 s.2 = some r) (fun s hm => none_ne (show (none : Option (Int)) = some r from hm)) (fun n1 ih1 s hm => ?_) N (IntKind.i64.wrap (p1 - (p0.length : Int)), 0) h
  obtain ⟨s1, s2⟩ := s
  have h : m_l_szArgS_l1 N p0 (n1 + 1) s1 s2 = some r := hm
  show WT _ _ [(0, pv0), (1, .int .i64 s1), (5, .int .i64 s2)] (St w0 Φ [] [])
  unfold m_l_szArgS_l1 at h
  refine WT.seq ?_
  refine WT.seq ?_
  refine WT.region ?_
  refine lq (q_move rfl) rfl ?_
  refine lq (q_move rfl) rfl ?_
  refine lq (q_lenR Sl_262 rfl rfl ph0) rfl ?_
  refine lq (q_lss rfl rfl) rfl ?_
  refine WL.nil ?_
  refine WT.cond rfl (fun c2 => ?_) (fun c2 => ?_)
  · replace h := ite_t h c2
    refine WT.skip ?_
    refine WT.seq ?_
    refine WT.block ?_
    refine WT.seq ?_
    refine WT.region ?_
    refine lq (q_move rfl) rfl ?_
    refine lq (q_move rfl) rfl ?_
    obtain ⟨x1, hx1, h⟩ := bind_some h
    obtain ⟨cs1, F1, -, g1, hb1, hs1, r1⟩ := ph0.el (idx_some hx1).2.2
    obtain ⟨rfl, -⟩ := r1
    refine lq (q_indexAddr Sl_262 rfl rfl ph0 hx1) rfl ?_
    refine lq (q_loadN Tn_267 rfl (fun w1 hw => (g1.of_eq 0 5 rfl rfl : rg _ _ _ [.int .i64 x1.K, .string x1.S, .int .i64 x1.V.K, .int .i64 x1.V.N, .string x1.V.S]).rangeAt hw.fro) rfl) rfl ?_
    refine lq (q_move rfl) rfl ?_
    obtain ⟨x2, hx2, h⟩ := bind_some h
    refine lp (p_call Fun_246 rfl (fun w1 hw => m_l_szArg_ok hw.fro N x1 s1 hx2)) rfl ?_
    refine lq (q_assign rfl) rfl ?_
    refine WL.nil ?_
    refine WT.seq ?_
    refine WT.region ?_
    refine lq (q_move rfl) rfl ?_
    refine lq (q_lss rfl rfl) rfl ?_
    refine WL.nil ?_
    refine WT.cond rfl (fun c3 => ?_) (fun c3 => ?_)
    · replace h := ite_t h c3
      refine WT.seq ?_
      refine WT.region ?_
      refine lq (q_assign rfl) rfl ?_
      refine WL.nil ?_
      refine WT.ret Tryz.func245 (resOk.one rfl) (fun w1 hw => ?_)
      subst hb0
      cases h
      exact post_of_St hw
    replace h := ite_f h c3
    refine WT.skip ?_
    refine WT.inBlock ?_
    refine WT.region ?_
    refine lq (q_move rfl) rfl ?_
    refine lq (q_add rfl rfl) rfl ?_
    refine lq (q_assign rfl) rfl ?_
    refine WL.nil ?_
    refine WT.inLoop (WT.mono (l' := [(0, pv0), (1, .int .i64 x2), (5, .int .i64 (IntKind.i64.wrap (s2 + 1)))]) (S' := St w0 Φ [] []) ⟨rfl, rfl, rfl, trivial⟩ (fun w1 hw => (hw.sel (js := []) rfl).selO (js := []) rfl) ?_)
    exact ih1 (x2, IntKind.i64.wrap (s2 + 1)) h
  replace h := ite_f h c2
  refine WT.exit rfl ?_
  refine WT.seq ?_
  refine WT.region ?_
  refine lq (q_move rfl) rfl ?_
  refine lq (q_assign rfl) rfl ?_
  refine WL.nil ?_
  refine WT.ret Tryz.func245 (resOk.one rfl) (fun w1 hw => ?_)
  subst hb0
  cases h
  exact post_of_St hw
theorem m_l_szPat_ok {Φ : Hp} {w : World} (hΦ : In Φ w) (N : Nat) (p0 : TPat) (p1 : Int) {pv0_0 : Value} {pG0_0 : List Nat} (ph0_0 : RSl RTArg 5 Φ pG0_0 pv0_0 p0.Args) {r : Int} (h : m_l_szPat N p0 p1 = some r) :
    Calls Tryz.prog 227 [.agg [.string p0.Kind, pv0_0, .bool p0.Not].toArray, .int .i64 p1].toArray w (Post (.int .i64 r) w) := by
  refine enter Tryz.func227 rfl Tryz.ntmps227 rfl (St.start0 hΦ) ?_
  unfold m_l_szPat at h
  refine WT.seq ?_
  refine WT.region ?_
  refine ln (n_box (C := #[.string p0.Kind, pv0_0, .bool p0.Not]) rfl rfl) rfl (fun b_1 => ?_)
  refine lq (q_assign rfl) rfl ?_
  refine WL.nil ?_
  refine WT.seq ?_
  refine WT.region ?_
  refine lq (q_move rfl) rfl ?_
  refine lq (q_fieldAddr Fld_264_0 rfl) rfl ?_
  refine lq (q_load1 T1_9 rfl (fun w1 hw => hw.rgO (i := 0) rfl 0 1 [.string p0.Kind] rfl)) rfl ?_
  refine lq (q_lenS Str_9 rfl rfl) rfl ?_
  refine lq (q_sub rfl rfl) rfl ?_
  refine lq (q_assign rfl) rfl ?_
  refine WL.nil ?_
  refine WT.seq ?_
  refine WT.seq ?_
  refine WT.region ?_
  refine lq (q_move rfl) rfl ?_
  refine lq (q_lss rfl rfl) rfl ?_
  refine WL.nil ?_
  refine WT.cond rfl (fun c1 => ?_) (fun c1 => ?_)
  · replace h := ite_t h c1
    refine WT.seq ?_
    refine WT.region ?_
    refine lq (q_assign rfl) rfl ?_
    refine WL.nil ?_
    refine WT.ret Tryz.func227 (resOk.one rfl) (fun w1 hw => ?_)
    cases h
    exact post_of_St hw
  replace h := ite_f h c1
  refine WT.skip ?_
  refine WT.seq ?_
  refine WT.region ?_
  refine lq (q_fieldAddr Fld_264_1 rfl) rfl ?_
  refine lq (q_load1 T1_262 rfl (fun w1 hw => hw.rgO (i := 0) rfl 1 1 [pv0_0] rfl)) rfl ?_
  refine lq (q_move rfl) rfl ?_
  obtain ⟨x1, hx1, h⟩ := bind_some h
  refine lp (p_call Fun_245 rfl (fun w1 hw => m_l_szArgS_ok hw.fro N p0.Args (IntKind.i64.wrap (p1 - (p0.Kind.size : Int))) ph0_0 hx1)) rfl ?_
  refine lq (q_assign rfl) rfl ?_
  refine WL.nil ?_
  refine WT.seq ?_
  refine WT.seq ?_
  refine WT.region ?_
  refine lq (q_move rfl) rfl ?_
  refine lq (q_lss rfl rfl) rfl ?_
  refine WL.nil ?_
  refine WT.cond rfl (fun c2 => ?_) (fun c2 => ?_)
  · replace h := ite_t h c2
    refine WT.seq ?_
    refine WT.region ?_
    refine lq (q_assign rfl) rfl ?_
    refine WL.nil ?_
    refine WT.ret Tryz.func227 (resOk.one rfl) (fun w1 hw => ?_)
    cases h
    exact post_of_St hw
  replace h := ite_f h c2
  refine WT.skip ?_
  refine WT.seq ?_
  refine WT.region ?_
  refine lq (q_move rfl) rfl ?_
  refine lq (q_assign rfl) rfl ?_
  refine WL.nil ?_
  refine WT.ret Tryz.func227 (resOk.one rfl) (fun w1 hw => ?_)
  cases h
  exact post_of_St hw
theorem m_l_szPatS_ok {Φ : Hp} {w : World} (hΦ : In Φ w) (N : Nat) (p0 : (List TPat)) (p1 : Int) {pv0 : Value} {pG0 : List Nat} (ph0 : RSl RTPat 3 Φ pG0 pv0 p0) {r : Int} (h : m_l_szPatS N p0 p1 = some r) :
    Calls Tryz.prog 203 [pv0, .int .i64 p1].toArray w (Post (.int .i64 r) w) := by
  refine enter Tryz.func203 rfl Tryz.ntmps203 rfl (St.start0 hΦ) ?_
  generalize hb0 : (⟨w, [], Φ⟩ : Base) = w0
  unfold m_l_szPatS at h
  refine WT.seq ?_
  refine WT.region ?_
  refine lq (q_assign rfl) rfl ?_
  refine WL.nil ?_
  refine WT.seq ?_
  refine WT.region ?_
  refine lq (q_move rfl) rfl ?_
  refine lq (q_move rfl) rfl ?_
  refine lq (q_lenR Sl_210 rfl rfl ph0) rfl ?_
  refine lq (q_sub rfl rfl) rfl ?_
  refine lq (q_assign rfl) rfl ?_
  refine WL.nil ?_
  refine WT.seq ?_
  refine WT.seq ?_
  refine WT.region ?_
  refine lq (q_move rfl) rfl ?_
  refine lq (q_lss rfl rfl) rfl ?_
  refine WL.nil ?_
  refine WT.cond rfl (fun c1 => ?_) (fun c1 => ?_)
  · replace h := ite_t h c1
    refine WT.seq ?_
    refine WT.region ?_
    refine lq (q_assign rfl) rfl ?_
    refine WL.nil ?_
    refine WT.ret Tryz.func203 (resOk.one rfl) (fun w1 hw => ?_)
    subst hb0
    cases h
    exact post_of_St hw
  replace h := ite_f h c1
  refine WT.skip ?_
  refine WT.seq ?_
  refine WT.seq ?_
  refine WT.region ?_
  refine lq (q_assign rfl) rfl ?_
  refine WL.nil ?_
  refine WT.block ?_
  refine WT.loop ?_
  refine WT.mono (l' := [(0, pv0), (1, .int .i64 (IntKind.i64.wrap (p1 - (p0.length : Int)))), (5, .int .i64 0)]) (S' := St w0 Φ [] []) ⟨rfl, rfl, rfl, trivial⟩ (fun w1 hw => (hw.sel (js := []) rfl).selO (js := []) rfl) ?_
  refine loop_ind (σ := Int × Int) (fun s => [(0, pv0), (1, .int .i64 s.1), (5, .int .i64 s.2)]) (fun s => St w0 Φ [] []) (fun m s => m_l_szPatS_l1 N p0 m s.1 s.2 = some r) (fun s hm => none_ne (show (none : Option (Int)) = some r from hm)) (fun n1 ih1 s hm => ?_) N (IntKind.i64.wrap (p1 - (p0.length : Int)), 0) h
  obtain ⟨s1, s2⟩ := s
  have h : m_l_szPatS_l1 N p0 (n1 + 1) s1 s2 = some r := hm
  show WT _ _ [(0, pv0), (1, .int .i64 s1), (5, .int .i64 s2)] (St w0 Φ [] [])
  unfold m_l_szPatS_l1 at h
  refine WT.seq ?_
  refine WT.seq ?_
  refine WT.region ?_
  refine lq (q_move rfl) rfl ?_
  refine lq (q_move rfl) rfl ?_
  refine lq (q_lenR Sl_210 rfl rfl ph0) rfl ?_
  refine lq (q_lss rfl rfl) rfl ?_
  refine WL.nil ?_
  refine WT.cond rfl (fun c2 => ?_) (fun c2 => ?_)
  · replace h := ite_t h c2
    refine WT.skip ?_
    refine WT.seq ?_
    refine WT.block ?_
    refine WT.seq ?_
    refine WT.region ?_
    refine lq (q_move rfl) rfl ?_
    refine lq (q_move rfl) rfl ?_
    obtain ⟨x1, hx1, h⟩ := bind_some h
    obtain ⟨cs1, F1, -, g1, hb1, hs1, r1⟩ := ph0.el (idx_some hx1).2.2
    obtain ⟨v1, G1, rfl, hq1, h1⟩ := r1
    obtain rfl := hq1.symm
    refine lq (q_indexAddr Sl_210 rfl rfl ph0 hx1) rfl ?_
    refine lq (q_loadN Tn_264 rfl (fun w1 hw => (g1.of_eq 0 3 rfl rfl : rg _ _ _ [.string x1.Kind, v1, .bool x1.Not]).rangeAt hw.fro) rfl) rfl ?_
    refine lq (q_move rfl) rfl ?_
    obtain ⟨x2, hx2, h⟩ := bind_some h
    refine lp (p_call Fun_227 rfl (fun w1 hw => m_l_szPat_ok hw.fro N x1 s1 h1 hx2)) rfl ?_
    refine lq (q_assign rfl) rfl ?_
    refine WL.nil ?_
    refine WT.seq ?_
    refine WT.region ?_
    refine lq (q_move rfl) rfl ?_
    refine lq (q_lss rfl rfl) rfl ?_
    refine WL.nil ?_
    refine WT.cond rfl (fun c3 => ?_) (fun c3 => ?_)
    · replace h := ite_t h c3
      refine WT.seq ?_
      refine WT.region ?_
      refine lq (q_assign rfl) rfl ?_
      refine WL.nil ?_
      refine WT.ret Tryz.func203 (resOk.one rfl) (fun w1 hw => ?_)
      subst hb0
      cases h
      exact post_of_St hw
    replace h := ite_f h c3
    refine WT.skip ?_
    refine WT.inBlock ?_
    refine WT.region ?_
    refine lq (q_move rfl) rfl ?_
    refine lq (q_add rfl rfl) rfl ?_
    refine lq (q_assign rfl) rfl ?_
    refine WL.nil ?_
    refine WT.inLoop (WT.mono (l' := [(0, pv0), (1, .int .i64 x2), (5, .int .i64 (IntKind.i64.wrap (s2 + 1)))]) (S' := St w0 Φ [] []) ⟨rfl, rfl, rfl, trivial⟩ (fun w1 hw => (hw.sel (js := []) rfl).selO (js := []) rfl) ?_)
    exact ih1 (x2, IntKind.i64.wrap (s2 + 1)) h
  replace h := ite_f h c2
  refine WT.exit rfl ?_
  refine WT.seq ?_
  refine WT.region ?_
  refine lq (q_move rfl) rfl ?_
  refine lq (q_assign rfl) rfl ?_
  refine WL.nil ?_
  refine WT.ret Tryz.func203 (resOk.one rfl) (fun w1 hw => ?_)
  subst hb0
  cases h
  exact post_of_St hw
theorem m_l_szCond_ok {Φ : Hp} {w : World} (hΦ : In Φ w) (N : Nat) (p0 : TCond) (p1 : Int)   {r : Int} (h : m_l_szCond N p0 p1 = some r) :
    Calls Tryz.prog 228 [.agg [.int .i64 p0.Op, .int .i64 p0.L.K, .string p0.L.S, .int .i64 p0.L.V.K, .int .i64 p0.L.V.N, .string p0.L.V.S, .int .i64 p0.R.K, .string p0.R.S, .int .i64 p0.R.V.K, .int .i64 p0.R.V.N, .string p0.R.V.S].toArray, .int .i64 p1].toArray w (Post (.int .i64 r) w) := by
  refine enter Tryz.func228 rfl Tryz.ntmps228 rfl (St.start0 hΦ) ?_
  unfold m_l_szCond at h
  refine WT.seq ?_
  refine WT.region ?_
  refine ln (n_box (C := #[.int .i64 p0.Op, .int .i64 p0.L.K, .string p0.L.S, .int .i64 p0.L.V.K, .int .i64 p0.L.V.N, .string p0.L.V.S, .int .i64 p0.R.K, .string p0.R.S, .int .i64 p0.R.V.K, .int .i64 p0.R.V.N, .string p0.R.V.S]) rfl rfl) rfl (fun b_1 => ?_)
  refine lq (q_assign rfl) rfl ?_
  refine WL.nil ?_
  refine WT.seq ?_
  refine WT.region ?_
  refine lq (q_fieldAddr Fld_269_1 rfl) rfl ?_
  refine lq (q_loadN Tn_267 rfl (fun w1 hw => hw.rgO (i := 0) rfl 1 5 [.int .i64 p0.L.K, .string p0.L.S, .int .i64 p0.L.V.K, .int .i64 p0.L.V.N, .string p0.L.V.S] rfl) rfl) rfl ?_
  refine lq (q_move rfl) rfl ?_
  obtain ⟨x1, hx1, h⟩ := bind_some h
  refine lp (p_call Fun_246 rfl (fun w1 hw => m_l_szArg_ok hw.fro N p0.L p1 hx1)) rfl ?_
  refine lq (q_assign rfl) rfl ?_
  refine WL.nil ?_
  refine WT.seq ?_
  refine WT.seq ?_
  refine WT.region ?_
  refine lq (q_move rfl) rfl ?_
  refine lq (q_lss rfl rfl) rfl ?_
  refine WL.nil ?_
  refine WT.cond rfl (fun c1 => ?_) (fun c1 => ?_)
  · replace h := ite_t h c1
    refine WT.seq ?_
    refine WT.region ?_
    refine lq (q_assign rfl) rfl ?_
    refine WL.nil ?_
    refine WT.ret Tryz.func228 (resOk.one rfl) (fun w1 hw => ?_)
    cases h
    exact post_of_St hw
  replace h := ite_f h c1
  refine WT.skip ?_
  refine WT.seq ?_
  refine WT.region ?_
  refine lq (q_fieldAddr Fld_269_2 rfl) rfl ?_
  refine lq (q_loadN Tn_267 rfl (fun w1 hw => hw.rgO (i := 0) rfl 6 5 [.int .i64 p0.R.K, .string p0.R.S, .int .i64 p0.R.V.K, .int .i64 p0.R.V.N, .string p0.R.V.S] rfl) rfl) rfl ?_
  refine lq (q_move rfl) rfl ?_
  obtain ⟨x2, hx2, h⟩ := bind_some h
  refine lp (p_call Fun_246 rfl (fun w1 hw => m_l_szArg_ok hw.fro N p0.R x1 hx2)) rfl ?_
  refine lq (q_assign rfl) rfl ?_
  refine WL.nil ?_
  refine WT.seq ?_
  refine WT.seq ?_
  refine WT.region ?_
  refine lq (q_move rfl) rfl ?_
  refine lq (q_lss rfl rfl) rfl ?_
  refine WL.nil ?_
  refine WT.cond rfl (fun c2 => ?_) (fun c2 => ?_)
  · replace h := ite_t h c2
    refine WT.seq ?_
    refine WT.region ?_
    refine lq (q_assign rfl) rfl ?_
    refine WL.nil ?_
    refine WT.ret Tryz.func228 (resOk.one rfl) (fun w1 hw => ?_)
    cases h
    exact post_of_St hw
  replace h := ite_f h c2
  refine WT.skip ?_
  refine WT.seq ?_
  refine WT.region ?_
  refine lq (q_move rfl) rfl ?_
  refine lq (q_assign rfl) rfl ?_
  refine WL.nil ?_
  refine WT.ret Tryz.func228 (resOk.one rfl) (fun w1 hw => ?_)
  cases h
  exact post_of_St hw
theorem m_l_szCondS_ok {Φ : Hp} {w : World} (hΦ : In Φ w) (N : Nat) (p0 : (List TCond)) (p1 : Int) {pv0 : Value} {pG0 : List Nat} (ph0 : RSl RTCond 11 Φ pG0 pv0 p0) {r : Int} (h : m_l_szCondS N p0 p1 = some r) :
    Calls Tryz.prog 204 [pv0, .int .i64 p1].toArray w (Post (.int .i64 r) w) := by
  refine enter Tryz.func204 rfl Tryz.ntmps204 rfl (St.start0 hΦ) ?_
  generalize hb0 : (⟨w, [], Φ⟩ : Base) = w0
  unfold m_l_szCondS at h
  refine WT.seq ?_
  refine WT.region ?_
  refine lq (q_assign rfl) rfl ?_
  refine WL.nil ?_
  refine WT.seq ?_
  refine WT.region ?_
  refine lq (q_move rfl) rfl ?_
  refine lq (q_move rfl) rfl ?_
  refine lq (q_lenR Sl_211 rfl rfl ph0) rfl ?_
  refine lq (q_sub rfl rfl) rfl ?_
  refine lq (q_assign rfl) rfl ?_
  refine WL.nil ?_
  refine WT.seq ?_
  refine WT.seq ?_
  refine WT.region ?_
  refine lq (q_move rfl) rfl ?_
  refine lq (q_lss rfl rfl) rfl ?_
  refine WL.nil ?_
  refine WT.cond rfl (fun c1 => ?_) (fun c1 => ?_)
  · replace h := ite_t h c1
    refine WT.seq ?_
    refine WT.region ?_
    refine lq (q_assign rfl) rfl ?_
    refine WL.nil ?_
    refine WT.ret Tryz.func204 (resOk.one rfl) (fun w1 hw => ?_)
    subst hb0
    cases h
    exact post_of_St hw
  replace h := ite_f h c1
  refine WT.skip ?_
  refine WT.seq ?_
  refine WT.seq ?_
  refine WT.region ?_
  refine lq (q_assign rfl) rfl ?_
  refine WL.nil ?_
  refine WT.block ?_
  refine WT.loop ?_
  refine WT.mono (l' := [(0, pv0), (1, .int .i64 (IntKind.i64.wrap (p1 - (p0.length : Int)))), (5, .int .i64 0)]) (S' := St w0 Φ [] []) ⟨rfl, rfl, rfl, trivial⟩ (fun w1 hw => (hw.sel (js := []) rfl).selO (js := []) rfl) ?_
  refine loop_ind (σ := Int × Int) (fun s => [(0, pv0), (1, .int .i64 s.1), (5, .int .i64 s.2)]) (fun s => St w0 Φ [] []) (fun m s => m_l_szCondS_l1 N p0 m s.1 s.2 = some r) (fun s hm => none_ne (show (none : Option (Int)) = some r from hm)) (fun n1 ih1 s hm => ?_) N (IntKind.i64.wrap (p1 - (p0.length : Int)), 0) h
  obtain ⟨s1, s2⟩ := s
  have h : m_l_szCondS_l1 N p0 (n1 + 1) s1 s2 = some r := hm
  show WT _ _ [(0, pv0), (1, .int .i64 s1), (5, .int .i64 s2)] (St w0 Φ [] [])
  unfold m_l_szCondS_l1 at h
  refine WT.seq ?_
  refine WT.seq ?_
  refine WT.region ?_
  refine lq (q_move rfl) rfl ?_
  refine lq (q_move rfl) rfl ?_
  refine lq (q_lenR Sl_211 rfl rfl ph0) rfl ?_
  refine lq (q_lss rfl rfl) rfl ?_
  refine WL.nil ?_
  refine WT.cond rfl (fun c2 => ?_) (fun c2 => ?_)
  · replace h := ite_t h c2
    refine WT.skip ?_
    refine WT.seq ?_
    refine WT.block ?_
    refine WT.seq ?_
    refine WT.region ?_
    refine lq (q_move rfl) rfl ?_
    refine lq (q_move rfl) rfl ?_
    obtain ⟨x1, hx1, h⟩ := bind_some h
    obtain ⟨cs1, F1, -, g1, hb1, hs1, r1⟩ := ph0.el (idx_some hx1).2.2
    obtain ⟨rfl, -⟩ := r1
    refine lq (q_indexAddr Sl_211 rfl rfl ph0 hx1) rfl ?_
    refine lq (q_loadN Tn_269 rfl (fun w1 hw => (g1.of_eq 0 11 rfl rfl : rg _ _ _ [.int .i64 x1.Op, .int .i64 x1.L.K, .string x1.L.S, .int .i64 x1.L.V.K, .int .i64 x1.L.V.N, .string x1.L.V.S, .int .i64 x1.R.K, .string x1.R.S, .int .i64 x1.R.V.K, .int .i64 x1.R.V.N, .string x1.R.V.S]).rangeAt hw.fro) rfl) rfl ?_
    refine lq (q_move rfl) rfl ?_
    obtain ⟨x2, hx2, h⟩ := bind_some h
    refine lp (p_call Fun_228 rfl (fun w1 hw => m_l_szCond_ok hw.fro N x1 s1 hx2)) rfl ?_
    refine lq (q_assign rfl) rfl ?_
    refine WL.nil ?_
    refine WT.seq ?_
    refine WT.region ?_
    refine lq (q_move rfl) rfl ?_
    refine lq (q_lss rfl rfl) rfl ?_
    refine WL.nil ?_
    refine WT.cond rfl (fun c3 => ?_) (fun c3 => ?_)
    · replace h := ite_t h c3
      refine WT.seq ?_
      refine WT.region ?_
      refine lq (q_assign rfl) rfl ?_
      refine WL.nil ?_
      refine WT.ret Tryz.func204 (resOk.one rfl) (fun w1 hw => ?_)
      subst hb0
      cases h
      exact post_of_St hw
    replace h := ite_f h c3
    refine WT.skip ?_
    refine WT.inBlock ?_
    refine WT.region ?_
    refine lq (q_move rfl) rfl ?_
    refine lq (q_add rfl rfl) rfl ?_
    refine lq (q_assign rfl) rfl ?_
    refine WL.nil ?_
    refine WT.inLoop (WT.mono (l' := [(0, pv0), (1, .int .i64 x2), (5, .int .i64 (IntKind.i64.wrap (s2 + 1)))]) (S' := St w0 Φ [] []) ⟨rfl, rfl, rfl, trivial⟩ (fun w1 hw => (hw.sel (js := []) rfl).selO (js := []) rfl) ?_)
    exact ih1 (x2, IntKind.i64.wrap (s2 + 1)) h
  replace h := ite_f h c2
  refine WT.exit rfl ?_
  refine WT.seq ?_
  refine WT.region ?_
  refine lq (q_move rfl) rfl ?_
  refine lq (q_assign rfl) rfl ?_
  refine WL.nil ?_
  refine WT.ret Tryz.func204 (resOk.one rfl) (fun w1 hw => ?_)
  subst hb0
  cases h
  exact post_of_St hw
theorem m_l_szExpr_ok {Φ : Hp} {w : World} (hΦ : In Φ w) (N : Nat) (p0 : TExpr) (p1 : Int)   {r : Int} (h : m_l_szExpr N p0 p1 = some r) :
    Calls Tryz.prog 256 [.agg [.string p0.Op, .int .i64 p0.L.K, .string p0.L.S, .int .i64 p0.L.V.K, .int .i64 p0.L.V.N, .string p0.L.V.S, .int .i64 p0.R.K, .string p0.R.S, .int .i64 p0.R.V.K, .int .i64 p0.R.V.N, .string p0.R.V.S].toArray, .int .i64 p1].toArray w (Post (.int .i64 r) w) := by
  refine enter Tryz.func256 rfl Tryz.ntmps256 rfl (St.start0 hΦ) ?_
  unfold m_l_szExpr at h
  refine WT.seq ?_
  refine WT.region ?_
  refine ln (n_box (C := #[.string p0.Op, .int .i64 p0.L.K, .string p0.L.S, .int .i64 p0.L.V.K, .int .i64 p0.L.V.N, .string p0.L.V.S, .int .i64 p0.R.K, .string p0.R.S, .int .i64 p0.R.V.K, .int .i64 p0.R.V.N, .string p0.R.V.S]) rfl rfl) rfl (fun b_1 => ?_)
  refine lq (q_assign rfl) rfl ?_
  refine WL.nil ?_
  refine WT.seq ?_
  refine WT.region ?_
  refine lq (q_move rfl) rfl ?_
  refine lq (q_fieldAddr Fld_292_0 rfl) rfl ?_
  refine lq (q_load1 T1_9 rfl (fun w1 hw => hw.rgO (i := 0) rfl 0 1 [.string p0.Op] rfl)) rfl ?_
  refine lq (q_lenS Str_9 rfl rfl) rfl ?_
  refine lq (q_sub rfl rfl) rfl ?_
  refine lq (q_assign rfl) rfl ?_
  refine WL.nil ?_
  refine WT.seq ?_
  refine WT.seq ?_
  refine WT.region ?_
  refine lq (q_move rfl) rfl ?_
  refine lq (q_lss rfl rfl) rfl ?_
  refine WL.nil ?_
  refine WT.cond rfl (fun c1 => ?_) (fun c1 => ?_)
  · replace h := ite_t h c1
    refine WT.seq ?_
    refine WT.region ?_
    refine lq (q_assign rfl) rfl ?_
    refine WL.nil ?_
    refine WT.ret Tryz.func256 (resOk.one rfl) (fun w1 hw => ?_)
    cases h
    exact post_of_St hw
  replace h := ite_f h c1
  refine WT.skip ?_
  refine WT.seq ?_
  refine WT.region ?_
  refine lq (q_fieldAddr Fld_292_1 rfl) rfl ?_
  refine lq (q_loadN Tn_267 rfl (fun w1 hw => hw.rgO (i := 0) rfl 1 5 [.int .i64 p0.L.K, .string p0.L.S, .int .i64 p0.L.V.K, .int .i64 p0.L.V.N, .string p0.L.V.S] rfl) rfl) rfl ?_
  refine lq (q_move rfl) rfl ?_
  obtain ⟨x1, hx1, h⟩ := bind_some h
  refine lp (p_call Fun_246 rfl (fun w1 hw => m_l_szArg_ok hw.fro N p0.L (IntKind.i64.wrap (p1 - (p0.Op.size : Int))) hx1)) rfl ?_
  refine lq (q_assign rfl) rfl ?_
  refine WL.nil ?_
  refine WT.seq ?_
  refine WT.seq ?_
  refine WT.region ?_
  refine lq (q_move rfl) rfl ?_
  refine lq (q_lss rfl rfl) rfl ?_
  refine WL.nil ?_
  refine WT.cond rfl (fun c2 => ?_) (fun c2 => ?_)
  · replace h := ite_t h c2
    refine WT.seq ?_
    refine WT.region ?_
    refine lq (q_assign rfl) rfl ?_
    refine WL.nil ?_
    refine WT.ret Tryz.func256 (resOk.one rfl) (fun w1 hw => ?_)
    cases h
    exact post_of_St hw
  replace h := ite_f h c2
  refine WT.skip ?_
  refine WT.seq ?_
  refine WT.region ?_
  refine lq (q_fieldAddr Fld_292_2 rfl) rfl ?_
  refine lq (q_loadN Tn_267 rfl (fun w1 hw => hw.rgO (i := 0) rfl 6 5 [.int .i64 p0.R.K, .string p0.R.S, .int .i64 p0.R.V.K, .int .i64 p0.R.V.N, .string p0.R.V.S] rfl) rfl) rfl ?_
  refine lq (q_move rfl) rfl ?_
  obtain ⟨x2, hx2, h⟩ := bind_some h
  refine lp (p_call Fun_246 rfl (fun w1 hw => m_l_szArg_ok hw.fro N p0.R x1 hx2)) rfl ?_
  refine lq (q_assign rfl) rfl ?_
  refine WL.nil ?_
  refine WT.seq ?_
  refine WT.seq ?_
  refine WT.region ?_
  refine lq (q_move rfl) rfl ?_
  refine lq (q_lss rfl rfl) rfl ?_
  refine WL.nil ?_
  refine WT.cond rfl (fun c3 => ?_) (fun c3 => ?_)
  · replace h := ite_t h c3
    refine WT.seq ?_
    refine WT.region ?_
    refine lq (q_assign rfl) rfl ?_
    refine WL.nil ?_
    refine WT.ret Tryz.func256 (resOk.one rfl) (fun w1 hw => ?_)
    cases h
    exact post_of_St hw
  replace h := ite_f h c3
  refine WT.skip ?_
  refine WT.seq ?_
  refine WT.region ?_
  refine lq (q_move rfl) rfl ?_
  refine lq (q_assign rfl) rfl ?_
  refine WL.nil ?_
  refine WT.ret Tryz.func256 (resOk.one rfl) (fun w1 hw => ?_)
  cases h
  exact post_of_St hw
theorem m_l_szExprS_ok {Φ : Hp} {w : World} (hΦ : In Φ w) (N : Nat) (p0 : (List TExpr)) (p1 : Int) {pv0 : Value} {pG0 : List Nat} (ph0 : RSl RTExpr 11 Φ pG0 pv0 p0) {r : Int} (h : m_l_szExprS N p0 p1 = some r) :
    Calls Tryz.prog 247 [pv0, .int .i64 p1].toArray w (Post (.int .i64 r) w) := by
  refine enter Tryz.func247 rfl Tryz.ntmps247 rfl (St.start0 hΦ) ?_
  generalize hb0 : (⟨w, [], Φ⟩ : Base) = w0
  unfold m_l_szExprS at h
  refine WT.seq ?_
  refine WT.region ?_
  refine lq (q_assign rfl) rfl ?_
  refine WL.nil ?_
  refine WT.seq ?_
  refine WT.region ?_
  refine lq (q_move rfl) rfl ?_
  refine lq (q_move rfl) rfl ?_
  refine lq (q_lenR Sl_271 rfl rfl ph0) rfl ?_
  refine lq (q_sub rfl rfl) rfl ?_
  refine lq (q_assign rfl) rfl ?_
  refine WL.nil ?_
  refine WT.seq ?_
  refine WT.seq ?_
  refine WT.region ?_
  refine lq (q_move rfl) rfl ?_
  refine lq (q_lss rfl rfl) rfl ?_
  refine WL.nil ?_
  refine WT.cond rfl (fun c1 => ?_) (fun c1 => ?_)
  · replace h := ite_t h c1
    refine WT.seq ?_
    refine WT.region ?_
    refine lq (q_assign rfl) rfl ?_
    refine WL.nil ?_
    refine WT.ret Tryz.func247 (resOk.one rfl) (fun w1 hw => ?_)
    subst hb0
    cases h
    exact post_of_St hw
  replace h := ite_f h c1
  refine WT.skip ?_
  refine WT.seq ?_
  refine WT.seq ?_
  refine WT.region ?_
  refine lq (q_assign rfl) rfl ?_
  refine WL.nil ?_
  refine WT.block ?_
  refine WT.loop ?_
  refine WT.mono (l' := [(0, pv0), (1, .int .i64 (IntKind.i64.wrap (p1 - (p0.length : Int)))), (5, .int .i64 0)]) (S' := St w0 Φ [] []) ⟨rfl, rfl, rfl, trivial⟩ (fun w1 hw => (hw.sel (js := []) rfl).selO (js := []) rfl) ?_
  refine loop_ind (σ := Int × Int) (fun s => [(0, pv0), (1, .int .i64 s.1), (5, .int .i64 s.2)]) (fun s => St w0 Φ [] []) (fun m s => m_l_szExprS_l1 N p0 m s.1 s.2 = some r) (fun s hm => none_ne (show (none : Option (Int)) = some r from hm)) (fun n1 ih1 s hm => ?_) N (IntKind.i64.wrap (p1 - (p0.length : Int)), 0) h
  obtain ⟨s1, s2⟩ := s
  have h : m_l_szExprS_l1 N p0 (n1 + 1) s1 s2 = some r := hm
  show WT _ _ [(0, pv0), (1, .int .i64 s1), (5, .int .i64 s2)] (St w0 Φ [] [])
  unfold m_l_szExprS_l1 at h
  refine WT.seq ?_
  refine WT.seq ?_
  refine WT.region ?_
  refine lq (q_move rfl) rfl ?_
  refine lq (q_move rfl) rfl ?_
  refine lq (q_lenR Sl_271 rfl rfl ph0) rfl ?_
  refine lq (q_lss rfl rfl) rfl ?_
  refine WL.nil ?_
  refine WT.cond rfl (fun c2 => ?_) (fun c2 => ?_)
  · replace h := ite_t h c2
    refine WT.skip ?_
    refine WT.seq ?_
    refine WT.block ?_
    refine WT.seq ?_
    refine WT.region ?_
    refine lq (q_move rfl) rfl ?_
    refine lq (q_move rfl) rfl ?_
    obtain ⟨x1, hx1, h⟩ := bind_some h
    obtain ⟨cs1, F1, -, g1, hb1, hs1, r1⟩ := ph0.el (idx_some hx1).2.2
    obtain ⟨rfl, -⟩ := r1
    refine lq (q_indexAddr Sl_271 rfl rfl ph0 hx1) rfl ?_
    refine lq (q_loadN Tn_292 rfl (fun w1 hw => (g1.of_eq 0 11 rfl rfl : rg _ _ _ [.string x1.Op, .int .i64 x1.L.K, .string x1.L.S, .int .i64 x1.L.V.K, .int .i64 x1.L.V.N, .string x1.L.V.S, .int .i64 x1.R.K, .string x1.R.S, .int .i64 x1.R.V.K, .int .i64 x1.R.V.N, .string x1.R.V.S]).rangeAt hw.fro) rfl) rfl ?_
    refine lq (q_move rfl) rfl ?_
    obtain ⟨x2, hx2, h⟩ := bind_some h
    refine lp (p_call Fun_256 rfl (fun w1 hw => m_l_szExpr_ok hw.fro N x1 s1 hx2)) rfl ?_
    refine lq (q_assign rfl) rfl ?_
    refine WL.nil ?_
    refine WT.seq ?_
    refine WT.region ?_
    refine lq (q_move rfl) rfl ?_
    refine lq (q_lss rfl rfl) rfl ?_
    refine WL.nil ?_
    refine WT.cond rfl (fun c3 => ?_) (fun c3 => ?_)
    · replace h := ite_t h c3
      refine WT.seq ?_
      refine WT.region ?_
      refine lq (q_assign rfl) rfl ?_
      refine WL.nil ?_
      refine WT.ret Tryz.func247 (resOk.one rfl) (fun w1 hw => ?_)
      subst hb0
      cases h
      exact post_of_St hw
    replace h := ite_f h c3
    refine WT.skip ?_
    refine WT.inBlock ?_
    refine WT.region ?_
    refine lq (q_move rfl) rfl ?_
    refine lq (q_add rfl rfl) rfl ?_
    refine lq (q_assign rfl) rfl ?_
    refine WL.nil ?_
    refine WT.inLoop (WT.mono (l' := [(0, pv0), (1, .int .i64 x2), (5, .int .i64 (IntKind.i64.wrap (s2 + 1)))]) (S' := St w0 Φ [] []) ⟨rfl, rfl, rfl, trivial⟩ (fun w1 hw => (hw.sel (js := []) rfl).selO (js := []) rfl) ?_)
    exact ih1 (x2, IntKind.i64.wrap (s2 + 1)) h
  replace h := ite_f h c2
  refine WT.exit rfl ?_
  refine WT.seq ?_
  refine WT.region ?_
  refine lq (q_move rfl) rfl ?_
  refine lq (q_assign rfl) rfl ?_
  refine WL.nil ?_
  refine WT.ret Tryz.func247 (resOk.one rfl) (fun w1 hw => ?_)
  subst hb0
  cases h
  exact post_of_St hw
theorem m_l_szAct_ok {Φ : Hp} {w : World} (hΦ : In Φ w) (N : Nat) (p0 : TAct) (p1 : Int) {pv0_0 : Value} {pG0_0 : List Nat} (ph0_0 : RSl RTExpr 11 Φ pG0_0 pv0_0 p0.Args) {r : Int} (h : m_l_szAct N p0 p1 = some r) :
    Calls Tryz.prog 229 [.agg [.int .i64 p0.Kind, .string p0.Name, pv0_0, .int .i64 p0.N, .string p0.Undo].toArray, .int .i64 p1].toArray w (Post (.int .i64 r) w) := by
  refine enter Tryz.func229 rfl Tryz.ntmps229 rfl (St.start0 hΦ) ?_
  unfold m_l_szAct at h
  refine WT.seq ?_
  refine WT.region ?_
  refine ln (n_box (C := #[.int .i64 p0.Kind, .string p0.Name, pv0_0, .int .i64 p0.N, .string p0.Undo]) rfl rfl) rfl (fun b_1 => ?_)
  refine lq (q_assign rfl) rfl ?_
  refine WL.nil ?_
  refine WT.seq ?_
  refine WT.region ?_
  refine lq (q_move rfl) rfl ?_
  refine lq (q_fieldAddr Fld_273_1 rfl) rfl ?_
  refine lq (q_load1 T1_9 rfl (fun w1 hw => hw.rgO (i := 0) rfl 1 1 [.string p0.Name] rfl)) rfl ?_
  refine lq (q_lenS Str_9 rfl rfl) rfl ?_
  refine lq (q_sub rfl rfl) rfl ?_
  refine lq (q_assign rfl) rfl ?_
  refine WL.nil ?_
  refine WT.seq ?_
  refine WT.seq ?_
  refine WT.region ?_
  refine lq (q_move rfl) rfl ?_
  refine lq (q_lss rfl rfl) rfl ?_
  refine WL.nil ?_
  refine WT.cond rfl (fun c1 => ?_) (fun c1 => ?_)
  · replace h := ite_t h c1
    refine WT.seq ?_
    refine WT.region ?_
    refine lq (q_assign rfl) rfl ?_
    refine WL.nil ?_
    refine WT.ret Tryz.func229 (resOk.one rfl) (fun w1 hw => ?_)
    cases h
    exact post_of_St hw
  replace h := ite_f h c1
  refine WT.skip ?_
  refine WT.seq ?_
  refine WT.region ?_
  refine lq (q_fieldAddr Fld_273_2 rfl) rfl ?_
  refine lq (q_load1 T1_271 rfl (fun w1 hw => hw.rgO (i := 0) rfl 2 1 [pv0_0] rfl)) rfl ?_
  refine lq (q_move rfl) rfl ?_
  obtain ⟨x1, hx1, h⟩ := bind_some h
  refine lp (p_call Fun_247 rfl (fun w1 hw => m_l_szExprS_ok hw.fro N p0.Args (IntKind.i64.wrap (p1 - (p0.Name.size : Int))) ph0_0 hx1)) rfl ?_
  refine lq (q_assign rfl) rfl ?_
  refine WL.nil ?_
  refine WT.seq ?_
  refine WT.seq ?_
  refine WT.region ?_
  refine lq (q_move rfl) rfl ?_
  refine lq (q_lss rfl rfl) rfl ?_
  refine WL.nil ?_
  refine WT.cond rfl (fun c2 => ?_) (fun c2 => ?_)
  · replace h := ite_t h c2
    refine WT.seq ?_
    refine WT.region ?_
    refine lq (q_assign rfl) rfl ?_
    refine WL.nil ?_
    refine WT.ret Tryz.func229 (resOk.one rfl) (fun w1 hw => ?_)
    cases h
    exact post_of_St hw
  replace h := ite_f h c2
  refine WT.skip ?_
  refine WT.seq ?_
  refine WT.region ?_
  refine lq (q_move rfl) rfl ?_
  refine lq (q_fieldAddr Fld_273_4 rfl) rfl ?_
  refine lq (q_load1 T1_9 rfl (fun w1 hw => hw.rgO (i := 0) rfl 4 1 [.string p0.Undo] rfl)) rfl ?_
  refine lq (q_lenS Str_9 rfl rfl) rfl ?_
  refine lq (q_sub rfl rfl) rfl ?_
  refine lq (q_assign rfl) rfl ?_
  refine WL.nil ?_
  refine WT.seq ?_
  refine WT.seq ?_
  refine WT.region ?_
  refine lq (q_move rfl) rfl ?_
  refine lq (q_lss rfl rfl) rfl ?_
  refine WL.nil ?_
  refine WT.cond rfl (fun c3 => ?_) (fun c3 => ?_)
  · replace h := ite_t h c3
    refine WT.seq ?_
    refine WT.region ?_
    refine lq (q_assign rfl) rfl ?_
    refine WL.nil ?_
    refine WT.ret Tryz.func229 (resOk.one rfl) (fun w1 hw => ?_)
    cases h
    exact post_of_St hw
  replace h := ite_f h c3
  refine WT.skip ?_
  refine WT.seq ?_
  refine WT.region ?_
  refine lq (q_move rfl) rfl ?_
  refine lq (q_assign rfl) rfl ?_
  refine WL.nil ?_
  refine WT.ret Tryz.func229 (resOk.one rfl) (fun w1 hw => ?_)
  cases h
  exact post_of_St hw
theorem m_l_szActS_ok {Φ : Hp} {w : World} (hΦ : In Φ w) (N : Nat) (p0 : (List TAct)) (p1 : Int) {pv0 : Value} {pG0 : List Nat} (ph0 : RSl RTAct 5 Φ pG0 pv0 p0) {r : Int} (h : m_l_szActS N p0 p1 = some r) :
    Calls Tryz.prog 205 [pv0, .int .i64 p1].toArray w (Post (.int .i64 r) w) := by
  refine enter Tryz.func205 rfl Tryz.ntmps205 rfl (St.start0 hΦ) ?_
  generalize hb0 : (⟨w, [], Φ⟩ : Base) = w0
  unfold m_l_szActS at h
  refine WT.seq ?_
  refine WT.region ?_
  refine lq (q_assign rfl) rfl ?_
  refine WL.nil ?_
  refine WT.seq ?_
  refine WT.region ?_
  refine lq (q_move rfl) rfl ?_
  refine lq (q_move rfl) rfl ?_
  refine lq (q_lenR Sl_212 rfl rfl ph0) rfl ?_
  refine lq (q_sub rfl rfl) rfl ?_
  refine lq (q_assign rfl) rfl ?_
  refine WL.nil ?_
  refine WT.seq ?_
  refine WT.seq ?_
  refine WT.region ?_
  refine lq (q_move rfl) rfl ?_
  refine lq (q_lss rfl rfl) rfl ?_
  refine WL.nil ?_
  refine WT.cond rfl (fun c1 => ?_) (fun c1 => ?_)
  · replace h := ite_t h c1
    refine WT.seq ?_
    refine WT.region ?_
    refine lq (q_assign rfl) rfl ?_
    refine WL.nil ?_
    refine WT.ret Tryz.func205 (resOk.one rfl) (fun w1 hw => ?_)
    subst hb0
    cases h
    exact post_of_St hw
  replace h := ite_f h c1
  refine WT.skip ?_
  refine WT.seq ?_
  refine WT.seq ?_
  refine WT.region ?_
  refine lq (q_assign rfl) rfl ?_
  refine WL.nil ?_
  refine WT.block ?_
  refine WT.loop ?_
  refine WT.mono (l' := [(0, pv0), (1, .int .i64 (IntKind.i64.wrap (p1 - (p0.length : Int)))), (5, .int .i64 0)]) (S' := St w0 Φ [] []) ⟨rfl, rfl, rfl, trivial⟩ (fun w1 hw => (hw.sel (js := []) rfl).selO (js := []) rfl) ?_
  refine loop_ind (σ := Int × Int) (fun s => [(0, pv0), (1, .int .i64 s.1), (5, .int .i64 s.2)]) (fun s => St w0 Φ [] []) (fun m s => m_l_szActS_l1 N p0 m s.1 s.2 = some r) (fun s hm => none_ne (show (none : Option (Int)) = some r from hm)) (fun n1 ih1 s hm => ?_) N (IntKind.i64.wrap (p1 - (p0.length : Int)), 0) h
  obtain ⟨s1, s2⟩ := s
  have h : m_l_szActS_l1 N p0 (n1 + 1) s1 s2 = some r := hm
  show WT _ _ [(0, pv0), (1, .int .i64 s1), (5, .int .i64 s2)] (St w0 Φ [] [])
  unfold m_l_szActS_l1 at h
  refine WT.seq ?_
  refine WT.seq ?_
  refine WT.region ?_
  refine lq (q_move rfl) rfl ?_
  refine lq (q_move rfl) rfl ?_
  refine lq (q_lenR Sl_212 rfl rfl ph0) rfl ?_
  refine lq (q_lss rfl rfl) rfl ?_
  refine WL.nil ?_
  refine WT.cond rfl (fun c2 => ?_) (fun c2 => ?_)
  · replace h := ite_t h c2
    refine WT.skip ?_
    refine WT.seq ?_
    refine WT.block ?_
    refine WT.seq ?_
    refine WT.region ?_
    refine lq (q_move rfl) rfl ?_
    refine lq (q_move rfl) rfl ?_
    obtain ⟨x1, hx1, h⟩ := bind_some h
    obtain ⟨cs1, F1, -, g1, hb1, hs1, r1⟩ := ph0.el (idx_some hx1).2.2
    obtain ⟨v1, G1, rfl, hq1, h1⟩ := r1
    obtain rfl := hq1.symm
    refine lq (q_indexAddr Sl_212 rfl rfl ph0 hx1) rfl ?_
    refine lq (q_loadN Tn_273 rfl (fun w1 hw => (g1.of_eq 0 5 rfl rfl : rg _ _ _ [.int .i64 x1.Kind, .string x1.Name, v1, .int .i64 x1.N, .string x1.Undo]).rangeAt hw.fro) rfl) rfl ?_
    refine lq (q_move rfl) rfl ?_
    obtain ⟨x2, hx2, h⟩ := bind_some h
    refine lp (p_call Fun_229 rfl (fun w1 hw => m_l_szAct_ok hw.fro N x1 s1 h1 hx2)) rfl ?_
    refine lq (q_assign rfl) rfl ?_
    refine WL.nil ?_
    refine WT.seq ?_
    refine WT.region ?_
    refine lq (q_move rfl) rfl ?_
    refine lq (q_lss rfl rfl) rfl ?_
    refine WL.nil ?_
    refine WT.cond rfl (fun c3 => ?_) (fun c3 => ?_)
    · replace h := ite_t h c3
      refine WT.seq ?_
      refine WT.region ?_
      refine lq (q_assign rfl) rfl ?_
      refine WL.nil ?_
      refine WT.ret Tryz.func205 (resOk.one rfl) (fun w1 hw => ?_)
      subst hb0
      cases h
      exact post_of_St hw
    replace h := ite_f h c3
    refine WT.skip ?_
    refine WT.inBlock ?_
    refine WT.region ?_
    refine lq (q_move rfl) rfl ?_
    refine lq (q_add rfl rfl) rfl ?_
    refine lq (q_assign rfl) rfl ?_
    refine WL.nil ?_
    refine WT.inLoop (WT.mono (l' := [(0, pv0), (1, .int .i64 x2), (5, .int .i64 (IntKind.i64.wrap (s2 + 1)))]) (S' := St w0 Φ [] []) ⟨rfl, rfl, rfl, trivial⟩ (fun w1 hw => (hw.sel (js := []) rfl).selO (js := []) rfl) ?_)
    exact ih1 (x2, IntKind.i64.wrap (s2 + 1)) h
  replace h := ite_f h c2
  refine WT.exit rfl ?_
  refine WT.seq ?_
  refine WT.region ?_
  refine lq (q_move rfl) rfl ?_
  refine lq (q_assign rfl) rfl ?_
  refine WL.nil ?_
  refine WT.ret Tryz.func205 (resOk.one rfl) (fun w1 hw => ?_)
  subst hb0
  cases h
  exact post_of_St hw
theorem m_l_szRule_ok {Φ : Hp} {w : World} (hΦ : In Φ w) (N : Nat) (p0 : TRule) (p1 : Int) {pv0_0 : Value} {pG0_0 : List Nat} {pv0_1 : Value} {pG0_1 : List Nat} {pv0_2 : Value} {pG0_2 : List Nat} (ph0_0 : RSl RTPat 3 Φ pG0_0 pv0_0 p0.Pats) (ph0_1 : RSl RTCond 11 Φ pG0_1 pv0_1 p0.Conds) (ph0_2 : RSl RTAct 5 Φ pG0_2 pv0_2 p0.Acts) {r : Int} (h : m_l_szRule N p0 p1 = some r) :
    Calls Tryz.prog 153 [.agg [.string p0.Name, .int .i64 p0.Sal, pv0_0, pv0_1, pv0_2].toArray, .int .i64 p1].toArray w (Post (.int .i64 r) w) := by
  refine enter Tryz.func153 rfl Tryz.ntmps153 rfl (St.start0 hΦ) ?_
  unfold m_l_szRule at h
  refine WT.seq ?_
  refine WT.region ?_
  refine ln (n_box (C := #[.string p0.Name, .int .i64 p0.Sal, pv0_0, pv0_1, pv0_2]) rfl rfl) rfl (fun b_1 => ?_)
  refine lq (q_assign rfl) rfl ?_
  refine WL.nil ?_
  refine WT.seq ?_
  refine WT.region ?_
  refine lq (q_move rfl) rfl ?_
  refine lq (q_fieldAddr Fld_214_0 rfl) rfl ?_
  refine lq (q_load1 T1_9 rfl (fun w1 hw => hw.rgO (i := 0) rfl 0 1 [.string p0.Name] rfl)) rfl ?_
  refine lq (q_lenS Str_9 rfl rfl) rfl ?_
  refine lq (q_sub rfl rfl) rfl ?_
  refine lq (q_assign rfl) rfl ?_
  refine WL.nil ?_
  refine WT.seq ?_
  refine WT.seq ?_
  refine WT.region ?_
  refine lq (q_move rfl) rfl ?_
  refine lq (q_lss rfl rfl) rfl ?_
  refine WL.nil ?_
  refine WT.cond rfl (fun c1 => ?_) (fun c1 => ?_)
  · replace h := ite_t h c1
    refine WT.seq ?_
    refine WT.region ?_
    refine lq (q_assign rfl) rfl ?_
    refine WL.nil ?_
    refine WT.ret Tryz.func153 (resOk.one rfl) (fun w1 hw => ?_)
    cases h
    exact post_of_St hw
  replace h := ite_f h c1
  refine WT.skip ?_
  refine WT.seq ?_
  refine WT.region ?_
  refine lq (q_fieldAddr Fld_214_2 rfl) rfl ?_
  refine lq (q_load1 T1_210 rfl (fun w1 hw => hw.rgO (i := 0) rfl 2 1 [pv0_0] rfl)) rfl ?_
  refine lq (q_move rfl) rfl ?_
  obtain ⟨x1, hx1, h⟩ := bind_some h
  refine lp (p_call Fun_203 rfl (fun w1 hw => m_l_szPatS_ok hw.fro N p0.Pats (IntKind.i64.wrap (p1 - (p0.Name.size : Int))) ph0_0 hx1)) rfl ?_
  refine lq (q_assign rfl) rfl ?_
  refine WL.nil ?_
  refine WT.seq ?_
  refine WT.seq ?_
  refine WT.region ?_
  refine lq (q_move rfl) rfl ?_
  refine lq (q_lss rfl rfl) rfl ?_
  refine WL.nil ?_
  refine WT.cond rfl (fun c2 => ?_) (fun c2 => ?_)
  · replace h := ite_t h c2
    refine WT.seq ?_
    refine WT.region ?_
    refine lq (q_assign rfl) rfl ?_
    refine WL.nil ?_
    refine WT.ret Tryz.func153 (resOk.one rfl) (fun w1 hw => ?_)
    cases h
    exact post_of_St hw
  replace h := ite_f h c2
  refine WT.skip ?_
  refine WT.seq ?_
  refine WT.region ?_
  refine lq (q_fieldAddr Fld_214_3 rfl) rfl ?_
  refine lq (q_load1 T1_211 rfl (fun w1 hw => hw.rgO (i := 0) rfl 3 1 [pv0_1] rfl)) rfl ?_
  refine lq (q_move rfl) rfl ?_
  obtain ⟨x2, hx2, h⟩ := bind_some h
  refine lp (p_call Fun_204 rfl (fun w1 hw => m_l_szCondS_ok hw.fro N p0.Conds x1 ph0_1 hx2)) rfl ?_
  refine lq (q_assign rfl) rfl ?_
  refine WL.nil ?_
  refine WT.seq ?_
  refine WT.seq ?_
  refine WT.region ?_
  refine lq (q_move rfl) rfl ?_
  refine lq (q_lss rfl rfl) rfl ?_
  refine WL.nil ?_
  refine WT.cond rfl (fun c3 => ?_) (fun c3 => ?_)
  · replace h := ite_t h c3
    refine WT.seq ?_
    refine WT.region ?_
    refine lq (q_assign rfl) rfl ?_
    refine WL.nil ?_
    refine WT.ret Tryz.func153 (resOk.one rfl) (fun w1 hw => ?_)
    cases h
    exact post_of_St hw
  replace h := ite_f h c3
  refine WT.skip ?_
  refine WT.seq ?_
  refine WT.region ?_
  refine lq (q_fieldAddr Fld_214_4 rfl) rfl ?_
  refine lq (q_load1 T1_212 rfl (fun w1 hw => hw.rgO (i := 0) rfl 4 1 [pv0_2] rfl)) rfl ?_
  refine lq (q_move rfl) rfl ?_
  obtain ⟨x3, hx3, h⟩ := bind_some h
  refine lp (p_call Fun_205 rfl (fun w1 hw => m_l_szActS_ok hw.fro N p0.Acts x2 ph0_2 hx3)) rfl ?_
  refine lq (q_assign rfl) rfl ?_
  refine WL.nil ?_
  refine WT.seq ?_
  refine WT.seq ?_
  refine WT.region ?_
  refine lq (q_move rfl) rfl ?_
  refine lq (q_lss rfl rfl) rfl ?_
  refine WL.nil ?_
  refine WT.cond rfl (fun c4 => ?_) (fun c4 => ?_)
  · replace h := ite_t h c4
    refine WT.seq ?_
    refine WT.region ?_
    refine lq (q_assign rfl) rfl ?_
    refine WL.nil ?_
    refine WT.ret Tryz.func153 (resOk.one rfl) (fun w1 hw => ?_)
    cases h
    exact post_of_St hw
  replace h := ite_f h c4
  refine WT.skip ?_
  refine WT.seq ?_
  refine WT.region ?_
  refine lq (q_move rfl) rfl ?_
  refine lq (q_assign rfl) rfl ?_
  refine WL.nil ?_
  refine WT.ret Tryz.func153 (resOk.one rfl) (fun w1 hw => ?_)
  cases h
  exact post_of_St hw
theorem m_l_szRuleS_ok {Φ : Hp} {w : World} (hΦ : In Φ w) (N : Nat) (p0 : (List TRule)) (p1 : Int) {pv0 : Value} {pG0 : List Nat} (ph0 : RSl RTRule 5 Φ pG0 pv0 p0) {r : Int} (h : m_l_szRuleS N p0 p1 = some r) :
    Calls Tryz.prog 89 [pv0, .int .i64 p1].toArray w (Post (.int .i64 r) w) := by
  refine enter Tryz.func89 rfl Tryz.ntmps89 rfl (St.start0 hΦ) ?_
  generalize hb0 : (⟨w, [], Φ⟩ : Base) = w0
  unfold m_l_szRuleS at h
  refine WT.seq ?_
  refine WT.region ?_
  refine lq (q_assign rfl) rfl ?_
  refine WL.nil ?_
  refine WT.seq ?_
  refine WT.region ?_
  refine lq (q_move rfl) rfl ?_
  refine lq (q_move rfl) rfl ?_
  refine lq (q_lenR Sl_80 rfl rfl ph0) rfl ?_
  refine lq (q_sub rfl rfl) rfl ?_
  refine lq (q_assign rfl) rfl ?_
  refine WL.nil ?_
  refine WT.seq ?_
  refine WT.seq ?_
  refine WT.region ?_
  refine lq (q_move rfl) rfl ?_
  refine lq (q_lss rfl rfl) rfl ?_
  refine WL.nil ?_
  refine WT.cond rfl (fun c1 => ?_) (fun c1 => ?_)
  · replace h := ite_t h c1
    refine WT.seq ?_
    refine WT.region ?_
    refine lq (q_assign rfl) rfl ?_
    refine WL.nil ?_
    refine WT.ret Tryz.func89 (resOk.one rfl) (fun w1 hw => ?_)
    subst hb0
    cases h
    exact post_of_St hw
  replace h := ite_f h c1
  refine WT.skip ?_
  refine WT.seq ?_
  refine WT.seq ?_
  refine WT.region ?_
  refine lq (q_assign rfl) rfl ?_
  refine WL.nil ?_
  refine WT.block ?_
  refine WT.loop ?_
  refine WT.mono (l' := [(0, pv0), (1, .int .i64 (IntKind.i64.wrap (p1 - (p0.length : Int)))), (5, .int .i64 0)]) (S' := St w0 Φ [] []) ⟨rfl, rfl, rfl, trivial⟩ (fun w1 hw => (hw.sel (js := []) rfl).selO (js := []) rfl) ?_
  refine loop_ind (σ := Int × Int) (fun s => [(0, pv0), (1, .int .i64 s.1), (5, .int .i64 s.2)]) (fun s => St w0 Φ [] []) (fun m s => m_l_szRuleS_l1 N p0 m s.1 s.2 = some r) (fun s hm => none_ne (show (none : Option (Int)) = some r from hm)) (fun n1 ih1 s hm => ?_) N (IntKind.i64.wrap (p1 - (p0.length : Int)), 0) h
  obtain ⟨s1, s2⟩ := s
  have h : m_l_szRuleS_l1 N p0 (n1 + 1) s1 s2 = some r := hm
  show WT _ _ [(0, pv0), (1, .int .i64 s1), (5, .int .i64 s2)] (St w0 Φ [] [])
  unfold m_l_szRuleS_l1 at h
  refine WT.seq ?_
  refine WT.seq ?_
  refine WT.region ?_
  refine lq (q_move rfl) rfl ?_
  refine lq (q_move rfl) rfl ?_
  refine lq (q_lenR Sl_80 rfl rfl ph0) rfl ?_
  refine lq (q_lss rfl rfl) rfl ?_
  refine WL.nil ?_
  refine WT.cond rfl (fun c2 => ?_) (fun c2 => ?_)
  · replace h := ite_t h c2
    refine WT.skip ?_
    refine WT.seq ?_
    refine WT.block ?_
    refine WT.seq ?_
    refine WT.region ?_
    refine lq (q_move rfl) rfl ?_
    refine lq (q_move rfl) rfl ?_
    obtain ⟨x1, hx1, h⟩ := bind_some h
    obtain ⟨cs1, F1, -, g1, hb1, hs1, r1⟩ := ph0.el (idx_some hx1).2.2
    obtain ⟨v1, G1, v2, G2, v3, G3, rfl, rfl, h1, h2, h3⟩ := r1
    refine lq (q_indexAddr Sl_80 rfl rfl ph0 hx1) rfl ?_
    refine lq (q_loadN Tn_214 rfl (fun w1 hw => (g1.of_eq 0 5 rfl rfl : rg _ _ _ [.string x1.Name, .int .i64 x1.Sal, v1, v2, v3]).rangeAt hw.fro) rfl) rfl ?_
    refine lq (q_move rfl) rfl ?_
    obtain ⟨x2, hx2, h⟩ := bind_some h
    refine lp (p_call Fun_153 rfl (fun w1 hw => m_l_szRule_ok hw.fro N x1 s1 h1 h2 h3 hx2)) rfl ?_
    refine lq (q_assign rfl) rfl ?_
    refine WL.nil ?_
    refine WT.seq ?_
    refine WT.region ?_
    refine lq (q_move rfl) rfl ?_
    refine lq (q_lss rfl rfl) rfl ?_
    refine WL.nil ?_
    refine WT.cond rfl (fun c3 => ?_) (fun c3 => ?_)
    · replace h := ite_t h c3
      refine WT.seq ?_
      refine WT.region ?_
      refine lq (q_assign rfl) rfl ?_
      refine WL.nil ?_
      refine WT.ret Tryz.func89 (resOk.one rfl) (fun w1 hw => ?_)
      subst hb0
      cases h
      exact post_of_St hw
    replace h := ite_f h c3
    refine WT.skip ?_
    refine WT.inBlock ?_
    refine WT.region ?_
    refine lq (q_move rfl) rfl ?_
    refine lq (q_add rfl rfl) rfl ?_
    refine lq (q_assign rfl) rfl ?_
    refine WL.nil ?_
    refine WT.inLoop (WT.mono (l' := [(0, pv0), (1, .int .i64 x2), (5, .int .i64 (IntKind.i64.wrap (s2 + 1)))]) (S' := St w0 Φ [] []) ⟨rfl, rfl, rfl, trivial⟩ (fun w1 hw => (hw.sel (js := []) rfl).selO (js := []) rfl) ?_)
    exact ih1 (x2, IntKind.i64.wrap (s2 + 1)) h
  replace h := ite_f h c2
  refine WT.exit rfl ?_
  refine WT.seq ?_
  refine WT.region ?_
  refine lq (q_move rfl) rfl ?_
  refine lq (q_assign rfl) rfl ?_
  refine WL.nil ?_
  refine WT.ret Tryz.func89 (resOk.one rfl) (fun w1 hw => ?_)
  subst hb0
  cases h
  exact post_of_St hw
theorem m_l_szDef_ok {Φ : Hp} {w : World} (hΦ : In Φ w) (N : Nat) (p0 : TDef) (p1 : Int) {pv0_0 : Value} {pG0_0 : List Nat} (ph0_0 : RSl RTRule 5 Φ pG0_0 pv0_0 p0.Rules) {r : Int} (h : m_l_szDef N p0 p1 = some r) :
    Calls Tryz.prog 34 [.agg [.string p0.Name, pv0_0].toArray, .int .i64 p1].toArray w (Post (.int .i64 r) w) := by
  refine enter Tryz.func34 rfl Tryz.ntmps34 rfl (St.start0 hΦ) ?_
  unfold m_l_szDef at h
  refine WT.seq ?_
  refine WT.region ?_
  refine ln (n_box (C := #[.string p0.Name, pv0_0]) rfl rfl) rfl (fun b_1 => ?_)
  refine lq (q_assign rfl) rfl ?_
  refine WL.nil ?_
  refine WT.seq ?_
  refine WT.region ?_
  refine lq (q_move rfl) rfl ?_
  refine lq (q_fieldAddr Fld_82_0 rfl) rfl ?_
  refine lq (q_load1 T1_9 rfl (fun w1 hw => hw.rgO (i := 0) rfl 0 1 [.string p0.Name] rfl)) rfl ?_
  refine lq (q_lenS Str_9 rfl rfl) rfl ?_
  refine lq (q_sub rfl rfl) rfl ?_
  refine lq (q_assign rfl) rfl ?_
  refine WL.nil ?_
  refine WT.seq ?_
  refine WT.seq ?_
  refine WT.region ?_
  refine lq (q_move rfl) rfl ?_
  refine lq (q_lss rfl rfl) rfl ?_
  refine WL.nil ?_
  refine WT.cond rfl (fun c1 => ?_) (fun c1 => ?_)
  · replace h := ite_t h c1
    refine WT.seq ?_
    refine WT.region ?_
    refine lq (q_assign rfl) rfl ?_
    refine WL.nil ?_
    refine WT.ret Tryz.func34 (resOk.one rfl) (fun w1 hw => ?_)
    cases h
    exact post_of_St hw
  replace h := ite_f h c1
  refine WT.skip ?_
  refine WT.seq ?_
  refine WT.region ?_
  refine lq (q_fieldAddr Fld_82_1 rfl) rfl ?_
  refine lq (q_load1 T1_80 rfl (fun w1 hw => hw.rgO (i := 0) rfl 1 1 [pv0_0] rfl)) rfl ?_
  refine lq (q_move rfl) rfl ?_
  obtain ⟨x1, hx1, h⟩ := bind_some h
  refine lp (p_call Fun_89 rfl (fun w1 hw => m_l_szRuleS_ok hw.fro N p0.Rules (IntKind.i64.wrap (p1 - (p0.Name.size : Int))) ph0_0 hx1)) rfl ?_
  refine lq (q_assign rfl) rfl ?_
  refine WL.nil ?_
  refine WT.seq ?_
  refine WT.seq ?_
  refine WT.region ?_
  refine lq (q_move rfl) rfl ?_
  refine lq (q_lss rfl rfl) rfl ?_
  refine WL.nil ?_
  refine WT.cond rfl (fun c2 => ?_) (fun c2 => ?_)
  · replace h := ite_t h c2
    refine WT.seq ?_
    refine WT.region ?_
    refine lq (q_assign rfl) rfl ?_
    refine WL.nil ?_
    refine WT.ret Tryz.func34 (resOk.one rfl) (fun w1 hw => ?_)
    cases h
    exact post_of_St hw
  replace h := ite_f h c2
  refine WT.skip ?_
  refine WT.seq ?_
  refine WT.region ?_
  refine lq (q_move rfl) rfl ?_
  refine lq (q_assign rfl) rfl ?_
  refine WL.nil ?_
  refine WT.ret Tryz.func34 (resOk.one rfl) (fun w1 hw => ?_)
  cases h
  exact post_of_St hw
theorem m_l_toVal_ok {Φ : Hp} {w : World} (hΦ : In Φ w) (N : Nat) (p0 : TVal)   {r : TVal} (h : m_l_toVal N p0 = some r) :
    Calls Tryz.prog 230 [.agg [.int .i64 p0.K, .int .i64 p0.N, .string p0.S].toArray].toArray w (Post (.agg [.int .i64 r.K, .int .i64 r.N, .string r.S].toArray) w) := by
  refine enter Tryz.func230 rfl Tryz.ntmps230 rfl (St.start0 hΦ) ?_
  unfold m_l_toVal at h
  refine WT.seq ?_
  refine WT.region ?_
  refine ln (n_box (C := #[.int .i64 p0.K, .int .i64 p0.N, .string p0.S]) rfl rfl) rfl (fun b_1 => ?_)
  refine ln (n_alloc (C := #[.int .i64 0, .int .i64 0, .string (⟨#[]⟩ : ByteArray)]) Zr_121 rfl) rfl (fun b_2 => ?_)
  refine WL.nil ?_
  refine WT.seq ?_
  refine WT.region ?_
  refine ln (n_alloc (C := #[.int .i64 0, .int .i64 0, .string (⟨#[]⟩ : ByteArray)]) Zr_121 rfl) rfl (fun b_3 => ?_)
  refine WL.nil ?_
  refine WT.seq ?_
  refine WT.region ?_
  refine lq (q_fieldAddr Fld_260_0 rfl) rfl ?_
  refine lq (q_load1 T1_3 rfl (fun w1 hw => hw.rgO (i := 2) rfl 0 1 [.int .i64 p0.K] rfl)) rfl ?_
  refine lq (q_fieldAddr Fld_121_0 rfl) rfl ?_
  refine ls (s_store (i := 0) (vs := [.int .i64 p0.K]) (C' := [.int .i64 p0.K, .int .i64 0, .string (⟨#[]⟩ : ByteArray)]) (O' := [(b_3, .cells #[.int .i64 p0.K, .int .i64 0, .string (⟨#[]⟩ : ByteArray)] 121 (0, 0)), (b_2, .cells #[.int .i64 0, .int .i64 0, .string (⟨#[]⟩ : ByteArray)] 121 (0, 0)), (b_1, .cells #[.int .i64 p0.K, .int .i64 p0.N, .string p0.S] 260 (0, 0))]) Sz_3 rfl rfl rfl rfl rfl rfl ⟨rfl, trivial⟩ rfl rfl) rfl ?_
  refine WL.nil ?_
  refine WT.seq ?_
  refine WT.region ?_
  refine lq (q_fieldAddr Fld_260_1 rfl) rfl ?_
  refine lq (q_load1 T1_3 rfl (fun w1 hw => hw.rgO (i := 2) rfl 1 1 [.int .i64 p0.N] rfl)) rfl ?_
  refine lq (q_fieldAddr Fld_121_1 rfl) rfl ?_
  refine ls (s_store (i := 0) (vs := [.int .i64 p0.N]) (C' := [.int .i64 p0.K, .int .i64 p0.N, .string (⟨#[]⟩ : ByteArray)]) (O' := [(b_3, .cells #[.int .i64 p0.K, .int .i64 p0.N, .string (⟨#[]⟩ : ByteArray)] 121 (0, 0)), (b_2, .cells #[.int .i64 0, .int .i64 0, .string (⟨#[]⟩ : ByteArray)] 121 (0, 0)), (b_1, .cells #[.int .i64 p0.K, .int .i64 p0.N, .string p0.S] 260 (0, 0))]) Sz_3 rfl rfl rfl rfl rfl rfl ⟨rfl, trivial⟩ rfl rfl) rfl ?_
  refine WL.nil ?_
  refine WT.seq ?_
  refine WT.region ?_
  refine lq (q_fieldAddr Fld_260_2 rfl) rfl ?_
  refine lq (q_load1 T1_9 rfl (fun w1 hw => hw.rgO (i := 2) rfl 2 1 [.string p0.S] rfl)) rfl ?_
  refine lq (q_fieldAddr Fld_121_2 rfl) rfl ?_
  refine ls (s_store (i := 0) (vs := [.string p0.S]) (C' := [.int .i64 p0.K, .int .i64 p0.N, .string p0.S]) (O' := [(b_3, .cells #[.int .i64 p0.K, .int .i64 p0.N, .string p0.S] 121 (0, 0)), (b_2, .cells #[.int .i64 0, .int .i64 0, .string (⟨#[]⟩ : ByteArray)] 121 (0, 0)), (b_1, .cells #[.int .i64 p0.K, .int .i64 p0.N, .string p0.S] 260 (0, 0))]) Sz_9 rfl rfl rfl rfl rfl rfl ⟨rfl, trivial⟩ rfl rfl) rfl ?_
  refine WL.nil ?_
  refine WT.seq ?_
  refine WT.region ?_
  refine lq (q_loadN Tn_121 rfl (fun w1 hw => hw.rgO (i := 0) rfl 0 3 [.int .i64 p0.K, .int .i64 p0.N, .string p0.S] rfl) rfl) rfl ?_
  refine ls (s_store (i := 1) (vs := [.int .i64 p0.K, .int .i64 p0.N, .string p0.S]) (C' := [.int .i64 p0.K, .int .i64 p0.N, .string p0.S]) (O' := [(b_3, .cells #[.int .i64 p0.K, .int .i64 p0.N, .string p0.S] 121 (0, 0)), (b_2, .cells #[.int .i64 p0.K, .int .i64 p0.N, .string p0.S] 121 (0, 0)), (b_1, .cells #[.int .i64 p0.K, .int .i64 p0.N, .string p0.S] 260 (0, 0))]) Sz_121 rfl rfl rfl rfl rfl rfl ⟨rfl, rfl, rfl, trivial⟩ rfl rfl) rfl ?_
  refine WL.nil ?_
  refine WT.ret Tryz.func230 (resOk.one (rv_cell Tn_121 rfl (fun w1 hw => hw.rgO (i := 1) rfl 0 3 [.int .i64 p0.K, .int .i64 p0.N, .string p0.S] rfl) rfl)) (fun w1 hw => ?_)
  cases h
  exact post_of_St hw
theorem m_l_toValS_ok {Φ : Hp} {w : World} (hΦ : In Φ w) (N : Nat) (p0 : (List TVal)) {pv0 : Value} {pG0 : List Nat} (ph0 : RSl RTVal 3 Φ pG0 pv0 p0) {r : (List TVal)} (h : m_l_toValS N p0 = some r) :
    Calls Tryz.prog 206 [pv0].toArray w (PostG Φ w [] (fun Φ' Fs v => ∃ (sr_0_0 : Value), v = sr_0_0 ∧ Fs = [ob sr_0_0] ∧ OSl RTVal 121 3 Φ' [] sr_0_0 r)) := by
  refine enter Tryz.func206 rfl Tryz.ntmps206 rfl (St.start0 hΦ) ?_
  have pa0 : Old ⟨w, [], Φ⟩ pG0 := Old.mk hΦ ph0.kn (Dj.empty _)
  revert pa0
  generalize hb0 : (⟨w, [], Φ⟩ : Base) = w0
  intro pa0
  unfold m_l_toValS at h
  refine WT.seq ?_
  refine WT.region ?_
  refine lq (q_assign rfl) rfl ?_
  refine WL.nil ?_
  refine WT.seq ?_
  refine WT.region ?_
  refine lq (q_move rfl) rfl ?_
  refine lq (q_lenR Sl_204 rfl rfl ph0) rfl ?_
  obtain ⟨x1, hx1, h⟩ := bind_some h
  refine le' (e_make (R := RTVal) Sl_100 Zr_121 By_121 rfl rfl rfl (fun _ => ⟨rfl, rfl⟩) rfl rfl (Int.le_refl _) hx1 (mk_le hx1)) rfl (fun v1 Φ_1 D1 q1 => ?_)
  obtain ⟨fr1, h1⟩ := q1
  replace ph0 := ph0.frame RTVal.lasts fr1 (Dj.empty _)
  refine lq (q_assign rfl) rfl ?_
  refine WL.nil ?_
  refine WT.seq ?_
  refine WT.seq ?_
  refine WT.region ?_
  refine lq (q_assign rfl) rfl ?_
  refine WL.nil ?_
  refine WT.block ?_
  refine WT.loop ?_
  refine WT.mono (l' := [(0, pv0), (3, v1), (4, .int .i64 0)]) (S' := St w0 Φ_1 [] [ob v1]) ⟨rfl, rfl, rfl, trivial⟩ (fun w1 hw => (hw.sel (js := [0]) rfl).selO (js := []) rfl) ?_
  refine loop_ind (σ := Hp × (List TVal) × Int) (fun s => [(0, pv0), (3, v1), (4, .int .i64 s.2.2)]) (fun s => St w0 s.1 [] [ob v1]) (fun m s => m_l_toValS_l1 N p0 m s.2.1 s.2.2 = some r ∧ (OSl RTVal 121 3 s.1 [] v1 s.2.1) ∧ (RSl RTVal 3 s.1 pG0 pv0 p0)) (fun s hm => none_ne (show (none : Option ((List TVal))) = some r from hm.1)) (fun n1 ih1 s hm => ?_) N (Φ_1, x1, 0) ⟨h, h1, ph0⟩
  obtain ⟨Φ_2, s1, s2⟩ := s
  obtain ⟨h, k1, ph0⟩ := hm
  replace h : m_l_toValS_l1 N p0 (n1 + 1) s1 s2 = some r := h
  replace k1 : OSl RTVal 121 3 Φ_2 [] v1 s1 := k1
  replace ph0 : RSl RTVal 3 Φ_2 pG0 pv0 p0 := ph0
  show WT _ _ [(0, pv0), (3, v1), (4, .int .i64 s2)] (St w0 Φ_2 [] [ob v1])
  unfold m_l_toValS_l1 at h
  refine WT.seq ?_
  refine WT.seq ?_
  refine WT.region ?_
  refine lq (q_move rfl) rfl ?_
  refine lq (q_move rfl) rfl ?_
  refine lq (q_lenR Sl_204 rfl rfl ph0) rfl ?_
  refine lq (q_lss rfl rfl) rfl ?_
  refine WL.nil ?_
  refine WT.cond rfl (fun c1 => ?_) (fun c1 => ?_)
  · replace h := ite_t h c1
    refine WT.skip ?_
    refine WT.seq ?_
    refine WT.block ?_
    refine WT.region ?_
    refine lq (q_move rfl) rfl ?_
    refine lq (q_move rfl) rfl ?_
    refine lq (q_move rfl) rfl ?_
    refine lq (q_move rfl) rfl ?_
    obtain ⟨x2, hx2, h⟩ := bind_some h
    obtain ⟨cs1, F1, -, g1, hb1, hs1, r1⟩ := ph0.el (idx_some hx2).2.2
    obtain ⟨rfl, -⟩ := r1
    refine lq (q_indexAddr Sl_204 rfl rfl ph0 hx2) rfl ?_
    refine lq (q_loadN Tn_260 rfl (fun w1 hw => (g1.of_eq 0 3 rfl rfl : rg _ _ _ [.int .i64 x2.K, .int .i64 x2.N, .string x2.S]).rangeAt hw.fro) rfl) rfl ?_
    obtain ⟨x3, hx3, h⟩ := bind_some h
    refine lp (p_call Fun_230 rfl (fun w1 hw => m_l_toVal_ok hw.fro N x2 hx3)) rfl ?_
    obtain ⟨x4, hx4, h⟩ := bind_some h
    obtain ⟨cs2, F2, -, g2, hb2, hs2, r2⟩ := k1.elS (idx_some hx4).2.2
    obtain ⟨rfl, -⟩ := r2
    refine lq (q_indexAddr Sl_100 rfl rfl k1.rsl hx4) rfl ?_
    refine lu (u_setF (js := [0]) (Rr := []) (vs := [.int .i64 x3.K, .int .i64 x3.N, .string x3.S]) (x' := x3) RTVal.lasts RTVal.flat Sz_121 rfl rfl rfl rfl ⟨rfl, rfl, rfl, trivial⟩ rfl k1 (idx_lt hx4) ⟨rfl, rfl⟩) rfl (fun Φ_3 D2 q2 => ?_)
    obtain ⟨⟨ap1, fr2⟩, h2⟩ := q2
    replace ph0 := ph0.frame RTVal.lasts fr2 (ap1.o pa0)
    refine WL.nil ?_
    refine WT.inBlock ?_
    refine WT.region ?_
    refine lq (q_move rfl) rfl ?_
    refine lq (q_add rfl rfl) rfl ?_
    refine lq (q_assign rfl) rfl ?_
    refine WL.nil ?_
    refine WT.inLoop (WT.mono (l' := [(0, pv0), (3, v1), (4, .int .i64 (IntKind.i64.wrap (s2 + 1)))]) (S' := St w0 Φ_3 [] [ob v1]) ⟨rfl, rfl, rfl, trivial⟩ (fun w1 hw => (hw.sel (js := [0]) rfl).selO (js := []) rfl) ?_)
    exact ih1 (Φ_3, (s1.set s2.toNat x3), IntKind.i64.wrap (s2 + 1)) ⟨h, h2, ph0⟩
  replace h := ite_f h c1
  refine WT.exit rfl ?_
  refine WT.seq ?_
  refine WT.region ?_
  refine lq (q_move rfl) rfl ?_
  refine lq (q_assign rfl) rfl ?_
  refine WL.nil ?_
  refine WT.ret Tryz.func206 (resOk.one rfl) (fun w1 hw => ?_)
  subst hb0
  cases h
  refine postG_of_St (js := [0]) hw rfl ⟨v1, rfl, rfl, k1⟩
theorem m_l_toIntS_ok {Φ : Hp} {w : World} (hΦ : In Φ w) (N : Nat) (p0 : (List Int)) {pv0 : Value} {pG0 : List Nat} (ph0 : RSl (RI .i64) 1 Φ pG0 pv0 p0) {r : (List Int)} (h : m_l_toIntS N p0 = some r) :
    Calls Tryz.prog 207 [pv0].toArray w (PostG Φ w [] (fun Φ' Fs v => ∃ (sr_0_0 : Value), v = sr_0_0 ∧ Fs = [ob sr_0_0] ∧ OSl (RI .i64) 3 1 Φ' [] sr_0_0 r)) := by
  refine enter Tryz.func207 rfl Tryz.ntmps207 rfl (St.start0 hΦ) ?_
  have pa0 : Old ⟨w, [], Φ⟩ pG0 := Old.mk hΦ ph0.kn (Dj.empty _)
  revert pa0
  generalize hb0 : (⟨w, [], Φ⟩ : Base) = w0
  intro pa0
  unfold m_l_toIntS at h
  refine WT.seq ?_
  refine WT.region ?_
  refine lq (q_assign rfl) rfl ?_
  refine WL.nil ?_
  refine WT.seq ?_
  refine WT.region ?_
  refine lq (q_move rfl) rfl ?_
  refine lq (q_lenR Sl_41 rfl rfl ph0) rfl ?_
  obtain ⟨x1, hx1, h⟩ := bind_some h
  refine le' (e_make (R := (RI .i64)) Sl_41 Zr_3 By_3 rfl rfl rfl (fun _ => ⟨rfl, rfl⟩) rfl rfl (Int.le_refl _) hx1 (mk_le hx1)) rfl (fun v1 Φ_1 D1 q1 => ?_)
  obtain ⟨fr1, h1⟩ := q1
  replace ph0 := ph0.frame RI.lasts fr1 (Dj.empty _)
  refine lq (q_assign rfl) rfl ?_
  refine WL.nil ?_
  refine WT.seq ?_
  refine WT.seq ?_
  refine WT.region ?_
  refine lq (q_assign rfl) rfl ?_
  refine WL.nil ?_
  refine WT.block ?_
  refine WT.loop ?_
  refine WT.mono (l' := [(0, pv0), (3, v1), (4, .int .i64 0)]) (S' := St w0 Φ_1 [] [ob v1]) ⟨rfl, rfl, rfl, trivial⟩ (fun w1 hw => (hw.sel (js := [0]) rfl).selO (js := []) rfl) ?_
  refine loop_ind (σ := Hp × (List Int) × Int) (fun s => [(0, pv0), (3, v1), (4, .int .i64 s.2.2)]) (fun s => St w0 s.1 [] [ob v1]) (fun m s => m_l_toIntS_l1 N p0 m s.2.1 s.2.2 = some r ∧ (OSl (RI .i64) 3 1 s.1 [] v1 s.2.1) ∧ (RSl (RI .i64) 1 s.1 pG0 pv0 p0)) (fun s hm => none_ne (show (none : Option ((List Int))) = some r from hm.1)) (fun n1 ih1 s hm => ?_) N (Φ_1, x1, 0) ⟨h, h1, ph0⟩
  obtain ⟨Φ_2, s1, s2⟩ := s
  obtain ⟨h, k1, ph0⟩ := hm
  replace h : m_l_toIntS_l1 N p0 (n1 + 1) s1 s2 = some r := h
  replace k1 : OSl (RI .i64) 3 1 Φ_2 [] v1 s1 := k1
  replace ph0 : RSl (RI .i64) 1 Φ_2 pG0 pv0 p0 := ph0
  show WT _ _ [(0, pv0), (3, v1), (4, .int .i64 s2)] (St w0 Φ_2 [] [ob v1])
  unfold m_l_toIntS_l1 at h
  refine WT.seq ?_
  refine WT.seq ?_
  refine WT.region ?_
  refine lq (q_move rfl) rfl ?_
  refine lq (q_move rfl) rfl ?_
  refine lq (q_lenR Sl_41 rfl rfl ph0) rfl ?_
  refine lq (q_lss rfl rfl) rfl ?_
  refine WL.nil ?_
  refine WT.cond rfl (fun c1 => ?_) (fun c1 => ?_)
  · replace h := ite_t h c1
    refine WT.skip ?_
    refine WT.seq ?_
    refine WT.block ?_
    refine WT.region ?_
    refine lq (q_move rfl) rfl ?_
    refine lq (q_move rfl) rfl ?_
    refine lq (q_move rfl) rfl ?_
    refine lq (q_move rfl) rfl ?_
    obtain ⟨x2, hx2, h⟩ := bind_some h
    obtain ⟨cs1, F1, -, g1, hb1, hs1, r1⟩ := ph0.el (idx_some hx2).2.2
    obtain ⟨rfl, -⟩ := r1
    refine lq (q_indexAddr Sl_41 rfl rfl ph0 hx2) rfl ?_
    refine lq (q_load1 T1_3 rfl (fun w1 hw => (g1.of_eq 0 1 rfl rfl : rg _ _ _ [.int .i64 x2]).rangeAt hw.fro)) rfl ?_
    obtain ⟨x3, hx3, h⟩ := bind_some h
    obtain ⟨cs2, F2, -, g2, hb2, hs2, r2⟩ := k1.elS (idx_some hx3).2.2
    obtain ⟨rfl, -⟩ := r2
    refine lq (q_indexAddr Sl_41 rfl rfl k1.rsl hx3) rfl ?_
    refine lu (u_setF (js := [0]) (Rr := []) (vs := [.int .i64 x2]) (x' := x2) RI.lasts RI.flat Sz_3 rfl rfl rfl rfl ⟨rfl, trivial⟩ rfl k1 (idx_lt hx3) ⟨rfl, rfl⟩) rfl (fun Φ_3 D2 q2 => ?_)
    obtain ⟨⟨ap1, fr2⟩, h2⟩ := q2
    replace ph0 := ph0.frame RI.lasts fr2 (ap1.o pa0)
    refine WL.nil ?_
    refine WT.inBlock ?_
    refine WT.region ?_
    refine lq (q_move rfl) rfl ?_
    refine lq (q_add rfl rfl) rfl ?_
    refine lq (q_assign rfl) rfl ?_
    refine WL.nil ?_
    refine WT.inLoop (WT.mono (l' := [(0, pv0), (3, v1), (4, .int .i64 (IntKind.i64.wrap (s2 + 1)))]) (S' := St w0 Φ_3 [] [ob v1]) ⟨rfl, rfl, rfl, trivial⟩ (fun w1 hw => (hw.sel (js := [0]) rfl).selO (js := []) rfl) ?_)
    exact ih1 (Φ_3, (s1.set s2.toNat x2), IntKind.i64.wrap (s2 + 1)) ⟨h, h2, ph0⟩
  replace h := ite_f h c1
  refine WT.exit rfl ?_
  refine WT.seq ?_
  refine WT.region ?_
  refine lq (q_move rfl) rfl ?_
  refine lq (q_assign rfl) rfl ?_
  refine WL.nil ?_
  refine WT.ret Tryz.func207 (resOk.one rfl) (fun w1 hw => ?_)
  subst hb0
  cases h
  refine postG_of_St (js := [0]) hw rfl ⟨v1, rfl, rfl, k1⟩
theorem m_l_toAlpha_ok {Φ : Hp} {w : World} (hΦ : In Φ w) (N : Nat) (p0 : TAlpha) {pv0_0 : Value} {pG0_0 : List Nat} {pv0_1 : Value} {pG0_1 : List Nat} (ph0_0 : RSl RTVal 3 Φ pG0_0 pv0_0 p0.Consts) (ph0_1 : RSl (RI .i64) 1 Φ pG0_1 pv0_1 p0.At) {r : TAlpha} (h : m_l_toAlpha N p0 = some r) :
    Calls Tryz.prog 154 [.agg [.string p0.Kind, .int .i64 p0.N, pv0_0, pv0_1].toArray].toArray w (PostG Φ w [] (fun Φ' Fs v => ∃ (sr_0_0 : Value) (sr_0_1 : Value), v = .agg [.string r.Kind, .int .i64 r.N, sr_0_0, sr_0_1].toArray ∧ Fs = [ob sr_0_0, ob sr_0_1] ∧ OSl RTVal 121 3 Φ' [] sr_0_0 r.Consts ∧ OSl (RI .i64) 3 1 Φ' [] sr_0_1 r.At)) := by
  refine enter Tryz.func154 rfl Tryz.ntmps154 rfl (St.start0 hΦ) ?_
  have pa0_0 : Old ⟨w, [], Φ⟩ pG0_0 := Old.mk hΦ ph0_0.kn (Dj.empty _)
  have pa0_1 : Old ⟨w, [], Φ⟩ pG0_1 := Old.mk hΦ ph0_1.kn (Dj.empty _)
  unfold m_l_toAlpha at h
  refine WT.seq ?_
  refine WT.region ?_
  refine ln (n_box (C := #[.string p0.Kind, .int .i64 p0.N, pv0_0, pv0_1]) rfl rfl) rfl (fun b_1 => ?_)
  refine ln (n_alloc (C := #[.string (⟨#[]⟩ : ByteArray), .int .i64 0, .slice none 0 0, .slice none 0 0]) Zr_102 rfl) rfl (fun b_2 => ?_)
  refine WL.nil ?_
  refine WT.seq ?_
  refine WT.region ?_
  refine ln (n_alloc (C := #[.string (⟨#[]⟩ : ByteArray), .int .i64 0, .slice none 0 0, .slice none 0 0]) Zr_102 rfl) rfl (fun b_3 => ?_)
  refine WL.nil ?_
  refine WT.seq ?_
  refine WT.region ?_
  refine lq (q_fieldAddr Fld_206_0 rfl) rfl ?_
  refine lq (q_load1 T1_9 rfl (fun w1 hw => hw.rgO (i := 2) rfl 0 1 [.string p0.Kind] rfl)) rfl ?_
  refine lq (q_fieldAddr Fld_102_0 rfl) rfl ?_
  refine ls (s_store (i := 0) (vs := [.string p0.Kind]) (C' := [.string p0.Kind, .int .i64 0, .slice none 0 0, .slice none 0 0]) (O' := [(b_3, .cells #[.string p0.Kind, .int .i64 0, .slice none 0 0, .slice none 0 0] 102 (0, 0)), (b_2, .cells #[.string (⟨#[]⟩ : ByteArray), .int .i64 0, .slice none 0 0, .slice none 0 0] 102 (0, 0)), (b_1, .cells #[.string p0.Kind, .int .i64 p0.N, pv0_0, pv0_1] 206 (0, 0))]) Sz_9 rfl rfl rfl rfl rfl rfl ⟨rfl, trivial⟩ rfl rfl) rfl ?_
  refine WL.nil ?_
  refine WT.seq ?_
  refine WT.region ?_
  refine lq (q_fieldAddr Fld_206_1 rfl) rfl ?_
  refine lq (q_load1 T1_3 rfl (fun w1 hw => hw.rgO (i := 2) rfl 1 1 [.int .i64 p0.N] rfl)) rfl ?_
  refine lq (q_fieldAddr Fld_102_1 rfl) rfl ?_
  refine ls (s_store (i := 0) (vs := [.int .i64 p0.N]) (C' := [.string p0.Kind, .int .i64 p0.N, .slice none 0 0, .slice none 0 0]) (O' := [(b_3, .cells #[.string p0.Kind, .int .i64 p0.N, .slice none 0 0, .slice none 0 0] 102 (0, 0)), (b_2, .cells #[.string (⟨#[]⟩ : ByteArray), .int .i64 0, .slice none 0 0, .slice none 0 0] 102 (0, 0)), (b_1, .cells #[.string p0.Kind, .int .i64 p0.N, pv0_0, pv0_1] 206 (0, 0))]) Sz_3 rfl rfl rfl rfl rfl rfl ⟨rfl, trivial⟩ rfl rfl) rfl ?_
  refine WL.nil ?_
  refine WT.seq ?_
  refine WT.region ?_
  refine lq (q_fieldAddr Fld_206_2 rfl) rfl ?_
  refine lq (q_load1 T1_204 rfl (fun w1 hw => hw.rgO (i := 2) rfl 2 1 [pv0_0] rfl)) rfl ?_
  obtain ⟨x1, hx1, h⟩ := bind_some h
  refine lc (k_call (js := []) (R := []) Fun_206 rfl rfl (fun w1 hw ap hl => m_l_toValS_ok hw.fro N p0.Consts ph0_0  hx1)) rfl (fun v1 Φ_1 F1 q1 => ?_)
  obtain ⟨ap1, fr1, v2, rfl, rfl, h1⟩ := q1
  replace ph0_0 := ph0_0.frame RTVal.lasts fr1 (ap1.o pa0_0)
  replace ph0_1 := ph0_1.frame RI.lasts fr1 (ap1.o pa0_1)
  refine lq (q_fieldAddr Fld_102_2 rfl) rfl ?_
  refine ls (s_store (i := 0) (vs := [v1]) (C' := [.string p0.Kind, .int .i64 p0.N, v1, .slice none 0 0]) (O' := [(b_3, .cells #[.string p0.Kind, .int .i64 p0.N, v1, .slice none 0 0] 102 (0, 0)), (b_2, .cells #[.string (⟨#[]⟩ : ByteArray), .int .i64 0, .slice none 0 0, .slice none 0 0] 102 (0, 0)), (b_1, .cells #[.string p0.Kind, .int .i64 p0.N, pv0_0, pv0_1] 206 (0, 0))]) Sz_100 rfl rfl rfl (one_cells h1.one) rfl rfl ⟨h1.one, trivial⟩ rfl rfl) rfl ?_
  refine WL.nil ?_
  refine WT.seq ?_
  refine WT.region ?_
  refine lq (q_fieldAddr Fld_206_3 rfl) rfl ?_
  refine lq (q_load1 T1_41 rfl (fun w1 hw => hw.rgO (i := 2) rfl 3 1 [pv0_1] rfl)) rfl ?_
  obtain ⟨x2, hx2, h⟩ := bind_some h
  refine lc (k_call (js := []) (R := [ob v1]) Fun_207 rfl rfl (fun w1 hw ap hl => m_l_toIntS_ok hw.fro N p0.At ph0_1  hx2)) rfl (fun v3 Φ_2 F2 q2 => ?_)
  obtain ⟨ap2, fr2, v4, rfl, rfl, h2⟩ := q2
  replace h1 := h1.frame RTVal.lasts fr2 (ap2.r (i := 0) rfl) (Dj.nil _)
  refine lq (q_fieldAddr Fld_102_3 rfl) rfl ?_
  refine ls (s_store (i := 0) (vs := [v3]) (C' := [.string p0.Kind, .int .i64 p0.N, v1, v3]) (O' := [(b_3, .cells #[.string p0.Kind, .int .i64 p0.N, v1, v3] 102 (0, 0)), (b_2, .cells #[.string (⟨#[]⟩ : ByteArray), .int .i64 0, .slice none 0 0, .slice none 0 0] 102 (0, 0)), (b_1, .cells #[.string p0.Kind, .int .i64 p0.N, pv0_0, pv0_1] 206 (0, 0))]) Sz_41 rfl rfl rfl (one_cells h2.one) rfl rfl ⟨h2.one, trivial⟩ rfl rfl) rfl ?_
  refine WL.nil ?_
  refine WT.seq ?_
  refine WT.region ?_
  refine lq (q_loadN Tn_102 rfl (fun w1 hw => hw.rgO (i := 0) rfl 0 4 [.string p0.Kind, .int .i64 p0.N, v1, v3] rfl) rfl) rfl ?_
  refine ls (s_store (i := 1) (vs := [.string p0.Kind, .int .i64 p0.N, v1, v3]) (C' := [.string p0.Kind, .int .i64 p0.N, v1, v3]) (O' := [(b_3, .cells #[.string p0.Kind, .int .i64 p0.N, v1, v3] 102 (0, 0)), (b_2, .cells #[.string p0.Kind, .int .i64 p0.N, v1, v3] 102 (0, 0)), (b_1, .cells #[.string p0.Kind, .int .i64 p0.N, pv0_0, pv0_1] 206 (0, 0))]) Sz_102 rfl rfl rfl rfl rfl rfl ⟨rfl, rfl, h1.one, h2.one, trivial⟩ rfl rfl) rfl ?_
  refine WL.nil ?_
  refine WT.ret Tryz.func154 (resOk.one (rv_cell Tn_102 rfl (fun w1 hw => hw.rgO (i := 1) rfl 0 4 [.string p0.Kind, .int .i64 p0.N, v1, v3] rfl) rfl)) (fun w1 hw => ?_)
  cases h
  refine postG_of_St (js := [1, 0]) hw rfl ⟨v1, v3, rfl, rfl, h1, h2⟩
theorem m_l_toAlphaS_ok {Φ : Hp} {w : World} (hΦ : In Φ w) (N : Nat) (p0 : (List TAlpha)) {pv0 : Value} {pG0 : List Nat} (ph0 : RSl RTAlpha 4 Φ pG0 pv0 p0) {r : (List TAlpha)} (h : m_l_toAlphaS N p0 = some r) :
    Calls Tryz.prog 90 [pv0].toArray w (PostG Φ w [] (fun Φ' Fs v => ∃ (sr_0_0 : Value) (Dr_0_0 : List Nat), v = sr_0_0 ∧ Fs = [ob sr_0_0, Dr_0_0] ∧ OSl OTAlpha 102 4 Φ' Dr_0_0 sr_0_0 r)) := by
  refine enter Tryz.func90 rfl Tryz.ntmps90 rfl (St.start0 hΦ) ?_
  have pa0 : Old ⟨w, [], Φ⟩ pG0 := Old.mk hΦ ph0.kn (Dj.empty _)
  revert pa0
  generalize hb0 : (⟨w, [], Φ⟩ : Base) = w0
  intro pa0
  unfold m_l_toAlphaS at h
  refine WT.seq ?_
  refine WT.region ?_
  refine lq (q_assign rfl) rfl ?_
  refine WL.nil ?_
  refine WT.seq ?_
  refine WT.region ?_
  refine lq (q_move rfl) rfl ?_
  refine lq (q_lenR Sl_76 rfl rfl ph0) rfl ?_
  obtain ⟨x1, hx1, h⟩ := bind_some h
  refine le' (e_make (R := OTAlpha) Sl_24 Zr_102 By_102 rfl rfl rfl (fun _ => ⟨.slice none 0 0, .slice none 0 0, rfl, rfl, OSl.nil _ _ _ _, OSl.nil _ _ _ _⟩) rfl rfl (Int.le_refl _) hx1 (mk_le hx1)) rfl (fun v1 Φ_1 D1 q1 => ?_)
  obtain ⟨fr1, h1⟩ := q1
  replace ph0 := ph0.frame RTAlpha.lasts fr1 (Dj.empty _)
  refine WL.conv (S' := St w0 Φ_1 [] ([] :: [ob v1])) (fun w1 hw => hw.addNil) ?_
  refine lq (q_assign rfl) rfl ?_
  refine WL.nil ?_
  refine WT.seq ?_
  refine WT.seq ?_
  refine WT.region ?_
  refine lq (q_assign rfl) rfl ?_
  refine WL.nil ?_
  refine WT.block ?_
  refine WT.loop ?_
  refine WT.mono (l' := [(0, pv0), (3, v1), (4, .int .i64 0)]) (S' := St w0 Φ_1 [] [[], ob v1]) ⟨rfl, rfl, rfl, trivial⟩ (fun w1 hw => (hw.sel (js := [0, 0]) rfl).selO (js := []) rfl) ?_
  refine loop_ind (σ := Hp × (List TAlpha) × List Nat × Int) (fun s => [(0, pv0), (3, v1), (4, .int .i64 s.2.2.2)]) (fun s => St w0 s.1 [] [s.2.2.1, ob v1]) (fun m s => m_l_toAlphaS_l1 N p0 m s.2.1 s.2.2.2 = some r ∧ (OSl OTAlpha 102 4 s.1 s.2.2.1 v1 s.2.1) ∧ (RSl RTAlpha 4 s.1 pG0 pv0 p0)) (fun s hm => none_ne (show (none : Option ((List TAlpha))) = some r from hm.1)) (fun n1 ih1 s hm => ?_) N (Φ_1, x1, [], 0) ⟨h, h1, ph0⟩
  obtain ⟨Φ_2, s1, D2, s2⟩ := s
  obtain ⟨h, k1, ph0⟩ := hm
  replace h : m_l_toAlphaS_l1 N p0 (n1 + 1) s1 s2 = some r := h
  replace k1 : OSl OTAlpha 102 4 Φ_2 D2 v1 s1 := k1
  replace ph0 : RSl RTAlpha 4 Φ_2 pG0 pv0 p0 := ph0
  show WT _ _ [(0, pv0), (3, v1), (4, .int .i64 s2)] (St w0 Φ_2 [] [D2, ob v1])
  unfold m_l_toAlphaS_l1 at h
  refine WT.seq ?_
  refine WT.seq ?_
  refine WT.region ?_
  refine lq (q_move rfl) rfl ?_
  refine lq (q_move rfl) rfl ?_
  refine lq (q_lenR Sl_76 rfl rfl ph0) rfl ?_
  refine lq (q_lss rfl rfl) rfl ?_
  refine WL.nil ?_
  refine WT.cond rfl (fun c1 => ?_) (fun c1 => ?_)
  · replace h := ite_t h c1
    refine WT.skip ?_
    refine WT.seq ?_
    refine WT.block ?_
    refine WT.region ?_
    refine lq (q_move rfl) rfl ?_
    refine lq (q_move rfl) rfl ?_
    refine lq (q_move rfl) rfl ?_
    refine lq (q_move rfl) rfl ?_
    obtain ⟨x2, hx2, h⟩ := bind_some h
    obtain ⟨cs1, F1, -, g1, hb1, hs1, r1⟩ := ph0.el (idx_some hx2).2.2
    obtain ⟨v2, G1, v3, G2, rfl, rfl, h2, h3⟩ := r1
    refine lq (q_indexAddr Sl_76 rfl rfl ph0 hx2) rfl ?_
    refine lq (q_loadN Tn_206 rfl (fun w1 hw => (g1.of_eq 0 4 rfl rfl : rg _ _ _ [.string x2.Kind, .int .i64 x2.N, v2, v3]).rangeAt hw.fro) rfl) rfl ?_
    obtain ⟨x3, hx3, h⟩ := bind_some h
    refine lc (k_call (js := []) (R := [D2, ob v1]) Fun_154 rfl rfl (fun w1 hw ap hl => m_l_toAlpha_ok hw.fro N x2 h2 h3  hx3)) rfl (fun v4 Φ_3 F2 q2 => ?_)
    obtain ⟨ap1, fr2, v5, v6, rfl, rfl, h4, h5⟩ := q2
    replace ph0 := ph0.frame RTAlpha.lasts fr2 (ap1.o pa0)
    replace k1 := k1.frame OTAlpha.lasts fr2 (ap1.r (i := 1) rfl) (ap1.r (i := 0) rfl)
    obtain ⟨x4, hx4, h⟩ := bind_some h
    obtain ⟨cs2, F3, -, g2, hb2, hs2, r2⟩ := k1.elS (idx_some hx4).2.2
    obtain ⟨v7, v8, rfl, rfl, h6, h7⟩ := r2
    have h8 := h6.rsl
    have h9 := h7.rsl
    refine lq (q_indexAddr Sl_24 rfl rfl k1.rsl hx4) rfl ?_
    have r3 : OTAlpha Φ_3 ((ob v5 ++ []) ++ ((ob v6 ++ []))) [.string x3.Kind, .int .i64 x3.N, v5, v6] x3 := ⟨v5, v6, rfl, rfl, h4, h5⟩
    refine lu (u_setO (js := [3]) (Rr := [ob v5, ob v6, D2]) (vs := [.string x3.Kind, .int .i64 x3.N, v5, v6]) (x' := x3) OTAlpha.lasts Sz_102 rfl rfl rfl rfl ⟨rfl, rfl, h4.one, h5.one, trivial⟩ rfl k1 (idx_lt hx4) r3 (OTAlpha.knows _ _ _ _ r3) (fun ap => (ap.r (i := 2) rfl)) (fun ap => by simpa [ob_nil] using (Dj.app (ap.r (i := 0) rfl) (ap.r (i := 1) rfl)))) rfl (fun Φ_4 D3 q3 => ?_)
    obtain ⟨⟨ap2, fr3⟩, sp1, h10⟩ := q3
    replace ph0 := ph0.frame RTAlpha.lasts fr3 (ap2.o pa0)
    refine WL.conv (S' := St w0 Φ_4 [] [D3, ob v1]) (fun w1 hw => hw.merge (js := [3, 1, 1]) rfl (by simpa [List.append_assoc, ob_nil] using sp1)) ?_
    refine WL.nil ?_
    refine WT.inBlock ?_
    refine WT.region ?_
    refine lq (q_move rfl) rfl ?_
    refine lq (q_add rfl rfl) rfl ?_
    refine lq (q_assign rfl) rfl ?_
    refine WL.nil ?_
    refine WT.inLoop (WT.mono (l' := [(0, pv0), (3, v1), (4, .int .i64 (IntKind.i64.wrap (s2 + 1)))]) (S' := St w0 Φ_4 [] [D3, ob v1]) ⟨rfl, rfl, rfl, trivial⟩ (fun w1 hw => (hw.sel (js := [0, 0]) rfl).selO (js := []) rfl) ?_)
    exact ih1 (Φ_4, (s1.set s2.toNat x3), D3, IntKind.i64.wrap (s2 + 1)) ⟨h, h10, ph0⟩
  replace h := ite_f h c1
  refine WT.exit rfl ?_
  refine WT.seq ?_
  refine WT.region ?_
  refine lq (q_move rfl) rfl ?_
  refine lq (q_assign rfl) rfl ?_
  refine WL.nil ?_
  refine WT.ret Tryz.func90 (resOk.one rfl) (fun w1 hw => ?_)
  subst hb0
  cases h
  refine postG_of_St (js := [1, 0]) hw rfl ⟨v1, D2, rfl, rfl, k1⟩
theorem m_l_toChain_ok {Φ : Hp} {w : World} (hΦ : In Φ w) (N : Nat) (p0 : TChain) {pv0_0 : Value} {pG0_0 : List Nat} {pv0_1 : Value} {pG0_1 : List Nat} (ph0_0 : RSl (RI .i64) 1 Φ pG0_0 pv0_0 p0.Pos) (ph0_1 : RSl (RI .i64) 1 Φ pG0_1 pv0_1 p0.Neg) {r : TChain} (h : m_l_toChain N p0 = some r) :
    Calls Tryz.prog 155 [.agg [pv0_0, pv0_1].toArray].toArray w (PostG Φ w [] (fun Φ' Fs v => ∃ (sr_0_0 : Value) (sr_0_1 : Value), v = .agg [sr_0_0, sr_0_1].toArray ∧ Fs = [ob sr_0_0, ob sr_0_1] ∧ OSl (RI .i64) 3 1 Φ' [] sr_0_0 r.Pos ∧ OSl (RI .i64) 3 1 Φ' [] sr_0_1 r.Neg)) := by
  refine enter Tryz.func155 rfl Tryz.ntmps155 rfl (St.start0 hΦ) ?_
  have pa0_0 : Old ⟨w, [], Φ⟩ pG0_0 := Old.mk hΦ ph0_0.kn (Dj.empty _)
  have pa0_1 : Old ⟨w, [], Φ⟩ pG0_1 := Old.mk hΦ ph0_1.kn (Dj.empty _)
  unfold m_l_toChain at h
  refine WT.seq ?_
  refine WT.region ?_
  refine ln (n_box (C := #[pv0_0, pv0_1]) rfl rfl) rfl (fun b_1 => ?_)
  refine ln (n_alloc (C := #[.slice none 0 0, .slice none 0 0]) Zr_43 rfl) rfl (fun b_2 => ?_)
  refine WL.nil ?_
  refine WT.seq ?_
  refine WT.region ?_
  refine ln (n_alloc (C := #[.slice none 0 0, .slice none 0 0]) Zr_43 rfl) rfl (fun b_3 => ?_)
  refine WL.nil ?_
  refine WT.seq ?_
  refine WT.region ?_
  refine lq (q_fieldAddr Fld_208_0 rfl) rfl ?_
  refine lq (q_load1 T1_41 rfl (fun w1 hw => hw.rgO (i := 2) rfl 0 1 [pv0_0] rfl)) rfl ?_
  obtain ⟨x1, hx1, h⟩ := bind_some h
  refine lc (k_call (js := []) (R := []) Fun_207 rfl rfl (fun w1 hw ap hl => m_l_toIntS_ok hw.fro N p0.Pos ph0_0  hx1)) rfl (fun v1 Φ_1 F1 q1 => ?_)
  obtain ⟨ap1, fr1, v2, rfl, rfl, h1⟩ := q1
  replace ph0_0 := ph0_0.frame RI.lasts fr1 (ap1.o pa0_0)
  replace ph0_1 := ph0_1.frame RI.lasts fr1 (ap1.o pa0_1)
  refine lq (q_fieldAddr Fld_43_0 rfl) rfl ?_
  refine ls (s_store (i := 0) (vs := [v1]) (C' := [v1, .slice none 0 0]) (O' := [(b_3, .cells #[v1, .slice none 0 0] 43 (0, 0)), (b_2, .cells #[.slice none 0 0, .slice none 0 0] 43 (0, 0)), (b_1, .cells #[pv0_0, pv0_1] 208 (0, 0))]) Sz_41 rfl rfl rfl (one_cells h1.one) rfl rfl ⟨h1.one, trivial⟩ rfl rfl) rfl ?_
  refine WL.nil ?_
  refine WT.seq ?_
  refine WT.region ?_
  refine lq (q_fieldAddr Fld_208_1 rfl) rfl ?_
  refine lq (q_load1 T1_41 rfl (fun w1 hw => hw.rgO (i := 2) rfl 1 1 [pv0_1] rfl)) rfl ?_
  obtain ⟨x2, hx2, h⟩ := bind_some h
  refine lc (k_call (js := []) (R := [ob v1]) Fun_207 rfl rfl (fun w1 hw ap hl => m_l_toIntS_ok hw.fro N p0.Neg ph0_1  hx2)) rfl (fun v3 Φ_2 F2 q2 => ?_)
  obtain ⟨ap2, fr2, v4, rfl, rfl, h2⟩ := q2
  replace h1 := h1.frame RI.lasts fr2 (ap2.r (i := 0) rfl) (Dj.nil _)
  refine lq (q_fieldAddr Fld_43_1 rfl) rfl ?_
  refine ls (s_store (i := 0) (vs := [v3]) (C' := [v1, v3]) (O' := [(b_3, .cells #[v1, v3] 43 (0, 0)), (b_2, .cells #[.slice none 0 0, .slice none 0 0] 43 (0, 0)), (b_1, .cells #[pv0_0, pv0_1] 208 (0, 0))]) Sz_41 rfl rfl rfl (one_cells h2.one) rfl rfl ⟨h2.one, trivial⟩ rfl rfl) rfl ?_
  refine WL.nil ?_
  refine WT.seq ?_
  refine WT.region ?_
  refine lq (q_loadN Tn_43 rfl (fun w1 hw => hw.rgO (i := 0) rfl 0 2 [v1, v3] rfl) rfl) rfl ?_
  refine ls (s_store (i := 1) (vs := [v1, v3]) (C' := [v1, v3]) (O' := [(b_3, .cells #[v1, v3] 43 (0, 0)), (b_2, .cells #[v1, v3] 43 (0, 0)), (b_1, .cells #[pv0_0, pv0_1] 208 (0, 0))]) Sz_43 rfl rfl rfl rfl rfl rfl ⟨h1.one, h2.one, trivial⟩ rfl rfl) rfl ?_
  refine WL.nil ?_
  refine WT.ret Tryz.func155 (resOk.one (rv_cell Tn_43 rfl (fun w1 hw => hw.rgO (i := 1) rfl 0 2 [v1, v3] rfl) rfl)) (fun w1 hw => ?_)
  cases h
  refine postG_of_St (js := [1, 0]) hw rfl ⟨v1, v3, rfl, rfl, h1, h2⟩
theorem m_l_toChainS_ok {Φ : Hp} {w : World} (hΦ : In Φ w) (N : Nat) (p0 : (List TChain)) {pv0 : Value} {pG0 : List Nat} (ph0 : RSl RTChain 2 Φ pG0 pv0 p0) {r : (List TChain)} (h : m_l_toChainS N p0 = some r) :
    Calls Tryz.prog 91 [pv0].toArray w (PostG Φ w [] (fun Φ' Fs v => ∃ (sr_0_0 : Value) (Dr_0_0 : List Nat), v = sr_0_0 ∧ Fs = [ob sr_0_0, Dr_0_0] ∧ OSl OTChain 43 2 Φ' Dr_0_0 sr_0_0 r)) := by
  refine enter Tryz.func91 rfl Tryz.ntmps91 rfl (St.start0 hΦ) ?_
  have pa0 : Old ⟨w, [], Φ⟩ pG0 := Old.mk hΦ ph0.kn (Dj.empty _)
  revert pa0
  generalize hb0 : (⟨w, [], Φ⟩ : Base) = w0
  intro pa0
  unfold m_l_toChainS at h
  refine WT.seq ?_
  refine WT.region ?_
  refine lq (q_assign rfl) rfl ?_
  refine WL.nil ?_
  refine WT.seq ?_
  refine WT.region ?_
  refine lq (q_move rfl) rfl ?_
  refine lq (q_lenR Sl_77 rfl rfl ph0) rfl ?_
  obtain ⟨x1, hx1, h⟩ := bind_some h
  refine le' (e_make (R := OTChain) Sl_25 Zr_43 By_43 rfl rfl rfl (fun _ => ⟨.slice none 0 0, .slice none 0 0, rfl, rfl, OSl.nil _ _ _ _, OSl.nil _ _ _ _⟩) rfl rfl (Int.le_refl _) hx1 (mk_le hx1)) rfl (fun v1 Φ_1 D1 q1 => ?_)
  obtain ⟨fr1, h1⟩ := q1
  replace ph0 := ph0.frame RTChain.lasts fr1 (Dj.empty _)
  refine WL.conv (S' := St w0 Φ_1 [] ([] :: [ob v1])) (fun w1 hw => hw.addNil) ?_
  refine lq (q_assign rfl) rfl ?_
  refine WL.nil ?_
  refine WT.seq ?_
  refine WT.seq ?_
  refine WT.region ?_
  refine lq (q_assign rfl) rfl ?_
  refine WL.nil ?_
  refine WT.block ?_
  refine WT.loop ?_
  refine WT.mono (l' := [(0, pv0), (3, v1), (4, .int .i64 0)]) (S' := St w0 Φ_1 [] [[], ob v1]) ⟨rfl, rfl, rfl, trivial⟩ (fun w1 hw => (hw.sel (js := [0, 0]) rfl).selO (js := []) rfl) ?_
  refine loop_ind (σ := Hp × (List TChain) × List Nat × Int) (fun s => [(0, pv0), (3, v1), (4, .int .i64 s.2.2.2)]) (fun s => St w0 s.1 [] [s.2.2.1, ob v1]) (fun m s => m_l_toChainS_l1 N p0 m s.2.1 s.2.2.2 = some r ∧ (OSl OTChain 43 2 s.1 s.2.2.1 v1 s.2.1) ∧ (RSl RTChain 2 s.1 pG0 pv0 p0)) (fun s hm => none_ne (show (none : Option ((List TChain))) = some r from hm.1)) (fun n1 ih1 s hm => ?_) N (Φ_1, x1, [], 0) ⟨h, h1, ph0⟩
  obtain ⟨Φ_2, s1, D2, s2⟩ := s
  obtain ⟨h, k1, ph0⟩ := hm
  replace h : m_l_toChainS_l1 N p0 (n1 + 1) s1 s2 = some r := h
  replace k1 : OSl OTChain 43 2 Φ_2 D2 v1 s1 := k1
  replace ph0 : RSl RTChain 2 Φ_2 pG0 pv0 p0 := ph0
  show WT _ _ [(0, pv0), (3, v1), (4, .int .i64 s2)] (St w0 Φ_2 [] [D2, ob v1])
  unfold m_l_toChainS_l1 at h
  refine WT.seq ?_
  refine WT.seq ?_
  refine WT.region ?_
  refine lq (q_move rfl) rfl ?_
  refine lq (q_move rfl) rfl ?_
  refine lq (q_lenR Sl_77 rfl rfl ph0) rfl ?_
  refine lq (q_lss rfl rfl) rfl ?_
  refine WL.nil ?_
  refine WT.cond rfl (fun c1 => ?_) (fun c1 => ?_)
  · replace h := ite_t h c1
    refine WT.skip ?_
    refine WT.seq ?_
    refine WT.block ?_
    refine WT.region ?_
    refine lq (q_move rfl) rfl ?_
    refine lq (q_move rfl) rfl ?_
    refine lq (q_move rfl) rfl ?_
    refine lq (q_move rfl) rfl ?_
    obtain ⟨x2, hx2, h⟩ := bind_some h
    obtain ⟨cs1, F1, -, g1, hb1, hs1, r1⟩ := ph0.el (idx_some hx2).2.2
    obtain ⟨v2, G1, v3, G2, rfl, rfl, h2, h3⟩ := r1
    refine lq (q_indexAddr Sl_77 rfl rfl ph0 hx2) rfl ?_
    refine lq (q_loadN Tn_208 rfl (fun w1 hw => (g1.of_eq 0 2 rfl rfl : rg _ _ _ [v2, v3]).rangeAt hw.fro) rfl) rfl ?_
    obtain ⟨x3, hx3, h⟩ := bind_some h
    refine lc (k_call (js := []) (R := [D2, ob v1]) Fun_155 rfl rfl (fun w1 hw ap hl => m_l_toChain_ok hw.fro N x2 h2 h3  hx3)) rfl (fun v4 Φ_3 F2 q2 => ?_)
    obtain ⟨ap1, fr2, v5, v6, rfl, rfl, h4, h5⟩ := q2
    replace ph0 := ph0.frame RTChain.lasts fr2 (ap1.o pa0)
    replace k1 := k1.frame OTChain.lasts fr2 (ap1.r (i := 1) rfl) (ap1.r (i := 0) rfl)
    obtain ⟨x4, hx4, h⟩ := bind_some h
    obtain ⟨cs2, F3, -, g2, hb2, hs2, r2⟩ := k1.elS (idx_some hx4).2.2
    obtain ⟨v7, v8, rfl, rfl, h6, h7⟩ := r2
    have h8 := h6.rsl
    have h9 := h7.rsl
    refine lq (q_indexAddr Sl_25 rfl rfl k1.rsl hx4) rfl ?_
    have r3 : OTChain Φ_3 ((ob v5 ++ []) ++ ((ob v6 ++ []))) [v5, v6] x3 := ⟨v5, v6, rfl, rfl, h4, h5⟩
    refine lu (u_setO (js := [3]) (Rr := [ob v5, ob v6, D2]) (vs := [v5, v6]) (x' := x3) OTChain.lasts Sz_43 rfl rfl rfl rfl ⟨h4.one, h5.one, trivial⟩ rfl k1 (idx_lt hx4) r3 (OTChain.knows _ _ _ _ r3) (fun ap => (ap.r (i := 2) rfl)) (fun ap => by simpa [ob_nil] using (Dj.app (ap.r (i := 0) rfl) (ap.r (i := 1) rfl)))) rfl (fun Φ_4 D3 q3 => ?_)
    obtain ⟨⟨ap2, fr3⟩, sp1, h10⟩ := q3
    replace ph0 := ph0.frame RTChain.lasts fr3 (ap2.o pa0)
    refine WL.conv (S' := St w0 Φ_4 [] [D3, ob v1]) (fun w1 hw => hw.merge (js := [3, 1, 1]) rfl (by simpa [List.append_assoc, ob_nil] using sp1)) ?_
    refine WL.nil ?_
    refine WT.inBlock ?_
    refine WT.region ?_
    refine lq (q_move rfl) rfl ?_
    refine lq (q_add rfl rfl) rfl ?_
    refine lq (q_assign rfl) rfl ?_
    refine WL.nil ?_
    refine WT.inLoop (WT.mono (l' := [(0, pv0), (3, v1), (4, .int .i64 (IntKind.i64.wrap (s2 + 1)))]) (S' := St w0 Φ_4 [] [D3, ob v1]) ⟨rfl, rfl, rfl, trivial⟩ (fun w1 hw => (hw.sel (js := [0, 0]) rfl).selO (js := []) rfl) ?_)
    exact ih1 (Φ_4, (s1.set s2.toNat x3), D3, IntKind.i64.wrap (s2 + 1)) ⟨h, h10, ph0⟩
  replace h := ite_f h c1
  refine WT.exit rfl ?_
  refine WT.seq ?_
  refine WT.region ?_
  refine lq (q_move rfl) rfl ?_
  refine lq (q_assign rfl) rfl ?_
  refine WL.nil ?_
  refine WT.ret Tryz.func91 (resOk.one rfl) (fun w1 hw => ?_)
  subst hb0
  cases h
  refine postG_of_St (js := [1, 0]) hw rfl ⟨v1, D2, rfl, rfl, k1⟩
theorem m_l_toNet_ok {Φ : Hp} {w : World} (hΦ : In Φ w) (N : Nat) (p0 : TNet) {pv0_0 : Value} {pG0_0 : List Nat} {pv0_1 : Value} {pG0_1 : List Nat} (ph0_0 : RSl RTAlpha 4 Φ pG0_0 pv0_0 p0.Alphas) (ph0_1 : RSl RTChain 2 Φ pG0_1 pv0_1 p0.Chains) {r : TNet} (h : m_l_toNet N p0 = some r) :
    Calls Tryz.prog 35 [.agg [pv0_0, pv0_1].toArray].toArray w (PostG Φ w [] (fun Φ' Fs v => ∃ (sr_0_0 : Value) (Dr_0_0 : List Nat) (sr_0_1 : Value) (Dr_0_1 : List Nat), v = .agg [sr_0_0, sr_0_1].toArray ∧ Fs = [ob sr_0_0, Dr_0_0, ob sr_0_1, Dr_0_1] ∧ OSl OTAlpha 102 4 Φ' Dr_0_0 sr_0_0 r.Alphas ∧ OSl OTChain 43 2 Φ' Dr_0_1 sr_0_1 r.Chains)) := by
  refine enter Tryz.func35 rfl Tryz.ntmps35 rfl (St.start0 hΦ) ?_
  have pa0_0 : Old ⟨w, [], Φ⟩ pG0_0 := Old.mk hΦ ph0_0.kn (Dj.empty _)
  have pa0_1 : Old ⟨w, [], Φ⟩ pG0_1 := Old.mk hΦ ph0_1.kn (Dj.empty _)
  unfold m_l_toNet at h
  refine WT.seq ?_
  refine WT.region ?_
  refine ln (n_box (C := #[pv0_0, pv0_1]) rfl rfl) rfl (fun b_1 => ?_)
  refine ln (n_alloc (C := #[.slice none 0 0, .slice none 0 0]) Zr_27 rfl) rfl (fun b_2 => ?_)
  refine WL.nil ?_
  refine WT.seq ?_
  refine WT.region ?_
  refine ln (n_alloc (C := #[.slice none 0 0, .slice none 0 0]) Zr_27 rfl) rfl (fun b_3 => ?_)
  refine WL.nil ?_
  refine WT.seq ?_
  refine WT.region ?_
  refine lq (q_fieldAddr Fld_79_0 rfl) rfl ?_
  refine lq (q_load1 T1_76 rfl (fun w1 hw => hw.rgO (i := 2) rfl 0 1 [pv0_0] rfl)) rfl ?_
  obtain ⟨x1, hx1, h⟩ := bind_some h
  refine lc (k_call (js := []) (R := []) Fun_90 rfl rfl (fun w1 hw ap hl => m_l_toAlphaS_ok hw.fro N p0.Alphas ph0_0  hx1)) rfl (fun v1 Φ_1 F1 q1 => ?_)
  obtain ⟨ap1, fr1, v2, D1, rfl, rfl, h1⟩ := q1
  replace ph0_0 := ph0_0.frame RTAlpha.lasts fr1 (ap1.o pa0_0)
  replace ph0_1 := ph0_1.frame RTChain.lasts fr1 (ap1.o pa0_1)
  refine lq (q_fieldAddr Fld_27_0 rfl) rfl ?_
  refine ls (s_store (i := 0) (vs := [v1]) (C' := [v1, .slice none 0 0]) (O' := [(b_3, .cells #[v1, .slice none 0 0] 27 (0, 0)), (b_2, .cells #[.slice none 0 0, .slice none 0 0] 27 (0, 0)), (b_1, .cells #[pv0_0, pv0_1] 79 (0, 0))]) Sz_24 rfl rfl rfl (one_cells h1.one) rfl rfl ⟨h1.one, trivial⟩ rfl rfl) rfl ?_
  refine WL.nil ?_
  refine WT.seq ?_
  refine WT.region ?_
  refine lq (q_fieldAddr Fld_79_1 rfl) rfl ?_
  refine lq (q_load1 T1_77 rfl (fun w1 hw => hw.rgO (i := 2) rfl 1 1 [pv0_1] rfl)) rfl ?_
  obtain ⟨x2, hx2, h⟩ := bind_some h
  refine lc (k_call (js := []) (R := [ob v1, D1]) Fun_91 rfl rfl (fun w1 hw ap hl => m_l_toChainS_ok hw.fro N p0.Chains ph0_1  hx2)) rfl (fun v3 Φ_2 F2 q2 => ?_)
  obtain ⟨ap2, fr2, v4, D2, rfl, rfl, h2⟩ := q2
  replace h1 := h1.frame OTAlpha.lasts fr2 (ap2.r (i := 0) rfl) (ap2.r (i := 1) rfl)
  refine lq (q_fieldAddr Fld_27_1 rfl) rfl ?_
  refine ls (s_store (i := 0) (vs := [v3]) (C' := [v1, v3]) (O' := [(b_3, .cells #[v1, v3] 27 (0, 0)), (b_2, .cells #[.slice none 0 0, .slice none 0 0] 27 (0, 0)), (b_1, .cells #[pv0_0, pv0_1] 79 (0, 0))]) Sz_25 rfl rfl rfl (one_cells h2.one) rfl rfl ⟨h2.one, trivial⟩ rfl rfl) rfl ?_
  refine WL.nil ?_
  refine WT.seq ?_
  refine WT.region ?_
  refine lq (q_loadN Tn_27 rfl (fun w1 hw => hw.rgO (i := 0) rfl 0 2 [v1, v3] rfl) rfl) rfl ?_
  refine ls (s_store (i := 1) (vs := [v1, v3]) (C' := [v1, v3]) (O' := [(b_3, .cells #[v1, v3] 27 (0, 0)), (b_2, .cells #[v1, v3] 27 (0, 0)), (b_1, .cells #[pv0_0, pv0_1] 79 (0, 0))]) Sz_27 rfl rfl rfl rfl rfl rfl ⟨h1.one, h2.one, trivial⟩ rfl rfl) rfl ?_
  refine WL.nil ?_
  refine WT.ret Tryz.func35 (resOk.one (rv_cell Tn_27 rfl (fun w1 hw => hw.rgO (i := 1) rfl 0 2 [v1, v3] rfl) rfl)) (fun w1 hw => ?_)
  cases h
  refine postG_of_St (js := [2, 2, 0, 0]) hw rfl ⟨v1, D1, v3, D2, rfl, rfl, h1, h2⟩
theorem m_l_toArg_ok {Φ : Hp} {w : World} (hΦ : In Φ w) (N : Nat) (p0 : TArg)   {r : TArg} (h : m_l_toArg N p0 = some r) :
    Calls Tryz.prog 249 [.agg [.int .i64 p0.K, .string p0.S, .int .i64 p0.V.K, .int .i64 p0.V.N, .string p0.V.S].toArray].toArray w (Post (.agg [.int .i64 r.K, .string r.S, .int .i64 r.V.K, .int .i64 r.V.N, .string r.V.S].toArray) w) := by
  refine enter Tryz.func249 rfl Tryz.ntmps249 rfl (St.start0 hΦ) ?_
  unfold m_l_toArg at h
  refine WT.seq ?_
  refine WT.region ?_
  refine ln (n_box (C := #[.int .i64 p0.K, .string p0.S, .int .i64 p0.V.K, .int .i64 p0.V.N, .string p0.V.S]) rfl rfl) rfl (fun b_1 => ?_)
  refine ln (n_alloc (C := #[.int .i64 0, .string (⟨#[]⟩ : ByteArray), .int .i64 0, .int .i64 0, .string (⟨#[]⟩ : ByteArray)]) Zr_126 rfl) rfl (fun b_2 => ?_)
  refine WL.nil ?_
  refine WT.seq ?_
  refine WT.region ?_
  refine ln (n_alloc (C := #[.int .i64 0, .string (⟨#[]⟩ : ByteArray), .int .i64 0, .int .i64 0, .string (⟨#[]⟩ : ByteArray)]) Zr_126 rfl) rfl (fun b_3 => ?_)
  refine WL.nil ?_
  refine WT.seq ?_
  refine WT.region ?_
  refine lq (q_fieldAddr Fld_267_0 rfl) rfl ?_
  refine lq (q_load1 T1_3 rfl (fun w1 hw => hw.rgO (i := 2) rfl 0 1 [.int .i64 p0.K] rfl)) rfl ?_
  refine lq (q_fieldAddr Fld_126_0 rfl) rfl ?_
  refine ls (s_store (i := 0) (vs := [.int .i64 p0.K]) (C' := [.int .i64 p0.K, .string (⟨#[]⟩ : ByteArray), .int .i64 0, .int .i64 0, .string (⟨#[]⟩ : ByteArray)]) (O' := [(b_3, .cells #[.int .i64 p0.K, .string (⟨#[]⟩ : ByteArray), .int .i64 0, .int .i64 0, .string (⟨#[]⟩ : ByteArray)] 126 (0, 0)), (b_2, .cells #[.int .i64 0, .string (⟨#[]⟩ : ByteArray), .int .i64 0, .int .i64 0, .string (⟨#[]⟩ : ByteArray)] 126 (0, 0)), (b_1, .cells #[.int .i64 p0.K, .string p0.S, .int .i64 p0.V.K, .int .i64 p0.V.N, .string p0.V.S] 267 (0, 0))]) Sz_3 rfl rfl rfl rfl rfl rfl ⟨rfl, trivial⟩ rfl rfl) rfl ?_
  refine WL.nil ?_
  refine WT.seq ?_
  refine WT.region ?_
  refine lq (q_fieldAddr Fld_267_1 rfl) rfl ?_
  refine lq (q_load1 T1_9 rfl (fun w1 hw => hw.rgO (i := 2) rfl 1 1 [.string p0.S] rfl)) rfl ?_
  refine lq (q_fieldAddr Fld_126_1 rfl) rfl ?_
  refine ls (s_store (i := 0) (vs := [.string p0.S]) (C' := [.int .i64 p0.K, .string p0.S, .int .i64 0, .int .i64 0, .string (⟨#[]⟩ : ByteArray)]) (O' := [(b_3, .cells #[.int .i64 p0.K, .string p0.S, .int .i64 0, .int .i64 0, .string (⟨#[]⟩ : ByteArray)] 126 (0, 0)), (b_2, .cells #[.int .i64 0, .string (⟨#[]⟩ : ByteArray), .int .i64 0, .int .i64 0, .string (⟨#[]⟩ : ByteArray)] 126 (0, 0)), (b_1, .cells #[.int .i64 p0.K, .string p0.S, .int .i64 p0.V.K, .int .i64 p0.V.N, .string p0.V.S] 267 (0, 0))]) Sz_9 rfl rfl rfl rfl rfl rfl ⟨rfl, trivial⟩ rfl rfl) rfl ?_
  refine WL.nil ?_
  refine WT.seq ?_
  refine WT.region ?_
  refine lq (q_fieldAddr Fld_267_2 rfl) rfl ?_
  refine lq (q_loadN Tn_260 rfl (fun w1 hw => hw.rgO (i := 2) rfl 2 3 [.int .i64 p0.V.K, .int .i64 p0.V.N, .string p0.V.S] rfl) rfl) rfl ?_
  obtain ⟨x1, hx1, h⟩ := bind_some h
  refine lp (p_call Fun_230 rfl (fun w1 hw => m_l_toVal_ok hw.fro N p0.V hx1)) rfl ?_
  refine lq (q_fieldAddr Fld_126_2 rfl) rfl ?_
  refine ls (s_store (i := 0) (vs := [.int .i64 x1.K, .int .i64 x1.N, .string x1.S]) (C' := [.int .i64 p0.K, .string p0.S, .int .i64 x1.K, .int .i64 x1.N, .string x1.S]) (O' := [(b_3, .cells #[.int .i64 p0.K, .string p0.S, .int .i64 x1.K, .int .i64 x1.N, .string x1.S] 126 (0, 0)), (b_2, .cells #[.int .i64 0, .string (⟨#[]⟩ : ByteArray), .int .i64 0, .int .i64 0, .string (⟨#[]⟩ : ByteArray)] 126 (0, 0)), (b_1, .cells #[.int .i64 p0.K, .string p0.S, .int .i64 p0.V.K, .int .i64 p0.V.N, .string p0.V.S] 267 (0, 0))]) Sz_121 rfl rfl rfl rfl rfl rfl ⟨rfl, rfl, rfl, trivial⟩ rfl rfl) rfl ?_
  refine WL.nil ?_
  refine WT.seq ?_
  refine WT.region ?_
  refine lq (q_loadN Tn_126 rfl (fun w1 hw => hw.rgO (i := 0) rfl 0 5 [.int .i64 p0.K, .string p0.S, .int .i64 x1.K, .int .i64 x1.N, .string x1.S] rfl) rfl) rfl ?_
  refine ls (s_store (i := 1) (vs := [.int .i64 p0.K, .string p0.S, .int .i64 x1.K, .int .i64 x1.N, .string x1.S]) (C' := [.int .i64 p0.K, .string p0.S, .int .i64 x1.K, .int .i64 x1.N, .string x1.S]) (O' := [(b_3, .cells #[.int .i64 p0.K, .string p0.S, .int .i64 x1.K, .int .i64 x1.N, .string x1.S] 126 (0, 0)), (b_2, .cells #[.int .i64 p0.K, .string p0.S, .int .i64 x1.K, .int .i64 x1.N, .string x1.S] 126 (0, 0)), (b_1, .cells #[.int .i64 p0.K, .string p0.S, .int .i64 p0.V.K, .int .i64 p0.V.N, .string p0.V.S] 267 (0, 0))]) Sz_126 rfl rfl rfl rfl rfl rfl ⟨rfl, rfl, rfl, rfl, rfl, trivial⟩ rfl rfl) rfl ?_
  refine WL.nil ?_
  refine WT.ret Tryz.func249 (resOk.one (rv_cell Tn_126 rfl (fun w1 hw => hw.rgO (i := 1) rfl 0 5 [.int .i64 p0.K, .string p0.S, .int .i64 x1.K, .int .i64 x1.N, .string x1.S] rfl) rfl)) (fun w1 hw => ?_)
  cases h
  exact post_of_St hw
theorem m_l_toArgS_ok {Φ : Hp} {w : World} (hΦ : In Φ w) (N : Nat) (p0 : (List TArg)) {pv0 : Value} {pG0 : List Nat} (ph0 : RSl RTArg 5 Φ pG0 pv0 p0) {r : (List TArg)} (h : m_l_toArgS N p0 = some r) :
    Calls Tryz.prog 248 [pv0].toArray w (PostG Φ w [] (fun Φ' Fs v => ∃ (sr_0_0 : Value), v = sr_0_0 ∧ Fs = [ob sr_0_0] ∧ OSl RTArg 126 5 Φ' [] sr_0_0 r)) := by
  refine enter Tryz.func248 rfl Tryz.ntmps248 rfl (St.start0 hΦ) ?_
  have pa0 : Old ⟨w, [], Φ⟩ pG0 := Old.mk hΦ ph0.kn (Dj.empty _)
  revert pa0
  generalize hb0 : (⟨w, [], Φ⟩ : Base) = w0
  intro pa0
  unfold m_l_toArgS at h
  refine WT.seq ?_
  refine WT.region ?_
  refine lq (q_assign rfl) rfl ?_
  refine WL.nil ?_
  refine WT.seq ?_
  refine WT.region ?_
  refine lq (q_move rfl) rfl ?_
  refine lq (q_lenR Sl_262 rfl rfl ph0) rfl ?_
  obtain ⟨x1, hx1, h⟩ := bind_some h
  refine le' (e_make (R := RTArg) Sl_112 Zr_126 By_126 rfl rfl rfl (fun _ => ⟨rfl, rfl⟩) rfl rfl (Int.le_refl _) hx1 (mk_le hx1)) rfl (fun v1 Φ_1 D1 q1 => ?_)
  obtain ⟨fr1, h1⟩ := q1
  replace ph0 := ph0.frame RTArg.lasts fr1 (Dj.empty _)
  refine lq (q_assign rfl) rfl ?_
  refine WL.nil ?_
  refine WT.seq ?_
  refine WT.seq ?_
  refine WT.region ?_
  refine lq (q_assign rfl) rfl ?_
  refine WL.nil ?_
  refine WT.block ?_
  refine WT.loop ?_
  refine WT.mono (l' := [(0, pv0), (3, v1), (4, .int .i64 0)]) (S' := St w0 Φ_1 [] [ob v1]) ⟨rfl, rfl, rfl, trivial⟩ (fun w1 hw => (hw.sel (js := [0]) rfl).selO (js := []) rfl) ?_
  refine loop_ind (σ := Hp × (List TArg) × Int) (fun s => [(0, pv0), (3, v1), (4, .int .i64 s.2.2)]) (fun s => St w0 s.1 [] [ob v1]) (fun m s => m_l_toArgS_l1 N p0 m s.2.1 s.2.2 = some r ∧ (OSl RTArg 126 5 s.1 [] v1 s.2.1) ∧ (RSl RTArg 5 s.1 pG0 pv0 p0)) (fun s hm => none_ne (show (none : Option ((List TArg))) = some r from hm.1)) (fun n1 ih1 s hm => ?_) N (Φ_1, x1, 0) ⟨h, h1, ph0⟩
  obtain ⟨Φ_2, s1, s2⟩ := s
  obtain ⟨h, k1, ph0⟩ := hm
  replace h : m_l_toArgS_l1 N p0 (n1 + 1) s1 s2 = some r := h
  replace k1 : OSl RTArg 126 5 Φ_2 [] v1 s1 := k1
  replace ph0 : RSl RTArg 5 Φ_2 pG0 pv0 p0 := ph0
  show WT _ _ [(0, pv0), (3, v1), (4, .int .i64 s2)] (St w0 Φ_2 [] [ob v1])
  unfold m_l_toArgS_l1 at h
  refine WT.seq ?_
  refine WT.seq ?_
  refine WT.region ?_
  refine lq (q_move rfl) rfl ?_
  refine lq (q_move rfl) rfl ?_
  refine lq (q_lenR Sl_262 rfl rfl ph0) rfl ?_
  refine lq (q_lss rfl rfl) rfl ?_
  refine WL.nil ?_
  refine WT.cond rfl (fun c1 => ?_) (fun c1 => ?_)
  · replace h := ite_t h c1
    refine WT.skip ?_
    refine WT.seq ?_
    refine WT.block ?_
    refine WT.region ?_
    refine lq (q_move rfl) rfl ?_
    refine lq (q_move rfl) rfl ?_
    refine lq (q_move rfl) rfl ?_
    refine lq (q_move rfl) rfl ?_
    obtain ⟨x2, hx2, h⟩ := bind_some h
    obtain ⟨cs1, F1, -, g1, hb1, hs1, r1⟩ := ph0.el (idx_some hx2).2.2
    obtain ⟨rfl, -⟩ := r1
    refine lq (q_indexAddr Sl_262 rfl rfl ph0 hx2) rfl ?_
    refine lq (q_loadN Tn_267 rfl (fun w1 hw => (g1.of_eq 0 5 rfl rfl : rg _ _ _ [.int .i64 x2.K, .string x2.S, .int .i64 x2.V.K, .int .i64 x2.V.N, .string x2.V.S]).rangeAt hw.fro) rfl) rfl ?_
    obtain ⟨x3, hx3, h⟩ := bind_some h
    refine lp (p_call Fun_249 rfl (fun w1 hw => m_l_toArg_ok hw.fro N x2 hx3)) rfl ?_
    obtain ⟨x4, hx4, h⟩ := bind_some h
    obtain ⟨cs2, F2, -, g2, hb2, hs2, r2⟩ := k1.elS (idx_some hx4).2.2
    obtain ⟨rfl, -⟩ := r2
    refine lq (q_indexAddr Sl_112 rfl rfl k1.rsl hx4) rfl ?_
    refine lu (u_setF (js := [0]) (Rr := []) (vs := [.int .i64 x3.K, .string x3.S, .int .i64 x3.V.K, .int .i64 x3.V.N, .string x3.V.S]) (x' := x3) RTArg.lasts RTArg.flat Sz_126 rfl rfl rfl rfl ⟨rfl, rfl, rfl, rfl, rfl, trivial⟩ rfl k1 (idx_lt hx4) ⟨rfl, rfl⟩) rfl (fun Φ_3 D2 q2 => ?_)
    obtain ⟨⟨ap1, fr2⟩, h2⟩ := q2
    replace ph0 := ph0.frame RTArg.lasts fr2 (ap1.o pa0)
    refine WL.nil ?_
    refine WT.inBlock ?_
    refine WT.region ?_
    refine lq (q_move rfl) rfl ?_
    refine lq (q_add rfl rfl) rfl ?_
    refine lq (q_assign rfl) rfl ?_
    refine WL.nil ?_
    refine WT.inLoop (WT.mono (l' := [(0, pv0), (3, v1), (4, .int .i64 (IntKind.i64.wrap (s2 + 1)))]) (S' := St w0 Φ_3 [] [ob v1]) ⟨rfl, rfl, rfl, trivial⟩ (fun w1 hw => (hw.sel (js := [0]) rfl).selO (js := []) rfl) ?_)
    exact ih1 (Φ_3, (s1.set s2.toNat x3), IntKind.i64.wrap (s2 + 1)) ⟨h, h2, ph0⟩
  replace h := ite_f h c1
  refine WT.exit rfl ?_
  refine WT.seq ?_
  refine WT.region ?_
  refine lq (q_move rfl) rfl ?_
  refine lq (q_assign rfl) rfl ?_
  refine WL.nil ?_
  refine WT.ret Tryz.func248 (resOk.one rfl) (fun w1 hw => ?_)
  subst hb0
  cases h
  refine postG_of_St (js := [0]) hw rfl ⟨v1, rfl, rfl, k1⟩
theorem m_l_toPat_ok {Φ : Hp} {w : World} (hΦ : In Φ w) (N : Nat) (p0 : TPat) {pv0_0 : Value} {pG0_0 : List Nat} (ph0_0 : RSl RTArg 5 Φ pG0_0 pv0_0 p0.Args) {r : TPat} (h : m_l_toPat N p0 = some r) :
    Calls Tryz.prog 231 [.agg [.string p0.Kind, pv0_0, .bool p0.Not].toArray].toArray w (PostG Φ w [] (fun Φ' Fs v => ∃ (sr_0_0 : Value), v = .agg [.string r.Kind, sr_0_0, .bool r.Not].toArray ∧ Fs = [ob sr_0_0] ∧ OSl RTArg 126 5 Φ' [] sr_0_0 r.Args)) := by
  refine enter Tryz.func231 rfl Tryz.ntmps231 rfl (St.start0 hΦ) ?_
  have pa0_0 : Old ⟨w, [], Φ⟩ pG0_0 := Old.mk hΦ ph0_0.kn (Dj.empty _)
  unfold m_l_toPat at h
  refine WT.seq ?_
  refine WT.region ?_
  refine ln (n_box (C := #[.string p0.Kind, pv0_0, .bool p0.Not]) rfl rfl) rfl (fun b_1 => ?_)
  refine ln (n_alloc (C := #[.string (⟨#[]⟩ : ByteArray), .slice none 0 0, .bool false]) Zr_114 rfl) rfl (fun b_2 => ?_)
  refine WL.nil ?_
  refine WT.seq ?_
  refine WT.region ?_
  refine ln (n_alloc (C := #[.string (⟨#[]⟩ : ByteArray), .slice none 0 0, .bool false]) Zr_114 rfl) rfl (fun b_3 => ?_)
  refine WL.nil ?_
  refine WT.seq ?_
  refine WT.region ?_
  refine lq (q_fieldAddr Fld_264_0 rfl) rfl ?_
  refine lq (q_load1 T1_9 rfl (fun w1 hw => hw.rgO (i := 2) rfl 0 1 [.string p0.Kind] rfl)) rfl ?_
  refine lq (q_fieldAddr Fld_114_0 rfl) rfl ?_
  refine ls (s_store (i := 0) (vs := [.string p0.Kind]) (C' := [.string p0.Kind, .slice none 0 0, .bool false]) (O' := [(b_3, .cells #[.string p0.Kind, .slice none 0 0, .bool false] 114 (0, 0)), (b_2, .cells #[.string (⟨#[]⟩ : ByteArray), .slice none 0 0, .bool false] 114 (0, 0)), (b_1, .cells #[.string p0.Kind, pv0_0, .bool p0.Not] 264 (0, 0))]) Sz_9 rfl rfl rfl rfl rfl rfl ⟨rfl, trivial⟩ rfl rfl) rfl ?_
  refine WL.nil ?_
  refine WT.seq ?_
  refine WT.region ?_
  refine lq (q_fieldAddr Fld_264_1 rfl) rfl ?_
  refine lq (q_load1 T1_262 rfl (fun w1 hw => hw.rgO (i := 2) rfl 1 1 [pv0_0] rfl)) rfl ?_
  obtain ⟨x1, hx1, h⟩ := bind_some h
  refine lc (k_call (js := []) (R := []) Fun_248 rfl rfl (fun w1 hw ap hl => m_l_toArgS_ok hw.fro N p0.Args ph0_0  hx1)) rfl (fun v1 Φ_1 F1 q1 => ?_)
  obtain ⟨ap1, fr1, v2, rfl, rfl, h1⟩ := q1
  replace ph0_0 := ph0_0.frame RTArg.lasts fr1 (ap1.o pa0_0)
  refine lq (q_fieldAddr Fld_114_1 rfl) rfl ?_
  refine ls (s_store (i := 0) (vs := [v1]) (C' := [.string p0.Kind, v1, .bool false]) (O' := [(b_3, .cells #[.string p0.Kind, v1, .bool false] 114 (0, 0)), (b_2, .cells #[.string (⟨#[]⟩ : ByteArray), .slice none 0 0, .bool false] 114 (0, 0)), (b_1, .cells #[.string p0.Kind, pv0_0, .bool p0.Not] 264 (0, 0))]) Sz_112 rfl rfl rfl (one_cells h1.one) rfl rfl ⟨h1.one, trivial⟩ rfl rfl) rfl ?_
  refine WL.nil ?_
  refine WT.seq ?_
  refine WT.region ?_
  refine lq (q_fieldAddr Fld_264_2 rfl) rfl ?_
  refine lq (q_load1 T1_4 rfl (fun w1 hw => hw.rgO (i := 2) rfl 2 1 [.bool p0.Not] rfl)) rfl ?_
  refine lq (q_fieldAddr Fld_114_2 rfl) rfl ?_
  refine ls (s_store (i := 0) (vs := [.bool p0.Not]) (C' := [.string p0.Kind, v1, .bool p0.Not]) (O' := [(b_3, .cells #[.string p0.Kind, v1, .bool p0.Not] 114 (0, 0)), (b_2, .cells #[.string (⟨#[]⟩ : ByteArray), .slice none 0 0, .bool false] 114 (0, 0)), (b_1, .cells #[.string p0.Kind, pv0_0, .bool p0.Not] 264 (0, 0))]) Sz_4 rfl rfl rfl rfl rfl rfl ⟨rfl, trivial⟩ rfl rfl) rfl ?_
  refine WL.nil ?_
  refine WT.seq ?_
  refine WT.region ?_
  refine lq (q_loadN Tn_114 rfl (fun w1 hw => hw.rgO (i := 0) rfl 0 3 [.string p0.Kind, v1, .bool p0.Not] rfl) rfl) rfl ?_
  refine ls (s_store (i := 1) (vs := [.string p0.Kind, v1, .bool p0.Not]) (C' := [.string p0.Kind, v1, .bool p0.Not]) (O' := [(b_3, .cells #[.string p0.Kind, v1, .bool p0.Not] 114 (0, 0)), (b_2, .cells #[.string p0.Kind, v1, .bool p0.Not] 114 (0, 0)), (b_1, .cells #[.string p0.Kind, pv0_0, .bool p0.Not] 264 (0, 0))]) Sz_114 rfl rfl rfl rfl rfl rfl ⟨rfl, h1.one, rfl, trivial⟩ rfl rfl) rfl ?_
  refine WL.nil ?_
  refine WT.ret Tryz.func231 (resOk.one (rv_cell Tn_114 rfl (fun w1 hw => hw.rgO (i := 1) rfl 0 3 [.string p0.Kind, v1, .bool p0.Not] rfl) rfl)) (fun w1 hw => ?_)
  cases h
  refine postG_of_St (js := [0]) hw rfl ⟨v1, rfl, rfl, h1⟩
theorem m_l_toPatS_ok {Φ : Hp} {w : World} (hΦ : In Φ w) (N : Nat) (p0 : (List TPat)) {pv0 : Value} {pG0 : List Nat} (ph0 : RSl RTPat 3 Φ pG0 pv0 p0) {r : (List TPat)} (h : m_l_toPatS N p0 = some r) :
    Calls Tryz.prog 208 [pv0].toArray w (PostG Φ w [] (fun Φ' Fs v => ∃ (sr_0_0 : Value) (Dr_0_0 : List Nat), v = sr_0_0 ∧ Fs = [ob sr_0_0, Dr_0_0] ∧ OSl OTPat 114 3 Φ' Dr_0_0 sr_0_0 r)) := by
  refine enter Tryz.func208 rfl Tryz.ntmps208 rfl (St.start0 hΦ) ?_
  have pa0 : Old ⟨w, [], Φ⟩ pG0 := Old.mk hΦ ph0.kn (Dj.empty _)
  revert pa0
  generalize hb0 : (⟨w, [], Φ⟩ : Base) = w0
  intro pa0
  unfold m_l_toPatS at h
  refine WT.seq ?_
  refine WT.region ?_
  refine lq (q_assign rfl) rfl ?_
  refine WL.nil ?_
  refine WT.seq ?_
  refine WT.region ?_
  refine lq (q_move rfl) rfl ?_
  refine lq (q_lenR Sl_210 rfl rfl ph0) rfl ?_
  obtain ⟨x1, hx1, h⟩ := bind_some h
  refine le' (e_make (R := OTPat) Sl_45 Zr_114 By_114 rfl rfl rfl (fun _ => ⟨.slice none 0 0, rfl, rfl, OSl.nil _ _ _ _⟩) rfl rfl (Int.le_refl _) hx1 (mk_le hx1)) rfl (fun v1 Φ_1 D1 q1 => ?_)
  obtain ⟨fr1, h1⟩ := q1
  replace ph0 := ph0.frame RTPat.lasts fr1 (Dj.empty _)
  refine WL.conv (S' := St w0 Φ_1 [] ([] :: [ob v1])) (fun w1 hw => hw.addNil) ?_
  refine lq (q_assign rfl) rfl ?_
  refine WL.nil ?_
  refine WT.seq ?_
  refine WT.seq ?_
  refine WT.region ?_
  refine lq (q_assign rfl) rfl ?_
  refine WL.nil ?_
  refine WT.block ?_
  refine WT.loop ?_
  refine WT.mono (l' := [(0, pv0), (3, v1), (4, .int .i64 0)]) (S' := St w0 Φ_1 [] [[], ob v1]) ⟨rfl, rfl, rfl, trivial⟩ (fun w1 hw => (hw.sel (js := [0, 0]) rfl).selO (js := []) rfl) ?_
  refine loop_ind (σ := Hp × (List TPat) × List Nat × Int) (fun s => [(0, pv0), (3, v1), (4, .int .i64 s.2.2.2)]) (fun s => St w0 s.1 [] [s.2.2.1, ob v1]) (fun m s => m_l_toPatS_l1 N p0 m s.2.1 s.2.2.2 = some r ∧ (OSl OTPat 114 3 s.1 s.2.2.1 v1 s.2.1) ∧ (RSl RTPat 3 s.1 pG0 pv0 p0)) (fun s hm => none_ne (show (none : Option ((List TPat))) = some r from hm.1)) (fun n1 ih1 s hm => ?_) N (Φ_1, x1, [], 0) ⟨h, h1, ph0⟩
  obtain ⟨Φ_2, s1, D2, s2⟩ := s
  obtain ⟨h, k1, ph0⟩ := hm
  replace h : m_l_toPatS_l1 N p0 (n1 + 1) s1 s2 = some r := h
  replace k1 : OSl OTPat 114 3 Φ_2 D2 v1 s1 := k1
  replace ph0 : RSl RTPat 3 Φ_2 pG0 pv0 p0 := ph0
  show WT _ _ [(0, pv0), (3, v1), (4, .int .i64 s2)] (St w0 Φ_2 [] [D2, ob v1])
  unfold m_l_toPatS_l1 at h
  refine WT.seq ?_
  refine WT.seq ?_
  refine WT.region ?_
  refine lq (q_move rfl) rfl ?_
  refine lq (q_move rfl) rfl ?_
  refine lq (q_lenR Sl_210 rfl rfl ph0) rfl ?_
  refine lq (q_lss rfl rfl) rfl ?_
  refine WL.nil ?_
  refine WT.cond rfl (fun c1 => ?_) (fun c1 => ?_)
  · replace h := ite_t h c1
    refine WT.skip ?_
    refine WT.seq ?_
    refine WT.block ?_
    refine WT.region ?_
    refine lq (q_move rfl) rfl ?_
    refine lq (q_move rfl) rfl ?_
    refine lq (q_move rfl) rfl ?_
    refine lq (q_move rfl) rfl ?_
    obtain ⟨x2, hx2, h⟩ := bind_some h
    obtain ⟨cs1, F1, -, g1, hb1, hs1, r1⟩ := ph0.el (idx_some hx2).2.2
    obtain ⟨v2, G1, rfl, hq1, h2⟩ := r1
    obtain rfl := hq1.symm
    refine lq (q_indexAddr Sl_210 rfl rfl ph0 hx2) rfl ?_
    refine lq (q_loadN Tn_264 rfl (fun w1 hw => (g1.of_eq 0 3 rfl rfl : rg _ _ _ [.string x2.Kind, v2, .bool x2.Not]).rangeAt hw.fro) rfl) rfl ?_
    obtain ⟨x3, hx3, h⟩ := bind_some h
    refine lc (k_call (js := []) (R := [D2, ob v1]) Fun_231 rfl rfl (fun w1 hw ap hl => m_l_toPat_ok hw.fro N x2 h2  hx3)) rfl (fun v3 Φ_3 F2 q2 => ?_)
    obtain ⟨ap1, fr2, v4, rfl, rfl, h3⟩ := q2
    replace ph0 := ph0.frame RTPat.lasts fr2 (ap1.o pa0)
    replace k1 := k1.frame OTPat.lasts fr2 (ap1.r (i := 1) rfl) (ap1.r (i := 0) rfl)
    obtain ⟨x4, hx4, h⟩ := bind_some h
    obtain ⟨cs2, F3, -, g2, hb2, hs2, r2⟩ := k1.elS (idx_some hx4).2.2
    obtain ⟨v5, rfl, rfl, h4⟩ := r2
    have h5 := h4.rsl
    refine lq (q_indexAddr Sl_45 rfl rfl k1.rsl hx4) rfl ?_
    have r3 : OTPat Φ_3 ((ob v4 ++ [])) [.string x3.Kind, v4, .bool x3.Not] x3 := ⟨v4, rfl, rfl, h3⟩
    refine lu (u_setO (js := [2]) (Rr := [ob v4, D2]) (vs := [.string x3.Kind, v4, .bool x3.Not]) (x' := x3) OTPat.lasts Sz_114 rfl rfl rfl rfl ⟨rfl, h3.one, rfl, trivial⟩ rfl k1 (idx_lt hx4) r3 (OTPat.knows _ _ _ _ r3) (fun ap => (ap.r (i := 1) rfl)) (fun ap => by simpa [ob_nil] using (ap.r (i := 0) rfl))) rfl (fun Φ_4 D3 q3 => ?_)
    obtain ⟨⟨ap2, fr3⟩, sp1, h6⟩ := q3
    replace ph0 := ph0.frame RTPat.lasts fr3 (ap2.o pa0)
    refine WL.conv (S' := St w0 Φ_4 [] [D3, ob v1]) (fun w1 hw => hw.merge (js := [2, 1]) rfl (by simpa [List.append_assoc, ob_nil] using sp1)) ?_
    refine WL.nil ?_
    refine WT.inBlock ?_
    refine WT.region ?_
    refine lq (q_move rfl) rfl ?_
    refine lq (q_add rfl rfl) rfl ?_
    refine lq (q_assign rfl) rfl ?_
    refine WL.nil ?_
    refine WT.inLoop (WT.mono (l' := [(0, pv0), (3, v1), (4, .int .i64 (IntKind.i64.wrap (s2 + 1)))]) (S' := St w0 Φ_4 [] [D3, ob v1]) ⟨rfl, rfl, rfl, trivial⟩ (fun w1 hw => (hw.sel (js := [0, 0]) rfl).selO (js := []) rfl) ?_)
    exact ih1 (Φ_4, (s1.set s2.toNat x3), D3, IntKind.i64.wrap (s2 + 1)) ⟨h, h6, ph0⟩
  replace h := ite_f h c1
  refine WT.exit rfl ?_
  refine WT.seq ?_
  refine WT.region ?_
  refine lq (q_move rfl) rfl ?_
  refine lq (q_assign rfl) rfl ?_
  refine WL.nil ?_
  refine WT.ret Tryz.func208 (resOk.one rfl) (fun w1 hw => ?_)
  subst hb0
  cases h
  refine postG_of_St (js := [1, 0]) hw rfl ⟨v1, D2, rfl, rfl, k1⟩
end Go.Proofs.YtjangilipfjcmaaGreat
