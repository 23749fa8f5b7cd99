/- Printed by a program of ours: each Go function computes its Lean function. -/
import Derived.Test.YtjangilipfjcmaaProg
import Derived.Test.YtjangilipfjcmaaWExactDefOkWalk2
namespace Go.Proofs.Ytjangilipfjcmaa
open Eng
open Go.RowKit (Below)
set_option linter.unusedVariables false
set_option linter.unusedSimpArgs false

set_option maxRecDepth 100000
set_option maxHeartbeats 1000000
theorem m_i_RuleOk_ok {Φ : Hp} {w : World} (hΦ : In Φ w) (N : Nat) (p0 : TRule) {pv0_0 : Value} {pG0_0 : List Nat} {pv0_1 : Value} {pG0_1 : List Nat} {pv0_2 : Value} {pG0_2 : List Nat} (ph0_0 : RSl RTPat 3 Φ pG0_0 pv0_0 p0.Pats) (ph0_1 : RSl RTCond 11 Φ pG0_1 pv0_1 p0.Conds) (ph0_2 : RSl RTAct 5 Φ pG0_2 pv0_2 p0.Acts) {r : Bool} (h : m_i_RuleOk N p0 = some r) :
    Calls Try.prog 45 [.agg [.string p0.Name, .int .i64 p0.Sal, pv0_0, pv0_1, pv0_2].toArray].toArray w (Post (.bool r) w) := by
  refine enter Try.func45 rfl Try.ntmps45 rfl (St.start0 hΦ) ?_
  have pa0_0 : Old ⟨w, [], Φ⟩ pG0_0 := Old.mk hΦ ph0_0.kn (Dj.empty _)
  have pa0_1 : Old ⟨w, [], Φ⟩ pG0_1 := Old.mk hΦ ph0_1.kn (Dj.empty _)
  have pa0_2 : Old ⟨w, [], Φ⟩ pG0_2 := Old.mk hΦ ph0_2.kn (Dj.empty _)
  revert pa0_0 pa0_1 pa0_2
  generalize hb0 : (⟨w, [], Φ⟩ : Base) = w0
  intro pa0_0 pa0_1 pa0_2
  unfold m_i_RuleOk at h
  refine WT.seq ?_
  refine WT.region ?_
  refine ln (n_box (C := #[.string p0.Name, .int .i64 p0.Sal, pv0_0, pv0_1, pv0_2]) rfl rfl) rfl (fun b_1 => ?_)
  refine lq (q_assign rfl) rfl ?_
  refine WL.nil ?_
  refine WT.seq ?_
  refine WT.seq ?_
  refine WT.region ?_
  refine lq (q_fieldAddr Fld_51_0 rfl) rfl ?_
  refine lq (q_load1 T1_9 rfl (fun w1 hw => hw.rgO (i := 0) rfl 0 1 [.string p0.Name] rfl)) rfl ?_
  obtain ⟨x1, hx1, h⟩ := bind_some h
  refine lp (p_call Fun_43 rfl (fun w1 hw => m_i_NameOk_ok hw.fro N p0.Name hx1)) rfl ?_
  refine lq (q_not rfl) rfl ?_
  refine lq (q_move rfl) rfl ?_
  obtain ⟨b1, hb_1, h⟩ := bind_some h
  refine WL.cutN 5 [(19, .bool b1), (1, .pointer (some ⟨b_1, 0, none⟩))] ?_ (fun K => ?_)
  rotate_left
  · refine WL.split (d := 14) rfl (fun c1 => ?_) (fun c1 => ?_)
    · replace hb_1 := ite_t hb_1 c1
      refine WL.no rfl rfl rfl rfl ?_
      refine WL.no rfl rfl rfl rfl ?_
      refine WL.no rfl rfl rfl rfl ?_
      refine WL.no rfl rfl rfl rfl ?_
      refine WL.q (q_pick1 rfl rfl) rfl rfl rfl ?_
      cases hb_1
      exact WL.keep (by exact ⟨rfl, rfl, trivial⟩) K
    · replace hb_1 := ite_f hb_1 c1
      refine WL.yes rfl rfl ?_
      refine lq (q_fieldAddr Fld_51_1 rfl) rfl ?_
      refine WL.yes rfl rfl ?_
      refine lq (q_load1 T1_3 rfl (fun w1 hw => hw.rgO (i := 0) rfl 1 1 [.int .i64 p0.Sal] rfl)) rfl ?_
      refine WL.yes rfl rfl ?_
      obtain ⟨x2, hx2, hb_1⟩ := bind_some hb_1
      refine lp (p_call Fun_44 rfl (fun w1 hw => m_i_inRange_ok hw.fro N p0.Sal (-100) 100 hx2)) rfl ?_
      refine WL.yes rfl rfl ?_
      refine lq (q_not rfl) rfl ?_
      refine WL.q (q_pick0 rfl rfl) rfl rfl rfl ?_
      cases hb_1
      exact WL.keep (by exact ⟨rfl, rfl, trivial⟩) K
  refine lq (q_move rfl) rfl ?_
  obtain ⟨b2, hb_2, h⟩ := bind_some h
  refine WL.cutN 4 [(24, .bool b2), (1, .pointer (some ⟨b_1, 0, none⟩))] ?_ (fun K => ?_)
  rotate_left
  · refine WL.split (d := 20) rfl (fun c2 => ?_) (fun c2 => ?_)
    · replace hb_2 := ite_t hb_2 c2
      refine WL.no rfl rfl rfl rfl ?_
      refine WL.no rfl rfl rfl rfl ?_
      refine WL.no rfl rfl rfl rfl ?_
      refine WL.q (q_pick1 rfl rfl) rfl rfl rfl ?_
      cases hb_2
      exact WL.keep (by exact ⟨rfl, rfl, trivial⟩) K
    · replace hb_2 := ite_f hb_2 c2
      refine WL.yes rfl rfl ?_
      refine lq (q_loadN Tn_51 rfl (fun w1 hw => hw.rgO (i := 0) rfl 0 5 [.string p0.Name, .int .i64 p0.Sal, pv0_0, pv0_1, pv0_2] rfl) rfl) rfl ?_
      refine WL.yes rfl rfl ?_
      obtain ⟨x3, hx3, hb_2⟩ := bind_some hb_2
      refine lp (p_call Fun_90 rfl (fun w1 hw => m_i_patsOk_ok hw.fro N p0 ph0_0 ph0_1 ph0_2 hx3)) rfl ?_
      refine WL.yes rfl rfl ?_
      refine lq (q_not rfl) rfl ?_
      refine WL.q (q_pick0 rfl rfl) rfl rfl rfl ?_
      cases hb_2
      exact WL.keep (by exact ⟨rfl, rfl, trivial⟩) K
  refine WL.nil ?_
  refine WT.cond rfl (fun c3 => ?_) (fun c3 => ?_)
  · replace h := ite_t h c3
    refine WT.seq ?_
    refine WT.region ?_
    refine lq (q_assign rfl) rfl ?_
    refine WL.nil ?_
    refine WT.ret Try.func45 (resOk.one rfl) (fun w1 hw => ?_)
    subst hb0
    cases h
    exact post_of_St hw
  replace h := ite_f h c3
  refine WT.skip ?_
  refine WT.seq ?_
  refine WT.seq ?_
  refine WT.region ?_
  refine lq (q_fieldAddr Fld_51_3 rfl) rfl ?_
  refine lq (q_load1 T1_48 rfl (fun w1 hw => hw.rgO (i := 0) rfl 3 1 [pv0_1] rfl)) rfl ?_
  refine lq (q_lenR Sl_48 rfl rfl ph0_1) rfl ?_
  refine lq (q_gtr rfl rfl) rfl ?_
  refine lq (q_move rfl) rfl ?_
  obtain ⟨b3, hb_3, h⟩ := bind_some h
  refine WL.cutN 6 [(35, .bool b3), (1, .pointer (some ⟨b_1, 0, none⟩))] ?_ (fun K => ?_)
  rotate_left
  · refine WL.split (d := 29) rfl (fun c4 => ?_) (fun c4 => ?_)
    · replace hb_3 := ite_t hb_3 c4
      refine WL.no rfl rfl rfl rfl ?_
      refine WL.no rfl rfl rfl rfl ?_
      refine WL.no rfl rfl rfl rfl ?_
      refine WL.no rfl rfl rfl rfl ?_
      refine WL.no rfl rfl rfl rfl ?_
      refine WL.q (q_pick1 rfl rfl) rfl rfl rfl ?_
      cases hb_3
      exact WL.keep (by exact ⟨rfl, rfl, trivial⟩) K
    · replace hb_3 := ite_f hb_3 c4
      refine WL.yes rfl rfl ?_
      refine lq (q_fieldAddr Fld_51_4 rfl) rfl ?_
      refine WL.yes rfl rfl ?_
      refine lq (q_load1 T1_49 rfl (fun w1 hw => hw.rgO (i := 0) rfl 4 1 [pv0_2] rfl)) rfl ?_
      refine WL.yes rfl rfl ?_
      refine lq (q_lenR Sl_49 rfl rfl ph0_2) rfl ?_
      refine WL.yes rfl rfl ?_
      obtain ⟨x4, hx4, hb_3⟩ := bind_some hb_3
      refine lp (p_call Fun_44 rfl (fun w1 hw => m_i_inRange_ok hw.fro N (p0.Acts.length : Int) 1 6 hx4)) rfl ?_
      refine WL.yes rfl rfl ?_
      refine lq (q_not rfl) rfl ?_
      refine WL.q (q_pick0 rfl rfl) rfl rfl rfl ?_
      cases hb_3
      exact WL.keep (by exact ⟨rfl, rfl, trivial⟩) K
  refine WL.nil ?_
  refine WT.cond rfl (fun c5 => ?_) (fun c5 => ?_)
  · replace h := ite_t h c5
    refine WT.seq ?_
    refine WT.region ?_
    refine lq (q_assign rfl) rfl ?_
    refine WL.nil ?_
    refine WT.ret Try.func45 (resOk.one rfl) (fun w1 hw => ?_)
    subst hb0
    cases h
    exact post_of_St hw
  replace h := ite_f h c5
  refine WT.skip ?_
  refine WT.seq ?_
  refine WT.seq ?_
  refine WT.region ?_
  refine lq (q_fieldAddr Fld_51_3 rfl) rfl ?_
  refine lq (q_load1 T1_48 rfl (fun w1 hw => hw.rgO (i := 0) rfl 3 1 [pv0_1] rfl)) rfl ?_
  refine lq (q_lenR Sl_48 rfl rfl ph0_1) rfl ?_
  refine lq (q_move rfl) rfl ?_
  refine WL.nil ?_
  refine WT.block ?_
  refine WT.loop ?_
  refine WT.mono (l' := [(1, .pointer (some ⟨b_1, 0, none⟩)), (37, pv0_1), (38, .int .i64 (p0.Conds.length : Int)), (39, .int .i64 0)]) (S' := St w0 Φ [(b_1, .cells #[.string p0.Name, .int .i64 p0.Sal, pv0_0, pv0_1, pv0_2] 51 (0, 0))] []) ⟨rfl, rfl, rfl, rfl, trivial⟩ (fun w1 hw => (hw.sel (js := []) rfl).selO (js := [0]) rfl) ?_
  refine loop_ind (σ := Int) (fun s => [(1, .pointer (some ⟨b_1, 0, none⟩)), (37, pv0_1), (38, .int .i64 (p0.Conds.length : Int)), (39, .int .i64 s)]) (fun s => St w0 Φ [(b_1, .cells #[.string p0.Name, .int .i64 p0.Sal, pv0_0, pv0_1, pv0_2] 51 (0, 0))] []) (fun m s => m_i_RuleOk_l1 N p0 m s = some r) (fun s hm => none_ne (show (none : Option (Bool)) = some r from hm)) (fun n1 ih1 s hm => ?_) N (0) h
  revert hm; revert s; intro s1 hm
  have h : m_i_RuleOk_l1 N p0 (n1 + 1) s1 = some r := hm
  show WT _ _ [(1, .pointer (some ⟨b_1, 0, none⟩)), (37, pv0_1), (38, .int .i64 (p0.Conds.length : Int)), (39, .int .i64 s1)] (St w0 Φ [(b_1, .cells #[.string p0.Name, .int .i64 p0.Sal, pv0_0, pv0_1, pv0_2] 51 (0, 0))] [])
  unfold m_i_RuleOk_l1 at h
  refine WT.seq ?_
  refine WT.region ?_
  refine lq (q_lss rfl rfl) rfl ?_
  refine WL.nil ?_
  refine WT.seq ?_
  refine WT.cond rfl (fun c6 => ?_) (fun c6 => ?_)
  · replace h := ite_t h c6
    refine WT.skip ?_
    refine WT.seq ?_
    refine WT.block ?_
    refine WT.seq ?_
    refine WT.region ?_
    obtain ⟨x5, hx5, h⟩ := bind_some h
    obtain ⟨cs1, F1, -, g1, hb1, hs1, r1⟩ := ph0_1.el (idx_some hx5).2.2
    obtain ⟨rfl, -⟩ := r1
    refine lq (q_indexAddr Sl_48 rfl rfl ph0_1 hx5) rfl ?_
    refine lq (q_loadN Tn_142 rfl (fun w1 hw => (g1.of_eq 0 11 rfl rfl : rg _ _ _ [.int .i64 x5.Op, .int .i64 x5.L.K, .string x5.L.S, .int .i64 x5.L.V.K, .int .i64 x5.L.V.N, .string x5.L.V.S, .int .i64 x5.R.K, .string x5.R.S, .int .i64 x5.R.V.K, .int .i64 x5.R.V.N, .string x5.R.V.S]).rangeAt hw.fro) rfl) rfl ?_
    refine ln (n_alloc (C := #[.int .i64 0, .int .i64 0, .string (⟨#[]⟩ : ByteArray), .int .i64 0, .int .i64 0, .string (⟨#[]⟩ : ByteArray), .int .i64 0, .string (⟨#[]⟩ : ByteArray), .int .i64 0, .int .i64 0, .string (⟨#[]⟩ : ByteArray)]) Zr_142 rfl) rfl (fun b_2 => ?_)
    refine ls (s_store (i := 0) (vs := [.int .i64 x5.Op, .int .i64 x5.L.K, .string x5.L.S, .int .i64 x5.L.V.K, .int .i64 x5.L.V.N, .string x5.L.V.S, .int .i64 x5.R.K, .string x5.R.S, .int .i64 x5.R.V.K, .int .i64 x5.R.V.N, .string x5.R.V.S]) (C' := [.int .i64 x5.Op, .int .i64 x5.L.K, .string x5.L.S, .int .i64 x5.L.V.K, .int .i64 x5.L.V.N, .string x5.L.V.S, .int .i64 x5.R.K, .string x5.R.S, .int .i64 x5.R.V.K, .int .i64 x5.R.V.N, .string x5.R.V.S]) (O' := [(b_2, .cells #[.int .i64 x5.Op, .int .i64 x5.L.K, .string x5.L.S, .int .i64 x5.L.V.K, .int .i64 x5.L.V.N, .string x5.L.V.S, .int .i64 x5.R.K, .string x5.R.S, .int .i64 x5.R.V.K, .int .i64 x5.R.V.N, .string x5.R.V.S] 142 (0, 0)), (b_1, .cells #[.string p0.Name, .int .i64 p0.Sal, pv0_0, pv0_1, pv0_2] 51 (0, 0))]) Sz_142 rfl rfl rfl rfl rfl rfl ⟨rfl, rfl, rfl, rfl, rfl, rfl, rfl, rfl, rfl, rfl, rfl, trivial⟩ rfl rfl) rfl ?_
    refine WL.nil ?_
    refine WT.seq ?_
    refine WT.region ?_
    refine lq (q_loadN Tn_142 rfl (fun w1 hw => hw.rgO (i := 0) rfl 0 11 [.int .i64 x5.Op, .int .i64 x5.L.K, .string x5.L.S, .int .i64 x5.L.V.K, .int .i64 x5.L.V.N, .string x5.L.V.S, .int .i64 x5.R.K, .string x5.R.S, .int .i64 x5.R.V.K, .int .i64 x5.R.V.N, .string x5.R.V.S] rfl) rfl) rfl ?_
    obtain ⟨x6, hx6, h⟩ := bind_some h
    refine lp (p_call Fun_91 rfl (fun w1 hw => m_i_CondOk_ok hw.fro N x5 hx6)) rfl ?_
    refine lq (q_not rfl) rfl ?_
    refine WL.nil ?_
    refine WT.cond rfl (fun c7 => ?_) (fun c7 => ?_)
    · replace h := ite_t h c7
      refine WT.seq ?_
      refine WT.region ?_
      refine lq (q_assign rfl) rfl ?_
      refine WL.nil ?_
      refine WT.ret Try.func45 (resOk.one rfl) (fun w1 hw => ?_)
      subst hb0
      cases h
      exact post_of_St hw
    replace h := ite_f h c7
    refine WT.skip ?_
    refine WT.inBlock ?_
    refine WT.region ?_
    refine lq (q_add rfl rfl) rfl ?_
    refine lq (q_move rfl) rfl ?_
    refine WL.nil ?_
    refine WT.inLoop (WT.mono (l' := [(1, .pointer (some ⟨b_1, 0, none⟩)), (37, pv0_1), (38, .int .i64 (p0.Conds.length : Int)), (39, .int .i64 (IntKind.i64.wrap (s1 + 1)))]) (S' := St w0 Φ [(b_1, .cells #[.string p0.Name, .int .i64 p0.Sal, pv0_0, pv0_1, pv0_2] 51 (0, 0))] []) ⟨rfl, rfl, rfl, rfl, trivial⟩ (fun w1 hw => (hw.sel (js := []) rfl).selO (js := [1]) rfl) ?_)
    exact ih1 (IntKind.i64.wrap (s1 + 1)) h
  replace h := ite_f h c6
  refine WT.exit rfl ?_
  refine WT.seq ?_
  refine WT.seq ?_
  refine WT.region ?_
  refine lq (q_fieldAddr Fld_51_4 rfl) rfl ?_
  refine lq (q_load1 T1_49 rfl (fun w1 hw => hw.rgO (i := 0) rfl 4 1 [pv0_2] rfl)) rfl ?_
  refine lq (q_lenR Sl_49 rfl rfl ph0_2) rfl ?_
  refine lq (q_move rfl) rfl ?_
  refine WL.nil ?_
  refine WT.block ?_
  refine WT.loop ?_
  refine WT.mono (l' := [(1, .pointer (some ⟨b_1, 0, none⟩)), (48, pv0_2), (49, .int .i64 (p0.Acts.length : Int)), (50, .int .i64 0)]) (S' := St w0 Φ [(b_1, .cells #[.string p0.Name, .int .i64 p0.Sal, pv0_0, pv0_1, pv0_2] 51 (0, 0))] []) ⟨rfl, rfl, rfl, rfl, trivial⟩ (fun w1 hw => (hw.sel (js := []) rfl).selO (js := [0]) rfl) ?_
  refine loop_ind (σ := Int) (fun s => [(1, .pointer (some ⟨b_1, 0, none⟩)), (48, pv0_2), (49, .int .i64 (p0.Acts.length : Int)), (50, .int .i64 s)]) (fun s => St w0 Φ [(b_1, .cells #[.string p0.Name, .int .i64 p0.Sal, pv0_0, pv0_1, pv0_2] 51 (0, 0))] []) (fun m s => m_i_RuleOk_l2 N p0 m s = some r) (fun s hm => none_ne (show (none : Option (Bool)) = some r from hm)) (fun n2 ih2 s hm => ?_) N (0) h
  revert hm; revert s; intro s2 hm
  have h : m_i_RuleOk_l2 N p0 (n2 + 1) s2 = some r := hm
  show WT _ _ [(1, .pointer (some ⟨b_1, 0, none⟩)), (48, pv0_2), (49, .int .i64 (p0.Acts.length : Int)), (50, .int .i64 s2)] (St w0 Φ [(b_1, .cells #[.string p0.Name, .int .i64 p0.Sal, pv0_0, pv0_1, pv0_2] 51 (0, 0))] [])
  unfold m_i_RuleOk_l2 at h
  refine WT.seq ?_
  refine WT.region ?_
  refine lq (q_lss rfl rfl) rfl ?_
  refine WL.nil ?_
  refine WT.seq ?_
  refine WT.cond rfl (fun c8 => ?_) (fun c8 => ?_)
  · replace h := ite_t h c8
    refine WT.skip ?_
    refine WT.seq ?_
    refine WT.block ?_
    refine WT.seq ?_
    refine WT.region ?_
    obtain ⟨x7, hx7, h⟩ := bind_some h
    obtain ⟨cs2, F2, -, g2, hb2, hs2, r2⟩ := ph0_2.el (idx_some hx7).2.2
    obtain ⟨v1, G1, rfl, hq1, h1⟩ := r2
    obtain rfl := hq1.symm
    refine lq (q_indexAddr Sl_49 rfl rfl ph0_2 hx7) rfl ?_
    refine lq (q_loadN Tn_146 rfl (fun w1 hw => (g2.of_eq 0 5 rfl rfl : rg _ _ _ [.int .i64 x7.Kind, .string x7.Name, v1, .int .i64 x7.N, .string x7.Undo]).rangeAt hw.fro) rfl) rfl ?_
    refine ln (n_alloc (C := #[.int .i64 0, .string (⟨#[]⟩ : ByteArray), .slice none 0 0, .int .i64 0, .string (⟨#[]⟩ : ByteArray)]) Zr_146 rfl) rfl (fun b_3 => ?_)
    refine ls (s_store (i := 0) (vs := [.int .i64 x7.Kind, .string x7.Name, v1, .int .i64 x7.N, .string x7.Undo]) (C' := [.int .i64 x7.Kind, .string x7.Name, v1, .int .i64 x7.N, .string x7.Undo]) (O' := [(b_3, .cells #[.int .i64 x7.Kind, .string x7.Name, v1, .int .i64 x7.N, .string x7.Undo] 146 (0, 0)), (b_1, .cells #[.string p0.Name, .int .i64 p0.Sal, pv0_0, pv0_1, pv0_2] 51 (0, 0))]) Sz_146 rfl rfl rfl rfl rfl rfl ⟨rfl, rfl, h1.one, rfl, rfl, trivial⟩ rfl rfl) rfl ?_
    refine WL.nil ?_
    refine WT.seq ?_
    refine WT.draw mixed (by kernel_rfl) (fun _ h => h.drew) ?_
    refine qq (q_loadN Tn_146 rfl (fun w1 hw => hw.rgO (i := 0) rfl 0 5 [.int .i64 x7.Kind, .string x7.Name, v1, .int .i64 x7.N, .string x7.Undo] rfl) rfl) rfl ?_
    obtain ⟨x8, hx8, h⟩ := bind_some h
    refine qp (p_call Fun_92 rfl (fun w1 hw => m_i_ActOk_ok hw.fro N x7 h1 hx8)) rfl ?_
    refine qq (q_not rfl) rfl ?_
    refine qq (q_move rfl) rfl ?_
    obtain ⟨b4, hb_4, h⟩ := bind_some h
    refine WQ.cutN 11 [(68, .bool b4), (1, .pointer (some ⟨b_1, 0, none⟩)), (48, pv0_2), (49, .int .i64 (p0.Acts.length : Int)), (50, .int .i64 s2)] ?_ (fun K => ?_)
    rotate_left
    · refine WQ.split (d := 57) rfl (fun c9 => ?_) (fun c9 => ?_)
      · replace hb_4 := ite_t hb_4 c9
        refine WQ.no rfl rfl rfl rfl ?_
        refine WQ.no rfl rfl rfl rfl ?_
        refine WQ.no rfl rfl rfl rfl ?_
        refine WQ.no rfl rfl rfl rfl ?_
        refine WQ.nox rfl rfl rfl rfl ?_
        refine WQ.nox rfl rfl rfl rfl ?_
        refine WQ.nox rfl rfl rfl rfl ?_
        refine WQ.nox rfl rfl rfl rfl ?_
        refine WQ.nox rfl rfl rfl rfl ?_
        refine WQ.no rfl rfl rfl rfl ?_
        refine WQ.q (q_pick1 rfl rfl) rfl rfl rfl ?_
        cases hb_4
        exact WQ.keep (by exact ⟨rfl, rfl, rfl, rfl, rfl, trivial⟩) K
      · replace hb_4 := ite_f hb_4 c9
        refine WQ.yes rfl rfl ?_
        refine qq (q_fieldAddr Fld_146_0 rfl) rfl ?_
        refine WQ.yes rfl rfl ?_
        refine qq (q_load1 T1_3 rfl (fun w1 hw => hw.rgO (i := 0) rfl 0 1 [.int .i64 x7.Kind] rfl)) rfl ?_
        refine WQ.yes rfl rfl ?_
        refine qq (q_eql rfl rfl) rfl ?_
        refine WQ.yes rfl rfl ?_
        refine qq (q_move rfl) rfl ?_
        obtain ⟨b5, hb_5, hb_4⟩ := bind_some hb_4
        refine WQ.cutN 6 [(67, .bool b5), (1, .pointer (some ⟨b_1, 0, none⟩)), (48, pv0_2), (49, .int .i64 (p0.Acts.length : Int)), (50, .int .i64 s2), (57, .bool false)] ?_ (fun K => ?_)
        rotate_left
        · refine WQ.split (d := 61) rfl (fun c10 => ?_) (fun c10 => ?_)
          · replace hb_5 := ite_t hb_5 c10
            refine WQ.yes rfl rfl ?_
            refine qq (q_fieldAddr Fld_146_3 rfl) rfl ?_
            refine WQ.yes rfl rfl ?_
            refine qq (q_load1 T1_3 rfl (fun w1 hw => hw.rgO (i := 0) rfl 3 1 [.int .i64 x7.N] rfl)) rfl ?_
            refine WQ.yes rfl rfl ?_
            refine qq (q_loadN Tn_51 rfl (fun w1 hw => hw.rgO (i := 1) rfl 0 5 [.string p0.Name, .int .i64 p0.Sal, pv0_0, pv0_1, pv0_2] rfl) rfl) rfl ?_
            refine WQ.yes rfl rfl ?_
            obtain ⟨x9, hx9, hb_5⟩ := bind_some hb_5
            refine qp (p_call Fun_93 rfl (fun w1 hw => m_i_PosCount_ok hw.fro N p0 ph0_0 ph0_1 ph0_2 hx9)) rfl ?_
            refine WQ.yes rfl rfl ?_
            refine qq (q_geq rfl rfl) rfl ?_
            refine WQ.yes rfl rfl ?_
            refine WQ.q (q_pick1 rfl rfl) rfl rfl rfl ?_
            cases hb_5
            exact WQ.keep (by exact ⟨rfl, rfl, rfl, rfl, rfl, rfl, trivial⟩) K
          · replace hb_5 := ite_f hb_5 c10
            refine WQ.no rfl rfl rfl rfl ?_
            refine WQ.no rfl rfl rfl rfl ?_
            refine WQ.no rfl rfl rfl rfl ?_
            refine WQ.no rfl rfl rfl rfl ?_
            refine WQ.no rfl rfl rfl rfl ?_
            refine WQ.yes rfl rfl ?_
            refine WQ.q (q_pick0 rfl rfl) rfl rfl rfl ?_
            cases hb_5
            exact WQ.keep (by exact ⟨rfl, rfl, rfl, rfl, rfl, rfl, trivial⟩) K
        refine WQ.q (q_pick0 rfl rfl) rfl rfl rfl ?_
        cases hb_4
        exact WQ.keep (by exact ⟨rfl, rfl, rfl, rfl, rfl, trivial⟩) K
    refine WQ.nil ?_
    refine WT.cond rfl (fun c11 => ?_) (fun c11 => ?_)
    · replace h := ite_t h c11
      refine WT.seq ?_
      refine WT.region ?_
      refine lq (q_assign rfl) rfl ?_
      refine WL.nil ?_
      refine WT.ret Try.func45 (resOk.one rfl) (fun w1 hw => ?_)
      subst hb0
      cases h
      exact post_of_St hw
    replace h := ite_f h c11
    refine WT.skip ?_
    refine WT.inBlock ?_
    refine WT.region ?_
    refine lq (q_add rfl rfl) rfl ?_
    refine lq (q_move rfl) rfl ?_
    refine WL.nil ?_
    refine WT.inLoop (WT.mono (l' := [(1, .pointer (some ⟨b_1, 0, none⟩)), (48, pv0_2), (49, .int .i64 (p0.Acts.length : Int)), (50, .int .i64 (IntKind.i64.wrap (s2 + 1)))]) (S' := St w0 Φ [(b_1, .cells #[.string p0.Name, .int .i64 p0.Sal, pv0_0, pv0_1, pv0_2] 51 (0, 0))] []) ⟨rfl, rfl, rfl, rfl, trivial⟩ (fun w1 hw => (hw.sel (js := []) rfl).selO (js := [1]) rfl) ?_)
    exact ih2 (IntKind.i64.wrap (s2 + 1)) h
  replace h := ite_f h c8
  refine WT.exit rfl ?_
  refine WT.seq ?_
  refine WT.region ?_
  refine lq (q_loadN Tn_51 rfl (fun w1 hw => hw.rgO (i := 0) rfl 0 5 [.string p0.Name, .int .i64 p0.Sal, pv0_0, pv0_1, pv0_2] rfl) rfl) rfl ?_
  obtain ⟨x10, hx10, h⟩ := bind_some h
  refine lc (k_call (js := []) (R := []) Fun_94 rfl rfl (fun w1 hw ap hl => m_i_PosVars_ok hw.fro N p0 ph0_0 ph0_1 ph0_2  hx10)) rfl (fun v2 Φ_1 F3 q1 => ?_)
  obtain ⟨ap1, fr1, v3, rfl, rfl, h2⟩ := q1
  replace ph0_0 := ph0_0.frame RTPat.lasts fr1 (ap1.o pa0_0)
  replace ph0_1 := ph0_1.frame RTCond.lasts fr1 (ap1.o pa0_1)
  replace ph0_2 := ph0_2.frame RTAct.lasts fr1 (ap1.o pa0_2)
  refine lq (q_assign rfl) rfl ?_
  refine WL.nil ?_
  refine WT.seq ?_
  refine WT.seq ?_
  refine WT.region ?_
  refine lq (q_loadN Tn_51 rfl (fun w1 hw => hw.rgO (i := 0) rfl 0 5 [.string p0.Name, .int .i64 p0.Sal, pv0_0, pv0_1, pv0_2] rfl) rfl) rfl ?_
  obtain ⟨x11, hx11, h⟩ := bind_some h
  refine lc (k_call (js := []) (R := [ob v2]) Fun_95 rfl rfl (fun w1 hw ap hl => m_i_usedVars_ok hw.fro N p0 ph0_0 ph0_1 ph0_2  hx11)) rfl (fun v4 Φ_2 F4 q2 => ?_)
  obtain ⟨ap2, fr2, v5, rfl, rfl, h3⟩ := q2
  replace h2 := h2.frame RS.lasts fr2 (ap2.r (i := 0) rfl) (Dj.nil _)
  refine lq (q_lenR Sl_131 rfl rfl h3.rsl) rfl ?_
  refine lq (q_move rfl) rfl ?_
  refine WL.nil ?_
  refine WT.block ?_
  refine WT.loop ?_
  refine WT.mono (l' := [(7, v2), (73, v4), (74, .int .i64 (x11.length : Int)), (75, .int .i64 0)]) (S' := St w0 Φ_2 [] [ob v4, ob v2]) ⟨rfl, rfl, rfl, rfl, trivial⟩ (fun w1 hw => (hw.sel (js := [0, 0]) rfl).selO (js := []) rfl) ?_
  refine loop_ind (σ := Int) (fun s => [(7, v2), (73, v4), (74, .int .i64 (x11.length : Int)), (75, .int .i64 s)]) (fun s => St w0 Φ_2 [] [ob v4, ob v2]) (fun m s => m_i_RuleOk_l3 N x10 x11 m s = some r) (fun s hm => none_ne (show (none : Option (Bool)) = some r from hm)) (fun n3 ih3 s hm => ?_) N (0) h
  revert hm; revert s; intro s3 hm
  have h : m_i_RuleOk_l3 N x10 x11 (n3 + 1) s3 = some r := hm
  show WT _ _ [(7, v2), (73, v4), (74, .int .i64 (x11.length : Int)), (75, .int .i64 s3)] (St w0 Φ_2 [] [ob v4, ob v2])
  unfold m_i_RuleOk_l3 at h
  refine WT.seq ?_
  refine WT.region ?_
  refine lq (q_lss rfl rfl) rfl ?_
  refine WL.nil ?_
  refine WT.seq ?_
  refine WT.cond rfl (fun c12 => ?_) (fun c12 => ?_)
  · replace h := ite_t h c12
    refine WT.skip ?_
    refine WT.seq ?_
    refine WT.block ?_
    refine WT.seq ?_
    refine WT.region ?_
    obtain ⟨x12, hx12, h⟩ := bind_some h
    obtain ⟨cs3, F5, -, g3, hb3, hs3, r3⟩ := h3.elS (idx_some hx12).2.2
    obtain ⟨rfl, -⟩ := r3
    refine lq (q_indexAddr Sl_131 rfl rfl h3.rsl hx12) rfl ?_
    refine lq (q_load1 T1_9 rfl (fun w1 hw => (g3.of_eq 0 1 rfl rfl : rg _ _ _ [.string x12]).rangeAt hw.fro)) rfl ?_
    refine lq (q_assign rfl) rfl ?_
    refine WL.nil ?_
    refine WT.seq ?_
    refine WT.region ?_
    refine lq (q_move rfl) rfl ?_
    refine lq (q_move rfl) rfl ?_
    obtain ⟨x13, hx13, h⟩ := bind_some h
    refine lp (p_call Fun_96 rfl (fun w1 hw => m_sl_Contains_Sstring_string_ok hw.fro N x10 x12 h2.rsl hx13)) rfl ?_
    refine lq (q_not rfl) rfl ?_
    refine WL.nil ?_
    refine WT.cond rfl (fun c13 => ?_) (fun c13 => ?_)
    · replace h := ite_t h c13
      refine WT.seq ?_
      refine WT.region ?_
      refine lq (q_assign rfl) rfl ?_
      refine WL.nil ?_
      refine WT.ret Try.func45 (resOk.one rfl) (fun w1 hw => ?_)
      subst hb0
      cases h
      exact post_of_St hw
    replace h := ite_f h c13
    refine WT.skip ?_
    refine WT.inBlock ?_
    refine WT.region ?_
    refine lq (q_add rfl rfl) rfl ?_
    refine lq (q_move rfl) rfl ?_
    refine WL.nil ?_
    refine WT.inLoop (WT.mono (l' := [(7, v2), (73, v4), (74, .int .i64 (x11.length : Int)), (75, .int .i64 (IntKind.i64.wrap (s3 + 1)))]) (S' := St w0 Φ_2 [] [ob v4, ob v2]) ⟨rfl, rfl, rfl, rfl, trivial⟩ (fun w1 hw => (hw.sel (js := [0, 0]) rfl).selO (js := []) rfl) ?_)
    exact ih3 (IntKind.i64.wrap (s3 + 1)) h
  replace h := ite_f h c12
  refine WT.exit rfl ?_
  refine WT.seq ?_
  refine WT.region ?_
  refine lq (q_assign rfl) rfl ?_
  refine WL.nil ?_
  refine WT.ret Try.func45 (resOk.one rfl) (fun w1 hw => ?_)
  subst hb0
  cases h
  exact post_of_St hw
theorem m_sl_IndexFunc_Si_Rule_i_Rule_ok {Φ : Hp} {w : World} (hΦ : In Φ w) (N : Nat) (p0 : (List TRule)) (p1 : TRule → Option (Bool)) {pv0 : Value} {pG0 : List Nat} {p1f : Nat} {p1fr : List Value} (ph0 : RSl RTRule 5 Φ pG0 pv0 p0) (p1hF : Fun Try.prog p1f = true) (p1h : ∀ {Φ' : Hp} {w' : World}, FrH [] Φ Φ' → In Φ' w' → ∀ (p1a0 : TRule) {p1v0_0 : Value} {p1G0_0 : List Nat} {p1v0_1 : Value} {p1G0_1 : List Nat} {p1v0_2 : Value} {p1G0_2 : List Nat} (_ : RSl RTPat 3 Φ' p1G0_0 p1v0_0 p1a0.Pats) (_ : RSl RTCond 11 Φ' p1G0_1 p1v0_1 p1a0.Conds) (_ : RSl RTAct 5 Φ' p1G0_2 p1v0_2 p1a0.Acts) {r : Bool}, p1 p1a0 = some r → Calls Try.prog p1f (([.agg [.string p1a0.Name, .int .i64 p1a0.Sal, p1v0_0, p1v0_1, p1v0_2].toArray] : List Value) ++ p1fr).toArray w' (Post (.bool r) w')) {r : Int} (h : m_sl_IndexFunc_Si_Rule_i_Rule N p0 p1 = some r) :
    Calls Try.prog 97 [pv0, .func (.func p1f) #[] p1fr.toArray].toArray w (Post (.int .i64 r) w) := by
  refine enter Try.func97 rfl Try.ntmps97 rfl (St.start0 hΦ) ?_
  generalize hb0 : (⟨w, [], Φ⟩ : Base) = w0
  unfold m_sl_IndexFunc_Si_Rule_i_Rule at h
  refine WT.seq ?_
  refine WT.region ?_
  refine lq (q_assign rfl) rfl ?_
  refine WL.nil ?_
  refine WT.seq ?_
  refine WT.seq ?_
  refine WT.region ?_
  refine lq (q_move rfl) rfl ?_
  refine lq (q_lenR Sl_27 rfl rfl ph0) rfl ?_
  refine lq (q_move rfl) rfl ?_
  refine WL.nil ?_
  refine WT.block ?_
  refine WT.loop ?_
  refine WT.mono (l' := [(0, pv0), (1, .func (.func p1f) #[] p1fr.toArray), (7, .int .i64 (p0.length : Int)), (8, .int .i64 0)]) (S' := St w0 Φ [] []) ⟨rfl, rfl, rfl, rfl, trivial⟩ (fun w1 hw => (hw.sel (js := []) rfl).selO (js := []) rfl) ?_
  refine loop_ind (σ := Int) (fun s => [(0, pv0), (1, .func (.func p1f) #[] p1fr.toArray), (7, .int .i64 (p0.length : Int)), (8, .int .i64 s)]) (fun s => St w0 Φ [] []) (fun m s => m_sl_IndexFunc_Si_Rule_i_Rule_l1 N p0 p1 m s = some r) (fun s hm => none_ne (show (none : Option (Int)) = some r from hm)) (fun n1 ih1 s hm => ?_) N (0) h
  revert hm; revert s; intro s1 hm
  have h : m_sl_IndexFunc_Si_Rule_i_Rule_l1 N p0 p1 (n1 + 1) s1 = some r := hm
  show WT _ _ [(0, pv0), (1, .func (.func p1f) #[] p1fr.toArray), (7, .int .i64 (p0.length : Int)), (8, .int .i64 s1)] (St w0 Φ [] [])
  unfold m_sl_IndexFunc_Si_Rule_i_Rule_l1 at h
  refine WT.seq ?_
  refine WT.region ?_
  refine lq (q_lss rfl rfl) rfl ?_
  refine WL.nil ?_
  refine WT.seq ?_
  refine WT.cond rfl (fun c1 => ?_) (fun c1 => ?_)
  · replace h := ite_t h c1
    refine WT.skip ?_
    refine WT.seq ?_
    refine WT.block ?_
    refine WT.seq ?_
    refine WT.region ?_
    refine lq (q_move rfl) rfl ?_
    refine lq (q_assign rfl) rfl ?_
    refine WL.nil ?_
    refine WT.seq ?_
    refine WT.region ?_
    refine lq (q_move rfl) rfl ?_
    refine lq (q_move rfl) rfl ?_
    refine lq (q_move rfl) rfl ?_
    obtain ⟨x1, hx1, h⟩ := bind_some h
    obtain ⟨cs1, F1, -, g1, hb1, hs1, r1⟩ := ph0.el (idx_some hx1).2.2
    obtain ⟨v1, G1, v2, G2, v3, G3, rfl, rfl, h1, h2, h3⟩ := r1
    refine lq (q_indexAddr Sl_27 rfl rfl ph0 hx1) rfl ?_
    refine lq (q_loadN Tn_51 rfl (fun w1 hw => (g1.of_eq 0 5 rfl rfl : rg _ _ _ [.string x1.Name, .int .i64 x1.Sal, v1, v2, v3]).rangeAt hw.fro) rfl) rfl ?_
    obtain ⟨x2, hx2, h⟩ := bind_some h
    refine lp (p_callV p1hF rfl rfl (fun w1 hw => p1h (by subst hb0; exact hw.frB hΦ) hw.fro x1 h1 h2 h3 hx2)) rfl ?_
    refine WL.nil ?_
    refine WT.cond rfl (fun c2 => ?_) (fun c2 => ?_)
    · replace h := ite_t h c2
      refine WT.seq ?_
      refine WT.region ?_
      refine lq (q_move rfl) rfl ?_
      refine lq (q_assign rfl) rfl ?_
      refine WL.nil ?_
      refine WT.ret Try.func97 (resOk.one rfl) (fun w1 hw => ?_)
      subst hb0
      cases h
      exact post_of_St hw
    replace h := ite_f h c2
    refine WT.skip ?_
    refine WT.inBlock ?_
    refine WT.region ?_
    refine lq (q_add rfl rfl) rfl ?_
    refine lq (q_move rfl) rfl ?_
    refine WL.nil ?_
    refine WT.inLoop (WT.mono (l' := [(0, pv0), (1, .func (.func p1f) #[] p1fr.toArray), (7, .int .i64 (p0.length : Int)), (8, .int .i64 (IntKind.i64.wrap (s1 + 1)))]) (S' := St w0 Φ [] []) ⟨rfl, rfl, rfl, rfl, trivial⟩ (fun w1 hw => (hw.sel (js := []) rfl).selO (js := []) rfl) ?_)
    exact ih1 (IntKind.i64.wrap (s1 + 1)) h
  replace h := ite_f h c1
  refine WT.exit rfl ?_
  refine WT.seq ?_
  refine WT.region ?_
  refine lq (q_assign rfl) rfl ?_
  refine WL.nil ?_
  refine WT.ret Try.func97 (resOk.one rfl) (fun w1 hw => ?_)
  subst hb0
  cases h
  exact post_of_St hw
theorem m_i_RuleAt_c1_ok {Φ : Hp} {w : World} (hΦ : In Φ w) (N : Nat) (p0 : TRule) (c0 : ByteArray) {pv0_0 : Value} {pG0_0 : List Nat} {pv0_1 : Value} {pG0_1 : List Nat} {pv0_2 : Value} {pG0_2 : List Nat} {pbc0 : Nat} (ph0_0 : RSl RTPat 3 Φ pG0_0 pv0_0 p0.Pats) (ph0_1 : RSl RTCond 11 Φ pG0_1 pv0_1 p0.Conds) (ph0_2 : RSl RTAct 5 Φ pG0_2 pv0_2 p0.Acts) (ppc0 : Φ pbc0 = some (.cells #[.string c0] 9 (0, 0))) {r : Bool} (h : m_i_RuleAt_c1 N p0 c0 = some r) :
    Calls Try.prog 98 [.agg [.string p0.Name, .int .i64 p0.Sal, pv0_0, pv0_1, pv0_2].toArray, .pointer (some ⟨pbc0, 0, none⟩)].toArray w (Post (.bool r) w) := by
  refine enter Try.func98 rfl Try.ntmps98 rfl (St.start0 hΦ) ?_
  unfold m_i_RuleAt_c1 at h
  refine WT.seq ?_
  refine WT.region ?_
  refine ln (n_box (C := #[.string p0.Name, .int .i64 p0.Sal, pv0_0, pv0_1, pv0_2]) rfl rfl) rfl (fun b_1 => ?_)
  refine lq (q_assign rfl) rfl ?_
  refine WL.nil ?_
  refine WT.seq ?_
  refine WT.region ?_
  refine lq (q_fieldAddr Fld_51_0 rfl) rfl ?_
  refine lq (q_load1 T1_9 rfl (fun w1 hw => hw.rgO (i := 0) rfl 0 1 [.string p0.Name] rfl)) rfl ?_
  refine lq (q_load1 T1_9 rfl (fun w1 hw => ((rg_cells ppc0).of_eq 0 1 rfl rfl : rg _ _ _ [.string c0]).rangeAt hw.fro)) rfl ?_
  refine lq (q_seq rfl rfl) rfl ?_
  refine lq (q_assign rfl) rfl ?_
  refine WL.nil ?_
  refine WT.ret Try.func98 (resOk.one rfl) (fun w1 hw => ?_)
  cases h
  exact post_of_St hw
theorem m_i_RuleAt_ok {Φ : Hp} {w : World} (hΦ : In Φ w) (N : Nat) (p0 : TDef) (p1 : ByteArray) {pv0_0 : Value} {pG0_0 : List Nat} (ph0_0 : RSl RTRule 5 Φ pG0_0 pv0_0 p0.Rules) {r : Int} (h : m_i_RuleAt N p0 p1 = some r) :
    Calls Try.prog 46 [.agg [.string p0.Name, pv0_0].toArray, .string p1].toArray w (Post (.int .i64 r) w) := by
  refine enter Try.func46 rfl Try.ntmps46 rfl (St.start0 hΦ) ?_
  unfold m_i_RuleAt at h
  refine WT.seq ?_
  refine WT.region ?_
  refine ln (n_box (C := #[.string p0.Name, pv0_0]) rfl rfl) rfl (fun b_1 => ?_)
  refine ln (n_box (C := #[.string p1]) rfl rfl) rfl (fun b_2 => ?_)
  refine lq (q_assign rfl) rfl ?_
  refine WL.nil ?_
  refine WT.seq ?_
  refine WT.region ?_
  refine lq (q_fieldAddr Fld_29_1 rfl) rfl ?_
  refine lq (q_load1 T1_27 rfl (fun w1 hw => hw.rgO (i := 1) rfl 1 1 [pv0_0] rfl)) rfl ?_
  refine WL.frz (js := [0]) (R := [(b_1, .cells #[.string p0.Name, pv0_0] 29 (0, 0))]) rfl (fun Φ_1 fr1 k1 => ?_)
  replace ph0_0 := ph0_0.frame RTRule.lasts fr1 (Dj.empty _)
  refine lq (q_makeFunc rfl) rfl ?_
  obtain ⟨x1, hx1, h⟩ := bind_some h
  refine lp (p_call Fun_97 rfl (fun w1 hw => m_sl_IndexFunc_Si_Rule_i_Rule_ok hw.fro N p0.Rules (fun a0 => m_i_RuleAt_c1 N a0 p1) ph0_0 Fun_98 (fun hle' hin a0 => fun f0 f1 f2 => fun hr => m_i_RuleAt_c1_ok hin N a0 p1 f0 f1 f2 (hle' _ _ (by simp) k1) hr) hx1)) rfl ?_
  refine lq (q_assign rfl) rfl ?_
  refine WL.nil ?_
  refine WT.ret Try.func46 (resOk.one rfl) (fun w1 hw => ?_)
  cases h
  exact post_of_St hw
theorem m_i_DefOk_ok {Φ : Hp} {w : World} (hΦ : In Φ w) (N : Nat) (p0 : TDef) {pv0_0 : Value} {pG0_0 : List Nat} (ph0_0 : RSl RTRule 5 Φ pG0_0 pv0_0 p0.Rules) {r : Bool} (h : m_i_DefOk N p0 = some r) :
    Calls Try.prog 9 [.agg [.string p0.Name, pv0_0].toArray].toArray w (Post (.bool r) w) := by
  refine enter Try.func9 rfl Try.ntmps9 rfl (St.start0 hΦ) ?_
  generalize hb0 : (⟨w, [], Φ⟩ : Base) = w0
  unfold m_i_DefOk at h
  refine WT.seq ?_
  refine WT.region ?_
  refine ln (n_box (C := #[.string p0.Name, pv0_0]) rfl rfl) rfl (fun b_1 => ?_)
  refine lq (q_assign rfl) rfl ?_
  refine WL.nil ?_
  refine WT.seq ?_
  refine WT.seq ?_
  refine WT.region ?_
  refine lq (q_fieldAddr Fld_29_0 rfl) rfl ?_
  refine lq (q_load1 T1_9 rfl (fun w1 hw => hw.rgO (i := 0) rfl 0 1 [.string p0.Name] rfl)) rfl ?_
  obtain ⟨x1, hx1, h⟩ := bind_some h
  refine lp (p_call Fun_43 rfl (fun w1 hw => m_i_NameOk_ok hw.fro N p0.Name hx1)) rfl ?_
  refine lq (q_not rfl) rfl ?_
  refine lq (q_move rfl) rfl ?_
  obtain ⟨b1, hb_1, h⟩ := bind_some h
  refine WL.cutN 6 [(15, .bool b1), (1, .pointer (some ⟨b_1, 0, none⟩))] ?_ (fun K => ?_)
  rotate_left
  · refine WL.split (d := 9) rfl (fun c1 => ?_) (fun c1 => ?_)
    · replace hb_1 := ite_t hb_1 c1
      refine WL.no rfl rfl rfl rfl ?_
      refine WL.no rfl rfl rfl rfl ?_
      refine WL.no rfl rfl rfl rfl ?_
      refine WL.no rfl rfl rfl rfl ?_
      refine WL.no rfl rfl rfl rfl ?_
      refine WL.q (q_pick1 rfl rfl) rfl rfl rfl ?_
      cases hb_1
      exact WL.keep (by exact ⟨rfl, rfl, trivial⟩) K
    · replace hb_1 := ite_f hb_1 c1
      refine WL.yes rfl rfl ?_
      refine lq (q_fieldAddr Fld_29_1 rfl) rfl ?_
      refine WL.yes rfl rfl ?_
      refine lq (q_load1 T1_27 rfl (fun w1 hw => hw.rgO (i := 0) rfl 1 1 [pv0_0] rfl)) rfl ?_
      refine WL.yes rfl rfl ?_
      refine lq (q_lenR Sl_27 rfl rfl ph0_0) rfl ?_
      refine WL.yes rfl rfl ?_
      obtain ⟨x2, hx2, hb_1⟩ := bind_some hb_1
      refine lp (p_call Fun_44 rfl (fun w1 hw => m_i_inRange_ok hw.fro N (p0.Rules.length : Int) 1 12 hx2)) rfl ?_
      refine WL.yes rfl rfl ?_
      refine lq (q_not rfl) rfl ?_
      refine WL.q (q_pick0 rfl rfl) rfl rfl rfl ?_
      cases hb_1
      exact WL.keep (by exact ⟨rfl, rfl, trivial⟩) K
  refine WL.nil ?_
  refine WT.cond rfl (fun c2 => ?_) (fun c2 => ?_)
  · replace h := ite_t h c2
    refine WT.seq ?_
    refine WT.region ?_
    refine lq (q_assign rfl) rfl ?_
    refine WL.nil ?_
    refine WT.ret Try.func9 (resOk.one rfl) (fun w1 hw => ?_)
    subst hb0
    cases h
    exact post_of_St hw
  replace h := ite_f h c2
  refine WT.skip ?_
  refine WT.seq ?_
  refine WT.seq ?_
  refine WT.region ?_
  refine lq (q_fieldAddr Fld_29_1 rfl) rfl ?_
  refine lq (q_load1 T1_27 rfl (fun w1 hw => hw.rgO (i := 0) rfl 1 1 [pv0_0] rfl)) rfl ?_
  refine lq (q_lenR Sl_27 rfl rfl ph0_0) rfl ?_
  refine lq (q_move rfl) rfl ?_
  refine WL.nil ?_
  refine WT.block ?_
  refine WT.loop ?_
  refine WT.mono (l' := [(1, .pointer (some ⟨b_1, 0, none⟩)), (17, pv0_0), (18, .int .i64 (p0.Rules.length : Int)), (19, .int .i64 0)]) (S' := St w0 Φ [(b_1, .cells #[.string p0.Name, pv0_0] 29 (0, 0))] []) ⟨rfl, rfl, rfl, rfl, trivial⟩ (fun w1 hw => (hw.sel (js := []) rfl).selO (js := [0]) rfl) ?_
  refine loop_ind (σ := Int) (fun s => [(1, .pointer (some ⟨b_1, 0, none⟩)), (17, pv0_0), (18, .int .i64 (p0.Rules.length : Int)), (19, .int .i64 s)]) (fun s => St w0 Φ [(b_1, .cells #[.string p0.Name, pv0_0] 29 (0, 0))] []) (fun m s => m_i_DefOk_l1 N p0 m s = some r) (fun s hm => none_ne (show (none : Option (Bool)) = some r from hm)) (fun n1 ih1 s hm => ?_) N (0) h
  revert hm; revert s; intro s1 hm
  have h : m_i_DefOk_l1 N p0 (n1 + 1) s1 = some r := hm
  show WT _ _ [(1, .pointer (some ⟨b_1, 0, none⟩)), (17, pv0_0), (18, .int .i64 (p0.Rules.length : Int)), (19, .int .i64 s1)] (St w0 Φ [(b_1, .cells #[.string p0.Name, pv0_0] 29 (0, 0))] [])
  unfold m_i_DefOk_l1 at h
  refine WT.seq ?_
  refine WT.region ?_
  refine lq (q_lss rfl rfl) rfl ?_
  refine WL.nil ?_
  refine WT.seq ?_
  refine WT.cond rfl (fun c3 => ?_) (fun c3 => ?_)
  · replace h := ite_t h c3
    refine WT.skip ?_
    refine WT.seq ?_
    refine WT.block ?_
    refine WT.seq ?_
    refine WT.region ?_
    refine lq (q_move rfl) rfl ?_
    obtain ⟨x3, hx3, h⟩ := bind_some h
    obtain ⟨cs1, F1, -, g1, hb1, hs1, r1⟩ := ph0_0.el (idx_some hx3).2.2
    obtain ⟨v1, G1, v2, G2, v3, G3, rfl, rfl, h1, h2, h3⟩ := r1
    refine lq (q_indexAddr Sl_27 rfl rfl ph0_0 hx3) rfl ?_
    refine lq (q_loadN Tn_51 rfl (fun w1 hw => (g1.of_eq 0 5 rfl rfl : rg _ _ _ [.string x3.Name, .int .i64 x3.Sal, v1, v2, v3]).rangeAt hw.fro) rfl) rfl ?_
    refine ln (n_alloc (C := #[.string (⟨#[]⟩ : ByteArray), .int .i64 0, .slice none 0 0, .slice none 0 0, .slice none 0 0]) Zr_51 rfl) rfl (fun b_2 => ?_)
    refine lq (q_assign rfl) rfl ?_
    refine ls (s_store (i := 0) (vs := [.string x3.Name, .int .i64 x3.Sal, v1, v2, v3]) (C' := [.string x3.Name, .int .i64 x3.Sal, v1, v2, v3]) (O' := [(b_2, .cells #[.string x3.Name, .int .i64 x3.Sal, v1, v2, v3] 51 (0, 0)), (b_1, .cells #[.string p0.Name, pv0_0] 29 (0, 0))]) Sz_51 rfl rfl rfl rfl rfl rfl ⟨rfl, rfl, h1.one, h2.one, h3.one, trivial⟩ rfl rfl) rfl ?_
    refine WL.nil ?_
    refine WT.seq ?_
    refine WT.region ?_
    refine lq (q_loadN Tn_51 rfl (fun w1 hw => hw.rgO (i := 0) rfl 0 5 [.string x3.Name, .int .i64 x3.Sal, v1, v2, v3] rfl) rfl) rfl ?_
    obtain ⟨x4, hx4, h⟩ := bind_some h
    refine lp (p_call Fun_45 rfl (fun w1 hw => m_i_RuleOk_ok hw.fro N x3 h1 h2 h3 hx4)) rfl ?_
    refine lq (q_not rfl) rfl ?_
    refine lq (q_move rfl) rfl ?_
    obtain ⟨b2, hb_2, h⟩ := bind_some h
    refine WL.cutN 7 [(34, .bool b2), (1, .pointer (some ⟨b_1, 0, none⟩)), (17, pv0_0), (18, .int .i64 (p0.Rules.length : Int)), (19, .int .i64 s1)] ?_ (fun K => ?_)
    rotate_left
    · refine WL.split (d := 27) rfl (fun c4 => ?_) (fun c4 => ?_)
      · replace hb_2 := ite_t hb_2 c4
        refine WL.no rfl rfl rfl rfl ?_
        refine WL.no rfl rfl rfl rfl ?_
        refine WL.no rfl rfl rfl rfl ?_
        refine WL.no rfl rfl rfl rfl ?_
        refine WL.no rfl rfl rfl rfl ?_
        refine WL.no rfl rfl rfl rfl ?_
        refine WL.q (q_pick1 rfl rfl) rfl rfl rfl ?_
        cases hb_2
        exact WL.keep (by exact ⟨rfl, rfl, rfl, rfl, rfl, trivial⟩) K
      · replace hb_2 := ite_f hb_2 c4
        refine WL.yes rfl rfl ?_
        refine lq (q_loadN Tn_29 rfl (fun w1 hw => hw.rgO (i := 1) rfl 0 2 [.string p0.Name, pv0_0] rfl) rfl) rfl ?_
        refine WL.yes rfl rfl ?_
        refine lq (q_fieldAddr Fld_51_0 rfl) rfl ?_
        refine WL.yes rfl rfl ?_
        refine lq (q_load1 T1_9 rfl (fun w1 hw => hw.rgO (i := 0) rfl 0 1 [.string x3.Name] rfl)) rfl ?_
        refine WL.yes rfl rfl ?_
        obtain ⟨x5, hx5, hb_2⟩ := bind_some hb_2
        refine lp (p_call Fun_46 rfl (fun w1 hw => m_i_RuleAt_ok hw.fro N p0 x3.Name ph0_0 hx5)) rfl ?_
        refine WL.yes rfl rfl ?_
        refine lq (q_move rfl) rfl ?_
        refine WL.yes rfl rfl ?_
        refine lq (q_neq rfl rfl) rfl ?_
        refine WL.q (q_pick0 rfl rfl) rfl rfl rfl ?_
        cases hb_2
        exact WL.keep (by exact ⟨rfl, rfl, rfl, rfl, rfl, trivial⟩) K
    refine WL.nil ?_
    refine WT.cond rfl (fun c5 => ?_) (fun c5 => ?_)
    · replace h := ite_t h c5
      refine WT.seq ?_
      refine WT.region ?_
      refine lq (q_assign rfl) rfl ?_
      refine WL.nil ?_
      refine WT.ret Try.func9 (resOk.one rfl) (fun w1 hw => ?_)
      subst hb0
      cases h
      exact post_of_St hw
    replace h := ite_f h c5
    refine WT.skip ?_
    refine WT.inBlock ?_
    refine WT.region ?_
    refine lq (q_add rfl rfl) rfl ?_
    refine lq (q_move rfl) rfl ?_
    refine WL.nil ?_
    refine WT.inLoop (WT.mono (l' := [(1, .pointer (some ⟨b_1, 0, none⟩)), (17, pv0_0), (18, .int .i64 (p0.Rules.length : Int)), (19, .int .i64 (IntKind.i64.wrap (s1 + 1)))]) (S' := St w0 Φ [(b_1, .cells #[.string p0.Name, pv0_0] 29 (0, 0))] []) ⟨rfl, rfl, rfl, rfl, trivial⟩ (fun w1 hw => (hw.sel (js := []) rfl).selO (js := [1]) rfl) ?_)
    exact ih1 (IntKind.i64.wrap (s1 + 1)) h
  replace h := ite_f h c3
  refine WT.exit rfl ?_
  refine WT.seq ?_
  refine WT.region ?_
  refine lq (q_assign rfl) rfl ?_
  refine WL.nil ?_
  refine WT.ret Try.func9 (resOk.one rfl) (fun w1 hw => ?_)
  subst hb0
  cases h
  exact post_of_St hw
theorem m_l_eqVal_ok {Φ : Hp} {w : World} (hΦ : In Φ w) (N : Nat) (p0 : TVal) (p1 : TVal)   {r : Bool} (h : m_l_eqVal N p0 p1 = some r) :
    Calls Try.prog 111 [.agg [.int .i64 p0.K, .int .i64 p0.N, .string p0.S].toArray, .agg [.int .i64 p1.K, .int .i64 p1.N, .string p1.S].toArray].toArray w (Post (.bool r) w) := by
  refine enter Try.func111 rfl Try.ntmps111 rfl (St.start0 hΦ) ?_
  unfold m_l_eqVal at h
  refine WT.seq ?_
  refine WT.region ?_
  refine ln (n_box (C := #[.int .i64 p0.K, .int .i64 p0.N, .string p0.S]) rfl rfl) rfl (fun b_1 => ?_)
  refine ln (n_box (C := #[.int .i64 p1.K, .int .i64 p1.N, .string p1.S]) rfl rfl) rfl (fun b_2 => ?_)
  refine lq (q_assign rfl) rfl ?_
  refine WL.nil ?_
  refine WT.seq ?_
  refine WT.seq ?_
  refine WT.region ?_
  refine lq (q_fieldAddr Fld_109_0 rfl) rfl ?_
  refine lq (q_load1 T1_3 rfl (fun w1 hw => hw.rgO (i := 1) rfl 0 1 [.int .i64 p0.K] rfl)) rfl ?_
  refine lq (q_fieldAddr Fld_109_0 rfl) rfl ?_
  refine lq (q_load1 T1_3 rfl (fun w1 hw => hw.rgO (i := 0) rfl 0 1 [.int .i64 p1.K] rfl)) rfl ?_
  refine lq (q_neq rfl rfl) rfl ?_
  refine WL.nil ?_
  refine WT.cond rfl (fun c1 => ?_) (fun c1 => ?_)
  · replace h := ite_t h c1
    refine WT.seq ?_
    refine WT.region ?_
    refine lq (q_assign rfl) rfl ?_
    refine WL.nil ?_
    refine WT.ret Try.func111 (resOk.one rfl) (fun w1 hw => ?_)
    cases h
    exact post_of_St hw
  replace h := ite_f h c1
  refine WT.skip ?_
  refine WT.seq ?_
  refine WT.seq ?_
  refine WT.region ?_
  refine lq (q_fieldAddr Fld_109_1 rfl) rfl ?_
  refine lq (q_load1 T1_3 rfl (fun w1 hw => hw.rgO (i := 1) rfl 1 1 [.int .i64 p0.N] rfl)) rfl ?_
  refine lq (q_fieldAddr Fld_109_1 rfl) rfl ?_
  refine lq (q_load1 T1_3 rfl (fun w1 hw => hw.rgO (i := 0) rfl 1 1 [.int .i64 p1.N] rfl)) rfl ?_
  refine lq (q_neq rfl rfl) rfl ?_
  refine WL.nil ?_
  refine WT.cond rfl (fun c2 => ?_) (fun c2 => ?_)
  · replace h := ite_t h c2
    refine WT.seq ?_
    refine WT.region ?_
    refine lq (q_assign rfl) rfl ?_
    refine WL.nil ?_
    refine WT.ret Try.func111 (resOk.one rfl) (fun w1 hw => ?_)
    cases h
    exact post_of_St hw
  replace h := ite_f h c2
  refine WT.skip ?_
  refine WT.seq ?_
  refine WT.seq ?_
  refine WT.region ?_
  refine lq (q_fieldAddr Fld_109_2 rfl) rfl ?_
  refine lq (q_load1 T1_9 rfl (fun w1 hw => hw.rgO (i := 1) rfl 2 1 [.string p0.S] rfl)) rfl ?_
  refine lq (q_fieldAddr Fld_109_2 rfl) rfl ?_
  refine lq (q_load1 T1_9 rfl (fun w1 hw => hw.rgO (i := 0) rfl 2 1 [.string p1.S] rfl)) rfl ?_
  refine lq (q_sne rfl rfl) rfl ?_
  refine WL.nil ?_
  refine WT.cond rfl (fun c3 => ?_) (fun c3 => ?_)
  · replace h := ite_t h c3
    refine WT.seq ?_
    refine WT.region ?_
    refine lq (q_assign rfl) rfl ?_
    refine WL.nil ?_
    refine WT.ret Try.func111 (resOk.one rfl) (fun w1 hw => ?_)
    cases h
    exact post_of_St hw
  replace h := ite_f h c3
  refine WT.skip ?_
  refine WT.seq ?_
  refine WT.region ?_
  refine lq (q_assign rfl) rfl ?_
  refine WL.nil ?_
  refine WT.ret Try.func111 (resOk.one rfl) (fun w1 hw => ?_)
  cases h
  exact post_of_St hw
theorem m_l_eqArg_ok {Φ : Hp} {w : World} (hΦ : In Φ w) (N : Nat) (p0 : TArg) (p1 : TArg)   {r : Bool} (h : m_l_eqArg N p0 p1 = some r) :
    Calls Try.prog 154 [.agg [.int .i64 p0.K, .string p0.S, .int .i64 p0.V.K, .int .i64 p0.V.N, .string p0.V.S].toArray, .agg [.int .i64 p1.K, .string p1.S, .int .i64 p1.V.K, .int .i64 p1.V.N, .string p1.V.S].toArray].toArray w (Post (.bool r) w) := by
  refine enter Try.func154 rfl Try.ntmps154 rfl (St.start0 hΦ) ?_
  unfold m_l_eqArg at h
  refine WT.seq ?_
  refine WT.region ?_
  refine ln (n_box (C := #[.int .i64 p0.K, .string p0.S, .int .i64 p0.V.K, .int .i64 p0.V.N, .string p0.V.S]) rfl rfl) rfl (fun b_1 => ?_)
  refine ln (n_box (C := #[.int .i64 p1.K, .string p1.S, .int .i64 p1.V.K, .int .i64 p1.V.N, .string p1.V.S]) rfl rfl) rfl (fun b_2 => ?_)
  refine lq (q_assign rfl) rfl ?_
  refine WL.nil ?_
  refine WT.seq ?_
  refine WT.seq ?_
  refine WT.region ?_
  refine lq (q_fieldAddr Fld_140_0 rfl) rfl ?_
  refine lq (q_load1 T1_3 rfl (fun w1 hw => hw.rgO (i := 1) rfl 0 1 [.int .i64 p0.K] rfl)) rfl ?_
  refine lq (q_fieldAddr Fld_140_0 rfl) rfl ?_
  refine lq (q_load1 T1_3 rfl (fun w1 hw => hw.rgO (i := 0) rfl 0 1 [.int .i64 p1.K] rfl)) rfl ?_
  refine lq (q_neq rfl rfl) rfl ?_
  refine WL.nil ?_
  refine WT.cond rfl (fun c1 => ?_) (fun c1 => ?_)
  · replace h := ite_t h c1
    refine WT.seq ?_
    refine WT.region ?_
    refine lq (q_assign rfl) rfl ?_
    refine WL.nil ?_
    refine WT.ret Try.func154 (resOk.one rfl) (fun w1 hw => ?_)
    cases h
    exact post_of_St hw
  replace h := ite_f h c1
  refine WT.skip ?_
  refine WT.seq ?_
  refine WT.seq ?_
  refine WT.region ?_
  refine lq (q_fieldAddr Fld_140_1 rfl) rfl ?_
  refine lq (q_load1 T1_9 rfl (fun w1 hw => hw.rgO (i := 1) rfl 1 1 [.string p0.S] rfl)) rfl ?_
  refine lq (q_fieldAddr Fld_140_1 rfl) rfl ?_
  refine lq (q_load1 T1_9 rfl (fun w1 hw => hw.rgO (i := 0) rfl 1 1 [.string p1.S] rfl)) rfl ?_
  refine lq (q_sne rfl rfl) rfl ?_
  refine WL.nil ?_
  refine WT.cond rfl (fun c2 => ?_) (fun c2 => ?_)
  · replace h := ite_t h c2
    refine WT.seq ?_
    refine WT.region ?_
    refine lq (q_assign rfl) rfl ?_
    refine WL.nil ?_
    refine WT.ret Try.func154 (resOk.one rfl) (fun w1 hw => ?_)
    cases h
    exact post_of_St hw
  replace h := ite_f h c2
  refine WT.skip ?_
  refine WT.seq ?_
  refine WT.seq ?_
  refine WT.region ?_
  refine lq (q_fieldAddr Fld_140_2 rfl) rfl ?_
  refine lq (q_loadN Tn_109 rfl (fun w1 hw => hw.rgO (i := 1) rfl 2 3 [.int .i64 p0.V.K, .int .i64 p0.V.N, .string p0.V.S] rfl) rfl) rfl ?_
  refine lq (q_fieldAddr Fld_140_2 rfl) rfl ?_
  refine lq (q_loadN Tn_109 rfl (fun w1 hw => hw.rgO (i := 0) rfl 2 3 [.int .i64 p1.V.K, .int .i64 p1.V.N, .string p1.V.S] rfl) rfl) rfl ?_
  obtain ⟨x1, hx1, h⟩ := bind_some h
  refine lp (p_call Fun_111 rfl (fun w1 hw => m_l_eqVal_ok hw.fro N p0.V p1.V hx1)) rfl ?_
  refine lq (q_not rfl) rfl ?_
  refine WL.nil ?_
  refine WT.cond rfl (fun c3 => ?_) (fun c3 => ?_)
  · replace h := ite_t h c3
    refine WT.seq ?_
    refine WT.region ?_
    refine lq (q_assign rfl) rfl ?_
    refine WL.nil ?_
    refine WT.ret Try.func154 (resOk.one rfl) (fun w1 hw => ?_)
    cases h
    exact post_of_St hw
  replace h := ite_f h c3
  refine WT.skip ?_
  refine WT.seq ?_
  refine WT.region ?_
  refine lq (q_assign rfl) rfl ?_
  refine WL.nil ?_
  refine WT.ret Try.func154 (resOk.one rfl) (fun w1 hw => ?_)
  cases h
  exact post_of_St hw
theorem m_l_eqArgS_ok {Φ : Hp} {w : World} (hΦ : In Φ w) (N : Nat) (p0 : (List TArg)) (p1 : (List TArg)) {pv0 : Value} {pG0 : List Nat} {pv1 : Value} {pG1 : List Nat} (ph0 : RSl RTArg 5 Φ pG0 pv0 p0) (ph1 : RSl RTArg 5 Φ pG1 pv1 p1) {r : Bool} (h : m_l_eqArgS N p0 p1 = some r) :
    Calls Try.prog 153 [pv0, pv1].toArray w (Post (.bool r) w) := by
  refine enter Try.func153 rfl Try.ntmps153 rfl (St.start0 hΦ) ?_
  generalize hb0 : (⟨w, [], Φ⟩ : Base) = w0
  unfold m_l_eqArgS at h
  refine WT.seq ?_
  refine WT.region ?_
  refine lq (q_assign rfl) rfl ?_
  refine WL.nil ?_
  refine WT.seq ?_
  refine WT.seq ?_
  refine WT.region ?_
  refine lq (q_move rfl) rfl ?_
  refine lq (q_lenR Sl_92 rfl rfl ph0) rfl ?_
  refine lq (q_move rfl) rfl ?_
  refine lq (q_lenR Sl_92 rfl rfl ph1) rfl ?_
  refine lq (q_neq rfl rfl) rfl ?_
  refine WL.nil ?_
  refine WT.cond rfl (fun c1 => ?_) (fun c1 => ?_)
  · replace h := ite_t h c1
    refine WT.seq ?_
    refine WT.region ?_
    refine lq (q_assign rfl) rfl ?_
    refine WL.nil ?_
    refine WT.ret Try.func153 (resOk.one rfl) (fun w1 hw => ?_)
    subst hb0
    cases h
    exact post_of_St hw
  replace h := ite_f h c1
  refine WT.skip ?_
  refine WT.seq ?_
  refine WT.seq ?_
  refine WT.region ?_
  refine lq (q_assign rfl) rfl ?_
  refine WL.nil ?_
  refine WT.block ?_
  refine WT.loop ?_
  refine WT.mono (l' := [(0, pv0), (1, pv1), (5, .int .i64 0)]) (S' := St w0 Φ [] []) ⟨rfl, rfl, rfl, trivial⟩ (fun w1 hw => (hw.sel (js := []) rfl).selO (js := []) rfl) ?_
  refine loop_ind (σ := Int) (fun s => [(0, pv0), (1, pv1), (5, .int .i64 s)]) (fun s => St w0 Φ [] []) (fun m s => m_l_eqArgS_l1 N p0 p1 m s = some r) (fun s hm => none_ne (show (none : Option (Bool)) = some r from hm)) (fun n1 ih1 s hm => ?_) N (0) h
  revert hm; revert s; intro s1 hm
  have h : m_l_eqArgS_l1 N p0 p1 (n1 + 1) s1 = some r := hm
  show WT _ _ [(0, pv0), (1, pv1), (5, .int .i64 s1)] (St w0 Φ [] [])
  unfold m_l_eqArgS_l1 at h
  refine WT.seq ?_
  refine WT.seq ?_
  refine WT.region ?_
  refine lq (q_move rfl) rfl ?_
  refine lq (q_move rfl) rfl ?_
  refine lq (q_lenR Sl_92 rfl rfl ph0) rfl ?_
  refine lq (q_lss rfl rfl) rfl ?_
  refine WL.nil ?_
  refine WT.cond rfl (fun c2 => ?_) (fun c2 => ?_)
  · replace h := ite_t h c2
    refine WT.skip ?_
    refine WT.seq ?_
    refine WT.block ?_
    refine WT.seq ?_
    refine WT.draw mixed (by kernel_rfl) (fun _ h => h.drew) ?_
    refine qq (q_move rfl) rfl ?_
    refine qq (q_move rfl) rfl ?_
    obtain ⟨x1, hx1, h⟩ := bind_some h
    obtain ⟨cs1, F1, -, g1, hb1, hs1, r1⟩ := ph0.el (idx_some hx1).2.2
    obtain ⟨rfl, -⟩ := r1
    refine qq (q_indexAddr Sl_92 rfl rfl ph0 hx1) rfl ?_
    refine qq (q_loadN Tn_140 rfl (fun w1 hw => (g1.of_eq 0 5 rfl rfl : rg _ _ _ [.int .i64 x1.K, .string x1.S, .int .i64 x1.V.K, .int .i64 x1.V.N, .string x1.V.S]).rangeAt hw.fro) rfl) rfl ?_
    refine qq (q_move rfl) rfl ?_
    refine qq (q_move rfl) rfl ?_
    obtain ⟨x2, hx2, h⟩ := bind_some h
    obtain ⟨cs2, F2, -, g2, hb2, hs2, r2⟩ := ph1.el (idx_some hx2).2.2
    obtain ⟨rfl, -⟩ := r2
    refine qq (q_indexAddr Sl_92 rfl rfl ph1 hx2) rfl ?_
    refine qq (q_loadN Tn_140 rfl (fun w1 hw => (g2.of_eq 0 5 rfl rfl : rg _ _ _ [.int .i64 x2.K, .string x2.S, .int .i64 x2.V.K, .int .i64 x2.V.N, .string x2.V.S]).rangeAt hw.fro) rfl) rfl ?_
    obtain ⟨x3, hx3, h⟩ := bind_some h
    refine qp (p_call Fun_154 rfl (fun w1 hw => m_l_eqArg_ok hw.fro N x1 x2 hx3)) rfl ?_
    refine qq (q_not rfl) rfl ?_
    refine WQ.nil ?_
    refine WT.cond rfl (fun c3 => ?_) (fun c3 => ?_)
    · replace h := ite_t h c3
      refine WT.seq ?_
      refine WT.region ?_
      refine lq (q_assign rfl) rfl ?_
      refine WL.nil ?_
      refine WT.ret Try.func153 (resOk.one rfl) (fun w1 hw => ?_)
      subst hb0
      cases h
      exact post_of_St hw
    replace h := ite_f h c3
    refine WT.skip ?_
    refine WT.inBlock ?_
    refine WT.region ?_
    refine lq (q_move rfl) rfl ?_
    refine lq (q_add rfl rfl) rfl ?_
    refine lq (q_assign rfl) rfl ?_
    refine WL.nil ?_
    refine WT.inLoop (WT.mono (l' := [(0, pv0), (1, pv1), (5, .int .i64 (IntKind.i64.wrap (s1 + 1)))]) (S' := St w0 Φ [] []) ⟨rfl, rfl, rfl, trivial⟩ (fun w1 hw => (hw.sel (js := []) rfl).selO (js := []) rfl) ?_)
    exact ih1 (IntKind.i64.wrap (s1 + 1)) h
  replace h := ite_f h c2
  refine WT.exit rfl ?_
  refine WT.seq ?_
  refine WT.region ?_
  refine lq (q_assign rfl) rfl ?_
  refine WL.nil ?_
  refine WT.ret Try.func153 (resOk.one rfl) (fun w1 hw => ?_)
  subst hb0
  cases h
  exact post_of_St hw
theorem m_l_eqPat_ok {Φ : Hp} {w : World} (hΦ : In Φ w) (N : Nat) (p0 : TPat) (p1 : TPat) {pv0_0 : Value} {pG0_0 : List Nat} {pv1_0 : Value} {pG1_0 : List Nat} (ph0_0 : RSl RTArg 5 Φ pG0_0 pv0_0 p0.Args) (ph1_0 : RSl RTArg 5 Φ pG1_0 pv1_0 p1.Args) {r : Bool} (h : m_l_eqPat N p0 p1 = some r) :
    Calls Try.prog 112 [.agg [.string p0.Kind, pv0_0, .bool p0.Not].toArray, .agg [.string p1.Kind, pv1_0, .bool p1.Not].toArray].toArray w (Post (.bool r) w) := by
  refine enter Try.func112 rfl Try.ntmps112 rfl (St.start0 hΦ) ?_
  unfold m_l_eqPat at h
  refine WT.seq ?_
  refine WT.region ?_
  refine ln (n_box (C := #[.string p0.Kind, pv0_0, .bool p0.Not]) rfl rfl) rfl (fun b_1 => ?_)
  refine ln (n_box (C := #[.string p1.Kind, pv1_0, .bool p1.Not]) rfl rfl) rfl (fun b_2 => ?_)
  refine lq (q_assign rfl) rfl ?_
  refine WL.nil ?_
  refine WT.seq ?_
  refine WT.seq ?_
  refine WT.region ?_
  refine lq (q_fieldAddr Fld_94_0 rfl) rfl ?_
  refine lq (q_load1 T1_9 rfl (fun w1 hw => hw.rgO (i := 1) rfl 0 1 [.string p0.Kind] rfl)) rfl ?_
  refine lq (q_fieldAddr Fld_94_0 rfl) rfl ?_
  refine lq (q_load1 T1_9 rfl (fun w1 hw => hw.rgO (i := 0) rfl 0 1 [.string p1.Kind] rfl)) rfl ?_
  refine lq (q_sne rfl rfl) rfl ?_
  refine WL.nil ?_
  refine WT.cond rfl (fun c1 => ?_) (fun c1 => ?_)
  · replace h := ite_t h c1
    refine WT.seq ?_
    refine WT.region ?_
    refine lq (q_assign rfl) rfl ?_
    refine WL.nil ?_
    refine WT.ret Try.func112 (resOk.one rfl) (fun w1 hw => ?_)
    cases h
    exact post_of_St hw
  replace h := ite_f h c1
  refine WT.skip ?_
  refine WT.seq ?_
  refine WT.seq ?_
  refine WT.region ?_
  refine lq (q_fieldAddr Fld_94_1 rfl) rfl ?_
  refine lq (q_load1 T1_92 rfl (fun w1 hw => hw.rgO (i := 1) rfl 1 1 [pv0_0] rfl)) rfl ?_
  refine lq (q_fieldAddr Fld_94_1 rfl) rfl ?_
  refine lq (q_load1 T1_92 rfl (fun w1 hw => hw.rgO (i := 0) rfl 1 1 [pv1_0] rfl)) rfl ?_
  obtain ⟨x1, hx1, h⟩ := bind_some h
  refine lp (p_call Fun_153 rfl (fun w1 hw => m_l_eqArgS_ok hw.fro N p0.Args p1.Args ph0_0 ph1_0 hx1)) rfl ?_
  refine lq (q_not rfl) rfl ?_
  refine WL.nil ?_
  refine WT.cond rfl (fun c2 => ?_) (fun c2 => ?_)
  · replace h := ite_t h c2
    refine WT.seq ?_
    refine WT.region ?_
    refine lq (q_assign rfl) rfl ?_
    refine WL.nil ?_
    refine WT.ret Try.func112 (resOk.one rfl) (fun w1 hw => ?_)
    cases h
    exact post_of_St hw
  replace h := ite_f h c2
  refine WT.skip ?_
  refine WT.seq ?_
  refine WT.seq ?_
  refine WT.region ?_
  refine lq (q_fieldAddr Fld_94_2 rfl) rfl ?_
  refine lq (q_load1 T1_4 rfl (fun w1 hw => hw.rgO (i := 1) rfl 2 1 [.bool p0.Not] rfl)) rfl ?_
  refine lq (q_fieldAddr Fld_94_2 rfl) rfl ?_
  refine lq (q_load1 T1_4 rfl (fun w1 hw => hw.rgO (i := 0) rfl 2 1 [.bool p1.Not] rfl)) rfl ?_
  refine lq (q_bne Bo_4 rfl rfl) rfl ?_
  refine WL.nil ?_
  refine WT.cond rfl (fun c3 => ?_) (fun c3 => ?_)
  · replace h := ite_t h c3
    refine WT.seq ?_
    refine WT.region ?_
    refine lq (q_assign rfl) rfl ?_
    refine WL.nil ?_
    refine WT.ret Try.func112 (resOk.one rfl) (fun w1 hw => ?_)
    cases h
    exact post_of_St hw
  replace h := ite_f h c3
  refine WT.skip ?_
  refine WT.seq ?_
  refine WT.region ?_
  refine lq (q_assign rfl) rfl ?_
  refine WL.nil ?_
  refine WT.ret Try.func112 (resOk.one rfl) (fun w1 hw => ?_)
  cases h
  exact post_of_St hw
theorem m_l_eqPatS_ok {Φ : Hp} {w : World} (hΦ : In Φ w) (N : Nat) (p0 : (List TPat)) (p1 : (List TPat)) {pv0 : Value} {pG0 : List Nat} {pv1 : Value} {pG1 : List Nat} (ph0 : RSl RTPat 3 Φ pG0 pv0 p0) (ph1 : RSl RTPat 3 Φ pG1 pv1 p1) {r : Bool} (h : m_l_eqPatS N p0 p1 = some r) :
    Calls Try.prog 61 [pv0, pv1].toArray w (Post (.bool r) w) := by
  refine enter Try.func61 rfl Try.ntmps61 rfl (St.start0 hΦ) ?_
  generalize hb0 : (⟨w, [], Φ⟩ : Base) = w0
  unfold m_l_eqPatS at h
  refine WT.seq ?_
  refine WT.region ?_
  refine lq (q_assign rfl) rfl ?_
  refine WL.nil ?_
  refine WT.seq ?_
  refine WT.seq ?_
  refine WT.region ?_
  refine lq (q_move rfl) rfl ?_
  refine lq (q_lenR Sl_47 rfl rfl ph0) rfl ?_
  refine lq (q_move rfl) rfl ?_
  refine lq (q_lenR Sl_47 rfl rfl ph1) rfl ?_
  refine lq (q_neq rfl rfl) rfl ?_
  refine WL.nil ?_
  refine WT.cond rfl (fun c1 => ?_) (fun c1 => ?_)
  · replace h := ite_t h c1
    refine WT.seq ?_
    refine WT.region ?_
    refine lq (q_assign rfl) rfl ?_
    refine WL.nil ?_
    refine WT.ret Try.func61 (resOk.one rfl) (fun w1 hw => ?_)
    subst hb0
    cases h
    exact post_of_St hw
  replace h := ite_f h c1
  refine WT.skip ?_
  refine WT.seq ?_
  refine WT.seq ?_
  refine WT.region ?_
  refine lq (q_assign rfl) rfl ?_
  refine WL.nil ?_
  refine WT.block ?_
  refine WT.loop ?_
  refine WT.mono (l' := [(0, pv0), (1, pv1), (5, .int .i64 0)]) (S' := St w0 Φ [] []) ⟨rfl, rfl, rfl, trivial⟩ (fun w1 hw => (hw.sel (js := []) rfl).selO (js := []) rfl) ?_
  refine loop_ind (σ := Int) (fun s => [(0, pv0), (1, pv1), (5, .int .i64 s)]) (fun s => St w0 Φ [] []) (fun m s => m_l_eqPatS_l1 N p0 p1 m s = some r) (fun s hm => none_ne (show (none : Option (Bool)) = some r from hm)) (fun n1 ih1 s hm => ?_) N (0) h
  revert hm; revert s; intro s1 hm
  have h : m_l_eqPatS_l1 N p0 p1 (n1 + 1) s1 = some r := hm
  show WT _ _ [(0, pv0), (1, pv1), (5, .int .i64 s1)] (St w0 Φ [] [])
  unfold m_l_eqPatS_l1 at h
  refine WT.seq ?_
  refine WT.seq ?_
  refine WT.region ?_
  refine lq (q_move rfl) rfl ?_
  refine lq (q_move rfl) rfl ?_
  refine lq (q_lenR Sl_47 rfl rfl ph0) rfl ?_
  refine lq (q_lss rfl rfl) rfl ?_
  refine WL.nil ?_
  refine WT.cond rfl (fun c2 => ?_) (fun c2 => ?_)
  · replace h := ite_t h c2
    refine WT.skip ?_
    refine WT.seq ?_
    refine WT.block ?_
    refine WT.seq ?_
    refine WT.draw mixed (by kernel_rfl) (fun _ h => h.drew) ?_
    refine qq (q_move rfl) rfl ?_
    refine qq (q_move rfl) rfl ?_
    obtain ⟨x1, hx1, h⟩ := bind_some h
    obtain ⟨cs1, F1, -, g1, hb1, hs1, r1⟩ := ph0.el (idx_some hx1).2.2
    obtain ⟨v1, G1, rfl, hq1, h1⟩ := r1
    obtain rfl := hq1.symm
    refine qq (q_indexAddr Sl_47 rfl rfl ph0 hx1) rfl ?_
    refine qq (q_loadN Tn_94 rfl (fun w1 hw => (g1.of_eq 0 3 rfl rfl : rg _ _ _ [.string x1.Kind, v1, .bool x1.Not]).rangeAt hw.fro) rfl) rfl ?_
    refine qq (q_move rfl) rfl ?_
    refine qq (q_move rfl) rfl ?_
    obtain ⟨x2, hx2, h⟩ := bind_some h
    obtain ⟨cs2, F2, -, g2, hb2, hs2, r2⟩ := ph1.el (idx_some hx2).2.2
    obtain ⟨v2, G2, rfl, hq2, h2⟩ := r2
    obtain rfl := hq2.symm
    refine qq (q_indexAddr Sl_47 rfl rfl ph1 hx2) rfl ?_
    refine qq (q_loadN Tn_94 rfl (fun w1 hw => (g2.of_eq 0 3 rfl rfl : rg _ _ _ [.string x2.Kind, v2, .bool x2.Not]).rangeAt hw.fro) rfl) rfl ?_
    obtain ⟨x3, hx3, h⟩ := bind_some h
    refine qp (p_call Fun_112 rfl (fun w1 hw => m_l_eqPat_ok hw.fro N x1 x2 h1 h2 hx3)) rfl ?_
    refine qq (q_not rfl) rfl ?_
    refine WQ.nil ?_
    refine WT.cond rfl (fun c3 => ?_) (fun c3 => ?_)
    · replace h := ite_t h c3
      refine WT.seq ?_
      refine WT.region ?_
      refine lq (q_assign rfl) rfl ?_
      refine WL.nil ?_
      refine WT.ret Try.func61 (resOk.one rfl) (fun w1 hw => ?_)
      subst hb0
      cases h
      exact post_of_St hw
    replace h := ite_f h c3
    refine WT.skip ?_
    refine WT.inBlock ?_
    refine WT.region ?_
    refine lq (q_move rfl) rfl ?_
    refine lq (q_add rfl rfl) rfl ?_
    refine lq (q_assign rfl) rfl ?_
    refine WL.nil ?_
    refine WT.inLoop (WT.mono (l' := [(0, pv0), (1, pv1), (5, .int .i64 (IntKind.i64.wrap (s1 + 1)))]) (S' := St w0 Φ [] []) ⟨rfl, rfl, rfl, trivial⟩ (fun w1 hw => (hw.sel (js := []) rfl).selO (js := []) rfl) ?_)
    exact ih1 (IntKind.i64.wrap (s1 + 1)) h
  replace h := ite_f h c2
  refine WT.exit rfl ?_
  refine WT.seq ?_
  refine WT.region ?_
  refine lq (q_assign rfl) rfl ?_
  refine WL.nil ?_
  refine WT.ret Try.func61 (resOk.one rfl) (fun w1 hw => ?_)
  subst hb0
  cases h
  exact post_of_St hw
theorem m_l_eqCond_ok {Φ : Hp} {w : World} (hΦ : In Φ w) (N : Nat) (p0 : TCond) (p1 : TCond)   {r : Bool} (h : m_l_eqCond N p0 p1 = some r) :
    Calls Try.prog 113 [.agg [.int .i64 p0.Op, .int .i64 p0.L.K, .string p0.L.S, .int .i64 p0.L.V.K, .int .i64 p0.L.V.N, .string p0.L.V.S, .int .i64 p0.R.K, .string p0.R.S, .int .i64 p0.R.V.K, .int .i64 p0.R.V.N, .string p0.R.V.S].toArray, .agg [.int .i64 p1.Op, .int .i64 p1.L.K, .string p1.L.S, .int .i64 p1.L.V.K, .int .i64 p1.L.V.N, .string p1.L.V.S, .int .i64 p1.R.K, .string p1.R.S, .int .i64 p1.R.V.K, .int .i64 p1.R.V.N, .string p1.R.V.S].toArray].toArray w (Post (.bool r) w) := by
  refine enter Try.func113 rfl Try.ntmps113 rfl (St.start0 hΦ) ?_
  unfold m_l_eqCond at h
  refine WT.seq ?_
  refine WT.region ?_
  refine ln (n_box (C := #[.int .i64 p0.Op, .int .i64 p0.L.K, .string p0.L.S, .int .i64 p0.L.V.K, .int .i64 p0.L.V.N, .string p0.L.V.S, .int .i64 p0.R.K, .string p0.R.S, .int .i64 p0.R.V.K, .int .i64 p0.R.V.N, .string p0.R.V.S]) rfl rfl) rfl (fun b_1 => ?_)
  refine ln (n_box (C := #[.int .i64 p1.Op, .int .i64 p1.L.K, .string p1.L.S, .int .i64 p1.L.V.K, .int .i64 p1.L.V.N, .string p1.L.V.S, .int .i64 p1.R.K, .string p1.R.S, .int .i64 p1.R.V.K, .int .i64 p1.R.V.N, .string p1.R.V.S]) rfl rfl) rfl (fun b_2 => ?_)
  refine lq (q_assign rfl) rfl ?_
  refine WL.nil ?_
  refine WT.seq ?_
  refine WT.seq ?_
  refine WT.region ?_
  refine lq (q_fieldAddr Fld_142_0 rfl) rfl ?_
  refine lq (q_load1 T1_3 rfl (fun w1 hw => hw.rgO (i := 1) rfl 0 1 [.int .i64 p0.Op] rfl)) rfl ?_
  refine lq (q_fieldAddr Fld_142_0 rfl) rfl ?_
  refine lq (q_load1 T1_3 rfl (fun w1 hw => hw.rgO (i := 0) rfl 0 1 [.int .i64 p1.Op] rfl)) rfl ?_
  refine lq (q_neq rfl rfl) rfl ?_
  refine WL.nil ?_
  refine WT.cond rfl (fun c1 => ?_) (fun c1 => ?_)
  · replace h := ite_t h c1
    refine WT.seq ?_
    refine WT.region ?_
    refine lq (q_assign rfl) rfl ?_
    refine WL.nil ?_
    refine WT.ret Try.func113 (resOk.one rfl) (fun w1 hw => ?_)
    cases h
    exact post_of_St hw
  replace h := ite_f h c1
  refine WT.skip ?_
  refine WT.seq ?_
  refine WT.seq ?_
  refine WT.region ?_
  refine lq (q_fieldAddr Fld_142_1 rfl) rfl ?_
  refine lq (q_loadN Tn_140 rfl (fun w1 hw => hw.rgO (i := 1) rfl 1 5 [.int .i64 p0.L.K, .string p0.L.S, .int .i64 p0.L.V.K, .int .i64 p0.L.V.N, .string p0.L.V.S] rfl) rfl) rfl ?_
  refine lq (q_fieldAddr Fld_142_1 rfl) rfl ?_
  refine lq (q_loadN Tn_140 rfl (fun w1 hw => hw.rgO (i := 0) rfl 1 5 [.int .i64 p1.L.K, .string p1.L.S, .int .i64 p1.L.V.K, .int .i64 p1.L.V.N, .string p1.L.V.S] rfl) rfl) rfl ?_
  obtain ⟨x1, hx1, h⟩ := bind_some h
  refine lp (p_call Fun_154 rfl (fun w1 hw => m_l_eqArg_ok hw.fro N p0.L p1.L hx1)) rfl ?_
  refine lq (q_not rfl) rfl ?_
  refine WL.nil ?_
  refine WT.cond rfl (fun c2 => ?_) (fun c2 => ?_)
  · replace h := ite_t h c2
    refine WT.seq ?_
    refine WT.region ?_
    refine lq (q_assign rfl) rfl ?_
    refine WL.nil ?_
    refine WT.ret Try.func113 (resOk.one rfl) (fun w1 hw => ?_)
    cases h
    exact post_of_St hw
  replace h := ite_f h c2
  refine WT.skip ?_
  refine WT.seq ?_
  refine WT.seq ?_
  refine WT.region ?_
  refine lq (q_fieldAddr Fld_142_2 rfl) rfl ?_
  refine lq (q_loadN Tn_140 rfl (fun w1 hw => hw.rgO (i := 1) rfl 6 5 [.int .i64 p0.R.K, .string p0.R.S, .int .i64 p0.R.V.K, .int .i64 p0.R.V.N, .string p0.R.V.S] rfl) rfl) rfl ?_
  refine lq (q_fieldAddr Fld_142_2 rfl) rfl ?_
  refine lq (q_loadN Tn_140 rfl (fun w1 hw => hw.rgO (i := 0) rfl 6 5 [.int .i64 p1.R.K, .string p1.R.S, .int .i64 p1.R.V.K, .int .i64 p1.R.V.N, .string p1.R.V.S] rfl) rfl) rfl ?_
  obtain ⟨x2, hx2, h⟩ := bind_some h
  refine lp (p_call Fun_154 rfl (fun w1 hw => m_l_eqArg_ok hw.fro N p0.R p1.R hx2)) rfl ?_
  refine lq (q_not rfl) rfl ?_
  refine WL.nil ?_
  refine WT.cond rfl (fun c3 => ?_) (fun c3 => ?_)
  · replace h := ite_t h c3
    refine WT.seq ?_
    refine WT.region ?_
    refine lq (q_assign rfl) rfl ?_
    refine WL.nil ?_
    refine WT.ret Try.func113 (resOk.one rfl) (fun w1 hw => ?_)
    cases h
    exact post_of_St hw
  replace h := ite_f h c3
  refine WT.skip ?_
  refine WT.seq ?_
  refine WT.region ?_
  refine lq (q_assign rfl) rfl ?_
  refine WL.nil ?_
  refine WT.ret Try.func113 (resOk.one rfl) (fun w1 hw => ?_)
  cases h
  exact post_of_St hw
theorem m_l_eqCondS_ok {Φ : Hp} {w : World} (hΦ : In Φ w) (N : Nat) (p0 : (List TCond)) (p1 : (List TCond)) {pv0 : Value} {pG0 : List Nat} {pv1 : Value} {pG1 : List Nat} (ph0 : RSl RTCond 11 Φ pG0 pv0 p0) (ph1 : RSl RTCond 11 Φ pG1 pv1 p1) {r : Bool} (h : m_l_eqCondS N p0 p1 = some r) :
    Calls Try.prog 62 [pv0, pv1].toArray w (Post (.bool r) w) := by
  refine enter Try.func62 rfl Try.ntmps62 rfl (St.start0 hΦ) ?_
  generalize hb0 : (⟨w, [], Φ⟩ : Base) = w0
  unfold m_l_eqCondS at h
  refine WT.seq ?_
  refine WT.region ?_
  refine lq (q_assign rfl) rfl ?_
  refine WL.nil ?_
  refine WT.seq ?_
  refine WT.seq ?_
  refine WT.region ?_
  refine lq (q_move rfl) rfl ?_
  refine lq (q_lenR Sl_48 rfl rfl ph0) rfl ?_
  refine lq (q_move rfl) rfl ?_
  refine lq (q_lenR Sl_48 rfl rfl ph1) rfl ?_
  refine lq (q_neq rfl rfl) rfl ?_
  refine WL.nil ?_
  refine WT.cond rfl (fun c1 => ?_) (fun c1 => ?_)
  · replace h := ite_t h c1
    refine WT.seq ?_
    refine WT.region ?_
    refine lq (q_assign rfl) rfl ?_
    refine WL.nil ?_
    refine WT.ret Try.func62 (resOk.one rfl) (fun w1 hw => ?_)
    subst hb0
    cases h
    exact post_of_St hw
  replace h := ite_f h c1
  refine WT.skip ?_
  refine WT.seq ?_
  refine WT.seq ?_
  refine WT.region ?_
  refine lq (q_assign rfl) rfl ?_
  refine WL.nil ?_
  refine WT.block ?_
  refine WT.loop ?_
  refine WT.mono (l' := [(0, pv0), (1, pv1), (5, .int .i64 0)]) (S' := St w0 Φ [] []) ⟨rfl, rfl, rfl, trivial⟩ (fun w1 hw => (hw.sel (js := []) rfl).selO (js := []) rfl) ?_
  refine loop_ind (σ := Int) (fun s => [(0, pv0), (1, pv1), (5, .int .i64 s)]) (fun s => St w0 Φ [] []) (fun m s => m_l_eqCondS_l1 N p0 p1 m s = some r) (fun s hm => none_ne (show (none : Option (Bool)) = some r from hm)) (fun n1 ih1 s hm => ?_) N (0) h
  revert hm; revert s; intro s1 hm
  have h : m_l_eqCondS_l1 N p0 p1 (n1 + 1) s1 = some r := hm
  show WT _ _ [(0, pv0), (1, pv1), (5, .int .i64 s1)] (St w0 Φ [] [])
  unfold m_l_eqCondS_l1 at h
  refine WT.seq ?_
  refine WT.seq ?_
  refine WT.region ?_
  refine lq (q_move rfl) rfl ?_
  refine lq (q_move rfl) rfl ?_
  refine lq (q_lenR Sl_48 rfl rfl ph0) rfl ?_
  refine lq (q_lss rfl rfl) rfl ?_
  refine WL.nil ?_
  refine WT.cond rfl (fun c2 => ?_) (fun c2 => ?_)
  · replace h := ite_t h c2
    refine WT.skip ?_
    refine WT.seq ?_
    refine WT.block ?_
    refine WT.seq ?_
    refine WT.draw mixed (by kernel_rfl) (fun _ h => h.drew) ?_
    refine qq (q_move rfl) rfl ?_
    refine qq (q_move rfl) rfl ?_
    obtain ⟨x1, hx1, h⟩ := bind_some h
    obtain ⟨cs1, F1, -, g1, hb1, hs1, r1⟩ := ph0.el (idx_some hx1).2.2
    obtain ⟨rfl, -⟩ := r1
    refine qq (q_indexAddr Sl_48 rfl rfl ph0 hx1) rfl ?_
    refine qq (q_loadN Tn_142 rfl (fun w1 hw => (g1.of_eq 0 11 rfl rfl : rg _ _ _ [.int .i64 x1.Op, .int .i64 x1.L.K, .string x1.L.S, .int .i64 x1.L.V.K, .int .i64 x1.L.V.N, .string x1.L.V.S, .int .i64 x1.R.K, .string x1.R.S, .int .i64 x1.R.V.K, .int .i64 x1.R.V.N, .string x1.R.V.S]).rangeAt hw.fro) rfl) rfl ?_
    refine qq (q_move rfl) rfl ?_
    refine qq (q_move rfl) rfl ?_
    obtain ⟨x2, hx2, h⟩ := bind_some h
    obtain ⟨cs2, F2, -, g2, hb2, hs2, r2⟩ := ph1.el (idx_some hx2).2.2
    obtain ⟨rfl, -⟩ := r2
    refine qq (q_indexAddr Sl_48 rfl rfl ph1 hx2) rfl ?_
    refine qq (q_loadN Tn_142 rfl (fun w1 hw => (g2.of_eq 0 11 rfl rfl : rg _ _ _ [.int .i64 x2.Op, .int .i64 x2.L.K, .string x2.L.S, .int .i64 x2.L.V.K, .int .i64 x2.L.V.N, .string x2.L.V.S, .int .i64 x2.R.K, .string x2.R.S, .int .i64 x2.R.V.K, .int .i64 x2.R.V.N, .string x2.R.V.S]).rangeAt hw.fro) rfl) rfl ?_
    obtain ⟨x3, hx3, h⟩ := bind_some h
    refine qp (p_call Fun_113 rfl (fun w1 hw => m_l_eqCond_ok hw.fro N x1 x2 hx3)) rfl ?_
    refine qq (q_not rfl) rfl ?_
    refine WQ.nil ?_
    refine WT.cond rfl (fun c3 => ?_) (fun c3 => ?_)
    · replace h := ite_t h c3
      refine WT.seq ?_
      refine WT.region ?_
      refine lq (q_assign rfl) rfl ?_
      refine WL.nil ?_
      refine WT.ret Try.func62 (resOk.one rfl) (fun w1 hw => ?_)
      subst hb0
      cases h
      exact post_of_St hw
    replace h := ite_f h c3
    refine WT.skip ?_
    refine WT.inBlock ?_
    refine WT.region ?_
    refine lq (q_move rfl) rfl ?_
    refine lq (q_add rfl rfl) rfl ?_
    refine lq (q_assign rfl) rfl ?_
    refine WL.nil ?_
    refine WT.inLoop (WT.mono (l' := [(0, pv0), (1, pv1), (5, .int .i64 (IntKind.i64.wrap (s1 + 1)))]) (S' := St w0 Φ [] []) ⟨rfl, rfl, rfl, trivial⟩ (fun w1 hw => (hw.sel (js := []) rfl).selO (js := []) rfl) ?_)
    exact ih1 (IntKind.i64.wrap (s1 + 1)) h
  replace h := ite_f h c2
  refine WT.exit rfl ?_
  refine WT.seq ?_
  refine WT.region ?_
  refine lq (q_assign rfl) rfl ?_
  refine WL.nil ?_
  refine WT.ret Try.func62 (resOk.one rfl) (fun w1 hw => ?_)
  subst hb0
  cases h
  exact post_of_St hw
theorem m_l_eqExpr_ok {Φ : Hp} {w : World} (hΦ : In Φ w) (N : Nat) (p0 : TExpr) (p1 : TExpr)   {r : Bool} (h : m_l_eqExpr N p0 p1 = some r) :
    Calls Try.prog 176 [.agg [.string p0.Op, .int .i64 p0.L.K, .string p0.L.S, .int .i64 p0.L.V.K, .int .i64 p0.L.V.N, .string p0.L.V.S, .int .i64 p0.R.K, .string p0.R.S, .int .i64 p0.R.V.K, .int .i64 p0.R.V.N, .string p0.R.V.S].toArray, .agg [.string p1.Op, .int .i64 p1.L.K, .string p1.L.S, .int .i64 p1.L.V.K, .int .i64 p1.L.V.N, .string p1.L.V.S, .int .i64 p1.R.K, .string p1.R.S, .int .i64 p1.R.V.K, .int .i64 p1.R.V.N, .string p1.R.V.S].toArray].toArray w (Post (.bool r) w) := by
  refine enter Try.func176 rfl Try.ntmps176 rfl (St.start0 hΦ) ?_
  unfold m_l_eqExpr at h
  refine WT.seq ?_
  refine WT.region ?_
  refine ln (n_box (C := #[.string p0.Op, .int .i64 p0.L.K, .string p0.L.S, .int .i64 p0.L.V.K, .int .i64 p0.L.V.N, .string p0.L.V.S, .int .i64 p0.R.K, .string p0.R.S, .int .i64 p0.R.V.K, .int .i64 p0.R.V.N, .string p0.R.V.S]) rfl rfl) rfl (fun b_1 => ?_)
  refine ln (n_box (C := #[.string p1.Op, .int .i64 p1.L.K, .string p1.L.S, .int .i64 p1.L.V.K, .int .i64 p1.L.V.N, .string p1.L.V.S, .int .i64 p1.R.K, .string p1.R.S, .int .i64 p1.R.V.K, .int .i64 p1.R.V.N, .string p1.R.V.S]) rfl rfl) rfl (fun b_2 => ?_)
  refine lq (q_assign rfl) rfl ?_
  refine WL.nil ?_
  refine WT.seq ?_
  refine WT.seq ?_
  refine WT.region ?_
  refine lq (q_fieldAddr Fld_197_0 rfl) rfl ?_
  refine lq (q_load1 T1_9 rfl (fun w1 hw => hw.rgO (i := 1) rfl 0 1 [.string p0.Op] rfl)) rfl ?_
  refine lq (q_fieldAddr Fld_197_0 rfl) rfl ?_
  refine lq (q_load1 T1_9 rfl (fun w1 hw => hw.rgO (i := 0) rfl 0 1 [.string p1.Op] rfl)) rfl ?_
  refine lq (q_sne rfl rfl) rfl ?_
  refine WL.nil ?_
  refine WT.cond rfl (fun c1 => ?_) (fun c1 => ?_)
  · replace h := ite_t h c1
    refine WT.seq ?_
    refine WT.region ?_
    refine lq (q_assign rfl) rfl ?_
    refine WL.nil ?_
    refine WT.ret Try.func176 (resOk.one rfl) (fun w1 hw => ?_)
    cases h
    exact post_of_St hw
  replace h := ite_f h c1
  refine WT.skip ?_
  refine WT.seq ?_
  refine WT.seq ?_
  refine WT.region ?_
  refine lq (q_fieldAddr Fld_197_1 rfl) rfl ?_
  refine lq (q_loadN Tn_140 rfl (fun w1 hw => hw.rgO (i := 1) rfl 1 5 [.int .i64 p0.L.K, .string p0.L.S, .int .i64 p0.L.V.K, .int .i64 p0.L.V.N, .string p0.L.V.S] rfl) rfl) rfl ?_
  refine lq (q_fieldAddr Fld_197_1 rfl) rfl ?_
  refine lq (q_loadN Tn_140 rfl (fun w1 hw => hw.rgO (i := 0) rfl 1 5 [.int .i64 p1.L.K, .string p1.L.S, .int .i64 p1.L.V.K, .int .i64 p1.L.V.N, .string p1.L.V.S] rfl) rfl) rfl ?_
  obtain ⟨x1, hx1, h⟩ := bind_some h
  refine lp (p_call Fun_154 rfl (fun w1 hw => m_l_eqArg_ok hw.fro N p0.L p1.L hx1)) rfl ?_
  refine lq (q_not rfl) rfl ?_
  refine WL.nil ?_
  refine WT.cond rfl (fun c2 => ?_) (fun c2 => ?_)
  · replace h := ite_t h c2
    refine WT.seq ?_
    refine WT.region ?_
    refine lq (q_assign rfl) rfl ?_
    refine WL.nil ?_
    refine WT.ret Try.func176 (resOk.one rfl) (fun w1 hw => ?_)
    cases h
    exact post_of_St hw
  replace h := ite_f h c2
  refine WT.skip ?_
  refine WT.seq ?_
  refine WT.seq ?_
  refine WT.region ?_
  refine lq (q_fieldAddr Fld_197_2 rfl) rfl ?_
  refine lq (q_loadN Tn_140 rfl (fun w1 hw => hw.rgO (i := 1) rfl 6 5 [.int .i64 p0.R.K, .string p0.R.S, .int .i64 p0.R.V.K, .int .i64 p0.R.V.N, .string p0.R.V.S] rfl) rfl) rfl ?_
  refine lq (q_fieldAddr Fld_197_2 rfl) rfl ?_
  refine lq (q_loadN Tn_140 rfl (fun w1 hw => hw.rgO (i := 0) rfl 6 5 [.int .i64 p1.R.K, .string p1.R.S, .int .i64 p1.R.V.K, .int .i64 p1.R.V.N, .string p1.R.V.S] rfl) rfl) rfl ?_
  obtain ⟨x2, hx2, h⟩ := bind_some h
  refine lp (p_call Fun_154 rfl (fun w1 hw => m_l_eqArg_ok hw.fro N p0.R p1.R hx2)) rfl ?_
  refine lq (q_not rfl) rfl ?_
  refine WL.nil ?_
  refine WT.cond rfl (fun c3 => ?_) (fun c3 => ?_)
  · replace h := ite_t h c3
    refine WT.seq ?_
    refine WT.region ?_
    refine lq (q_assign rfl) rfl ?_
    refine WL.nil ?_
    refine WT.ret Try.func176 (resOk.one rfl) (fun w1 hw => ?_)
    cases h
    exact post_of_St hw
  replace h := ite_f h c3
  refine WT.skip ?_
  refine WT.seq ?_
  refine WT.region ?_
  refine lq (q_assign rfl) rfl ?_
  refine WL.nil ?_
  refine WT.ret Try.func176 (resOk.one rfl) (fun w1 hw => ?_)
  cases h
  exact post_of_St hw
theorem m_l_eqExprS_ok {Φ : Hp} {w : World} (hΦ : In Φ w) (N : Nat) (p0 : (List TExpr)) (p1 : (List TExpr)) {pv0 : Value} {pG0 : List Nat} {pv1 : Value} {pG1 : List Nat} (ph0 : RSl RTExpr 11 Φ pG0 pv0 p0) (ph1 : RSl RTExpr 11 Φ pG1 pv1 p1) {r : Bool} (h : m_l_eqExprS N p0 p1 = some r) :
    Calls Try.prog 155 [pv0, pv1].toArray w (Post (.bool r) w) := by
  refine enter Try.func155 rfl Try.ntmps155 rfl (St.start0 hΦ) ?_
  generalize hb0 : (⟨w, [], Φ⟩ : Base) = w0
  unfold m_l_eqExprS at h
  refine WT.seq ?_
  refine WT.region ?_
  refine lq (q_assign rfl) rfl ?_
  refine WL.nil ?_
  refine WT.seq ?_
  refine WT.seq ?_
  refine WT.region ?_
  refine lq (q_move rfl) rfl ?_
  refine lq (q_lenR Sl_144 rfl rfl ph0) rfl ?_
  refine lq (q_move rfl) rfl ?_
  refine lq (q_lenR Sl_144 rfl rfl ph1) rfl ?_
  refine lq (q_neq rfl rfl) rfl ?_
  refine WL.nil ?_
  refine WT.cond rfl (fun c1 => ?_) (fun c1 => ?_)
  · replace h := ite_t h c1
    refine WT.seq ?_
    refine WT.region ?_
    refine lq (q_assign rfl) rfl ?_
    refine WL.nil ?_
    refine WT.ret Try.func155 (resOk.one rfl) (fun w1 hw => ?_)
    subst hb0
    cases h
    exact post_of_St hw
  replace h := ite_f h c1
  refine WT.skip ?_
  refine WT.seq ?_
  refine WT.seq ?_
  refine WT.region ?_
  refine lq (q_assign rfl) rfl ?_
  refine WL.nil ?_
  refine WT.block ?_
  refine WT.loop ?_
  refine WT.mono (l' := [(0, pv0), (1, pv1), (5, .int .i64 0)]) (S' := St w0 Φ [] []) ⟨rfl, rfl, rfl, trivial⟩ (fun w1 hw => (hw.sel (js := []) rfl).selO (js := []) rfl) ?_
  refine loop_ind (σ := Int) (fun s => [(0, pv0), (1, pv1), (5, .int .i64 s)]) (fun s => St w0 Φ [] []) (fun m s => m_l_eqExprS_l1 N p0 p1 m s = some r) (fun s hm => none_ne (show (none : Option (Bool)) = some r from hm)) (fun n1 ih1 s hm => ?_) N (0) h
  revert hm; revert s; intro s1 hm
  have h : m_l_eqExprS_l1 N p0 p1 (n1 + 1) s1 = some r := hm
  show WT _ _ [(0, pv0), (1, pv1), (5, .int .i64 s1)] (St w0 Φ [] [])
  unfold m_l_eqExprS_l1 at h
  refine WT.seq ?_
  refine WT.seq ?_
  refine WT.region ?_
  refine lq (q_move rfl) rfl ?_
  refine lq (q_move rfl) rfl ?_
  refine lq (q_lenR Sl_144 rfl rfl ph0) rfl ?_
  refine lq (q_lss rfl rfl) rfl ?_
  refine WL.nil ?_
  refine WT.cond rfl (fun c2 => ?_) (fun c2 => ?_)
  · replace h := ite_t h c2
    refine WT.skip ?_
    refine WT.seq ?_
    refine WT.block ?_
    refine WT.seq ?_
    refine WT.draw mixed (by kernel_rfl) (fun _ h => h.drew) ?_
    refine qq (q_move rfl) rfl ?_
    refine qq (q_move rfl) rfl ?_
    obtain ⟨x1, hx1, h⟩ := bind_some h
    obtain ⟨cs1, F1, -, g1, hb1, hs1, r1⟩ := ph0.el (idx_some hx1).2.2
    obtain ⟨rfl, -⟩ := r1
    refine qq (q_indexAddr Sl_144 rfl rfl ph0 hx1) rfl ?_
    refine qq (q_loadN Tn_197 rfl (fun w1 hw => (g1.of_eq 0 11 rfl rfl : rg _ _ _ [.string x1.Op, .int .i64 x1.L.K, .string x1.L.S, .int .i64 x1.L.V.K, .int .i64 x1.L.V.N, .string x1.L.V.S, .int .i64 x1.R.K, .string x1.R.S, .int .i64 x1.R.V.K, .int .i64 x1.R.V.N, .string x1.R.V.S]).rangeAt hw.fro) rfl) rfl ?_
    refine qq (q_move rfl) rfl ?_
    refine qq (q_move rfl) rfl ?_
    obtain ⟨x2, hx2, h⟩ := bind_some h
    obtain ⟨cs2, F2, -, g2, hb2, hs2, r2⟩ := ph1.el (idx_some hx2).2.2
    obtain ⟨rfl, -⟩ := r2
    refine qq (q_indexAddr Sl_144 rfl rfl ph1 hx2) rfl ?_
    refine qq (q_loadN Tn_197 rfl (fun w1 hw => (g2.of_eq 0 11 rfl rfl : rg _ _ _ [.string x2.Op, .int .i64 x2.L.K, .string x2.L.S, .int .i64 x2.L.V.K, .int .i64 x2.L.V.N, .string x2.L.V.S, .int .i64 x2.R.K, .string x2.R.S, .int .i64 x2.R.V.K, .int .i64 x2.R.V.N, .string x2.R.V.S]).rangeAt hw.fro) rfl) rfl ?_
    obtain ⟨x3, hx3, h⟩ := bind_some h
    refine qp (p_call Fun_176 rfl (fun w1 hw => m_l_eqExpr_ok hw.fro N x1 x2 hx3)) rfl ?_
    refine qq (q_not rfl) rfl ?_
    refine WQ.nil ?_
    refine WT.cond rfl (fun c3 => ?_) (fun c3 => ?_)
    · replace h := ite_t h c3
      refine WT.seq ?_
      refine WT.region ?_
      refine lq (q_assign rfl) rfl ?_
      refine WL.nil ?_
      refine WT.ret Try.func155 (resOk.one rfl) (fun w1 hw => ?_)
      subst hb0
      cases h
      exact post_of_St hw
    replace h := ite_f h c3
    refine WT.skip ?_
    refine WT.inBlock ?_
    refine WT.region ?_
    refine lq (q_move rfl) rfl ?_
    refine lq (q_add rfl rfl) rfl ?_
    refine lq (q_assign rfl) rfl ?_
    refine WL.nil ?_
    refine WT.inLoop (WT.mono (l' := [(0, pv0), (1, pv1), (5, .int .i64 (IntKind.i64.wrap (s1 + 1)))]) (S' := St w0 Φ [] []) ⟨rfl, rfl, rfl, trivial⟩ (fun w1 hw => (hw.sel (js := []) rfl).selO (js := []) rfl) ?_)
    exact ih1 (IntKind.i64.wrap (s1 + 1)) h
  replace h := ite_f h c2
  refine WT.exit rfl ?_
  refine WT.seq ?_
  refine WT.region ?_
  refine lq (q_assign rfl) rfl ?_
  refine WL.nil ?_
  refine WT.ret Try.func155 (resOk.one rfl) (fun w1 hw => ?_)
  subst hb0
  cases h
  exact post_of_St hw
theorem m_l_eqAct_ok {Φ : Hp} {w : World} (hΦ : In Φ w) (N : Nat) (p0 : TAct) (p1 : TAct) {pv0_0 : Value} {pG0_0 : List Nat} {pv1_0 : Value} {pG1_0 : List Nat} (ph0_0 : RSl RTExpr 11 Φ pG0_0 pv0_0 p0.Args) (ph1_0 : RSl RTExpr 11 Φ pG1_0 pv1_0 p1.Args) {r : Bool} (h : m_l_eqAct N p0 p1 = some r) :
    Calls Try.prog 114 [.agg [.int .i64 p0.Kind, .string p0.Name, pv0_0, .int .i64 p0.N, .string p0.Undo].toArray, .agg [.int .i64 p1.Kind, .string p1.Name, pv1_0, .int .i64 p1.N, .string p1.Undo].toArray].toArray w (Post (.bool r) w) := by
  refine enter Try.func114 rfl Try.ntmps114 rfl (St.start0 hΦ) ?_
  unfold m_l_eqAct at h
  refine WT.seq ?_
  refine WT.region ?_
  refine ln (n_box (C := #[.int .i64 p0.Kind, .string p0.Name, pv0_0, .int .i64 p0.N, .string p0.Undo]) rfl rfl) rfl (fun b_1 => ?_)
  refine ln (n_box (C := #[.int .i64 p1.Kind, .string p1.Name, pv1_0, .int .i64 p1.N, .string p1.Undo]) rfl rfl) rfl (fun b_2 => ?_)
  refine lq (q_assign rfl) rfl ?_
  refine WL.nil ?_
  refine WT.seq ?_
  refine WT.seq ?_
  refine WT.region ?_
  refine lq (q_fieldAddr Fld_146_0 rfl) rfl ?_
  refine lq (q_load1 T1_3 rfl (fun w1 hw => hw.rgO (i := 1) rfl 0 1 [.int .i64 p0.Kind] rfl)) rfl ?_
  refine lq (q_fieldAddr Fld_146_0 rfl) rfl ?_
  refine lq (q_load1 T1_3 rfl (fun w1 hw => hw.rgO (i := 0) rfl 0 1 [.int .i64 p1.Kind] rfl)) rfl ?_
  refine lq (q_neq rfl rfl) rfl ?_
  refine WL.nil ?_
  refine WT.cond rfl (fun c1 => ?_) (fun c1 => ?_)
  · replace h := ite_t h c1
    refine WT.seq ?_
    refine WT.region ?_
    refine lq (q_assign rfl) rfl ?_
    refine WL.nil ?_
    refine WT.ret Try.func114 (resOk.one rfl) (fun w1 hw => ?_)
    cases h
    exact post_of_St hw
  replace h := ite_f h c1
  refine WT.skip ?_
  refine WT.seq ?_
  refine WT.seq ?_
  refine WT.region ?_
  refine lq (q_fieldAddr Fld_146_1 rfl) rfl ?_
  refine lq (q_load1 T1_9 rfl (fun w1 hw => hw.rgO (i := 1) rfl 1 1 [.string p0.Name] rfl)) rfl ?_
  refine lq (q_fieldAddr Fld_146_1 rfl) rfl ?_
  refine lq (q_load1 T1_9 rfl (fun w1 hw => hw.rgO (i := 0) rfl 1 1 [.string p1.Name] rfl)) rfl ?_
  refine lq (q_sne rfl rfl) rfl ?_
  refine WL.nil ?_
  refine WT.cond rfl (fun c2 => ?_) (fun c2 => ?_)
  · replace h := ite_t h c2
    refine WT.seq ?_
    refine WT.region ?_
    refine lq (q_assign rfl) rfl ?_
    refine WL.nil ?_
    refine WT.ret Try.func114 (resOk.one rfl) (fun w1 hw => ?_)
    cases h
    exact post_of_St hw
  replace h := ite_f h c2
  refine WT.skip ?_
  refine WT.seq ?_
  refine WT.seq ?_
  refine WT.region ?_
  refine lq (q_fieldAddr Fld_146_2 rfl) rfl ?_
  refine lq (q_load1 T1_144 rfl (fun w1 hw => hw.rgO (i := 1) rfl 2 1 [pv0_0] rfl)) rfl ?_
  refine lq (q_fieldAddr Fld_146_2 rfl) rfl ?_
  refine lq (q_load1 T1_144 rfl (fun w1 hw => hw.rgO (i := 0) rfl 2 1 [pv1_0] rfl)) rfl ?_
  obtain ⟨x1, hx1, h⟩ := bind_some h
  refine lp (p_call Fun_155 rfl (fun w1 hw => m_l_eqExprS_ok hw.fro N p0.Args p1.Args ph0_0 ph1_0 hx1)) rfl ?_
  refine lq (q_not rfl) rfl ?_
  refine WL.nil ?_
  refine WT.cond rfl (fun c3 => ?_) (fun c3 => ?_)
  · replace h := ite_t h c3
    refine WT.seq ?_
    refine WT.region ?_
    refine lq (q_assign rfl) rfl ?_
    refine WL.nil ?_
    refine WT.ret Try.func114 (resOk.one rfl) (fun w1 hw => ?_)
    cases h
    exact post_of_St hw
  replace h := ite_f h c3
  refine WT.skip ?_
  refine WT.seq ?_
  refine WT.seq ?_
  refine WT.region ?_
  refine lq (q_fieldAddr Fld_146_3 rfl) rfl ?_
  refine lq (q_load1 T1_3 rfl (fun w1 hw => hw.rgO (i := 1) rfl 3 1 [.int .i64 p0.N] rfl)) rfl ?_
  refine lq (q_fieldAddr Fld_146_3 rfl) rfl ?_
  refine lq (q_load1 T1_3 rfl (fun w1 hw => hw.rgO (i := 0) rfl 3 1 [.int .i64 p1.N] rfl)) rfl ?_
  refine lq (q_neq rfl rfl) rfl ?_
  refine WL.nil ?_
  refine WT.cond rfl (fun c4 => ?_) (fun c4 => ?_)
  · replace h := ite_t h c4
    refine WT.seq ?_
    refine WT.region ?_
    refine lq (q_assign rfl) rfl ?_
    refine WL.nil ?_
    refine WT.ret Try.func114 (resOk.one rfl) (fun w1 hw => ?_)
    cases h
    exact post_of_St hw
  replace h := ite_f h c4
  refine WT.skip ?_
  refine WT.seq ?_
  refine WT.seq ?_
  refine WT.region ?_
  refine lq (q_fieldAddr Fld_146_4 rfl) rfl ?_
  refine lq (q_load1 T1_9 rfl (fun w1 hw => hw.rgO (i := 1) rfl 4 1 [.string p0.Undo] rfl)) rfl ?_
  refine lq (q_fieldAddr Fld_146_4 rfl) rfl ?_
  refine lq (q_load1 T1_9 rfl (fun w1 hw => hw.rgO (i := 0) rfl 4 1 [.string p1.Undo] rfl)) rfl ?_
  refine lq (q_sne rfl rfl) rfl ?_
  refine WL.nil ?_
  refine WT.cond rfl (fun c5 => ?_) (fun c5 => ?_)
  · replace h := ite_t h c5
    refine WT.seq ?_
    refine WT.region ?_
    refine lq (q_assign rfl) rfl ?_
    refine WL.nil ?_
    refine WT.ret Try.func114 (resOk.one rfl) (fun w1 hw => ?_)
    cases h
    exact post_of_St hw
  replace h := ite_f h c5
  refine WT.skip ?_
  refine WT.seq ?_
  refine WT.region ?_
  refine lq (q_assign rfl) rfl ?_
  refine WL.nil ?_
  refine WT.ret Try.func114 (resOk.one rfl) (fun w1 hw => ?_)
  cases h
  exact post_of_St hw
theorem m_l_eqActS_ok {Φ : Hp} {w : World} (hΦ : In Φ w) (N : Nat) (p0 : (List TAct)) (p1 : (List TAct)) {pv0 : Value} {pG0 : List Nat} {pv1 : Value} {pG1 : List Nat} (ph0 : RSl RTAct 5 Φ pG0 pv0 p0) (ph1 : RSl RTAct 5 Φ pG1 pv1 p1) {r : Bool} (h : m_l_eqActS N p0 p1 = some r) :
    Calls Try.prog 63 [pv0, pv1].toArray w (Post (.bool r) w) := by
  refine enter Try.func63 rfl Try.ntmps63 rfl (St.start0 hΦ) ?_
  generalize hb0 : (⟨w, [], Φ⟩ : Base) = w0
  unfold m_l_eqActS at h
  refine WT.seq ?_
  refine WT.region ?_
  refine lq (q_assign rfl) rfl ?_
  refine WL.nil ?_
  refine WT.seq ?_
  refine WT.seq ?_
  refine WT.region ?_
  refine lq (q_move rfl) rfl ?_
  refine lq (q_lenR Sl_49 rfl rfl ph0) rfl ?_
  refine lq (q_move rfl) rfl ?_
  refine lq (q_lenR Sl_49 rfl rfl ph1) rfl ?_
  refine lq (q_neq rfl rfl) rfl ?_
  refine WL.nil ?_
  refine WT.cond rfl (fun c1 => ?_) (fun c1 => ?_)
  · replace h := ite_t h c1
    refine WT.seq ?_
    refine WT.region ?_
    refine lq (q_assign rfl) rfl ?_
    refine WL.nil ?_
    refine WT.ret Try.func63 (resOk.one rfl) (fun w1 hw => ?_)
    subst hb0
    cases h
    exact post_of_St hw
  replace h := ite_f h c1
  refine WT.skip ?_
  refine WT.seq ?_
  refine WT.seq ?_
  refine WT.region ?_
  refine lq (q_assign rfl) rfl ?_
  refine WL.nil ?_
  refine WT.block ?_
  refine WT.loop ?_
  refine WT.mono (l' := [(0, pv0), (1, pv1), (5, .int .i64 0)]) (S' := St w0 Φ [] []) ⟨rfl, rfl, rfl, trivial⟩ (fun w1 hw => (hw.sel (js := []) rfl).selO (js := []) rfl) ?_
  refine loop_ind (σ := Int) (fun s => [(0, pv0), (1, pv1), (5, .int .i64 s)]) (fun s => St w0 Φ [] []) (fun m s => m_l_eqActS_l1 N p0 p1 m s = some r) (fun s hm => none_ne (show (none : Option (Bool)) = some r from hm)) (fun n1 ih1 s hm => ?_) N (0) h
  revert hm; revert s; intro s1 hm
  have h : m_l_eqActS_l1 N p0 p1 (n1 + 1) s1 = some r := hm
  show WT _ _ [(0, pv0), (1, pv1), (5, .int .i64 s1)] (St w0 Φ [] [])
  unfold m_l_eqActS_l1 at h
  refine WT.seq ?_
  refine WT.seq ?_
  refine WT.region ?_
  refine lq (q_move rfl) rfl ?_
  refine lq (q_move rfl) rfl ?_
  refine lq (q_lenR Sl_49 rfl rfl ph0) rfl ?_
  refine lq (q_lss rfl rfl) rfl ?_
  refine WL.nil ?_
  refine WT.cond rfl (fun c2 => ?_) (fun c2 => ?_)
  · replace h := ite_t h c2
    refine WT.skip ?_
    refine WT.seq ?_
    refine WT.block ?_
    refine WT.seq ?_
    refine WT.draw mixed (by kernel_rfl) (fun _ h => h.drew) ?_
    refine qq (q_move rfl) rfl ?_
    refine qq (q_move rfl) rfl ?_
    obtain ⟨x1, hx1, h⟩ := bind_some h
    obtain ⟨cs1, F1, -, g1, hb1, hs1, r1⟩ := ph0.el (idx_some hx1).2.2
    obtain ⟨v1, G1, rfl, hq1, h1⟩ := r1
    obtain rfl := hq1.symm
    refine qq (q_indexAddr Sl_49 rfl rfl ph0 hx1) rfl ?_
    refine qq (q_loadN Tn_146 rfl (fun w1 hw => (g1.of_eq 0 5 rfl rfl : rg _ _ _ [.int .i64 x1.Kind, .string x1.Name, v1, .int .i64 x1.N, .string x1.Undo]).rangeAt hw.fro) rfl) rfl ?_
    refine qq (q_move rfl) rfl ?_
    refine qq (q_move rfl) rfl ?_
    obtain ⟨x2, hx2, h⟩ := bind_some h
    obtain ⟨cs2, F2, -, g2, hb2, hs2, r2⟩ := ph1.el (idx_some hx2).2.2
    obtain ⟨v2, G2, rfl, hq2, h2⟩ := r2
    obtain rfl := hq2.symm
    refine qq (q_indexAddr Sl_49 rfl rfl ph1 hx2) rfl ?_
    refine qq (q_loadN Tn_146 rfl (fun w1 hw => (g2.of_eq 0 5 rfl rfl : rg _ _ _ [.int .i64 x2.Kind, .string x2.Name, v2, .int .i64 x2.N, .string x2.Undo]).rangeAt hw.fro) rfl) rfl ?_
    obtain ⟨x3, hx3, h⟩ := bind_some h
    refine qp (p_call Fun_114 rfl (fun w1 hw => m_l_eqAct_ok hw.fro N x1 x2 h1 h2 hx3)) rfl ?_
    refine qq (q_not rfl) rfl ?_
    refine WQ.nil ?_
    refine WT.cond rfl (fun c3 => ?_) (fun c3 => ?_)
    · replace h := ite_t h c3
      refine WT.seq ?_
      refine WT.region ?_
      refine lq (q_assign rfl) rfl ?_
      refine WL.nil ?_
      refine WT.ret Try.func63 (resOk.one rfl) (fun w1 hw => ?_)
      subst hb0
      cases h
      exact post_of_St hw
    replace h := ite_f h c3
    refine WT.skip ?_
    refine WT.inBlock ?_
    refine WT.region ?_
    refine lq (q_move rfl) rfl ?_
    refine lq (q_add rfl rfl) rfl ?_
    refine lq (q_assign rfl) rfl ?_
    refine WL.nil ?_
    refine WT.inLoop (WT.mono (l' := [(0, pv0), (1, pv1), (5, .int .i64 (IntKind.i64.wrap (s1 + 1)))]) (S' := St w0 Φ [] []) ⟨rfl, rfl, rfl, trivial⟩ (fun w1 hw => (hw.sel (js := []) rfl).selO (js := []) rfl) ?_)
    exact ih1 (IntKind.i64.wrap (s1 + 1)) h
  replace h := ite_f h c2
  refine WT.exit rfl ?_
  refine WT.seq ?_
  refine WT.region ?_
  refine lq (q_assign rfl) rfl ?_
  refine WL.nil ?_
  refine WT.ret Try.func63 (resOk.one rfl) (fun w1 hw => ?_)
  subst hb0
  cases h
  exact post_of_St hw
theorem m_l_eqRule_ok {Φ : Hp} {w : World} (hΦ : In Φ w) (N : Nat) (p0 : TRule) (p1 : TRule) {pv0_0 : Value} {pG0_0 : List Nat} {pv0_1 : Value} {pG0_1 : List Nat} {pv0_2 : Value} {pG0_2 : List Nat} {pv1_0 : Value} {pG1_0 : List Nat} {pv1_1 : Value} {pG1_1 : List Nat} {pv1_2 : Value} {pG1_2 : List Nat} (ph0_0 : RSl RTPat 3 Φ pG0_0 pv0_0 p0.Pats) (ph0_1 : RSl RTCond 11 Φ pG0_1 pv0_1 p0.Conds) (ph0_2 : RSl RTAct 5 Φ pG0_2 pv0_2 p0.Acts) (ph1_0 : RSl RTPat 3 Φ pG1_0 pv1_0 p1.Pats) (ph1_1 : RSl RTCond 11 Φ pG1_1 pv1_1 p1.Conds) (ph1_2 : RSl RTAct 5 Φ pG1_2 pv1_2 p1.Acts) {r : Bool} (h : m_l_eqRule N p0 p1 = some r) :
    Calls Try.prog 19 [.agg [.string p0.Name, .int .i64 p0.Sal, pv0_0, pv0_1, pv0_2].toArray, .agg [.string p1.Name, .int .i64 p1.Sal, pv1_0, pv1_1, pv1_2].toArray].toArray w (Post (.bool r) w) := by
  refine enter Try.func19 rfl Try.ntmps19 rfl (St.start0 hΦ) ?_
  unfold m_l_eqRule at h
  refine WT.seq ?_
  refine WT.region ?_
  refine ln (n_box (C := #[.string p0.Name, .int .i64 p0.Sal, pv0_0, pv0_1, pv0_2]) rfl rfl) rfl (fun b_1 => ?_)
  refine ln (n_box (C := #[.string p1.Name, .int .i64 p1.Sal, pv1_0, pv1_1, pv1_2]) rfl rfl) rfl (fun b_2 => ?_)
  refine lq (q_assign rfl) rfl ?_
  refine WL.nil ?_
  refine WT.seq ?_
  refine WT.seq ?_
  refine WT.region ?_
  refine lq (q_fieldAddr Fld_51_0 rfl) rfl ?_
  refine lq (q_load1 T1_9 rfl (fun w1 hw => hw.rgO (i := 1) rfl 0 1 [.string p0.Name] rfl)) rfl ?_
  refine lq (q_fieldAddr Fld_51_0 rfl) rfl ?_
  refine lq (q_load1 T1_9 rfl (fun w1 hw => hw.rgO (i := 0) rfl 0 1 [.string p1.Name] rfl)) rfl ?_
  refine lq (q_sne rfl rfl) rfl ?_
  refine WL.nil ?_
  refine WT.cond rfl (fun c1 => ?_) (fun c1 => ?_)
  · replace h := ite_t h c1
    refine WT.seq ?_
    refine WT.region ?_
    refine lq (q_assign rfl) rfl ?_
    refine WL.nil ?_
    refine WT.ret Try.func19 (resOk.one rfl) (fun w1 hw => ?_)
    cases h
    exact post_of_St hw
  replace h := ite_f h c1
  refine WT.skip ?_
  refine WT.seq ?_
  refine WT.seq ?_
  refine WT.region ?_
  refine lq (q_fieldAddr Fld_51_1 rfl) rfl ?_
  refine lq (q_load1 T1_3 rfl (fun w1 hw => hw.rgO (i := 1) rfl 1 1 [.int .i64 p0.Sal] rfl)) rfl ?_
  refine lq (q_fieldAddr Fld_51_1 rfl) rfl ?_
  refine lq (q_load1 T1_3 rfl (fun w1 hw => hw.rgO (i := 0) rfl 1 1 [.int .i64 p1.Sal] rfl)) rfl ?_
  refine lq (q_neq rfl rfl) rfl ?_
  refine WL.nil ?_
  refine WT.cond rfl (fun c2 => ?_) (fun c2 => ?_)
  · replace h := ite_t h c2
    refine WT.seq ?_
    refine WT.region ?_
    refine lq (q_assign rfl) rfl ?_
    refine WL.nil ?_
    refine WT.ret Try.func19 (resOk.one rfl) (fun w1 hw => ?_)
    cases h
    exact post_of_St hw
  replace h := ite_f h c2
  refine WT.skip ?_
  refine WT.seq ?_
  refine WT.seq ?_
  refine WT.region ?_
  refine lq (q_fieldAddr Fld_51_2 rfl) rfl ?_
  refine lq (q_load1 T1_47 rfl (fun w1 hw => hw.rgO (i := 1) rfl 2 1 [pv0_0] rfl)) rfl ?_
  refine lq (q_fieldAddr Fld_51_2 rfl) rfl ?_
  refine lq (q_load1 T1_47 rfl (fun w1 hw => hw.rgO (i := 0) rfl 2 1 [pv1_0] rfl)) rfl ?_
  obtain ⟨x1, hx1, h⟩ := bind_some h
  refine lp (p_call Fun_61 rfl (fun w1 hw => m_l_eqPatS_ok hw.fro N p0.Pats p1.Pats ph0_0 ph1_0 hx1)) rfl ?_
  refine lq (q_not rfl) rfl ?_
  refine WL.nil ?_
  refine WT.cond rfl (fun c3 => ?_) (fun c3 => ?_)
  · replace h := ite_t h c3
    refine WT.seq ?_
    refine WT.region ?_
    refine lq (q_assign rfl) rfl ?_
    refine WL.nil ?_
    refine WT.ret Try.func19 (resOk.one rfl) (fun w1 hw => ?_)
    cases h
    exact post_of_St hw
  replace h := ite_f h c3
  refine WT.skip ?_
  refine WT.seq ?_
  refine WT.seq ?_
  refine WT.region ?_
  refine lq (q_fieldAddr Fld_51_3 rfl) rfl ?_
  refine lq (q_load1 T1_48 rfl (fun w1 hw => hw.rgO (i := 1) rfl 3 1 [pv0_1] rfl)) rfl ?_
  refine lq (q_fieldAddr Fld_51_3 rfl) rfl ?_
  refine lq (q_load1 T1_48 rfl (fun w1 hw => hw.rgO (i := 0) rfl 3 1 [pv1_1] rfl)) rfl ?_
  obtain ⟨x2, hx2, h⟩ := bind_some h
  refine lp (p_call Fun_62 rfl (fun w1 hw => m_l_eqCondS_ok hw.fro N p0.Conds p1.Conds ph0_1 ph1_1 hx2)) rfl ?_
  refine lq (q_not rfl) rfl ?_
  refine WL.nil ?_
  refine WT.cond rfl (fun c4 => ?_) (fun c4 => ?_)
  · replace h := ite_t h c4
    refine WT.seq ?_
    refine WT.region ?_
    refine lq (q_assign rfl) rfl ?_
    refine WL.nil ?_
    refine WT.ret Try.func19 (resOk.one rfl) (fun w1 hw => ?_)
    cases h
    exact post_of_St hw
  replace h := ite_f h c4
  refine WT.skip ?_
  refine WT.seq ?_
  refine WT.seq ?_
  refine WT.region ?_
  refine lq (q_fieldAddr Fld_51_4 rfl) rfl ?_
  refine lq (q_load1 T1_49 rfl (fun w1 hw => hw.rgO (i := 1) rfl 4 1 [pv0_2] rfl)) rfl ?_
  refine lq (q_fieldAddr Fld_51_4 rfl) rfl ?_
  refine lq (q_load1 T1_49 rfl (fun w1 hw => hw.rgO (i := 0) rfl 4 1 [pv1_2] rfl)) rfl ?_
  obtain ⟨x3, hx3, h⟩ := bind_some h
  refine lp (p_call Fun_63 rfl (fun w1 hw => m_l_eqActS_ok hw.fro N p0.Acts p1.Acts ph0_2 ph1_2 hx3)) rfl ?_
  refine lq (q_not rfl) rfl ?_
  refine WL.nil ?_
  refine WT.cond rfl (fun c5 => ?_) (fun c5 => ?_)
  · replace h := ite_t h c5
    refine WT.seq ?_
    refine WT.region ?_
    refine lq (q_assign rfl) rfl ?_
    refine WL.nil ?_
    refine WT.ret Try.func19 (resOk.one rfl) (fun w1 hw => ?_)
    cases h
    exact post_of_St hw
  replace h := ite_f h c5
  refine WT.skip ?_
  refine WT.seq ?_
  refine WT.region ?_
  refine lq (q_assign rfl) rfl ?_
  refine WL.nil ?_
  refine WT.ret Try.func19 (resOk.one rfl) (fun w1 hw => ?_)
  cases h
  exact post_of_St hw
theorem m_l_eqRuleS_ok {Φ : Hp} {w : World} (hΦ : In Φ w) (N : Nat) (p0 : (List TRule)) (p1 : (List TRule)) {pv0 : Value} {pG0 : List Nat} {pv1 : Value} {pG1 : List Nat} (ph0 : RSl RTRule 5 Φ pG0 pv0 p0) (ph1 : RSl RTRule 5 Φ pG1 pv1 p1) {r : Bool} (h : m_l_eqRuleS N p0 p1 = some r) :
    Calls Try.prog 47 [pv0, pv1].toArray w (Post (.bool r) w) := by
  refine enter Try.func47 rfl Try.ntmps47 rfl (St.start0 hΦ) ?_
  generalize hb0 : (⟨w, [], Φ⟩ : Base) = w0
  unfold m_l_eqRuleS at h
  refine WT.seq ?_
  refine WT.region ?_
  refine lq (q_assign rfl) rfl ?_
  refine WL.nil ?_
  refine WT.seq ?_
  refine WT.seq ?_
  refine WT.region ?_
  refine lq (q_move rfl) rfl ?_
  refine lq (q_lenR Sl_27 rfl rfl ph0) rfl ?_
  refine lq (q_move rfl) rfl ?_
  refine lq (q_lenR Sl_27 rfl rfl ph1) rfl ?_
  refine lq (q_neq rfl rfl) rfl ?_
  refine WL.nil ?_
  refine WT.cond rfl (fun c1 => ?_) (fun c1 => ?_)
  · replace h := ite_t h c1
    refine WT.seq ?_
    refine WT.region ?_
    refine lq (q_assign rfl) rfl ?_
    refine WL.nil ?_
    refine WT.ret Try.func47 (resOk.one rfl) (fun w1 hw => ?_)
    subst hb0
    cases h
    exact post_of_St hw
  replace h := ite_f h c1
  refine WT.skip ?_
  refine WT.seq ?_
  refine WT.seq ?_
  refine WT.region ?_
  refine lq (q_assign rfl) rfl ?_
  refine WL.nil ?_
  refine WT.block ?_
  refine WT.loop ?_
  refine WT.mono (l' := [(0, pv0), (1, pv1), (5, .int .i64 0)]) (S' := St w0 Φ [] []) ⟨rfl, rfl, rfl, trivial⟩ (fun w1 hw => (hw.sel (js := []) rfl).selO (js := []) rfl) ?_
  refine loop_ind (σ := Int) (fun s => [(0, pv0), (1, pv1), (5, .int .i64 s)]) (fun s => St w0 Φ [] []) (fun m s => m_l_eqRuleS_l1 N p0 p1 m s = some r) (fun s hm => none_ne (show (none : Option (Bool)) = some r from hm)) (fun n1 ih1 s hm => ?_) N (0) h
  revert hm; revert s; intro s1 hm
  have h : m_l_eqRuleS_l1 N p0 p1 (n1 + 1) s1 = some r := hm
  show WT _ _ [(0, pv0), (1, pv1), (5, .int .i64 s1)] (St w0 Φ [] [])
  unfold m_l_eqRuleS_l1 at h
  refine WT.seq ?_
  refine WT.seq ?_
  refine WT.region ?_
  refine lq (q_move rfl) rfl ?_
  refine lq (q_move rfl) rfl ?_
  refine lq (q_lenR Sl_27 rfl rfl ph0) rfl ?_
  refine lq (q_lss rfl rfl) rfl ?_
  refine WL.nil ?_
  refine WT.cond rfl (fun c2 => ?_) (fun c2 => ?_)
  · replace h := ite_t h c2
    refine WT.skip ?_
    refine WT.seq ?_
    refine WT.block ?_
    refine WT.seq ?_
    refine WT.draw mixed (by kernel_rfl) (fun _ h => h.drew) ?_
    refine qq (q_move rfl) rfl ?_
    refine qq (q_move rfl) rfl ?_
    obtain ⟨x1, hx1, h⟩ := bind_some h
    obtain ⟨cs1, F1, -, g1, hb1, hs1, r1⟩ := ph0.el (idx_some hx1).2.2
    obtain ⟨v1, G1, v2, G2, v3, G3, rfl, rfl, h1, h2, h3⟩ := r1
    refine qq (q_indexAddr Sl_27 rfl rfl ph0 hx1) rfl ?_
    refine qq (q_loadN Tn_51 rfl (fun w1 hw => (g1.of_eq 0 5 rfl rfl : rg _ _ _ [.string x1.Name, .int .i64 x1.Sal, v1, v2, v3]).rangeAt hw.fro) rfl) rfl ?_
    refine qq (q_move rfl) rfl ?_
    refine qq (q_move rfl) rfl ?_
    obtain ⟨x2, hx2, h⟩ := bind_some h
    obtain ⟨cs2, F2, -, g2, hb2, hs2, r2⟩ := ph1.el (idx_some hx2).2.2
    obtain ⟨v4, G4, v5, G5, v6, G6, rfl, rfl, h4, h5, h6⟩ := r2
    refine qq (q_indexAddr Sl_27 rfl rfl ph1 hx2) rfl ?_
    refine qq (q_loadN Tn_51 rfl (fun w1 hw => (g2.of_eq 0 5 rfl rfl : rg _ _ _ [.string x2.Name, .int .i64 x2.Sal, v4, v5, v6]).rangeAt hw.fro) rfl) rfl ?_
    obtain ⟨x3, hx3, h⟩ := bind_some h
    refine qp (p_call Fun_19 rfl (fun w1 hw => m_l_eqRule_ok hw.fro N x1 x2 h1 h2 h3 h4 h5 h6 hx3)) rfl ?_
    refine qq (q_not rfl) rfl ?_
    refine WQ.nil ?_
    refine WT.cond rfl (fun c3 => ?_) (fun c3 => ?_)
    · replace h := ite_t h c3
      refine WT.seq ?_
      refine WT.region ?_
      refine lq (q_assign rfl) rfl ?_
      refine WL.nil ?_
      refine WT.ret Try.func47 (resOk.one rfl) (fun w1 hw => ?_)
      subst hb0
      cases h
      exact post_of_St hw
    replace h := ite_f h c3
    refine WT.skip ?_
    refine WT.inBlock ?_
    refine WT.region ?_
    refine lq (q_move rfl) rfl ?_
    refine lq (q_add rfl rfl) rfl ?_
    refine lq (q_assign rfl) rfl ?_
    refine WL.nil ?_
    refine WT.inLoop (WT.mono (l' := [(0, pv0), (1, pv1), (5, .int .i64 (IntKind.i64.wrap (s1 + 1)))]) (S' := St w0 Φ [] []) ⟨rfl, rfl, rfl, trivial⟩ (fun w1 hw => (hw.sel (js := []) rfl).selO (js := []) rfl) ?_)
    exact ih1 (IntKind.i64.wrap (s1 + 1)) h
  replace h := ite_f h c2
  refine WT.exit rfl ?_
  refine WT.seq ?_
  refine WT.region ?_
  refine lq (q_assign rfl) rfl ?_
  refine WL.nil ?_
  refine WT.ret Try.func47 (resOk.one rfl) (fun w1 hw => ?_)
  subst hb0
  cases h
  exact post_of_St hw
theorem m_l_eqDef_ok {Φ : Hp} {w : World} (hΦ : In Φ w) (N : Nat) (p0 : TDef) (p1 : TDef) {pv0_0 : Value} {pG0_0 : List Nat} {pv1_0 : Value} {pG1_0 : List Nat} (ph0_0 : RSl RTRule 5 Φ pG0_0 pv0_0 p0.Rules) (ph1_0 : RSl RTRule 5 Φ pG1_0 pv1_0 p1.Rules) {r : Bool} (h : m_l_eqDef N p0 p1 = some r) :
    Calls Try.prog 10 [.agg [.string p0.Name, pv0_0].toArray, .agg [.string p1.Name, pv1_0].toArray].toArray w (Post (.bool r) w) := by
  refine enter Try.func10 rfl Try.ntmps10 rfl (St.start0 hΦ) ?_
  unfold m_l_eqDef at h
  refine WT.seq ?_
  refine WT.region ?_
  refine ln (n_box (C := #[.string p0.Name, pv0_0]) rfl rfl) rfl (fun b_1 => ?_)
  refine ln (n_box (C := #[.string p1.Name, pv1_0]) rfl rfl) rfl (fun b_2 => ?_)
  refine lq (q_assign rfl) rfl ?_
  refine WL.nil ?_
  refine WT.seq ?_
  refine WT.seq ?_
  refine WT.region ?_
  refine lq (q_fieldAddr Fld_29_0 rfl) rfl ?_
  refine lq (q_load1 T1_9 rfl (fun w1 hw => hw.rgO (i := 1) rfl 0 1 [.string p0.Name] rfl)) rfl ?_
  refine lq (q_fieldAddr Fld_29_0 rfl) rfl ?_
  refine lq (q_load1 T1_9 rfl (fun w1 hw => hw.rgO (i := 0) rfl 0 1 [.string p1.Name] rfl)) rfl ?_
  refine lq (q_sne rfl rfl) rfl ?_
  refine WL.nil ?_
  refine WT.cond rfl (fun c1 => ?_) (fun c1 => ?_)
  · replace h := ite_t h c1
    refine WT.seq ?_
    refine WT.region ?_
    refine lq (q_assign rfl) rfl ?_
    refine WL.nil ?_
    refine WT.ret Try.func10 (resOk.one rfl) (fun w1 hw => ?_)
    cases h
    exact post_of_St hw
  replace h := ite_f h c1
  refine WT.skip ?_
  refine WT.seq ?_
  refine WT.seq ?_
  refine WT.region ?_
  refine lq (q_fieldAddr Fld_29_1 rfl) rfl ?_
  refine lq (q_load1 T1_27 rfl (fun w1 hw => hw.rgO (i := 1) rfl 1 1 [pv0_0] rfl)) rfl ?_
  refine lq (q_fieldAddr Fld_29_1 rfl) rfl ?_
  refine lq (q_load1 T1_27 rfl (fun w1 hw => hw.rgO (i := 0) rfl 1 1 [pv1_0] rfl)) rfl ?_
  obtain ⟨x1, hx1, h⟩ := bind_some h
  refine lp (p_call Fun_47 rfl (fun w1 hw => m_l_eqRuleS_ok hw.fro N p0.Rules p1.Rules ph0_0 ph1_0 hx1)) rfl ?_
  refine lq (q_not rfl) rfl ?_
  refine WL.nil ?_
  refine WT.cond rfl (fun c2 => ?_) (fun c2 => ?_)
  · replace h := ite_t h c2
    refine WT.seq ?_
    refine WT.region ?_
    refine lq (q_assign rfl) rfl ?_
    refine WL.nil ?_
    refine WT.ret Try.func10 (resOk.one rfl) (fun w1 hw => ?_)
    cases h
    exact post_of_St hw
  replace h := ite_f h c2
  refine WT.skip ?_
  refine WT.seq ?_
  refine WT.region ?_
  refine lq (q_assign rfl) rfl ?_
  refine WL.nil ?_
  refine WT.ret Try.func10 (resOk.one rfl) (fun w1 hw => ?_)
  cases h
  exact post_of_St hw
theorem m_l_FnExactDefOk_ok {Φ : Hp} {w : World} (hΦ : In Φ w) (N : Nat) (p0 : TDef) {pv0_0 : Value} {pG0_0 : List Nat} (ph0_0 : RSl RTRule 5 Φ pG0_0 pv0_0 p0.Rules) {r : Bool} (h : m_l_FnExactDefOk N p0 = some r) :
    Calls Try.prog 3 [.agg [.string p0.Name, pv0_0].toArray].toArray w (Post (.bool r) w) := by
  refine enter Try.func3 rfl Try.ntmps3 rfl (St.start0 hΦ) ?_
  have pa0_0 : Old ⟨w, [], Φ⟩ pG0_0 := Old.mk hΦ ph0_0.kn (Dj.empty _)
  unfold m_l_FnExactDefOk at h
  refine WT.seq ?_
  refine WT.region ?_
  refine ln (n_box (C := #[.string p0.Name, pv0_0]) rfl rfl) rfl (fun b_1 => ?_)
  refine lq (q_assign rfl) rfl ?_
  refine WL.nil ?_
  refine WT.seq ?_
  refine WT.region ?_
  refine lq (q_assign rfl) rfl ?_
  refine WL.nil ?_
  refine WT.seq ?_
  refine WT.region ?_
  refine lq (q_loadN Tn_24 rfl (fun w1 hw => hw.rgO (i := 0) rfl 0 2 [.string p0.Name, pv0_0] rfl) rfl) rfl ?_
  refine lq (q_move rfl) rfl ?_
  obtain ⟨x1, hx1, h⟩ := bind_some h
  refine lp (p_call Fun_6 rfl (fun w1 hw => m_l_szDef_ok hw.fro N p0 1048576 ph0_0 hx1)) rfl ?_
  refine lq (q_assign rfl) rfl ?_
  refine WL.nil ?_
  refine WT.seq ?_
  refine WT.seq ?_
  refine WT.region ?_
  refine lq (q_move rfl) rfl ?_
  refine lq (q_lss rfl rfl) rfl ?_
  refine WL.nil ?_
  refine WT.cond rfl (fun c1 => ?_) (fun c1 => ?_)
  · replace h := ite_t h c1
    refine WT.seq ?_
    refine WT.region ?_
    refine lq (q_assign rfl) rfl ?_
    refine WL.nil ?_
    refine WT.ret Try.func3 (resOk.one rfl) (fun w1 hw => ?_)
    cases h
    exact post_of_St hw
  replace h := ite_f h c1
  refine WT.skip ?_
  refine WT.seq ?_
  refine WT.region ?_
  refine lq (q_loadN Tn_24 rfl (fun w1 hw => hw.rgO (i := 0) rfl 0 2 [.string p0.Name, pv0_0] rfl) rfl) rfl ?_
  obtain ⟨x2, hx2, h⟩ := bind_some h
  refine lc (k_call (js := []) (R := []) Fun_8 rfl rfl (fun w1 hw ap hl => m_l_toDef_ok hw.fro N p0 ph0_0  hx2)) rfl (fun v1 Φ_1 F1 q1 => ?_)
  obtain ⟨ap1, fr1, v2, D1, rfl, rfl, h1⟩ := q1
  replace ph0_0 := ph0_0.frame RTRule.lasts fr1 (ap1.o pa0_0)
  obtain ⟨x3, hx3, h⟩ := bind_some h
  refine lp (p_call Fun_7 rfl (fun w1 hw => m_s_DefOk_ok hw.fro N x2 (h1.rslG OTRule.gives) hx3)) rfl ?_
  refine lq (q_assign rfl) rfl ?_
  refine WL.nil ?_
  refine WT.seq ?_
  refine WT.region ?_
  refine lq (q_loadN Tn_24 rfl (fun w1 hw => hw.rgO (i := 0) rfl 0 2 [.string p0.Name, pv0_0] rfl) rfl) rfl ?_
  obtain ⟨x4, hx4, h⟩ := bind_some h
  refine lc (k_call (js := []) (R := [ob v2, D1]) Fun_8 rfl rfl (fun w1 hw ap hl => m_l_toDef_ok hw.fro N p0 ph0_0  hx4)) rfl (fun v3 Φ_2 F2 q2 => ?_)
  obtain ⟨ap2, fr2, v4, D2, rfl, rfl, h2⟩ := q2
  replace ph0_0 := ph0_0.frame RTRule.lasts fr2 (ap2.o pa0_0)
  refine ln (n_alloc (C := #[.string (⟨#[]⟩ : ByteArray), .slice none 0 0]) Zr_29 rfl) rfl (fun b_2 => ?_)
  refine ls (s_store (i := 0) (vs := [.string x4.Name, v4]) (C' := [.string x4.Name, v4]) (O' := [(b_2, .cells #[.string x4.Name, v4] 29 (0, 0)), (b_1, .cells #[.string p0.Name, pv0_0] 24 (0, 0))]) Sz_29 rfl rfl rfl rfl rfl rfl ⟨rfl, h2.one, trivial⟩ rfl rfl) rfl ?_
  refine WL.nil ?_
  refine WT.seq ?_
  refine WT.region ?_
  refine lq (q_loadN Tn_29 rfl (fun w1 hw => hw.rgO (i := 0) rfl 0 2 [.string x4.Name, v4] rfl) rfl) rfl ?_
  obtain ⟨x5, hx5, h⟩ := bind_some h
  refine lp (p_call Fun_9 rfl (fun w1 hw => m_i_DefOk_ok hw.fro N x4 (h2.rslG OTRule.gives) hx5)) rfl ?_
  refine lq (q_assign rfl) rfl ?_
  refine WL.nil ?_
  refine WT.seq ?_
  refine WT.seq ?_
  refine WT.region ?_
  refine lq (q_move rfl) rfl ?_
  refine lq (q_move rfl) rfl ?_
  refine lq (q_bne Bo_4 rfl rfl) rfl ?_
  refine WL.nil ?_
  refine WT.cond rfl (fun c2 => ?_) (fun c2 => ?_)
  · replace h := ite_t h c2
    refine WT.seq ?_
    refine WT.region ?_
    refine lq (q_assign rfl) rfl ?_
    refine WL.nil ?_
    refine WT.ret Try.func3 (resOk.one rfl) (fun w1 hw => ?_)
    cases h
    exact post_of_St hw
  replace h := ite_f h c2
  refine WT.skip ?_
  refine WT.seq ?_
  refine WT.seq ?_
  refine WT.mix (Kn Φ_2 [] [(b_2, .cells #[.string x4.Name, v4] 29 (0, 0)), (b_1, .cells #[.string p0.Name, pv0_0] 24 (0, 0))]) (fun _ => true) mixed (fun _ h => h.drew) ?_
  refine mq 0 rfl (by kernel_rfl) (fun w1 hw => Kn.of (fun k hk _ _ => by simp at hk) (AllIn.mem ⟨List.mem_of_getElem? (i := 0) rfl, List.mem_of_getElem? (i := 1) rfl, trivial⟩) hw) (q_loadN Tn_29 rfl (fun w1 hw => hw.rgO (i := 0) rfl 0 2 [.string x4.Name, v4] rfl) rfl) rfl ?_
  refine mq 1 rfl (by kernel_rfl) (fun w1 hw => Kn.of (fun k hk _ _ => by simp at hk) (AllIn.mem ⟨List.mem_of_getElem? (i := 0) rfl, List.mem_of_getElem? (i := 1) rfl, trivial⟩) hw) (q_loadN Tn_24 rfl (fun w1 hw => hw.rgO (i := 1) rfl 0 2 [.string p0.Name, pv0_0] rfl) rfl) rfl ?_
  obtain ⟨x6, hx6, h⟩ := bind_some h
  refine WM.one 2 (by kernel_rfl) (mc rfl (fun _ v Φx D w1 hq hw => Kn.of (fun k hk _ _ => by simp at hk) (AllIn.mem ⟨List.mem_of_getElem? (i := 0) rfl, List.mem_of_getElem? (i := 1) rfl, trivial⟩) hw) (k_call (js := []) (R := [ob v4, D2, ob v2, D1]) Fun_8 rfl rfl (fun w1 hw ap hl => m_l_toDef_ok hw.fro N p0 ph0_0  hx6)) rfl (fun v5 Φ_3 F3 q3 => ?_))
  obtain ⟨ap3, fr3, v6, D3, rfl, rfl, h3⟩ := q3
  replace h2 := h2.frame OTRule.lasts fr3 (ap3.r (i := 0) rfl) (ap3.r (i := 1) rfl)
  obtain ⟨x7, hx7, h⟩ := bind_some h
  refine WM.one 3 (by kernel_rfl) (mp rfl (fun _ w1 hw => Kn.of (fun k hk _ _ => by simp at hk) (AllIn.mem ⟨List.mem_of_getElem? (i := 0) rfl, List.mem_of_getElem? (i := 1) rfl, trivial⟩) hw) (p_call Fun_10 rfl (fun w1 hw => m_l_eqDef_ok hw.fro N x4 x6 (h2.rslG OTRule.gives) (h3.rslG OTRule.gives) hx7)) rfl ?_)
  refine mq 4 rfl (by kernel_rfl) (fun w1 hw => Kn.of (fun k hk _ _ => by simp at hk) (AllIn.mem ⟨List.mem_of_getElem? (i := 0) rfl, List.mem_of_getElem? (i := 1) rfl, trivial⟩) hw) (q_not rfl) rfl ?_
  refine WM.nil (by kernel_rfl) ?_
  refine WT.cond rfl (fun c3 => ?_) (fun c3 => ?_)
  · replace h := ite_t h c3
    refine WT.seq ?_
    refine WT.region ?_
    refine lq (q_assign rfl) rfl ?_
    refine WL.nil ?_
    refine WT.ret Try.func3 (resOk.one rfl) (fun w1 hw => ?_)
    cases h
    exact post_of_St hw
  replace h := ite_f h c3
  refine WT.skip ?_
  refine WT.seq ?_
  refine WT.region ?_
  refine lq (q_assign rfl) rfl ?_
  refine WL.nil ?_
  refine WT.ret Try.func3 (resOk.one rfl) (fun w1 hw => ?_)
  cases h
  exact post_of_St hw
end Go.Proofs.Ytjangilipfjcmaa
