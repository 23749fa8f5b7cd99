/- Printed by a program of ours: each Go function computes its Lean function. -/
import Derived.Test.YtjhlmnbkfdkmpaaProg
import Derived.Test.YtjhlmnbkfdkmpaaWExactRuleOkWalk1
namespace Go.Proofs.Ytjhlmnbkfdkmpaa
open Eng
open Go.RowKit (Below)
set_option linter.unusedVariables false
set_option linter.unusedSimpArgs false

set_option maxRecDepth 100000
set_option maxHeartbeats 1000000
theorem m_s_ValOk_ok {Φ : Hp} {w : World} (hΦ : In Φ w) (N : Nat) (p0 : TVal)   {r : Bool} (h : m_s_ValOk N p0 = some r) :
    Calls Try.prog 277 [.agg [.int .i64 p0.K, .int .i64 p0.N, .string p0.S].toArray].toArray w (Post (.bool r) w) := by
  refine enter Try.func277 rfl Try.ntmps277 rfl (St.start0 hΦ) ?_
  unfold m_s_ValOk at h
  refine WT.seq ?_
  refine WT.region ?_
  refine ln (n_box (C := #[.int .i64 p0.K, .int .i64 p0.N, .string p0.S]) rfl rfl) rfl (fun b_1 => ?_)
  refine lq (q_assign rfl) rfl ?_
  refine WL.nil ?_
  refine WT.seq ?_
  refine WT.seq ?_
  refine WT.region ?_
  refine lq (q_fieldAddr Fld_192_0 rfl) rfl ?_
  refine lq (q_load1 T1_3 rfl (fun w1 hw => hw.rgO (i := 0) rfl 0 1 [.int .i64 p0.K] rfl)) rfl ?_
  refine WL.nil ?_
  refine WT.block ?_
  refine WT.seq ?_
  refine WT.region ?_
  refine lq (q_eql rfl rfl) rfl ?_
  refine lq (q_assign rfl) rfl ?_
  refine WL.nil ?_
  refine WT.cond rfl (fun c1 => ?_) (fun c1 => ?_)
  · replace h := ite_t h c1
    refine WT.seq ?_
    refine WT.region ?_
    refine lq (q_fieldAddr Fld_192_1 rfl) rfl ?_
    refine lq (q_load1 T1_3 rfl (fun w1 hw => hw.rgO (i := 0) rfl 1 1 [.int .i64 p0.N] rfl)) rfl ?_
    obtain ⟨x1, hx1, h⟩ := bind_some h
    refine lp (p_call Fun_138 rfl (fun w1 hw => m_s_l1In_ok hw.fro N p0.N (-1000000000) 1000000000 hx1)) rfl ?_
    refine lq (q_move rfl) rfl ?_
    obtain ⟨b1, hb_1, h⟩ := bind_some h
    refine WL.cutN 4 [(14, .bool b1), (2, .bool false)] ?_ (fun K => ?_)
    rotate_left
    · refine WL.split (d := 10) rfl (fun c2 => ?_) (fun c2 => ?_)
      · replace hb_1 := ite_t hb_1 c2
        refine WL.yes rfl rfl ?_
        refine lq (q_fieldAddr Fld_192_2 rfl) rfl ?_
        refine WL.yes rfl rfl ?_
        refine lq (q_load1 T1_9 rfl (fun w1 hw => hw.rgO (i := 0) rfl 2 1 [.string p0.S] rfl)) rfl ?_
        refine WL.yes rfl rfl ?_
        refine lq (q_seq rfl rfl) rfl ?_
        refine WL.q (q_pick1 rfl rfl) rfl rfl rfl ?_
        cases hb_1
        exact WL.keep (by exact ⟨rfl, rfl, trivial⟩) K
      · replace hb_1 := ite_f hb_1 c2
        refine WL.no rfl rfl rfl rfl ?_
        refine WL.no rfl rfl rfl rfl ?_
        refine WL.no rfl rfl rfl rfl ?_
        refine WL.q (q_pick0 rfl rfl) rfl rfl rfl ?_
        cases hb_1
        exact WL.keep (by exact ⟨rfl, rfl, trivial⟩) K
    refine lq (q_assign rfl) rfl ?_
    refine WL.nil ?_
    refine WT.ret Try.func277 (resOk.one rfl) (fun w1 hw => ?_)
    cases h
    exact post_of_St hw
  replace h := ite_f h c1
  refine WT.seq ?_
  refine WT.region ?_
  refine lq (q_eql rfl rfl) rfl ?_
  refine lq (q_assign rfl) rfl ?_
  refine WL.nil ?_
  refine WT.cond rfl (fun c3 => ?_) (fun c3 => ?_)
  · replace h := ite_t h c3
    refine WT.seq ?_
    refine WT.region ?_
    refine lq (q_fieldAddr Fld_192_2 rfl) rfl ?_
    refine lq (q_load1 T1_9 rfl (fun w1 hw => hw.rgO (i := 0) rfl 2 1 [.string p0.S] rfl)) rfl ?_
    obtain ⟨x2, hx2, h⟩ := bind_some h
    refine lp (p_call Fun_286 rfl (fun w1 hw => m_s_l2Plain_ok hw.fro N p0.S hx2)) rfl ?_
    refine lq (q_move rfl) rfl ?_
    obtain ⟨b2, hb_2, h⟩ := bind_some h
    refine WL.cutN 4 [(24, .bool b2), (2, .bool false)] ?_ (fun K => ?_)
    rotate_left
    · refine WL.split (d := 20) rfl (fun c4 => ?_) (fun c4 => ?_)
      · replace hb_2 := ite_t hb_2 c4
        refine WL.yes rfl rfl ?_
        refine lq (q_fieldAddr Fld_192_1 rfl) rfl ?_
        refine WL.yes rfl rfl ?_
        refine lq (q_load1 T1_3 rfl (fun w1 hw => hw.rgO (i := 0) rfl 1 1 [.int .i64 p0.N] rfl)) rfl ?_
        refine WL.yes rfl rfl ?_
        refine lq (q_eql rfl rfl) rfl ?_
        refine WL.q (q_pick1 rfl rfl) rfl rfl rfl ?_
        cases hb_2
        exact WL.keep (by exact ⟨rfl, rfl, trivial⟩) K
      · replace hb_2 := ite_f hb_2 c4
        refine WL.no rfl rfl rfl rfl ?_
        refine WL.no rfl rfl rfl rfl ?_
        refine WL.no rfl rfl rfl rfl ?_
        refine WL.q (q_pick0 rfl rfl) rfl rfl rfl ?_
        cases hb_2
        exact WL.keep (by exact ⟨rfl, rfl, trivial⟩) K
    refine lq (q_assign rfl) rfl ?_
    refine WL.nil ?_
    refine WT.ret Try.func277 (resOk.one rfl) (fun w1 hw => ?_)
    cases h
    exact post_of_St hw
  replace h := ite_f h c3
  refine WT.skip ?_
  refine WT.inBlock ?_
  refine WT.seq ?_
  refine WT.region ?_
  refine lq (q_assign rfl) rfl ?_
  refine WL.nil ?_
  refine WT.ret Try.func277 (resOk.one rfl) (fun w1 hw => ?_)
  cases h
  exact post_of_St hw
theorem m_s_ArgOk_ok {Φ : Hp} {w : World} (hΦ : In Φ w) (N : Nat) (p0 : TArg)   {r : Bool} (h : m_s_ArgOk N p0 = some r) :
    Calls Try.prog 259 [.agg [.int .i64 p0.K, .string p0.S, .int .i64 p0.V.K, .int .i64 p0.V.N, .string p0.V.S].toArray].toArray w (Post (.bool r) w) := by
  refine enter Try.func259 rfl Try.ntmps259 rfl (St.start0 hΦ) ?_
  unfold m_s_ArgOk at h
  refine WT.seq ?_
  refine WT.region ?_
  refine ln (n_box (C := #[.int .i64 p0.K, .string p0.S, .int .i64 p0.V.K, .int .i64 p0.V.N, .string p0.V.S]) rfl rfl) rfl (fun b_1 => ?_)
  refine lq (q_assign rfl) rfl ?_
  refine WL.nil ?_
  refine WT.seq ?_
  refine WT.region ?_
  refine lq (q_fieldAddr Fld_206_2 rfl) rfl ?_
  refine lq (q_loadN Tn_192 rfl (fun w1 hw => hw.rgO (i := 0) rfl 2 3 [.int .i64 p0.V.K, .int .i64 p0.V.N, .string p0.V.S] rfl) rfl) rfl ?_
  refine lq (q_build (vs := []) (C := #[.int .i64 0, .int .i64 0, .string (⟨#[]⟩ : ByteArray)]) Pl_192 Zr_192 rfl (fill_nil)) rfl ?_
  refine lq (q_eqA EqT_192 rfl rfl rfl (r := eqT_TVal p0.V (⟨0, 0, (⟨#[]⟩ : ByteArray)⟩ : TVal)) rfl) rfl ?_
  refine lq (q_assign rfl) rfl ?_
  refine WL.nil ?_
  refine WT.seq ?_
  refine WT.seq ?_
  refine WT.region ?_
  refine lq (q_fieldAddr Fld_206_0 rfl) rfl ?_
  refine lq (q_load1 T1_3 rfl (fun w1 hw => hw.rgO (i := 0) rfl 0 1 [.int .i64 p0.K] rfl)) rfl ?_
  refine WL.nil ?_
  refine WT.block ?_
  refine WT.seq ?_
  refine WT.region ?_
  refine lq (q_eql rfl rfl) rfl ?_
  refine lq (q_assign rfl) rfl ?_
  refine WL.nil ?_
  refine WT.cond rfl (fun c1 => ?_) (fun c1 => ?_)
  · replace h := ite_t h c1
    refine WT.seq ?_
    refine WT.region ?_
    refine lq (q_fieldAddr Fld_206_1 rfl) rfl ?_
    refine lq (q_load1 T1_9 rfl (fun w1 hw => hw.rgO (i := 0) rfl 1 1 [.string p0.S] rfl)) rfl ?_
    obtain ⟨x1, hx1, h⟩ := bind_some h
    refine lp (p_call Fun_276 rfl (fun w1 hw => m_s_l5VarOk_ok hw.fro N p0.S hx1)) rfl ?_
    refine lq (q_move rfl) rfl ?_
    obtain ⟨b1, hb_1, h⟩ := bind_some h
    refine WL.cutN 2 [(17, .bool b1), (2, .bool false)] ?_ (fun K => ?_)
    rotate_left
    · refine WL.split (d := 15) rfl (fun c2 => ?_) (fun c2 => ?_)
      · replace hb_1 := ite_t hb_1 c2
        refine WL.yes rfl rfl ?_
        refine lq (q_move rfl) rfl ?_
        refine WL.q (q_pick1 rfl rfl) rfl rfl rfl ?_
        cases hb_1
        exact WL.keep (by exact ⟨rfl, rfl, trivial⟩) K
      · replace hb_1 := ite_f hb_1 c2
        refine WL.no rfl rfl rfl rfl ?_
        refine WL.q (q_pick0 rfl rfl) rfl rfl rfl ?_
        cases hb_1
        exact WL.keep (by exact ⟨rfl, rfl, trivial⟩) K
    refine lq (q_assign rfl) rfl ?_
    refine WL.nil ?_
    refine WT.ret Try.func259 (resOk.one rfl) (fun w1 hw => ?_)
    cases h
    exact post_of_St hw
  replace h := ite_f h c1
  refine WT.seq ?_
  refine WT.region ?_
  refine lq (q_eql rfl rfl) rfl ?_
  refine lq (q_assign rfl) rfl ?_
  refine WL.nil ?_
  refine WT.cond rfl (fun c3 => ?_) (fun c3 => ?_)
  · replace h := ite_t h c3
    refine WT.seq ?_
    refine WT.region ?_
    refine lq (q_fieldAddr Fld_206_2 rfl) rfl ?_
    refine lq (q_loadN Tn_192 rfl (fun w1 hw => hw.rgO (i := 0) rfl 2 3 [.int .i64 p0.V.K, .int .i64 p0.V.N, .string p0.V.S] rfl) rfl) rfl ?_
    obtain ⟨x2, hx2, h⟩ := bind_some h
    refine lp (p_call Fun_277 rfl (fun w1 hw => m_s_ValOk_ok hw.fro N p0.V hx2)) rfl ?_
    refine lq (q_move rfl) rfl ?_
    obtain ⟨b2, hb_2, h⟩ := bind_some h
    refine WL.cutN 4 [(27, .bool b2), (2, .bool false)] ?_ (fun K => ?_)
    rotate_left
    · refine WL.split (d := 23) rfl (fun c4 => ?_) (fun c4 => ?_)
      · replace hb_2 := ite_t hb_2 c4
        refine WL.yes rfl rfl ?_
        refine lq (q_fieldAddr Fld_206_1 rfl) rfl ?_
        refine WL.yes rfl rfl ?_
        refine lq (q_load1 T1_9 rfl (fun w1 hw => hw.rgO (i := 0) rfl 1 1 [.string p0.S] rfl)) rfl ?_
        refine WL.yes rfl rfl ?_
        refine lq (q_seq rfl rfl) rfl ?_
        refine WL.q (q_pick1 rfl rfl) rfl rfl rfl ?_
        cases hb_2
        exact WL.keep (by exact ⟨rfl, rfl, trivial⟩) K
      · replace hb_2 := ite_f hb_2 c4
        refine WL.no rfl rfl rfl rfl ?_
        refine WL.no rfl rfl rfl rfl ?_
        refine WL.no rfl rfl rfl rfl ?_
        refine WL.q (q_pick0 rfl rfl) rfl rfl rfl ?_
        cases hb_2
        exact WL.keep (by exact ⟨rfl, rfl, trivial⟩) K
    refine lq (q_assign rfl) rfl ?_
    refine WL.nil ?_
    refine WT.ret Try.func259 (resOk.one rfl) (fun w1 hw => ?_)
    cases h
    exact post_of_St hw
  replace h := ite_f h c3
  refine WT.seq ?_
  refine WT.region ?_
  refine lq (q_eql rfl rfl) rfl ?_
  refine lq (q_assign rfl) rfl ?_
  refine WL.nil ?_
  refine WT.cond rfl (fun c5 => ?_) (fun c5 => ?_)
  · replace h := ite_t h c5
    refine WT.seq ?_
    refine WT.region ?_
    refine lq (q_fieldAddr Fld_206_1 rfl) rfl ?_
    refine lq (q_load1 T1_9 rfl (fun w1 hw => hw.rgO (i := 0) rfl 1 1 [.string p0.S] rfl)) rfl ?_
    refine lq (q_seq rfl rfl) rfl ?_
    refine lq (q_move rfl) rfl ?_
    obtain ⟨b3, hb_3, h⟩ := bind_some h
    refine WL.cutN 2 [(35, .bool b3), (2, .bool false)] ?_ (fun K => ?_)
    rotate_left
    · refine WL.split (d := 33) rfl (fun c6 => ?_) (fun c6 => ?_)
      · replace hb_3 := ite_t hb_3 c6
        refine WL.yes rfl rfl ?_
        refine lq (q_move rfl) rfl ?_
        refine WL.q (q_pick1 rfl rfl) rfl rfl rfl ?_
        cases hb_3
        exact WL.keep (by exact ⟨rfl, rfl, trivial⟩) K
      · replace hb_3 := ite_f hb_3 c6
        refine WL.no rfl rfl rfl rfl ?_
        refine WL.q (q_pick0 rfl rfl) rfl rfl rfl ?_
        cases hb_3
        exact WL.keep (by exact ⟨rfl, rfl, trivial⟩) K
    refine lq (q_assign rfl) rfl ?_
    refine WL.nil ?_
    refine WT.ret Try.func259 (resOk.one rfl) (fun w1 hw => ?_)
    cases h
    exact post_of_St hw
  replace h := ite_f h c5
  refine WT.skip ?_
  refine WT.inBlock ?_
  refine WT.seq ?_
  refine WT.region ?_
  refine lq (q_assign rfl) rfl ?_
  refine WL.nil ?_
  refine WT.ret Try.func259 (resOk.one rfl) (fun w1 hw => ?_)
  cases h
  exact post_of_St hw
theorem m_s_PatOk_ok {Φ : Hp} {w : World} (hΦ : In Φ w) (N : Nat) (p0 : TPat) {pv0_0 : Value} {pG0_0 : List Nat} (ph0_0 : RSl RTArg 5 Φ pG0_0 pv0_0 p0.Args) {r : Bool} (h : m_s_PatOk N p0 = some r) :
    Calls Try.prog 210 [.agg [.string p0.Kind, pv0_0, .bool p0.Not].toArray].toArray w (Post (.bool r) w) := by
  refine enter Try.func210 rfl Try.ntmps210 rfl (St.start0 hΦ) ?_
  generalize hb0 : (⟨w, [], Φ⟩ : Base) = w0
  unfold m_s_PatOk at h
  refine WT.seq ?_
  refine WT.region ?_
  refine ln (n_box (C := #[.string p0.Kind, pv0_0, .bool p0.Not]) rfl rfl) rfl (fun b_1 => ?_)
  refine lq (q_assign rfl) rfl ?_
  refine WL.nil ?_
  refine WT.seq ?_
  refine WT.seq ?_
  refine WT.region ?_
  refine lq (q_assign rfl) rfl ?_
  refine WL.nil ?_
  refine WT.block ?_
  refine WT.loop ?_
  refine WT.mono (l' := [(1, .pointer (some ⟨b_1, 0, none⟩)), (3, .int .i64 0)]) (S' := St w0 Φ [(b_1, .cells #[.string p0.Kind, pv0_0, .bool p0.Not] 121 (0, 0))] []) ⟨rfl, rfl, trivial⟩ (fun w1 hw => (hw.sel (js := []) rfl).selO (js := [0]) rfl) ?_
  refine loop_ind (σ := Int) (fun s => [(1, .pointer (some ⟨b_1, 0, none⟩)), (3, .int .i64 s)]) (fun s => St w0 Φ [(b_1, .cells #[.string p0.Kind, pv0_0, .bool p0.Not] 121 (0, 0))] []) (fun m s => m_s_PatOk_l1 N p0 m s = some r) (fun s hm => none_ne (show (none : Option (Bool)) = some r from hm)) (fun n1 ih1 s hm => ?_) N (0) h
  revert hm; revert s; intro s1 hm
  have h : m_s_PatOk_l1 N p0 (n1 + 1) s1 = some r := hm
  show WT _ _ [(1, .pointer (some ⟨b_1, 0, none⟩)), (3, .int .i64 s1)] (St w0 Φ [(b_1, .cells #[.string p0.Kind, pv0_0, .bool p0.Not] 121 (0, 0))] [])
  unfold m_s_PatOk_l1 at h
  refine WT.seq ?_
  refine WT.seq ?_
  refine WT.region ?_
  refine lq (q_move rfl) rfl ?_
  refine lq (q_fieldAddr Fld_121_1 rfl) rfl ?_
  refine lq (q_load1 T1_119 rfl (fun w1 hw => hw.rgO (i := 0) rfl 1 1 [pv0_0] rfl)) rfl ?_
  refine lq (q_lenR Sl_119 rfl rfl ph0_0) rfl ?_
  refine lq (q_lss rfl rfl) rfl ?_
  refine WL.nil ?_
  refine WT.cond rfl (fun c1 => ?_) (fun c1 => ?_)
  · replace h := ite_t h c1
    refine WT.skip ?_
    refine WT.seq ?_
    refine WT.block ?_
    refine WT.seq ?_
    refine WT.region ?_
    refine lq (q_fieldAddr Fld_121_1 rfl) rfl ?_
    refine lq (q_load1 T1_119 rfl (fun w1 hw => hw.rgO (i := 0) rfl 1 1 [pv0_0] rfl)) rfl ?_
    refine lq (q_move rfl) rfl ?_
    obtain ⟨x1, hx1, h⟩ := bind_some h
    obtain ⟨cs1, F1, -, g1, hb1, hs1, r1⟩ := ph0_0.el (idx_some hx1).2.2
    obtain ⟨rfl, -⟩ := r1
    refine lq (q_indexAddr Sl_119 rfl rfl ph0_0 hx1) rfl ?_
    refine lq (q_loadN Tn_206 rfl (fun w1 hw => (g1.of_eq 0 5 rfl rfl : rg _ _ _ [.int .i64 x1.K, .string x1.S, .int .i64 x1.V.K, .int .i64 x1.V.N, .string x1.V.S]).rangeAt hw.fro) rfl) rfl ?_
    obtain ⟨x2, hx2, h⟩ := bind_some h
    refine lp (p_call Fun_259 rfl (fun w1 hw => m_s_ArgOk_ok hw.fro N x1 hx2)) rfl ?_
    refine lq (q_not rfl) rfl ?_
    refine WL.nil ?_
    refine WT.cond rfl (fun c2 => ?_) (fun c2 => ?_)
    · replace h := ite_t h c2
      refine WT.seq ?_
      refine WT.region ?_
      refine lq (q_assign rfl) rfl ?_
      refine WL.nil ?_
      refine WT.ret Try.func210 (resOk.one rfl) (fun w1 hw => ?_)
      subst hb0
      cases h
      exact post_of_St hw
    replace h := ite_f h c2
    refine WT.skip ?_
    refine WT.inBlock ?_
    refine WT.region ?_
    refine lq (q_move rfl) rfl ?_
    refine lq (q_add rfl rfl) rfl ?_
    refine lq (q_assign rfl) rfl ?_
    refine WL.nil ?_
    refine WT.inLoop (WT.mono (l' := [(1, .pointer (some ⟨b_1, 0, none⟩)), (3, .int .i64 (IntKind.i64.wrap (s1 + 1)))]) (S' := St w0 Φ [(b_1, .cells #[.string p0.Kind, pv0_0, .bool p0.Not] 121 (0, 0))] []) ⟨rfl, rfl, trivial⟩ (fun w1 hw => (hw.sel (js := []) rfl).selO (js := [0]) rfl) ?_)
    exact ih1 (IntKind.i64.wrap (s1 + 1)) h
  replace h := ite_f h c1
  refine WT.exit rfl ?_
  refine WT.seq ?_
  refine WT.region ?_
  refine lq (q_fieldAddr Fld_121_0 rfl) rfl ?_
  refine lq (q_load1 T1_9 rfl (fun w1 hw => hw.rgO (i := 0) rfl 0 1 [.string p0.Kind] rfl)) rfl ?_
  obtain ⟨x3, hx3, h⟩ := bind_some h
  refine lp (p_call Fun_137 rfl (fun w1 hw => m_s_NameOk_ok hw.fro N p0.Kind hx3)) rfl ?_
  refine lq (q_move rfl) rfl ?_
  obtain ⟨b1, hb_1, h⟩ := bind_some h
  refine WL.cutN 5 [(26, .bool b1)] ?_ (fun K => ?_)
  rotate_left
  · refine WL.split (d := 21) rfl (fun c3 => ?_) (fun c3 => ?_)
    · replace hb_1 := ite_t hb_1 c3
      refine WL.yes rfl rfl ?_
      refine lq (q_fieldAddr Fld_121_1 rfl) rfl ?_
      refine WL.yes rfl rfl ?_
      refine lq (q_load1 T1_119 rfl (fun w1 hw => hw.rgO (i := 0) rfl 1 1 [pv0_0] rfl)) rfl ?_
      refine WL.yes rfl rfl ?_
      refine lq (q_lenR Sl_119 rfl rfl ph0_0) rfl ?_
      refine WL.yes rfl rfl ?_
      refine lq (q_leq rfl rfl) rfl ?_
      refine WL.q (q_pick1 rfl rfl) rfl rfl rfl ?_
      cases hb_1
      exact WL.keep (by exact ⟨rfl, trivial⟩) K
    · replace hb_1 := ite_f hb_1 c3
      refine WL.no rfl rfl rfl rfl ?_
      refine WL.no rfl rfl rfl rfl ?_
      refine WL.no rfl rfl rfl rfl ?_
      refine WL.no rfl rfl rfl rfl ?_
      refine WL.q (q_pick0 rfl rfl) rfl rfl rfl ?_
      cases hb_1
      exact WL.keep (by exact ⟨rfl, trivial⟩) K
  refine lq (q_assign rfl) rfl ?_
  refine WL.nil ?_
  refine WT.ret Try.func210 (resOk.one rfl) (fun w1 hw => ?_)
  subst hb0
  cases h
  exact post_of_St hw
theorem m_s_l9Pats_ok {Φ : Hp} {w : World} (hΦ : In Φ w) (N : Nat) (p0 : (List TPat)) {pv0 : Value} {pG0 : List Nat} (ph0 : RSl RTPat 3 Φ pG0 pv0 p0) {r : Bool} (h : m_s_l9Pats N p0 = some r) :
    Calls Try.prog 143 [pv0].toArray w (Post (.bool r) w) := by
  refine enter Try.func143 rfl Try.ntmps143 rfl (St.start0 hΦ) ?_
  generalize hb0 : (⟨w, [], Φ⟩ : Base) = w0
  unfold m_s_l9Pats at h
  refine WT.seq ?_
  refine WT.region ?_
  refine lq (q_assign rfl) rfl ?_
  refine WL.nil ?_
  refine WT.seq ?_
  refine WT.seq ?_
  refine WT.region ?_
  refine lq (q_assign rfl) rfl ?_
  refine WL.nil ?_
  refine WT.block ?_
  refine WT.loop ?_
  refine WT.mono (l' := [(0, pv0), (3, .int .i64 0)]) (S' := St w0 Φ [] []) ⟨rfl, rfl, trivial⟩ (fun w1 hw => (hw.sel (js := []) rfl).selO (js := []) rfl) ?_
  refine loop_ind (σ := Int) (fun s => [(0, pv0), (3, .int .i64 s)]) (fun s => St w0 Φ [] []) (fun m s => m_s_l9Pats_l1 N p0 m s = some r) (fun s hm => none_ne (show (none : Option (Bool)) = some r from hm)) (fun n1 ih1 s hm => ?_) N (0) h
  revert hm; revert s; intro s1 hm
  have h : m_s_l9Pats_l1 N p0 (n1 + 1) s1 = some r := hm
  show WT _ _ [(0, pv0), (3, .int .i64 s1)] (St w0 Φ [] [])
  unfold m_s_l9Pats_l1 at h
  refine WT.seq ?_
  refine WT.seq ?_
  refine WT.region ?_
  refine lq (q_move rfl) rfl ?_
  refine lq (q_move rfl) rfl ?_
  refine lq (q_lenR Sl_62 rfl rfl ph0) rfl ?_
  refine lq (q_lss rfl rfl) rfl ?_
  refine WL.nil ?_
  refine WT.cond rfl (fun c1 => ?_) (fun c1 => ?_)
  · replace h := ite_t h c1
    refine WT.skip ?_
    refine WT.seq ?_
    refine WT.block ?_
    refine WT.seq ?_
    refine WT.seq ?_
    refine WT.region ?_
    refine lq (q_move rfl) rfl ?_
    refine lq (q_gtr rfl rfl) rfl ?_
    refine lq (q_move rfl) rfl ?_
    obtain ⟨b1, hb_1, h⟩ := bind_some h
    refine WL.cutN 7 [(19, .bool b1), (0, pv0), (3, .int .i64 s1)] ?_ (fun K => ?_)
    rotate_left
    · refine WL.split (d := 12) rfl (fun c2 => ?_) (fun c2 => ?_)
      · replace hb_1 := ite_t hb_1 c2
        refine WL.yes rfl rfl ?_
        refine lq (q_move rfl) rfl ?_
        refine WL.yes rfl rfl ?_
        refine lq (q_move rfl) rfl ?_
        refine WL.yes rfl rfl ?_
        obtain ⟨x1, hx1, hb_1⟩ := bind_some hb_1
        obtain ⟨cs1, F1, -, g1, hb1, hs1, r1⟩ := ph0.el (idx_some hx1).2.2
        obtain ⟨v1, G1, rfl, hq1, h1⟩ := r1
        obtain rfl := hq1.symm
        refine lq (q_indexAddr Sl_62 rfl rfl ph0 hx1) rfl ?_
        refine WL.yes rfl rfl ?_
        refine lq (q_fieldAddr Fld_121_2 rfl) rfl ?_
        refine WL.yes rfl rfl ?_
        refine lq (q_load1 T1_4 rfl (fun w1 hw => (g1.of_eq 2 1 rfl rfl : rg _ _ _ [.bool x1.Not]).rangeAt hw.fro)) rfl ?_
        refine WL.yes rfl rfl ?_
        refine lq (q_not rfl) rfl ?_
        refine WL.q (q_pick1 rfl rfl) rfl rfl rfl ?_
        cases hb_1
        exact WL.keep (by exact ⟨rfl, rfl, rfl, trivial⟩) K
      · replace hb_1 := ite_f hb_1 c2
        refine WL.no rfl rfl rfl rfl ?_
        refine WL.no rfl rfl rfl rfl ?_
        refine WL.no rfl rfl rfl rfl ?_
        refine WL.no rfl rfl rfl rfl ?_
        refine WL.no rfl rfl rfl rfl ?_
        refine WL.no rfl rfl rfl rfl ?_
        refine WL.q (q_pick0 rfl rfl) rfl rfl rfl ?_
        cases hb_1
        exact WL.keep (by exact ⟨rfl, rfl, rfl, trivial⟩) K
    refine WL.nil ?_
    refine WT.cond rfl (fun c3 => ?_) (fun c3 => ?_)
    · replace h := ite_t h c3
      refine WT.seq ?_
      refine WT.region ?_
      refine lq (q_assign rfl) rfl ?_
      refine WL.nil ?_
      refine WT.ret Try.func143 (resOk.one rfl) (fun w1 hw => ?_)
      subst hb0
      cases h
      exact post_of_St hw
    replace h := ite_f h c3
    refine WT.skip ?_
    refine WT.seq ?_
    refine WT.region ?_
    refine lq (q_move rfl) rfl ?_
    refine lq (q_move rfl) rfl ?_
    obtain ⟨x2, hx2, h⟩ := bind_some h
    obtain ⟨cs2, F2, -, g2, hb2, hs2, r2⟩ := ph0.el (idx_some hx2).2.2
    obtain ⟨v2, G2, rfl, hq2, h2⟩ := r2
    obtain rfl := hq2.symm
    refine lq (q_indexAddr Sl_62 rfl rfl ph0 hx2) rfl ?_
    refine lq (q_loadN Tn_121 rfl (fun w1 hw => (g2.of_eq 0 3 rfl rfl : rg _ _ _ [.string x2.Kind, v2, .bool x2.Not]).rangeAt hw.fro) rfl) rfl ?_
    obtain ⟨x3, hx3, h⟩ := bind_some h
    refine lp (p_call Fun_210 rfl (fun w1 hw => m_s_PatOk_ok hw.fro N x2 h2 hx3)) rfl ?_
    refine lq (q_not rfl) rfl ?_
    refine lq (q_move rfl) rfl ?_
    obtain ⟨b2, hb_2, h⟩ := bind_some h
    refine WL.cutN 10 [(36, .bool b2), (0, pv0), (3, .int .i64 s1)] ?_ (fun K => ?_)
    rotate_left
    · refine WL.split (d := 26) rfl (fun c4 => ?_) (fun c4 => ?_)
      · replace hb_2 := ite_t hb_2 c4
        refine WL.no rfl rfl rfl rfl ?_
        refine WL.no rfl rfl rfl rfl ?_
        refine WL.no rfl rfl rfl rfl ?_
        refine WL.nox rfl rfl rfl rfl ?_
        refine WL.nox rfl rfl rfl rfl ?_
        refine WL.nox rfl rfl rfl rfl ?_
        refine WL.nox rfl rfl rfl rfl ?_
        refine WL.nox rfl rfl rfl rfl ?_
        refine WL.no rfl rfl rfl rfl ?_
        refine WL.q (q_pick1 rfl rfl) rfl rfl rfl ?_
        cases hb_2
        exact WL.keep (by exact ⟨rfl, rfl, rfl, trivial⟩) K
      · replace hb_2 := ite_f hb_2 c4
        refine WL.yes rfl rfl ?_
        refine lq (q_move rfl) rfl ?_
        refine WL.yes rfl rfl ?_
        refine lq (q_eql rfl rfl) rfl ?_
        refine WL.yes rfl rfl ?_
        refine lq (q_move rfl) rfl ?_
        obtain ⟨b3, hb_3, hb_2⟩ := bind_some hb_2
        refine WL.cutN 6 [(35, .bool b3), (0, pv0), (3, .int .i64 s1), (26, .bool false)] ?_ (fun K => ?_)
        rotate_left
        · refine WL.split (d := 29) rfl (fun c5 => ?_) (fun c5 => ?_)
          · replace hb_3 := ite_t hb_3 c5
            refine WL.yes rfl rfl ?_
            refine lq (q_move rfl) rfl ?_
            refine WL.yes rfl rfl ?_
            refine lq (q_move rfl) rfl ?_
            refine WL.yes rfl rfl ?_
            obtain ⟨x4, hx4, hb_3⟩ := bind_some hb_3
            obtain ⟨cs3, F3, -, g3, hb3, hs3, r3⟩ := ph0.el (idx_some hx4).2.2
            obtain ⟨v3, G3, rfl, hq3, h3⟩ := r3
            obtain rfl := hq3.symm
            refine lq (q_indexAddr Sl_62 rfl rfl ph0 hx4) rfl ?_
            refine WL.yes rfl rfl ?_
            refine lq (q_fieldAddr Fld_121_2 rfl) rfl ?_
            refine WL.yes rfl rfl ?_
            refine lq (q_load1 T1_4 rfl (fun w1 hw => (g3.of_eq 2 1 rfl rfl : rg _ _ _ [.bool x4.Not]).rangeAt hw.fro)) rfl ?_
            refine WL.yes rfl rfl ?_
            refine WL.q (q_pick1 rfl rfl) rfl rfl rfl ?_
            cases hb_3
            exact WL.keep (by exact ⟨rfl, rfl, rfl, rfl, trivial⟩) K
          · replace hb_3 := ite_f hb_3 c5
            refine WL.no rfl rfl rfl rfl ?_
            refine WL.no rfl rfl rfl rfl ?_
            refine WL.no rfl rfl rfl rfl ?_
            refine WL.no rfl rfl rfl rfl ?_
            refine WL.no rfl rfl rfl rfl ?_
            refine WL.yes rfl rfl ?_
            refine WL.q (q_pick0 rfl rfl) rfl rfl rfl ?_
            cases hb_3
            exact WL.keep (by exact ⟨rfl, rfl, rfl, rfl, trivial⟩) K
        refine WL.q (q_pick0 rfl rfl) rfl rfl rfl ?_
        cases hb_2
        exact WL.keep (by exact ⟨rfl, rfl, rfl, trivial⟩) K
    refine lq (q_move rfl) rfl ?_
    obtain ⟨b4, hb_4, h⟩ := bind_some h
    refine WL.cutN 19 [(56, .bool b4), (0, pv0), (3, .int .i64 s1)] ?_ (fun K => ?_)
    rotate_left
    · refine WL.split (d := 37) rfl (fun c6 => ?_) (fun c6 => ?_)
      · replace hb_4 := ite_t hb_4 c6
        refine WL.no rfl rfl rfl rfl ?_
        refine WL.no rfl rfl rfl rfl ?_
        refine WL.no rfl rfl rfl rfl ?_
        refine WL.nox rfl rfl rfl rfl ?_
        refine WL.nox rfl rfl rfl rfl ?_
        refine WL.nox rfl rfl rfl rfl ?_
        refine WL.nox rfl rfl rfl rfl ?_
        refine WL.nox rfl rfl rfl rfl ?_
        refine WL.nox rfl rfl rfl rfl ?_
        refine WL.no rfl rfl rfl rfl ?_
        refine WL.no rfl rfl rfl rfl ?_
        refine WL.nox rfl rfl rfl rfl ?_
        refine WL.nox rfl rfl rfl rfl ?_
        refine WL.nox rfl rfl rfl rfl ?_
        refine WL.nox rfl rfl rfl rfl ?_
        refine WL.nox rfl rfl rfl rfl ?_
        refine WL.nox rfl rfl rfl rfl ?_
        refine WL.no rfl rfl rfl rfl ?_
        refine WL.q (q_pick1 rfl rfl) rfl rfl rfl ?_
        cases hb_4
        exact WL.keep (by exact ⟨rfl, rfl, rfl, trivial⟩) K
      · replace hb_4 := ite_f hb_4 c6
        refine WL.yes rfl rfl ?_
        refine lq (q_move rfl) rfl ?_
        refine WL.yes rfl rfl ?_
        refine lq (q_gtr rfl rfl) rfl ?_
        refine WL.yes rfl rfl ?_
        refine lq (q_move rfl) rfl ?_
        obtain ⟨b5, hb_5, hb_4⟩ := bind_some hb_4
        refine WL.cutN 7 [(47, .bool b5), (0, pv0), (3, .int .i64 s1), (37, .bool false)] ?_ (fun K => ?_)
        rotate_left
        · refine WL.split (d := 40) rfl (fun c7 => ?_) (fun c7 => ?_)
          · replace hb_5 := ite_t hb_5 c7
            refine WL.yes rfl rfl ?_
            refine lq (q_move rfl) rfl ?_
            refine WL.yes rfl rfl ?_
            refine lq (q_move rfl) rfl ?_
            refine WL.yes rfl rfl ?_
            refine lq (q_sub rfl rfl) rfl ?_
            refine WL.yes rfl rfl ?_
            obtain ⟨x5, hx5, hb_5⟩ := bind_some hb_5
            obtain ⟨cs4, F4, -, g4, hb4, hs4, r4⟩ := ph0.el (idx_some hx5).2.2
            obtain ⟨v4, G4, rfl, hq4, h4⟩ := r4
            obtain rfl := hq4.symm
            refine lq (q_indexAddr Sl_62 rfl rfl ph0 hx5) rfl ?_
            refine WL.yes rfl rfl ?_
            refine lq (q_fieldAddr Fld_121_2 rfl) rfl ?_
            refine WL.yes rfl rfl ?_
            refine lq (q_load1 T1_4 rfl (fun w1 hw => (g4.of_eq 2 1 rfl rfl : rg _ _ _ [.bool x5.Not]).rangeAt hw.fro)) rfl ?_
            refine WL.yes rfl rfl ?_
            refine WL.q (q_pick1 rfl rfl) rfl rfl rfl ?_
            cases hb_5
            exact WL.keep (by exact ⟨rfl, rfl, rfl, rfl, trivial⟩) K
          · replace hb_5 := ite_f hb_5 c7
            refine WL.no rfl rfl rfl rfl ?_
            refine WL.no rfl rfl rfl rfl ?_
            refine WL.no rfl rfl rfl rfl ?_
            refine WL.no rfl rfl rfl rfl ?_
            refine WL.no rfl rfl rfl rfl ?_
            refine WL.no rfl rfl rfl rfl ?_
            refine WL.yes rfl rfl ?_
            refine WL.q (q_pick0 rfl rfl) rfl rfl rfl ?_
            cases hb_5
            exact WL.keep (by exact ⟨rfl, rfl, rfl, rfl, trivial⟩) K
        refine WL.yes rfl rfl ?_
        refine lq (q_move rfl) rfl ?_
        obtain ⟨b6, hb_6, hb_4⟩ := bind_some hb_4
        refine WL.cutN 7 [(55, .bool b6), (0, pv0), (3, .int .i64 s1), (37, .bool false)] ?_ (fun K => ?_)
        rotate_left
        · refine WL.split (d := 48) rfl (fun c8 => ?_) (fun c8 => ?_)
          · replace hb_6 := ite_t hb_6 c8
            refine WL.yes rfl rfl ?_
            refine lq (q_move rfl) rfl ?_
            refine WL.yes rfl rfl ?_
            refine lq (q_move rfl) rfl ?_
            refine WL.yes rfl rfl ?_
            obtain ⟨x6, hx6, hb_6⟩ := bind_some hb_6
            obtain ⟨cs5, F5, -, g5, hb5, hs5, r5⟩ := ph0.el (idx_some hx6).2.2
            obtain ⟨v5, G5, rfl, hq5, h5⟩ := r5
            obtain rfl := hq5.symm
            refine lq (q_indexAddr Sl_62 rfl rfl ph0 hx6) rfl ?_
            refine WL.yes rfl rfl ?_
            refine lq (q_fieldAddr Fld_121_2 rfl) rfl ?_
            refine WL.yes rfl rfl ?_
            refine lq (q_load1 T1_4 rfl (fun w1 hw => (g5.of_eq 2 1 rfl rfl : rg _ _ _ [.bool x6.Not]).rangeAt hw.fro)) rfl ?_
            refine WL.yes rfl rfl ?_
            refine lq (q_not rfl) rfl ?_
            refine WL.yes rfl rfl ?_
            refine WL.q (q_pick1 rfl rfl) rfl rfl rfl ?_
            cases hb_6
            exact WL.keep (by exact ⟨rfl, rfl, rfl, rfl, trivial⟩) K
          · replace hb_6 := ite_f hb_6 c8
            refine WL.no rfl rfl rfl rfl ?_
            refine WL.no rfl rfl rfl rfl ?_
            refine WL.no rfl rfl rfl rfl ?_
            refine WL.no rfl rfl rfl rfl ?_
            refine WL.no rfl rfl rfl rfl ?_
            refine WL.no rfl rfl rfl rfl ?_
            refine WL.yes rfl rfl ?_
            refine WL.q (q_pick0 rfl rfl) rfl rfl rfl ?_
            cases hb_6
            exact WL.keep (by exact ⟨rfl, rfl, rfl, rfl, trivial⟩) K
        refine WL.q (q_pick0 rfl rfl) rfl rfl rfl ?_
        cases hb_4
        exact WL.keep (by exact ⟨rfl, rfl, rfl, trivial⟩) K
    refine WL.nil ?_
    refine WT.cond rfl (fun c9 => ?_) (fun c9 => ?_)
    · replace h := ite_t h c9
      refine WT.seq ?_
      refine WT.region ?_
      refine lq (q_assign rfl) rfl ?_
      refine WL.nil ?_
      refine WT.ret Try.func143 (resOk.one rfl) (fun w1 hw => ?_)
      subst hb0
      cases h
      exact post_of_St hw
    replace h := ite_f h c9
    refine WT.skip ?_
    refine WT.inBlock ?_
    refine WT.region ?_
    refine lq (q_move rfl) rfl ?_
    refine lq (q_add rfl rfl) rfl ?_
    refine lq (q_assign rfl) rfl ?_
    refine WL.nil ?_
    refine WT.inLoop (WT.mono (l' := [(0, pv0), (3, .int .i64 (IntKind.i64.wrap (s1 + 1)))]) (S' := St w0 Φ [] []) ⟨rfl, rfl, trivial⟩ (fun w1 hw => (hw.sel (js := []) rfl).selO (js := []) rfl) ?_)
    exact ih1 (IntKind.i64.wrap (s1 + 1)) h
  replace h := ite_f h c1
  refine WT.exit rfl ?_
  refine WT.seq ?_
  refine WT.region ?_
  refine lq (q_move rfl) rfl ?_
  refine lq (q_lenR Sl_62 rfl rfl ph0) rfl ?_
  obtain ⟨x7, hx7, h⟩ := bind_some h
  refine lp (p_call Fun_138 rfl (fun w1 hw => m_s_l1In_ok hw.fro N (p0.length : Int) 1 6 hx7)) rfl ?_
  refine lq (q_assign rfl) rfl ?_
  refine WL.nil ?_
  refine WT.ret Try.func143 (resOk.one rfl) (fun w1 hw => ?_)
  subst hb0
  cases h
  exact post_of_St hw
theorem m_s_CondOk_ok {Φ : Hp} {w : World} (hΦ : In Φ w) (N : Nat) (p0 : TCond)   {r : Bool} (h : m_s_CondOk N p0 = some r) :
    Calls Try.prog 211 [.agg [.int .i64 p0.Op, .int .i64 p0.L.K, .string p0.L.S, .int .i64 p0.L.V.K, .int .i64 p0.L.V.N, .string p0.L.V.S, .int .i64 p0.R.K, .string p0.R.S, .int .i64 p0.R.V.K, .int .i64 p0.R.V.N, .string p0.R.V.S].toArray].toArray w (Post (.bool r) w) := by
  refine enter Try.func211 rfl Try.ntmps211 rfl (St.start0 hΦ) ?_
  unfold m_s_CondOk at h
  refine WT.seq ?_
  refine WT.region ?_
  refine ln (n_box (C := #[.int .i64 p0.Op, .int .i64 p0.L.K, .string p0.L.S, .int .i64 p0.L.V.K, .int .i64 p0.L.V.N, .string p0.L.V.S, .int .i64 p0.R.K, .string p0.R.S, .int .i64 p0.R.V.K, .int .i64 p0.R.V.N, .string p0.R.V.S]) rfl rfl) rfl (fun b_1 => ?_)
  refine lq (q_assign rfl) rfl ?_
  refine WL.nil ?_
  refine WT.seq ?_
  refine WT.region ?_
  refine lq (q_fieldAddr Fld_211_0 rfl) rfl ?_
  refine lq (q_load1 T1_3 rfl (fun w1 hw => hw.rgO (i := 0) rfl 0 1 [.int .i64 p0.Op] rfl)) rfl ?_
  obtain ⟨x1, hx1, h⟩ := bind_some h
  refine lp (p_call Fun_138 rfl (fun w1 hw => m_s_l1In_ok hw.fro N p0.Op 1 3 hx1)) rfl ?_
  refine lq (q_move rfl) rfl ?_
  obtain ⟨b1, hb_1, h⟩ := bind_some h
  refine WL.cutN 4 [(10, .bool b1), (1, .pointer (some ⟨b_1, 0, none⟩)), (2, .bool false)] ?_ (fun K => ?_)
  rotate_left
  · refine WL.split (d := 6) rfl (fun c1 => ?_) (fun c1 => ?_)
    · replace hb_1 := ite_t hb_1 c1
      refine WL.yes rfl rfl ?_
      refine lq (q_fieldAddr Fld_211_1 rfl) rfl ?_
      refine WL.yes rfl rfl ?_
      refine lq (q_loadN Tn_206 rfl (fun w1 hw => hw.rgO (i := 0) rfl 1 5 [.int .i64 p0.L.K, .string p0.L.S, .int .i64 p0.L.V.K, .int .i64 p0.L.V.N, .string p0.L.V.S] rfl) rfl) rfl ?_
      refine WL.yes rfl rfl ?_
      obtain ⟨x2, hx2, hb_1⟩ := bind_some hb_1
      refine lp (p_call Fun_259 rfl (fun w1 hw => m_s_ArgOk_ok hw.fro N p0.L hx2)) rfl ?_
      refine WL.q (q_pick1 rfl rfl) rfl rfl rfl ?_
      cases hb_1
      exact WL.keep (by exact ⟨rfl, rfl, rfl, trivial⟩) K
    · replace hb_1 := ite_f hb_1 c1
      refine WL.no rfl rfl rfl rfl ?_
      refine WL.no rfl rfl rfl rfl ?_
      refine WL.no rfl rfl rfl rfl ?_
      refine WL.q (q_pick0 rfl rfl) rfl rfl rfl ?_
      cases hb_1
      exact WL.keep (by exact ⟨rfl, rfl, rfl, trivial⟩) K
  refine lq (q_move rfl) rfl ?_
  obtain ⟨b2, hb_2, h⟩ := bind_some h
  refine WL.cutN 4 [(15, .bool b2), (1, .pointer (some ⟨b_1, 0, none⟩)), (2, .bool false)] ?_ (fun K => ?_)
  rotate_left
  · refine WL.split (d := 11) rfl (fun c2 => ?_) (fun c2 => ?_)
    · replace hb_2 := ite_t hb_2 c2
      refine WL.yes rfl rfl ?_
      refine lq (q_fieldAddr Fld_211_2 rfl) rfl ?_
      refine WL.yes rfl rfl ?_
      refine lq (q_loadN Tn_206 rfl (fun w1 hw => hw.rgO (i := 0) rfl 6 5 [.int .i64 p0.R.K, .string p0.R.S, .int .i64 p0.R.V.K, .int .i64 p0.R.V.N, .string p0.R.V.S] rfl) rfl) rfl ?_
      refine WL.yes rfl rfl ?_
      obtain ⟨x3, hx3, hb_2⟩ := bind_some hb_2
      refine lp (p_call Fun_259 rfl (fun w1 hw => m_s_ArgOk_ok hw.fro N p0.R hx3)) rfl ?_
      refine WL.q (q_pick1 rfl rfl) rfl rfl rfl ?_
      cases hb_2
      exact WL.keep (by exact ⟨rfl, rfl, rfl, trivial⟩) K
    · replace hb_2 := ite_f hb_2 c2
      refine WL.no rfl rfl rfl rfl ?_
      refine WL.no rfl rfl rfl rfl ?_
      refine WL.no rfl rfl rfl rfl ?_
      refine WL.q (q_pick0 rfl rfl) rfl rfl rfl ?_
      cases hb_2
      exact WL.keep (by exact ⟨rfl, rfl, rfl, trivial⟩) K
  refine lq (q_move rfl) rfl ?_
  obtain ⟨b3, hb_3, h⟩ := bind_some h
  refine WL.cutN 5 [(21, .bool b3), (1, .pointer (some ⟨b_1, 0, none⟩)), (2, .bool false)] ?_ (fun K => ?_)
  rotate_left
  · refine WL.split (d := 16) rfl (fun c3 => ?_) (fun c3 => ?_)
    · replace hb_3 := ite_t hb_3 c3
      refine WL.yes rfl rfl ?_
      refine lq (q_fieldAddr Fld_211_1 rfl) rfl ?_
      refine WL.yes rfl rfl ?_
      refine lq (q_fieldAddr Fld_206_0 rfl) rfl ?_
      refine WL.yes rfl rfl ?_
      refine lq (q_load1 T1_3 rfl (fun w1 hw => hw.rgO (i := 0) rfl 1 1 [.int .i64 p0.L.K] rfl)) rfl ?_
      refine WL.yes rfl rfl ?_
      refine lq (q_neq rfl rfl) rfl ?_
      refine WL.q (q_pick1 rfl rfl) rfl rfl rfl ?_
      cases hb_3
      exact WL.keep (by exact ⟨rfl, rfl, rfl, trivial⟩) K
    · replace hb_3 := ite_f hb_3 c3
      refine WL.no rfl rfl rfl rfl ?_
      refine WL.no rfl rfl rfl rfl ?_
      refine WL.no rfl rfl rfl rfl ?_
      refine WL.no rfl rfl rfl rfl ?_
      refine WL.q (q_pick0 rfl rfl) rfl rfl rfl ?_
      cases hb_3
      exact WL.keep (by exact ⟨rfl, rfl, rfl, trivial⟩) K
  refine lq (q_move rfl) rfl ?_
  obtain ⟨b4, hb_4, h⟩ := bind_some h
  refine WL.cutN 5 [(27, .bool b4), (2, .bool false)] ?_ (fun K => ?_)
  rotate_left
  · refine WL.split (d := 22) rfl (fun c4 => ?_) (fun c4 => ?_)
    · replace hb_4 := ite_t hb_4 c4
      refine WL.yes rfl rfl ?_
      refine lq (q_fieldAddr Fld_211_2 rfl) rfl ?_
      refine WL.yes rfl rfl ?_
      refine lq (q_fieldAddr Fld_206_0 rfl) rfl ?_
      refine WL.yes rfl rfl ?_
      refine lq (q_load1 T1_3 rfl (fun w1 hw => hw.rgO (i := 0) rfl 6 1 [.int .i64 p0.R.K] rfl)) rfl ?_
      refine WL.yes rfl rfl ?_
      refine lq (q_neq rfl rfl) rfl ?_
      refine WL.q (q_pick1 rfl rfl) rfl rfl rfl ?_
      cases hb_4
      exact WL.keep (by exact ⟨rfl, rfl, trivial⟩) K
    · replace hb_4 := ite_f hb_4 c4
      refine WL.no rfl rfl rfl rfl ?_
      refine WL.no rfl rfl rfl rfl ?_
      refine WL.no rfl rfl rfl rfl ?_
      refine WL.no rfl rfl rfl rfl ?_
      refine WL.q (q_pick0 rfl rfl) rfl rfl rfl ?_
      cases hb_4
      exact WL.keep (by exact ⟨rfl, rfl, trivial⟩) K
  refine lq (q_assign rfl) rfl ?_
  refine WL.nil ?_
  refine WT.ret Try.func211 (resOk.one rfl) (fun w1 hw => ?_)
  cases h
  exact post_of_St hw
theorem m_s_l9Known_ok {Φ : Hp} {w : World} (hΦ : In Φ w) (N : Nat) (p0 : TArg) (p1 : (List ByteArray)) {pv1 : Value} {pG1 : List Nat} (ph1 : RSl RS 1 Φ pG1 pv1 p1) {r : Bool} (h : m_s_l9Known N p0 p1 = some r) :
    Calls Try.prog 212 [.agg [.int .i64 p0.K, .string p0.S, .int .i64 p0.V.K, .int .i64 p0.V.N, .string p0.V.S].toArray, pv1].toArray w (Post (.bool r) w) := by
  refine enter Try.func212 rfl Try.ntmps212 rfl (St.start0 hΦ) ?_
  unfold m_s_l9Known at h
  refine WT.seq ?_
  refine WT.region ?_
  refine ln (n_box (C := #[.int .i64 p0.K, .string p0.S, .int .i64 p0.V.K, .int .i64 p0.V.N, .string p0.V.S]) rfl rfl) rfl (fun b_1 => ?_)
  refine lq (q_assign rfl) rfl ?_
  refine WL.nil ?_
  refine WT.seq ?_
  refine WT.region ?_
  refine lq (q_fieldAddr Fld_206_0 rfl) rfl ?_
  refine lq (q_load1 T1_3 rfl (fun w1 hw => hw.rgO (i := 0) rfl 0 1 [.int .i64 p0.K] rfl)) rfl ?_
  refine lq (q_neq rfl rfl) rfl ?_
  refine lq (q_move rfl) rfl ?_
  obtain ⟨b1, hb_1, h⟩ := bind_some h
  refine WL.cutN 5 [(13, .bool b1), (4, .bool false)] ?_ (fun K => ?_)
  rotate_left
  · refine WL.split (d := 8) rfl (fun c1 => ?_) (fun c1 => ?_)
    · replace hb_1 := ite_t hb_1 c1
      refine WL.no rfl rfl rfl rfl ?_
      refine WL.no rfl rfl rfl rfl ?_
      refine WL.no rfl rfl rfl rfl ?_
      refine WL.no rfl rfl rfl rfl ?_
      refine WL.q (q_pick1 rfl rfl) rfl rfl rfl ?_
      cases hb_1
      exact WL.keep (by exact ⟨rfl, rfl, trivial⟩) K
    · replace hb_1 := ite_f hb_1 c1
      refine WL.yes rfl rfl ?_
      refine lq (q_move rfl) rfl ?_
      refine WL.yes rfl rfl ?_
      refine lq (q_fieldAddr Fld_206_1 rfl) rfl ?_
      refine WL.yes rfl rfl ?_
      refine lq (q_load1 T1_9 rfl (fun w1 hw => hw.rgO (i := 0) rfl 1 1 [.string p0.S] rfl)) rfl ?_
      refine WL.yes rfl rfl ?_
      obtain ⟨x1, hx1, hb_1⟩ := bind_some hb_1
      refine lp (p_call Fun_93 rfl (fun w1 hw => m_s_l6Has_ok hw.fro N p1 p0.S ph1 hx1)) rfl ?_
      refine WL.q (q_pick0 rfl rfl) rfl rfl rfl ?_
      cases hb_1
      exact WL.keep (by exact ⟨rfl, rfl, trivial⟩) K
  refine lq (q_assign rfl) rfl ?_
  refine WL.nil ?_
  refine WT.ret Try.func212 (resOk.one rfl) (fun w1 hw => ?_)
  cases h
  exact post_of_St hw
theorem m_s_l9Conds_ok {Φ : Hp} {w : World} (hΦ : In Φ w) (N : Nat) (p0 : (List TCond)) (p1 : (List ByteArray)) {pv0 : Value} {pG0 : List Nat} {pv1 : Value} {pG1 : List Nat} (ph0 : RSl RTCond 11 Φ pG0 pv0 p0) (ph1 : RSl RS 1 Φ pG1 pv1 p1) {r : Bool} (h : m_s_l9Conds N p0 p1 = some r) :
    Calls Try.prog 144 [pv0, pv1].toArray w (Post (.bool r) w) := by
  refine enter Try.func144 rfl Try.ntmps144 rfl (St.start0 hΦ) ?_
  generalize hb0 : (⟨w, [], Φ⟩ : Base) = w0
  unfold m_s_l9Conds at h
  refine WT.seq ?_
  refine WT.region ?_
  refine lq (q_assign rfl) rfl ?_
  refine WL.nil ?_
  refine WT.seq ?_
  refine WT.seq ?_
  refine WT.region ?_
  refine lq (q_assign rfl) rfl ?_
  refine WL.nil ?_
  refine WT.block ?_
  refine WT.loop ?_
  refine WT.mono (l' := [(0, pv0), (1, pv1), (5, .int .i64 0)]) (S' := St w0 Φ [] []) ⟨rfl, rfl, rfl, trivial⟩ (fun w1 hw => (hw.sel (js := []) rfl).selO (js := []) rfl) ?_
  refine loop_ind (σ := Int) (fun s => [(0, pv0), (1, pv1), (5, .int .i64 s)]) (fun s => St w0 Φ [] []) (fun m s => m_s_l9Conds_l1 N p0 p1 m s = some r) (fun s hm => none_ne (show (none : Option (Bool)) = some r from hm)) (fun n1 ih1 s hm => ?_) N (0) h
  revert hm; revert s; intro s1 hm
  have h : m_s_l9Conds_l1 N p0 p1 (n1 + 1) s1 = some r := hm
  show WT _ _ [(0, pv0), (1, pv1), (5, .int .i64 s1)] (St w0 Φ [] [])
  unfold m_s_l9Conds_l1 at h
  refine WT.seq ?_
  refine WT.seq ?_
  refine WT.region ?_
  refine lq (q_move rfl) rfl ?_
  refine lq (q_move rfl) rfl ?_
  refine lq (q_lenR Sl_63 rfl rfl ph0) rfl ?_
  refine lq (q_lss rfl rfl) rfl ?_
  refine WL.nil ?_
  refine WT.cond rfl (fun c1 => ?_) (fun c1 => ?_)
  · replace h := ite_t h c1
    refine WT.skip ?_
    refine WT.seq ?_
    refine WT.block ?_
    refine WT.seq ?_
    refine WT.region ?_
    refine lq (q_move rfl) rfl ?_
    refine lq (q_move rfl) rfl ?_
    obtain ⟨x1, hx1, h⟩ := bind_some h
    obtain ⟨cs1, F1, -, g1, hb1, hs1, r1⟩ := ph0.el (idx_some hx1).2.2
    obtain ⟨rfl, -⟩ := r1
    refine lq (q_indexAddr Sl_63 rfl rfl ph0 hx1) rfl ?_
    refine lq (q_loadN Tn_211 rfl (fun w1 hw => (g1.of_eq 0 11 rfl rfl : rg _ _ _ [.int .i64 x1.Op, .int .i64 x1.L.K, .string x1.L.S, .int .i64 x1.L.V.K, .int .i64 x1.L.V.N, .string x1.L.V.S, .int .i64 x1.R.K, .string x1.R.S, .int .i64 x1.R.V.K, .int .i64 x1.R.V.N, .string x1.R.V.S]).rangeAt hw.fro) rfl) rfl ?_
    obtain ⟨x2, hx2, h⟩ := bind_some h
    refine lp (p_call Fun_211 rfl (fun w1 hw => m_s_CondOk_ok hw.fro N x1 hx2)) rfl ?_
    refine lq (q_not rfl) rfl ?_
    refine lq (q_move rfl) rfl ?_
    obtain ⟨b1, hb_1, h⟩ := bind_some h
    refine WL.cutN 9 [(27, .bool b1), (0, pv0), (1, pv1), (5, .int .i64 s1)] ?_ (fun K => ?_)
    rotate_left
    · refine WL.split (d := 18) rfl (fun c2 => ?_) (fun c2 => ?_)
      · replace hb_1 := ite_t hb_1 c2
        refine WL.no rfl rfl rfl rfl ?_
        refine WL.no rfl rfl rfl rfl ?_
        refine WL.no rfl rfl rfl rfl ?_
        refine WL.no rfl rfl rfl rfl ?_
        refine WL.no rfl rfl rfl rfl ?_
        refine WL.no rfl rfl rfl rfl ?_
        refine WL.no rfl rfl rfl rfl ?_
        refine WL.no rfl rfl rfl rfl ?_
        refine WL.q (q_pick1 rfl rfl) rfl rfl rfl ?_
        cases hb_1
        exact WL.keep (by exact ⟨rfl, rfl, rfl, rfl, trivial⟩) K
      · replace hb_1 := ite_f hb_1 c2
        refine WL.yes rfl rfl ?_
        refine lq (q_move rfl) rfl ?_
        refine WL.yes rfl rfl ?_
        refine lq (q_move rfl) rfl ?_
        refine WL.yes rfl rfl ?_
        obtain ⟨x3, hx3, hb_1⟩ := bind_some hb_1
        obtain ⟨cs2, F2, -, g2, hb2, hs2, r2⟩ := ph0.el (idx_some hx3).2.2
        obtain ⟨rfl, -⟩ := r2
        refine lq (q_indexAddr Sl_63 rfl rfl ph0 hx3) rfl ?_
        refine WL.yes rfl rfl ?_
        refine lq (q_fieldAddr Fld_211_1 rfl) rfl ?_
        refine WL.yes rfl rfl ?_
        refine lq (q_loadN Tn_206 rfl (fun w1 hw => (g2.of_eq 1 5 rfl rfl : rg _ _ _ [.int .i64 x3.L.K, .string x3.L.S, .int .i64 x3.L.V.K, .int .i64 x3.L.V.N, .string x3.L.V.S]).rangeAt hw.fro) rfl) rfl ?_
        refine WL.yes rfl rfl ?_
        refine lq (q_move rfl) rfl ?_
        refine WL.yes rfl rfl ?_
        obtain ⟨x4, hx4, hb_1⟩ := bind_some hb_1
        refine lp (p_call Fun_212 rfl (fun w1 hw => m_s_l9Known_ok hw.fro N x3.L p1 ph1 hx4)) rfl ?_
        refine WL.yes rfl rfl ?_
        refine lq (q_not rfl) rfl ?_
        refine WL.q (q_pick0 rfl rfl) rfl rfl rfl ?_
        cases hb_1
        exact WL.keep (by exact ⟨rfl, rfl, rfl, rfl, trivial⟩) K
    refine lq (q_move rfl) rfl ?_
    obtain ⟨b2, hb_2, h⟩ := bind_some h
    refine WL.cutN 9 [(37, .bool b2), (0, pv0), (1, pv1), (5, .int .i64 s1)] ?_ (fun K => ?_)
    rotate_left
    · refine WL.split (d := 28) rfl (fun c3 => ?_) (fun c3 => ?_)
      · replace hb_2 := ite_t hb_2 c3
        refine WL.no rfl rfl rfl rfl ?_
        refine WL.no rfl rfl rfl rfl ?_
        refine WL.no rfl rfl rfl rfl ?_
        refine WL.no rfl rfl rfl rfl ?_
        refine WL.no rfl rfl rfl rfl ?_
        refine WL.no rfl rfl rfl rfl ?_
        refine WL.no rfl rfl rfl rfl ?_
        refine WL.no rfl rfl rfl rfl ?_
        refine WL.q (q_pick1 rfl rfl) rfl rfl rfl ?_
        cases hb_2
        exact WL.keep (by exact ⟨rfl, rfl, rfl, rfl, trivial⟩) K
      · replace hb_2 := ite_f hb_2 c3
        refine WL.yes rfl rfl ?_
        refine lq (q_move rfl) rfl ?_
        refine WL.yes rfl rfl ?_
        refine lq (q_move rfl) rfl ?_
        refine WL.yes rfl rfl ?_
        obtain ⟨x5, hx5, hb_2⟩ := bind_some hb_2
        obtain ⟨cs3, F3, -, g3, hb3, hs3, r3⟩ := ph0.el (idx_some hx5).2.2
        obtain ⟨rfl, -⟩ := r3
        refine lq (q_indexAddr Sl_63 rfl rfl ph0 hx5) rfl ?_
        refine WL.yes rfl rfl ?_
        refine lq (q_fieldAddr Fld_211_2 rfl) rfl ?_
        refine WL.yes rfl rfl ?_
        refine lq (q_loadN Tn_206 rfl (fun w1 hw => (g3.of_eq 6 5 rfl rfl : rg _ _ _ [.int .i64 x5.R.K, .string x5.R.S, .int .i64 x5.R.V.K, .int .i64 x5.R.V.N, .string x5.R.V.S]).rangeAt hw.fro) rfl) rfl ?_
        refine WL.yes rfl rfl ?_
        refine lq (q_move rfl) rfl ?_
        refine WL.yes rfl rfl ?_
        obtain ⟨x6, hx6, hb_2⟩ := bind_some hb_2
        refine lp (p_call Fun_212 rfl (fun w1 hw => m_s_l9Known_ok hw.fro N x5.R p1 ph1 hx6)) rfl ?_
        refine WL.yes rfl rfl ?_
        refine lq (q_not rfl) rfl ?_
        refine WL.q (q_pick0 rfl rfl) rfl rfl rfl ?_
        cases hb_2
        exact WL.keep (by exact ⟨rfl, rfl, rfl, rfl, trivial⟩) K
    refine WL.nil ?_
    refine WT.cond rfl (fun c4 => ?_) (fun c4 => ?_)
    · replace h := ite_t h c4
      refine WT.seq ?_
      refine WT.region ?_
      refine lq (q_assign rfl) rfl ?_
      refine WL.nil ?_
      refine WT.ret Try.func144 (resOk.one rfl) (fun w1 hw => ?_)
      subst hb0
      cases h
      exact post_of_St hw
    replace h := ite_f h c4
    refine WT.skip ?_
    refine WT.inBlock ?_
    refine WT.region ?_
    refine lq (q_move rfl) rfl ?_
    refine lq (q_add rfl rfl) rfl ?_
    refine lq (q_assign rfl) rfl ?_
    refine WL.nil ?_
    refine WT.inLoop (WT.mono (l' := [(0, pv0), (1, pv1), (5, .int .i64 (IntKind.i64.wrap (s1 + 1)))]) (S' := St w0 Φ [] []) ⟨rfl, rfl, rfl, trivial⟩ (fun w1 hw => (hw.sel (js := []) rfl).selO (js := []) rfl) ?_)
    exact ih1 (IntKind.i64.wrap (s1 + 1)) h
  replace h := ite_f h c1
  refine WT.exit rfl ?_
  refine WT.seq ?_
  refine WT.region ?_
  refine lq (q_move rfl) rfl ?_
  refine lq (q_lenR Sl_63 rfl rfl ph0) rfl ?_
  refine lq (q_leq rfl rfl) rfl ?_
  refine lq (q_assign rfl) rfl ?_
  refine WL.nil ?_
  refine WT.ret Try.func144 (resOk.one rfl) (fun w1 hw => ?_)
  subst hb0
  cases h
  exact post_of_St hw
theorem m_s_l8Given_ok {Φ : Hp} {w : World} (hΦ : In Φ w) (N : Nat) (p0 : TArg)   {r : Bool} (h : m_s_l8Given N p0 = some r) :
    Calls Try.prog 287 [.agg [.int .i64 p0.K, .string p0.S, .int .i64 p0.V.K, .int .i64 p0.V.N, .string p0.V.S].toArray].toArray w (Post (.bool r) w) := by
  refine enter Try.func287 rfl Try.ntmps287 rfl (St.start0 hΦ) ?_
  unfold m_s_l8Given at h
  refine WT.seq ?_
  refine WT.region ?_
  refine ln (n_box (C := #[.int .i64 p0.K, .string p0.S, .int .i64 p0.V.K, .int .i64 p0.V.N, .string p0.V.S]) rfl rfl) rfl (fun b_1 => ?_)
  refine lq (q_assign rfl) rfl ?_
  refine WL.nil ?_
  refine WT.seq ?_
  refine WT.region ?_
  refine lq (q_loadN Tn_206 rfl (fun w1 hw => hw.rgO (i := 0) rfl 0 5 [.int .i64 p0.K, .string p0.S, .int .i64 p0.V.K, .int .i64 p0.V.N, .string p0.V.S] rfl) rfl) rfl ?_
  obtain ⟨x1, hx1, h⟩ := bind_some h
  refine lp (p_call Fun_259 rfl (fun w1 hw => m_s_ArgOk_ok hw.fro N p0 hx1)) rfl ?_
  refine lq (q_move rfl) rfl ?_
  obtain ⟨b1, hb_1, h⟩ := bind_some h
  refine WL.cutN 4 [(9, .bool b1), (2, .bool false)] ?_ (fun K => ?_)
  rotate_left
  · refine WL.split (d := 5) rfl (fun c1 => ?_) (fun c1 => ?_)
    · replace hb_1 := ite_t hb_1 c1
      refine WL.yes rfl rfl ?_
      refine lq (q_fieldAddr Fld_206_0 rfl) rfl ?_
      refine WL.yes rfl rfl ?_
      refine lq (q_load1 T1_3 rfl (fun w1 hw => hw.rgO (i := 0) rfl 0 1 [.int .i64 p0.K] rfl)) rfl ?_
      refine WL.yes rfl rfl ?_
      refine lq (q_neq rfl rfl) rfl ?_
      refine WL.q (q_pick1 rfl rfl) rfl rfl rfl ?_
      cases hb_1
      exact WL.keep (by exact ⟨rfl, rfl, trivial⟩) K
    · replace hb_1 := ite_f hb_1 c1
      refine WL.no rfl rfl rfl rfl ?_
      refine WL.no rfl rfl rfl rfl ?_
      refine WL.no rfl rfl rfl rfl ?_
      refine WL.q (q_pick0 rfl rfl) rfl rfl rfl ?_
      cases hb_1
      exact WL.keep (by exact ⟨rfl, rfl, trivial⟩) K
  refine lq (q_assign rfl) rfl ?_
  refine WL.nil ?_
  refine WT.ret Try.func287 (resOk.one rfl) (fun w1 hw => ?_)
  cases h
  exact post_of_St hw
theorem m_s_ExprOk_ok {Φ : Hp} {w : World} (hΦ : In Φ w) (N : Nat) (p0 : TExpr)   {r : Bool} (h : m_s_ExprOk N p0 = some r) :
    Calls Try.prog 278 [.agg [.string p0.Op, .int .i64 p0.L.K, .string p0.L.S, .int .i64 p0.L.V.K, .int .i64 p0.L.V.N, .string p0.L.V.S, .int .i64 p0.R.K, .string p0.R.S, .int .i64 p0.R.V.K, .int .i64 p0.R.V.N, .string p0.R.V.S].toArray].toArray w (Post (.bool r) w) := by
  refine enter Try.func278 rfl Try.ntmps278 rfl (St.start0 hΦ) ?_
  generalize hb0 : (⟨w, [], Φ⟩ : Base) = w0
  unfold m_s_ExprOk at h
  refine WT.seq ?_
  refine WT.region ?_
  refine ln (n_box (C := #[.string p0.Op, .int .i64 p0.L.K, .string p0.L.S, .int .i64 p0.L.V.K, .int .i64 p0.L.V.N, .string p0.L.V.S, .int .i64 p0.R.K, .string p0.R.S, .int .i64 p0.R.V.K, .int .i64 p0.R.V.N, .string p0.R.V.S]) rfl rfl) rfl (fun b_1 => ?_)
  refine lq (q_assign rfl) rfl ?_
  refine WL.nil ?_
  refine WT.seq ?_
  refine WT.seq ?_
  refine WT.region ?_
  refine lq (q_fieldAddr Fld_285_0 rfl) rfl ?_
  refine lq (q_load1 T1_9 rfl (fun w1 hw => hw.rgO (i := 0) rfl 0 1 [.string p0.Op] rfl)) rfl ?_
  refine WL.nil ?_
  refine WT.block ?_
  refine WT.seq ?_
  refine WT.region ?_
  refine lq (q_seq rfl rfl) rfl ?_
  refine lq (q_assign rfl) rfl ?_
  refine WL.nil ?_
  refine WT.cond rfl (fun c1 => ?_) (fun c1 => ?_)
  · replace h := ite_t h c1
    refine WT.seq ?_
    refine WT.region ?_
    refine lq (q_fieldAddr Fld_285_1 rfl) rfl ?_
    refine lq (q_loadN Tn_206 rfl (fun w1 hw => hw.rgO (i := 0) rfl 1 5 [.int .i64 p0.L.K, .string p0.L.S, .int .i64 p0.L.V.K, .int .i64 p0.L.V.N, .string p0.L.V.S] rfl) rfl) rfl ?_
    obtain ⟨x1, hx1, h⟩ := bind_some h
    refine lp (p_call Fun_287 rfl (fun w1 hw => m_s_l8Given_ok hw.fro N p0.L hx1)) rfl ?_
    refine lq (q_move rfl) rfl ?_
    obtain ⟨b1, hb_1, h⟩ := bind_some h
    refine WL.cutN 5 [(15, .bool b1), (2, .bool false)] ?_ (fun K => ?_)
    rotate_left
    · refine WL.split (d := 10) rfl (fun c2 => ?_) (fun c2 => ?_)
      · replace hb_1 := ite_t hb_1 c2
        refine WL.yes rfl rfl ?_
        refine lq (q_fieldAddr Fld_285_2 rfl) rfl ?_
        refine WL.yes rfl rfl ?_
        refine lq (q_loadN Tn_206 rfl (fun w1 hw => hw.rgO (i := 0) rfl 6 5 [.int .i64 p0.R.K, .string p0.R.S, .int .i64 p0.R.V.K, .int .i64 p0.R.V.N, .string p0.R.V.S] rfl) rfl) rfl ?_
        refine WL.yes rfl rfl ?_
        refine lq (q_build (vs := []) (C := #[.int .i64 0, .string (⟨#[]⟩ : ByteArray), .int .i64 0, .int .i64 0, .string (⟨#[]⟩ : ByteArray)]) Pl_206 Zr_206 rfl (fill_nil)) rfl ?_
        refine WL.yes rfl rfl ?_
        refine lq (q_eqA EqT_206 rfl rfl rfl (r := eqT_TArg p0.R (⟨0, (⟨#[]⟩ : ByteArray), (⟨0, 0, (⟨#[]⟩ : ByteArray)⟩ : TVal)⟩ : TArg)) rfl) rfl ?_
        refine WL.q (q_pick1 rfl rfl) rfl rfl rfl ?_
        cases hb_1
        exact WL.keep (by exact ⟨rfl, rfl, trivial⟩) K
      · replace hb_1 := ite_f hb_1 c2
        refine WL.no rfl rfl rfl rfl ?_
        refine WL.no rfl rfl rfl rfl ?_
        refine WL.no rfl rfl rfl rfl ?_
        refine WL.no rfl rfl rfl rfl ?_
        refine WL.q (q_pick0 rfl rfl) rfl rfl rfl ?_
        cases hb_1
        exact WL.keep (by exact ⟨rfl, rfl, trivial⟩) K
    refine lq (q_assign rfl) rfl ?_
    refine WL.nil ?_
    refine WT.ret Try.func278 (resOk.one rfl) (fun w1 hw => ?_)
    subst hb0
    cases h
    exact post_of_St hw
  replace h := ite_f h c1
  refine WT.seq ?_
  refine WT.seq ?_
  refine WT.region ?_
  refine lq (q_seq rfl rfl) rfl ?_
  refine lq (q_assign rfl) rfl ?_
  refine WL.nil ?_
  refine cut (σ := Bool) (fun s => [(1, .pointer (some ⟨b_1, 0, none⟩)), (16, .bool s)]) (fun s => St w0 Φ [(b_1, .cells #[.string p0.Op, .int .i64 p0.L.K, .string p0.L.S, .int .i64 p0.L.V.K, .int .i64 p0.L.V.N, .string p0.L.V.S, .int .i64 p0.R.K, .string p0.R.S, .int .i64 p0.R.V.K, .int .i64 p0.R.V.N, .string p0.R.V.S] 285 (0, 0))] []) (fun s => m_s_ExprOk_j1 N p0 s = some r) (fun s hm => ?_) (fun K => ?_)
  · clear h
    revert hm; revert s; intro s1 hm
    have h : m_s_ExprOk_j1 N p0 s1 = some r := hm
    show WT _ _ [(1, .pointer (some ⟨b_1, 0, none⟩)), (16, .bool s1)] (St w0 Φ [(b_1, .cells #[.string p0.Op, .int .i64 p0.L.K, .string p0.L.S, .int .i64 p0.L.V.K, .int .i64 p0.L.V.N, .string p0.L.V.S, .int .i64 p0.R.K, .string p0.R.S, .int .i64 p0.R.V.K, .int .i64 p0.R.V.N, .string p0.R.V.S] 285 (0, 0))] [])
    unfold m_s_ExprOk_j1 at h
    refine WT.cond rfl (fun c3 => ?_) (fun c3 => ?_)
    · replace h := ite_t h c3
      refine WT.seq ?_
      refine WT.region ?_
      refine lq (q_fieldAddr Fld_285_1 rfl) rfl ?_
      refine lq (q_loadN Tn_206 rfl (fun w1 hw => hw.rgO (i := 0) rfl 1 5 [.int .i64 p0.L.K, .string p0.L.S, .int .i64 p0.L.V.K, .int .i64 p0.L.V.N, .string p0.L.V.S] rfl) rfl) rfl ?_
      obtain ⟨x2, hx2, h⟩ := bind_some h
      refine lp (p_call Fun_287 rfl (fun w1 hw => m_s_l8Given_ok hw.fro N p0.L hx2)) rfl ?_
      refine lq (q_move rfl) rfl ?_
      obtain ⟨b2, hb_2, h⟩ := bind_some h
      refine WL.cutN 4 [(26, .bool b2)] ?_ (fun K => ?_)
      rotate_left
      · refine WL.split (d := 22) rfl (fun c4 => ?_) (fun c4 => ?_)
        · replace hb_2 := ite_t hb_2 c4
          refine WL.yes rfl rfl ?_
          refine lq (q_fieldAddr Fld_285_2 rfl) rfl ?_
          refine WL.yes rfl rfl ?_
          refine lq (q_loadN Tn_206 rfl (fun w1 hw => hw.rgO (i := 0) rfl 6 5 [.int .i64 p0.R.K, .string p0.R.S, .int .i64 p0.R.V.K, .int .i64 p0.R.V.N, .string p0.R.V.S] rfl) rfl) rfl ?_
          refine WL.yes rfl rfl ?_
          obtain ⟨x3, hx3, hb_2⟩ := bind_some hb_2
          refine lp (p_call Fun_287 rfl (fun w1 hw => m_s_l8Given_ok hw.fro N p0.R hx3)) rfl ?_
          refine WL.q (q_pick1 rfl rfl) rfl rfl rfl ?_
          cases hb_2
          exact WL.keep (by exact ⟨rfl, trivial⟩) K
        · replace hb_2 := ite_f hb_2 c4
          refine WL.no rfl rfl rfl rfl ?_
          refine WL.no rfl rfl rfl rfl ?_
          refine WL.no rfl rfl rfl rfl ?_
          refine WL.q (q_pick0 rfl rfl) rfl rfl rfl ?_
          cases hb_2
          exact WL.keep (by exact ⟨rfl, trivial⟩) K
      refine lq (q_assign rfl) rfl ?_
      refine WL.nil ?_
      refine WT.ret Try.func278 (resOk.one rfl) (fun w1 hw => ?_)
      subst hb0
      cases h
      exact post_of_St hw
    replace h := ite_f h c3
    refine WT.skip ?_
    refine WT.inBlock ?_
    refine WT.seq ?_
    refine WT.region ?_
    refine lq (q_assign rfl) rfl ?_
    refine WL.nil ?_
    refine WT.ret Try.func278 (resOk.one rfl) (fun w1 hw => ?_)
    subst hb0
    cases h
    exact post_of_St hw
  refine WT.cond rfl (fun c5 => ?_) (fun c5 => ?_)
  · replace h := ite_t h c5
    refine WT.skip ?_
    refine WT.mono (l' := [(1, .pointer (some ⟨b_1, 0, none⟩)), (16, .bool (seq p0.Op (⟨#[43]⟩ : ByteArray)))]) (S' := St w0 Φ [(b_1, .cells #[.string p0.Op, .int .i64 p0.L.K, .string p0.L.S, .int .i64 p0.L.V.K, .int .i64 p0.L.V.N, .string p0.L.V.S, .int .i64 p0.R.K, .string p0.R.S, .int .i64 p0.R.V.K, .int .i64 p0.R.V.N, .string p0.R.V.S] 285 (0, 0))] []) ⟨rfl, rfl, trivial⟩ (fun w1 hw => (hw.sel (js := []) rfl).selO (js := [0]) rfl) ?_
    exact K (seq p0.Op (⟨#[43]⟩ : ByteArray)) h
  replace h := ite_f h c5
  refine WT.region ?_
  refine lq (q_seq rfl rfl) rfl ?_
  refine lq (q_assign rfl) rfl ?_
  refine WL.nil ?_
  refine WT.mono (l' := [(1, .pointer (some ⟨b_1, 0, none⟩)), (16, .bool (seq p0.Op (⟨#[45]⟩ : ByteArray)))]) (S' := St w0 Φ [(b_1, .cells #[.string p0.Op, .int .i64 p0.L.K, .string p0.L.S, .int .i64 p0.L.V.K, .int .i64 p0.L.V.N, .string p0.L.V.S, .int .i64 p0.R.K, .string p0.R.S, .int .i64 p0.R.V.K, .int .i64 p0.R.V.N, .string p0.R.V.S] 285 (0, 0))] []) ⟨rfl, rfl, trivial⟩ (fun w1 hw => (hw.sel (js := []) rfl).selO (js := [0]) rfl) ?_
  exact K (seq p0.Op (⟨#[45]⟩ : ByteArray)) h
theorem m_s_l8Args_ok {Φ : Hp} {w : World} (hΦ : In Φ w) (N : Nat) (p0 : (List TExpr)) {pv0 : Value} {pG0 : List Nat} (ph0 : RSl RTExpr 11 Φ pG0 pv0 p0) {r : Bool} (h : m_s_l8Args N p0 = some r) :
    Calls Try.prog 260 [pv0].toArray w (Post (.bool r) w) := by
  refine enter Try.func260 rfl Try.ntmps260 rfl (St.start0 hΦ) ?_
  generalize hb0 : (⟨w, [], Φ⟩ : Base) = w0
  unfold m_s_l8Args at h
  refine WT.seq ?_
  refine WT.region ?_
  refine lq (q_assign rfl) rfl ?_
  refine WL.nil ?_
  refine WT.seq ?_
  refine WT.seq ?_
  refine WT.region ?_
  refine lq (q_assign rfl) rfl ?_
  refine WL.nil ?_
  refine WT.block ?_
  refine WT.loop ?_
  refine WT.mono (l' := [(0, pv0), (3, .int .i64 0)]) (S' := St w0 Φ [] []) ⟨rfl, rfl, trivial⟩ (fun w1 hw => (hw.sel (js := []) rfl).selO (js := []) rfl) ?_
  refine loop_ind (σ := Int) (fun s => [(0, pv0), (3, .int .i64 s)]) (fun s => St w0 Φ [] []) (fun m s => m_s_l8Args_l1 N p0 m s = some r) (fun s hm => none_ne (show (none : Option (Bool)) = some r from hm)) (fun n1 ih1 s hm => ?_) N (0) h
  revert hm; revert s; intro s1 hm
  have h : m_s_l8Args_l1 N p0 (n1 + 1) s1 = some r := hm
  show WT _ _ [(0, pv0), (3, .int .i64 s1)] (St w0 Φ [] [])
  unfold m_s_l8Args_l1 at h
  refine WT.seq ?_
  refine WT.seq ?_
  refine WT.region ?_
  refine lq (q_move rfl) rfl ?_
  refine lq (q_move rfl) rfl ?_
  refine lq (q_lenR Sl_213 rfl rfl ph0) rfl ?_
  refine lq (q_lss rfl rfl) rfl ?_
  refine WL.nil ?_
  refine WT.cond rfl (fun c1 => ?_) (fun c1 => ?_)
  · replace h := ite_t h c1
    refine WT.skip ?_
    refine WT.seq ?_
    refine WT.block ?_
    refine WT.seq ?_
    refine WT.region ?_
    refine lq (q_move rfl) rfl ?_
    refine lq (q_move rfl) rfl ?_
    obtain ⟨x1, hx1, h⟩ := bind_some h
    obtain ⟨cs1, F1, -, g1, hb1, hs1, r1⟩ := ph0.el (idx_some hx1).2.2
    obtain ⟨rfl, -⟩ := r1
    refine lq (q_indexAddr Sl_213 rfl rfl ph0 hx1) rfl ?_
    refine lq (q_loadN Tn_285 rfl (fun w1 hw => (g1.of_eq 0 11 rfl rfl : rg _ _ _ [.string x1.Op, .int .i64 x1.L.K, .string x1.L.S, .int .i64 x1.L.V.K, .int .i64 x1.L.V.N, .string x1.L.V.S, .int .i64 x1.R.K, .string x1.R.S, .int .i64 x1.R.V.K, .int .i64 x1.R.V.N, .string x1.R.V.S]).rangeAt hw.fro) rfl) rfl ?_
    obtain ⟨x2, hx2, h⟩ := bind_some h
    refine lp (p_call Fun_278 rfl (fun w1 hw => m_s_ExprOk_ok hw.fro N x1 hx2)) rfl ?_
    refine lq (q_not rfl) rfl ?_
    refine WL.nil ?_
    refine WT.cond rfl (fun c2 => ?_) (fun c2 => ?_)
    · replace h := ite_t h c2
      refine WT.seq ?_
      refine WT.region ?_
      refine lq (q_assign rfl) rfl ?_
      refine WL.nil ?_
      refine WT.ret Try.func260 (resOk.one rfl) (fun w1 hw => ?_)
      subst hb0
      cases h
      exact post_of_St hw
    replace h := ite_f h c2
    refine WT.skip ?_
    refine WT.inBlock ?_
    refine WT.region ?_
    refine lq (q_move rfl) rfl ?_
    refine lq (q_add rfl rfl) rfl ?_
    refine lq (q_assign rfl) rfl ?_
    refine WL.nil ?_
    refine WT.inLoop (WT.mono (l' := [(0, pv0), (3, .int .i64 (IntKind.i64.wrap (s1 + 1)))]) (S' := St w0 Φ [] []) ⟨rfl, rfl, trivial⟩ (fun w1 hw => (hw.sel (js := []) rfl).selO (js := []) rfl) ?_)
    exact ih1 (IntKind.i64.wrap (s1 + 1)) h
  replace h := ite_f h c1
  refine WT.exit rfl ?_
  refine WT.seq ?_
  refine WT.region ?_
  refine lq (q_move rfl) rfl ?_
  refine lq (q_lenR Sl_213 rfl rfl ph0) rfl ?_
  refine lq (q_leq rfl rfl) rfl ?_
  refine lq (q_assign rfl) rfl ?_
  refine WL.nil ?_
  refine WT.ret Try.func260 (resOk.one rfl) (fun w1 hw => ?_)
  subst hb0
  cases h
  exact post_of_St hw
theorem m_s_ActOk_ok {Φ : Hp} {w : World} (hΦ : In Φ w) (N : Nat) (p0 : TAct) {pv0_0 : Value} {pG0_0 : List Nat} (ph0_0 : RSl RTExpr 11 Φ pG0_0 pv0_0 p0.Args) {r : Bool} (h : m_s_ActOk N p0 = some r) :
    Calls Try.prog 213 [.agg [.int .i64 p0.Kind, .string p0.Name, pv0_0, .int .i64 p0.N, .string p0.Undo].toArray].toArray w (Post (.bool r) w) := by
  refine enter Try.func213 rfl Try.ntmps213 rfl (St.start0 hΦ) ?_
  generalize hb0 : (⟨w, [], Φ⟩ : Base) = w0
  unfold m_s_ActOk at h
  refine WT.seq ?_
  refine WT.region ?_
  refine ln (n_box (C := #[.int .i64 p0.Kind, .string p0.Name, pv0_0, .int .i64 p0.N, .string p0.Undo]) rfl rfl) rfl (fun b_1 => ?_)
  refine lq (q_assign rfl) rfl ?_
  refine WL.nil ?_
  refine WT.seq ?_
  refine WT.region ?_
  refine lq (q_fieldAddr Fld_215_1 rfl) rfl ?_
  refine lq (q_load1 T1_9 rfl (fun w1 hw => hw.rgO (i := 0) rfl 1 1 [.string p0.Name] rfl)) rfl ?_
  refine lq (q_seq rfl rfl) rfl ?_
  refine lq (q_move rfl) rfl ?_
  obtain ⟨b1, hb_1, h⟩ := bind_some h
  refine WL.cutN 5 [(12, .bool b1), (1, .pointer (some ⟨b_1, 0, none⟩))] ?_ (fun K => ?_)
  rotate_left
  · refine WL.split (d := 7) rfl (fun c1 => ?_) (fun c1 => ?_)
    · replace hb_1 := ite_t hb_1 c1
      refine WL.yes rfl rfl ?_
      refine lq (q_fieldAddr Fld_215_2 rfl) rfl ?_
      refine WL.yes rfl rfl ?_
      refine lq (q_load1 T1_213 rfl (fun w1 hw => hw.rgO (i := 0) rfl 2 1 [pv0_0] rfl)) rfl ?_
      refine WL.yes rfl rfl ?_
      refine lq (q_lenR Sl_213 rfl rfl ph0_0) rfl ?_
      refine WL.yes rfl rfl ?_
      refine lq (q_eql rfl rfl) rfl ?_
      refine WL.q (q_pick1 rfl rfl) rfl rfl rfl ?_
      cases hb_1
      exact WL.keep (by exact ⟨rfl, rfl, trivial⟩) K
    · replace hb_1 := ite_f hb_1 c1
      refine WL.no rfl rfl rfl rfl ?_
      refine WL.no rfl rfl rfl rfl ?_
      refine WL.no rfl rfl rfl rfl ?_
      refine WL.no rfl rfl rfl rfl ?_
      refine WL.q (q_pick0 rfl rfl) rfl rfl rfl ?_
      cases hb_1
      exact WL.keep (by exact ⟨rfl, rfl, trivial⟩) K
  refine lq (q_move rfl) rfl ?_
  obtain ⟨b2, hb_2, h⟩ := bind_some h
  refine WL.cutN 4 [(17, .bool b2), (1, .pointer (some ⟨b_1, 0, none⟩))] ?_ (fun K => ?_)
  rotate_left
  · refine WL.split (d := 13) rfl (fun c2 => ?_) (fun c2 => ?_)
    · replace hb_2 := ite_t hb_2 c2
      refine WL.yes rfl rfl ?_
      refine lq (q_fieldAddr Fld_215_4 rfl) rfl ?_
      refine WL.yes rfl rfl ?_
      refine lq (q_load1 T1_9 rfl (fun w1 hw => hw.rgO (i := 0) rfl 4 1 [.string p0.Undo] rfl)) rfl ?_
      refine WL.yes rfl rfl ?_
      refine lq (q_seq rfl rfl) rfl ?_
      refine WL.q (q_pick1 rfl rfl) rfl rfl rfl ?_
      cases hb_2
      exact WL.keep (by exact ⟨rfl, rfl, trivial⟩) K
    · replace hb_2 := ite_f hb_2 c2
      refine WL.no rfl rfl rfl rfl ?_
      refine WL.no rfl rfl rfl rfl ?_
      refine WL.no rfl rfl rfl rfl ?_
      refine WL.q (q_pick0 rfl rfl) rfl rfl rfl ?_
      cases hb_2
      exact WL.keep (by exact ⟨rfl, rfl, trivial⟩) K
  refine lq (q_assign rfl) rfl ?_
  refine WL.nil ?_
  refine WT.seq ?_
  refine WT.seq ?_
  refine WT.region ?_
  refine lq (q_fieldAddr Fld_215_0 rfl) rfl ?_
  refine lq (q_load1 T1_3 rfl (fun w1 hw => hw.rgO (i := 0) rfl 0 1 [.int .i64 p0.Kind] rfl)) rfl ?_
  refine WL.nil ?_
  refine WT.block ?_
  refine WT.seq ?_
  refine WT.region ?_
  refine lq (q_eql rfl rfl) rfl ?_
  refine lq (q_assign rfl) rfl ?_
  refine WL.nil ?_
  refine WT.cond rfl (fun c3 => ?_) (fun c3 => ?_)
  · replace h := ite_t h c3
    refine WT.seq ?_
    refine WT.region ?_
    refine lq (q_fieldAddr Fld_215_1 rfl) rfl ?_
    refine lq (q_load1 T1_9 rfl (fun w1 hw => hw.rgO (i := 0) rfl 1 1 [.string p0.Name] rfl)) rfl ?_
    obtain ⟨x1, hx1, h⟩ := bind_some h
    refine lp (p_call Fun_137 rfl (fun w1 hw => m_s_NameOk_ok hw.fro N p0.Name hx1)) rfl ?_
    refine lq (q_move rfl) rfl ?_
    obtain ⟨b3, hb_3, h⟩ := bind_some h
    refine WL.cutN 4 [(29, .bool b3), (1, .pointer (some ⟨b_1, 0, none⟩))] ?_ (fun K => ?_)
    rotate_left
    · refine WL.split (d := 25) rfl (fun c4 => ?_) (fun c4 => ?_)
      · replace hb_3 := ite_t hb_3 c4
        refine WL.yes rfl rfl ?_
        refine lq (q_fieldAddr Fld_215_2 rfl) rfl ?_
        refine WL.yes rfl rfl ?_
        refine lq (q_load1 T1_213 rfl (fun w1 hw => hw.rgO (i := 0) rfl 2 1 [pv0_0] rfl)) rfl ?_
        refine WL.yes rfl rfl ?_
        obtain ⟨x2, hx2, hb_3⟩ := bind_some hb_3
        refine lp (p_call Fun_260 rfl (fun w1 hw => m_s_l8Args_ok hw.fro N p0.Args ph0_0 hx2)) rfl ?_
        refine WL.q (q_pick1 rfl rfl) rfl rfl rfl ?_
        cases hb_3
        exact WL.keep (by exact ⟨rfl, rfl, trivial⟩) K
      · replace hb_3 := ite_f hb_3 c4
        refine WL.no rfl rfl rfl rfl ?_
        refine WL.no rfl rfl rfl rfl ?_
        refine WL.no rfl rfl rfl rfl ?_
        refine WL.q (q_pick0 rfl rfl) rfl rfl rfl ?_
        cases hb_3
        exact WL.keep (by exact ⟨rfl, rfl, trivial⟩) K
    refine lq (q_move rfl) rfl ?_
    obtain ⟨b4, hb_4, h⟩ := bind_some h
    refine WL.cutN 4 [(34, .bool b4), (1, .pointer (some ⟨b_1, 0, none⟩))] ?_ (fun K => ?_)
    rotate_left
    · refine WL.split (d := 30) rfl (fun c5 => ?_) (fun c5 => ?_)
      · replace hb_4 := ite_t hb_4 c5
        refine WL.yes rfl rfl ?_
        refine lq (q_fieldAddr Fld_215_3 rfl) rfl ?_
        refine WL.yes rfl rfl ?_
        refine lq (q_load1 T1_3 rfl (fun w1 hw => hw.rgO (i := 0) rfl 3 1 [.int .i64 p0.N] rfl)) rfl ?_
        refine WL.yes rfl rfl ?_
        refine lq (q_eql rfl rfl) rfl ?_
        refine WL.q (q_pick1 rfl rfl) rfl rfl rfl ?_
        cases hb_4
        exact WL.keep (by exact ⟨rfl, rfl, trivial⟩) K
      · replace hb_4 := ite_f hb_4 c5
        refine WL.no rfl rfl rfl rfl ?_
        refine WL.no rfl rfl rfl rfl ?_
        refine WL.no rfl rfl rfl rfl ?_
        refine WL.q (q_pick0 rfl rfl) rfl rfl rfl ?_
        cases hb_4
        exact WL.keep (by exact ⟨rfl, rfl, trivial⟩) K
    refine lq (q_move rfl) rfl ?_
    obtain ⟨b5, hb_5, h⟩ := bind_some h
    refine WL.cutN 4 [(39, .bool b5)] ?_ (fun K => ?_)
    rotate_left
    · refine WL.split (d := 35) rfl (fun c6 => ?_) (fun c6 => ?_)
      · replace hb_5 := ite_t hb_5 c6
        refine WL.yes rfl rfl ?_
        refine lq (q_fieldAddr Fld_215_4 rfl) rfl ?_
        refine WL.yes rfl rfl ?_
        refine lq (q_load1 T1_9 rfl (fun w1 hw => hw.rgO (i := 0) rfl 4 1 [.string p0.Undo] rfl)) rfl ?_
        refine WL.yes rfl rfl ?_
        refine lq (q_seq rfl rfl) rfl ?_
        refine WL.q (q_pick1 rfl rfl) rfl rfl rfl ?_
        cases hb_5
        exact WL.keep (by exact ⟨rfl, trivial⟩) K
      · replace hb_5 := ite_f hb_5 c6
        refine WL.no rfl rfl rfl rfl ?_
        refine WL.no rfl rfl rfl rfl ?_
        refine WL.no rfl rfl rfl rfl ?_
        refine WL.q (q_pick0 rfl rfl) rfl rfl rfl ?_
        cases hb_5
        exact WL.keep (by exact ⟨rfl, trivial⟩) K
    refine lq (q_assign rfl) rfl ?_
    refine WL.nil ?_
    refine WT.ret Try.func213 (resOk.one rfl) (fun w1 hw => ?_)
    subst hb0
    cases h
    exact post_of_St hw
  replace h := ite_f h c3
  refine WT.seq ?_
  refine WT.region ?_
  refine lq (q_eql rfl rfl) rfl ?_
  refine lq (q_assign rfl) rfl ?_
  refine WL.nil ?_
  refine WT.cond rfl (fun c7 => ?_) (fun c7 => ?_)
  · replace h := ite_t h c7
    refine WT.seq ?_
    refine WT.region ?_
    refine lq (q_fieldAddr Fld_215_1 rfl) rfl ?_
    refine lq (q_load1 T1_9 rfl (fun w1 hw => hw.rgO (i := 0) rfl 1 1 [.string p0.Name] rfl)) rfl ?_
    obtain ⟨x3, hx3, h⟩ := bind_some h
    refine lp (p_call Fun_137 rfl (fun w1 hw => m_s_NameOk_ok hw.fro N p0.Name hx3)) rfl ?_
    refine lq (q_move rfl) rfl ?_
    obtain ⟨b6, hb_6, h⟩ := bind_some h
    refine WL.cutN 4 [(49, .bool b6), (1, .pointer (some ⟨b_1, 0, none⟩))] ?_ (fun K => ?_)
    rotate_left
    · refine WL.split (d := 45) rfl (fun c8 => ?_) (fun c8 => ?_)
      · replace hb_6 := ite_t hb_6 c8
        refine WL.yes rfl rfl ?_
        refine lq (q_fieldAddr Fld_215_2 rfl) rfl ?_
        refine WL.yes rfl rfl ?_
        refine lq (q_load1 T1_213 rfl (fun w1 hw => hw.rgO (i := 0) rfl 2 1 [pv0_0] rfl)) rfl ?_
        refine WL.yes rfl rfl ?_
        obtain ⟨x4, hx4, hb_6⟩ := bind_some hb_6
        refine lp (p_call Fun_260 rfl (fun w1 hw => m_s_l8Args_ok hw.fro N p0.Args ph0_0 hx4)) rfl ?_
        refine WL.q (q_pick1 rfl rfl) rfl rfl rfl ?_
        cases hb_6
        exact WL.keep (by exact ⟨rfl, rfl, trivial⟩) K
      · replace hb_6 := ite_f hb_6 c8
        refine WL.no rfl rfl rfl rfl ?_
        refine WL.no rfl rfl rfl rfl ?_
        refine WL.no rfl rfl rfl rfl ?_
        refine WL.q (q_pick0 rfl rfl) rfl rfl rfl ?_
        cases hb_6
        exact WL.keep (by exact ⟨rfl, rfl, trivial⟩) K
    refine lq (q_move rfl) rfl ?_
    obtain ⟨b7, hb_7, h⟩ := bind_some h
    refine WL.cutN 4 [(54, .bool b7), (1, .pointer (some ⟨b_1, 0, none⟩))] ?_ (fun K => ?_)
    rotate_left
    · refine WL.split (d := 50) rfl (fun c9 => ?_) (fun c9 => ?_)
      · replace hb_7 := ite_t hb_7 c9
        refine WL.yes rfl rfl ?_
        refine lq (q_fieldAddr Fld_215_3 rfl) rfl ?_
        refine WL.yes rfl rfl ?_
        refine lq (q_load1 T1_3 rfl (fun w1 hw => hw.rgO (i := 0) rfl 3 1 [.int .i64 p0.N] rfl)) rfl ?_
        refine WL.yes rfl rfl ?_
        refine lq (q_eql rfl rfl) rfl ?_
        refine WL.q (q_pick1 rfl rfl) rfl rfl rfl ?_
        cases hb_7
        exact WL.keep (by exact ⟨rfl, rfl, trivial⟩) K
      · replace hb_7 := ite_f hb_7 c9
        refine WL.no rfl rfl rfl rfl ?_
        refine WL.no rfl rfl rfl rfl ?_
        refine WL.no rfl rfl rfl rfl ?_
        refine WL.q (q_pick0 rfl rfl) rfl rfl rfl ?_
        cases hb_7
        exact WL.keep (by exact ⟨rfl, rfl, trivial⟩) K
    refine lq (q_move rfl) rfl ?_
    obtain ⟨b8, hb_8, h⟩ := bind_some h
    refine WL.cutN 9 [(64, .bool b8)] ?_ (fun K => ?_)
    rotate_left
    · refine WL.split (d := 55) rfl (fun c10 => ?_) (fun c10 => ?_)
      · replace hb_8 := ite_t hb_8 c10
        refine WL.yes rfl rfl ?_
        refine lq (q_fieldAddr Fld_215_4 rfl) rfl ?_
        refine WL.yes rfl rfl ?_
        refine lq (q_load1 T1_9 rfl (fun w1 hw => hw.rgO (i := 0) rfl 4 1 [.string p0.Undo] rfl)) rfl ?_
        refine WL.yes rfl rfl ?_
        refine lq (q_seq rfl rfl) rfl ?_
        refine WL.yes rfl rfl ?_
        refine lq (q_move rfl) rfl ?_
        obtain ⟨b9, hb_9, hb_8⟩ := bind_some hb_8
        refine WL.cutN 4 [(63, .bool b9), (55, .bool true)] ?_ (fun K => ?_)
        rotate_left
        · refine WL.split (d := 59) rfl (fun c11 => ?_) (fun c11 => ?_)
          · replace hb_9 := ite_t hb_9 c11
            refine WL.no rfl rfl rfl rfl ?_
            refine WL.no rfl rfl rfl rfl ?_
            refine WL.no rfl rfl rfl rfl ?_
            refine WL.yes rfl rfl ?_
            refine WL.q (q_pick1 rfl rfl) rfl rfl rfl ?_
            cases hb_9
            exact WL.keep (by exact ⟨rfl, rfl, trivial⟩) K
          · replace hb_9 := ite_f hb_9 c11
            refine WL.yes rfl rfl ?_
            refine lq (q_fieldAddr Fld_215_4 rfl) rfl ?_
            refine WL.yes rfl rfl ?_
            refine lq (q_load1 T1_9 rfl (fun w1 hw => hw.rgO (i := 0) rfl 4 1 [.string p0.Undo] rfl)) rfl ?_
            refine WL.yes rfl rfl ?_
            obtain ⟨x5, hx5, hb_9⟩ := bind_some hb_9
            refine lp (p_call Fun_137 rfl (fun w1 hw => m_s_NameOk_ok hw.fro N p0.Undo hx5)) rfl ?_
            refine WL.yes rfl rfl ?_
            refine WL.q (q_pick0 rfl rfl) rfl rfl rfl ?_
            cases hb_9
            exact WL.keep (by exact ⟨rfl, rfl, trivial⟩) K
        refine WL.q (q_pick1 rfl rfl) rfl rfl rfl ?_
        cases hb_8
        exact WL.keep (by exact ⟨rfl, trivial⟩) K
      · replace hb_8 := ite_f hb_8 c10
        refine WL.no rfl rfl rfl rfl ?_
        refine WL.no rfl rfl rfl rfl ?_
        refine WL.no rfl rfl rfl rfl ?_
        refine WL.no rfl rfl rfl rfl ?_
        refine WL.nox rfl rfl rfl rfl ?_
        refine WL.nox rfl rfl rfl rfl ?_
        refine WL.nox rfl rfl rfl rfl ?_
        refine WL.no rfl rfl rfl rfl ?_
        refine WL.q (q_pick0 rfl rfl) rfl rfl rfl ?_
        cases hb_8
        exact WL.keep (by exact ⟨rfl, trivial⟩) K
    refine lq (q_assign rfl) rfl ?_
    refine WL.nil ?_
    refine WT.ret Try.func213 (resOk.one rfl) (fun w1 hw => ?_)
    subst hb0
    cases h
    exact post_of_St hw
  replace h := ite_f h c7
  refine WT.seq ?_
  refine WT.region ?_
  refine lq (q_eql rfl rfl) rfl ?_
  refine lq (q_assign rfl) rfl ?_
  refine WL.nil ?_
  refine WT.cond rfl (fun c12 => ?_) (fun c12 => ?_)
  · replace h := ite_t h c12
    refine WT.seq ?_
    refine WT.region ?_
    refine lq (q_fieldAddr Fld_215_1 rfl) rfl ?_
    refine lq (q_load1 T1_9 rfl (fun w1 hw => hw.rgO (i := 0) rfl 1 1 [.string p0.Name] rfl)) rfl ?_
    obtain ⟨x6, hx6, h⟩ := bind_some h
    refine lp (p_call Fun_137 rfl (fun w1 hw => m_s_NameOk_ok hw.fro N p0.Name hx6)) rfl ?_
    refine lq (q_move rfl) rfl ?_
    obtain ⟨b10, hb_10, h⟩ := bind_some h
    refine WL.cutN 4 [(74, .bool b10), (1, .pointer (some ⟨b_1, 0, none⟩))] ?_ (fun K => ?_)
    rotate_left
    · refine WL.split (d := 70) rfl (fun c13 => ?_) (fun c13 => ?_)
      · replace hb_10 := ite_t hb_10 c13
        refine WL.yes rfl rfl ?_
        refine lq (q_fieldAddr Fld_215_2 rfl) rfl ?_
        refine WL.yes rfl rfl ?_
        refine lq (q_load1 T1_213 rfl (fun w1 hw => hw.rgO (i := 0) rfl 2 1 [pv0_0] rfl)) rfl ?_
        refine WL.yes rfl rfl ?_
        obtain ⟨x7, hx7, hb_10⟩ := bind_some hb_10
        refine lp (p_call Fun_260 rfl (fun w1 hw => m_s_l8Args_ok hw.fro N p0.Args ph0_0 hx7)) rfl ?_
        refine WL.q (q_pick1 rfl rfl) rfl rfl rfl ?_
        cases hb_10
        exact WL.keep (by exact ⟨rfl, rfl, trivial⟩) K
      · replace hb_10 := ite_f hb_10 c13
        refine WL.no rfl rfl rfl rfl ?_
        refine WL.no rfl rfl rfl rfl ?_
        refine WL.no rfl rfl rfl rfl ?_
        refine WL.q (q_pick0 rfl rfl) rfl rfl rfl ?_
        cases hb_10
        exact WL.keep (by exact ⟨rfl, rfl, trivial⟩) K
    refine lq (q_move rfl) rfl ?_
    obtain ⟨b11, hb_11, h⟩ := bind_some h
    refine WL.cutN 4 [(79, .bool b11), (1, .pointer (some ⟨b_1, 0, none⟩))] ?_ (fun K => ?_)
    rotate_left
    · refine WL.split (d := 75) rfl (fun c14 => ?_) (fun c14 => ?_)
      · replace hb_11 := ite_t hb_11 c14
        refine WL.yes rfl rfl ?_
        refine lq (q_fieldAddr Fld_215_3 rfl) rfl ?_
        refine WL.yes rfl rfl ?_
        refine lq (q_load1 T1_3 rfl (fun w1 hw => hw.rgO (i := 0) rfl 3 1 [.int .i64 p0.N] rfl)) rfl ?_
        refine WL.yes rfl rfl ?_
        obtain ⟨x8, hx8, hb_11⟩ := bind_some hb_11
        refine lp (p_call Fun_138 rfl (fun w1 hw => m_s_l1In_ok hw.fro N p0.N 0 100000 hx8)) rfl ?_
        refine WL.q (q_pick1 rfl rfl) rfl rfl rfl ?_
        cases hb_11
        exact WL.keep (by exact ⟨rfl, rfl, trivial⟩) K
      · replace hb_11 := ite_f hb_11 c14
        refine WL.no rfl rfl rfl rfl ?_
        refine WL.no rfl rfl rfl rfl ?_
        refine WL.no rfl rfl rfl rfl ?_
        refine WL.q (q_pick0 rfl rfl) rfl rfl rfl ?_
        cases hb_11
        exact WL.keep (by exact ⟨rfl, rfl, trivial⟩) K
    refine lq (q_move rfl) rfl ?_
    obtain ⟨b12, hb_12, h⟩ := bind_some h
    refine WL.cutN 4 [(84, .bool b12)] ?_ (fun K => ?_)
    rotate_left
    · refine WL.split (d := 80) rfl (fun c15 => ?_) (fun c15 => ?_)
      · replace hb_12 := ite_t hb_12 c15
        refine WL.yes rfl rfl ?_
        refine lq (q_fieldAddr Fld_215_4 rfl) rfl ?_
        refine WL.yes rfl rfl ?_
        refine lq (q_load1 T1_9 rfl (fun w1 hw => hw.rgO (i := 0) rfl 4 1 [.string p0.Undo] rfl)) rfl ?_
        refine WL.yes rfl rfl ?_
        refine lq (q_seq rfl rfl) rfl ?_
        refine WL.q (q_pick1 rfl rfl) rfl rfl rfl ?_
        cases hb_12
        exact WL.keep (by exact ⟨rfl, trivial⟩) K
      · replace hb_12 := ite_f hb_12 c15
        refine WL.no rfl rfl rfl rfl ?_
        refine WL.no rfl rfl rfl rfl ?_
        refine WL.no rfl rfl rfl rfl ?_
        refine WL.q (q_pick0 rfl rfl) rfl rfl rfl ?_
        cases hb_12
        exact WL.keep (by exact ⟨rfl, trivial⟩) K
    refine lq (q_assign rfl) rfl ?_
    refine WL.nil ?_
    refine WT.ret Try.func213 (resOk.one rfl) (fun w1 hw => ?_)
    subst hb0
    cases h
    exact post_of_St hw
  replace h := ite_f h c12
  refine WT.seq ?_
  refine WT.region ?_
  refine lq (q_eql rfl rfl) rfl ?_
  refine lq (q_assign rfl) rfl ?_
  refine WL.nil ?_
  refine WT.cond rfl (fun c16 => ?_) (fun c16 => ?_)
  · replace h := ite_t h c16
    refine WT.seq ?_
    refine WT.region ?_
    refine lq (q_move rfl) rfl ?_
    refine lq (q_move rfl) rfl ?_
    obtain ⟨b13, hb_13, h⟩ := bind_some h
    refine WL.cutN 4 [(92, .bool b13)] ?_ (fun K => ?_)
    rotate_left
    · refine WL.split (d := 88) rfl (fun c17 => ?_) (fun c17 => ?_)
      · replace hb_13 := ite_t hb_13 c17
        refine WL.yes rfl rfl ?_
        refine lq (q_fieldAddr Fld_215_3 rfl) rfl ?_
        refine WL.yes rfl rfl ?_
        refine lq (q_load1 T1_3 rfl (fun w1 hw => hw.rgO (i := 0) rfl 3 1 [.int .i64 p0.N] rfl)) rfl ?_
        refine WL.yes rfl rfl ?_
        obtain ⟨x9, hx9, hb_13⟩ := bind_some hb_13
        refine lp (p_call Fun_138 rfl (fun w1 hw => m_s_l1In_ok hw.fro N p0.N 0 7 hx9)) rfl ?_
        refine WL.q (q_pick1 rfl rfl) rfl rfl rfl ?_
        cases hb_13
        exact WL.keep (by exact ⟨rfl, trivial⟩) K
      · replace hb_13 := ite_f hb_13 c17
        refine WL.no rfl rfl rfl rfl ?_
        refine WL.no rfl rfl rfl rfl ?_
        refine WL.no rfl rfl rfl rfl ?_
        refine WL.q (q_pick0 rfl rfl) rfl rfl rfl ?_
        cases hb_13
        exact WL.keep (by exact ⟨rfl, trivial⟩) K
    refine lq (q_assign rfl) rfl ?_
    refine WL.nil ?_
    refine WT.ret Try.func213 (resOk.one rfl) (fun w1 hw => ?_)
    subst hb0
    cases h
    exact post_of_St hw
  replace h := ite_f h c16
  refine WT.seq ?_
  refine WT.seq ?_
  refine WT.region ?_
  refine lq (q_eql rfl rfl) rfl ?_
  refine lq (q_assign rfl) rfl ?_
  refine WL.nil ?_
  refine cut (σ := Bool) (fun s => [(1, .pointer (some ⟨b_1, 0, none⟩)), (3, .bool b2), (93, .bool s)]) (fun s => St w0 Φ [(b_1, .cells #[.int .i64 p0.Kind, .string p0.Name, pv0_0, .int .i64 p0.N, .string p0.Undo] 215 (0, 0))] []) (fun s => m_s_ActOk_j1 N p0 b2 s = some r) (fun s hm => ?_) (fun K => ?_)
  · clear h
    revert hm; revert s; intro s1 hm
    have h : m_s_ActOk_j1 N p0 b2 s1 = some r := hm
    show WT _ _ [(1, .pointer (some ⟨b_1, 0, none⟩)), (3, .bool b2), (93, .bool s1)] (St w0 Φ [(b_1, .cells #[.int .i64 p0.Kind, .string p0.Name, pv0_0, .int .i64 p0.N, .string p0.Undo] 215 (0, 0))] [])
    unfold m_s_ActOk_j1 at h
    refine WT.cond rfl (fun c18 => ?_) (fun c18 => ?_)
    · replace h := ite_t h c18
      refine WT.seq ?_
      refine WT.region ?_
      refine lq (q_move rfl) rfl ?_
      refine lq (q_move rfl) rfl ?_
      obtain ⟨b14, hb_14, h⟩ := bind_some h
      refine WL.cutN 4 [(101, .bool b14)] ?_ (fun K => ?_)
      rotate_left
      · refine WL.split (d := 97) rfl (fun c19 => ?_) (fun c19 => ?_)
        · replace hb_14 := ite_t hb_14 c19
          refine WL.yes rfl rfl ?_
          refine lq (q_fieldAddr Fld_215_3 rfl) rfl ?_
          refine WL.yes rfl rfl ?_
          refine lq (q_load1 T1_3 rfl (fun w1 hw => hw.rgO (i := 0) rfl 3 1 [.int .i64 p0.N] rfl)) rfl ?_
          refine WL.yes rfl rfl ?_
          refine lq (q_eql rfl rfl) rfl ?_
          refine WL.q (q_pick1 rfl rfl) rfl rfl rfl ?_
          cases hb_14
          exact WL.keep (by exact ⟨rfl, trivial⟩) K
        · replace hb_14 := ite_f hb_14 c19
          refine WL.no rfl rfl rfl rfl ?_
          refine WL.no rfl rfl rfl rfl ?_
          refine WL.no rfl rfl rfl rfl ?_
          refine WL.q (q_pick0 rfl rfl) rfl rfl rfl ?_
          cases hb_14
          exact WL.keep (by exact ⟨rfl, trivial⟩) K
      refine lq (q_assign rfl) rfl ?_
      refine WL.nil ?_
      refine WT.ret Try.func213 (resOk.one rfl) (fun w1 hw => ?_)
      subst hb0
      cases h
      exact post_of_St hw
    replace h := ite_f h c18
    refine WT.skip ?_
    refine WT.inBlock ?_
    refine WT.seq ?_
    refine WT.region ?_
    refine lq (q_assign rfl) rfl ?_
    refine WL.nil ?_
    refine WT.ret Try.func213 (resOk.one rfl) (fun w1 hw => ?_)
    subst hb0
    cases h
    exact post_of_St hw
  refine WT.cond rfl (fun c20 => ?_) (fun c20 => ?_)
  · replace h := ite_t h c20
    refine WT.skip ?_
    refine WT.mono (l' := [(1, .pointer (some ⟨b_1, 0, none⟩)), (3, .bool b2), (93, .bool (decide (p0.Kind = 5)))]) (S' := St w0 Φ [(b_1, .cells #[.int .i64 p0.Kind, .string p0.Name, pv0_0, .int .i64 p0.N, .string p0.Undo] 215 (0, 0))] []) ⟨rfl, rfl, rfl, trivial⟩ (fun w1 hw => (hw.sel (js := []) rfl).selO (js := [0]) rfl) ?_
    exact K (decide (p0.Kind = 5)) h
  replace h := ite_f h c20
  refine WT.region ?_
  refine lq (q_eql rfl rfl) rfl ?_
  refine lq (q_assign rfl) rfl ?_
  refine WL.nil ?_
  refine WT.mono (l' := [(1, .pointer (some ⟨b_1, 0, none⟩)), (3, .bool b2), (93, .bool (decide (p0.Kind = 6)))]) (S' := St w0 Φ [(b_1, .cells #[.int .i64 p0.Kind, .string p0.Name, pv0_0, .int .i64 p0.N, .string p0.Undo] 215 (0, 0))] []) ⟨rfl, rfl, rfl, trivial⟩ (fun w1 hw => (hw.sel (js := []) rfl).selO (js := [0]) rfl) ?_
  exact K (decide (p0.Kind = 6)) h
theorem m_s_l9Acts_ok {Φ : Hp} {w : World} (hΦ : In Φ w) (N : Nat) (p0 : (List TAct)) (p1 : (List ByteArray)) (p2 : Int) {pv0 : Value} {pG0 : List Nat} {pv1 : Value} {pG1 : List Nat} (ph0 : RSl RTAct 5 Φ pG0 pv0 p0) (ph1 : RSl RS 1 Φ pG1 pv1 p1) {r : Bool} (h : m_s_l9Acts N p0 p1 p2 = some r) :
    Calls Try.prog 145 [pv0, pv1, .int .i64 p2].toArray w (Post (.bool r) w) := by
  refine enter Try.func145 rfl Try.ntmps145 rfl (St.start0 hΦ) ?_
  generalize hb0 : (⟨w, [], Φ⟩ : Base) = w0
  unfold m_s_l9Acts at h
  refine WT.seq ?_
  refine WT.region ?_
  refine lq (q_assign rfl) rfl ?_
  refine WL.nil ?_
  refine WT.seq ?_
  refine WT.seq ?_
  refine WT.region ?_
  refine lq (q_assign rfl) rfl ?_
  refine WL.nil ?_
  refine WT.block ?_
  refine WT.loop ?_
  refine WT.mono (l' := [(0, pv0), (1, pv1), (2, .int .i64 p2), (7, .int .i64 0)]) (S' := St w0 Φ [] []) ⟨rfl, rfl, rfl, rfl, trivial⟩ (fun w1 hw => (hw.sel (js := []) rfl).selO (js := []) rfl) ?_
  refine loop_ind (σ := Int) (fun s => [(0, pv0), (1, pv1), (2, .int .i64 p2), (7, .int .i64 s)]) (fun s => St w0 Φ [] []) (fun m s => m_s_l9Acts_l1 N p0 p1 p2 m s = some r) (fun s hm => none_ne (show (none : Option (Bool)) = some r from hm)) (fun n1 ih1 s hm => ?_) N (0) h
  revert hm; revert s; intro s1 hm
  have h : m_s_l9Acts_l1 N p0 p1 p2 (n1 + 1) s1 = some r := hm
  show WT _ _ [(0, pv0), (1, pv1), (2, .int .i64 p2), (7, .int .i64 s1)] (St w0 Φ [] [])
  unfold m_s_l9Acts_l1 at h
  refine WT.seq ?_
  refine WT.seq ?_
  refine WT.region ?_
  refine lq (q_move rfl) rfl ?_
  refine lq (q_move rfl) rfl ?_
  refine lq (q_lenR Sl_64 rfl rfl ph0) rfl ?_
  refine lq (q_lss rfl rfl) rfl ?_
  refine WL.nil ?_
  refine WT.cond rfl (fun c1 => ?_) (fun c1 => ?_)
  · replace h := ite_t h c1
    refine WT.skip ?_
    refine WT.seq ?_
    refine WT.block ?_
    refine WT.seq ?_
    refine WT.seq ?_
    refine WT.region ?_
    refine lq (q_move rfl) rfl ?_
    refine lq (q_move rfl) rfl ?_
    obtain ⟨x1, hx1, h⟩ := bind_some h
    obtain ⟨cs1, F1, -, g1, hb1, hs1, r1⟩ := ph0.el (idx_some hx1).2.2
    obtain ⟨v1, G1, rfl, hq1, h1⟩ := r1
    obtain rfl := hq1.symm
    refine lq (q_indexAddr Sl_64 rfl rfl ph0 hx1) rfl ?_
    refine lq (q_loadN Tn_215 rfl (fun w1 hw => (g1.of_eq 0 5 rfl rfl : rg _ _ _ [.int .i64 x1.Kind, .string x1.Name, v1, .int .i64 x1.N, .string x1.Undo]).rangeAt hw.fro) rfl) rfl ?_
    obtain ⟨x2, hx2, h⟩ := bind_some h
    refine lp (p_call Fun_213 rfl (fun w1 hw => m_s_ActOk_ok hw.fro N x1 h1 hx2)) rfl ?_
    refine lq (q_not rfl) rfl ?_
    refine lq (q_move rfl) rfl ?_
    obtain ⟨b1, hb_1, h⟩ := bind_some h
    refine WL.cutN 16 [(37, .bool b1), (0, pv0), (1, pv1), (2, .int .i64 p2), (7, .int .i64 s1)] ?_ (fun K => ?_)
    rotate_left
    · refine WL.split (d := 21) rfl (fun c2 => ?_) (fun c2 => ?_)
      · replace hb_1 := ite_t hb_1 c2
        refine WL.no rfl rfl rfl rfl ?_
        refine WL.no rfl rfl rfl rfl ?_
        refine WL.no rfl rfl rfl rfl ?_
        refine WL.no rfl rfl rfl rfl ?_
        refine WL.no rfl rfl rfl rfl ?_
        refine WL.no rfl rfl rfl rfl ?_
        refine WL.no rfl rfl rfl rfl ?_
        refine WL.nox rfl rfl rfl rfl ?_
        refine WL.nox rfl rfl rfl rfl ?_
        refine WL.nox rfl rfl rfl rfl ?_
        refine WL.nox rfl rfl rfl rfl ?_
        refine WL.nox rfl rfl rfl rfl ?_
        refine WL.nox rfl rfl rfl rfl ?_
        refine WL.nox rfl rfl rfl rfl ?_
        refine WL.no rfl rfl rfl rfl ?_
        refine WL.q (q_pick1 rfl rfl) rfl rfl rfl ?_
        cases hb_1
        exact WL.keep (by exact ⟨rfl, rfl, rfl, rfl, rfl, trivial⟩) K
      · replace hb_1 := ite_f hb_1 c2
        refine WL.yes rfl rfl ?_
        refine lq (q_move rfl) rfl ?_
        refine WL.yes rfl rfl ?_
        refine lq (q_move rfl) rfl ?_
        refine WL.yes rfl rfl ?_
        obtain ⟨x3, hx3, hb_1⟩ := bind_some hb_1
        obtain ⟨cs2, F2, -, g2, hb2, hs2, r2⟩ := ph0.el (idx_some hx3).2.2
        obtain ⟨v2, G2, rfl, hq2, h2⟩ := r2
        obtain rfl := hq2.symm
        refine lq (q_indexAddr Sl_64 rfl rfl ph0 hx3) rfl ?_
        refine WL.yes rfl rfl ?_
        refine lq (q_fieldAddr Fld_215_0 rfl) rfl ?_
        refine WL.yes rfl rfl ?_
        refine lq (q_load1 T1_3 rfl (fun w1 hw => (g2.of_eq 0 1 rfl rfl : rg _ _ _ [.int .i64 x3.Kind]).rangeAt hw.fro)) rfl ?_
        refine WL.yes rfl rfl ?_
        refine lq (q_eql rfl rfl) rfl ?_
        refine WL.yes rfl rfl ?_
        refine lq (q_move rfl) rfl ?_
        obtain ⟨b2, hb_2, hb_1⟩ := bind_some hb_1
        refine WL.cutN 8 [(36, .bool b2), (0, pv0), (1, pv1), (2, .int .i64 p2), (7, .int .i64 s1), (21, .bool false)] ?_ (fun K => ?_)
        rotate_left
        · refine WL.split (d := 28) rfl (fun c3 => ?_) (fun c3 => ?_)
          · replace hb_2 := ite_t hb_2 c3
            refine WL.yes rfl rfl ?_
            refine lq (q_move rfl) rfl ?_
            refine WL.yes rfl rfl ?_
            refine lq (q_move rfl) rfl ?_
            refine WL.yes rfl rfl ?_
            obtain ⟨x4, hx4, hb_2⟩ := bind_some hb_2
            obtain ⟨cs3, F3, -, g3, hb3, hs3, r3⟩ := ph0.el (idx_some hx4).2.2
            obtain ⟨v3, G3, rfl, hq3, h3⟩ := r3
            obtain rfl := hq3.symm
            refine lq (q_indexAddr Sl_64 rfl rfl ph0 hx4) rfl ?_
            refine WL.yes rfl rfl ?_
            refine lq (q_fieldAddr Fld_215_3 rfl) rfl ?_
            refine WL.yes rfl rfl ?_
            refine lq (q_load1 T1_3 rfl (fun w1 hw => (g3.of_eq 3 1 rfl rfl : rg _ _ _ [.int .i64 x4.N]).rangeAt hw.fro)) rfl ?_
            refine WL.yes rfl rfl ?_
            refine lq (q_move rfl) rfl ?_
            refine WL.yes rfl rfl ?_
            refine lq (q_geq rfl rfl) rfl ?_
            refine WL.yes rfl rfl ?_
            refine WL.q (q_pick1 rfl rfl) rfl rfl rfl ?_
            cases hb_2
            exact WL.keep (by exact ⟨rfl, rfl, rfl, rfl, rfl, rfl, trivial⟩) K
          · replace hb_2 := ite_f hb_2 c3
            refine WL.no rfl rfl rfl rfl ?_
            refine WL.no rfl rfl rfl rfl ?_
            refine WL.no rfl rfl rfl rfl ?_
            refine WL.no rfl rfl rfl rfl ?_
            refine WL.no rfl rfl rfl rfl ?_
            refine WL.no rfl rfl rfl rfl ?_
            refine WL.no rfl rfl rfl rfl ?_
            refine WL.yes rfl rfl ?_
            refine WL.q (q_pick0 rfl rfl) rfl rfl rfl ?_
            cases hb_2
            exact WL.keep (by exact ⟨rfl, rfl, rfl, rfl, rfl, rfl, trivial⟩) K
        refine WL.q (q_pick0 rfl rfl) rfl rfl rfl ?_
        cases hb_1
        exact WL.keep (by exact ⟨rfl, rfl, rfl, rfl, rfl, trivial⟩) K
    refine WL.nil ?_
    refine WT.cond rfl (fun c4 => ?_) (fun c4 => ?_)
    · replace h := ite_t h c4
      refine WT.seq ?_
      refine WT.region ?_
      refine lq (q_assign rfl) rfl ?_
      refine WL.nil ?_
      refine WT.ret Try.func145 (resOk.one rfl) (fun w1 hw => ?_)
      subst hb0
      cases h
      exact post_of_St hw
    replace h := ite_f h c4
    refine WT.skip ?_
    refine WT.seq ?_
    refine WT.region ?_
    refine lq (q_assign rfl) rfl ?_
    refine WL.nil ?_
    refine WT.block ?_
    refine WT.loop ?_
    refine WT.mono (l' := [(0, pv0), (1, pv1), (2, .int .i64 p2), (7, .int .i64 s1), (8, .int .i64 0)]) (S' := St w0 Φ [] []) ⟨rfl, rfl, rfl, rfl, rfl, trivial⟩ (fun w1 hw => (hw.sel (js := []) rfl).selO (js := []) rfl) ?_
    refine loop_ind (σ := Int) (fun s => [(0, pv0), (1, pv1), (2, .int .i64 p2), (7, .int .i64 s1), (8, .int .i64 s)]) (fun s => St w0 Φ [] []) (fun m s => m_s_l9Acts_l2 N p0 p1 s1 (m_s_l9Acts_l1 N p0 p1 p2 n1) m s = some r) (fun s hm => none_ne (show (none : Option (Bool)) = some r from hm)) (fun n2 ih2 s hm => ?_) N (0) h
    revert hm; revert s; intro s2 hm
    have h : m_s_l9Acts_l2 N p0 p1 s1 (m_s_l9Acts_l1 N p0 p1 p2 n1) (n2 + 1) s2 = some r := hm
    show WT _ _ [(0, pv0), (1, pv1), (2, .int .i64 p2), (7, .int .i64 s1), (8, .int .i64 s2)] (St w0 Φ [] [])
    unfold m_s_l9Acts_l2 at h
    refine WT.seq ?_
    refine WT.seq ?_
    refine WT.region ?_
    refine lq (q_move rfl) rfl ?_
    refine lq (q_move rfl) rfl ?_
    refine lq (q_move rfl) rfl ?_
    obtain ⟨x5, hx5, h⟩ := bind_some h
    obtain ⟨cs4, F4, -, g4, hb4, hs4, r4⟩ := ph0.el (idx_some hx5).2.2
    obtain ⟨v4, G4, rfl, hq4, h4⟩ := r4
    obtain rfl := hq4.symm
    refine lq (q_indexAddr Sl_64 rfl rfl ph0 hx5) rfl ?_
    refine lq (q_fieldAddr Fld_215_2 rfl) rfl ?_
    refine lq (q_load1 T1_213 rfl (fun w1 hw => (g4.of_eq 2 1 rfl rfl : rg _ _ _ [v4]).rangeAt hw.fro)) rfl ?_
    refine lq (q_lenR Sl_213 rfl rfl h4) rfl ?_
    refine lq (q_lss rfl rfl) rfl ?_
    refine WL.nil ?_
    refine WT.cond rfl (fun c5 => ?_) (fun c5 => ?_)
    · replace h := ite_t h c5
      refine WT.skip ?_
      refine WT.seq ?_
      refine WT.block ?_
      refine WT.seq ?_
      refine WT.region ?_
      refine lq (q_move rfl) rfl ?_
      refine lq (q_move rfl) rfl ?_
      obtain ⟨x6, hx6, h⟩ := bind_some h
      obtain ⟨cs5, F5, -, g5, hb5, hs5, r5⟩ := ph0.el (idx_some hx6).2.2
      obtain ⟨v5, G5, rfl, hq5, h5⟩ := r5
      obtain rfl := hq5.symm
      refine lq (q_indexAddr Sl_64 rfl rfl ph0 hx6) rfl ?_
      refine lq (q_fieldAddr Fld_215_2 rfl) rfl ?_
      refine lq (q_load1 T1_213 rfl (fun w1 hw => (g5.of_eq 2 1 rfl rfl : rg _ _ _ [v5]).rangeAt hw.fro)) rfl ?_
      refine lq (q_move rfl) rfl ?_
      obtain ⟨x7, hx7, h⟩ := bind_some h
      obtain ⟨cs6, F6, -, g6, hb6, hs6, r6⟩ := h5.el (idx_some hx7).2.2
      obtain ⟨rfl, -⟩ := r6
      refine lq (q_indexAddr Sl_213 rfl rfl h5 hx7) rfl ?_
      refine lq (q_fieldAddr Fld_285_1 rfl) rfl ?_
      refine lq (q_loadN Tn_206 rfl (fun w1 hw => (g6.of_eq 1 5 rfl rfl : rg _ _ _ [.int .i64 x7.L.K, .string x7.L.S, .int .i64 x7.L.V.K, .int .i64 x7.L.V.N, .string x7.L.V.S]).rangeAt hw.fro) rfl) rfl ?_
      refine lq (q_move rfl) rfl ?_
      obtain ⟨x8, hx8, h⟩ := bind_some h
      refine lp (p_call Fun_212 rfl (fun w1 hw => m_s_l9Known_ok hw.fro N x7.L p1 ph1 hx8)) rfl ?_
      refine lq (q_not rfl) rfl ?_
      refine lq (q_move rfl) rfl ?_
      obtain ⟨b3, hb_3, h⟩ := bind_some h
      refine WL.cutN 13 [(73, .bool b3), (0, pv0), (1, pv1), (2, .int .i64 p2), (7, .int .i64 s1), (8, .int .i64 s2)] ?_ (fun K => ?_)
      rotate_left
      · refine WL.split (d := 60) rfl (fun c6 => ?_) (fun c6 => ?_)
        · replace hb_3 := ite_t hb_3 c6
          refine WL.no rfl rfl rfl rfl ?_
          refine WL.no rfl rfl rfl rfl ?_
          refine WL.no rfl rfl rfl rfl ?_
          refine WL.no rfl rfl rfl rfl ?_
          refine WL.no rfl rfl rfl rfl ?_
          refine WL.no rfl rfl rfl rfl ?_
          refine WL.no rfl rfl rfl rfl ?_
          refine WL.no rfl rfl rfl rfl ?_
          refine WL.no rfl rfl rfl rfl ?_
          refine WL.no rfl rfl rfl rfl ?_
          refine WL.no rfl rfl rfl rfl ?_
          refine WL.no rfl rfl rfl rfl ?_
          refine WL.q (q_pick1 rfl rfl) rfl rfl rfl ?_
          cases hb_3
          exact WL.keep (by exact ⟨rfl, rfl, rfl, rfl, rfl, rfl, trivial⟩) K
        · replace hb_3 := ite_f hb_3 c6
          refine WL.yes rfl rfl ?_
          refine lq (q_move rfl) rfl ?_
          refine WL.yes rfl rfl ?_
          refine lq (q_move rfl) rfl ?_
          refine WL.yes rfl rfl ?_
          obtain ⟨x9, hx9, hb_3⟩ := bind_some hb_3
          obtain ⟨cs7, F7, -, g7, hb7, hs7, r7⟩ := ph0.el (idx_some hx9).2.2
          obtain ⟨v6, G6, rfl, hq6, h6⟩ := r7
          obtain rfl := hq6.symm
          refine lq (q_indexAddr Sl_64 rfl rfl ph0 hx9) rfl ?_
          refine WL.yes rfl rfl ?_
          refine lq (q_fieldAddr Fld_215_2 rfl) rfl ?_
          refine WL.yes rfl rfl ?_
          refine lq (q_load1 T1_213 rfl (fun w1 hw => (g7.of_eq 2 1 rfl rfl : rg _ _ _ [v6]).rangeAt hw.fro)) rfl ?_
          refine WL.yes rfl rfl ?_
          refine lq (q_move rfl) rfl ?_
          refine WL.yes rfl rfl ?_
          obtain ⟨x10, hx10, hb_3⟩ := bind_some hb_3
          obtain ⟨cs8, F8, -, g8, hb8, hs8, r8⟩ := h6.el (idx_some hx10).2.2
          obtain ⟨rfl, -⟩ := r8
          refine lq (q_indexAddr Sl_213 rfl rfl h6 hx10) rfl ?_
          refine WL.yes rfl rfl ?_
          refine lq (q_fieldAddr Fld_285_2 rfl) rfl ?_
          refine WL.yes rfl rfl ?_
          refine lq (q_loadN Tn_206 rfl (fun w1 hw => (g8.of_eq 6 5 rfl rfl : rg _ _ _ [.int .i64 x10.R.K, .string x10.R.S, .int .i64 x10.R.V.K, .int .i64 x10.R.V.N, .string x10.R.V.S]).rangeAt hw.fro) rfl) rfl ?_
          refine WL.yes rfl rfl ?_
          refine lq (q_move rfl) rfl ?_
          refine WL.yes rfl rfl ?_
          obtain ⟨x11, hx11, hb_3⟩ := bind_some hb_3
          refine lp (p_call Fun_212 rfl (fun w1 hw => m_s_l9Known_ok hw.fro N x10.R p1 ph1 hx11)) rfl ?_
          refine WL.yes rfl rfl ?_
          refine lq (q_not rfl) rfl ?_
          refine WL.q (q_pick0 rfl rfl) rfl rfl rfl ?_
          cases hb_3
          exact WL.keep (by exact ⟨rfl, rfl, rfl, rfl, rfl, rfl, trivial⟩) K
      refine WL.nil ?_
      refine WT.cond rfl (fun c7 => ?_) (fun c7 => ?_)
      · replace h := ite_t h c7
        refine WT.seq ?_
        refine WT.region ?_
        refine lq (q_assign rfl) rfl ?_
        refine WL.nil ?_
        refine WT.ret Try.func145 (resOk.one rfl) (fun w1 hw => ?_)
        subst hb0
        cases h
        exact post_of_St hw
      replace h := ite_f h c7
      refine WT.skip ?_
      refine WT.inBlock ?_
      refine WT.region ?_
      refine lq (q_move rfl) rfl ?_
      refine lq (q_add rfl rfl) rfl ?_
      refine lq (q_assign rfl) rfl ?_
      refine WL.nil ?_
      refine WT.inLoop (WT.mono (l' := [(0, pv0), (1, pv1), (2, .int .i64 p2), (7, .int .i64 s1), (8, .int .i64 (IntKind.i64.wrap (s2 + 1)))]) (S' := St w0 Φ [] []) ⟨rfl, rfl, rfl, rfl, rfl, trivial⟩ (fun w1 hw => (hw.sel (js := []) rfl).selO (js := []) rfl) ?_)
      exact ih2 (IntKind.i64.wrap (s2 + 1)) h
    replace h := ite_f h c5
    refine WT.exit rfl ?_
    refine WT.inBlock ?_
    refine WT.region ?_
    refine lq (q_move rfl) rfl ?_
    refine lq (q_add rfl rfl) rfl ?_
    refine lq (q_assign rfl) rfl ?_
    refine WL.nil ?_
    refine WT.inLoop (WT.mono (l' := [(0, pv0), (1, pv1), (2, .int .i64 p2), (7, .int .i64 (IntKind.i64.wrap (s1 + 1)))]) (S' := St w0 Φ [] []) ⟨rfl, rfl, rfl, rfl, trivial⟩ (fun w1 hw => (hw.sel (js := []) rfl).selO (js := []) rfl) ?_)
    exact ih1 (IntKind.i64.wrap (s1 + 1)) h
  replace h := ite_f h c1
  refine WT.exit rfl ?_
  refine WT.seq ?_
  refine WT.region ?_
  refine lq (q_move rfl) rfl ?_
  refine lq (q_lenR Sl_64 rfl rfl ph0) rfl ?_
  obtain ⟨x12, hx12, h⟩ := bind_some h
  refine lp (p_call Fun_138 rfl (fun w1 hw => m_s_l1In_ok hw.fro N (p0.length : Int) 1 6 hx12)) rfl ?_
  refine lq (q_assign rfl) rfl ?_
  refine WL.nil ?_
  refine WT.ret Try.func145 (resOk.one rfl) (fun w1 hw => ?_)
  subst hb0
  cases h
  exact post_of_St hw
theorem m_s_PosCount_ok {Φ : Hp} {w : World} (hΦ : In Φ w) (N : Nat) (p0 : TRule) {pv0_0 : Value} {pG0_0 : List Nat} {pv0_1 : Value} {pG0_1 : List Nat} {pv0_2 : Value} {pG0_2 : List Nat} (ph0_0 : RSl RTPat 3 Φ pG0_0 pv0_0 p0.Pats) (ph0_1 : RSl RTCond 11 Φ pG0_1 pv0_1 p0.Conds) (ph0_2 : RSl RTAct 5 Φ pG0_2 pv0_2 p0.Acts) {r : Int} (h : m_s_PosCount N p0 = some r) :
    Calls Try.prog 146 [.agg [.string p0.Name, .int .i64 p0.Sal, pv0_0, pv0_1, pv0_2].toArray].toArray w (Post (.int .i64 r) w) := by
  refine enter Try.func146 rfl Try.ntmps146 rfl (St.start0 hΦ) ?_
  generalize hb0 : (⟨w, [], Φ⟩ : Base) = w0
  unfold m_s_PosCount at h
  refine WT.seq ?_
  refine WT.region ?_
  refine ln (n_box (C := #[.string p0.Name, .int .i64 p0.Sal, pv0_0, pv0_1, pv0_2]) rfl rfl) rfl (fun b_1 => ?_)
  refine lq (q_assign rfl) rfl ?_
  refine WL.nil ?_
  refine WT.seq ?_
  refine WT.region ?_
  refine lq (q_assign rfl) rfl ?_
  refine WL.nil ?_
  refine WT.seq ?_
  refine WT.seq ?_
  refine WT.region ?_
  refine lq (q_assign rfl) rfl ?_
  refine WL.nil ?_
  refine WT.block ?_
  refine WT.loop ?_
  refine WT.mono (l' := [(1, .pointer (some ⟨b_1, 0, none⟩)), (3, .int .i64 0), (4, .int .i64 0)]) (S' := St w0 Φ [(b_1, .cells #[.string p0.Name, .int .i64 p0.Sal, pv0_0, pv0_1, pv0_2] 66 (0, 0))] []) ⟨rfl, rfl, rfl, trivial⟩ (fun w1 hw => (hw.sel (js := []) rfl).selO (js := [0]) rfl) ?_
  refine loop_ind (σ := Int × Int) (fun s => [(1, .pointer (some ⟨b_1, 0, none⟩)), (3, .int .i64 s.1), (4, .int .i64 s.2)]) (fun s => St w0 Φ [(b_1, .cells #[.string p0.Name, .int .i64 p0.Sal, pv0_0, pv0_1, pv0_2] 66 (0, 0))] []) (fun m s => m_s_PosCount_l1 N p0 m s.1 s.2 = some r) (fun s hm => none_ne (show (none : Option (Int)) = some r from hm)) (fun n1 ih1 s hm => ?_) N (0, 0) h
  obtain ⟨s1, s2⟩ := s
  have h : m_s_PosCount_l1 N p0 (n1 + 1) s1 s2 = some r := hm
  show WT _ _ [(1, .pointer (some ⟨b_1, 0, none⟩)), (3, .int .i64 s1), (4, .int .i64 s2)] (St w0 Φ [(b_1, .cells #[.string p0.Name, .int .i64 p0.Sal, pv0_0, pv0_1, pv0_2] 66 (0, 0))] [])
  unfold m_s_PosCount_l1 at h
  refine WT.seq ?_
  refine WT.seq ?_
  refine WT.region ?_
  refine lq (q_move rfl) rfl ?_
  refine lq (q_fieldAddr Fld_66_2 rfl) rfl ?_
  refine lq (q_load1 T1_62 rfl (fun w1 hw => hw.rgO (i := 0) rfl 2 1 [pv0_0] rfl)) rfl ?_
  refine lq (q_lenR Sl_62 rfl rfl ph0_0) rfl ?_
  refine lq (q_lss rfl rfl) rfl ?_
  refine WL.nil ?_
  refine WT.cond rfl (fun c1 => ?_) (fun c1 => ?_)
  · replace h := ite_t h c1
    refine WT.skip ?_
    refine WT.seq ?_
    refine WT.block ?_
    refine WT.seq ?_
    refine WT.region ?_
    refine lq (q_fieldAddr Fld_66_2 rfl) rfl ?_
    refine lq (q_load1 T1_62 rfl (fun w1 hw => hw.rgO (i := 0) rfl 2 1 [pv0_0] rfl)) rfl ?_
    refine lq (q_move rfl) rfl ?_
    obtain ⟨x1, hx1, h⟩ := bind_some h
    obtain ⟨cs1, F1, -, g1, hb1, hs1, r1⟩ := ph0_0.el (idx_some hx1).2.2
    obtain ⟨v1, G1, rfl, hq1, h1⟩ := r1
    obtain rfl := hq1.symm
    refine lq (q_indexAddr Sl_62 rfl rfl ph0_0 hx1) rfl ?_
    refine lq (q_fieldAddr Fld_121_2 rfl) rfl ?_
    refine lq (q_load1 T1_4 rfl (fun w1 hw => (g1.of_eq 2 1 rfl rfl : rg _ _ _ [.bool x1.Not]).rangeAt hw.fro)) rfl ?_
    refine lq (q_not rfl) rfl ?_
    refine WL.nil ?_
    refine WT.cond rfl (fun c2 => ?_) (fun c2 => ?_)
    · replace h := ite_t h c2
      refine WT.region ?_
      refine lq (q_move rfl) rfl ?_
      refine lq (q_add rfl rfl) rfl ?_
      refine lq (q_assign rfl) rfl ?_
      refine WL.nil ?_
      refine WT.inBlock ?_
      refine WT.region ?_
      refine lq (q_move rfl) rfl ?_
      refine lq (q_add rfl rfl) rfl ?_
      refine lq (q_assign rfl) rfl ?_
      refine WL.nil ?_
      refine WT.inLoop (WT.mono (l' := [(1, .pointer (some ⟨b_1, 0, none⟩)), (3, .int .i64 (IntKind.i64.wrap (s1 + 1))), (4, .int .i64 (IntKind.i64.wrap (s2 + 1)))]) (S' := St w0 Φ [(b_1, .cells #[.string p0.Name, .int .i64 p0.Sal, pv0_0, pv0_1, pv0_2] 66 (0, 0))] []) ⟨rfl, rfl, rfl, trivial⟩ (fun w1 hw => (hw.sel (js := []) rfl).selO (js := [0]) rfl) ?_)
      exact ih1 (IntKind.i64.wrap (s1 + 1), IntKind.i64.wrap (s2 + 1)) h
    replace h := ite_f h c2
    refine WT.skip ?_
    refine WT.inBlock ?_
    refine WT.region ?_
    refine lq (q_move rfl) rfl ?_
    refine lq (q_add rfl rfl) rfl ?_
    refine lq (q_assign rfl) rfl ?_
    refine WL.nil ?_
    refine WT.inLoop (WT.mono (l' := [(1, .pointer (some ⟨b_1, 0, none⟩)), (3, .int .i64 s1), (4, .int .i64 (IntKind.i64.wrap (s2 + 1)))]) (S' := St w0 Φ [(b_1, .cells #[.string p0.Name, .int .i64 p0.Sal, pv0_0, pv0_1, pv0_2] 66 (0, 0))] []) ⟨rfl, rfl, rfl, trivial⟩ (fun w1 hw => (hw.sel (js := []) rfl).selO (js := [0]) rfl) ?_)
    exact ih1 (s1, IntKind.i64.wrap (s2 + 1)) h
  replace h := ite_f h c1
  refine WT.exit rfl ?_
  refine WT.seq ?_
  refine WT.region ?_
  refine lq (q_move rfl) rfl ?_
  refine lq (q_assign rfl) rfl ?_
  refine WL.nil ?_
  refine WT.ret Try.func146 (resOk.one rfl) (fun w1 hw => ?_)
  subst hb0
  cases h
  exact post_of_St hw
theorem m_s_RuleOk_ok {Φ : Hp} {w : World} (hΦ : In Φ w) (N : Nat) (p0 : TRule) {pv0_0 : Value} {pG0_0 : List Nat} {pv0_1 : Value} {pG0_1 : List Nat} {pv0_2 : Value} {pG0_2 : List Nat} (ph0_0 : RSl RTPat 3 Φ pG0_0 pv0_0 p0.Pats) (ph0_1 : RSl RTCond 11 Φ pG0_1 pv0_1 p0.Conds) (ph0_2 : RSl RTAct 5 Φ pG0_2 pv0_2 p0.Acts) {r : Bool} (h : m_s_RuleOk N p0 = some r) :
    Calls Try.prog 66 [.agg [.string p0.Name, .int .i64 p0.Sal, pv0_0, pv0_1, pv0_2].toArray].toArray w (Post (.bool r) w) := by
  refine enter Try.func66 rfl Try.ntmps66 rfl (St.start0 hΦ) ?_
  have pa0_0 : Old ⟨w, [], Φ⟩ pG0_0 := Old.mk hΦ ph0_0.kn (Dj.empty _)
  have pa0_1 : Old ⟨w, [], Φ⟩ pG0_1 := Old.mk hΦ ph0_1.kn (Dj.empty _)
  have pa0_2 : Old ⟨w, [], Φ⟩ pG0_2 := Old.mk hΦ ph0_2.kn (Dj.empty _)
  unfold m_s_RuleOk at h
  refine WT.seq ?_
  refine WT.region ?_
  refine ln (n_box (C := #[.string p0.Name, .int .i64 p0.Sal, pv0_0, pv0_1, pv0_2]) rfl rfl) rfl (fun b_1 => ?_)
  refine lq (q_assign rfl) rfl ?_
  refine WL.nil ?_
  refine WT.seq ?_
  refine WT.region ?_
  refine lq (q_loadN Tn_66 rfl (fun w1 hw => hw.rgO (i := 0) rfl 0 5 [.string p0.Name, .int .i64 p0.Sal, pv0_0, pv0_1, pv0_2] rfl) rfl) rfl ?_
  obtain ⟨x1, hx1, h⟩ := bind_some h
  refine lc (k_call (js := []) (R := []) Fun_45 rfl rfl (fun w1 hw ap hl => m_s_PosVars_ok hw.fro N p0 ph0_0 ph0_1 ph0_2  hx1)) rfl (fun v1 Φ_1 F1 q1 => ?_)
  obtain ⟨ap1, fr1, v2, rfl, rfl, h1⟩ := q1
  replace ph0_0 := ph0_0.frame RTPat.lasts fr1 (ap1.o pa0_0)
  replace ph0_1 := ph0_1.frame RTCond.lasts fr1 (ap1.o pa0_1)
  replace ph0_2 := ph0_2.frame RTAct.lasts fr1 (ap1.o pa0_2)
  refine lq (q_assign rfl) rfl ?_
  refine WL.nil ?_
  refine WT.seq ?_
  refine WT.draw mixed (by kernel_rfl) (fun _ h => h.drew) ?_
  refine qq (q_fieldAddr Fld_66_0 rfl) rfl ?_
  refine qq (q_load1 T1_9 rfl (fun w1 hw => hw.rgO (i := 0) rfl 0 1 [.string p0.Name] rfl)) rfl ?_
  obtain ⟨x2, hx2, h⟩ := bind_some h
  refine qp (p_call Fun_137 rfl (fun w1 hw => m_s_NameOk_ok hw.fro N p0.Name hx2)) rfl ?_
  refine qq (q_move rfl) rfl ?_
  obtain ⟨b1, hb_1, h⟩ := bind_some h
  refine WQ.cutN 4 [(13, .bool b1), (1, .pointer (some ⟨b_1, 0, none⟩)), (3, v1)] ?_ (fun K => ?_)
  rotate_left
  · refine WQ.split (d := 9) rfl (fun c1 => ?_) (fun c1 => ?_)
    · replace hb_1 := ite_t hb_1 c1
      refine WQ.yes rfl rfl ?_
      refine qq (q_fieldAddr Fld_66_1 rfl) rfl ?_
      refine WQ.yes rfl rfl ?_
      refine qq (q_load1 T1_3 rfl (fun w1 hw => hw.rgO (i := 0) rfl 1 1 [.int .i64 p0.Sal] rfl)) rfl ?_
      refine WQ.yes rfl rfl ?_
      obtain ⟨x3, hx3, hb_1⟩ := bind_some hb_1
      refine qp (p_call Fun_138 rfl (fun w1 hw => m_s_l1In_ok hw.fro N p0.Sal (-100) 100 hx3)) rfl ?_
      refine WQ.q (q_pick1 rfl rfl) rfl rfl rfl ?_
      cases hb_1
      exact WQ.keep (by exact ⟨rfl, rfl, rfl, trivial⟩) K
    · replace hb_1 := ite_f hb_1 c1
      refine WQ.no rfl rfl rfl rfl ?_
      refine WQ.no rfl rfl rfl rfl ?_
      refine WQ.no rfl rfl rfl rfl ?_
      refine WQ.q (q_pick0 rfl rfl) rfl rfl rfl ?_
      cases hb_1
      exact WQ.keep (by exact ⟨rfl, rfl, rfl, trivial⟩) K
  refine qq (q_move rfl) rfl ?_
  obtain ⟨b2, hb_2, h⟩ := bind_some h
  refine WQ.cutN 4 [(18, .bool b2), (1, .pointer (some ⟨b_1, 0, none⟩)), (3, v1)] ?_ (fun K => ?_)
  rotate_left
  · refine WQ.split (d := 14) rfl (fun c2 => ?_) (fun c2 => ?_)
    · replace hb_2 := ite_t hb_2 c2
      refine WQ.yes rfl rfl ?_
      refine qq (q_fieldAddr Fld_66_2 rfl) rfl ?_
      refine WQ.yes rfl rfl ?_
      refine qq (q_load1 T1_62 rfl (fun w1 hw => hw.rgO (i := 0) rfl 2 1 [pv0_0] rfl)) rfl ?_
      refine WQ.yes rfl rfl ?_
      obtain ⟨x4, hx4, hb_2⟩ := bind_some hb_2
      refine qp (p_call Fun_143 rfl (fun w1 hw => m_s_l9Pats_ok hw.fro N p0.Pats ph0_0 hx4)) rfl ?_
      refine WQ.q (q_pick1 rfl rfl) rfl rfl rfl ?_
      cases hb_2
      exact WQ.keep (by exact ⟨rfl, rfl, rfl, trivial⟩) K
    · replace hb_2 := ite_f hb_2 c2
      refine WQ.no rfl rfl rfl rfl ?_
      refine WQ.no rfl rfl rfl rfl ?_
      refine WQ.no rfl rfl rfl rfl ?_
      refine WQ.q (q_pick0 rfl rfl) rfl rfl rfl ?_
      cases hb_2
      exact WQ.keep (by exact ⟨rfl, rfl, rfl, trivial⟩) K
  refine qq (q_move rfl) rfl ?_
  obtain ⟨b3, hb_3, h⟩ := bind_some h
  refine WQ.cutN 5 [(24, .bool b3), (1, .pointer (some ⟨b_1, 0, none⟩)), (3, v1)] ?_ (fun K => ?_)
  rotate_left
  · refine WQ.split (d := 19) rfl (fun c3 => ?_) (fun c3 => ?_)
    · replace hb_3 := ite_t hb_3 c3
      refine WQ.yes rfl rfl ?_
      refine qq (q_fieldAddr Fld_66_3 rfl) rfl ?_
      refine WQ.yes rfl rfl ?_
      refine qq (q_load1 T1_63 rfl (fun w1 hw => hw.rgO (i := 0) rfl 3 1 [pv0_1] rfl)) rfl ?_
      refine WQ.yes rfl rfl ?_
      refine qq (q_move rfl) rfl ?_
      refine WQ.yes rfl rfl ?_
      obtain ⟨x5, hx5, hb_3⟩ := bind_some hb_3
      refine qp (p_call Fun_144 rfl (fun w1 hw => m_s_l9Conds_ok hw.fro N p0.Conds x1 ph0_1 h1.rsl hx5)) rfl ?_
      refine WQ.q (q_pick1 rfl rfl) rfl rfl rfl ?_
      cases hb_3
      exact WQ.keep (by exact ⟨rfl, rfl, rfl, trivial⟩) K
    · replace hb_3 := ite_f hb_3 c3
      refine WQ.no rfl rfl rfl rfl ?_
      refine WQ.no rfl rfl rfl rfl ?_
      refine WQ.no rfl rfl rfl rfl ?_
      refine WQ.no rfl rfl rfl rfl ?_
      refine WQ.q (q_pick0 rfl rfl) rfl rfl rfl ?_
      cases hb_3
      exact WQ.keep (by exact ⟨rfl, rfl, rfl, trivial⟩) K
  refine qq (q_move rfl) rfl ?_
  obtain ⟨b4, hb_4, h⟩ := bind_some h
  refine WQ.cutN 7 [(32, .bool b4)] ?_ (fun K => ?_)
  rotate_left
  · refine WQ.split (d := 25) rfl (fun c4 => ?_) (fun c4 => ?_)
    · replace hb_4 := ite_t hb_4 c4
      refine WQ.yes rfl rfl ?_
      refine qq (q_fieldAddr Fld_66_4 rfl) rfl ?_
      refine WQ.yes rfl rfl ?_
      refine qq (q_load1 T1_64 rfl (fun w1 hw => hw.rgO (i := 0) rfl 4 1 [pv0_2] rfl)) rfl ?_
      refine WQ.yes rfl rfl ?_
      refine qq (q_move rfl) rfl ?_
      refine WQ.yes rfl rfl ?_
      refine qq (q_loadN Tn_66 rfl (fun w1 hw => hw.rgO (i := 0) rfl 0 5 [.string p0.Name, .int .i64 p0.Sal, pv0_0, pv0_1, pv0_2] rfl) rfl) rfl ?_
      refine WQ.yes rfl rfl ?_
      obtain ⟨x6, hx6, hb_4⟩ := bind_some hb_4
      refine qp (p_call Fun_146 rfl (fun w1 hw => m_s_PosCount_ok hw.fro N p0 ph0_0 ph0_1 ph0_2 hx6)) rfl ?_
      refine WQ.yes rfl rfl ?_
      obtain ⟨x7, hx7, hb_4⟩ := bind_some hb_4
      refine qp (p_call Fun_145 rfl (fun w1 hw => m_s_l9Acts_ok hw.fro N p0.Acts x1 x6 ph0_2 h1.rsl hx7)) rfl ?_
      refine WQ.q (q_pick1 rfl rfl) rfl rfl rfl ?_
      cases hb_4
      exact WQ.keep (by exact ⟨rfl, trivial⟩) K
    · replace hb_4 := ite_f hb_4 c4
      refine WQ.no rfl rfl rfl rfl ?_
      refine WQ.no rfl rfl rfl rfl ?_
      refine WQ.no rfl rfl rfl rfl ?_
      refine WQ.no rfl rfl rfl rfl ?_
      refine WQ.no rfl rfl rfl rfl ?_
      refine WQ.no rfl rfl rfl rfl ?_
      refine WQ.q (q_pick0 rfl rfl) rfl rfl rfl ?_
      cases hb_4
      exact WQ.keep (by exact ⟨rfl, trivial⟩) K
  refine qq (q_assign rfl) rfl ?_
  refine WQ.nil ?_
  refine WT.ret Try.func66 (resOk.one rfl) (fun w1 hw => ?_)
  cases h
  exact post_of_St hw
theorem m_sl_Index_Sstring_string_ok {Φ : Hp} {w : World} (hΦ : In Φ w) (N : Nat) (p0 : (List ByteArray)) (p1 : ByteArray) {pv0 : Value} {pG0 : List Nat} (ph0 : RSl RS 1 Φ pG0 pv0 p0) {r : Int} (h : m_sl_Index_Sstring_string N p0 p1 = some r) :
    Calls Try.prog 220 [pv0, .string p1].toArray w (Post (.int .i64 r) w) := by
  refine enter Try.func220 rfl Try.ntmps220 rfl (St.start0 hΦ) ?_
  generalize hb0 : (⟨w, [], Φ⟩ : Base) = w0
  unfold m_sl_Index_Sstring_string at h
  refine WT.seq ?_
  refine WT.region ?_
  refine lq (q_assign rfl) rfl ?_
  refine WL.nil ?_
  refine WT.seq ?_
  refine WT.seq ?_
  refine WT.region ?_
  refine lq (q_move rfl) rfl ?_
  refine lq (q_lenR Sl_60 rfl rfl ph0) rfl ?_
  refine lq (q_move rfl) rfl ?_
  refine WL.nil ?_
  refine WT.block ?_
  refine WT.loop ?_
  refine WT.mono (l' := [(0, pv0), (1, .string p1), (7, .int .i64 (p0.length : Int)), (8, .int .i64 0)]) (S' := St w0 Φ [] []) ⟨rfl, rfl, rfl, rfl, trivial⟩ (fun w1 hw => (hw.sel (js := []) rfl).selO (js := []) rfl) ?_
  refine loop_ind (σ := Int) (fun s => [(0, pv0), (1, .string p1), (7, .int .i64 (p0.length : Int)), (8, .int .i64 s)]) (fun s => St w0 Φ [] []) (fun m s => m_sl_Index_Sstring_string_l1 N p0 p1 m s = some r) (fun s hm => none_ne (show (none : Option (Int)) = some r from hm)) (fun n1 ih1 s hm => ?_) N (0) h
  revert hm; revert s; intro s1 hm
  have h : m_sl_Index_Sstring_string_l1 N p0 p1 (n1 + 1) s1 = some r := hm
  show WT _ _ [(0, pv0), (1, .string p1), (7, .int .i64 (p0.length : Int)), (8, .int .i64 s1)] (St w0 Φ [] [])
  unfold m_sl_Index_Sstring_string_l1 at h
  refine WT.seq ?_
  refine WT.region ?_
  refine lq (q_lss rfl rfl) rfl ?_
  refine WL.nil ?_
  refine WT.seq ?_
  refine WT.cond rfl (fun c1 => ?_) (fun c1 => ?_)
  · replace h := ite_t h c1
    refine WT.skip ?_
    refine WT.seq ?_
    refine WT.block ?_
    refine WT.seq ?_
    refine WT.region ?_
    refine lq (q_move rfl) rfl ?_
    refine lq (q_assign rfl) rfl ?_
    refine WL.nil ?_
    refine WT.seq ?_
    refine WT.region ?_
    refine lq (q_move rfl) rfl ?_
    refine lq (q_move rfl) rfl ?_
    refine lq (q_move rfl) rfl ?_
    obtain ⟨x1, hx1, h⟩ := bind_some h
    obtain ⟨cs1, F1, -, g1, hb1, hs1, r1⟩ := ph0.el (idx_some hx1).2.2
    obtain ⟨rfl, -⟩ := r1
    refine lq (q_indexAddr Sl_60 rfl rfl ph0 hx1) rfl ?_
    refine lq (q_load1 T1_9 rfl (fun w1 hw => (g1.of_eq 0 1 rfl rfl : rg _ _ _ [.string x1]).rangeAt hw.fro)) rfl ?_
    refine lq (q_seq rfl rfl) rfl ?_
    refine WL.nil ?_
    refine WT.cond rfl (fun c2 => ?_) (fun c2 => ?_)
    · replace h := ite_t h c2
      refine WT.seq ?_
      refine WT.region ?_
      refine lq (q_move rfl) rfl ?_
      refine lq (q_assign rfl) rfl ?_
      refine WL.nil ?_
      refine WT.ret Try.func220 (resOk.one rfl) (fun w1 hw => ?_)
      subst hb0
      cases h
      exact post_of_St hw
    replace h := ite_f h c2
    refine WT.skip ?_
    refine WT.inBlock ?_
    refine WT.region ?_
    refine lq (q_add rfl rfl) rfl ?_
    refine lq (q_move rfl) rfl ?_
    refine WL.nil ?_
    refine WT.inLoop (WT.mono (l' := [(0, pv0), (1, .string p1), (7, .int .i64 (p0.length : Int)), (8, .int .i64 (IntKind.i64.wrap (s1 + 1)))]) (S' := St w0 Φ [] []) ⟨rfl, rfl, rfl, rfl, trivial⟩ (fun w1 hw => (hw.sel (js := []) rfl).selO (js := []) rfl) ?_)
    exact ih1 (IntKind.i64.wrap (s1 + 1)) h
  replace h := ite_f h c1
  refine WT.exit rfl ?_
  refine WT.seq ?_
  refine WT.region ?_
  refine lq (q_assign rfl) rfl ?_
  refine WL.nil ?_
  refine WT.ret Try.func220 (resOk.one rfl) (fun w1 hw => ?_)
  subst hb0
  cases h
  exact post_of_St hw
theorem m_sl_Contains_Sstring_string_ok {Φ : Hp} {w : World} (hΦ : In Φ w) (N : Nat) (p0 : (List ByteArray)) (p1 : ByteArray) {pv0 : Value} {pG0 : List Nat} (ph0 : RSl RS 1 Φ pG0 pv0 p0) {r : Bool} (h : m_sl_Contains_Sstring_string N p0 p1 = some r) :
    Calls Try.prog 153 [pv0, .string p1].toArray w (Post (.bool r) w) := by
  refine enter Try.func153 rfl Try.ntmps153 rfl (St.start0 hΦ) ?_
  unfold m_sl_Contains_Sstring_string at h
  refine WT.seq ?_
  refine WT.region ?_
  refine lq (q_assign rfl) rfl ?_
  refine WL.nil ?_
  refine WT.seq ?_
  refine WT.region ?_
  refine lq (q_move rfl) rfl ?_
  refine lq (q_move rfl) rfl ?_
  obtain ⟨x1, hx1, h⟩ := bind_some h
  refine lp (p_call Fun_220 rfl (fun w1 hw => m_sl_Index_Sstring_string_ok hw.fro N p0 p1 ph0 hx1)) rfl ?_
  refine lq (q_geq rfl rfl) rfl ?_
  refine lq (q_assign rfl) rfl ?_
  refine WL.nil ?_
  refine WT.ret Try.func153 (resOk.one rfl) (fun w1 hw => ?_)
  cases h
  exact post_of_St hw
theorem m_i_addOnce_ok {Φ : Hp} {w : World} (hΦ : In Φ w) (N : Nat) (p0 : (List ByteArray)) (p1 : ByteArray) {pv0 : Value} (ph0 : OSl RS 9 1 Φ [] pv0 p0) (hB : [ob pv0].flatten.Nodup) (hlt : ∀ k ∈ [ob pv0].flatten, k < w.heap.size) {r : (List ByteArray)} (h : m_i_addOnce N p0 p1 = some r) :
    Calls Try.prog 97 [pv0, .string p1].toArray w (PostG Φ w [ob pv0].flatten (fun Φ' Fs v => ∃ (sr_0_0 : Value), v = sr_0_0 ∧ Fs = [ob sr_0_0] ∧ OSl RS 9 1 Φ' [] sr_0_0 r)) := by
  refine enter Try.func97 rfl Try.ntmps97 rfl (St.start hΦ [ob pv0] hB hlt) ?_
  unfold m_i_addOnce at h
  refine WT.seq ?_
  refine WT.region ?_
  refine lq (q_assign rfl) rfl ?_
  refine WL.nil ?_
  refine WT.seq ?_
  refine WT.seq ?_
  refine WT.region ?_
  refine lq (q_move rfl) rfl ?_
  refine lq (q_move rfl) rfl ?_
  obtain ⟨x1, hx1, h⟩ := bind_some h
  refine lp (p_call Fun_153 rfl (fun w1 hw => m_sl_Contains_Sstring_string_ok hw.fro N p0 p1 ph0.rsl hx1)) rfl ?_
  refine WL.nil ?_
  refine WT.cond rfl (fun c1 => ?_) (fun c1 => ?_)
  · replace h := ite_t h c1
    refine WT.seq ?_
    refine WT.region ?_
    refine lq (q_move rfl) rfl ?_
    refine lq (q_assign rfl) rfl ?_
    refine WL.nil ?_
    refine WT.ret Try.func97 (resOk.one rfl) (fun w1 hw => ?_)
    cases h
    refine postG_of_St (js := [0]) hw rfl ⟨pv0, rfl, rfl, ph0⟩
  replace h := ite_f h c1
  refine WT.skip ?_
  refine WT.seq ?_
  refine WT.region ?_
  refine lq (q_move rfl) rfl ?_
  refine lq (q_move rfl) rfl ?_
  have rc1 : RC RS 1 Φ ([[]] : List (List Nat)) [.string p1] ([p1] : List ByteArray) := RC.cons (c := [.string p1]) (cells := []) ⟨rfl, rfl⟩ rfl (RC.nil _ _ _)
  refine le' (e_lit (vs := [(0, .string p1)]) (C := #[.string p1]) RS.lasts Sl_60 Zr_9 rfl rfl rfl rfl (fill_made MC_9_1 (fill_cons (cells := [.string ⟨#[]⟩]) (c := [.string p1]) (C' := [.string p1]) rfl rfl rfl rfl rfl (fill_nil))) rfl rc1 rfl (by simpa using Kw.nil)) rfl (fun v1 Φ_1 D1 q1 => ?_)
  obtain ⟨fr1, h1⟩ := q1
  replace h1 : OSl RS 9 1 Φ_1 [] v1 ([p1] : List ByteArray) := by simpa using h1
  replace ph0 := ph0.frame RS.lasts fr1 (Dj.empty _) (Dj.empty _)
  obtain ⟨x2, hx2, h⟩ := bind_some h
  refine le' (e_appF RS.lasts RS.one RS.flat Sl_60 Ei_9 rfl rfl rfl rfl rfl (js := [1]) (Rr := [ob v1]) rfl ph0 h1.rsl hx2) rfl (fun v2 Φ_2 D2 q2 => ?_)
  obtain ⟨⟨ap1, fr2⟩, h2⟩ := q2
  refine lq (q_assign rfl) rfl ?_
  refine WL.nil ?_
  refine WT.ret Try.func97 (resOk.one rfl) (fun w1 hw => ?_)
  cases h
  refine postG_of_St (js := [0]) hw rfl ⟨v2, rfl, rfl, h2⟩
theorem m_i_addVars_ok {Φ : Hp} {w : World} (hΦ : In Φ w) (N : Nat) (p0 : (List ByteArray)) (p1 : (List TArg)) {pv0 : Value} {pv1 : Value} {pG1 : List Nat} (ph0 : OSl RS 9 1 Φ [] pv0 p0) (ph1 : RSl RTArg 5 Φ pG1 pv1 p1) (pd1 : Dj pG1 [ob pv0].flatten) (hB : [ob pv0].flatten.Nodup) (hlt : ∀ k ∈ [ob pv0].flatten, k < w.heap.size) {r : (List ByteArray)} (h : m_i_addVars N p0 p1 = some r) :
    Calls Try.prog 121 [pv0, pv1].toArray w (PostG Φ w [ob pv0].flatten (fun Φ' Fs v => ∃ (sr_0_0 : Value), v = sr_0_0 ∧ Fs = [ob sr_0_0] ∧ OSl RS 9 1 Φ' [] sr_0_0 r)) := by
  refine enter Try.func121 rfl Try.ntmps121 rfl (St.start hΦ [ob pv0] hB hlt) ?_
  have pa1 : Old ⟨w, [ob pv0].flatten, Φ⟩ pG1 := Old.mk hΦ ph1.kn pd1
  revert pa1
  generalize hb0 : (⟨w, [ob pv0].flatten, Φ⟩ : Base) = w0
  intro pa1
  unfold m_i_addVars at h
  refine WT.seq ?_
  refine WT.region ?_
  refine lq (q_assign rfl) rfl ?_
  refine WL.nil ?_
  refine WT.seq ?_
  refine WT.seq ?_
  refine WT.region ?_
  refine lq (q_move rfl) rfl ?_
  refine lq (q_lenR Sl_119 rfl rfl ph1) rfl ?_
  refine lq (q_move rfl) rfl ?_
  refine WL.nil ?_
  refine WT.block ?_
  refine WT.loop ?_
  refine WT.mono (l' := [(0, pv0), (7, pv1), (8, .int .i64 (p1.length : Int)), (9, .int .i64 0)]) (S' := St w0 Φ [] [ob pv0]) ⟨rfl, rfl, rfl, rfl, trivial⟩ (fun w1 hw => (hw.sel (js := [0]) rfl).selO (js := []) rfl) ?_
  refine loop_ind (σ := Hp × (List ByteArray) × Value × Int) (fun s => [(0, s.2.2.1), (7, pv1), (8, .int .i64 (p1.length : Int)), (9, .int .i64 s.2.2.2)]) (fun s => St w0 s.1 [] [ob s.2.2.1]) (fun m s => m_i_addVars_l1 N p1 m s.2.1 s.2.2.2 = some r ∧ (OSl RS 9 1 s.1 [] s.2.2.1 s.2.1) ∧ (RSl RTArg 5 s.1 pG1 pv1 p1)) (fun s hm => none_ne (show (none : Option ((List ByteArray))) = some r from hm.1)) (fun n1 ih1 s hm => ?_) N (Φ, p0, pv0, 0) ⟨h, ph0, ph1⟩
  obtain ⟨Φ_1, s1, u1, s2⟩ := s
  obtain ⟨h, k1, ph1⟩ := hm
  replace h : m_i_addVars_l1 N p1 (n1 + 1) s1 s2 = some r := h
  replace k1 : OSl RS 9 1 Φ_1 [] u1 s1 := k1
  replace ph1 : RSl RTArg 5 Φ_1 pG1 pv1 p1 := ph1
  show WT _ _ [(0, u1), (7, pv1), (8, .int .i64 (p1.length : Int)), (9, .int .i64 s2)] (St w0 Φ_1 [] [ob u1])
  unfold m_i_addVars_l1 at h
  refine WT.seq ?_
  refine WT.region ?_
  refine lq (q_lss rfl rfl) rfl ?_
  refine WL.nil ?_
  refine WT.seq ?_
  refine WT.cond rfl (fun c1 => ?_) (fun c1 => ?_)
  · replace h := ite_t h c1
    refine WT.skip ?_
    refine WT.seq ?_
    refine WT.block ?_
    refine WT.seq ?_
    refine WT.region ?_
    obtain ⟨x1, hx1, h⟩ := bind_some h
    obtain ⟨cs1, F1, -, g1, hb1, hs1, r1⟩ := ph1.el (idx_some hx1).2.2
    obtain ⟨rfl, -⟩ := r1
    refine lq (q_indexAddr Sl_119 rfl rfl ph1 hx1) rfl ?_
    refine lq (q_loadN Tn_206 rfl (fun w1 hw => (g1.of_eq 0 5 rfl rfl : rg _ _ _ [.int .i64 x1.K, .string x1.S, .int .i64 x1.V.K, .int .i64 x1.V.N, .string x1.V.S]).rangeAt hw.fro) rfl) rfl ?_
    refine ln (n_alloc (C := #[.int .i64 0, .string (⟨#[]⟩ : ByteArray), .int .i64 0, .int .i64 0, .string (⟨#[]⟩ : ByteArray)]) Zr_206 rfl) rfl (fun b_1 => ?_)
    refine ls (s_store (i := 0) (vs := [.int .i64 x1.K, .string x1.S, .int .i64 x1.V.K, .int .i64 x1.V.N, .string x1.V.S]) (C' := [.int .i64 x1.K, .string x1.S, .int .i64 x1.V.K, .int .i64 x1.V.N, .string x1.V.S]) (O' := [(b_1, .cells #[.int .i64 x1.K, .string x1.S, .int .i64 x1.V.K, .int .i64 x1.V.N, .string x1.V.S] 206 (0, 0))]) Sz_206 rfl rfl rfl rfl rfl rfl ⟨rfl, rfl, rfl, rfl, rfl, trivial⟩ rfl rfl) rfl ?_
    refine WL.nil ?_
    refine WT.seq ?_
    refine WT.region ?_
    refine lq (q_fieldAddr Fld_206_0 rfl) rfl ?_
    refine lq (q_load1 T1_3 rfl (fun w1 hw => hw.rgO (i := 0) rfl 0 1 [.int .i64 x1.K] rfl)) rfl ?_
    refine lq (q_eql rfl rfl) rfl ?_
    refine WL.nil ?_
    refine WT.cond rfl (fun c2 => ?_) (fun c2 => ?_)
    · replace h := ite_t h c2
      refine WT.region ?_
      refine lq (q_move rfl) rfl ?_
      refine lq (q_fieldAddr Fld_206_1 rfl) rfl ?_
      refine lq (q_load1 T1_9 rfl (fun w1 hw => hw.rgO (i := 0) rfl 1 1 [.string x1.S] rfl)) rfl ?_
      obtain ⟨x2, hx2, h⟩ := bind_some h
      refine lc (k_call (js := [0]) (R := []) Fun_97 rfl rfl (fun w1 hw ap hl => m_i_addOnce_ok hw.fro N s1 x1.S k1 ap.nd hl hx2)) rfl (fun v1 Φ_2 F2 q1 => ?_)
      obtain ⟨ap1, fr1, v2, rfl, rfl, h1⟩ := q1
      replace ph1 := ph1.frame RTArg.lasts fr1 (ap1.o pa1)
      refine lq (q_assign rfl) rfl ?_
      refine WL.nil ?_
      refine WT.inBlock ?_
      refine WT.region ?_
      refine lq (q_add rfl rfl) rfl ?_
      refine lq (q_move rfl) rfl ?_
      refine WL.nil ?_
      refine WT.inLoop (WT.mono (l' := [(0, v1), (7, pv1), (8, .int .i64 (p1.length : Int)), (9, .int .i64 (IntKind.i64.wrap (s2 + 1)))]) (S' := St w0 Φ_2 [] [ob v1]) ⟨rfl, rfl, rfl, rfl, trivial⟩ (fun w1 hw => (hw.sel (js := [0]) rfl).selO (js := []) rfl) ?_)
      exact ih1 (Φ_2, x2, v1, IntKind.i64.wrap (s2 + 1)) ⟨h, h1, ph1⟩
    replace h := ite_f h c2
    refine WT.skip ?_
    refine WT.inBlock ?_
    refine WT.region ?_
    refine lq (q_add rfl rfl) rfl ?_
    refine lq (q_move rfl) rfl ?_
    refine WL.nil ?_
    refine WT.inLoop (WT.mono (l' := [(0, u1), (7, pv1), (8, .int .i64 (p1.length : Int)), (9, .int .i64 (IntKind.i64.wrap (s2 + 1)))]) (S' := St w0 Φ_1 [] [ob u1]) ⟨rfl, rfl, rfl, rfl, trivial⟩ (fun w1 hw => (hw.sel (js := [0]) rfl).selO (js := []) rfl) ?_)
    exact ih1 (Φ_1, s1, u1, IntKind.i64.wrap (s2 + 1)) ⟨h, k1, ph1⟩
  replace h := ite_f h c1
  refine WT.exit rfl ?_
  refine WT.seq ?_
  refine WT.region ?_
  refine lq (q_move rfl) rfl ?_
  refine lq (q_assign rfl) rfl ?_
  refine WL.nil ?_
  refine WT.ret Try.func121 (resOk.one rfl) (fun w1 hw => ?_)
  subst hb0
  cases h
  refine postG_of_St (js := [0]) hw rfl ⟨u1, rfl, rfl, k1⟩
theorem m_i_PosVars_ok {Φ : Hp} {w : World} (hΦ : In Φ w) (N : Nat) (p0 : TRule) {pv0_0 : Value} {pG0_0 : List Nat} {pv0_1 : Value} {pG0_1 : List Nat} {pv0_2 : Value} {pG0_2 : List Nat} (ph0_0 : RSl RTPat 3 Φ pG0_0 pv0_0 p0.Pats) (ph0_1 : RSl RTCond 11 Φ pG0_1 pv0_1 p0.Conds) (ph0_2 : RSl RTAct 5 Φ pG0_2 pv0_2 p0.Acts) {r : (List ByteArray)} (h : m_i_PosVars N p0 = some r) :
    Calls Try.prog 46 [.agg [.string p0.Name, .int .i64 p0.Sal, pv0_0, pv0_1, pv0_2].toArray].toArray w (PostG Φ w [] (fun Φ' Fs v => ∃ (sr_0_0 : Value), v = sr_0_0 ∧ Fs = [ob sr_0_0] ∧ OSl RS 9 1 Φ' [] sr_0_0 r)) := by
  refine enter Try.func46 rfl Try.ntmps46 rfl (St.start0 hΦ) ?_
  have pa0_0 : Old ⟨w, [], Φ⟩ pG0_0 := Old.mk hΦ ph0_0.kn (Dj.empty _)
  revert pa0_0
  generalize hb0 : (⟨w, [], Φ⟩ : Base) = w0
  intro pa0_0
  unfold m_i_PosVars at h
  refine WT.seq ?_
  refine WT.region ?_
  refine ln (n_box (C := #[.string p0.Name, .int .i64 p0.Sal, pv0_0, pv0_1, pv0_2]) rfl rfl) rfl (fun b_1 => ?_)
  refine lq (q_assign rfl) rfl ?_
  refine WL.nil ?_
  refine WT.seq ?_
  refine WT.region ?_
  refine lq (q_assign rfl) rfl ?_
  refine WL.nil ?_
  refine WT.seq ?_
  refine WT.seq ?_
  refine WT.region ?_
  refine lq (q_fieldAddr Fld_66_2 rfl) rfl ?_
  refine lq (q_load1 T1_62 rfl (fun w1 hw => hw.rgO (i := 0) rfl 2 1 [pv0_0] rfl)) rfl ?_
  refine lq (q_lenR Sl_62 rfl rfl ph0_0) rfl ?_
  refine lq (q_move rfl) rfl ?_
  refine WL.nil ?_
  refine WT.block ?_
  refine WT.loop ?_
  refine WT.conv (S' := St w0 Φ [(b_1, .cells #[.string p0.Name, .int .i64 p0.Sal, pv0_0, pv0_1, pv0_2] 66 (0, 0))] (ob (.slice none 0 0) :: [])) (fun w1 hw => hw.addNil) ?_
  have k1 := OSl.nil RS 9 1 Φ
  refine WT.mono (l' := [(3, (.slice none 0 0)), (7, pv0_0), (8, .int .i64 (p0.Pats.length : Int)), (9, .int .i64 0)]) (S' := St w0 Φ [] [ob (.slice none 0 0)]) ⟨rfl, rfl, rfl, rfl, trivial⟩ (fun w1 hw => (hw.sel (js := [0]) rfl).selO (js := []) rfl) ?_
  refine loop_ind (σ := Hp × (List ByteArray) × Value × Int) (fun s => [(3, s.2.2.1), (7, pv0_0), (8, .int .i64 (p0.Pats.length : Int)), (9, .int .i64 s.2.2.2)]) (fun s => St w0 s.1 [] [ob s.2.2.1]) (fun m s => m_i_PosVars_l1 N p0 m s.2.1 s.2.2.2 = some r ∧ (OSl RS 9 1 s.1 [] s.2.2.1 s.2.1) ∧ (RSl RTPat 3 s.1 pG0_0 pv0_0 p0.Pats)) (fun s hm => none_ne (show (none : Option ((List ByteArray))) = some r from hm.1)) (fun n1 ih1 s hm => ?_) N (Φ, ([] : List ByteArray), (.slice none 0 0), 0) ⟨h, k1, ph0_0⟩
  obtain ⟨Φ_1, s1, u1, s2⟩ := s
  obtain ⟨h, k2, ph0_0⟩ := hm
  replace h : m_i_PosVars_l1 N p0 (n1 + 1) s1 s2 = some r := h
  replace k2 : OSl RS 9 1 Φ_1 [] u1 s1 := k2
  replace ph0_0 : RSl RTPat 3 Φ_1 pG0_0 pv0_0 p0.Pats := ph0_0
  show WT _ _ [(3, u1), (7, pv0_0), (8, .int .i64 (p0.Pats.length : Int)), (9, .int .i64 s2)] (St w0 Φ_1 [] [ob u1])
  unfold m_i_PosVars_l1 at h
  refine WT.seq ?_
  refine WT.region ?_
  refine lq (q_lss rfl rfl) rfl ?_
  refine WL.nil ?_
  refine WT.seq ?_
  refine WT.cond rfl (fun c1 => ?_) (fun c1 => ?_)
  · replace h := ite_t h c1
    refine WT.skip ?_
    refine WT.seq ?_
    refine WT.block ?_
    refine WT.seq ?_
    refine WT.region ?_
    obtain ⟨x1, hx1, h⟩ := bind_some h
    obtain ⟨cs1, F1, -, g1, hb1, hs1, r1⟩ := ph0_0.el (idx_some hx1).2.2
    obtain ⟨v1, G1, rfl, hq1, h1⟩ := r1
    obtain rfl := hq1.symm
    refine lq (q_indexAddr Sl_62 rfl rfl ph0_0 hx1) rfl ?_
    refine lq (q_loadN Tn_121 rfl (fun w1 hw => (g1.of_eq 0 3 rfl rfl : rg _ _ _ [.string x1.Kind, v1, .bool x1.Not]).rangeAt hw.fro) rfl) rfl ?_
    refine ln (n_alloc (C := #[.string (⟨#[]⟩ : ByteArray), .slice none 0 0, .bool false]) Zr_121 rfl) rfl (fun b_2 => ?_)
    refine ls (s_store (i := 0) (vs := [.string x1.Kind, v1, .bool x1.Not]) (C' := [.string x1.Kind, v1, .bool x1.Not]) (O' := [(b_2, .cells #[.string x1.Kind, v1, .bool x1.Not] 121 (0, 0))]) Sz_121 rfl rfl rfl rfl rfl rfl ⟨rfl, h1.one, rfl, trivial⟩ rfl rfl) rfl ?_
    refine WL.nil ?_
    refine WT.seq ?_
    refine WT.region ?_
    refine lq (q_fieldAddr Fld_121_2 rfl) rfl ?_
    refine lq (q_load1 T1_4 rfl (fun w1 hw => hw.rgO (i := 0) rfl 2 1 [.bool x1.Not] rfl)) rfl ?_
    refine lq (q_not rfl) rfl ?_
    refine WL.nil ?_
    refine WT.cond rfl (fun c2 => ?_) (fun c2 => ?_)
    · replace h := ite_t h c2
      refine WT.region ?_
      refine lq (q_move rfl) rfl ?_
      refine lq (q_fieldAddr Fld_121_1 rfl) rfl ?_
      refine lq (q_load1 T1_119 rfl (fun w1 hw => hw.rgO (i := 0) rfl 1 1 [v1] rfl)) rfl ?_
      obtain ⟨x2, hx2, h⟩ := bind_some h
      refine lc (k_call (js := [0]) (R := []) Fun_121 rfl rfl (fun w1 hw ap hl => m_i_addVars_ok hw.fro N s1 x1.Args k2 h1 (Dj.sub (ap.o pa0_0) (fun k h => hs1 k h)) ap.nd hl hx2)) rfl (fun v2 Φ_2 F2 q1 => ?_)
      obtain ⟨ap1, fr1, v3, rfl, rfl, h2⟩ := q1
      replace ph0_0 := ph0_0.frame RTPat.lasts fr1 (ap1.o pa0_0)
      refine lq (q_assign rfl) rfl ?_
      refine WL.nil ?_
      refine WT.inBlock ?_
      refine WT.region ?_
      refine lq (q_add rfl rfl) rfl ?_
      refine lq (q_move rfl) rfl ?_
      refine WL.nil ?_
      refine WT.inLoop (WT.mono (l' := [(3, v2), (7, pv0_0), (8, .int .i64 (p0.Pats.length : Int)), (9, .int .i64 (IntKind.i64.wrap (s2 + 1)))]) (S' := St w0 Φ_2 [] [ob v2]) ⟨rfl, rfl, rfl, rfl, trivial⟩ (fun w1 hw => (hw.sel (js := [0]) rfl).selO (js := []) rfl) ?_)
      exact ih1 (Φ_2, x2, v2, IntKind.i64.wrap (s2 + 1)) ⟨h, h2, ph0_0⟩
    replace h := ite_f h c2
    refine WT.skip ?_
    refine WT.inBlock ?_
    refine WT.region ?_
    refine lq (q_add rfl rfl) rfl ?_
    refine lq (q_move rfl) rfl ?_
    refine WL.nil ?_
    refine WT.inLoop (WT.mono (l' := [(3, u1), (7, pv0_0), (8, .int .i64 (p0.Pats.length : Int)), (9, .int .i64 (IntKind.i64.wrap (s2 + 1)))]) (S' := St w0 Φ_1 [] [ob u1]) ⟨rfl, rfl, rfl, rfl, trivial⟩ (fun w1 hw => (hw.sel (js := [0]) rfl).selO (js := []) rfl) ?_)
    exact ih1 (Φ_1, s1, u1, IntKind.i64.wrap (s2 + 1)) ⟨h, k2, ph0_0⟩
  replace h := ite_f h c1
  refine WT.exit rfl ?_
  refine WT.seq ?_
  refine WT.region ?_
  refine lq (q_move rfl) rfl ?_
  refine lq (q_assign rfl) rfl ?_
  refine WL.nil ?_
  refine WT.ret Try.func46 (resOk.one rfl) (fun w1 hw => ?_)
  subst hb0
  cases h
  refine postG_of_St (js := [0]) hw rfl ⟨u1, rfl, rfl, k2⟩
theorem m_i_PosCount_ok {Φ : Hp} {w : World} (hΦ : In Φ w) (N : Nat) (p0 : TRule) {pv0_0 : Value} {pG0_0 : List Nat} {pv0_1 : Value} {pG0_1 : List Nat} {pv0_2 : Value} {pG0_2 : List Nat} (ph0_0 : RSl RTPat 3 Φ pG0_0 pv0_0 p0.Pats) (ph0_1 : RSl RTCond 11 Φ pG0_1 pv0_1 p0.Conds) (ph0_2 : RSl RTAct 5 Φ pG0_2 pv0_2 p0.Acts) {r : Int} (h : m_i_PosCount N p0 = some r) :
    Calls Try.prog 64 [.agg [.string p0.Name, .int .i64 p0.Sal, pv0_0, pv0_1, pv0_2].toArray].toArray w (Post (.int .i64 r) w) := by
  refine enter Try.func64 rfl Try.ntmps64 rfl (St.start0 hΦ) ?_
  generalize hb0 : (⟨w, [], Φ⟩ : Base) = w0
  unfold m_i_PosCount at h
  refine WT.seq ?_
  refine WT.region ?_
  refine ln (n_box (C := #[.string p0.Name, .int .i64 p0.Sal, pv0_0, pv0_1, pv0_2]) rfl rfl) rfl (fun b_1 => ?_)
  refine lq (q_assign rfl) rfl ?_
  refine WL.nil ?_
  refine WT.seq ?_
  refine WT.region ?_
  refine lq (q_assign rfl) rfl ?_
  refine WL.nil ?_
  refine WT.seq ?_
  refine WT.seq ?_
  refine WT.region ?_
  refine lq (q_fieldAddr Fld_66_2 rfl) rfl ?_
  refine lq (q_load1 T1_62 rfl (fun w1 hw => hw.rgO (i := 0) rfl 2 1 [pv0_0] rfl)) rfl ?_
  refine lq (q_lenR Sl_62 rfl rfl ph0_0) rfl ?_
  refine lq (q_move rfl) rfl ?_
  refine WL.nil ?_
  refine WT.block ?_
  refine WT.loop ?_
  refine WT.mono (l' := [(3, .int .i64 0), (7, pv0_0), (8, .int .i64 (p0.Pats.length : Int)), (9, .int .i64 0)]) (S' := St w0 Φ [] []) ⟨rfl, rfl, rfl, rfl, trivial⟩ (fun w1 hw => (hw.sel (js := []) rfl).selO (js := []) rfl) ?_
  refine loop_ind (σ := Int × Int) (fun s => [(3, .int .i64 s.1), (7, pv0_0), (8, .int .i64 (p0.Pats.length : Int)), (9, .int .i64 s.2)]) (fun s => St w0 Φ [] []) (fun m s => m_i_PosCount_l1 N p0 m s.1 s.2 = some r) (fun s hm => none_ne (show (none : Option (Int)) = some r from hm)) (fun n1 ih1 s hm => ?_) N (0, 0) h
  obtain ⟨s1, s2⟩ := s
  have h : m_i_PosCount_l1 N p0 (n1 + 1) s1 s2 = some r := hm
  show WT _ _ [(3, .int .i64 s1), (7, pv0_0), (8, .int .i64 (p0.Pats.length : Int)), (9, .int .i64 s2)] (St w0 Φ [] [])
  unfold m_i_PosCount_l1 at h
  refine WT.seq ?_
  refine WT.region ?_
  refine lq (q_lss rfl rfl) rfl ?_
  refine WL.nil ?_
  refine WT.seq ?_
  refine WT.cond rfl (fun c1 => ?_) (fun c1 => ?_)
  · replace h := ite_t h c1
    refine WT.skip ?_
    refine WT.seq ?_
    refine WT.block ?_
    refine WT.seq ?_
    refine WT.region ?_
    obtain ⟨x1, hx1, h⟩ := bind_some h
    obtain ⟨cs1, F1, -, g1, hb1, hs1, r1⟩ := ph0_0.el (idx_some hx1).2.2
    obtain ⟨v1, G1, rfl, hq1, h1⟩ := r1
    obtain rfl := hq1.symm
    refine lq (q_indexAddr Sl_62 rfl rfl ph0_0 hx1) rfl ?_
    refine lq (q_loadN Tn_121 rfl (fun w1 hw => (g1.of_eq 0 3 rfl rfl : rg _ _ _ [.string x1.Kind, v1, .bool x1.Not]).rangeAt hw.fro) rfl) rfl ?_
    refine ln (n_alloc (C := #[.string (⟨#[]⟩ : ByteArray), .slice none 0 0, .bool false]) Zr_121 rfl) rfl (fun b_2 => ?_)
    refine ls (s_store (i := 0) (vs := [.string x1.Kind, v1, .bool x1.Not]) (C' := [.string x1.Kind, v1, .bool x1.Not]) (O' := [(b_2, .cells #[.string x1.Kind, v1, .bool x1.Not] 121 (0, 0))]) Sz_121 rfl rfl rfl rfl rfl rfl ⟨rfl, h1.one, rfl, trivial⟩ rfl rfl) rfl ?_
    refine WL.nil ?_
    refine WT.seq ?_
    refine WT.region ?_
    refine lq (q_fieldAddr Fld_121_2 rfl) rfl ?_
    refine lq (q_load1 T1_4 rfl (fun w1 hw => hw.rgO (i := 0) rfl 2 1 [.bool x1.Not] rfl)) rfl ?_
    refine lq (q_not rfl) rfl ?_
    refine WL.nil ?_
    refine WT.cond rfl (fun c2 => ?_) (fun c2 => ?_)
    · replace h := ite_t h c2
      refine WT.region ?_
      refine lq (q_move rfl) rfl ?_
      refine lq (q_add rfl rfl) rfl ?_
      refine lq (q_assign rfl) rfl ?_
      refine WL.nil ?_
      refine WT.inBlock ?_
      refine WT.region ?_
      refine lq (q_add rfl rfl) rfl ?_
      refine lq (q_move rfl) rfl ?_
      refine WL.nil ?_
      refine WT.inLoop (WT.mono (l' := [(3, .int .i64 (IntKind.i64.wrap (s1 + 1))), (7, pv0_0), (8, .int .i64 (p0.Pats.length : Int)), (9, .int .i64 (IntKind.i64.wrap (s2 + 1)))]) (S' := St w0 Φ [] []) ⟨rfl, rfl, rfl, rfl, trivial⟩ (fun w1 hw => (hw.sel (js := []) rfl).selO (js := []) rfl) ?_)
      exact ih1 (IntKind.i64.wrap (s1 + 1), IntKind.i64.wrap (s2 + 1)) h
    replace h := ite_f h c2
    refine WT.skip ?_
    refine WT.inBlock ?_
    refine WT.region ?_
    refine lq (q_add rfl rfl) rfl ?_
    refine lq (q_move rfl) rfl ?_
    refine WL.nil ?_
    refine WT.inLoop (WT.mono (l' := [(3, .int .i64 s1), (7, pv0_0), (8, .int .i64 (p0.Pats.length : Int)), (9, .int .i64 (IntKind.i64.wrap (s2 + 1)))]) (S' := St w0 Φ [] []) ⟨rfl, rfl, rfl, rfl, trivial⟩ (fun w1 hw => (hw.sel (js := []) rfl).selO (js := []) rfl) ?_)
    exact ih1 (s1, IntKind.i64.wrap (s2 + 1)) h
  replace h := ite_f h c1
  refine WT.exit rfl ?_
  refine WT.seq ?_
  refine WT.region ?_
  refine lq (q_move rfl) rfl ?_
  refine lq (q_assign rfl) rfl ?_
  refine WL.nil ?_
  refine WT.ret Try.func64 (resOk.one rfl) (fun w1 hw => ?_)
  subst hb0
  cases h
  exact post_of_St hw
theorem m_i_isSmall_ok {Φ : Hp} {w : World} (hΦ : In Φ w) (N : Nat) (p0 : Int)   {r : Bool} (h : m_i_isSmall N p0 = some r) :
    Calls Try.prog 214 [.int .u8 p0].toArray w (Post (.bool r) w) := by
  refine enter Try.func214 rfl Try.ntmps214 rfl (St.start0 hΦ) ?_
  unfold m_i_isSmall at h
  refine WT.seq ?_
  refine WT.region ?_
  refine lq (q_assign rfl) rfl ?_
  refine WL.nil ?_
  refine WT.seq ?_
  refine WT.region ?_
  refine lq (q_move rfl) rfl ?_
  refine lq (q_geq rfl rfl) rfl ?_
  refine lq (q_move rfl) rfl ?_
  obtain ⟨b1, hb_1, h⟩ := bind_some h
  refine WL.cutN 3 [(8, .bool b1), (2, .bool false)] ?_ (fun K => ?_)
  rotate_left
  · refine WL.split (d := 5) rfl (fun c1 => ?_) (fun c1 => ?_)
    · replace hb_1 := ite_t hb_1 c1
      refine WL.yes rfl rfl ?_
      refine lq (q_move rfl) rfl ?_
      refine WL.yes rfl rfl ?_
      refine lq (q_leq rfl rfl) rfl ?_
      refine WL.q (q_pick1 rfl rfl) rfl rfl rfl ?_
      cases hb_1
      exact WL.keep (by exact ⟨rfl, rfl, trivial⟩) K
    · replace hb_1 := ite_f hb_1 c1
      refine WL.no rfl rfl rfl rfl ?_
      refine WL.no rfl rfl rfl rfl ?_
      refine WL.q (q_pick0 rfl rfl) rfl rfl rfl ?_
      cases hb_1
      exact WL.keep (by exact ⟨rfl, rfl, trivial⟩) K
  refine lq (q_assign rfl) rfl ?_
  refine WL.nil ?_
  refine WT.ret Try.func214 (resOk.one rfl) (fun w1 hw => ?_)
  cases h
  exact post_of_St hw
theorem m_i_isDigit_ok {Φ : Hp} {w : World} (hΦ : In Φ w) (N : Nat) (p0 : Int)   {r : Bool} (h : m_i_isDigit N p0 = some r) :
    Calls Try.prog 279 [.int .u8 p0].toArray w (Post (.bool r) w) := by
  refine enter Try.func279 rfl Try.ntmps279 rfl (St.start0 hΦ) ?_
  unfold m_i_isDigit at h
  refine WT.seq ?_
  refine WT.region ?_
  refine lq (q_assign rfl) rfl ?_
  refine WL.nil ?_
  refine WT.seq ?_
  refine WT.region ?_
  refine lq (q_move rfl) rfl ?_
  refine lq (q_geq rfl rfl) rfl ?_
  refine lq (q_move rfl) rfl ?_
  obtain ⟨b1, hb_1, h⟩ := bind_some h
  refine WL.cutN 3 [(8, .bool b1), (2, .bool false)] ?_ (fun K => ?_)
  rotate_left
  · refine WL.split (d := 5) rfl (fun c1 => ?_) (fun c1 => ?_)
    · replace hb_1 := ite_t hb_1 c1
      refine WL.yes rfl rfl ?_
      refine lq (q_move rfl) rfl ?_
      refine WL.yes rfl rfl ?_
      refine lq (q_leq rfl rfl) rfl ?_
      refine WL.q (q_pick1 rfl rfl) rfl rfl rfl ?_
      cases hb_1
      exact WL.keep (by exact ⟨rfl, rfl, trivial⟩) K
    · replace hb_1 := ite_f hb_1 c1
      refine WL.no rfl rfl rfl rfl ?_
      refine WL.no rfl rfl rfl rfl ?_
      refine WL.q (q_pick0 rfl rfl) rfl rfl rfl ?_
      cases hb_1
      exact WL.keep (by exact ⟨rfl, rfl, trivial⟩) K
  refine lq (q_assign rfl) rfl ?_
  refine WL.nil ?_
  refine WT.ret Try.func279 (resOk.one rfl) (fun w1 hw => ?_)
  cases h
  exact post_of_St hw
theorem m_i_isWordByte_ok {Φ : Hp} {w : World} (hΦ : In Φ w) (N : Nat) (p0 : Int)   {r : Bool} (h : m_i_isWordByte N p0 = some r) :
    Calls Try.prog 261 [.int .u8 p0].toArray w (Post (.bool r) w) := by
  refine enter Try.func261 rfl Try.ntmps261 rfl (St.start0 hΦ) ?_
  unfold m_i_isWordByte at h
  refine WT.seq ?_
  refine WT.region ?_
  refine lq (q_assign rfl) rfl ?_
  refine WL.nil ?_
  refine WT.seq ?_
  refine WT.region ?_
  refine lq (q_move rfl) rfl ?_
  obtain ⟨x1, hx1, h⟩ := bind_some h
  refine lp (p_call Fun_214 rfl (fun w1 hw => m_i_isSmall_ok hw.fro N p0 hx1)) rfl ?_
  refine lq (q_move rfl) rfl ?_
  obtain ⟨b1, hb_1, h⟩ := bind_some h
  refine WL.cutN 3 [(8, .bool b1), (0, .int .u8 p0), (2, .bool false)] ?_ (fun K => ?_)
  rotate_left
  · refine WL.split (d := 5) rfl (fun c1 => ?_) (fun c1 => ?_)
    · replace hb_1 := ite_t hb_1 c1
      refine WL.no rfl rfl rfl rfl ?_
      refine WL.no rfl rfl rfl rfl ?_
      refine WL.q (q_pick1 rfl rfl) rfl rfl rfl ?_
      cases hb_1
      exact WL.keep (by exact ⟨rfl, rfl, rfl, trivial⟩) K
    · replace hb_1 := ite_f hb_1 c1
      refine WL.yes rfl rfl ?_
      refine lq (q_move rfl) rfl ?_
      refine WL.yes rfl rfl ?_
      obtain ⟨x2, hx2, hb_1⟩ := bind_some hb_1
      refine lp (p_call Fun_279 rfl (fun w1 hw => m_i_isDigit_ok hw.fro N p0 hx2)) rfl ?_
      refine WL.q (q_pick0 rfl rfl) rfl rfl rfl ?_
      cases hb_1
      exact WL.keep (by exact ⟨rfl, rfl, rfl, trivial⟩) K
  refine lq (q_move rfl) rfl ?_
  obtain ⟨b2, hb_2, h⟩ := bind_some h
  refine WL.cutN 3 [(12, .bool b2), (2, .bool false)] ?_ (fun K => ?_)
  rotate_left
  · refine WL.split (d := 9) rfl (fun c2 => ?_) (fun c2 => ?_)
    · replace hb_2 := ite_t hb_2 c2
      refine WL.no rfl rfl rfl rfl ?_
      refine WL.no rfl rfl rfl rfl ?_
      refine WL.q (q_pick1 rfl rfl) rfl rfl rfl ?_
      cases hb_2
      exact WL.keep (by exact ⟨rfl, rfl, trivial⟩) K
    · replace hb_2 := ite_f hb_2 c2
      refine WL.yes rfl rfl ?_
      refine lq (q_move rfl) rfl ?_
      refine WL.yes rfl rfl ?_
      refine lq (q_eql rfl rfl) rfl ?_
      refine WL.q (q_pick0 rfl rfl) rfl rfl rfl ?_
      cases hb_2
      exact WL.keep (by exact ⟨rfl, rfl, trivial⟩) K
  refine lq (q_assign rfl) rfl ?_
  refine WL.nil ?_
  refine WT.ret Try.func261 (resOk.one rfl) (fun w1 hw => ?_)
  cases h
  exact post_of_St hw
theorem m_i_isWord_ok {Φ : Hp} {w : World} (hΦ : In Φ w) (N : Nat) (p0 : ByteArray) (p1 : Int)   {r : Bool} (h : m_i_isWord N p0 p1 = some r) :
    Calls Try.prog 215 [.string p0, .int .i64 p1].toArray w (Post (.bool r) w) := by
  refine enter Try.func215 rfl Try.ntmps215 rfl (St.start0 hΦ) ?_
  generalize hb0 : (⟨w, [], Φ⟩ : Base) = w0
  unfold m_i_isWord at h
  refine WT.seq ?_
  refine WT.region ?_
  refine lq (q_assign rfl) rfl ?_
  refine WL.nil ?_
  refine WT.seq ?_
  refine WT.seq ?_
  refine WT.region ?_
  refine lq (q_move rfl) rfl ?_
  refine lq (q_lenS Str_9 rfl rfl) rfl ?_
  refine lq (q_move rfl) rfl ?_
  refine lq (q_gtr rfl rfl) rfl ?_
  refine WL.nil ?_
  refine WT.cond rfl (fun c1 => ?_) (fun c1 => ?_)
  · replace h := ite_t h c1
    refine WT.seq ?_
    refine WT.region ?_
    refine lq (q_assign rfl) rfl ?_
    refine WL.nil ?_
    refine WT.ret Try.func215 (resOk.one rfl) (fun w1 hw => ?_)
    subst hb0
    cases h
    exact post_of_St hw
  replace h := ite_f h c1
  refine WT.skip ?_
  refine WT.seq ?_
  refine WT.seq ?_
  refine WT.region ?_
  refine lq (q_assign rfl) rfl ?_
  refine WL.nil ?_
  refine WT.block ?_
  refine WT.loop ?_
  refine WT.mono (l' := [(0, .string p0), (5, .int .i64 0)]) (S' := St w0 Φ [] []) ⟨rfl, rfl, trivial⟩ (fun w1 hw => (hw.sel (js := []) rfl).selO (js := []) rfl) ?_
  refine loop_ind (σ := Int) (fun s => [(0, .string p0), (5, .int .i64 s)]) (fun s => St w0 Φ [] []) (fun m s => m_i_isWord_l1 N p0 m s = some r) (fun s hm => none_ne (show (none : Option (Bool)) = some r from hm)) (fun n1 ih1 s hm => ?_) N (0) h
  revert hm; revert s; intro s1 hm
  have h : m_i_isWord_l1 N p0 (n1 + 1) s1 = some r := hm
  show WT _ _ [(0, .string p0), (5, .int .i64 s1)] (St w0 Φ [] [])
  unfold m_i_isWord_l1 at h
  refine WT.seq ?_
  refine WT.seq ?_
  refine WT.region ?_
  refine lq (q_move rfl) rfl ?_
  refine lq (q_move rfl) rfl ?_
  refine lq (q_lenS Str_9 rfl rfl) rfl ?_
  refine lq (q_lss rfl rfl) rfl ?_
  refine WL.nil ?_
  refine WT.cond rfl (fun c2 => ?_) (fun c2 => ?_)
  · replace h := ite_t h c2
    refine WT.skip ?_
    refine WT.seq ?_
    refine WT.block ?_
    refine WT.seq ?_
    refine WT.region ?_
    refine lq (q_move rfl) rfl ?_
    refine lq (q_move rfl) rfl ?_
    obtain ⟨y1, hy1, h⟩ := bind_some h
    refine lq (q_indexS Str_9 rfl rfl hy1) rfl ?_
    obtain ⟨x1, hx1, h⟩ := bind_some h
    refine lp (p_call Fun_261 rfl (fun w1 hw => m_i_isWordByte_ok hw.fro N (y1.toNat : Int) hx1)) rfl ?_
    refine lq (q_not rfl) rfl ?_
    refine WL.nil ?_
    refine WT.cond rfl (fun c3 => ?_) (fun c3 => ?_)
    · replace h := ite_t h c3
      refine WT.seq ?_
      refine WT.region ?_
      refine lq (q_assign rfl) rfl ?_
      refine WL.nil ?_
      refine WT.ret Try.func215 (resOk.one rfl) (fun w1 hw => ?_)
      subst hb0
      cases h
      exact post_of_St hw
    replace h := ite_f h c3
    refine WT.skip ?_
    refine WT.inBlock ?_
    refine WT.region ?_
    refine lq (q_move rfl) rfl ?_
    refine lq (q_add rfl rfl) rfl ?_
    refine lq (q_assign rfl) rfl ?_
    refine WL.nil ?_
    refine WT.inLoop (WT.mono (l' := [(0, .string p0), (5, .int .i64 (IntKind.i64.wrap (s1 + 1)))]) (S' := St w0 Φ [] []) ⟨rfl, rfl, trivial⟩ (fun w1 hw => (hw.sel (js := []) rfl).selO (js := []) rfl) ?_)
    exact ih1 (IntKind.i64.wrap (s1 + 1)) h
  replace h := ite_f h c2
  refine WT.exit rfl ?_
  refine WT.seq ?_
  refine WT.region ?_
  refine lq (q_assign rfl) rfl ?_
  refine WL.nil ?_
  refine WT.ret Try.func215 (resOk.one rfl) (fun w1 hw => ?_)
  subst hb0
  cases h
  exact post_of_St hw
theorem m_i_NameOk_ok {Φ : Hp} {w : World} (hΦ : In Φ w) (N : Nat) (p0 : ByteArray)   {r : Bool} (h : m_i_NameOk N p0 = some r) :
    Calls Try.prog 147 [.string p0].toArray w (Post (.bool r) w) := by
  refine enter Try.func147 rfl Try.ntmps147 rfl (St.start0 hΦ) ?_
  unfold m_i_NameOk at h
  refine WT.seq ?_
  refine WT.region ?_
  refine lq (q_assign rfl) rfl ?_
  refine WL.nil ?_
  refine WT.seq ?_
  refine WT.region ?_
  refine lq (q_move rfl) rfl ?_
  refine lq (q_lenS Str_9 rfl rfl) rfl ?_
  refine lq (q_gtr rfl rfl) rfl ?_
  refine lq (q_move rfl) rfl ?_
  obtain ⟨b1, hb_1, h⟩ := bind_some h
  refine WL.cutN 4 [(10, .bool b1), (0, .string p0), (2, .bool false)] ?_ (fun K => ?_)
  rotate_left
  · refine WL.split (d := 6) rfl (fun c1 => ?_) (fun c1 => ?_)
    · replace hb_1 := ite_t hb_1 c1
      refine WL.yes rfl rfl ?_
      refine lq (q_move rfl) rfl ?_
      refine WL.yes rfl rfl ?_
      obtain ⟨y1, hy1, hb_1⟩ := bind_some hb_1
      refine lq (q_indexS Str_9 rfl rfl hy1) rfl ?_
      refine WL.yes rfl rfl ?_
      obtain ⟨x1, hx1, hb_1⟩ := bind_some hb_1
      refine lp (p_call Fun_214 rfl (fun w1 hw => m_i_isSmall_ok hw.fro N (y1.toNat : Int) hx1)) rfl ?_
      refine WL.q (q_pick1 rfl rfl) rfl rfl rfl ?_
      cases hb_1
      exact WL.keep (by exact ⟨rfl, rfl, rfl, trivial⟩) K
    · replace hb_1 := ite_f hb_1 c1
      refine WL.no rfl rfl rfl rfl ?_
      refine WL.no rfl rfl rfl rfl ?_
      refine WL.no rfl rfl rfl rfl ?_
      refine WL.q (q_pick0 rfl rfl) rfl rfl rfl ?_
      cases hb_1
      exact WL.keep (by exact ⟨rfl, rfl, rfl, trivial⟩) K
  refine lq (q_move rfl) rfl ?_
  obtain ⟨b2, hb_2, h⟩ := bind_some h
  refine WL.cutN 3 [(14, .bool b2), (2, .bool false)] ?_ (fun K => ?_)
  rotate_left
  · refine WL.split (d := 11) rfl (fun c2 => ?_) (fun c2 => ?_)
    · replace hb_2 := ite_t hb_2 c2
      refine WL.yes rfl rfl ?_
      refine lq (q_move rfl) rfl ?_
      refine WL.yes rfl rfl ?_
      obtain ⟨x2, hx2, hb_2⟩ := bind_some hb_2
      refine lp (p_call Fun_215 rfl (fun w1 hw => m_i_isWord_ok hw.fro N p0 12 hx2)) rfl ?_
      refine WL.q (q_pick1 rfl rfl) rfl rfl rfl ?_
      cases hb_2
      exact WL.keep (by exact ⟨rfl, rfl, trivial⟩) K
    · replace hb_2 := ite_f hb_2 c2
      refine WL.no rfl rfl rfl rfl ?_
      refine WL.no rfl rfl rfl rfl ?_
      refine WL.q (q_pick0 rfl rfl) rfl rfl rfl ?_
      cases hb_2
      exact WL.keep (by exact ⟨rfl, rfl, trivial⟩) K
  refine lq (q_assign rfl) rfl ?_
  refine WL.nil ?_
  refine WT.ret Try.func147 (resOk.one rfl) (fun w1 hw => ?_)
  cases h
  exact post_of_St hw
theorem m_i_inRange_ok {Φ : Hp} {w : World} (hΦ : In Φ w) (N : Nat) (p0 : Int) (p1 : Int) (p2 : Int)   {r : Bool} (h : m_i_inRange N p0 p1 p2 = some r) :
    Calls Try.prog 148 [.int .i64 p0, .int .i64 p1, .int .i64 p2].toArray w (Post (.bool r) w) := by
  refine enter Try.func148 rfl Try.ntmps148 rfl (St.start0 hΦ) ?_
  unfold m_i_inRange at h
  refine WT.seq ?_
  refine WT.region ?_
  refine lq (q_assign rfl) rfl ?_
  refine WL.nil ?_
  refine WT.seq ?_
  refine WT.region ?_
  refine lq (q_move rfl) rfl ?_
  refine lq (q_move rfl) rfl ?_
  refine lq (q_geq rfl rfl) rfl ?_
  refine lq (q_move rfl) rfl ?_
  obtain ⟨b1, hb_1, h⟩ := bind_some h
  refine WL.cutN 4 [(14, .bool b1), (6, .bool false)] ?_ (fun K => ?_)
  rotate_left
  · refine WL.split (d := 10) rfl (fun c1 => ?_) (fun c1 => ?_)
    · replace hb_1 := ite_t hb_1 c1
      refine WL.yes rfl rfl ?_
      refine lq (q_move rfl) rfl ?_
      refine WL.yes rfl rfl ?_
      refine lq (q_move rfl) rfl ?_
      refine WL.yes rfl rfl ?_
      refine lq (q_leq rfl rfl) rfl ?_
      refine WL.q (q_pick1 rfl rfl) rfl rfl rfl ?_
      cases hb_1
      exact WL.keep (by exact ⟨rfl, rfl, trivial⟩) K
    · replace hb_1 := ite_f hb_1 c1
      refine WL.no rfl rfl rfl rfl ?_
      refine WL.no rfl rfl rfl rfl ?_
      refine WL.no rfl rfl rfl rfl ?_
      refine WL.q (q_pick0 rfl rfl) rfl rfl rfl ?_
      cases hb_1
      exact WL.keep (by exact ⟨rfl, rfl, trivial⟩) K
  refine lq (q_assign rfl) rfl ?_
  refine WL.nil ?_
  refine WT.ret Try.func148 (resOk.one rfl) (fun w1 hw => ?_)
  cases h
  exact post_of_St hw
theorem m_i_isLarge_ok {Φ : Hp} {w : World} (hΦ : In Φ w) (N : Nat) (p0 : Int)   {r : Bool} (h : m_i_isLarge N p0 = some r) :
    Calls Try.prog 288 [.int .u8 p0].toArray w (Post (.bool r) w) := by
  refine enter Try.func288 rfl Try.ntmps288 rfl (St.start0 hΦ) ?_
  unfold m_i_isLarge at h
  refine WT.seq ?_
  refine WT.region ?_
  refine lq (q_assign rfl) rfl ?_
  refine WL.nil ?_
  refine WT.seq ?_
  refine WT.region ?_
  refine lq (q_move rfl) rfl ?_
  refine lq (q_geq rfl rfl) rfl ?_
  refine lq (q_move rfl) rfl ?_
  obtain ⟨b1, hb_1, h⟩ := bind_some h
  refine WL.cutN 3 [(8, .bool b1), (2, .bool false)] ?_ (fun K => ?_)
  rotate_left
  · refine WL.split (d := 5) rfl (fun c1 => ?_) (fun c1 => ?_)
    · replace hb_1 := ite_t hb_1 c1
      refine WL.yes rfl rfl ?_
      refine lq (q_move rfl) rfl ?_
      refine WL.yes rfl rfl ?_
      refine lq (q_leq rfl rfl) rfl ?_
      refine WL.q (q_pick1 rfl rfl) rfl rfl rfl ?_
      cases hb_1
      exact WL.keep (by exact ⟨rfl, rfl, trivial⟩) K
    · replace hb_1 := ite_f hb_1 c1
      refine WL.no rfl rfl rfl rfl ?_
      refine WL.no rfl rfl rfl rfl ?_
      refine WL.q (q_pick0 rfl rfl) rfl rfl rfl ?_
      cases hb_1
      exact WL.keep (by exact ⟨rfl, rfl, trivial⟩) K
  refine lq (q_assign rfl) rfl ?_
  refine WL.nil ?_
  refine WT.ret Try.func288 (resOk.one rfl) (fun w1 hw => ?_)
  cases h
  exact post_of_St hw
theorem m_i_isVar_ok {Φ : Hp} {w : World} (hΦ : In Φ w) (N : Nat) (p0 : ByteArray)   {r : Bool} (h : m_i_isVar N p0 = some r) :
    Calls Try.prog 280 [.string p0].toArray w (Post (.bool r) w) := by
  refine enter Try.func280 rfl Try.ntmps280 rfl (St.start0 hΦ) ?_
  generalize hb0 : (⟨w, [], Φ⟩ : Base) = w0
  unfold m_i_isVar at h
  refine WT.seq ?_
  refine WT.region ?_
  refine lq (q_assign rfl) rfl ?_
  refine WL.nil ?_
  refine WT.seq ?_
  refine WT.seq ?_
  refine WT.region ?_
  refine lq (q_move rfl) rfl ?_
  refine lq (q_lenS Str_9 rfl rfl) rfl ?_
  refine lq (q_lss rfl rfl) rfl ?_
  refine lq (q_move rfl) rfl ?_
  obtain ⟨b1, hb_1, h⟩ := bind_some h
  refine WL.cutN 4 [(11, .bool b1), (0, .string p0)] ?_ (fun K => ?_)
  rotate_left
  · refine WL.split (d := 7) rfl (fun c1 => ?_) (fun c1 => ?_)
    · replace hb_1 := ite_t hb_1 c1
      refine WL.no rfl rfl rfl rfl ?_
      refine WL.no rfl rfl rfl rfl ?_
      refine WL.no rfl rfl rfl rfl ?_
      refine WL.q (q_pick1 rfl rfl) rfl rfl rfl ?_
      cases hb_1
      exact WL.keep (by exact ⟨rfl, rfl, trivial⟩) K
    · replace hb_1 := ite_f hb_1 c1
      refine WL.yes rfl rfl ?_
      refine lq (q_move rfl) rfl ?_
      refine WL.yes rfl rfl ?_
      refine lq (q_lenS Str_9 rfl rfl) rfl ?_
      refine WL.yes rfl rfl ?_
      refine lq (q_gtr rfl rfl) rfl ?_
      refine WL.q (q_pick0 rfl rfl) rfl rfl rfl ?_
      cases hb_1
      exact WL.keep (by exact ⟨rfl, rfl, trivial⟩) K
  refine lq (q_move rfl) rfl ?_
  obtain ⟨b2, hb_2, h⟩ := bind_some h
  refine WL.cutN 5 [(17, .bool b2), (0, .string p0)] ?_ (fun K => ?_)
  rotate_left
  · refine WL.split (d := 12) rfl (fun c2 => ?_) (fun c2 => ?_)
    · replace hb_2 := ite_t hb_2 c2
      refine WL.no rfl rfl rfl rfl ?_
      refine WL.no rfl rfl rfl rfl ?_
      refine WL.no rfl rfl rfl rfl ?_
      refine WL.no rfl rfl rfl rfl ?_
      refine WL.q (q_pick1 rfl rfl) rfl rfl rfl ?_
      cases hb_2
      exact WL.keep (by exact ⟨rfl, rfl, trivial⟩) K
    · replace hb_2 := ite_f hb_2 c2
      refine WL.yes rfl rfl ?_
      refine lq (q_move rfl) rfl ?_
      refine WL.yes rfl rfl ?_
      obtain ⟨y1, hy1, hb_2⟩ := bind_some hb_2
      refine lq (q_indexS Str_9 rfl rfl hy1) rfl ?_
      refine WL.yes rfl rfl ?_
      obtain ⟨x1, hx1, hb_2⟩ := bind_some hb_2
      refine lp (p_call Fun_288 rfl (fun w1 hw => m_i_isLarge_ok hw.fro N (y1.toNat : Int) hx1)) rfl ?_
      refine WL.yes rfl rfl ?_
      refine lq (q_not rfl) rfl ?_
      refine WL.q (q_pick0 rfl rfl) rfl rfl rfl ?_
      cases hb_2
      exact WL.keep (by exact ⟨rfl, rfl, trivial⟩) K
  refine WL.nil ?_
  refine WT.cond rfl (fun c3 => ?_) (fun c3 => ?_)
  · replace h := ite_t h c3
    refine WT.seq ?_
    refine WT.region ?_
    refine lq (q_assign rfl) rfl ?_
    refine WL.nil ?_
    refine WT.ret Try.func280 (resOk.one rfl) (fun w1 hw => ?_)
    subst hb0
    cases h
    exact post_of_St hw
  replace h := ite_f h c3
  refine WT.skip ?_
  refine WT.seq ?_
  refine WT.seq ?_
  refine WT.region ?_
  refine lq (q_assign rfl) rfl ?_
  refine WL.nil ?_
  refine WT.block ?_
  refine WT.loop ?_
  refine WT.mono (l' := [(0, .string p0), (3, .int .i64 0)]) (S' := St w0 Φ [] []) ⟨rfl, rfl, trivial⟩ (fun w1 hw => (hw.sel (js := []) rfl).selO (js := []) rfl) ?_
  refine loop_ind (σ := Int) (fun s => [(0, .string p0), (3, .int .i64 s)]) (fun s => St w0 Φ [] []) (fun m s => m_i_isVar_l1 N p0 m s = some r) (fun s hm => none_ne (show (none : Option (Bool)) = some r from hm)) (fun n1 ih1 s hm => ?_) N (0) h
  revert hm; revert s; intro s1 hm
  have h : m_i_isVar_l1 N p0 (n1 + 1) s1 = some r := hm
  show WT _ _ [(0, .string p0), (3, .int .i64 s1)] (St w0 Φ [] [])
  unfold m_i_isVar_l1 at h
  refine WT.seq ?_
  refine WT.seq ?_
  refine WT.region ?_
  refine lq (q_move rfl) rfl ?_
  refine lq (q_move rfl) rfl ?_
  refine lq (q_lenS Str_9 rfl rfl) rfl ?_
  refine lq (q_lss rfl rfl) rfl ?_
  refine WL.nil ?_
  refine WT.cond rfl (fun c4 => ?_) (fun c4 => ?_)
  · replace h := ite_t h c4
    refine WT.skip ?_
    refine WT.seq ?_
    refine WT.block ?_
    refine WT.seq ?_
    refine WT.region ?_
    refine lq (q_move rfl) rfl ?_
    refine lq (q_move rfl) rfl ?_
    obtain ⟨y2, hy2, h⟩ := bind_some h
    refine lq (q_indexS Str_9 rfl rfl hy2) rfl ?_
    obtain ⟨x2, hx2, h⟩ := bind_some h
    refine lp (p_call Fun_261 rfl (fun w1 hw => m_i_isWordByte_ok hw.fro N (y2.toNat : Int) hx2)) rfl ?_
    refine lq (q_not rfl) rfl ?_
    refine lq (q_move rfl) rfl ?_
    obtain ⟨b3, hb_3, h⟩ := bind_some h
    refine WL.cutN 6 [(35, .bool b3), (0, .string p0), (3, .int .i64 s1)] ?_ (fun K => ?_)
    rotate_left
    · refine WL.split (d := 29) rfl (fun c5 => ?_) (fun c5 => ?_)
      · replace hb_3 := ite_t hb_3 c5
        refine WL.yes rfl rfl ?_
        refine lq (q_move rfl) rfl ?_
        refine WL.yes rfl rfl ?_
        refine lq (q_move rfl) rfl ?_
        refine WL.yes rfl rfl ?_
        obtain ⟨y3, hy3, hb_3⟩ := bind_some hb_3
        refine lq (q_indexS Str_9 rfl rfl hy3) rfl ?_
        refine WL.yes rfl rfl ?_
        obtain ⟨x3, hx3, hb_3⟩ := bind_some hb_3
        refine lp (p_call Fun_288 rfl (fun w1 hw => m_i_isLarge_ok hw.fro N (y3.toNat : Int) hx3)) rfl ?_
        refine WL.yes rfl rfl ?_
        refine lq (q_not rfl) rfl ?_
        refine WL.q (q_pick1 rfl rfl) rfl rfl rfl ?_
        cases hb_3
        exact WL.keep (by exact ⟨rfl, rfl, rfl, trivial⟩) K
      · replace hb_3 := ite_f hb_3 c5
        refine WL.no rfl rfl rfl rfl ?_
        refine WL.no rfl rfl rfl rfl ?_
        refine WL.no rfl rfl rfl rfl ?_
        refine WL.no rfl rfl rfl rfl ?_
        refine WL.no rfl rfl rfl rfl ?_
        refine WL.q (q_pick0 rfl rfl) rfl rfl rfl ?_
        cases hb_3
        exact WL.keep (by exact ⟨rfl, rfl, rfl, trivial⟩) K
    refine WL.nil ?_
    refine WT.cond rfl (fun c6 => ?_) (fun c6 => ?_)
    · replace h := ite_t h c6
      refine WT.seq ?_
      refine WT.region ?_
      refine lq (q_assign rfl) rfl ?_
      refine WL.nil ?_
      refine WT.ret Try.func280 (resOk.one rfl) (fun w1 hw => ?_)
      subst hb0
      cases h
      exact post_of_St hw
    replace h := ite_f h c6
    refine WT.skip ?_
    refine WT.inBlock ?_
    refine WT.region ?_
    refine lq (q_move rfl) rfl ?_
    refine lq (q_add rfl rfl) rfl ?_
    refine lq (q_assign rfl) rfl ?_
    refine WL.nil ?_
    refine WT.inLoop (WT.mono (l' := [(0, .string p0), (3, .int .i64 (IntKind.i64.wrap (s1 + 1)))]) (S' := St w0 Φ [] []) ⟨rfl, rfl, trivial⟩ (fun w1 hw => (hw.sel (js := []) rfl).selO (js := []) rfl) ?_)
    exact ih1 (IntKind.i64.wrap (s1 + 1)) h
  replace h := ite_f h c4
  refine WT.exit rfl ?_
  refine WT.seq ?_
  refine WT.region ?_
  refine lq (q_assign rfl) rfl ?_
  refine WL.nil ?_
  refine WT.ret Try.func280 (resOk.one rfl) (fun w1 hw => ?_)
  subst hb0
  cases h
  exact post_of_St hw
theorem m_i_ValOk_ok {Φ : Hp} {w : World} (hΦ : In Φ w) (N : Nat) (p0 : TVal)   {r : Bool} (h : m_i_ValOk N p0 = some r) :
    Calls Try.prog 281 [.agg [.int .i64 p0.K, .int .i64 p0.N, .string p0.S].toArray].toArray w (Post (.bool r) w) := by
  refine enter Try.func281 rfl Try.ntmps281 rfl (St.start0 hΦ) ?_
  unfold m_i_ValOk at h
  refine WT.seq ?_
  refine WT.region ?_
  refine ln (n_box (C := #[.int .i64 p0.K, .int .i64 p0.N, .string p0.S]) rfl rfl) rfl (fun b_1 => ?_)
  refine lq (q_assign rfl) rfl ?_
  refine WL.nil ?_
  refine WT.seq ?_
  refine WT.seq ?_
  refine WT.region ?_
  refine lq (q_fieldAddr Fld_192_0 rfl) rfl ?_
  refine lq (q_load1 T1_3 rfl (fun w1 hw => hw.rgO (i := 0) rfl 0 1 [.int .i64 p0.K] rfl)) rfl ?_
  refine WL.nil ?_
  refine WT.block ?_
  refine WT.seq ?_
  refine WT.region ?_
  refine lq (q_eql rfl rfl) rfl ?_
  refine lq (q_assign rfl) rfl ?_
  refine WL.nil ?_
  refine WT.cond rfl (fun c1 => ?_) (fun c1 => ?_)
  · replace h := ite_t h c1
    refine WT.seq ?_
    refine WT.region ?_
    refine lq (q_fieldAddr Fld_192_1 rfl) rfl ?_
    refine lq (q_load1 T1_3 rfl (fun w1 hw => hw.rgO (i := 0) rfl 1 1 [.int .i64 p0.N] rfl)) rfl ?_
    obtain ⟨x1, hx1, h⟩ := bind_some h
    refine lp (p_call Fun_148 rfl (fun w1 hw => m_i_inRange_ok hw.fro N p0.N (-1000000000) 1000000000 hx1)) rfl ?_
    refine lq (q_move rfl) rfl ?_
    obtain ⟨b1, hb_1, h⟩ := bind_some h
    refine WL.cutN 4 [(14, .bool b1), (2, .bool false)] ?_ (fun K => ?_)
    rotate_left
    · refine WL.split (d := 10) rfl (fun c2 => ?_) (fun c2 => ?_)
      · replace hb_1 := ite_t hb_1 c2
        refine WL.yes rfl rfl ?_
        refine lq (q_fieldAddr Fld_192_2 rfl) rfl ?_
        refine WL.yes rfl rfl ?_
        refine lq (q_load1 T1_9 rfl (fun w1 hw => hw.rgO (i := 0) rfl 2 1 [.string p0.S] rfl)) rfl ?_
        refine WL.yes rfl rfl ?_
        refine lq (q_seq rfl rfl) rfl ?_
        refine WL.q (q_pick1 rfl rfl) rfl rfl rfl ?_
        cases hb_1
        exact WL.keep (by exact ⟨rfl, rfl, trivial⟩) K
      · replace hb_1 := ite_f hb_1 c2
        refine WL.no rfl rfl rfl rfl ?_
        refine WL.no rfl rfl rfl rfl ?_
        refine WL.no rfl rfl rfl rfl ?_
        refine WL.q (q_pick0 rfl rfl) rfl rfl rfl ?_
        cases hb_1
        exact WL.keep (by exact ⟨rfl, rfl, trivial⟩) K
    refine lq (q_assign rfl) rfl ?_
    refine WL.nil ?_
    refine WT.ret Try.func281 (resOk.one rfl) (fun w1 hw => ?_)
    cases h
    exact post_of_St hw
  replace h := ite_f h c1
  refine WT.seq ?_
  refine WT.region ?_
  refine lq (q_eql rfl rfl) rfl ?_
  refine lq (q_assign rfl) rfl ?_
  refine WL.nil ?_
  refine WT.cond rfl (fun c3 => ?_) (fun c3 => ?_)
  · replace h := ite_t h c3
    refine WT.seq ?_
    refine WT.region ?_
    refine lq (q_fieldAddr Fld_192_1 rfl) rfl ?_
    refine lq (q_load1 T1_3 rfl (fun w1 hw => hw.rgO (i := 0) rfl 1 1 [.int .i64 p0.N] rfl)) rfl ?_
    refine lq (q_eql rfl rfl) rfl ?_
    refine lq (q_move rfl) rfl ?_
    obtain ⟨b2, hb_2, h⟩ := bind_some h
    refine WL.cutN 4 [(24, .bool b2), (2, .bool false)] ?_ (fun K => ?_)
    rotate_left
    · refine WL.split (d := 20) rfl (fun c4 => ?_) (fun c4 => ?_)
      · replace hb_2 := ite_t hb_2 c4
        refine WL.yes rfl rfl ?_
        refine lq (q_fieldAddr Fld_192_2 rfl) rfl ?_
        refine WL.yes rfl rfl ?_
        refine lq (q_load1 T1_9 rfl (fun w1 hw => hw.rgO (i := 0) rfl 2 1 [.string p0.S] rfl)) rfl ?_
        refine WL.yes rfl rfl ?_
        obtain ⟨x2, hx2, hb_2⟩ := bind_some hb_2
        refine lp (p_call Fun_215 rfl (fun w1 hw => m_i_isWord_ok hw.fro N p0.S 20 hx2)) rfl ?_
        refine WL.q (q_pick1 rfl rfl) rfl rfl rfl ?_
        cases hb_2
        exact WL.keep (by exact ⟨rfl, rfl, trivial⟩) K
      · replace hb_2 := ite_f hb_2 c4
        refine WL.no rfl rfl rfl rfl ?_
        refine WL.no rfl rfl rfl rfl ?_
        refine WL.no rfl rfl rfl rfl ?_
        refine WL.q (q_pick0 rfl rfl) rfl rfl rfl ?_
        cases hb_2
        exact WL.keep (by exact ⟨rfl, rfl, trivial⟩) K
    refine lq (q_assign rfl) rfl ?_
    refine WL.nil ?_
    refine WT.ret Try.func281 (resOk.one rfl) (fun w1 hw => ?_)
    cases h
    exact post_of_St hw
  replace h := ite_f h c3
  refine WT.skip ?_
  refine WT.inBlock ?_
  refine WT.seq ?_
  refine WT.region ?_
  refine lq (q_assign rfl) rfl ?_
  refine WL.nil ?_
  refine WT.ret Try.func281 (resOk.one rfl) (fun w1 hw => ?_)
  cases h
  exact post_of_St hw
theorem m_i_ArgOk_ok {Φ : Hp} {w : World} (hΦ : In Φ w) (N : Nat) (p0 : TArg)   {r : Bool} (h : m_i_ArgOk N p0 = some r) :
    Calls Try.prog 262 [.agg [.int .i64 p0.K, .string p0.S, .int .i64 p0.V.K, .int .i64 p0.V.N, .string p0.V.S].toArray].toArray w (Post (.bool r) w) := by
  refine enter Try.func262 rfl Try.ntmps262 rfl (St.start0 hΦ) ?_
  unfold m_i_ArgOk at h
  refine WT.seq ?_
  refine WT.region ?_
  refine ln (n_box (C := #[.int .i64 p0.K, .string p0.S, .int .i64 p0.V.K, .int .i64 p0.V.N, .string p0.V.S]) rfl rfl) rfl (fun b_1 => ?_)
  refine lq (q_assign rfl) rfl ?_
  refine WL.nil ?_
  refine WT.seq ?_
  refine WT.seq ?_
  refine WT.region ?_
  refine lq (q_fieldAddr Fld_206_0 rfl) rfl ?_
  refine lq (q_load1 T1_3 rfl (fun w1 hw => hw.rgO (i := 0) rfl 0 1 [.int .i64 p0.K] rfl)) rfl ?_
  refine WL.nil ?_
  refine WT.block ?_
  refine WT.seq ?_
  refine WT.region ?_
  refine lq (q_eql rfl rfl) rfl ?_
  refine lq (q_assign rfl) rfl ?_
  refine WL.nil ?_
  refine WT.cond rfl (fun c1 => ?_) (fun c1 => ?_)
  · replace h := ite_t h c1
    refine WT.seq ?_
    refine WT.region ?_
    refine lq (q_fieldAddr Fld_206_1 rfl) rfl ?_
    refine lq (q_load1 T1_9 rfl (fun w1 hw => hw.rgO (i := 0) rfl 1 1 [.string p0.S] rfl)) rfl ?_
    obtain ⟨x1, hx1, h⟩ := bind_some h
    refine lp (p_call Fun_280 rfl (fun w1 hw => m_i_isVar_ok hw.fro N p0.S hx1)) rfl ?_
    refine lq (q_move rfl) rfl ?_
    obtain ⟨b1, hb_1, h⟩ := bind_some h
    refine WL.cutN 5 [(15, .bool b1), (2, .bool false)] ?_ (fun K => ?_)
    rotate_left
    · refine WL.split (d := 10) rfl (fun c2 => ?_) (fun c2 => ?_)
      · replace hb_1 := ite_t hb_1 c2
        refine WL.yes rfl rfl ?_
        refine lq (q_fieldAddr Fld_206_2 rfl) rfl ?_
        refine WL.yes rfl rfl ?_
        refine lq (q_loadN Tn_192 rfl (fun w1 hw => hw.rgO (i := 0) rfl 2 3 [.int .i64 p0.V.K, .int .i64 p0.V.N, .string p0.V.S] rfl) rfl) rfl ?_
        refine WL.yes rfl rfl ?_
        refine lq (q_build (vs := []) (C := #[.int .i64 0, .int .i64 0, .string (⟨#[]⟩ : ByteArray)]) Pl_192 Zr_192 rfl (fill_nil)) rfl ?_
        refine WL.yes rfl rfl ?_
        refine lq (q_eqA EqT_192 rfl rfl rfl (r := eqT_TVal p0.V (⟨0, 0, (⟨#[]⟩ : ByteArray)⟩ : TVal)) rfl) rfl ?_
        refine WL.q (q_pick1 rfl rfl) rfl rfl rfl ?_
        cases hb_1
        exact WL.keep (by exact ⟨rfl, rfl, trivial⟩) K
      · replace hb_1 := ite_f hb_1 c2
        refine WL.no rfl rfl rfl rfl ?_
        refine WL.no rfl rfl rfl rfl ?_
        refine WL.no rfl rfl rfl rfl ?_
        refine WL.no rfl rfl rfl rfl ?_
        refine WL.q (q_pick0 rfl rfl) rfl rfl rfl ?_
        cases hb_1
        exact WL.keep (by exact ⟨rfl, rfl, trivial⟩) K
    refine lq (q_assign rfl) rfl ?_
    refine WL.nil ?_
    refine WT.ret Try.func262 (resOk.one rfl) (fun w1 hw => ?_)
    cases h
    exact post_of_St hw
  replace h := ite_f h c1
  refine WT.seq ?_
  refine WT.region ?_
  refine lq (q_eql rfl rfl) rfl ?_
  refine lq (q_assign rfl) rfl ?_
  refine WL.nil ?_
  refine WT.cond rfl (fun c3 => ?_) (fun c3 => ?_)
  · replace h := ite_t h c3
    refine WT.seq ?_
    refine WT.region ?_
    refine lq (q_fieldAddr Fld_206_1 rfl) rfl ?_
    refine lq (q_load1 T1_9 rfl (fun w1 hw => hw.rgO (i := 0) rfl 1 1 [.string p0.S] rfl)) rfl ?_
    refine lq (q_seq rfl rfl) rfl ?_
    refine lq (q_move rfl) rfl ?_
    obtain ⟨b2, hb_2, h⟩ := bind_some h
    refine WL.cutN 4 [(25, .bool b2), (2, .bool false)] ?_ (fun K => ?_)
    rotate_left
    · refine WL.split (d := 21) rfl (fun c4 => ?_) (fun c4 => ?_)
      · replace hb_2 := ite_t hb_2 c4
        refine WL.yes rfl rfl ?_
        refine lq (q_fieldAddr Fld_206_2 rfl) rfl ?_
        refine WL.yes rfl rfl ?_
        refine lq (q_loadN Tn_192 rfl (fun w1 hw => hw.rgO (i := 0) rfl 2 3 [.int .i64 p0.V.K, .int .i64 p0.V.N, .string p0.V.S] rfl) rfl) rfl ?_
        refine WL.yes rfl rfl ?_
        obtain ⟨x2, hx2, hb_2⟩ := bind_some hb_2
        refine lp (p_call Fun_281 rfl (fun w1 hw => m_i_ValOk_ok hw.fro N p0.V hx2)) rfl ?_
        refine WL.q (q_pick1 rfl rfl) rfl rfl rfl ?_
        cases hb_2
        exact WL.keep (by exact ⟨rfl, rfl, trivial⟩) K
      · replace hb_2 := ite_f hb_2 c4
        refine WL.no rfl rfl rfl rfl ?_
        refine WL.no rfl rfl rfl rfl ?_
        refine WL.no rfl rfl rfl rfl ?_
        refine WL.q (q_pick0 rfl rfl) rfl rfl rfl ?_
        cases hb_2
        exact WL.keep (by exact ⟨rfl, rfl, trivial⟩) K
    refine lq (q_assign rfl) rfl ?_
    refine WL.nil ?_
    refine WT.ret Try.func262 (resOk.one rfl) (fun w1 hw => ?_)
    cases h
    exact post_of_St hw
  replace h := ite_f h c3
  refine WT.seq ?_
  refine WT.region ?_
  refine lq (q_eql rfl rfl) rfl ?_
  refine lq (q_assign rfl) rfl ?_
  refine WL.nil ?_
  refine WT.cond rfl (fun c5 => ?_) (fun c5 => ?_)
  · replace h := ite_t h c5
    refine WT.seq ?_
    refine WT.region ?_
    refine lq (q_fieldAddr Fld_206_1 rfl) rfl ?_
    refine lq (q_load1 T1_9 rfl (fun w1 hw => hw.rgO (i := 0) rfl 1 1 [.string p0.S] rfl)) rfl ?_
    refine lq (q_seq rfl rfl) rfl ?_
    refine lq (q_move rfl) rfl ?_
    obtain ⟨b3, hb_3, h⟩ := bind_some h
    refine WL.cutN 5 [(36, .bool b3), (2, .bool false)] ?_ (fun K => ?_)
    rotate_left
    · refine WL.split (d := 31) rfl (fun c6 => ?_) (fun c6 => ?_)
      · replace hb_3 := ite_t hb_3 c6
        refine WL.yes rfl rfl ?_
        refine lq (q_fieldAddr Fld_206_2 rfl) rfl ?_
        refine WL.yes rfl rfl ?_
        refine lq (q_loadN Tn_192 rfl (fun w1 hw => hw.rgO (i := 0) rfl 2 3 [.int .i64 p0.V.K, .int .i64 p0.V.N, .string p0.V.S] rfl) rfl) rfl ?_
        refine WL.yes rfl rfl ?_
        refine lq (q_build (vs := []) (C := #[.int .i64 0, .int .i64 0, .string (⟨#[]⟩ : ByteArray)]) Pl_192 Zr_192 rfl (fill_nil)) rfl ?_
        refine WL.yes rfl rfl ?_
        refine lq (q_eqA EqT_192 rfl rfl rfl (r := eqT_TVal p0.V (⟨0, 0, (⟨#[]⟩ : ByteArray)⟩ : TVal)) rfl) rfl ?_
        refine WL.q (q_pick1 rfl rfl) rfl rfl rfl ?_
        cases hb_3
        exact WL.keep (by exact ⟨rfl, rfl, trivial⟩) K
      · replace hb_3 := ite_f hb_3 c6
        refine WL.no rfl rfl rfl rfl ?_
        refine WL.no rfl rfl rfl rfl ?_
        refine WL.no rfl rfl rfl rfl ?_
        refine WL.no rfl rfl rfl rfl ?_
        refine WL.q (q_pick0 rfl rfl) rfl rfl rfl ?_
        cases hb_3
        exact WL.keep (by exact ⟨rfl, rfl, trivial⟩) K
    refine lq (q_assign rfl) rfl ?_
    refine WL.nil ?_
    refine WT.ret Try.func262 (resOk.one rfl) (fun w1 hw => ?_)
    cases h
    exact post_of_St hw
  replace h := ite_f h c5
  refine WT.skip ?_
  refine WT.inBlock ?_
  refine WT.seq ?_
  refine WT.region ?_
  refine lq (q_assign rfl) rfl ?_
  refine WL.nil ?_
  refine WT.ret Try.func262 (resOk.one rfl) (fun w1 hw => ?_)
  cases h
  exact post_of_St hw
theorem m_i_PatOk_ok {Φ : Hp} {w : World} (hΦ : In Φ w) (N : Nat) (p0 : TPat) {pv0_0 : Value} {pG0_0 : List Nat} (ph0_0 : RSl RTArg 5 Φ pG0_0 pv0_0 p0.Args) {r : Bool} (h : m_i_PatOk N p0 = some r) :
    Calls Try.prog 216 [.agg [.string p0.Kind, pv0_0, .bool p0.Not].toArray].toArray w (Post (.bool r) w) := by
  refine enter Try.func216 rfl Try.ntmps216 rfl (St.start0 hΦ) ?_
  generalize hb0 : (⟨w, [], Φ⟩ : Base) = w0
  unfold m_i_PatOk at h
  refine WT.seq ?_
  refine WT.region ?_
  refine ln (n_box (C := #[.string p0.Kind, pv0_0, .bool p0.Not]) rfl rfl) rfl (fun b_1 => ?_)
  refine lq (q_assign rfl) rfl ?_
  refine WL.nil ?_
  refine WT.seq ?_
  refine WT.seq ?_
  refine WT.region ?_
  refine lq (q_fieldAddr Fld_121_0 rfl) rfl ?_
  refine lq (q_load1 T1_9 rfl (fun w1 hw => hw.rgO (i := 0) rfl 0 1 [.string p0.Kind] rfl)) rfl ?_
  obtain ⟨x1, hx1, h⟩ := bind_some h
  refine lp (p_call Fun_147 rfl (fun w1 hw => m_i_NameOk_ok hw.fro N p0.Kind hx1)) rfl ?_
  refine lq (q_not rfl) rfl ?_
  refine lq (q_move rfl) rfl ?_
  obtain ⟨b1, hb_1, h⟩ := bind_some h
  refine WL.cutN 5 [(14, .bool b1), (1, .pointer (some ⟨b_1, 0, none⟩))] ?_ (fun K => ?_)
  rotate_left
  · refine WL.split (d := 9) rfl (fun c1 => ?_) (fun c1 => ?_)
    · replace hb_1 := ite_t hb_1 c1
      refine WL.no rfl rfl rfl rfl ?_
      refine WL.no rfl rfl rfl rfl ?_
      refine WL.no rfl rfl rfl rfl ?_
      refine WL.no rfl rfl rfl rfl ?_
      refine WL.q (q_pick1 rfl rfl) rfl rfl rfl ?_
      cases hb_1
      exact WL.keep (by exact ⟨rfl, rfl, trivial⟩) K
    · replace hb_1 := ite_f hb_1 c1
      refine WL.yes rfl rfl ?_
      refine lq (q_fieldAddr Fld_121_1 rfl) rfl ?_
      refine WL.yes rfl rfl ?_
      refine lq (q_load1 T1_119 rfl (fun w1 hw => hw.rgO (i := 0) rfl 1 1 [pv0_0] rfl)) rfl ?_
      refine WL.yes rfl rfl ?_
      refine lq (q_lenR Sl_119 rfl rfl ph0_0) rfl ?_
      refine WL.yes rfl rfl ?_
      refine lq (q_gtr rfl rfl) rfl ?_
      refine WL.q (q_pick0 rfl rfl) rfl rfl rfl ?_
      cases hb_1
      exact WL.keep (by exact ⟨rfl, rfl, trivial⟩) K
  refine WL.nil ?_
  refine WT.cond rfl (fun c2 => ?_) (fun c2 => ?_)
  · replace h := ite_t h c2
    refine WT.seq ?_
    refine WT.region ?_
    refine lq (q_assign rfl) rfl ?_
    refine WL.nil ?_
    refine WT.ret Try.func216 (resOk.one rfl) (fun w1 hw => ?_)
    subst hb0
    cases h
    exact post_of_St hw
  replace h := ite_f h c2
  refine WT.skip ?_
  refine WT.seq ?_
  refine WT.seq ?_
  refine WT.region ?_
  refine lq (q_fieldAddr Fld_121_1 rfl) rfl ?_
  refine lq (q_load1 T1_119 rfl (fun w1 hw => hw.rgO (i := 0) rfl 1 1 [pv0_0] rfl)) rfl ?_
  refine lq (q_lenR Sl_119 rfl rfl ph0_0) rfl ?_
  refine lq (q_move rfl) rfl ?_
  refine WL.nil ?_
  refine WT.block ?_
  refine WT.loop ?_
  refine WT.mono (l' := [(16, pv0_0), (17, .int .i64 (p0.Args.length : Int)), (18, .int .i64 0)]) (S' := St w0 Φ [] []) ⟨rfl, rfl, rfl, trivial⟩ (fun w1 hw => (hw.sel (js := []) rfl).selO (js := []) rfl) ?_
  refine loop_ind (σ := Int) (fun s => [(16, pv0_0), (17, .int .i64 (p0.Args.length : Int)), (18, .int .i64 s)]) (fun s => St w0 Φ [] []) (fun m s => m_i_PatOk_l1 N p0 m s = some r) (fun s hm => none_ne (show (none : Option (Bool)) = some r from hm)) (fun n1 ih1 s hm => ?_) N (0) h
  revert hm; revert s; intro s1 hm
  have h : m_i_PatOk_l1 N p0 (n1 + 1) s1 = some r := hm
  show WT _ _ [(16, pv0_0), (17, .int .i64 (p0.Args.length : Int)), (18, .int .i64 s1)] (St w0 Φ [] [])
  unfold m_i_PatOk_l1 at h
  refine WT.seq ?_
  refine WT.region ?_
  refine lq (q_lss rfl rfl) rfl ?_
  refine WL.nil ?_
  refine WT.seq ?_
  refine WT.cond rfl (fun c3 => ?_) (fun c3 => ?_)
  · replace h := ite_t h c3
    refine WT.skip ?_
    refine WT.seq ?_
    refine WT.block ?_
    refine WT.seq ?_
    refine WT.region ?_
    obtain ⟨x2, hx2, h⟩ := bind_some h
    obtain ⟨cs1, F1, -, g1, hb1, hs1, r1⟩ := ph0_0.el (idx_some hx2).2.2
    obtain ⟨rfl, -⟩ := r1
    refine lq (q_indexAddr Sl_119 rfl rfl ph0_0 hx2) rfl ?_
    refine lq (q_loadN Tn_206 rfl (fun w1 hw => (g1.of_eq 0 5 rfl rfl : rg _ _ _ [.int .i64 x2.K, .string x2.S, .int .i64 x2.V.K, .int .i64 x2.V.N, .string x2.V.S]).rangeAt hw.fro) rfl) rfl ?_
    refine ln (n_alloc (C := #[.int .i64 0, .string (⟨#[]⟩ : ByteArray), .int .i64 0, .int .i64 0, .string (⟨#[]⟩ : ByteArray)]) Zr_206 rfl) rfl (fun b_2 => ?_)
    refine ls (s_store (i := 0) (vs := [.int .i64 x2.K, .string x2.S, .int .i64 x2.V.K, .int .i64 x2.V.N, .string x2.V.S]) (C' := [.int .i64 x2.K, .string x2.S, .int .i64 x2.V.K, .int .i64 x2.V.N, .string x2.V.S]) (O' := [(b_2, .cells #[.int .i64 x2.K, .string x2.S, .int .i64 x2.V.K, .int .i64 x2.V.N, .string x2.V.S] 206 (0, 0))]) Sz_206 rfl rfl rfl rfl rfl rfl ⟨rfl, rfl, rfl, rfl, rfl, trivial⟩ rfl rfl) rfl ?_
    refine WL.nil ?_
    refine WT.seq ?_
    refine WT.region ?_
    refine lq (q_loadN Tn_206 rfl (fun w1 hw => hw.rgO (i := 0) rfl 0 5 [.int .i64 x2.K, .string x2.S, .int .i64 x2.V.K, .int .i64 x2.V.N, .string x2.V.S] rfl) rfl) rfl ?_
    obtain ⟨x3, hx3, h⟩ := bind_some h
    refine lp (p_call Fun_262 rfl (fun w1 hw => m_i_ArgOk_ok hw.fro N x2 hx3)) rfl ?_
    refine lq (q_not rfl) rfl ?_
    refine WL.nil ?_
    refine WT.cond rfl (fun c4 => ?_) (fun c4 => ?_)
    · replace h := ite_t h c4
      refine WT.seq ?_
      refine WT.region ?_
      refine lq (q_assign rfl) rfl ?_
      refine WL.nil ?_
      refine WT.ret Try.func216 (resOk.one rfl) (fun w1 hw => ?_)
      subst hb0
      cases h
      exact post_of_St hw
    replace h := ite_f h c4
    refine WT.skip ?_
    refine WT.inBlock ?_
    refine WT.region ?_
    refine lq (q_add rfl rfl) rfl ?_
    refine lq (q_move rfl) rfl ?_
    refine WL.nil ?_
    refine WT.inLoop (WT.mono (l' := [(16, pv0_0), (17, .int .i64 (p0.Args.length : Int)), (18, .int .i64 (IntKind.i64.wrap (s1 + 1)))]) (S' := St w0 Φ [] []) ⟨rfl, rfl, rfl, trivial⟩ (fun w1 hw => (hw.sel (js := []) rfl).selO (js := []) rfl) ?_)
    exact ih1 (IntKind.i64.wrap (s1 + 1)) h
  replace h := ite_f h c3
  refine WT.exit rfl ?_
  refine WT.seq ?_
  refine WT.region ?_
  refine lq (q_assign rfl) rfl ?_
  refine WL.nil ?_
  refine WT.ret Try.func216 (resOk.one rfl) (fun w1 hw => ?_)
  subst hb0
  cases h
  exact post_of_St hw
theorem m_i_patsOk_ok {Φ : Hp} {w : World} (hΦ : In Φ w) (N : Nat) (p0 : TRule) {pv0_0 : Value} {pG0_0 : List Nat} {pv0_1 : Value} {pG0_1 : List Nat} {pv0_2 : Value} {pG0_2 : List Nat} (ph0_0 : RSl RTPat 3 Φ pG0_0 pv0_0 p0.Pats) (ph0_1 : RSl RTCond 11 Φ pG0_1 pv0_1 p0.Conds) (ph0_2 : RSl RTAct 5 Φ pG0_2 pv0_2 p0.Acts) {r : Bool} (h : m_i_patsOk N p0 = some r) :
    Calls Try.prog 149 [.agg [.string p0.Name, .int .i64 p0.Sal, pv0_0, pv0_1, pv0_2].toArray].toArray w (Post (.bool r) w) := by
  refine enter Try.func149 rfl Try.ntmps149 rfl (St.start0 hΦ) ?_
  generalize hb0 : (⟨w, [], Φ⟩ : Base) = w0
  unfold m_i_patsOk at h
  refine WT.seq ?_
  refine WT.region ?_
  refine ln (n_box (C := #[.string p0.Name, .int .i64 p0.Sal, pv0_0, pv0_1, pv0_2]) rfl rfl) rfl (fun b_1 => ?_)
  refine lq (q_assign rfl) rfl ?_
  refine WL.nil ?_
  refine WT.seq ?_
  refine WT.seq ?_
  refine WT.region ?_
  refine lq (q_fieldAddr Fld_66_2 rfl) rfl ?_
  refine lq (q_load1 T1_62 rfl (fun w1 hw => hw.rgO (i := 0) rfl 2 1 [pv0_0] rfl)) rfl ?_
  refine lq (q_lenR Sl_62 rfl rfl ph0_0) rfl ?_
  obtain ⟨x1, hx1, h⟩ := bind_some h
  refine lp (p_call Fun_148 rfl (fun w1 hw => m_i_inRange_ok hw.fro N (p0.Pats.length : Int) 1 6 hx1)) rfl ?_
  refine lq (q_not rfl) rfl ?_
  refine lq (q_move rfl) rfl ?_
  obtain ⟨b1, hb_1, h⟩ := bind_some h
  refine WL.cutN 5 [(15, .bool b1), (1, .pointer (some ⟨b_1, 0, none⟩))] ?_ (fun K => ?_)
  rotate_left
  · refine WL.split (d := 10) rfl (fun c1 => ?_) (fun c1 => ?_)
    · replace hb_1 := ite_t hb_1 c1
      refine WL.no rfl rfl rfl rfl ?_
      refine WL.no rfl rfl rfl rfl ?_
      refine WL.no rfl rfl rfl rfl ?_
      refine WL.no rfl rfl rfl rfl ?_
      refine WL.q (q_pick1 rfl rfl) rfl rfl rfl ?_
      cases hb_1
      exact WL.keep (by exact ⟨rfl, rfl, trivial⟩) K
    · replace hb_1 := ite_f hb_1 c1
      refine WL.yes rfl rfl ?_
      refine lq (q_loadN Tn_66 rfl (fun w1 hw => hw.rgO (i := 0) rfl 0 5 [.string p0.Name, .int .i64 p0.Sal, pv0_0, pv0_1, pv0_2] rfl) rfl) rfl ?_
      refine WL.yes rfl rfl ?_
      obtain ⟨x2, hx2, hb_1⟩ := bind_some hb_1
      refine lp (p_call Fun_64 rfl (fun w1 hw => m_i_PosCount_ok hw.fro N p0 ph0_0 ph0_1 ph0_2 hx2)) rfl ?_
      refine WL.yes rfl rfl ?_
      obtain ⟨x3, hx3, hb_1⟩ := bind_some hb_1
      refine lp (p_call Fun_148 rfl (fun w1 hw => m_i_inRange_ok hw.fro N x2 1 3 hx3)) rfl ?_
      refine WL.yes rfl rfl ?_
      refine lq (q_not rfl) rfl ?_
      refine WL.q (q_pick0 rfl rfl) rfl rfl rfl ?_
      cases hb_1
      exact WL.keep (by exact ⟨rfl, rfl, trivial⟩) K
  refine WL.nil ?_
  refine WT.cond rfl (fun c2 => ?_) (fun c2 => ?_)
  · replace h := ite_t h c2
    refine WT.seq ?_
    refine WT.region ?_
    refine lq (q_assign rfl) rfl ?_
    refine WL.nil ?_
    refine WT.ret Try.func149 (resOk.one rfl) (fun w1 hw => ?_)
    subst hb0
    cases h
    exact post_of_St hw
  replace h := ite_f h c2
  refine WT.skip ?_
  refine WT.seq ?_
  refine WT.seq ?_
  refine WT.region ?_
  refine lq (q_fieldAddr Fld_66_2 rfl) rfl ?_
  refine lq (q_load1 T1_62 rfl (fun w1 hw => hw.rgO (i := 0) rfl 2 1 [pv0_0] rfl)) rfl ?_
  refine lq (q_lenR Sl_62 rfl rfl ph0_0) rfl ?_
  refine lq (q_move rfl) rfl ?_
  refine WL.nil ?_
  refine WT.block ?_
  refine WT.loop ?_
  refine WT.mono (l' := [(1, .pointer (some ⟨b_1, 0, none⟩)), (17, pv0_0), (18, .int .i64 (p0.Pats.length : Int)), (19, .int .i64 0)]) (S' := St w0 Φ [(b_1, .cells #[.string p0.Name, .int .i64 p0.Sal, pv0_0, pv0_1, pv0_2] 66 (0, 0))] []) ⟨rfl, rfl, rfl, rfl, trivial⟩ (fun w1 hw => (hw.sel (js := []) rfl).selO (js := [0]) rfl) ?_
  refine loop_ind (σ := Int) (fun s => [(1, .pointer (some ⟨b_1, 0, none⟩)), (17, pv0_0), (18, .int .i64 (p0.Pats.length : Int)), (19, .int .i64 s)]) (fun s => St w0 Φ [(b_1, .cells #[.string p0.Name, .int .i64 p0.Sal, pv0_0, pv0_1, pv0_2] 66 (0, 0))] []) (fun m s => m_i_patsOk_l1 N p0 m s = some r) (fun s hm => none_ne (show (none : Option (Bool)) = some r from hm)) (fun n1 ih1 s hm => ?_) N (0) h
  revert hm; revert s; intro s1 hm
  have h : m_i_patsOk_l1 N p0 (n1 + 1) s1 = some r := hm
  show WT _ _ [(1, .pointer (some ⟨b_1, 0, none⟩)), (17, pv0_0), (18, .int .i64 (p0.Pats.length : Int)), (19, .int .i64 s1)] (St w0 Φ [(b_1, .cells #[.string p0.Name, .int .i64 p0.Sal, pv0_0, pv0_1, pv0_2] 66 (0, 0))] [])
  unfold m_i_patsOk_l1 at h
  refine WT.seq ?_
  refine WT.region ?_
  refine lq (q_lss rfl rfl) rfl ?_
  refine WL.nil ?_
  refine WT.seq ?_
  refine WT.cond rfl (fun c3 => ?_) (fun c3 => ?_)
  · replace h := ite_t h c3
    refine WT.skip ?_
    refine WT.seq ?_
    refine WT.block ?_
    refine WT.seq ?_
    refine WT.region ?_
    refine lq (q_move rfl) rfl ?_
    obtain ⟨x4, hx4, h⟩ := bind_some h
    obtain ⟨cs1, F1, -, g1, hb1, hs1, r1⟩ := ph0_0.el (idx_some hx4).2.2
    obtain ⟨v1, G1, rfl, hq1, h1⟩ := r1
    obtain rfl := hq1.symm
    refine lq (q_indexAddr Sl_62 rfl rfl ph0_0 hx4) rfl ?_
    refine lq (q_loadN Tn_121 rfl (fun w1 hw => (g1.of_eq 0 3 rfl rfl : rg _ _ _ [.string x4.Kind, v1, .bool x4.Not]).rangeAt hw.fro) rfl) rfl ?_
    refine ln (n_alloc (C := #[.string (⟨#[]⟩ : ByteArray), .slice none 0 0, .bool false]) Zr_121 rfl) rfl (fun b_2 => ?_)
    refine lq (q_assign rfl) rfl ?_
    refine ls (s_store (i := 0) (vs := [.string x4.Kind, v1, .bool x4.Not]) (C' := [.string x4.Kind, v1, .bool x4.Not]) (O' := [(b_2, .cells #[.string x4.Kind, v1, .bool x4.Not] 121 (0, 0)), (b_1, .cells #[.string p0.Name, .int .i64 p0.Sal, pv0_0, pv0_1, pv0_2] 66 (0, 0))]) Sz_121 rfl rfl rfl rfl rfl rfl ⟨rfl, h1.one, rfl, trivial⟩ rfl rfl) rfl ?_
    refine WL.nil ?_
    refine WT.seq ?_
    refine WT.draw mixed (by kernel_rfl) (fun _ h => h.drew) ?_
    refine qq (q_loadN Tn_121 rfl (fun w1 hw => hw.rgO (i := 0) rfl 0 3 [.string x4.Kind, v1, .bool x4.Not] rfl) rfl) rfl ?_
    obtain ⟨x5, hx5, h⟩ := bind_some h
    refine qp (p_call Fun_216 rfl (fun w1 hw => m_i_PatOk_ok hw.fro N x4 h1 hx5)) rfl ?_
    refine qq (q_not rfl) rfl ?_
    refine qq (q_move rfl) rfl ?_
    obtain ⟨b2, hb_2, h⟩ := bind_some h
    refine WQ.cutN 8 [(35, .bool b2), (1, .pointer (some ⟨b_1, 0, none⟩)), (17, pv0_0), (18, .int .i64 (p0.Pats.length : Int)), (19, .int .i64 s1)] ?_ (fun K => ?_)
    rotate_left
    · refine WQ.split (d := 27) rfl (fun c4 => ?_) (fun c4 => ?_)
      · replace hb_2 := ite_t hb_2 c4
        refine WQ.no rfl rfl rfl rfl ?_
        refine WQ.no rfl rfl rfl rfl ?_
        refine WQ.no rfl rfl rfl rfl ?_
        refine WQ.no rfl rfl rfl rfl ?_
        refine WQ.no rfl rfl rfl rfl ?_
        refine WQ.no rfl rfl rfl rfl ?_
        refine WQ.no rfl rfl rfl rfl ?_
        refine WQ.q (q_pick1 rfl rfl) rfl rfl rfl ?_
        cases hb_2
        exact WQ.keep (by exact ⟨rfl, rfl, rfl, rfl, rfl, trivial⟩) K
      · replace hb_2 := ite_f hb_2 c4
        refine WQ.yes rfl rfl ?_
        refine qq (q_fieldAddr Fld_121_2 rfl) rfl ?_
        refine WQ.yes rfl rfl ?_
        refine qq (q_load1 T1_4 rfl (fun w1 hw => hw.rgO (i := 0) rfl 2 1 [.bool x4.Not] rfl)) rfl ?_
        refine WQ.yes rfl rfl ?_
        refine qq (q_move rfl) rfl ?_
        refine WQ.yes rfl rfl ?_
        refine qq (q_loadN Tn_66 rfl (fun w1 hw => hw.rgO (i := 1) rfl 0 5 [.string p0.Name, .int .i64 p0.Sal, pv0_0, pv0_1, pv0_2] rfl) rfl) rfl ?_
        refine WQ.yes rfl rfl ?_
        obtain ⟨x6, hx6, hb_2⟩ := bind_some hb_2
        refine qp (p_call Fun_64 rfl (fun w1 hw => m_i_PosCount_ok hw.fro N p0 ph0_0 ph0_1 ph0_2 hx6)) rfl ?_
        refine WQ.yes rfl rfl ?_
        refine qq (q_geq rfl rfl) rfl ?_
        refine WQ.yes rfl rfl ?_
        refine qq (q_bne Bo_4 rfl rfl) rfl ?_
        refine WQ.q (q_pick0 rfl rfl) rfl rfl rfl ?_
        cases hb_2
        exact WQ.keep (by exact ⟨rfl, rfl, rfl, rfl, rfl, trivial⟩) K
    refine WQ.nil ?_
    refine WT.cond rfl (fun c5 => ?_) (fun c5 => ?_)
    · replace h := ite_t h c5
      refine WT.seq ?_
      refine WT.region ?_
      refine lq (q_assign rfl) rfl ?_
      refine WL.nil ?_
      refine WT.ret Try.func149 (resOk.one rfl) (fun w1 hw => ?_)
      subst hb0
      cases h
      exact post_of_St hw
    replace h := ite_f h c5
    refine WT.skip ?_
    refine WT.inBlock ?_
    refine WT.region ?_
    refine lq (q_add rfl rfl) rfl ?_
    refine lq (q_move rfl) rfl ?_
    refine WL.nil ?_
    refine WT.inLoop (WT.mono (l' := [(1, .pointer (some ⟨b_1, 0, none⟩)), (17, pv0_0), (18, .int .i64 (p0.Pats.length : Int)), (19, .int .i64 (IntKind.i64.wrap (s1 + 1)))]) (S' := St w0 Φ [(b_1, .cells #[.string p0.Name, .int .i64 p0.Sal, pv0_0, pv0_1, pv0_2] 66 (0, 0))] []) ⟨rfl, rfl, rfl, rfl, trivial⟩ (fun w1 hw => (hw.sel (js := []) rfl).selO (js := [1]) rfl) ?_)
    exact ih1 (IntKind.i64.wrap (s1 + 1)) h
  replace h := ite_f h c3
  refine WT.exit rfl ?_
  refine WT.seq ?_
  refine WT.region ?_
  refine lq (q_assign rfl) rfl ?_
  refine WL.nil ?_
  refine WT.ret Try.func149 (resOk.one rfl) (fun w1 hw => ?_)
  subst hb0
  cases h
  exact post_of_St hw
theorem m_i_isTerm_ok {Φ : Hp} {w : World} (hΦ : In Φ w) (N : Nat) (p0 : TArg)   {r : Bool} (h : m_i_isTerm N p0 = some r) :
    Calls Try.prog 217 [.agg [.int .i64 p0.K, .string p0.S, .int .i64 p0.V.K, .int .i64 p0.V.N, .string p0.V.S].toArray].toArray w (Post (.bool r) w) := by
  refine enter Try.func217 rfl Try.ntmps217 rfl (St.start0 hΦ) ?_
  unfold m_i_isTerm at h
  refine WT.seq ?_
  refine WT.region ?_
  refine ln (n_box (C := #[.int .i64 p0.K, .string p0.S, .int .i64 p0.V.K, .int .i64 p0.V.N, .string p0.V.S]) rfl rfl) rfl (fun b_1 => ?_)
  refine lq (q_assign rfl) rfl ?_
  refine WL.nil ?_
  refine WT.seq ?_
  refine WT.region ?_
  refine lq (q_fieldAddr Fld_206_0 rfl) rfl ?_
  refine lq (q_load1 T1_3 rfl (fun w1 hw => hw.rgO (i := 0) rfl 0 1 [.int .i64 p0.K] rfl)) rfl ?_
  refine lq (q_neq rfl rfl) rfl ?_
  refine lq (q_move rfl) rfl ?_
  obtain ⟨b1, hb_1, h⟩ := bind_some h
  refine WL.cutN 3 [(9, .bool b1), (2, .bool false)] ?_ (fun K => ?_)
  rotate_left
  · refine WL.split (d := 6) rfl (fun c1 => ?_) (fun c1 => ?_)
    · replace hb_1 := ite_t hb_1 c1
      refine WL.yes rfl rfl ?_
      refine lq (q_loadN Tn_206 rfl (fun w1 hw => hw.rgO (i := 0) rfl 0 5 [.int .i64 p0.K, .string p0.S, .int .i64 p0.V.K, .int .i64 p0.V.N, .string p0.V.S] rfl) rfl) rfl ?_
      refine WL.yes rfl rfl ?_
      obtain ⟨x1, hx1, hb_1⟩ := bind_some hb_1
      refine lp (p_call Fun_262 rfl (fun w1 hw => m_i_ArgOk_ok hw.fro N p0 hx1)) rfl ?_
      refine WL.q (q_pick1 rfl rfl) rfl rfl rfl ?_
      cases hb_1
      exact WL.keep (by exact ⟨rfl, rfl, trivial⟩) K
    · replace hb_1 := ite_f hb_1 c1
      refine WL.no rfl rfl rfl rfl ?_
      refine WL.no rfl rfl rfl rfl ?_
      refine WL.q (q_pick0 rfl rfl) rfl rfl rfl ?_
      cases hb_1
      exact WL.keep (by exact ⟨rfl, rfl, trivial⟩) K
  refine lq (q_assign rfl) rfl ?_
  refine WL.nil ?_
  refine WT.ret Try.func217 (resOk.one rfl) (fun w1 hw => ?_)
  cases h
  exact post_of_St hw
theorem m_i_CondOk_ok {Φ : Hp} {w : World} (hΦ : In Φ w) (N : Nat) (p0 : TCond)   {r : Bool} (h : m_i_CondOk N p0 = some r) :
    Calls Try.prog 150 [.agg [.int .i64 p0.Op, .int .i64 p0.L.K, .string p0.L.S, .int .i64 p0.L.V.K, .int .i64 p0.L.V.N, .string p0.L.V.S, .int .i64 p0.R.K, .string p0.R.S, .int .i64 p0.R.V.K, .int .i64 p0.R.V.N, .string p0.R.V.S].toArray].toArray w (Post (.bool r) w) := by
  refine enter Try.func150 rfl Try.ntmps150 rfl (St.start0 hΦ) ?_
  unfold m_i_CondOk at h
  refine WT.seq ?_
  refine WT.region ?_
  refine ln (n_box (C := #[.int .i64 p0.Op, .int .i64 p0.L.K, .string p0.L.S, .int .i64 p0.L.V.K, .int .i64 p0.L.V.N, .string p0.L.V.S, .int .i64 p0.R.K, .string p0.R.S, .int .i64 p0.R.V.K, .int .i64 p0.R.V.N, .string p0.R.V.S]) rfl rfl) rfl (fun b_1 => ?_)
  refine lq (q_assign rfl) rfl ?_
  refine WL.nil ?_
  refine WT.seq ?_
  refine WT.region ?_
  refine lq (q_fieldAddr Fld_211_0 rfl) rfl ?_
  refine lq (q_load1 T1_3 rfl (fun w1 hw => hw.rgO (i := 0) rfl 0 1 [.int .i64 p0.Op] rfl)) rfl ?_
  obtain ⟨x1, hx1, h⟩ := bind_some h
  refine lp (p_call Fun_148 rfl (fun w1 hw => m_i_inRange_ok hw.fro N p0.Op 1 3 hx1)) rfl ?_
  refine lq (q_move rfl) rfl ?_
  obtain ⟨b1, hb_1, h⟩ := bind_some h
  refine WL.cutN 4 [(10, .bool b1), (1, .pointer (some ⟨b_1, 0, none⟩)), (2, .bool false)] ?_ (fun K => ?_)
  rotate_left
  · refine WL.split (d := 6) rfl (fun c1 => ?_) (fun c1 => ?_)
    · replace hb_1 := ite_t hb_1 c1
      refine WL.yes rfl rfl ?_
      refine lq (q_fieldAddr Fld_211_1 rfl) rfl ?_
      refine WL.yes rfl rfl ?_
      refine lq (q_loadN Tn_206 rfl (fun w1 hw => hw.rgO (i := 0) rfl 1 5 [.int .i64 p0.L.K, .string p0.L.S, .int .i64 p0.L.V.K, .int .i64 p0.L.V.N, .string p0.L.V.S] rfl) rfl) rfl ?_
      refine WL.yes rfl rfl ?_
      obtain ⟨x2, hx2, hb_1⟩ := bind_some hb_1
      refine lp (p_call Fun_217 rfl (fun w1 hw => m_i_isTerm_ok hw.fro N p0.L hx2)) rfl ?_
      refine WL.q (q_pick1 rfl rfl) rfl rfl rfl ?_
      cases hb_1
      exact WL.keep (by exact ⟨rfl, rfl, rfl, trivial⟩) K
    · replace hb_1 := ite_f hb_1 c1
      refine WL.no rfl rfl rfl rfl ?_
      refine WL.no rfl rfl rfl rfl ?_
      refine WL.no rfl rfl rfl rfl ?_
      refine WL.q (q_pick0 rfl rfl) rfl rfl rfl ?_
      cases hb_1
      exact WL.keep (by exact ⟨rfl, rfl, rfl, trivial⟩) K
  refine lq (q_move rfl) rfl ?_
  obtain ⟨b2, hb_2, h⟩ := bind_some h
  refine WL.cutN 4 [(15, .bool b2), (2, .bool false)] ?_ (fun K => ?_)
  rotate_left
  · refine WL.split (d := 11) rfl (fun c2 => ?_) (fun c2 => ?_)
    · replace hb_2 := ite_t hb_2 c2
      refine WL.yes rfl rfl ?_
      refine lq (q_fieldAddr Fld_211_2 rfl) rfl ?_
      refine WL.yes rfl rfl ?_
      refine lq (q_loadN Tn_206 rfl (fun w1 hw => hw.rgO (i := 0) rfl 6 5 [.int .i64 p0.R.K, .string p0.R.S, .int .i64 p0.R.V.K, .int .i64 p0.R.V.N, .string p0.R.V.S] rfl) rfl) rfl ?_
      refine WL.yes rfl rfl ?_
      obtain ⟨x3, hx3, hb_2⟩ := bind_some hb_2
      refine lp (p_call Fun_217 rfl (fun w1 hw => m_i_isTerm_ok hw.fro N p0.R hx3)) rfl ?_
      refine WL.q (q_pick1 rfl rfl) rfl rfl rfl ?_
      cases hb_2
      exact WL.keep (by exact ⟨rfl, rfl, trivial⟩) K
    · replace hb_2 := ite_f hb_2 c2
      refine WL.no rfl rfl rfl rfl ?_
      refine WL.no rfl rfl rfl rfl ?_
      refine WL.no rfl rfl rfl rfl ?_
      refine WL.q (q_pick0 rfl rfl) rfl rfl rfl ?_
      cases hb_2
      exact WL.keep (by exact ⟨rfl, rfl, trivial⟩) K
  refine lq (q_assign rfl) rfl ?_
  refine WL.nil ?_
  refine WT.ret Try.func150 (resOk.one rfl) (fun w1 hw => ?_)
  cases h
  exact post_of_St hw
theorem m_i_ExprOk_ok {Φ : Hp} {w : World} (hΦ : In Φ w) (N : Nat) (p0 : TExpr)   {r : Bool} (h : m_i_ExprOk N p0 = some r) :
    Calls Try.prog 263 [.agg [.string p0.Op, .int .i64 p0.L.K, .string p0.L.S, .int .i64 p0.L.V.K, .int .i64 p0.L.V.N, .string p0.L.V.S, .int .i64 p0.R.K, .string p0.R.S, .int .i64 p0.R.V.K, .int .i64 p0.R.V.N, .string p0.R.V.S].toArray].toArray w (Post (.bool r) w) := by
  refine enter Try.func263 rfl Try.ntmps263 rfl (St.start0 hΦ) ?_
  generalize hb0 : (⟨w, [], Φ⟩ : Base) = w0
  unfold m_i_ExprOk at h
  refine WT.seq ?_
  refine WT.region ?_
  refine ln (n_box (C := #[.string p0.Op, .int .i64 p0.L.K, .string p0.L.S, .int .i64 p0.L.V.K, .int .i64 p0.L.V.N, .string p0.L.V.S, .int .i64 p0.R.K, .string p0.R.S, .int .i64 p0.R.V.K, .int .i64 p0.R.V.N, .string p0.R.V.S]) rfl rfl) rfl (fun b_1 => ?_)
  refine lq (q_assign rfl) rfl ?_
  refine WL.nil ?_
  refine WT.seq ?_
  refine WT.seq ?_
  refine WT.region ?_
  refine lq (q_fieldAddr Fld_285_0 rfl) rfl ?_
  refine lq (q_load1 T1_9 rfl (fun w1 hw => hw.rgO (i := 0) rfl 0 1 [.string p0.Op] rfl)) rfl ?_
  refine WL.nil ?_
  refine WT.block ?_
  refine WT.seq ?_
  refine WT.region ?_
  refine lq (q_seq rfl rfl) rfl ?_
  refine lq (q_assign rfl) rfl ?_
  refine WL.nil ?_
  refine WT.cond rfl (fun c1 => ?_) (fun c1 => ?_)
  · replace h := ite_t h c1
    refine WT.seq ?_
    refine WT.region ?_
    refine lq (q_fieldAddr Fld_285_1 rfl) rfl ?_
    refine lq (q_loadN Tn_206 rfl (fun w1 hw => hw.rgO (i := 0) rfl 1 5 [.int .i64 p0.L.K, .string p0.L.S, .int .i64 p0.L.V.K, .int .i64 p0.L.V.N, .string p0.L.V.S] rfl) rfl) rfl ?_
    obtain ⟨x1, hx1, h⟩ := bind_some h
    refine lp (p_call Fun_217 rfl (fun w1 hw => m_i_isTerm_ok hw.fro N p0.L hx1)) rfl ?_
    refine lq (q_move rfl) rfl ?_
    obtain ⟨b1, hb_1, h⟩ := bind_some h
    refine WL.cutN 5 [(15, .bool b1), (2, .bool false)] ?_ (fun K => ?_)
    rotate_left
    · refine WL.split (d := 10) rfl (fun c2 => ?_) (fun c2 => ?_)
      · replace hb_1 := ite_t hb_1 c2
        refine WL.yes rfl rfl ?_
        refine lq (q_fieldAddr Fld_285_2 rfl) rfl ?_
        refine WL.yes rfl rfl ?_
        refine lq (q_loadN Tn_206 rfl (fun w1 hw => hw.rgO (i := 0) rfl 6 5 [.int .i64 p0.R.K, .string p0.R.S, .int .i64 p0.R.V.K, .int .i64 p0.R.V.N, .string p0.R.V.S] rfl) rfl) rfl ?_
        refine WL.yes rfl rfl ?_
        refine lq (q_build (vs := []) (C := #[.int .i64 0, .string (⟨#[]⟩ : ByteArray), .int .i64 0, .int .i64 0, .string (⟨#[]⟩ : ByteArray)]) Pl_206 Zr_206 rfl (fill_nil)) rfl ?_
        refine WL.yes rfl rfl ?_
        refine lq (q_eqA EqT_206 rfl rfl rfl (r := eqT_TArg p0.R (⟨0, (⟨#[]⟩ : ByteArray), (⟨0, 0, (⟨#[]⟩ : ByteArray)⟩ : TVal)⟩ : TArg)) rfl) rfl ?_
        refine WL.q (q_pick1 rfl rfl) rfl rfl rfl ?_
        cases hb_1
        exact WL.keep (by exact ⟨rfl, rfl, trivial⟩) K
      · replace hb_1 := ite_f hb_1 c2
        refine WL.no rfl rfl rfl rfl ?_
        refine WL.no rfl rfl rfl rfl ?_
        refine WL.no rfl rfl rfl rfl ?_
        refine WL.no rfl rfl rfl rfl ?_
        refine WL.q (q_pick0 rfl rfl) rfl rfl rfl ?_
        cases hb_1
        exact WL.keep (by exact ⟨rfl, rfl, trivial⟩) K
    refine lq (q_assign rfl) rfl ?_
    refine WL.nil ?_
    refine WT.ret Try.func263 (resOk.one rfl) (fun w1 hw => ?_)
    subst hb0
    cases h
    exact post_of_St hw
  replace h := ite_f h c1
  refine WT.seq ?_
  refine WT.seq ?_
  refine WT.region ?_
  refine lq (q_seq rfl rfl) rfl ?_
  refine lq (q_assign rfl) rfl ?_
  refine WL.nil ?_
  refine cut (σ := Bool) (fun s => [(1, .pointer (some ⟨b_1, 0, none⟩)), (16, .bool s)]) (fun s => St w0 Φ [(b_1, .cells #[.string p0.Op, .int .i64 p0.L.K, .string p0.L.S, .int .i64 p0.L.V.K, .int .i64 p0.L.V.N, .string p0.L.V.S, .int .i64 p0.R.K, .string p0.R.S, .int .i64 p0.R.V.K, .int .i64 p0.R.V.N, .string p0.R.V.S] 285 (0, 0))] []) (fun s => m_i_ExprOk_j1 N p0 s = some r) (fun s hm => ?_) (fun K => ?_)
  · clear h
    revert hm; revert s; intro s1 hm
    have h : m_i_ExprOk_j1 N p0 s1 = some r := hm
    show WT _ _ [(1, .pointer (some ⟨b_1, 0, none⟩)), (16, .bool s1)] (St w0 Φ [(b_1, .cells #[.string p0.Op, .int .i64 p0.L.K, .string p0.L.S, .int .i64 p0.L.V.K, .int .i64 p0.L.V.N, .string p0.L.V.S, .int .i64 p0.R.K, .string p0.R.S, .int .i64 p0.R.V.K, .int .i64 p0.R.V.N, .string p0.R.V.S] 285 (0, 0))] [])
    unfold m_i_ExprOk_j1 at h
    refine WT.cond rfl (fun c3 => ?_) (fun c3 => ?_)
    · replace h := ite_t h c3
      refine WT.seq ?_
      refine WT.region ?_
      refine lq (q_fieldAddr Fld_285_1 rfl) rfl ?_
      refine lq (q_loadN Tn_206 rfl (fun w1 hw => hw.rgO (i := 0) rfl 1 5 [.int .i64 p0.L.K, .string p0.L.S, .int .i64 p0.L.V.K, .int .i64 p0.L.V.N, .string p0.L.V.S] rfl) rfl) rfl ?_
      obtain ⟨x2, hx2, h⟩ := bind_some h
      refine lp (p_call Fun_217 rfl (fun w1 hw => m_i_isTerm_ok hw.fro N p0.L hx2)) rfl ?_
      refine lq (q_move rfl) rfl ?_
      obtain ⟨b2, hb_2, h⟩ := bind_some h
      refine WL.cutN 4 [(26, .bool b2)] ?_ (fun K => ?_)
      rotate_left
      · refine WL.split (d := 22) rfl (fun c4 => ?_) (fun c4 => ?_)
        · replace hb_2 := ite_t hb_2 c4
          refine WL.yes rfl rfl ?_
          refine lq (q_fieldAddr Fld_285_2 rfl) rfl ?_
          refine WL.yes rfl rfl ?_
          refine lq (q_loadN Tn_206 rfl (fun w1 hw => hw.rgO (i := 0) rfl 6 5 [.int .i64 p0.R.K, .string p0.R.S, .int .i64 p0.R.V.K, .int .i64 p0.R.V.N, .string p0.R.V.S] rfl) rfl) rfl ?_
          refine WL.yes rfl rfl ?_
          obtain ⟨x3, hx3, hb_2⟩ := bind_some hb_2
          refine lp (p_call Fun_217 rfl (fun w1 hw => m_i_isTerm_ok hw.fro N p0.R hx3)) rfl ?_
          refine WL.q (q_pick1 rfl rfl) rfl rfl rfl ?_
          cases hb_2
          exact WL.keep (by exact ⟨rfl, trivial⟩) K
        · replace hb_2 := ite_f hb_2 c4
          refine WL.no rfl rfl rfl rfl ?_
          refine WL.no rfl rfl rfl rfl ?_
          refine WL.no rfl rfl rfl rfl ?_
          refine WL.q (q_pick0 rfl rfl) rfl rfl rfl ?_
          cases hb_2
          exact WL.keep (by exact ⟨rfl, trivial⟩) K
      refine lq (q_assign rfl) rfl ?_
      refine WL.nil ?_
      refine WT.ret Try.func263 (resOk.one rfl) (fun w1 hw => ?_)
      subst hb0
      cases h
      exact post_of_St hw
    replace h := ite_f h c3
    refine WT.skip ?_
    refine WT.inBlock ?_
    refine WT.seq ?_
    refine WT.region ?_
    refine lq (q_assign rfl) rfl ?_
    refine WL.nil ?_
    refine WT.ret Try.func263 (resOk.one rfl) (fun w1 hw => ?_)
    subst hb0
    cases h
    exact post_of_St hw
  refine WT.cond rfl (fun c5 => ?_) (fun c5 => ?_)
  · replace h := ite_t h c5
    refine WT.skip ?_
    refine WT.mono (l' := [(1, .pointer (some ⟨b_1, 0, none⟩)), (16, .bool (seq p0.Op (⟨#[43]⟩ : ByteArray)))]) (S' := St w0 Φ [(b_1, .cells #[.string p0.Op, .int .i64 p0.L.K, .string p0.L.S, .int .i64 p0.L.V.K, .int .i64 p0.L.V.N, .string p0.L.V.S, .int .i64 p0.R.K, .string p0.R.S, .int .i64 p0.R.V.K, .int .i64 p0.R.V.N, .string p0.R.V.S] 285 (0, 0))] []) ⟨rfl, rfl, trivial⟩ (fun w1 hw => (hw.sel (js := []) rfl).selO (js := [0]) rfl) ?_
    exact K (seq p0.Op (⟨#[43]⟩ : ByteArray)) h
  replace h := ite_f h c5
  refine WT.region ?_
  refine lq (q_seq rfl rfl) rfl ?_
  refine lq (q_assign rfl) rfl ?_
  refine WL.nil ?_
  refine WT.mono (l' := [(1, .pointer (some ⟨b_1, 0, none⟩)), (16, .bool (seq p0.Op (⟨#[45]⟩ : ByteArray)))]) (S' := St w0 Φ [(b_1, .cells #[.string p0.Op, .int .i64 p0.L.K, .string p0.L.S, .int .i64 p0.L.V.K, .int .i64 p0.L.V.N, .string p0.L.V.S, .int .i64 p0.R.K, .string p0.R.S, .int .i64 p0.R.V.K, .int .i64 p0.R.V.N, .string p0.R.V.S] 285 (0, 0))] []) ⟨rfl, rfl, trivial⟩ (fun w1 hw => (hw.sel (js := []) rfl).selO (js := [0]) rfl) ?_
  exact K (seq p0.Op (⟨#[45]⟩ : ByteArray)) h
theorem m_i_argsOk_ok {Φ : Hp} {w : World} (hΦ : In Φ w) (N : Nat) (p0 : TAct) {pv0_0 : Value} {pG0_0 : List Nat} (ph0_0 : RSl RTExpr 11 Φ pG0_0 pv0_0 p0.Args) {r : Bool} (h : m_i_argsOk N p0 = some r) :
    Calls Try.prog 218 [.agg [.int .i64 p0.Kind, .string p0.Name, pv0_0, .int .i64 p0.N, .string p0.Undo].toArray].toArray w (Post (.bool r) w) := by
  refine enter Try.func218 rfl Try.ntmps218 rfl (St.start0 hΦ) ?_
  generalize hb0 : (⟨w, [], Φ⟩ : Base) = w0
  unfold m_i_argsOk at h
  refine WT.seq ?_
  refine WT.region ?_
  refine ln (n_box (C := #[.int .i64 p0.Kind, .string p0.Name, pv0_0, .int .i64 p0.N, .string p0.Undo]) rfl rfl) rfl (fun b_1 => ?_)
  refine lq (q_assign rfl) rfl ?_
  refine WL.nil ?_
  refine WT.seq ?_
  refine WT.seq ?_
  refine WT.region ?_
  refine lq (q_fieldAddr Fld_215_1 rfl) rfl ?_
  refine lq (q_load1 T1_9 rfl (fun w1 hw => hw.rgO (i := 0) rfl 1 1 [.string p0.Name] rfl)) rfl ?_
  obtain ⟨x1, hx1, h⟩ := bind_some h
  refine lp (p_call Fun_147 rfl (fun w1 hw => m_i_NameOk_ok hw.fro N p0.Name hx1)) rfl ?_
  refine lq (q_not rfl) rfl ?_
  refine lq (q_move rfl) rfl ?_
  obtain ⟨b1, hb_1, h⟩ := bind_some h
  refine WL.cutN 5 [(14, .bool b1), (1, .pointer (some ⟨b_1, 0, none⟩))] ?_ (fun K => ?_)
  rotate_left
  · refine WL.split (d := 9) rfl (fun c1 => ?_) (fun c1 => ?_)
    · replace hb_1 := ite_t hb_1 c1
      refine WL.no rfl rfl rfl rfl ?_
      refine WL.no rfl rfl rfl rfl ?_
      refine WL.no rfl rfl rfl rfl ?_
      refine WL.no rfl rfl rfl rfl ?_
      refine WL.q (q_pick1 rfl rfl) rfl rfl rfl ?_
      cases hb_1
      exact WL.keep (by exact ⟨rfl, rfl, trivial⟩) K
    · replace hb_1 := ite_f hb_1 c1
      refine WL.yes rfl rfl ?_
      refine lq (q_fieldAddr Fld_215_2 rfl) rfl ?_
      refine WL.yes rfl rfl ?_
      refine lq (q_load1 T1_213 rfl (fun w1 hw => hw.rgO (i := 0) rfl 2 1 [pv0_0] rfl)) rfl ?_
      refine WL.yes rfl rfl ?_
      refine lq (q_lenR Sl_213 rfl rfl ph0_0) rfl ?_
      refine WL.yes rfl rfl ?_
      refine lq (q_gtr rfl rfl) rfl ?_
      refine WL.q (q_pick0 rfl rfl) rfl rfl rfl ?_
      cases hb_1
      exact WL.keep (by exact ⟨rfl, rfl, trivial⟩) K
  refine WL.nil ?_
  refine WT.cond rfl (fun c2 => ?_) (fun c2 => ?_)
  · replace h := ite_t h c2
    refine WT.seq ?_
    refine WT.region ?_
    refine lq (q_assign rfl) rfl ?_
    refine WL.nil ?_
    refine WT.ret Try.func218 (resOk.one rfl) (fun w1 hw => ?_)
    subst hb0
    cases h
    exact post_of_St hw
  replace h := ite_f h c2
  refine WT.skip ?_
  refine WT.seq ?_
  refine WT.seq ?_
  refine WT.region ?_
  refine lq (q_fieldAddr Fld_215_2 rfl) rfl ?_
  refine lq (q_load1 T1_213 rfl (fun w1 hw => hw.rgO (i := 0) rfl 2 1 [pv0_0] rfl)) rfl ?_
  refine lq (q_lenR Sl_213 rfl rfl ph0_0) rfl ?_
  refine lq (q_move rfl) rfl ?_
  refine WL.nil ?_
  refine WT.block ?_
  refine WT.loop ?_
  refine WT.mono (l' := [(16, pv0_0), (17, .int .i64 (p0.Args.length : Int)), (18, .int .i64 0)]) (S' := St w0 Φ [] []) ⟨rfl, rfl, rfl, trivial⟩ (fun w1 hw => (hw.sel (js := []) rfl).selO (js := []) rfl) ?_
  refine loop_ind (σ := Int) (fun s => [(16, pv0_0), (17, .int .i64 (p0.Args.length : Int)), (18, .int .i64 s)]) (fun s => St w0 Φ [] []) (fun m s => m_i_argsOk_l1 N p0 m s = some r) (fun s hm => none_ne (show (none : Option (Bool)) = some r from hm)) (fun n1 ih1 s hm => ?_) N (0) h
  revert hm; revert s; intro s1 hm
  have h : m_i_argsOk_l1 N p0 (n1 + 1) s1 = some r := hm
  show WT _ _ [(16, pv0_0), (17, .int .i64 (p0.Args.length : Int)), (18, .int .i64 s1)] (St w0 Φ [] [])
  unfold m_i_argsOk_l1 at h
  refine WT.seq ?_
  refine WT.region ?_
  refine lq (q_lss rfl rfl) rfl ?_
  refine WL.nil ?_
  refine WT.seq ?_
  refine WT.cond rfl (fun c3 => ?_) (fun c3 => ?_)
  · replace h := ite_t h c3
    refine WT.skip ?_
    refine WT.seq ?_
    refine WT.block ?_
    refine WT.seq ?_
    refine WT.region ?_
    obtain ⟨x2, hx2, h⟩ := bind_some h
    obtain ⟨cs1, F1, -, g1, hb1, hs1, r1⟩ := ph0_0.el (idx_some hx2).2.2
    obtain ⟨rfl, -⟩ := r1
    refine lq (q_indexAddr Sl_213 rfl rfl ph0_0 hx2) rfl ?_
    refine lq (q_loadN Tn_285 rfl (fun w1 hw => (g1.of_eq 0 11 rfl rfl : rg _ _ _ [.string x2.Op, .int .i64 x2.L.K, .string x2.L.S, .int .i64 x2.L.V.K, .int .i64 x2.L.V.N, .string x2.L.V.S, .int .i64 x2.R.K, .string x2.R.S, .int .i64 x2.R.V.K, .int .i64 x2.R.V.N, .string x2.R.V.S]).rangeAt hw.fro) rfl) rfl ?_
    refine ln (n_alloc (C := #[.string (⟨#[]⟩ : ByteArray), .int .i64 0, .string (⟨#[]⟩ : ByteArray), .int .i64 0, .int .i64 0, .string (⟨#[]⟩ : ByteArray), .int .i64 0, .string (⟨#[]⟩ : ByteArray), .int .i64 0, .int .i64 0, .string (⟨#[]⟩ : ByteArray)]) Zr_285 rfl) rfl (fun b_2 => ?_)
    refine ls (s_store (i := 0) (vs := [.string x2.Op, .int .i64 x2.L.K, .string x2.L.S, .int .i64 x2.L.V.K, .int .i64 x2.L.V.N, .string x2.L.V.S, .int .i64 x2.R.K, .string x2.R.S, .int .i64 x2.R.V.K, .int .i64 x2.R.V.N, .string x2.R.V.S]) (C' := [.string x2.Op, .int .i64 x2.L.K, .string x2.L.S, .int .i64 x2.L.V.K, .int .i64 x2.L.V.N, .string x2.L.V.S, .int .i64 x2.R.K, .string x2.R.S, .int .i64 x2.R.V.K, .int .i64 x2.R.V.N, .string x2.R.V.S]) (O' := [(b_2, .cells #[.string x2.Op, .int .i64 x2.L.K, .string x2.L.S, .int .i64 x2.L.V.K, .int .i64 x2.L.V.N, .string x2.L.V.S, .int .i64 x2.R.K, .string x2.R.S, .int .i64 x2.R.V.K, .int .i64 x2.R.V.N, .string x2.R.V.S] 285 (0, 0))]) Sz_285 rfl rfl rfl rfl rfl rfl ⟨rfl, rfl, rfl, rfl, rfl, rfl, rfl, rfl, rfl, rfl, rfl, trivial⟩ rfl rfl) rfl ?_
    refine WL.nil ?_
    refine WT.seq ?_
    refine WT.region ?_
    refine lq (q_loadN Tn_285 rfl (fun w1 hw => hw.rgO (i := 0) rfl 0 11 [.string x2.Op, .int .i64 x2.L.K, .string x2.L.S, .int .i64 x2.L.V.K, .int .i64 x2.L.V.N, .string x2.L.V.S, .int .i64 x2.R.K, .string x2.R.S, .int .i64 x2.R.V.K, .int .i64 x2.R.V.N, .string x2.R.V.S] rfl) rfl) rfl ?_
    obtain ⟨x3, hx3, h⟩ := bind_some h
    refine lp (p_call Fun_263 rfl (fun w1 hw => m_i_ExprOk_ok hw.fro N x2 hx3)) rfl ?_
    refine lq (q_not rfl) rfl ?_
    refine WL.nil ?_
    refine WT.cond rfl (fun c4 => ?_) (fun c4 => ?_)
    · replace h := ite_t h c4
      refine WT.seq ?_
      refine WT.region ?_
      refine lq (q_assign rfl) rfl ?_
      refine WL.nil ?_
      refine WT.ret Try.func218 (resOk.one rfl) (fun w1 hw => ?_)
      subst hb0
      cases h
      exact post_of_St hw
    replace h := ite_f h c4
    refine WT.skip ?_
    refine WT.inBlock ?_
    refine WT.region ?_
    refine lq (q_add rfl rfl) rfl ?_
    refine lq (q_move rfl) rfl ?_
    refine WL.nil ?_
    refine WT.inLoop (WT.mono (l' := [(16, pv0_0), (17, .int .i64 (p0.Args.length : Int)), (18, .int .i64 (IntKind.i64.wrap (s1 + 1)))]) (S' := St w0 Φ [] []) ⟨rfl, rfl, rfl, trivial⟩ (fun w1 hw => (hw.sel (js := []) rfl).selO (js := []) rfl) ?_)
    exact ih1 (IntKind.i64.wrap (s1 + 1)) h
  replace h := ite_f h c3
  refine WT.exit rfl ?_
  refine WT.seq ?_
  refine WT.region ?_
  refine lq (q_assign rfl) rfl ?_
  refine WL.nil ?_
  refine WT.ret Try.func218 (resOk.one rfl) (fun w1 hw => ?_)
  subst hb0
  cases h
  exact post_of_St hw
theorem m_i_isUndo_ok {Φ : Hp} {w : World} (hΦ : In Φ w) (N : Nat) (p0 : ByteArray)   {r : Bool} (h : m_i_isUndo N p0 = some r) :
    Calls Try.prog 219 [.string p0].toArray w (Post (.bool r) w) := by
  refine enter Try.func219 rfl Try.ntmps219 rfl (St.start0 hΦ) ?_
  unfold m_i_isUndo at h
  refine WT.seq ?_
  refine WT.region ?_
  refine lq (q_assign rfl) rfl ?_
  refine WL.nil ?_
  refine WT.seq ?_
  refine WT.region ?_
  refine lq (q_move rfl) rfl ?_
  refine lq (q_seq rfl rfl) rfl ?_
  refine lq (q_move rfl) rfl ?_
  obtain ⟨b1, hb_1, h⟩ := bind_some h
  refine WL.cutN 3 [(8, .bool b1), (2, .bool false)] ?_ (fun K => ?_)
  rotate_left
  · refine WL.split (d := 5) rfl (fun c1 => ?_) (fun c1 => ?_)
    · replace hb_1 := ite_t hb_1 c1
      refine WL.no rfl rfl rfl rfl ?_
      refine WL.no rfl rfl rfl rfl ?_
      refine WL.q (q_pick1 rfl rfl) rfl rfl rfl ?_
      cases hb_1
      exact WL.keep (by exact ⟨rfl, rfl, trivial⟩) K
    · replace hb_1 := ite_f hb_1 c1
      refine WL.yes rfl rfl ?_
      refine lq (q_move rfl) rfl ?_
      refine WL.yes rfl rfl ?_
      obtain ⟨x1, hx1, hb_1⟩ := bind_some hb_1
      refine lp (p_call Fun_147 rfl (fun w1 hw => m_i_NameOk_ok hw.fro N p0 hx1)) rfl ?_
      refine WL.q (q_pick0 rfl rfl) rfl rfl rfl ?_
      cases hb_1
      exact WL.keep (by exact ⟨rfl, rfl, trivial⟩) K
  refine lq (q_assign rfl) rfl ?_
  refine WL.nil ?_
  refine WT.ret Try.func219 (resOk.one rfl) (fun w1 hw => ?_)
  cases h
  exact post_of_St hw
theorem m_i_ActOk_ok {Φ : Hp} {w : World} (hΦ : In Φ w) (N : Nat) (p0 : TAct) {pv0_0 : Value} {pG0_0 : List Nat} (ph0_0 : RSl RTExpr 11 Φ pG0_0 pv0_0 p0.Args) {r : Bool} (h : m_i_ActOk N p0 = some r) :
    Calls Try.prog 151 [.agg [.int .i64 p0.Kind, .string p0.Name, pv0_0, .int .i64 p0.N, .string p0.Undo].toArray].toArray w (Post (.bool r) w) := by
  refine enter Try.func151 rfl Try.ntmps151 rfl (St.start0 hΦ) ?_
  generalize hb0 : (⟨w, [], Φ⟩ : Base) = w0
  unfold m_i_ActOk at h
  refine WT.seq ?_
  refine WT.region ?_
  refine ln (n_box (C := #[.int .i64 p0.Kind, .string p0.Name, pv0_0, .int .i64 p0.N, .string p0.Undo]) rfl rfl) rfl (fun b_1 => ?_)
  refine lq (q_assign rfl) rfl ?_
  refine WL.nil ?_
  refine WT.seq ?_
  refine WT.region ?_
  refine lq (q_fieldAddr Fld_215_1 rfl) rfl ?_
  refine lq (q_load1 T1_9 rfl (fun w1 hw => hw.rgO (i := 0) rfl 1 1 [.string p0.Name] rfl)) rfl ?_
  refine lq (q_seq rfl rfl) rfl ?_
  refine lq (q_move rfl) rfl ?_
  obtain ⟨b1, hb_1, h⟩ := bind_some h
  refine WL.cutN 5 [(12, .bool b1), (1, .pointer (some ⟨b_1, 0, none⟩))] ?_ (fun K => ?_)
  rotate_left
  · refine WL.split (d := 7) rfl (fun c1 => ?_) (fun c1 => ?_)
    · replace hb_1 := ite_t hb_1 c1
      refine WL.yes rfl rfl ?_
      refine lq (q_fieldAddr Fld_215_2 rfl) rfl ?_
      refine WL.yes rfl rfl ?_
      refine lq (q_load1 T1_213 rfl (fun w1 hw => hw.rgO (i := 0) rfl 2 1 [pv0_0] rfl)) rfl ?_
      refine WL.yes rfl rfl ?_
      refine lq (q_lenR Sl_213 rfl rfl ph0_0) rfl ?_
      refine WL.yes rfl rfl ?_
      refine lq (q_eql rfl rfl) rfl ?_
      refine WL.q (q_pick1 rfl rfl) rfl rfl rfl ?_
      cases hb_1
      exact WL.keep (by exact ⟨rfl, rfl, trivial⟩) K
    · replace hb_1 := ite_f hb_1 c1
      refine WL.no rfl rfl rfl rfl ?_
      refine WL.no rfl rfl rfl rfl ?_
      refine WL.no rfl rfl rfl rfl ?_
      refine WL.no rfl rfl rfl rfl ?_
      refine WL.q (q_pick0 rfl rfl) rfl rfl rfl ?_
      cases hb_1
      exact WL.keep (by exact ⟨rfl, rfl, trivial⟩) K
  refine lq (q_assign rfl) rfl ?_
  refine WL.nil ?_
  refine WT.seq ?_
  refine WT.seq ?_
  refine WT.region ?_
  refine lq (q_fieldAddr Fld_215_0 rfl) rfl ?_
  refine lq (q_load1 T1_3 rfl (fun w1 hw => hw.rgO (i := 0) rfl 0 1 [.int .i64 p0.Kind] rfl)) rfl ?_
  refine WL.nil ?_
  refine WT.block ?_
  refine WT.seq ?_
  refine WT.region ?_
  refine lq (q_eql rfl rfl) rfl ?_
  refine lq (q_assign rfl) rfl ?_
  refine WL.nil ?_
  refine WT.cond rfl (fun c2 => ?_) (fun c2 => ?_)
  · replace h := ite_t h c2
    refine WT.seq ?_
    refine WT.region ?_
    refine lq (q_loadN Tn_215 rfl (fun w1 hw => hw.rgO (i := 0) rfl 0 5 [.int .i64 p0.Kind, .string p0.Name, pv0_0, .int .i64 p0.N, .string p0.Undo] rfl) rfl) rfl ?_
    obtain ⟨x1, hx1, h⟩ := bind_some h
    refine lp (p_call Fun_218 rfl (fun w1 hw => m_i_argsOk_ok hw.fro N p0 ph0_0 hx1)) rfl ?_
    refine lq (q_move rfl) rfl ?_
    obtain ⟨b2, hb_2, h⟩ := bind_some h
    refine WL.cutN 4 [(23, .bool b2), (1, .pointer (some ⟨b_1, 0, none⟩))] ?_ (fun K => ?_)
    rotate_left
    · refine WL.split (d := 19) rfl (fun c3 => ?_) (fun c3 => ?_)
      · replace hb_2 := ite_t hb_2 c3
        refine WL.yes rfl rfl ?_
        refine lq (q_fieldAddr Fld_215_3 rfl) rfl ?_
        refine WL.yes rfl rfl ?_
        refine lq (q_load1 T1_3 rfl (fun w1 hw => hw.rgO (i := 0) rfl 3 1 [.int .i64 p0.N] rfl)) rfl ?_
        refine WL.yes rfl rfl ?_
        refine lq (q_eql rfl rfl) rfl ?_
        refine WL.q (q_pick1 rfl rfl) rfl rfl rfl ?_
        cases hb_2
        exact WL.keep (by exact ⟨rfl, rfl, trivial⟩) K
      · replace hb_2 := ite_f hb_2 c3
        refine WL.no rfl rfl rfl rfl ?_
        refine WL.no rfl rfl rfl rfl ?_
        refine WL.no rfl rfl rfl rfl ?_
        refine WL.q (q_pick0 rfl rfl) rfl rfl rfl ?_
        cases hb_2
        exact WL.keep (by exact ⟨rfl, rfl, trivial⟩) K
    refine lq (q_move rfl) rfl ?_
    obtain ⟨b3, hb_3, h⟩ := bind_some h
    refine WL.cutN 4 [(28, .bool b3)] ?_ (fun K => ?_)
    rotate_left
    · refine WL.split (d := 24) rfl (fun c4 => ?_) (fun c4 => ?_)
      · replace hb_3 := ite_t hb_3 c4
        refine WL.yes rfl rfl ?_
        refine lq (q_fieldAddr Fld_215_4 rfl) rfl ?_
        refine WL.yes rfl rfl ?_
        refine lq (q_load1 T1_9 rfl (fun w1 hw => hw.rgO (i := 0) rfl 4 1 [.string p0.Undo] rfl)) rfl ?_
        refine WL.yes rfl rfl ?_
        refine lq (q_seq rfl rfl) rfl ?_
        refine WL.q (q_pick1 rfl rfl) rfl rfl rfl ?_
        cases hb_3
        exact WL.keep (by exact ⟨rfl, trivial⟩) K
      · replace hb_3 := ite_f hb_3 c4
        refine WL.no rfl rfl rfl rfl ?_
        refine WL.no rfl rfl rfl rfl ?_
        refine WL.no rfl rfl rfl rfl ?_
        refine WL.q (q_pick0 rfl rfl) rfl rfl rfl ?_
        cases hb_3
        exact WL.keep (by exact ⟨rfl, trivial⟩) K
    refine lq (q_assign rfl) rfl ?_
    refine WL.nil ?_
    refine WT.ret Try.func151 (resOk.one rfl) (fun w1 hw => ?_)
    subst hb0
    cases h
    exact post_of_St hw
  replace h := ite_f h c2
  refine WT.seq ?_
  refine WT.region ?_
  refine lq (q_eql rfl rfl) rfl ?_
  refine lq (q_assign rfl) rfl ?_
  refine WL.nil ?_
  refine WT.cond rfl (fun c5 => ?_) (fun c5 => ?_)
  · replace h := ite_t h c5
    refine WT.seq ?_
    refine WT.region ?_
    refine lq (q_move rfl) rfl ?_
    refine lq (q_move rfl) rfl ?_
    obtain ⟨b4, hb_4, h⟩ := bind_some h
    refine WL.cutN 4 [(36, .bool b4), (1, .pointer (some ⟨b_1, 0, none⟩))] ?_ (fun K => ?_)
    rotate_left
    · refine WL.split (d := 32) rfl (fun c6 => ?_) (fun c6 => ?_)
      · replace hb_4 := ite_t hb_4 c6
        refine WL.yes rfl rfl ?_
        refine lq (q_fieldAddr Fld_215_3 rfl) rfl ?_
        refine WL.yes rfl rfl ?_
        refine lq (q_load1 T1_3 rfl (fun w1 hw => hw.rgO (i := 0) rfl 3 1 [.int .i64 p0.N] rfl)) rfl ?_
        refine WL.yes rfl rfl ?_
        obtain ⟨x2, hx2, hb_4⟩ := bind_some hb_4
        refine lp (p_call Fun_148 rfl (fun w1 hw => m_i_inRange_ok hw.fro N p0.N 0 7 hx2)) rfl ?_
        refine WL.q (q_pick1 rfl rfl) rfl rfl rfl ?_
        cases hb_4
        exact WL.keep (by exact ⟨rfl, rfl, trivial⟩) K
      · replace hb_4 := ite_f hb_4 c6
        refine WL.no rfl rfl rfl rfl ?_
        refine WL.no rfl rfl rfl rfl ?_
        refine WL.no rfl rfl rfl rfl ?_
        refine WL.q (q_pick0 rfl rfl) rfl rfl rfl ?_
        cases hb_4
        exact WL.keep (by exact ⟨rfl, rfl, trivial⟩) K
    refine lq (q_move rfl) rfl ?_
    obtain ⟨b5, hb_5, h⟩ := bind_some h
    refine WL.cutN 4 [(41, .bool b5)] ?_ (fun K => ?_)
    rotate_left
    · refine WL.split (d := 37) rfl (fun c7 => ?_) (fun c7 => ?_)
      · replace hb_5 := ite_t hb_5 c7
        refine WL.yes rfl rfl ?_
        refine lq (q_fieldAddr Fld_215_4 rfl) rfl ?_
        refine WL.yes rfl rfl ?_
        refine lq (q_load1 T1_9 rfl (fun w1 hw => hw.rgO (i := 0) rfl 4 1 [.string p0.Undo] rfl)) rfl ?_
        refine WL.yes rfl rfl ?_
        refine lq (q_seq rfl rfl) rfl ?_
        refine WL.q (q_pick1 rfl rfl) rfl rfl rfl ?_
        cases hb_5
        exact WL.keep (by exact ⟨rfl, trivial⟩) K
      · replace hb_5 := ite_f hb_5 c7
        refine WL.no rfl rfl rfl rfl ?_
        refine WL.no rfl rfl rfl rfl ?_
        refine WL.no rfl rfl rfl rfl ?_
        refine WL.q (q_pick0 rfl rfl) rfl rfl rfl ?_
        cases hb_5
        exact WL.keep (by exact ⟨rfl, trivial⟩) K
    refine lq (q_assign rfl) rfl ?_
    refine WL.nil ?_
    refine WT.ret Try.func151 (resOk.one rfl) (fun w1 hw => ?_)
    subst hb0
    cases h
    exact post_of_St hw
  replace h := ite_f h c5
  refine WT.seq ?_
  refine WT.region ?_
  refine lq (q_eql rfl rfl) rfl ?_
  refine lq (q_assign rfl) rfl ?_
  refine WL.nil ?_
  refine WT.cond rfl (fun c8 => ?_) (fun c8 => ?_)
  · replace h := ite_t h c8
    refine WT.seq ?_
    refine WT.region ?_
    refine lq (q_loadN Tn_215 rfl (fun w1 hw => hw.rgO (i := 0) rfl 0 5 [.int .i64 p0.Kind, .string p0.Name, pv0_0, .int .i64 p0.N, .string p0.Undo] rfl) rfl) rfl ?_
    obtain ⟨x3, hx3, h⟩ := bind_some h
    refine lp (p_call Fun_218 rfl (fun w1 hw => m_i_argsOk_ok hw.fro N p0 ph0_0 hx3)) rfl ?_
    refine lq (q_move rfl) rfl ?_
    obtain ⟨b6, hb_6, h⟩ := bind_some h
    refine WL.cutN 4 [(50, .bool b6), (1, .pointer (some ⟨b_1, 0, none⟩))] ?_ (fun K => ?_)
    rotate_left
    · refine WL.split (d := 46) rfl (fun c9 => ?_) (fun c9 => ?_)
      · replace hb_6 := ite_t hb_6 c9
        refine WL.yes rfl rfl ?_
        refine lq (q_fieldAddr Fld_215_3 rfl) rfl ?_
        refine WL.yes rfl rfl ?_
        refine lq (q_load1 T1_3 rfl (fun w1 hw => hw.rgO (i := 0) rfl 3 1 [.int .i64 p0.N] rfl)) rfl ?_
        refine WL.yes rfl rfl ?_
        refine lq (q_eql rfl rfl) rfl ?_
        refine WL.q (q_pick1 rfl rfl) rfl rfl rfl ?_
        cases hb_6
        exact WL.keep (by exact ⟨rfl, rfl, trivial⟩) K
      · replace hb_6 := ite_f hb_6 c9
        refine WL.no rfl rfl rfl rfl ?_
        refine WL.no rfl rfl rfl rfl ?_
        refine WL.no rfl rfl rfl rfl ?_
        refine WL.q (q_pick0 rfl rfl) rfl rfl rfl ?_
        cases hb_6
        exact WL.keep (by exact ⟨rfl, rfl, trivial⟩) K
    refine lq (q_move rfl) rfl ?_
    obtain ⟨b7, hb_7, h⟩ := bind_some h
    refine WL.cutN 4 [(55, .bool b7)] ?_ (fun K => ?_)
    rotate_left
    · refine WL.split (d := 51) rfl (fun c10 => ?_) (fun c10 => ?_)
      · replace hb_7 := ite_t hb_7 c10
        refine WL.yes rfl rfl ?_
        refine lq (q_fieldAddr Fld_215_4 rfl) rfl ?_
        refine WL.yes rfl rfl ?_
        refine lq (q_load1 T1_9 rfl (fun w1 hw => hw.rgO (i := 0) rfl 4 1 [.string p0.Undo] rfl)) rfl ?_
        refine WL.yes rfl rfl ?_
        obtain ⟨x4, hx4, hb_7⟩ := bind_some hb_7
        refine lp (p_call Fun_219 rfl (fun w1 hw => m_i_isUndo_ok hw.fro N p0.Undo hx4)) rfl ?_
        refine WL.q (q_pick1 rfl rfl) rfl rfl rfl ?_
        cases hb_7
        exact WL.keep (by exact ⟨rfl, trivial⟩) K
      · replace hb_7 := ite_f hb_7 c10
        refine WL.no rfl rfl rfl rfl ?_
        refine WL.no rfl rfl rfl rfl ?_
        refine WL.no rfl rfl rfl rfl ?_
        refine WL.q (q_pick0 rfl rfl) rfl rfl rfl ?_
        cases hb_7
        exact WL.keep (by exact ⟨rfl, trivial⟩) K
    refine lq (q_assign rfl) rfl ?_
    refine WL.nil ?_
    refine WT.ret Try.func151 (resOk.one rfl) (fun w1 hw => ?_)
    subst hb0
    cases h
    exact post_of_St hw
  replace h := ite_f h c8
  refine WT.seq ?_
  refine WT.region ?_
  refine lq (q_eql rfl rfl) rfl ?_
  refine lq (q_assign rfl) rfl ?_
  refine WL.nil ?_
  refine WT.cond rfl (fun c11 => ?_) (fun c11 => ?_)
  · replace h := ite_t h c11
    refine WT.seq ?_
    refine WT.region ?_
    refine lq (q_loadN Tn_215 rfl (fun w1 hw => hw.rgO (i := 0) rfl 0 5 [.int .i64 p0.Kind, .string p0.Name, pv0_0, .int .i64 p0.N, .string p0.Undo] rfl) rfl) rfl ?_
    obtain ⟨x5, hx5, h⟩ := bind_some h
    refine lp (p_call Fun_218 rfl (fun w1 hw => m_i_argsOk_ok hw.fro N p0 ph0_0 hx5)) rfl ?_
    refine lq (q_move rfl) rfl ?_
    obtain ⟨b8, hb_8, h⟩ := bind_some h
    refine WL.cutN 4 [(64, .bool b8), (1, .pointer (some ⟨b_1, 0, none⟩))] ?_ (fun K => ?_)
    rotate_left
    · refine WL.split (d := 60) rfl (fun c12 => ?_) (fun c12 => ?_)
      · replace hb_8 := ite_t hb_8 c12
        refine WL.yes rfl rfl ?_
        refine lq (q_fieldAddr Fld_215_3 rfl) rfl ?_
        refine WL.yes rfl rfl ?_
        refine lq (q_load1 T1_3 rfl (fun w1 hw => hw.rgO (i := 0) rfl 3 1 [.int .i64 p0.N] rfl)) rfl ?_
        refine WL.yes rfl rfl ?_
        obtain ⟨x6, hx6, hb_8⟩ := bind_some hb_8
        refine lp (p_call Fun_148 rfl (fun w1 hw => m_i_inRange_ok hw.fro N p0.N 0 100000 hx6)) rfl ?_
        refine WL.q (q_pick1 rfl rfl) rfl rfl rfl ?_
        cases hb_8
        exact WL.keep (by exact ⟨rfl, rfl, trivial⟩) K
      · replace hb_8 := ite_f hb_8 c12
        refine WL.no rfl rfl rfl rfl ?_
        refine WL.no rfl rfl rfl rfl ?_
        refine WL.no rfl rfl rfl rfl ?_
        refine WL.q (q_pick0 rfl rfl) rfl rfl rfl ?_
        cases hb_8
        exact WL.keep (by exact ⟨rfl, rfl, trivial⟩) K
    refine lq (q_move rfl) rfl ?_
    obtain ⟨b9, hb_9, h⟩ := bind_some h
    refine WL.cutN 4 [(69, .bool b9)] ?_ (fun K => ?_)
    rotate_left
    · refine WL.split (d := 65) rfl (fun c13 => ?_) (fun c13 => ?_)
      · replace hb_9 := ite_t hb_9 c13
        refine WL.yes rfl rfl ?_
        refine lq (q_fieldAddr Fld_215_4 rfl) rfl ?_
        refine WL.yes rfl rfl ?_
        refine lq (q_load1 T1_9 rfl (fun w1 hw => hw.rgO (i := 0) rfl 4 1 [.string p0.Undo] rfl)) rfl ?_
        refine WL.yes rfl rfl ?_
        refine lq (q_seq rfl rfl) rfl ?_
        refine WL.q (q_pick1 rfl rfl) rfl rfl rfl ?_
        cases hb_9
        exact WL.keep (by exact ⟨rfl, trivial⟩) K
      · replace hb_9 := ite_f hb_9 c13
        refine WL.no rfl rfl rfl rfl ?_
        refine WL.no rfl rfl rfl rfl ?_
        refine WL.no rfl rfl rfl rfl ?_
        refine WL.q (q_pick0 rfl rfl) rfl rfl rfl ?_
        cases hb_9
        exact WL.keep (by exact ⟨rfl, trivial⟩) K
    refine lq (q_assign rfl) rfl ?_
    refine WL.nil ?_
    refine WT.ret Try.func151 (resOk.one rfl) (fun w1 hw => ?_)
    subst hb0
    cases h
    exact post_of_St hw
  replace h := ite_f h c11
  refine WT.seq ?_
  refine WT.seq ?_
  refine WT.region ?_
  refine lq (q_eql rfl rfl) rfl ?_
  refine lq (q_assign rfl) rfl ?_
  refine WL.nil ?_
  refine cut (σ := Bool) (fun s => [(1, .pointer (some ⟨b_1, 0, none⟩)), (3, .bool b1), (70, .bool s)]) (fun s => St w0 Φ [(b_1, .cells #[.int .i64 p0.Kind, .string p0.Name, pv0_0, .int .i64 p0.N, .string p0.Undo] 215 (0, 0))] []) (fun s => m_i_ActOk_j1 N p0 b1 s = some r) (fun s hm => ?_) (fun K => ?_)
  · clear h
    revert hm; revert s; intro s1 hm
    have h : m_i_ActOk_j1 N p0 b1 s1 = some r := hm
    show WT _ _ [(1, .pointer (some ⟨b_1, 0, none⟩)), (3, .bool b1), (70, .bool s1)] (St w0 Φ [(b_1, .cells #[.int .i64 p0.Kind, .string p0.Name, pv0_0, .int .i64 p0.N, .string p0.Undo] 215 (0, 0))] [])
    unfold m_i_ActOk_j1 at h
    refine WT.cond rfl (fun c14 => ?_) (fun c14 => ?_)
    · replace h := ite_t h c14
      refine WT.seq ?_
      refine WT.region ?_
      refine lq (q_move rfl) rfl ?_
      refine lq (q_move rfl) rfl ?_
      obtain ⟨b10, hb_10, h⟩ := bind_some h
      refine WL.cutN 4 [(78, .bool b10), (1, .pointer (some ⟨b_1, 0, none⟩))] ?_ (fun K => ?_)
      rotate_left
      · refine WL.split (d := 74) rfl (fun c15 => ?_) (fun c15 => ?_)
        · replace hb_10 := ite_t hb_10 c15
          refine WL.yes rfl rfl ?_
          refine lq (q_fieldAddr Fld_215_3 rfl) rfl ?_
          refine WL.yes rfl rfl ?_
          refine lq (q_load1 T1_3 rfl (fun w1 hw => hw.rgO (i := 0) rfl 3 1 [.int .i64 p0.N] rfl)) rfl ?_
          refine WL.yes rfl rfl ?_
          refine lq (q_eql rfl rfl) rfl ?_
          refine WL.q (q_pick1 rfl rfl) rfl rfl rfl ?_
          cases hb_10
          exact WL.keep (by exact ⟨rfl, rfl, trivial⟩) K
        · replace hb_10 := ite_f hb_10 c15
          refine WL.no rfl rfl rfl rfl ?_
          refine WL.no rfl rfl rfl rfl ?_
          refine WL.no rfl rfl rfl rfl ?_
          refine WL.q (q_pick0 rfl rfl) rfl rfl rfl ?_
          cases hb_10
          exact WL.keep (by exact ⟨rfl, rfl, trivial⟩) K
      refine lq (q_move rfl) rfl ?_
      obtain ⟨b11, hb_11, h⟩ := bind_some h
      refine WL.cutN 4 [(83, .bool b11)] ?_ (fun K => ?_)
      rotate_left
      · refine WL.split (d := 79) rfl (fun c16 => ?_) (fun c16 => ?_)
        · replace hb_11 := ite_t hb_11 c16
          refine WL.yes rfl rfl ?_
          refine lq (q_fieldAddr Fld_215_4 rfl) rfl ?_
          refine WL.yes rfl rfl ?_
          refine lq (q_load1 T1_9 rfl (fun w1 hw => hw.rgO (i := 0) rfl 4 1 [.string p0.Undo] rfl)) rfl ?_
          refine WL.yes rfl rfl ?_
          refine lq (q_seq rfl rfl) rfl ?_
          refine WL.q (q_pick1 rfl rfl) rfl rfl rfl ?_
          cases hb_11
          exact WL.keep (by exact ⟨rfl, trivial⟩) K
        · replace hb_11 := ite_f hb_11 c16
          refine WL.no rfl rfl rfl rfl ?_
          refine WL.no rfl rfl rfl rfl ?_
          refine WL.no rfl rfl rfl rfl ?_
          refine WL.q (q_pick0 rfl rfl) rfl rfl rfl ?_
          cases hb_11
          exact WL.keep (by exact ⟨rfl, trivial⟩) K
      refine lq (q_assign rfl) rfl ?_
      refine WL.nil ?_
      refine WT.ret Try.func151 (resOk.one rfl) (fun w1 hw => ?_)
      subst hb0
      cases h
      exact post_of_St hw
    replace h := ite_f h c14
    refine WT.skip ?_
    refine WT.inBlock ?_
    refine WT.seq ?_
    refine WT.region ?_
    refine lq (q_assign rfl) rfl ?_
    refine WL.nil ?_
    refine WT.ret Try.func151 (resOk.one rfl) (fun w1 hw => ?_)
    subst hb0
    cases h
    exact post_of_St hw
  refine WT.cond rfl (fun c17 => ?_) (fun c17 => ?_)
  · replace h := ite_t h c17
    refine WT.skip ?_
    refine WT.mono (l' := [(1, .pointer (some ⟨b_1, 0, none⟩)), (3, .bool b1), (70, .bool (decide (p0.Kind = 5)))]) (S' := St w0 Φ [(b_1, .cells #[.int .i64 p0.Kind, .string p0.Name, pv0_0, .int .i64 p0.N, .string p0.Undo] 215 (0, 0))] []) ⟨rfl, rfl, rfl, trivial⟩ (fun w1 hw => (hw.sel (js := []) rfl).selO (js := [0]) rfl) ?_
    exact K (decide (p0.Kind = 5)) h
  replace h := ite_f h c17
  refine WT.region ?_
  refine lq (q_eql rfl rfl) rfl ?_
  refine lq (q_assign rfl) rfl ?_
  refine WL.nil ?_
  refine WT.mono (l' := [(1, .pointer (some ⟨b_1, 0, none⟩)), (3, .bool b1), (70, .bool (decide (p0.Kind = 6)))]) (S' := St w0 Φ [(b_1, .cells #[.int .i64 p0.Kind, .string p0.Name, pv0_0, .int .i64 p0.N, .string p0.Undo] 215 (0, 0))] []) ⟨rfl, rfl, rfl, trivial⟩ (fun w1 hw => (hw.sel (js := []) rfl).selO (js := [0]) rfl) ?_
  exact K (decide (p0.Kind = 6)) h
end Go.Proofs.Ytjhlmnbkfdkmpaa
