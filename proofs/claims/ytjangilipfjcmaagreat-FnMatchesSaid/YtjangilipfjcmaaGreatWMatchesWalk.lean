/- Printed by a program of ours: each Go function computes its Lean function. -/
import Derived.Test.YtjangilipfjcmaaGreatProg
import Derived.Test.YtjangilipfjcmaaGreatWMatchesWalk4
namespace Go.Proofs.YtjangilipfjcmaaGreat
open Eng
open Go.RowKit (Below)
set_option linter.unusedVariables false
set_option linter.unusedSimpArgs false

set_option maxRecDepth 100000
set_option maxHeartbeats 1000000
theorem m_s_l9Pats_ok {Φ : Hp} {w : World} (hΦ : In Φ w) (N : Nat) (p0 : (List TPat)) {pv0 : Value} {pG0 : List Nat} (ph0 : RSl RTPat 3 Φ pG0 pv0 p0) {r : Bool} (h : m_s_l9Pats N p0 = some r) :
  Calls Tryz.prog 133 [pv0].toArray w (Post (.bool r) w) := by
 refine enter Tryz.func133 rfl Tryz.ntmps133 rfl (St.start0 hΦ) ?_
 generalize hb0 : (⟨w, [], Φ⟩ : Base) = w0
 unfold m_s_l9Pats at h
 refine WT.seq <| WT.region <| lq (q_assign rfl) rfl <| WL.nil <| WT.seq <| WT.seq <| WT.region <| lq (q_assign rfl) rfl <| WL.nil <| WT.block <| WT.loop <| WT.mono (l' := [(0, pv0), (3, .int .i64 0)]) (S' := St w0 Φ [] []) ⟨rfl, rfl, trivial⟩ (fun w1 hw => (hw.sel (js := []) rfl).selO (js := []) rfl) ?_
 refine loop_ind (σ := Int) (fun s => [(0, pv0), (3, .int .i64 s)]) (fun s => St w0 Φ [] []) (fun m s => m_s_l9Pats_l1 N p0 m s = some r) (fun s hm => none_ne (show (none : Option (Bool)) = some r from hm)) (fun n1 ih1 s hm => ?_) N (0) h
 revert hm; revert s; intro s1 hm
 have h : m_s_l9Pats_l1 N p0 (n1 + 1) s1 = some r := hm
 show WT _ _ [(0, pv0), (3, .int .i64 s1)] (St w0 Φ [] [])
 unfold m_s_l9Pats_l1 at h
 refine WT.seq <| WT.seq <| WT.region <| lq (q_move rfl) rfl <| lq (q_move rfl) rfl <| lq (q_lenR Sl_45 rfl rfl ph0) rfl <| lq (q_lss rfl rfl) rfl <| WL.nil ?_
 refine WT.cond rfl (fun c1 => ?_) (fun c1 => ?_)
 ·replace h := ite_t h c1
  refine WT.skip <| WT.seq <| WT.block <| WT.seq <| WT.seq <| WT.region <| lq (q_move rfl) rfl <| lq (q_gtr rfl rfl) rfl <| lq (q_move rfl) rfl ?_
  obtain ⟨b1, hb_1, h⟩ := bind_some h
  refine WL.cutN 7 [(19, .bool b1), (0, pv0), (3, .int .i64 s1)] ?_ (fun K => ?_)
  rotate_left
  ·refine WL.split (d := 12) rfl (fun c2 => ?_) (fun c2 => ?_)
   ·replace hb_1 := ite_t hb_1 c2
    refine WL.yes rfl rfl <| lq (q_move rfl) rfl <| WL.yes rfl rfl <| lq (q_move rfl) rfl <| WL.yes rfl rfl ?_
    obtain ⟨x1, hx1, hb_1⟩ := bind_some hb_1
    obtain ⟨cs1, F1, -, g1, hb1, hs1, r1⟩ := ph0.el (idx_some hx1).2.2
    obtain ⟨v1, G1, rfl, hq1, h1⟩ := r1
    obtain rfl := hq1.symm
    refine lq (q_indexAddr Sl_45 rfl rfl ph0 hx1) rfl <| WL.yes rfl rfl <| lq (q_fieldAddr Fld_114_2 rfl) rfl <| WL.yes rfl rfl <| lq (q_load1 T1_4 rfl (fun w1 hw => (g1.of_eq 2 1 rfl rfl : rg _ _ _ [.bool x1.Not]).rangeAt hw.fro)) rfl <| WL.yes rfl rfl <| lq (q_not rfl) rfl <| WL.q (q_pick1 rfl rfl) rfl rfl rfl ?_
    cases hb_1
    exact WL.keep (by exact ⟨rfl, rfl, rfl, trivial⟩) K
   ·replace hb_1 := ite_f hb_1 c2
    refine WL.no rfl rfl rfl rfl <| WL.no rfl rfl rfl rfl <| WL.no rfl rfl rfl rfl <| WL.no rfl rfl rfl rfl <| WL.no rfl rfl rfl rfl <| WL.no rfl rfl rfl rfl <| WL.q (q_pick0 rfl rfl) rfl rfl rfl ?_
    cases hb_1
    exact WL.keep (by exact ⟨rfl, rfl, rfl, trivial⟩) K
  refine WL.nil ?_
  refine WT.cond rfl (fun c3 => ?_) (fun c3 => ?_)
  ·replace h := ite_t h c3
   refine WT.seq <| WT.region <| lq (q_assign rfl) rfl <| WL.nil ?_
   refine WT.ret Tryz.func133 (resOk.one rfl) (fun w1 hw => ?_)
   subst hb0
   cases h
   exact post_of_St hw
  replace h := ite_f h c3
  refine WT.skip <| WT.seq <| WT.region <| lq (q_move rfl) rfl <| lq (q_move rfl) rfl ?_
  obtain ⟨x2, hx2, h⟩ := bind_some h
  obtain ⟨cs2, F2, -, g2, hb2, hs2, r2⟩ := ph0.el (idx_some hx2).2.2
  obtain ⟨v2, G2, rfl, hq2, h2⟩ := r2
  obtain rfl := hq2.symm
  refine lq (q_indexAddr Sl_45 rfl rfl ph0 hx2) rfl <| lq (q_loadN Tn_114 rfl (fun w1 hw => (g2.of_eq 0 3 rfl rfl : rg _ _ _ [.string x2.Kind, v2, .bool x2.Not]).rangeAt hw.fro) rfl) rfl ?_
  obtain ⟨x3, hx3, h⟩ := bind_some h
  refine lp (p_call Fun_191 rfl (fun w1 hw => m_s_PatOk_ok hw.fro N x2 h2 hx3)) rfl <| lq (q_not rfl) rfl <| lq (q_move rfl) rfl ?_
  obtain ⟨b2, hb_2, h⟩ := bind_some h
  refine WL.cutN 10 [(36, .bool b2), (0, pv0), (3, .int .i64 s1)] ?_ (fun K => ?_)
  rotate_left
  ·refine WL.split (d := 26) rfl (fun c4 => ?_) (fun c4 => ?_)
   ·replace hb_2 := ite_t hb_2 c4
    refine WL.no rfl rfl rfl rfl <| WL.no rfl rfl rfl rfl <| WL.no rfl rfl rfl rfl <| WL.nox rfl rfl rfl rfl <| WL.nox rfl rfl rfl rfl <| WL.nox rfl rfl rfl rfl <| WL.nox rfl rfl rfl rfl <| WL.nox rfl rfl rfl rfl <| WL.no rfl rfl rfl rfl <| WL.q (q_pick1 rfl rfl) rfl rfl rfl ?_
    cases hb_2
    exact WL.keep (by exact ⟨rfl, rfl, rfl, trivial⟩) K
   ·replace hb_2 := ite_f hb_2 c4
    refine WL.yes rfl rfl <| lq (q_move rfl) rfl <| WL.yes rfl rfl <| lq (q_eql rfl rfl) rfl <| WL.yes rfl rfl <| lq (q_move rfl) rfl ?_
    obtain ⟨b3, hb_3, hb_2⟩ := bind_some hb_2
    refine WL.cutN 6 [(35, .bool b3), (0, pv0), (3, .int .i64 s1), (26, .bool false)] ?_ (fun K => ?_)
    rotate_left
    ·refine WL.split (d := 29) rfl (fun c5 => ?_) (fun c5 => ?_)
     ·replace hb_3 := ite_t hb_3 c5
      refine WL.yes rfl rfl <| lq (q_move rfl) rfl <| WL.yes rfl rfl <| lq (q_move rfl) rfl <| WL.yes rfl rfl ?_
      obtain ⟨x4, hx4, hb_3⟩ := bind_some hb_3
      obtain ⟨cs3, F3, -, g3, hb3, hs3, r3⟩ := ph0.el (idx_some hx4).2.2
      obtain ⟨v3, G3, rfl, hq3, h3⟩ := r3
      obtain rfl := hq3.symm
      refine lq (q_indexAddr Sl_45 rfl rfl ph0 hx4) rfl <| WL.yes rfl rfl <| lq (q_fieldAddr Fld_114_2 rfl) rfl <| WL.yes rfl rfl <| lq (q_load1 T1_4 rfl (fun w1 hw => (g3.of_eq 2 1 rfl rfl : rg _ _ _ [.bool x4.Not]).rangeAt hw.fro)) rfl <| WL.yes rfl rfl <| WL.q (q_pick1 rfl rfl) rfl rfl rfl ?_
      cases hb_3
      exact WL.keep (by exact ⟨rfl, rfl, rfl, rfl, trivial⟩) K
     ·replace hb_3 := ite_f hb_3 c5
      refine WL.no rfl rfl rfl rfl <| WL.no rfl rfl rfl rfl <| WL.no rfl rfl rfl rfl <| WL.no rfl rfl rfl rfl <| WL.no rfl rfl rfl rfl <| WL.yes rfl rfl <| WL.q (q_pick0 rfl rfl) rfl rfl rfl ?_
      cases hb_3
      exact WL.keep (by exact ⟨rfl, rfl, rfl, rfl, trivial⟩) K
    refine WL.q (q_pick0 rfl rfl) rfl rfl rfl ?_
    cases hb_2
    exact WL.keep (by exact ⟨rfl, rfl, rfl, trivial⟩) K
  refine lq (q_move rfl) rfl ?_
  obtain ⟨b4, hb_4, h⟩ := bind_some h
  refine WL.cutN 19 [(56, .bool b4), (0, pv0), (3, .int .i64 s1)] ?_ (fun K => ?_)
  rotate_left
  ·refine WL.split (d := 37) rfl (fun c6 => ?_) (fun c6 => ?_)
   ·replace hb_4 := ite_t hb_4 c6
    refine WL.no rfl rfl rfl rfl <| WL.no rfl rfl rfl rfl <| WL.no rfl rfl rfl rfl <| WL.nox rfl rfl rfl rfl <| WL.nox rfl rfl rfl rfl <| WL.nox rfl rfl rfl rfl <| WL.nox rfl rfl rfl rfl <| WL.nox rfl rfl rfl rfl <| WL.nox rfl rfl rfl rfl <| WL.no rfl rfl rfl rfl <| WL.no rfl rfl rfl rfl <| WL.nox rfl rfl rfl rfl <| WL.nox rfl rfl rfl rfl <| WL.nox rfl rfl rfl rfl <| WL.nox rfl rfl rfl rfl <| WL.nox rfl rfl rfl rfl <| WL.nox rfl rfl rfl rfl <| WL.no rfl rfl rfl rfl <| WL.q (q_pick1 rfl rfl) rfl rfl rfl ?_
    cases hb_4
    exact WL.keep (by exact ⟨rfl, rfl, rfl, trivial⟩) K
   ·replace hb_4 := ite_f hb_4 c6
    refine WL.yes rfl rfl <| lq (q_move rfl) rfl <| WL.yes rfl rfl <| lq (q_gtr rfl rfl) rfl <| WL.yes rfl rfl <| lq (q_move rfl) rfl ?_
    obtain ⟨b5, hb_5, hb_4⟩ := bind_some hb_4
    refine WL.cutN 7 [(47, .bool b5), (0, pv0), (3, .int .i64 s1), (37, .bool false)] ?_ (fun K => ?_)
    rotate_left
    ·refine WL.split (d := 40) rfl (fun c7 => ?_) (fun c7 => ?_)
     ·replace hb_5 := ite_t hb_5 c7
      refine WL.yes rfl rfl <| lq (q_move rfl) rfl <| WL.yes rfl rfl <| lq (q_move rfl) rfl <| WL.yes rfl rfl <| lq (q_sub rfl rfl) rfl <| WL.yes rfl rfl ?_
      obtain ⟨x5, hx5, hb_5⟩ := bind_some hb_5
      obtain ⟨cs4, F4, -, g4, hb4, hs4, r4⟩ := ph0.el (idx_some hx5).2.2
      obtain ⟨v4, G4, rfl, hq4, h4⟩ := r4
      obtain rfl := hq4.symm
      refine lq (q_indexAddr Sl_45 rfl rfl ph0 hx5) rfl <| WL.yes rfl rfl <| lq (q_fieldAddr Fld_114_2 rfl) rfl <| WL.yes rfl rfl <| lq (q_load1 T1_4 rfl (fun w1 hw => (g4.of_eq 2 1 rfl rfl : rg _ _ _ [.bool x5.Not]).rangeAt hw.fro)) rfl <| WL.yes rfl rfl <| WL.q (q_pick1 rfl rfl) rfl rfl rfl ?_
      cases hb_5
      exact WL.keep (by exact ⟨rfl, rfl, rfl, rfl, trivial⟩) K
     ·replace hb_5 := ite_f hb_5 c7
      refine WL.no rfl rfl rfl rfl <| WL.no rfl rfl rfl rfl <| WL.no rfl rfl rfl rfl <| WL.no rfl rfl rfl rfl <| WL.no rfl rfl rfl rfl <| WL.no rfl rfl rfl rfl <| WL.yes rfl rfl <| WL.q (q_pick0 rfl rfl) rfl rfl rfl ?_
      cases hb_5
      exact WL.keep (by exact ⟨rfl, rfl, rfl, rfl, trivial⟩) K
    refine WL.yes rfl rfl <| lq (q_move rfl) rfl ?_
    obtain ⟨b6, hb_6, hb_4⟩ := bind_some hb_4
    refine WL.cutN 7 [(55, .bool b6), (0, pv0), (3, .int .i64 s1), (37, .bool false)] ?_ (fun K => ?_)
    rotate_left
    ·refine WL.split (d := 48) rfl (fun c8 => ?_) (fun c8 => ?_)
     ·replace hb_6 := ite_t hb_6 c8
      refine WL.yes rfl rfl <| lq (q_move rfl) rfl <| WL.yes rfl rfl <| lq (q_move rfl) rfl <| WL.yes rfl rfl ?_
      obtain ⟨x6, hx6, hb_6⟩ := bind_some hb_6
      obtain ⟨cs5, F5, -, g5, hb5, hs5, r5⟩ := ph0.el (idx_some hx6).2.2
      obtain ⟨v5, G5, rfl, hq5, h5⟩ := r5
      obtain rfl := hq5.symm
      refine lq (q_indexAddr Sl_45 rfl rfl ph0 hx6) rfl <| WL.yes rfl rfl <| lq (q_fieldAddr Fld_114_2 rfl) rfl <| WL.yes rfl rfl <| lq (q_load1 T1_4 rfl (fun w1 hw => (g5.of_eq 2 1 rfl rfl : rg _ _ _ [.bool x6.Not]).rangeAt hw.fro)) rfl <| WL.yes rfl rfl <| lq (q_not rfl) rfl <| WL.yes rfl rfl <| WL.q (q_pick1 rfl rfl) rfl rfl rfl ?_
      cases hb_6
      exact WL.keep (by exact ⟨rfl, rfl, rfl, rfl, trivial⟩) K
     ·replace hb_6 := ite_f hb_6 c8
      refine WL.no rfl rfl rfl rfl <| WL.no rfl rfl rfl rfl <| WL.no rfl rfl rfl rfl <| WL.no rfl rfl rfl rfl <| WL.no rfl rfl rfl rfl <| WL.no rfl rfl rfl rfl <| WL.yes rfl rfl <| WL.q (q_pick0 rfl rfl) rfl rfl rfl ?_
      cases hb_6
      exact WL.keep (by exact ⟨rfl, rfl, rfl, rfl, trivial⟩) K
    refine WL.q (q_pick0 rfl rfl) rfl rfl rfl ?_
    cases hb_4
    exact WL.keep (by exact ⟨rfl, rfl, rfl, trivial⟩) K
  refine WL.nil ?_
  refine WT.cond rfl (fun c9 => ?_) (fun c9 => ?_)
  ·replace h := ite_t h c9
   refine WT.seq <| WT.region <| lq (q_assign rfl) rfl <| WL.nil ?_
   refine WT.ret Tryz.func133 (resOk.one rfl) (fun w1 hw => ?_)
   subst hb0
   cases h
   exact post_of_St hw
  replace h := ite_f h c9
  refine WT.skip <| WT.inBlock <| WT.region <| lq (q_move rfl) rfl <| lq (q_add rfl rfl) rfl <| lq (q_assign rfl) rfl <| WL.nil ?_
  refine WT.inLoop (WT.mono (l' := [(0, pv0), (3, .int .i64 (IntKind.i64.wrap (s1 + 1)))]) (S' := St w0 Φ [] []) ⟨rfl, rfl, trivial⟩ (fun w1 hw => (hw.sel (js := []) rfl).selO (js := []) rfl) ?_)
  exact ih1 (IntKind.i64.wrap (s1 + 1)) h
 replace h := ite_f h c1
 refine WT.exit rfl <| WT.seq <| WT.region <| lq (q_move rfl) rfl <| lq (q_lenR Sl_45 rfl rfl ph0) rfl ?_
 obtain ⟨x7, hx7, h⟩ := bind_some h
 refine lp (p_call Fun_85 rfl (fun w1 hw => m_s_l1In_ok hw.fro N (p0.length : Int) 1 6 hx7)) rfl <| lq (q_assign rfl) rfl <| WL.nil ?_
 refine WT.ret Tryz.func133 (resOk.one rfl) (fun w1 hw => ?_)
 subst hb0
 cases h
 exact post_of_St hw
theorem m_s_CondOk_ok {Φ : Hp} {w : World} (hΦ : In Φ w) (N : Nat) (p0 : TCond)   {r : Bool} (h : m_s_CondOk N p0 = some r) :
  Calls Tryz.prog 192 [.agg [.int .i64 p0.Op, .int .i64 p0.L.K, .string p0.L.S, .int .i64 p0.L.V.K, .int .i64 p0.L.V.N, .string p0.L.V.S, .int .i64 p0.R.K, .string p0.R.S, .int .i64 p0.R.V.K, .int .i64 p0.R.V.N, .string p0.R.V.S].toArray].toArray w (Post (.bool r) w) := by
 refine enter Tryz.func192 rfl Tryz.ntmps192 rfl (St.start0 hΦ) ?_
 unfold m_s_CondOk at h
 refine WT.seq <| WT.region ?_
 refine ln (n_box (C := #[.int .i64 p0.Op, .int .i64 p0.L.K, .string p0.L.S, .int .i64 p0.L.V.K, .int .i64 p0.L.V.N, .string p0.L.V.S, .int .i64 p0.R.K, .string p0.R.S, .int .i64 p0.R.V.K, .int .i64 p0.R.V.N, .string p0.R.V.S]) rfl rfl) rfl (fun b_1 => ?_)
 refine lq (q_assign rfl) rfl <| WL.nil <| WT.seq <| WT.region <| lq (q_fieldAddr Fld_128_0 rfl) rfl <| lq (q_load1 T1_3 rfl (fun w1 hw => hw.rgO (i := 0) rfl 0 1 [.int .i64 p0.Op] rfl)) rfl ?_
 obtain ⟨x1, hx1, h⟩ := bind_some h
 refine lp (p_call Fun_85 rfl (fun w1 hw => m_s_l1In_ok hw.fro N p0.Op 1 3 hx1)) rfl <| lq (q_move rfl) rfl ?_
 obtain ⟨b1, hb_1, h⟩ := bind_some h
 refine WL.cutN 4 [(10, .bool b1), (1, .pointer (some ⟨b_1, 0, none⟩)), (2, .bool false)] ?_ (fun K => ?_)
 rotate_left
 ·refine WL.split (d := 6) rfl (fun c1 => ?_) (fun c1 => ?_)
  ·replace hb_1 := ite_t hb_1 c1
   refine WL.yes rfl rfl <| lq (q_fieldAddr Fld_128_1 rfl) rfl <| WL.yes rfl rfl <| lq (q_loadN Tn_126 rfl (fun w1 hw => hw.rgO (i := 0) rfl 1 5 [.int .i64 p0.L.K, .string p0.L.S, .int .i64 p0.L.V.K, .int .i64 p0.L.V.N, .string p0.L.V.S] rfl) rfl) rfl <| WL.yes rfl rfl ?_
   obtain ⟨x2, hx2, hb_1⟩ := bind_some hb_1
   refine lp (p_call Fun_221 rfl (fun w1 hw => m_s_ArgOk_ok hw.fro N p0.L hx2)) rfl <| WL.q (q_pick1 rfl rfl) rfl rfl rfl ?_
   cases hb_1
   exact WL.keep (by exact ⟨rfl, rfl, rfl, trivial⟩) K
  ·replace hb_1 := ite_f hb_1 c1
   refine WL.no rfl rfl rfl rfl <| WL.no rfl rfl rfl rfl <| WL.no rfl rfl rfl rfl <| WL.q (q_pick0 rfl rfl) rfl rfl rfl ?_
   cases hb_1
   exact WL.keep (by exact ⟨rfl, rfl, rfl, trivial⟩) K
 refine lq (q_move rfl) rfl ?_
 obtain ⟨b2, hb_2, h⟩ := bind_some h
 refine WL.cutN 4 [(15, .bool b2), (1, .pointer (some ⟨b_1, 0, none⟩)), (2, .bool false)] ?_ (fun K => ?_)
 rotate_left
 ·refine WL.split (d := 11) rfl (fun c2 => ?_) (fun c2 => ?_)
  ·replace hb_2 := ite_t hb_2 c2
   refine WL.yes rfl rfl <| lq (q_fieldAddr Fld_128_2 rfl) rfl <| WL.yes rfl rfl <| lq (q_loadN Tn_126 rfl (fun w1 hw => hw.rgO (i := 0) rfl 6 5 [.int .i64 p0.R.K, .string p0.R.S, .int .i64 p0.R.V.K, .int .i64 p0.R.V.N, .string p0.R.V.S] rfl) rfl) rfl <| WL.yes rfl rfl ?_
   obtain ⟨x3, hx3, hb_2⟩ := bind_some hb_2
   refine lp (p_call Fun_221 rfl (fun w1 hw => m_s_ArgOk_ok hw.fro N p0.R hx3)) rfl <| WL.q (q_pick1 rfl rfl) rfl rfl rfl ?_
   cases hb_2
   exact WL.keep (by exact ⟨rfl, rfl, rfl, trivial⟩) K
  ·replace hb_2 := ite_f hb_2 c2
   refine WL.no rfl rfl rfl rfl <| WL.no rfl rfl rfl rfl <| WL.no rfl rfl rfl rfl <| WL.q (q_pick0 rfl rfl) rfl rfl rfl ?_
   cases hb_2
   exact WL.keep (by exact ⟨rfl, rfl, rfl, trivial⟩) K
 refine lq (q_move rfl) rfl ?_
 obtain ⟨b3, hb_3, h⟩ := bind_some h
 refine WL.cutN 5 [(21, .bool b3), (1, .pointer (some ⟨b_1, 0, none⟩)), (2, .bool false)] ?_ (fun K => ?_)
 rotate_left
 ·refine WL.split (d := 16) rfl (fun c3 => ?_) (fun c3 => ?_)
  ·replace hb_3 := ite_t hb_3 c3
   refine WL.yes rfl rfl <| lq (q_fieldAddr Fld_128_1 rfl) rfl <| WL.yes rfl rfl <| lq (q_fieldAddr Fld_126_0 rfl) rfl <| WL.yes rfl rfl <| lq (q_load1 T1_3 rfl (fun w1 hw => hw.rgO (i := 0) rfl 1 1 [.int .i64 p0.L.K] rfl)) rfl <| WL.yes rfl rfl <| lq (q_neq rfl rfl) rfl <| WL.q (q_pick1 rfl rfl) rfl rfl rfl ?_
   cases hb_3
   exact WL.keep (by exact ⟨rfl, rfl, rfl, trivial⟩) K
  ·replace hb_3 := ite_f hb_3 c3
   refine WL.no rfl rfl rfl rfl <| WL.no rfl rfl rfl rfl <| WL.no rfl rfl rfl rfl <| WL.no rfl rfl rfl rfl <| WL.q (q_pick0 rfl rfl) rfl rfl rfl ?_
   cases hb_3
   exact WL.keep (by exact ⟨rfl, rfl, rfl, trivial⟩) K
 refine lq (q_move rfl) rfl ?_
 obtain ⟨b4, hb_4, h⟩ := bind_some h
 refine WL.cutN 5 [(27, .bool b4), (2, .bool false)] ?_ (fun K => ?_)
 rotate_left
 ·refine WL.split (d := 22) rfl (fun c4 => ?_) (fun c4 => ?_)
  ·replace hb_4 := ite_t hb_4 c4
   refine WL.yes rfl rfl <| lq (q_fieldAddr Fld_128_2 rfl) rfl <| WL.yes rfl rfl <| lq (q_fieldAddr Fld_126_0 rfl) rfl <| WL.yes rfl rfl <| lq (q_load1 T1_3 rfl (fun w1 hw => hw.rgO (i := 0) rfl 6 1 [.int .i64 p0.R.K] rfl)) rfl <| WL.yes rfl rfl <| lq (q_neq rfl rfl) rfl <| WL.q (q_pick1 rfl rfl) rfl rfl rfl ?_
   cases hb_4
   exact WL.keep (by exact ⟨rfl, rfl, trivial⟩) K
  ·replace hb_4 := ite_f hb_4 c4
   refine WL.no rfl rfl rfl rfl <| WL.no rfl rfl rfl rfl <| WL.no rfl rfl rfl rfl <| WL.no rfl rfl rfl rfl <| WL.q (q_pick0 rfl rfl) rfl rfl rfl ?_
   cases hb_4
   exact WL.keep (by exact ⟨rfl, rfl, trivial⟩) K
 refine lq (q_assign rfl) rfl <| WL.nil ?_
 refine WT.ret Tryz.func192 (resOk.one rfl) (fun w1 hw => ?_)
 cases h
 exact post_of_St hw
theorem m_s_l9Conds_ok {Φ : Hp} {w : World} (hΦ : In Φ w) (N : Nat) (p0 : (List TCond)) (p1 : (List ByteArray)) {pv0 : Value} {pG0 : List Nat} {pv1 : Value} {pG1 : List Nat} (ph0 : RSl RTCond 11 Φ pG0 pv0 p0) (ph1 : RSl RS 1 Φ pG1 pv1 p1) {r : Bool} (h : m_s_l9Conds N p0 p1 = some r) :
  Calls Tryz.prog 134 [pv0, pv1].toArray w (Post (.bool r) w) := by
 refine enter Tryz.func134 rfl Tryz.ntmps134 rfl (St.start0 hΦ) ?_
 generalize hb0 : (⟨w, [], Φ⟩ : Base) = w0
 unfold m_s_l9Conds at h
 refine WT.seq <| WT.region <| lq (q_assign rfl) rfl <| WL.nil <| WT.seq <| WT.seq <| WT.region <| lq (q_assign rfl) rfl <| WL.nil <| WT.block <| WT.loop <| WT.mono (l' := [(0, pv0), (1, pv1), (5, .int .i64 0)]) (S' := St w0 Φ [] []) ⟨rfl, rfl, rfl, trivial⟩ (fun w1 hw => (hw.sel (js := []) rfl).selO (js := []) rfl) ?_
 refine loop_ind (σ := Int) (fun s => [(0, pv0), (1, pv1), (5, .int .i64 s)]) (fun s => St w0 Φ [] []) (fun m s => m_s_l9Conds_l1 N p0 p1 m s = some r) (fun s hm => none_ne (show (none : Option (Bool)) = some r from hm)) (fun n1 ih1 s hm => ?_) N (0) h
 revert hm; revert s; intro s1 hm
 have h : m_s_l9Conds_l1 N p0 p1 (n1 + 1) s1 = some r := hm
 show WT _ _ [(0, pv0), (1, pv1), (5, .int .i64 s1)] (St w0 Φ [] [])
 unfold m_s_l9Conds_l1 at h
 refine WT.seq <| WT.seq <| WT.region <| lq (q_move rfl) rfl <| lq (q_move rfl) rfl <| lq (q_lenR Sl_46 rfl rfl ph0) rfl <| lq (q_lss rfl rfl) rfl <| WL.nil ?_
 refine WT.cond rfl (fun c1 => ?_) (fun c1 => ?_)
 ·replace h := ite_t h c1
  refine WT.skip <| WT.seq <| WT.block <| WT.seq <| WT.region <| lq (q_move rfl) rfl <| lq (q_move rfl) rfl ?_
  obtain ⟨x1, hx1, h⟩ := bind_some h
  obtain ⟨cs1, F1, -, g1, hb1, hs1, r1⟩ := ph0.el (idx_some hx1).2.2
  obtain ⟨rfl, -⟩ := r1
  refine lq (q_indexAddr Sl_46 rfl rfl ph0 hx1) rfl <| lq (q_loadN Tn_128 rfl (fun w1 hw => (g1.of_eq 0 11 rfl rfl : rg _ _ _ [.int .i64 x1.Op, .int .i64 x1.L.K, .string x1.L.S, .int .i64 x1.L.V.K, .int .i64 x1.L.V.N, .string x1.L.V.S, .int .i64 x1.R.K, .string x1.R.S, .int .i64 x1.R.V.K, .int .i64 x1.R.V.N, .string x1.R.V.S]).rangeAt hw.fro) rfl) rfl ?_
  obtain ⟨x2, hx2, h⟩ := bind_some h
  refine lp (p_call Fun_192 rfl (fun w1 hw => m_s_CondOk_ok hw.fro N x1 hx2)) rfl <| lq (q_not rfl) rfl <| lq (q_move rfl) rfl ?_
  obtain ⟨b1, hb_1, h⟩ := bind_some h
  refine WL.cutN 9 [(27, .bool b1), (0, pv0), (1, pv1), (5, .int .i64 s1)] ?_ (fun K => ?_)
  rotate_left
  ·refine WL.split (d := 18) rfl (fun c2 => ?_) (fun c2 => ?_)
   ·replace hb_1 := ite_t hb_1 c2
    refine WL.no rfl rfl rfl rfl <| WL.no rfl rfl rfl rfl <| WL.no rfl rfl rfl rfl <| WL.no rfl rfl rfl rfl <| WL.no rfl rfl rfl rfl <| WL.no rfl rfl rfl rfl <| WL.no rfl rfl rfl rfl <| WL.no rfl rfl rfl rfl <| WL.q (q_pick1 rfl rfl) rfl rfl rfl ?_
    cases hb_1
    exact WL.keep (by exact ⟨rfl, rfl, rfl, rfl, trivial⟩) K
   ·replace hb_1 := ite_f hb_1 c2
    refine WL.yes rfl rfl <| lq (q_move rfl) rfl <| WL.yes rfl rfl <| lq (q_move rfl) rfl <| WL.yes rfl rfl ?_
    obtain ⟨x3, hx3, hb_1⟩ := bind_some hb_1
    obtain ⟨cs2, F2, -, g2, hb2, hs2, r2⟩ := ph0.el (idx_some hx3).2.2
    obtain ⟨rfl, -⟩ := r2
    refine lq (q_indexAddr Sl_46 rfl rfl ph0 hx3) rfl <| WL.yes rfl rfl <| lq (q_fieldAddr Fld_128_1 rfl) rfl <| WL.yes rfl rfl <| lq (q_loadN Tn_126 rfl (fun w1 hw => (g2.of_eq 1 5 rfl rfl : rg _ _ _ [.int .i64 x3.L.K, .string x3.L.S, .int .i64 x3.L.V.K, .int .i64 x3.L.V.N, .string x3.L.V.S]).rangeAt hw.fro) rfl) rfl <| WL.yes rfl rfl <| lq (q_move rfl) rfl <| WL.yes rfl rfl ?_
    obtain ⟨x4, hx4, hb_1⟩ := bind_some hb_1
    refine lp (p_call Fun_179 rfl (fun w1 hw => m_s_l9Known_ok hw.fro N x3.L p1 ph1 hx4)) rfl <| WL.yes rfl rfl <| lq (q_not rfl) rfl <| WL.q (q_pick0 rfl rfl) rfl rfl rfl ?_
    cases hb_1
    exact WL.keep (by exact ⟨rfl, rfl, rfl, rfl, trivial⟩) K
  refine lq (q_move rfl) rfl ?_
  obtain ⟨b2, hb_2, h⟩ := bind_some h
  refine WL.cutN 9 [(37, .bool b2), (0, pv0), (1, pv1), (5, .int .i64 s1)] ?_ (fun K => ?_)
  rotate_left
  ·refine WL.split (d := 28) rfl (fun c3 => ?_) (fun c3 => ?_)
   ·replace hb_2 := ite_t hb_2 c3
    refine WL.no rfl rfl rfl rfl <| WL.no rfl rfl rfl rfl <| WL.no rfl rfl rfl rfl <| WL.no rfl rfl rfl rfl <| WL.no rfl rfl rfl rfl <| WL.no rfl rfl rfl rfl <| WL.no rfl rfl rfl rfl <| WL.no rfl rfl rfl rfl <| WL.q (q_pick1 rfl rfl) rfl rfl rfl ?_
    cases hb_2
    exact WL.keep (by exact ⟨rfl, rfl, rfl, rfl, trivial⟩) K
   ·replace hb_2 := ite_f hb_2 c3
    refine WL.yes rfl rfl <| lq (q_move rfl) rfl <| WL.yes rfl rfl <| lq (q_move rfl) rfl <| WL.yes rfl rfl ?_
    obtain ⟨x5, hx5, hb_2⟩ := bind_some hb_2
    obtain ⟨cs3, F3, -, g3, hb3, hs3, r3⟩ := ph0.el (idx_some hx5).2.2
    obtain ⟨rfl, -⟩ := r3
    refine lq (q_indexAddr Sl_46 rfl rfl ph0 hx5) rfl <| WL.yes rfl rfl <| lq (q_fieldAddr Fld_128_2 rfl) rfl <| WL.yes rfl rfl <| lq (q_loadN Tn_126 rfl (fun w1 hw => (g3.of_eq 6 5 rfl rfl : rg _ _ _ [.int .i64 x5.R.K, .string x5.R.S, .int .i64 x5.R.V.K, .int .i64 x5.R.V.N, .string x5.R.V.S]).rangeAt hw.fro) rfl) rfl <| WL.yes rfl rfl <| lq (q_move rfl) rfl <| WL.yes rfl rfl ?_
    obtain ⟨x6, hx6, hb_2⟩ := bind_some hb_2
    refine lp (p_call Fun_179 rfl (fun w1 hw => m_s_l9Known_ok hw.fro N x5.R p1 ph1 hx6)) rfl <| WL.yes rfl rfl <| lq (q_not rfl) rfl <| WL.q (q_pick0 rfl rfl) rfl rfl rfl ?_
    cases hb_2
    exact WL.keep (by exact ⟨rfl, rfl, rfl, rfl, trivial⟩) K
  refine WL.nil ?_
  refine WT.cond rfl (fun c4 => ?_) (fun c4 => ?_)
  ·replace h := ite_t h c4
   refine WT.seq <| WT.region <| lq (q_assign rfl) rfl <| WL.nil ?_
   refine WT.ret Tryz.func134 (resOk.one rfl) (fun w1 hw => ?_)
   subst hb0
   cases h
   exact post_of_St hw
  replace h := ite_f h c4
  refine WT.skip <| WT.inBlock <| WT.region <| lq (q_move rfl) rfl <| lq (q_add rfl rfl) rfl <| lq (q_assign rfl) rfl <| WL.nil ?_
  refine WT.inLoop (WT.mono (l' := [(0, pv0), (1, pv1), (5, .int .i64 (IntKind.i64.wrap (s1 + 1)))]) (S' := St w0 Φ [] []) ⟨rfl, rfl, rfl, trivial⟩ (fun w1 hw => (hw.sel (js := []) rfl).selO (js := []) rfl) ?_)
  exact ih1 (IntKind.i64.wrap (s1 + 1)) h
 replace h := ite_f h c1
 refine WT.exit rfl <| WT.seq <| WT.region <| lq (q_move rfl) rfl <| lq (q_lenR Sl_46 rfl rfl ph0) rfl <| lq (q_leq rfl rfl) rfl <| lq (q_assign rfl) rfl <| WL.nil ?_
 refine WT.ret Tryz.func134 (resOk.one rfl) (fun w1 hw => ?_)
 subst hb0
 cases h
 exact post_of_St hw
theorem m_s_l8Given_ok {Φ : Hp} {w : World} (hΦ : In Φ w) (N : Nat) (p0 : TArg)   {r : Bool} (h : m_s_l8Given N p0 = some r) :
  Calls Tryz.prog 255 [.agg [.int .i64 p0.K, .string p0.S, .int .i64 p0.V.K, .int .i64 p0.V.N, .string p0.V.S].toArray].toArray w (Post (.bool r) w) := by
 refine enter Tryz.func255 rfl Tryz.ntmps255 rfl (St.start0 hΦ) ?_
 unfold m_s_l8Given at h
 refine WT.seq <| WT.region ?_
 refine ln (n_box (C := #[.int .i64 p0.K, .string p0.S, .int .i64 p0.V.K, .int .i64 p0.V.N, .string p0.V.S]) rfl rfl) rfl (fun b_1 => ?_)
 refine lq (q_assign rfl) rfl <| WL.nil <| WT.seq <| WT.region <| lq (q_loadN Tn_126 rfl (fun w1 hw => hw.rgO (i := 0) rfl 0 5 [.int .i64 p0.K, .string p0.S, .int .i64 p0.V.K, .int .i64 p0.V.N, .string p0.V.S] rfl) rfl) rfl ?_
 obtain ⟨x1, hx1, h⟩ := bind_some h
 refine lp (p_call Fun_221 rfl (fun w1 hw => m_s_ArgOk_ok hw.fro N p0 hx1)) rfl <| lq (q_move rfl) rfl ?_
 obtain ⟨b1, hb_1, h⟩ := bind_some h
 refine WL.cutN 4 [(9, .bool b1), (2, .bool false)] ?_ (fun K => ?_)
 rotate_left
 ·refine WL.split (d := 5) rfl (fun c1 => ?_) (fun c1 => ?_)
  ·replace hb_1 := ite_t hb_1 c1
   refine WL.yes rfl rfl <| lq (q_fieldAddr Fld_126_0 rfl) rfl <| WL.yes rfl rfl <| lq (q_load1 T1_3 rfl (fun w1 hw => hw.rgO (i := 0) rfl 0 1 [.int .i64 p0.K] rfl)) rfl <| WL.yes rfl rfl <| lq (q_neq rfl rfl) rfl <| WL.q (q_pick1 rfl rfl) rfl rfl rfl ?_
   cases hb_1
   exact WL.keep (by exact ⟨rfl, rfl, trivial⟩) K
  ·replace hb_1 := ite_f hb_1 c1
   refine WL.no rfl rfl rfl rfl <| WL.no rfl rfl rfl rfl <| WL.no rfl rfl rfl rfl <| WL.q (q_pick0 rfl rfl) rfl rfl rfl ?_
   cases hb_1
   exact WL.keep (by exact ⟨rfl, rfl, trivial⟩) K
 refine lq (q_assign rfl) rfl <| WL.nil ?_
 refine WT.ret Tryz.func255 (resOk.one rfl) (fun w1 hw => ?_)
 cases h
 exact post_of_St hw
theorem m_s_ExprOk_ok {Φ : Hp} {w : World} (hΦ : In Φ w) (N : Nat) (p0 : TExpr)   {r : Bool} (h : m_s_ExprOk N p0 = some r) :
  Calls Tryz.prog 242 [.agg [.string p0.Op, .int .i64 p0.L.K, .string p0.L.S, .int .i64 p0.L.V.K, .int .i64 p0.L.V.N, .string p0.L.V.S, .int .i64 p0.R.K, .string p0.R.S, .int .i64 p0.R.V.K, .int .i64 p0.R.V.N, .string p0.R.V.S].toArray].toArray w (Post (.bool r) w) := by
 refine enter Tryz.func242 rfl Tryz.ntmps242 rfl (St.start0 hΦ) ?_
 generalize hb0 : (⟨w, [], Φ⟩ : Base) = w0
 unfold m_s_ExprOk at h
 refine WT.seq <| WT.region ?_
 refine ln (n_box (C := #[.string p0.Op, .int .i64 p0.L.K, .string p0.L.S, .int .i64 p0.L.V.K, .int .i64 p0.L.V.N, .string p0.L.V.S, .int .i64 p0.R.K, .string p0.R.S, .int .i64 p0.R.V.K, .int .i64 p0.R.V.N, .string p0.R.V.S]) rfl rfl) rfl (fun b_1 => ?_)
 refine lq (q_assign rfl) rfl <| WL.nil <| WT.seq <| WT.seq <| WT.region <| lq (q_fieldAddr Fld_175_0 rfl) rfl <| lq (q_load1 T1_9 rfl (fun w1 hw => hw.rgO (i := 0) rfl 0 1 [.string p0.Op] rfl)) rfl <| WL.nil <| WT.block <| WT.seq <| WT.region <| lq (q_seq rfl rfl) rfl <| lq (q_assign rfl) rfl <| WL.nil ?_
 refine WT.cond rfl (fun c1 => ?_) (fun c1 => ?_)
 ·replace h := ite_t h c1
  refine WT.seq <| WT.region <| lq (q_fieldAddr Fld_175_1 rfl) rfl <| lq (q_loadN Tn_126 rfl (fun w1 hw => hw.rgO (i := 0) rfl 1 5 [.int .i64 p0.L.K, .string p0.L.S, .int .i64 p0.L.V.K, .int .i64 p0.L.V.N, .string p0.L.V.S] rfl) rfl) rfl ?_
  obtain ⟨x1, hx1, h⟩ := bind_some h
  refine lp (p_call Fun_255 rfl (fun w1 hw => m_s_l8Given_ok hw.fro N p0.L hx1)) rfl <| lq (q_move rfl) rfl ?_
  obtain ⟨b1, hb_1, h⟩ := bind_some h
  refine WL.cutN 5 [(15, .bool b1), (2, .bool false)] ?_ (fun K => ?_)
  rotate_left
  ·refine WL.split (d := 10) rfl (fun c2 => ?_) (fun c2 => ?_)
   ·replace hb_1 := ite_t hb_1 c2
    refine WL.yes rfl rfl <| lq (q_fieldAddr Fld_175_2 rfl) rfl <| WL.yes rfl rfl <| lq (q_loadN Tn_126 rfl (fun w1 hw => hw.rgO (i := 0) rfl 6 5 [.int .i64 p0.R.K, .string p0.R.S, .int .i64 p0.R.V.K, .int .i64 p0.R.V.N, .string p0.R.V.S] rfl) rfl) rfl <| WL.yes rfl rfl <| lq (q_build (vs := []) (C := #[.int .i64 0, .string (⟨#[]⟩ : ByteArray), .int .i64 0, .int .i64 0, .string (⟨#[]⟩ : ByteArray)]) Pl_126 Zr_126 rfl (fill_nil)) rfl ?_
    refine WL.yes rfl rfl <| lq (q_eqA EqT_126 rfl rfl rfl (r := eqT_TArg p0.R (⟨0, (⟨#[]⟩ : ByteArray), (⟨0, 0, (⟨#[]⟩ : ByteArray)⟩ : TVal)⟩ : TArg)) rfl) rfl <| WL.q (q_pick1 rfl rfl) rfl rfl rfl ?_
    cases hb_1
    exact WL.keep (by exact ⟨rfl, rfl, trivial⟩) K
   ·replace hb_1 := ite_f hb_1 c2
    refine WL.no rfl rfl rfl rfl <| WL.no rfl rfl rfl rfl <| WL.no rfl rfl rfl rfl <| WL.no rfl rfl rfl rfl <| WL.q (q_pick0 rfl rfl) rfl rfl rfl ?_
    cases hb_1
    exact WL.keep (by exact ⟨rfl, rfl, trivial⟩) K
  refine lq (q_assign rfl) rfl <| WL.nil ?_
  refine WT.ret Tryz.func242 (resOk.one rfl) (fun w1 hw => ?_)
  subst hb0
  cases h
  exact post_of_St hw
 replace h := ite_f h c1
 refine WT.seq <| WT.seq <| WT.region <| lq (q_seq rfl rfl) rfl <| lq (q_assign rfl) rfl <| WL.nil ?_
 refine cut (σ := Bool) (fun s => [(1, .pointer (some ⟨b_1, 0, none⟩)), (16, .bool s)]) (fun s => St w0 Φ [(b_1, .cells #[.string p0.Op, .int .i64 p0.L.K, .string p0.L.S, .int .i64 p0.L.V.K, .int .i64 p0.L.V.N, .string p0.L.V.S, .int .i64 p0.R.K, .string p0.R.S, .int .i64 p0.R.V.K, .int .i64 p0.R.V.N, .string p0.R.V.S] 175 (0, 0))] []) (fun s => m_s_ExprOk_j1 N p0 s = some r) (fun s hm => ?_) (fun K => ?_)
 ·clear h
  revert hm; revert s; intro s1 hm
  have h : m_s_ExprOk_j1 N p0 s1 = some r := hm
  show WT _ _ [(1, .pointer (some ⟨b_1, 0, none⟩)), (16, .bool s1)] (St w0 Φ [(b_1, .cells #[.string p0.Op, .int .i64 p0.L.K, .string p0.L.S, .int .i64 p0.L.V.K, .int .i64 p0.L.V.N, .string p0.L.V.S, .int .i64 p0.R.K, .string p0.R.S, .int .i64 p0.R.V.K, .int .i64 p0.R.V.N, .string p0.R.V.S] 175 (0, 0))] [])
  unfold m_s_ExprOk_j1 at h
  refine WT.cond rfl (fun c3 => ?_) (fun c3 => ?_)
  ·replace h := ite_t h c3
   refine WT.seq <| WT.region <| lq (q_fieldAddr Fld_175_1 rfl) rfl <| lq (q_loadN Tn_126 rfl (fun w1 hw => hw.rgO (i := 0) rfl 1 5 [.int .i64 p0.L.K, .string p0.L.S, .int .i64 p0.L.V.K, .int .i64 p0.L.V.N, .string p0.L.V.S] rfl) rfl) rfl ?_
   obtain ⟨x2, hx2, h⟩ := bind_some h
   refine lp (p_call Fun_255 rfl (fun w1 hw => m_s_l8Given_ok hw.fro N p0.L hx2)) rfl <| lq (q_move rfl) rfl ?_
   obtain ⟨b2, hb_2, h⟩ := bind_some h
   refine WL.cutN 4 [(26, .bool b2)] ?_ (fun K => ?_)
   rotate_left
   ·refine WL.split (d := 22) rfl (fun c4 => ?_) (fun c4 => ?_)
    ·replace hb_2 := ite_t hb_2 c4
     refine WL.yes rfl rfl <| lq (q_fieldAddr Fld_175_2 rfl) rfl <| WL.yes rfl rfl <| lq (q_loadN Tn_126 rfl (fun w1 hw => hw.rgO (i := 0) rfl 6 5 [.int .i64 p0.R.K, .string p0.R.S, .int .i64 p0.R.V.K, .int .i64 p0.R.V.N, .string p0.R.V.S] rfl) rfl) rfl <| WL.yes rfl rfl ?_
     obtain ⟨x3, hx3, hb_2⟩ := bind_some hb_2
     refine lp (p_call Fun_255 rfl (fun w1 hw => m_s_l8Given_ok hw.fro N p0.R hx3)) rfl <| WL.q (q_pick1 rfl rfl) rfl rfl rfl ?_
     cases hb_2
     exact WL.keep (by exact ⟨rfl, trivial⟩) K
    ·replace hb_2 := ite_f hb_2 c4
     refine WL.no rfl rfl rfl rfl <| WL.no rfl rfl rfl rfl <| WL.no rfl rfl rfl rfl <| WL.q (q_pick0 rfl rfl) rfl rfl rfl ?_
     cases hb_2
     exact WL.keep (by exact ⟨rfl, trivial⟩) K
   refine lq (q_assign rfl) rfl <| WL.nil ?_
   refine WT.ret Tryz.func242 (resOk.one rfl) (fun w1 hw => ?_)
   subst hb0
   cases h
   exact post_of_St hw
  replace h := ite_f h c3
  refine WT.skip <| WT.inBlock <| WT.seq <| WT.region <| lq (q_assign rfl) rfl <| WL.nil ?_
  refine WT.ret Tryz.func242 (resOk.one rfl) (fun w1 hw => ?_)
  subst hb0
  cases h
  exact post_of_St hw
 refine WT.cond rfl (fun c5 => ?_) (fun c5 => ?_)
 ·replace h := ite_t h c5
  refine WT.skip <| WT.mono (l' := [(1, .pointer (some ⟨b_1, 0, none⟩)), (16, .bool (seq p0.Op (⟨#[43]⟩ : ByteArray)))]) (S' := St w0 Φ [(b_1, .cells #[.string p0.Op, .int .i64 p0.L.K, .string p0.L.S, .int .i64 p0.L.V.K, .int .i64 p0.L.V.N, .string p0.L.V.S, .int .i64 p0.R.K, .string p0.R.S, .int .i64 p0.R.V.K, .int .i64 p0.R.V.N, .string p0.R.V.S] 175 (0, 0))] []) ⟨rfl, rfl, trivial⟩ (fun w1 hw => (hw.sel (js := []) rfl).selO (js := [0]) rfl) ?_
  exact K (seq p0.Op (⟨#[43]⟩ : ByteArray)) h
 replace h := ite_f h c5
 refine WT.region <| lq (q_seq rfl rfl) rfl <| lq (q_assign rfl) rfl <| WL.nil <| WT.mono (l' := [(1, .pointer (some ⟨b_1, 0, none⟩)), (16, .bool (seq p0.Op (⟨#[45]⟩ : ByteArray)))]) (S' := St w0 Φ [(b_1, .cells #[.string p0.Op, .int .i64 p0.L.K, .string p0.L.S, .int .i64 p0.L.V.K, .int .i64 p0.L.V.N, .string p0.L.V.S, .int .i64 p0.R.K, .string p0.R.S, .int .i64 p0.R.V.K, .int .i64 p0.R.V.N, .string p0.R.V.S] 175 (0, 0))] []) ⟨rfl, rfl, trivial⟩ (fun w1 hw => (hw.sel (js := []) rfl).selO (js := [0]) rfl) ?_
 exact K (seq p0.Op (⟨#[45]⟩ : ByteArray)) h
theorem m_s_l8Args_ok {Φ : Hp} {w : World} (hΦ : In Φ w) (N : Nat) (p0 : (List TExpr)) {pv0 : Value} {pG0 : List Nat} (ph0 : RSl RTExpr 11 Φ pG0 pv0 p0) {r : Bool} (h : m_s_l8Args N p0 = some r) :
  Calls Tryz.prog 222 [pv0].toArray w (Post (.bool r) w) := by
 refine enter Tryz.func222 rfl Tryz.ntmps222 rfl (St.start0 hΦ) ?_
 generalize hb0 : (⟨w, [], Φ⟩ : Base) = w0
 unfold m_s_l8Args at h
 refine WT.seq <| WT.region <| lq (q_assign rfl) rfl <| WL.nil <| WT.seq <| WT.seq <| WT.region <| lq (q_assign rfl) rfl <| WL.nil <| WT.block <| WT.loop <| WT.mono (l' := [(0, pv0), (3, .int .i64 0)]) (S' := St w0 Φ [] []) ⟨rfl, rfl, trivial⟩ (fun w1 hw => (hw.sel (js := []) rfl).selO (js := []) rfl) ?_
 refine loop_ind (σ := Int) (fun s => [(0, pv0), (3, .int .i64 s)]) (fun s => St w0 Φ [] []) (fun m s => m_s_l8Args_l1 N p0 m s = some r) (fun s hm => none_ne (show (none : Option (Bool)) = some r from hm)) (fun n1 ih1 s hm => ?_) N (0) h
 revert hm; revert s; intro s1 hm
 have h : m_s_l8Args_l1 N p0 (n1 + 1) s1 = some r := hm
 show WT _ _ [(0, pv0), (3, .int .i64 s1)] (St w0 Φ [] [])
 unfold m_s_l8Args_l1 at h
 refine WT.seq <| WT.seq <| WT.region <| lq (q_move rfl) rfl <| lq (q_move rfl) rfl <| lq (q_lenR Sl_133 rfl rfl ph0) rfl <| lq (q_lss rfl rfl) rfl <| WL.nil ?_
 refine WT.cond rfl (fun c1 => ?_) (fun c1 => ?_)
 ·replace h := ite_t h c1
  refine WT.skip <| WT.seq <| WT.block <| WT.seq <| WT.region <| lq (q_move rfl) rfl <| lq (q_move rfl) rfl ?_
  obtain ⟨x1, hx1, h⟩ := bind_some h
  obtain ⟨cs1, F1, -, g1, hb1, hs1, r1⟩ := ph0.el (idx_some hx1).2.2
  obtain ⟨rfl, -⟩ := r1
  refine lq (q_indexAddr Sl_133 rfl rfl ph0 hx1) rfl <| lq (q_loadN Tn_175 rfl (fun w1 hw => (g1.of_eq 0 11 rfl rfl : rg _ _ _ [.string x1.Op, .int .i64 x1.L.K, .string x1.L.S, .int .i64 x1.L.V.K, .int .i64 x1.L.V.N, .string x1.L.V.S, .int .i64 x1.R.K, .string x1.R.S, .int .i64 x1.R.V.K, .int .i64 x1.R.V.N, .string x1.R.V.S]).rangeAt hw.fro) rfl) rfl ?_
  obtain ⟨x2, hx2, h⟩ := bind_some h
  refine lp (p_call Fun_242 rfl (fun w1 hw => m_s_ExprOk_ok hw.fro N x1 hx2)) rfl <| lq (q_not rfl) rfl <| WL.nil ?_
  refine WT.cond rfl (fun c2 => ?_) (fun c2 => ?_)
  ·replace h := ite_t h c2
   refine WT.seq <| WT.region <| lq (q_assign rfl) rfl <| WL.nil ?_
   refine WT.ret Tryz.func222 (resOk.one rfl) (fun w1 hw => ?_)
   subst hb0
   cases h
   exact post_of_St hw
  replace h := ite_f h c2
  refine WT.skip <| WT.inBlock <| WT.region <| lq (q_move rfl) rfl <| lq (q_add rfl rfl) rfl <| lq (q_assign rfl) rfl <| WL.nil ?_
  refine WT.inLoop (WT.mono (l' := [(0, pv0), (3, .int .i64 (IntKind.i64.wrap (s1 + 1)))]) (S' := St w0 Φ [] []) ⟨rfl, rfl, trivial⟩ (fun w1 hw => (hw.sel (js := []) rfl).selO (js := []) rfl) ?_)
  exact ih1 (IntKind.i64.wrap (s1 + 1)) h
 replace h := ite_f h c1
 refine WT.exit rfl <| WT.seq <| WT.region <| lq (q_move rfl) rfl <| lq (q_lenR Sl_133 rfl rfl ph0) rfl <| lq (q_leq rfl rfl) rfl <| lq (q_assign rfl) rfl <| WL.nil ?_
 refine WT.ret Tryz.func222 (resOk.one rfl) (fun w1 hw => ?_)
 subst hb0
 cases h
 exact post_of_St hw
theorem m_s_ActOk_ok {Φ : Hp} {w : World} (hΦ : In Φ w) (N : Nat) (p0 : TAct) {pv0_0 : Value} {pG0_0 : List Nat} (ph0_0 : RSl RTExpr 11 Φ pG0_0 pv0_0 p0.Args) {r : Bool} (h : m_s_ActOk N p0 = some r) :
  Calls Tryz.prog 193 [.agg [.int .i64 p0.Kind, .string p0.Name, pv0_0, .int .i64 p0.N, .string p0.Undo].toArray].toArray w (Post (.bool r) w) := by
 refine enter Tryz.func193 rfl Tryz.ntmps193 rfl (St.start0 hΦ) ?_
 generalize hb0 : (⟨w, [], Φ⟩ : Base) = w0
 unfold m_s_ActOk at h
 refine WT.seq <| WT.region ?_
 refine ln (n_box (C := #[.int .i64 p0.Kind, .string p0.Name, pv0_0, .int .i64 p0.N, .string p0.Undo]) rfl rfl) rfl (fun b_1 => ?_)
 refine lq (q_assign rfl) rfl <| WL.nil <| WT.seq <| WT.region <| lq (q_fieldAddr Fld_135_1 rfl) rfl <| lq (q_load1 T1_9 rfl (fun w1 hw => hw.rgO (i := 0) rfl 1 1 [.string p0.Name] rfl)) rfl <| lq (q_seq rfl rfl) rfl <| lq (q_move rfl) rfl ?_
 obtain ⟨b1, hb_1, h⟩ := bind_some h
 refine WL.cutN 5 [(12, .bool b1), (1, .pointer (some ⟨b_1, 0, none⟩))] ?_ (fun K => ?_)
 rotate_left
 ·refine WL.split (d := 7) rfl (fun c1 => ?_) (fun c1 => ?_)
  ·replace hb_1 := ite_t hb_1 c1
   refine WL.yes rfl rfl <| lq (q_fieldAddr Fld_135_2 rfl) rfl <| WL.yes rfl rfl <| lq (q_load1 T1_133 rfl (fun w1 hw => hw.rgO (i := 0) rfl 2 1 [pv0_0] rfl)) rfl <| WL.yes rfl rfl <| lq (q_lenR Sl_133 rfl rfl ph0_0) rfl <| WL.yes rfl rfl <| lq (q_eql rfl rfl) rfl <| WL.q (q_pick1 rfl rfl) rfl rfl rfl ?_
   cases hb_1
   exact WL.keep (by exact ⟨rfl, rfl, trivial⟩) K
  ·replace hb_1 := ite_f hb_1 c1
   refine WL.no rfl rfl rfl rfl <| WL.no rfl rfl rfl rfl <| WL.no rfl rfl rfl rfl <| WL.no rfl rfl rfl rfl <| WL.q (q_pick0 rfl rfl) rfl rfl rfl ?_
   cases hb_1
   exact WL.keep (by exact ⟨rfl, rfl, trivial⟩) K
 refine lq (q_move rfl) rfl ?_
 obtain ⟨b2, hb_2, h⟩ := bind_some h
 refine WL.cutN 4 [(17, .bool b2), (1, .pointer (some ⟨b_1, 0, none⟩))] ?_ (fun K => ?_)
 rotate_left
 ·refine WL.split (d := 13) rfl (fun c2 => ?_) (fun c2 => ?_)
  ·replace hb_2 := ite_t hb_2 c2
   refine WL.yes rfl rfl <| lq (q_fieldAddr Fld_135_4 rfl) rfl <| WL.yes rfl rfl <| lq (q_load1 T1_9 rfl (fun w1 hw => hw.rgO (i := 0) rfl 4 1 [.string p0.Undo] rfl)) rfl <| WL.yes rfl rfl <| lq (q_seq rfl rfl) rfl <| WL.q (q_pick1 rfl rfl) rfl rfl rfl ?_
   cases hb_2
   exact WL.keep (by exact ⟨rfl, rfl, trivial⟩) K
  ·replace hb_2 := ite_f hb_2 c2
   refine WL.no rfl rfl rfl rfl <| WL.no rfl rfl rfl rfl <| WL.no rfl rfl rfl rfl <| WL.q (q_pick0 rfl rfl) rfl rfl rfl ?_
   cases hb_2
   exact WL.keep (by exact ⟨rfl, rfl, trivial⟩) K
 refine lq (q_assign rfl) rfl <| WL.nil <| WT.seq <| WT.seq <| WT.region <| lq (q_fieldAddr Fld_135_0 rfl) rfl <| lq (q_load1 T1_3 rfl (fun w1 hw => hw.rgO (i := 0) rfl 0 1 [.int .i64 p0.Kind] rfl)) rfl <| WL.nil <| WT.block <| WT.seq <| WT.region <| lq (q_eql rfl rfl) rfl <| lq (q_assign rfl) rfl <| WL.nil ?_
 refine WT.cond rfl (fun c3 => ?_) (fun c3 => ?_)
 ·replace h := ite_t h c3
  refine WT.seq <| WT.region <| lq (q_fieldAddr Fld_135_1 rfl) rfl <| lq (q_load1 T1_9 rfl (fun w1 hw => hw.rgO (i := 0) rfl 1 1 [.string p0.Name] rfl)) rfl ?_
  obtain ⟨x1, hx1, h⟩ := bind_some h
  refine lp (p_call Fun_84 rfl (fun w1 hw => m_s_NameOk_ok hw.fro N p0.Name hx1)) rfl <| lq (q_move rfl) rfl ?_
  obtain ⟨b3, hb_3, h⟩ := bind_some h
  refine WL.cutN 4 [(29, .bool b3), (1, .pointer (some ⟨b_1, 0, none⟩))] ?_ (fun K => ?_)
  rotate_left
  ·refine WL.split (d := 25) rfl (fun c4 => ?_) (fun c4 => ?_)
   ·replace hb_3 := ite_t hb_3 c4
    refine WL.yes rfl rfl <| lq (q_fieldAddr Fld_135_2 rfl) rfl <| WL.yes rfl rfl <| lq (q_load1 T1_133 rfl (fun w1 hw => hw.rgO (i := 0) rfl 2 1 [pv0_0] rfl)) rfl <| WL.yes rfl rfl ?_
    obtain ⟨x2, hx2, hb_3⟩ := bind_some hb_3
    refine lp (p_call Fun_222 rfl (fun w1 hw => m_s_l8Args_ok hw.fro N p0.Args ph0_0 hx2)) rfl <| WL.q (q_pick1 rfl rfl) rfl rfl rfl ?_
    cases hb_3
    exact WL.keep (by exact ⟨rfl, rfl, trivial⟩) K
   ·replace hb_3 := ite_f hb_3 c4
    refine WL.no rfl rfl rfl rfl <| WL.no rfl rfl rfl rfl <| WL.no rfl rfl rfl rfl <| WL.q (q_pick0 rfl rfl) rfl rfl rfl ?_
    cases hb_3
    exact WL.keep (by exact ⟨rfl, rfl, trivial⟩) K
  refine lq (q_move rfl) rfl ?_
  obtain ⟨b4, hb_4, h⟩ := bind_some h
  refine WL.cutN 4 [(34, .bool b4), (1, .pointer (some ⟨b_1, 0, none⟩))] ?_ (fun K => ?_)
  rotate_left
  ·refine WL.split (d := 30) rfl (fun c5 => ?_) (fun c5 => ?_)
   ·replace hb_4 := ite_t hb_4 c5
    refine WL.yes rfl rfl <| lq (q_fieldAddr Fld_135_3 rfl) rfl <| WL.yes rfl rfl <| lq (q_load1 T1_3 rfl (fun w1 hw => hw.rgO (i := 0) rfl 3 1 [.int .i64 p0.N] rfl)) rfl <| WL.yes rfl rfl <| lq (q_eql rfl rfl) rfl <| WL.q (q_pick1 rfl rfl) rfl rfl rfl ?_
    cases hb_4
    exact WL.keep (by exact ⟨rfl, rfl, trivial⟩) K
   ·replace hb_4 := ite_f hb_4 c5
    refine WL.no rfl rfl rfl rfl <| WL.no rfl rfl rfl rfl <| WL.no rfl rfl rfl rfl <| WL.q (q_pick0 rfl rfl) rfl rfl rfl ?_
    cases hb_4
    exact WL.keep (by exact ⟨rfl, rfl, trivial⟩) K
  refine lq (q_move rfl) rfl ?_
  obtain ⟨b5, hb_5, h⟩ := bind_some h
  refine WL.cutN 4 [(39, .bool b5)] ?_ (fun K => ?_)
  rotate_left
  ·refine WL.split (d := 35) rfl (fun c6 => ?_) (fun c6 => ?_)
   ·replace hb_5 := ite_t hb_5 c6
    refine WL.yes rfl rfl <| lq (q_fieldAddr Fld_135_4 rfl) rfl <| WL.yes rfl rfl <| lq (q_load1 T1_9 rfl (fun w1 hw => hw.rgO (i := 0) rfl 4 1 [.string p0.Undo] rfl)) rfl <| WL.yes rfl rfl <| lq (q_seq rfl rfl) rfl <| WL.q (q_pick1 rfl rfl) rfl rfl rfl ?_
    cases hb_5
    exact WL.keep (by exact ⟨rfl, trivial⟩) K
   ·replace hb_5 := ite_f hb_5 c6
    refine WL.no rfl rfl rfl rfl <| WL.no rfl rfl rfl rfl <| WL.no rfl rfl rfl rfl <| WL.q (q_pick0 rfl rfl) rfl rfl rfl ?_
    cases hb_5
    exact WL.keep (by exact ⟨rfl, trivial⟩) K
  refine lq (q_assign rfl) rfl <| WL.nil ?_
  refine WT.ret Tryz.func193 (resOk.one rfl) (fun w1 hw => ?_)
  subst hb0
  cases h
  exact post_of_St hw
 replace h := ite_f h c3
 refine WT.seq <| WT.region <| lq (q_eql rfl rfl) rfl <| lq (q_assign rfl) rfl <| WL.nil ?_
 refine WT.cond rfl (fun c7 => ?_) (fun c7 => ?_)
 ·replace h := ite_t h c7
  refine WT.seq <| WT.region <| lq (q_fieldAddr Fld_135_1 rfl) rfl <| lq (q_load1 T1_9 rfl (fun w1 hw => hw.rgO (i := 0) rfl 1 1 [.string p0.Name] rfl)) rfl ?_
  obtain ⟨x3, hx3, h⟩ := bind_some h
  refine lp (p_call Fun_84 rfl (fun w1 hw => m_s_NameOk_ok hw.fro N p0.Name hx3)) rfl <| lq (q_move rfl) rfl ?_
  obtain ⟨b6, hb_6, h⟩ := bind_some h
  refine WL.cutN 4 [(49, .bool b6), (1, .pointer (some ⟨b_1, 0, none⟩))] ?_ (fun K => ?_)
  rotate_left
  ·refine WL.split (d := 45) rfl (fun c8 => ?_) (fun c8 => ?_)
   ·replace hb_6 := ite_t hb_6 c8
    refine WL.yes rfl rfl <| lq (q_fieldAddr Fld_135_2 rfl) rfl <| WL.yes rfl rfl <| lq (q_load1 T1_133 rfl (fun w1 hw => hw.rgO (i := 0) rfl 2 1 [pv0_0] rfl)) rfl <| WL.yes rfl rfl ?_
    obtain ⟨x4, hx4, hb_6⟩ := bind_some hb_6
    refine lp (p_call Fun_222 rfl (fun w1 hw => m_s_l8Args_ok hw.fro N p0.Args ph0_0 hx4)) rfl <| WL.q (q_pick1 rfl rfl) rfl rfl rfl ?_
    cases hb_6
    exact WL.keep (by exact ⟨rfl, rfl, trivial⟩) K
   ·replace hb_6 := ite_f hb_6 c8
    refine WL.no rfl rfl rfl rfl <| WL.no rfl rfl rfl rfl <| WL.no rfl rfl rfl rfl <| WL.q (q_pick0 rfl rfl) rfl rfl rfl ?_
    cases hb_6
    exact WL.keep (by exact ⟨rfl, rfl, trivial⟩) K
  refine lq (q_move rfl) rfl ?_
  obtain ⟨b7, hb_7, h⟩ := bind_some h
  refine WL.cutN 4 [(54, .bool b7), (1, .pointer (some ⟨b_1, 0, none⟩))] ?_ (fun K => ?_)
  rotate_left
  ·refine WL.split (d := 50) rfl (fun c9 => ?_) (fun c9 => ?_)
   ·replace hb_7 := ite_t hb_7 c9
    refine WL.yes rfl rfl <| lq (q_fieldAddr Fld_135_3 rfl) rfl <| WL.yes rfl rfl <| lq (q_load1 T1_3 rfl (fun w1 hw => hw.rgO (i := 0) rfl 3 1 [.int .i64 p0.N] rfl)) rfl <| WL.yes rfl rfl <| lq (q_eql rfl rfl) rfl <| WL.q (q_pick1 rfl rfl) rfl rfl rfl ?_
    cases hb_7
    exact WL.keep (by exact ⟨rfl, rfl, trivial⟩) K
   ·replace hb_7 := ite_f hb_7 c9
    refine WL.no rfl rfl rfl rfl <| WL.no rfl rfl rfl rfl <| WL.no rfl rfl rfl rfl <| WL.q (q_pick0 rfl rfl) rfl rfl rfl ?_
    cases hb_7
    exact WL.keep (by exact ⟨rfl, rfl, trivial⟩) K
  refine lq (q_move rfl) rfl ?_
  obtain ⟨b8, hb_8, h⟩ := bind_some h
  refine WL.cutN 9 [(64, .bool b8)] ?_ (fun K => ?_)
  rotate_left
  ·refine WL.split (d := 55) rfl (fun c10 => ?_) (fun c10 => ?_)
   ·replace hb_8 := ite_t hb_8 c10
    refine WL.yes rfl rfl <| lq (q_fieldAddr Fld_135_4 rfl) rfl <| WL.yes rfl rfl <| lq (q_load1 T1_9 rfl (fun w1 hw => hw.rgO (i := 0) rfl 4 1 [.string p0.Undo] rfl)) rfl <| WL.yes rfl rfl <| lq (q_seq rfl rfl) rfl <| WL.yes rfl rfl <| lq (q_move rfl) rfl ?_
    obtain ⟨b9, hb_9, hb_8⟩ := bind_some hb_8
    refine WL.cutN 4 [(63, .bool b9), (55, .bool true)] ?_ (fun K => ?_)
    rotate_left
    ·refine WL.split (d := 59) rfl (fun c11 => ?_) (fun c11 => ?_)
     ·replace hb_9 := ite_t hb_9 c11
      refine WL.no rfl rfl rfl rfl <| WL.no rfl rfl rfl rfl <| WL.no rfl rfl rfl rfl <| WL.yes rfl rfl <| WL.q (q_pick1 rfl rfl) rfl rfl rfl ?_
      cases hb_9
      exact WL.keep (by exact ⟨rfl, rfl, trivial⟩) K
     ·replace hb_9 := ite_f hb_9 c11
      refine WL.yes rfl rfl <| lq (q_fieldAddr Fld_135_4 rfl) rfl <| WL.yes rfl rfl <| lq (q_load1 T1_9 rfl (fun w1 hw => hw.rgO (i := 0) rfl 4 1 [.string p0.Undo] rfl)) rfl <| WL.yes rfl rfl ?_
      obtain ⟨x5, hx5, hb_9⟩ := bind_some hb_9
      refine lp (p_call Fun_84 rfl (fun w1 hw => m_s_NameOk_ok hw.fro N p0.Undo hx5)) rfl <| WL.yes rfl rfl <| WL.q (q_pick0 rfl rfl) rfl rfl rfl ?_
      cases hb_9
      exact WL.keep (by exact ⟨rfl, rfl, trivial⟩) K
    refine WL.q (q_pick1 rfl rfl) rfl rfl rfl ?_
    cases hb_8
    exact WL.keep (by exact ⟨rfl, trivial⟩) K
   ·replace hb_8 := ite_f hb_8 c10
    refine WL.no rfl rfl rfl rfl <| WL.no rfl rfl rfl rfl <| WL.no rfl rfl rfl rfl <| WL.no rfl rfl rfl rfl <| WL.nox rfl rfl rfl rfl <| WL.nox rfl rfl rfl rfl <| WL.nox rfl rfl rfl rfl <| WL.no rfl rfl rfl rfl <| WL.q (q_pick0 rfl rfl) rfl rfl rfl ?_
    cases hb_8
    exact WL.keep (by exact ⟨rfl, trivial⟩) K
  refine lq (q_assign rfl) rfl <| WL.nil ?_
  refine WT.ret Tryz.func193 (resOk.one rfl) (fun w1 hw => ?_)
  subst hb0
  cases h
  exact post_of_St hw
 replace h := ite_f h c7
 refine WT.seq <| WT.region <| lq (q_eql rfl rfl) rfl <| lq (q_assign rfl) rfl <| WL.nil ?_
 refine WT.cond rfl (fun c12 => ?_) (fun c12 => ?_)
 ·replace h := ite_t h c12
  refine WT.seq <| WT.region <| lq (q_fieldAddr Fld_135_1 rfl) rfl <| lq (q_load1 T1_9 rfl (fun w1 hw => hw.rgO (i := 0) rfl 1 1 [.string p0.Name] rfl)) rfl ?_
  obtain ⟨x6, hx6, h⟩ := bind_some h
  refine lp (p_call Fun_84 rfl (fun w1 hw => m_s_NameOk_ok hw.fro N p0.Name hx6)) rfl <| lq (q_move rfl) rfl ?_
  obtain ⟨b10, hb_10, h⟩ := bind_some h
  refine WL.cutN 4 [(74, .bool b10), (1, .pointer (some ⟨b_1, 0, none⟩))] ?_ (fun K => ?_)
  rotate_left
  ·refine WL.split (d := 70) rfl (fun c13 => ?_) (fun c13 => ?_)
   ·replace hb_10 := ite_t hb_10 c13
    refine WL.yes rfl rfl <| lq (q_fieldAddr Fld_135_2 rfl) rfl <| WL.yes rfl rfl <| lq (q_load1 T1_133 rfl (fun w1 hw => hw.rgO (i := 0) rfl 2 1 [pv0_0] rfl)) rfl <| WL.yes rfl rfl ?_
    obtain ⟨x7, hx7, hb_10⟩ := bind_some hb_10
    refine lp (p_call Fun_222 rfl (fun w1 hw => m_s_l8Args_ok hw.fro N p0.Args ph0_0 hx7)) rfl <| WL.q (q_pick1 rfl rfl) rfl rfl rfl ?_
    cases hb_10
    exact WL.keep (by exact ⟨rfl, rfl, trivial⟩) K
   ·replace hb_10 := ite_f hb_10 c13
    refine WL.no rfl rfl rfl rfl <| WL.no rfl rfl rfl rfl <| WL.no rfl rfl rfl rfl <| WL.q (q_pick0 rfl rfl) rfl rfl rfl ?_
    cases hb_10
    exact WL.keep (by exact ⟨rfl, rfl, trivial⟩) K
  refine lq (q_move rfl) rfl ?_
  obtain ⟨b11, hb_11, h⟩ := bind_some h
  refine WL.cutN 4 [(79, .bool b11), (1, .pointer (some ⟨b_1, 0, none⟩))] ?_ (fun K => ?_)
  rotate_left
  ·refine WL.split (d := 75) rfl (fun c14 => ?_) (fun c14 => ?_)
   ·replace hb_11 := ite_t hb_11 c14
    refine WL.yes rfl rfl <| lq (q_fieldAddr Fld_135_3 rfl) rfl <| WL.yes rfl rfl <| lq (q_load1 T1_3 rfl (fun w1 hw => hw.rgO (i := 0) rfl 3 1 [.int .i64 p0.N] rfl)) rfl <| WL.yes rfl rfl ?_
    obtain ⟨x8, hx8, hb_11⟩ := bind_some hb_11
    refine lp (p_call Fun_85 rfl (fun w1 hw => m_s_l1In_ok hw.fro N p0.N 0 100000 hx8)) rfl <| WL.q (q_pick1 rfl rfl) rfl rfl rfl ?_
    cases hb_11
    exact WL.keep (by exact ⟨rfl, rfl, trivial⟩) K
   ·replace hb_11 := ite_f hb_11 c14
    refine WL.no rfl rfl rfl rfl <| WL.no rfl rfl rfl rfl <| WL.no rfl rfl rfl rfl <| WL.q (q_pick0 rfl rfl) rfl rfl rfl ?_
    cases hb_11
    exact WL.keep (by exact ⟨rfl, rfl, trivial⟩) K
  refine lq (q_move rfl) rfl ?_
  obtain ⟨b12, hb_12, h⟩ := bind_some h
  refine WL.cutN 4 [(84, .bool b12)] ?_ (fun K => ?_)
  rotate_left
  ·refine WL.split (d := 80) rfl (fun c15 => ?_) (fun c15 => ?_)
   ·replace hb_12 := ite_t hb_12 c15
    refine WL.yes rfl rfl <| lq (q_fieldAddr Fld_135_4 rfl) rfl <| WL.yes rfl rfl <| lq (q_load1 T1_9 rfl (fun w1 hw => hw.rgO (i := 0) rfl 4 1 [.string p0.Undo] rfl)) rfl <| WL.yes rfl rfl <| lq (q_seq rfl rfl) rfl <| WL.q (q_pick1 rfl rfl) rfl rfl rfl ?_
    cases hb_12
    exact WL.keep (by exact ⟨rfl, trivial⟩) K
   ·replace hb_12 := ite_f hb_12 c15
    refine WL.no rfl rfl rfl rfl <| WL.no rfl rfl rfl rfl <| WL.no rfl rfl rfl rfl <| WL.q (q_pick0 rfl rfl) rfl rfl rfl ?_
    cases hb_12
    exact WL.keep (by exact ⟨rfl, trivial⟩) K
  refine lq (q_assign rfl) rfl <| WL.nil ?_
  refine WT.ret Tryz.func193 (resOk.one rfl) (fun w1 hw => ?_)
  subst hb0
  cases h
  exact post_of_St hw
 replace h := ite_f h c12
 refine WT.seq <| WT.region <| lq (q_eql rfl rfl) rfl <| lq (q_assign rfl) rfl <| WL.nil ?_
 refine WT.cond rfl (fun c16 => ?_) (fun c16 => ?_)
 ·replace h := ite_t h c16
  refine WT.seq <| WT.region <| lq (q_move rfl) rfl <| lq (q_move rfl) rfl ?_
  obtain ⟨b13, hb_13, h⟩ := bind_some h
  refine WL.cutN 4 [(92, .bool b13)] ?_ (fun K => ?_)
  rotate_left
  ·refine WL.split (d := 88) rfl (fun c17 => ?_) (fun c17 => ?_)
   ·replace hb_13 := ite_t hb_13 c17
    refine WL.yes rfl rfl <| lq (q_fieldAddr Fld_135_3 rfl) rfl <| WL.yes rfl rfl <| lq (q_load1 T1_3 rfl (fun w1 hw => hw.rgO (i := 0) rfl 3 1 [.int .i64 p0.N] rfl)) rfl <| WL.yes rfl rfl ?_
    obtain ⟨x9, hx9, hb_13⟩ := bind_some hb_13
    refine lp (p_call Fun_85 rfl (fun w1 hw => m_s_l1In_ok hw.fro N p0.N 0 7 hx9)) rfl <| WL.q (q_pick1 rfl rfl) rfl rfl rfl ?_
    cases hb_13
    exact WL.keep (by exact ⟨rfl, trivial⟩) K
   ·replace hb_13 := ite_f hb_13 c17
    refine WL.no rfl rfl rfl rfl <| WL.no rfl rfl rfl rfl <| WL.no rfl rfl rfl rfl <| WL.q (q_pick0 rfl rfl) rfl rfl rfl ?_
    cases hb_13
    exact WL.keep (by exact ⟨rfl, trivial⟩) K
  refine lq (q_assign rfl) rfl <| WL.nil ?_
  refine WT.ret Tryz.func193 (resOk.one rfl) (fun w1 hw => ?_)
  subst hb0
  cases h
  exact post_of_St hw
 replace h := ite_f h c16
 refine WT.seq <| WT.seq <| WT.region <| lq (q_eql rfl rfl) rfl <| lq (q_assign rfl) rfl <| WL.nil ?_
 refine cut (σ := Bool) (fun s => [(1, .pointer (some ⟨b_1, 0, none⟩)), (3, .bool b2), (93, .bool s)]) (fun s => St w0 Φ [(b_1, .cells #[.int .i64 p0.Kind, .string p0.Name, pv0_0, .int .i64 p0.N, .string p0.Undo] 135 (0, 0))] []) (fun s => m_s_ActOk_j1 N p0 b2 s = some r) (fun s hm => ?_) (fun K => ?_)
 ·clear h
  revert hm; revert s; intro s1 hm
  have h : m_s_ActOk_j1 N p0 b2 s1 = some r := hm
  show WT _ _ [(1, .pointer (some ⟨b_1, 0, none⟩)), (3, .bool b2), (93, .bool s1)] (St w0 Φ [(b_1, .cells #[.int .i64 p0.Kind, .string p0.Name, pv0_0, .int .i64 p0.N, .string p0.Undo] 135 (0, 0))] [])
  unfold m_s_ActOk_j1 at h
  refine WT.cond rfl (fun c18 => ?_) (fun c18 => ?_)
  ·replace h := ite_t h c18
   refine WT.seq <| WT.region <| lq (q_move rfl) rfl <| lq (q_move rfl) rfl ?_
   obtain ⟨b14, hb_14, h⟩ := bind_some h
   refine WL.cutN 4 [(101, .bool b14)] ?_ (fun K => ?_)
   rotate_left
   ·refine WL.split (d := 97) rfl (fun c19 => ?_) (fun c19 => ?_)
    ·replace hb_14 := ite_t hb_14 c19
     refine WL.yes rfl rfl <| lq (q_fieldAddr Fld_135_3 rfl) rfl <| WL.yes rfl rfl <| lq (q_load1 T1_3 rfl (fun w1 hw => hw.rgO (i := 0) rfl 3 1 [.int .i64 p0.N] rfl)) rfl <| WL.yes rfl rfl <| lq (q_eql rfl rfl) rfl <| WL.q (q_pick1 rfl rfl) rfl rfl rfl ?_
     cases hb_14
     exact WL.keep (by exact ⟨rfl, trivial⟩) K
    ·replace hb_14 := ite_f hb_14 c19
     refine WL.no rfl rfl rfl rfl <| WL.no rfl rfl rfl rfl <| WL.no rfl rfl rfl rfl <| WL.q (q_pick0 rfl rfl) rfl rfl rfl ?_
     cases hb_14
     exact WL.keep (by exact ⟨rfl, trivial⟩) K
   refine lq (q_assign rfl) rfl <| WL.nil ?_
   refine WT.ret Tryz.func193 (resOk.one rfl) (fun w1 hw => ?_)
   subst hb0
   cases h
   exact post_of_St hw
  replace h := ite_f h c18
  refine WT.skip <| WT.inBlock <| WT.seq <| WT.region <| lq (q_assign rfl) rfl <| WL.nil ?_
  refine WT.ret Tryz.func193 (resOk.one rfl) (fun w1 hw => ?_)
  subst hb0
  cases h
  exact post_of_St hw
 refine WT.cond rfl (fun c20 => ?_) (fun c20 => ?_)
 ·replace h := ite_t h c20
  refine WT.skip <| WT.mono (l' := [(1, .pointer (some ⟨b_1, 0, none⟩)), (3, .bool b2), (93, .bool (decide (p0.Kind = 5)))]) (S' := St w0 Φ [(b_1, .cells #[.int .i64 p0.Kind, .string p0.Name, pv0_0, .int .i64 p0.N, .string p0.Undo] 135 (0, 0))] []) ⟨rfl, rfl, rfl, trivial⟩ (fun w1 hw => (hw.sel (js := []) rfl).selO (js := [0]) rfl) ?_
  exact K (decide (p0.Kind = 5)) h
 replace h := ite_f h c20
 refine WT.region <| lq (q_eql rfl rfl) rfl <| lq (q_assign rfl) rfl <| WL.nil <| WT.mono (l' := [(1, .pointer (some ⟨b_1, 0, none⟩)), (3, .bool b2), (93, .bool (decide (p0.Kind = 6)))]) (S' := St w0 Φ [(b_1, .cells #[.int .i64 p0.Kind, .string p0.Name, pv0_0, .int .i64 p0.N, .string p0.Undo] 135 (0, 0))] []) ⟨rfl, rfl, rfl, trivial⟩ (fun w1 hw => (hw.sel (js := []) rfl).selO (js := [0]) rfl) ?_
 exact K (decide (p0.Kind = 6)) h
theorem m_s_l9Acts_ok {Φ : Hp} {w : World} (hΦ : In Φ w) (N : Nat) (p0 : (List TAct)) (p1 : (List ByteArray)) (p2 : Int) {pv0 : Value} {pG0 : List Nat} {pv1 : Value} {pG1 : List Nat} (ph0 : RSl RTAct 5 Φ pG0 pv0 p0) (ph1 : RSl RS 1 Φ pG1 pv1 p1) {r : Bool} (h : m_s_l9Acts N p0 p1 p2 = some r) :
  Calls Tryz.prog 135 [pv0, pv1, .int .i64 p2].toArray w (Post (.bool r) w) := by
 refine enter Tryz.func135 rfl Tryz.ntmps135 rfl (St.start0 hΦ) ?_
 generalize hb0 : (⟨w, [], Φ⟩ : Base) = w0
 unfold m_s_l9Acts at h
 refine WT.seq <| WT.region <| lq (q_assign rfl) rfl <| WL.nil <| WT.seq <| WT.seq <| WT.region <| lq (q_assign rfl) rfl <| WL.nil <| WT.block <| WT.loop <| WT.mono (l' := [(0, pv0), (1, pv1), (2, .int .i64 p2), (7, .int .i64 0)]) (S' := St w0 Φ [] []) ⟨rfl, rfl, rfl, rfl, trivial⟩ (fun w1 hw => (hw.sel (js := []) rfl).selO (js := []) rfl) ?_
 refine loop_ind (σ := Int) (fun s => [(0, pv0), (1, pv1), (2, .int .i64 p2), (7, .int .i64 s)]) (fun s => St w0 Φ [] []) (fun m s => m_s_l9Acts_l1 N p0 p1 p2 m s = some r) (fun s hm => none_ne (show (none : Option (Bool)) = some r from hm)) (fun n1 ih1 s hm => ?_) N (0) h
 revert hm; revert s; intro s1 hm
 have h : m_s_l9Acts_l1 N p0 p1 p2 (n1 + 1) s1 = some r := hm
 show WT _ _ [(0, pv0), (1, pv1), (2, .int .i64 p2), (7, .int .i64 s1)] (St w0 Φ [] [])
 unfold m_s_l9Acts_l1 at h
 refine WT.seq <| WT.seq <| WT.region <| lq (q_move rfl) rfl <| lq (q_move rfl) rfl <| lq (q_lenR Sl_47 rfl rfl ph0) rfl <| lq (q_lss rfl rfl) rfl <| WL.nil ?_
 refine WT.cond rfl (fun c1 => ?_) (fun c1 => ?_)
 ·replace h := ite_t h c1
  refine WT.skip <| WT.seq <| WT.block <| WT.seq <| WT.seq <| WT.region <| lq (q_move rfl) rfl <| lq (q_move rfl) rfl ?_
  obtain ⟨x1, hx1, h⟩ := bind_some h
  obtain ⟨cs1, F1, -, g1, hb1, hs1, r1⟩ := ph0.el (idx_some hx1).2.2
  obtain ⟨v1, G1, rfl, hq1, h1⟩ := r1
  obtain rfl := hq1.symm
  refine lq (q_indexAddr Sl_47 rfl rfl ph0 hx1) rfl <| lq (q_loadN Tn_135 rfl (fun w1 hw => (g1.of_eq 0 5 rfl rfl : rg _ _ _ [.int .i64 x1.Kind, .string x1.Name, v1, .int .i64 x1.N, .string x1.Undo]).rangeAt hw.fro) rfl) rfl ?_
  obtain ⟨x2, hx2, h⟩ := bind_some h
  refine lp (p_call Fun_193 rfl (fun w1 hw => m_s_ActOk_ok hw.fro N x1 h1 hx2)) rfl <| lq (q_not rfl) rfl <| lq (q_move rfl) rfl ?_
  obtain ⟨b1, hb_1, h⟩ := bind_some h
  refine WL.cutN 16 [(37, .bool b1), (0, pv0), (1, pv1), (2, .int .i64 p2), (7, .int .i64 s1)] ?_ (fun K => ?_)
  rotate_left
  ·refine WL.split (d := 21) rfl (fun c2 => ?_) (fun c2 => ?_)
   ·replace hb_1 := ite_t hb_1 c2
    refine WL.no rfl rfl rfl rfl <| WL.no rfl rfl rfl rfl <| WL.no rfl rfl rfl rfl <| WL.no rfl rfl rfl rfl <| WL.no rfl rfl rfl rfl <| WL.no rfl rfl rfl rfl <| WL.no rfl rfl rfl rfl <| WL.nox rfl rfl rfl rfl <| WL.nox rfl rfl rfl rfl <| WL.nox rfl rfl rfl rfl <| WL.nox rfl rfl rfl rfl <| WL.nox rfl rfl rfl rfl <| WL.nox rfl rfl rfl rfl <| WL.nox rfl rfl rfl rfl <| WL.no rfl rfl rfl rfl <| WL.q (q_pick1 rfl rfl) rfl rfl rfl ?_
    cases hb_1
    exact WL.keep (by exact ⟨rfl, rfl, rfl, rfl, rfl, trivial⟩) K
   ·replace hb_1 := ite_f hb_1 c2
    refine WL.yes rfl rfl <| lq (q_move rfl) rfl <| WL.yes rfl rfl <| lq (q_move rfl) rfl <| WL.yes rfl rfl ?_
    obtain ⟨x3, hx3, hb_1⟩ := bind_some hb_1
    obtain ⟨cs2, F2, -, g2, hb2, hs2, r2⟩ := ph0.el (idx_some hx3).2.2
    obtain ⟨v2, G2, rfl, hq2, h2⟩ := r2
    obtain rfl := hq2.symm
    refine lq (q_indexAddr Sl_47 rfl rfl ph0 hx3) rfl <| WL.yes rfl rfl <| lq (q_fieldAddr Fld_135_0 rfl) rfl <| WL.yes rfl rfl <| lq (q_load1 T1_3 rfl (fun w1 hw => (g2.of_eq 0 1 rfl rfl : rg _ _ _ [.int .i64 x3.Kind]).rangeAt hw.fro)) rfl <| WL.yes rfl rfl <| lq (q_eql rfl rfl) rfl <| WL.yes rfl rfl <| lq (q_move rfl) rfl ?_
    obtain ⟨b2, hb_2, hb_1⟩ := bind_some hb_1
    refine WL.cutN 8 [(36, .bool b2), (0, pv0), (1, pv1), (2, .int .i64 p2), (7, .int .i64 s1), (21, .bool false)] ?_ (fun K => ?_)
    rotate_left
    ·refine WL.split (d := 28) rfl (fun c3 => ?_) (fun c3 => ?_)
     ·replace hb_2 := ite_t hb_2 c3
      refine WL.yes rfl rfl <| lq (q_move rfl) rfl <| WL.yes rfl rfl <| lq (q_move rfl) rfl <| WL.yes rfl rfl ?_
      obtain ⟨x4, hx4, hb_2⟩ := bind_some hb_2
      obtain ⟨cs3, F3, -, g3, hb3, hs3, r3⟩ := ph0.el (idx_some hx4).2.2
      obtain ⟨v3, G3, rfl, hq3, h3⟩ := r3
      obtain rfl := hq3.symm
      refine lq (q_indexAddr Sl_47 rfl rfl ph0 hx4) rfl <| WL.yes rfl rfl <| lq (q_fieldAddr Fld_135_3 rfl) rfl <| WL.yes rfl rfl <| lq (q_load1 T1_3 rfl (fun w1 hw => (g3.of_eq 3 1 rfl rfl : rg _ _ _ [.int .i64 x4.N]).rangeAt hw.fro)) rfl <| WL.yes rfl rfl <| lq (q_move rfl) rfl <| WL.yes rfl rfl <| lq (q_geq rfl rfl) rfl <| WL.yes rfl rfl <| WL.q (q_pick1 rfl rfl) rfl rfl rfl ?_
      cases hb_2
      exact WL.keep (by exact ⟨rfl, rfl, rfl, rfl, rfl, rfl, trivial⟩) K
     ·replace hb_2 := ite_f hb_2 c3
      refine WL.no rfl rfl rfl rfl <| WL.no rfl rfl rfl rfl <| WL.no rfl rfl rfl rfl <| WL.no rfl rfl rfl rfl <| WL.no rfl rfl rfl rfl <| WL.no rfl rfl rfl rfl <| WL.no rfl rfl rfl rfl <| WL.yes rfl rfl <| WL.q (q_pick0 rfl rfl) rfl rfl rfl ?_
      cases hb_2
      exact WL.keep (by exact ⟨rfl, rfl, rfl, rfl, rfl, rfl, trivial⟩) K
    refine WL.q (q_pick0 rfl rfl) rfl rfl rfl ?_
    cases hb_1
    exact WL.keep (by exact ⟨rfl, rfl, rfl, rfl, rfl, trivial⟩) K
  refine WL.nil ?_
  refine WT.cond rfl (fun c4 => ?_) (fun c4 => ?_)
  ·replace h := ite_t h c4
   refine WT.seq <| WT.region <| lq (q_assign rfl) rfl <| WL.nil ?_
   refine WT.ret Tryz.func135 (resOk.one rfl) (fun w1 hw => ?_)
   subst hb0
   cases h
   exact post_of_St hw
  replace h := ite_f h c4
  refine WT.skip <| WT.seq <| WT.region <| lq (q_assign rfl) rfl <| WL.nil <| WT.block <| WT.loop <| WT.mono (l' := [(0, pv0), (1, pv1), (2, .int .i64 p2), (7, .int .i64 s1), (8, .int .i64 0)]) (S' := St w0 Φ [] []) ⟨rfl, rfl, rfl, rfl, rfl, trivial⟩ (fun w1 hw => (hw.sel (js := []) rfl).selO (js := []) rfl) ?_
  refine loop_ind (σ := Int) (fun s => [(0, pv0), (1, pv1), (2, .int .i64 p2), (7, .int .i64 s1), (8, .int .i64 s)]) (fun s => St w0 Φ [] []) (fun m s => m_s_l9Acts_l2 N p0 p1 s1 (m_s_l9Acts_l1 N p0 p1 p2 n1) m s = some r) (fun s hm => none_ne (show (none : Option (Bool)) = some r from hm)) (fun n2 ih2 s hm => ?_) N (0) h
  revert hm; revert s; intro s2 hm
  have h : m_s_l9Acts_l2 N p0 p1 s1 (m_s_l9Acts_l1 N p0 p1 p2 n1) (n2 + 1) s2 = some r := hm
  show WT _ _ [(0, pv0), (1, pv1), (2, .int .i64 p2), (7, .int .i64 s1), (8, .int .i64 s2)] (St w0 Φ [] [])
  unfold m_s_l9Acts_l2 at h
  refine WT.seq <| WT.seq <| WT.region <| lq (q_move rfl) rfl <| lq (q_move rfl) rfl <| lq (q_move rfl) rfl ?_
  obtain ⟨x5, hx5, h⟩ := bind_some h
  obtain ⟨cs4, F4, -, g4, hb4, hs4, r4⟩ := ph0.el (idx_some hx5).2.2
  obtain ⟨v4, G4, rfl, hq4, h4⟩ := r4
  obtain rfl := hq4.symm
  refine lq (q_indexAddr Sl_47 rfl rfl ph0 hx5) rfl <| lq (q_fieldAddr Fld_135_2 rfl) rfl <| lq (q_load1 T1_133 rfl (fun w1 hw => (g4.of_eq 2 1 rfl rfl : rg _ _ _ [v4]).rangeAt hw.fro)) rfl <| lq (q_lenR Sl_133 rfl rfl h4) rfl <| lq (q_lss rfl rfl) rfl <| WL.nil ?_
  refine WT.cond rfl (fun c5 => ?_) (fun c5 => ?_)
  ·replace h := ite_t h c5
   refine WT.skip <| WT.seq <| WT.block <| WT.seq <| WT.region <| lq (q_move rfl) rfl <| lq (q_move rfl) rfl ?_
   obtain ⟨x6, hx6, h⟩ := bind_some h
   obtain ⟨cs5, F5, -, g5, hb5, hs5, r5⟩ := ph0.el (idx_some hx6).2.2
   obtain ⟨v5, G5, rfl, hq5, h5⟩ := r5
   obtain rfl := hq5.symm
   refine lq (q_indexAddr Sl_47 rfl rfl ph0 hx6) rfl <| lq (q_fieldAddr Fld_135_2 rfl) rfl <| lq (q_load1 T1_133 rfl (fun w1 hw => (g5.of_eq 2 1 rfl rfl : rg _ _ _ [v5]).rangeAt hw.fro)) rfl <| lq (q_move rfl) rfl ?_
   obtain ⟨x7, hx7, h⟩ := bind_some h
   obtain ⟨cs6, F6, -, g6, hb6, hs6, r6⟩ := h5.el (idx_some hx7).2.2
   obtain ⟨rfl, -⟩ := r6
   refine lq (q_indexAddr Sl_133 rfl rfl h5 hx7) rfl <| lq (q_fieldAddr Fld_175_1 rfl) rfl <| lq (q_loadN Tn_126 rfl (fun w1 hw => (g6.of_eq 1 5 rfl rfl : rg _ _ _ [.int .i64 x7.L.K, .string x7.L.S, .int .i64 x7.L.V.K, .int .i64 x7.L.V.N, .string x7.L.V.S]).rangeAt hw.fro) rfl) rfl <| lq (q_move rfl) rfl ?_
   obtain ⟨x8, hx8, h⟩ := bind_some h
   refine lp (p_call Fun_179 rfl (fun w1 hw => m_s_l9Known_ok hw.fro N x7.L p1 ph1 hx8)) rfl <| lq (q_not rfl) rfl <| lq (q_move rfl) rfl ?_
   obtain ⟨b3, hb_3, h⟩ := bind_some h
   refine WL.cutN 13 [(73, .bool b3), (0, pv0), (1, pv1), (2, .int .i64 p2), (7, .int .i64 s1), (8, .int .i64 s2)] ?_ (fun K => ?_)
   rotate_left
   ·refine WL.split (d := 60) rfl (fun c6 => ?_) (fun c6 => ?_)
    ·replace hb_3 := ite_t hb_3 c6
     refine WL.no rfl rfl rfl rfl <| WL.no rfl rfl rfl rfl <| WL.no rfl rfl rfl rfl <| WL.no rfl rfl rfl rfl <| WL.no rfl rfl rfl rfl <| WL.no rfl rfl rfl rfl <| WL.no rfl rfl rfl rfl <| WL.no rfl rfl rfl rfl <| WL.no rfl rfl rfl rfl <| WL.no rfl rfl rfl rfl <| WL.no rfl rfl rfl rfl <| WL.no rfl rfl rfl rfl <| WL.q (q_pick1 rfl rfl) rfl rfl rfl ?_
     cases hb_3
     exact WL.keep (by exact ⟨rfl, rfl, rfl, rfl, rfl, rfl, trivial⟩) K
    ·replace hb_3 := ite_f hb_3 c6
     refine WL.yes rfl rfl <| lq (q_move rfl) rfl <| WL.yes rfl rfl <| lq (q_move rfl) rfl <| WL.yes rfl rfl ?_
     obtain ⟨x9, hx9, hb_3⟩ := bind_some hb_3
     obtain ⟨cs7, F7, -, g7, hb7, hs7, r7⟩ := ph0.el (idx_some hx9).2.2
     obtain ⟨v6, G6, rfl, hq6, h6⟩ := r7
     obtain rfl := hq6.symm
     refine lq (q_indexAddr Sl_47 rfl rfl ph0 hx9) rfl <| WL.yes rfl rfl <| lq (q_fieldAddr Fld_135_2 rfl) rfl <| WL.yes rfl rfl <| lq (q_load1 T1_133 rfl (fun w1 hw => (g7.of_eq 2 1 rfl rfl : rg _ _ _ [v6]).rangeAt hw.fro)) rfl <| WL.yes rfl rfl <| lq (q_move rfl) rfl <| WL.yes rfl rfl ?_
     obtain ⟨x10, hx10, hb_3⟩ := bind_some hb_3
     obtain ⟨cs8, F8, -, g8, hb8, hs8, r8⟩ := h6.el (idx_some hx10).2.2
     obtain ⟨rfl, -⟩ := r8
     refine lq (q_indexAddr Sl_133 rfl rfl h6 hx10) rfl <| WL.yes rfl rfl <| lq (q_fieldAddr Fld_175_2 rfl) rfl <| WL.yes rfl rfl <| lq (q_loadN Tn_126 rfl (fun w1 hw => (g8.of_eq 6 5 rfl rfl : rg _ _ _ [.int .i64 x10.R.K, .string x10.R.S, .int .i64 x10.R.V.K, .int .i64 x10.R.V.N, .string x10.R.V.S]).rangeAt hw.fro) rfl) rfl <| WL.yes rfl rfl <| lq (q_move rfl) rfl <| WL.yes rfl rfl ?_
     obtain ⟨x11, hx11, hb_3⟩ := bind_some hb_3
     refine lp (p_call Fun_179 rfl (fun w1 hw => m_s_l9Known_ok hw.fro N x10.R p1 ph1 hx11)) rfl <| WL.yes rfl rfl <| lq (q_not rfl) rfl <| WL.q (q_pick0 rfl rfl) rfl rfl rfl ?_
     cases hb_3
     exact WL.keep (by exact ⟨rfl, rfl, rfl, rfl, rfl, rfl, trivial⟩) K
   refine WL.nil ?_
   refine WT.cond rfl (fun c7 => ?_) (fun c7 => ?_)
   ·replace h := ite_t h c7
    refine WT.seq <| WT.region <| lq (q_assign rfl) rfl <| WL.nil ?_
    refine WT.ret Tryz.func135 (resOk.one rfl) (fun w1 hw => ?_)
    subst hb0
    cases h
    exact post_of_St hw
   replace h := ite_f h c7
   refine WT.skip <| WT.inBlock <| WT.region <| lq (q_move rfl) rfl <| lq (q_add rfl rfl) rfl <| lq (q_assign rfl) rfl <| WL.nil ?_
   refine WT.inLoop (WT.mono (l' := [(0, pv0), (1, pv1), (2, .int .i64 p2), (7, .int .i64 s1), (8, .int .i64 (IntKind.i64.wrap (s2 + 1)))]) (S' := St w0 Φ [] []) ⟨rfl, rfl, rfl, rfl, rfl, trivial⟩ (fun w1 hw => (hw.sel (js := []) rfl).selO (js := []) rfl) ?_)
   exact ih2 (IntKind.i64.wrap (s2 + 1)) h
  replace h := ite_f h c5
  refine WT.exit rfl <| WT.inBlock <| WT.region <| lq (q_move rfl) rfl <| lq (q_add rfl rfl) rfl <| lq (q_assign rfl) rfl <| WL.nil ?_
  refine WT.inLoop (WT.mono (l' := [(0, pv0), (1, pv1), (2, .int .i64 p2), (7, .int .i64 (IntKind.i64.wrap (s1 + 1)))]) (S' := St w0 Φ [] []) ⟨rfl, rfl, rfl, rfl, trivial⟩ (fun w1 hw => (hw.sel (js := []) rfl).selO (js := []) rfl) ?_)
  exact ih1 (IntKind.i64.wrap (s1 + 1)) h
 replace h := ite_f h c1
 refine WT.exit rfl <| WT.seq <| WT.region <| lq (q_move rfl) rfl <| lq (q_lenR Sl_47 rfl rfl ph0) rfl ?_
 obtain ⟨x12, hx12, h⟩ := bind_some h
 refine lp (p_call Fun_85 rfl (fun w1 hw => m_s_l1In_ok hw.fro N (p0.length : Int) 1 6 hx12)) rfl <| lq (q_assign rfl) rfl <| WL.nil ?_
 refine WT.ret Tryz.func135 (resOk.one rfl) (fun w1 hw => ?_)
 subst hb0
 cases h
 exact post_of_St hw
theorem m_s_RuleOk_ok {Φ : Hp} {w : World} (hΦ : In Φ w) (N : Nat) (p0 : TRule) {pv0_0 : Value} {pG0_0 : List Nat} {pv0_1 : Value} {pG0_1 : List Nat} {pv0_2 : Value} {pG0_2 : List Nat} (ph0_0 : RSl RTPat 3 Φ pG0_0 pv0_0 p0.Pats) (ph0_1 : RSl RTCond 11 Φ pG0_1 pv0_1 p0.Conds) (ph0_2 : RSl RTAct 5 Φ pG0_2 pv0_2 p0.Acts) {r : Bool} (h : m_s_RuleOk N p0 = some r) :
  Calls Tryz.prog 68 [.agg [.string p0.Name, .int .i64 p0.Sal, pv0_0, pv0_1, pv0_2].toArray].toArray w (Post (.bool r) w) := by
 refine enter Tryz.func68 rfl Tryz.ntmps68 rfl (St.start0 hΦ) ?_
 have pa0_0 : Old ⟨w, [], Φ⟩ pG0_0 := Old.mk hΦ ph0_0.kn (Dj.empty _)
 have pa0_1 : Old ⟨w, [], Φ⟩ pG0_1 := Old.mk hΦ ph0_1.kn (Dj.empty _)
 have pa0_2 : Old ⟨w, [], Φ⟩ pG0_2 := Old.mk hΦ ph0_2.kn (Dj.empty _)
 unfold m_s_RuleOk at h
 refine WT.seq <| WT.region ?_
 refine ln (n_box (C := #[.string p0.Name, .int .i64 p0.Sal, pv0_0, pv0_1, pv0_2]) rfl rfl) rfl (fun b_1 => ?_)
 refine lq (q_assign rfl) rfl <| WL.nil <| WT.seq <| WT.region <| lq (q_loadN Tn_49 rfl (fun w1 hw => hw.rgO (i := 0) rfl 0 5 [.string p0.Name, .int .i64 p0.Sal, pv0_0, pv0_1, pv0_2] rfl) rfl) rfl ?_
 obtain ⟨x1, hx1, h⟩ := bind_some h
 refine lc (k_call (js := []) (R := []) Fun_115 rfl rfl (fun w1 hw ap hl => m_s_PosVars_ok hw.fro N p0 ph0_0 ph0_1 ph0_2  hx1)) rfl (fun v1 Φ_1 F1 q1 => ?_)
 obtain ⟨ap1, fr1, v2, rfl, rfl, h1⟩ := q1
 replace ph0_0 := ph0_0.frame RTPat.lasts fr1 (ap1.o pa0_0)
 replace ph0_1 := ph0_1.frame RTCond.lasts fr1 (ap1.o pa0_1)
 replace ph0_2 := ph0_2.frame RTAct.lasts fr1 (ap1.o pa0_2)
 refine lq (q_assign rfl) rfl <| WL.nil <| WT.seq <| WT.draw mixed (by kernel_rfl) (fun _ h => h.drew) <| qq (q_fieldAddr Fld_49_0 rfl) rfl <| qq (q_load1 T1_9 rfl (fun w1 hw => hw.rgO (i := 0) rfl 0 1 [.string p0.Name] rfl)) rfl ?_
 obtain ⟨x2, hx2, h⟩ := bind_some h
 refine qp (p_call Fun_84 rfl (fun w1 hw => m_s_NameOk_ok hw.fro N p0.Name hx2)) rfl <| qq (q_move rfl) rfl ?_
 obtain ⟨b1, hb_1, h⟩ := bind_some h
 refine WQ.cutN 4 [(13, .bool b1), (1, .pointer (some ⟨b_1, 0, none⟩)), (3, v1)] ?_ (fun K => ?_)
 rotate_left
 ·refine WQ.split (d := 9) rfl (fun c1 => ?_) (fun c1 => ?_)
  ·replace hb_1 := ite_t hb_1 c1
   refine WQ.yes rfl rfl <| qq (q_fieldAddr Fld_49_1 rfl) rfl <| WQ.yes rfl rfl <| qq (q_load1 T1_3 rfl (fun w1 hw => hw.rgO (i := 0) rfl 1 1 [.int .i64 p0.Sal] rfl)) rfl <| WQ.yes rfl rfl ?_
   obtain ⟨x3, hx3, hb_1⟩ := bind_some hb_1
   refine qp (p_call Fun_85 rfl (fun w1 hw => m_s_l1In_ok hw.fro N p0.Sal (-100) 100 hx3)) rfl <| WQ.q (q_pick1 rfl rfl) rfl rfl rfl ?_
   cases hb_1
   exact WQ.keep (by exact ⟨rfl, rfl, rfl, trivial⟩) K
  ·replace hb_1 := ite_f hb_1 c1
   refine WQ.no rfl rfl rfl rfl <| WQ.no rfl rfl rfl rfl <| WQ.no rfl rfl rfl rfl <| WQ.q (q_pick0 rfl rfl) rfl rfl rfl ?_
   cases hb_1
   exact WQ.keep (by exact ⟨rfl, rfl, rfl, trivial⟩) K
 refine qq (q_move rfl) rfl ?_
 obtain ⟨b2, hb_2, h⟩ := bind_some h
 refine WQ.cutN 4 [(18, .bool b2), (1, .pointer (some ⟨b_1, 0, none⟩)), (3, v1)] ?_ (fun K => ?_)
 rotate_left
 ·refine WQ.split (d := 14) rfl (fun c2 => ?_) (fun c2 => ?_)
  ·replace hb_2 := ite_t hb_2 c2
   refine WQ.yes rfl rfl <| qq (q_fieldAddr Fld_49_2 rfl) rfl <| WQ.yes rfl rfl <| qq (q_load1 T1_45 rfl (fun w1 hw => hw.rgO (i := 0) rfl 2 1 [pv0_0] rfl)) rfl <| WQ.yes rfl rfl ?_
   obtain ⟨x4, hx4, hb_2⟩ := bind_some hb_2
   refine qp (p_call Fun_133 rfl (fun w1 hw => m_s_l9Pats_ok hw.fro N p0.Pats ph0_0 hx4)) rfl <| WQ.q (q_pick1 rfl rfl) rfl rfl rfl ?_
   cases hb_2
   exact WQ.keep (by exact ⟨rfl, rfl, rfl, trivial⟩) K
  ·replace hb_2 := ite_f hb_2 c2
   refine WQ.no rfl rfl rfl rfl <| WQ.no rfl rfl rfl rfl <| WQ.no rfl rfl rfl rfl <| WQ.q (q_pick0 rfl rfl) rfl rfl rfl ?_
   cases hb_2
   exact WQ.keep (by exact ⟨rfl, rfl, rfl, trivial⟩) K
 refine qq (q_move rfl) rfl ?_
 obtain ⟨b3, hb_3, h⟩ := bind_some h
 refine WQ.cutN 5 [(24, .bool b3), (1, .pointer (some ⟨b_1, 0, none⟩)), (3, v1)] ?_ (fun K => ?_)
 rotate_left
 ·refine WQ.split (d := 19) rfl (fun c3 => ?_) (fun c3 => ?_)
  ·replace hb_3 := ite_t hb_3 c3
   refine WQ.yes rfl rfl <| qq (q_fieldAddr Fld_49_3 rfl) rfl <| WQ.yes rfl rfl <| qq (q_load1 T1_46 rfl (fun w1 hw => hw.rgO (i := 0) rfl 3 1 [pv0_1] rfl)) rfl <| WQ.yes rfl rfl <| qq (q_move rfl) rfl <| WQ.yes rfl rfl ?_
   obtain ⟨x5, hx5, hb_3⟩ := bind_some hb_3
   refine qp (p_call Fun_134 rfl (fun w1 hw => m_s_l9Conds_ok hw.fro N p0.Conds x1 ph0_1 h1.rsl hx5)) rfl <| WQ.q (q_pick1 rfl rfl) rfl rfl rfl ?_
   cases hb_3
   exact WQ.keep (by exact ⟨rfl, rfl, rfl, trivial⟩) K
  ·replace hb_3 := ite_f hb_3 c3
   refine WQ.no rfl rfl rfl rfl <| WQ.no rfl rfl rfl rfl <| WQ.no rfl rfl rfl rfl <| WQ.no rfl rfl rfl rfl <| WQ.q (q_pick0 rfl rfl) rfl rfl rfl ?_
   cases hb_3
   exact WQ.keep (by exact ⟨rfl, rfl, rfl, trivial⟩) K
 refine qq (q_move rfl) rfl ?_
 obtain ⟨b4, hb_4, h⟩ := bind_some h
 refine WQ.cutN 7 [(32, .bool b4)] ?_ (fun K => ?_)
 rotate_left
 ·refine WQ.split (d := 25) rfl (fun c4 => ?_) (fun c4 => ?_)
  ·replace hb_4 := ite_t hb_4 c4
   refine WQ.yes rfl rfl <| qq (q_fieldAddr Fld_49_4 rfl) rfl <| WQ.yes rfl rfl <| qq (q_load1 T1_47 rfl (fun w1 hw => hw.rgO (i := 0) rfl 4 1 [pv0_2] rfl)) rfl <| WQ.yes rfl rfl <| qq (q_move rfl) rfl <| WQ.yes rfl rfl <| qq (q_loadN Tn_49 rfl (fun w1 hw => hw.rgO (i := 0) rfl 0 5 [.string p0.Name, .int .i64 p0.Sal, pv0_0, pv0_1, pv0_2] rfl) rfl) rfl <| WQ.yes rfl rfl ?_
   obtain ⟨x6, hx6, hb_4⟩ := bind_some hb_4
   refine qp (p_call Fun_119 rfl (fun w1 hw => m_s_PosCount_ok hw.fro N p0 ph0_0 ph0_1 ph0_2 hx6)) rfl <| WQ.yes rfl rfl ?_
   obtain ⟨x7, hx7, hb_4⟩ := bind_some hb_4
   refine qp (p_call Fun_135 rfl (fun w1 hw => m_s_l9Acts_ok hw.fro N p0.Acts x1 x6 ph0_2 h1.rsl hx7)) rfl <| WQ.q (q_pick1 rfl rfl) rfl rfl rfl ?_
   cases hb_4
   exact WQ.keep (by exact ⟨rfl, trivial⟩) K
  ·replace hb_4 := ite_f hb_4 c4
   refine WQ.no rfl rfl rfl rfl <| WQ.no rfl rfl rfl rfl <| WQ.no rfl rfl rfl rfl <| WQ.no rfl rfl rfl rfl <| WQ.no rfl rfl rfl rfl <| WQ.no rfl rfl rfl rfl <| WQ.q (q_pick0 rfl rfl) rfl rfl rfl ?_
   cases hb_4
   exact WQ.keep (by exact ⟨rfl, trivial⟩) K
 refine qq (q_assign rfl) rfl <| WQ.nil ?_
 refine WT.ret Tryz.func68 (resOk.one rfl) (fun w1 hw => ?_)
 cases h
 exact post_of_St hw
theorem m_s_l3Vals_ok {Φ : Hp} {w : World} (hΦ : In Φ w) (N : Nat) (p0 : (List TVal)) {pv0 : Value} {pG0 : List Nat} (ph0 : RSl RTVal 3 Φ pG0 pv0 p0) {r : Bool} (h : m_s_l3Vals N p0 = some r) :
  Calls Tryz.prog 194 [pv0].toArray w (Post (.bool r) w) := by
 refine enter Tryz.func194 rfl Tryz.ntmps194 rfl (St.start0 hΦ) ?_
 generalize hb0 : (⟨w, [], Φ⟩ : Base) = w0
 unfold m_s_l3Vals at h
 refine WT.seq <| WT.region <| lq (q_assign rfl) rfl <| WL.nil <| WT.seq <| WT.seq <| WT.region <| lq (q_assign rfl) rfl <| WL.nil <| WT.block <| WT.loop <| WT.mono (l' := [(0, pv0), (3, .int .i64 0)]) (S' := St w0 Φ [] []) ⟨rfl, rfl, trivial⟩ (fun w1 hw => (hw.sel (js := []) rfl).selO (js := []) rfl) ?_
 refine loop_ind (σ := Int) (fun s => [(0, pv0), (3, .int .i64 s)]) (fun s => St w0 Φ [] []) (fun m s => m_s_l3Vals_l1 N p0 m s = some r) (fun s hm => none_ne (show (none : Option (Bool)) = some r from hm)) (fun n1 ih1 s hm => ?_) N (0) h
 revert hm; revert s; intro s1 hm
 have h : m_s_l3Vals_l1 N p0 (n1 + 1) s1 = some r := hm
 show WT _ _ [(0, pv0), (3, .int .i64 s1)] (St w0 Φ [] [])
 unfold m_s_l3Vals_l1 at h
 refine WT.seq <| WT.seq <| WT.region <| lq (q_move rfl) rfl <| lq (q_move rfl) rfl <| lq (q_lenR Sl_100 rfl rfl ph0) rfl <| lq (q_lss rfl rfl) rfl <| WL.nil ?_
 refine WT.cond rfl (fun c1 => ?_) (fun c1 => ?_)
 ·replace h := ite_t h c1
  refine WT.skip <| WT.seq <| WT.block <| WT.seq <| WT.region <| lq (q_move rfl) rfl <| lq (q_move rfl) rfl ?_
  obtain ⟨x1, hx1, h⟩ := bind_some h
  obtain ⟨cs1, F1, -, g1, hb1, hs1, r1⟩ := ph0.el (idx_some hx1).2.2
  obtain ⟨rfl, -⟩ := r1
  refine lq (q_indexAddr Sl_100 rfl rfl ph0 hx1) rfl <| lq (q_loadN Tn_121 rfl (fun w1 hw => (g1.of_eq 0 3 rfl rfl : rg _ _ _ [.int .i64 x1.K, .int .i64 x1.N, .string x1.S]).rangeAt hw.fro) rfl) rfl ?_
  obtain ⟨x2, hx2, h⟩ := bind_some h
  refine lp (p_call Fun_223 rfl (fun w1 hw => m_s_ValOk_ok hw.fro N x1 hx2)) rfl <| lq (q_not rfl) rfl <| WL.nil ?_
  refine WT.cond rfl (fun c2 => ?_) (fun c2 => ?_)
  ·replace h := ite_t h c2
   refine WT.seq <| WT.region <| lq (q_assign rfl) rfl <| WL.nil ?_
   refine WT.ret Tryz.func194 (resOk.one rfl) (fun w1 hw => ?_)
   subst hb0
   cases h
   exact post_of_St hw
  replace h := ite_f h c2
  refine WT.skip <| WT.inBlock <| WT.region <| lq (q_move rfl) rfl <| lq (q_add rfl rfl) rfl <| lq (q_assign rfl) rfl <| WL.nil ?_
  refine WT.inLoop (WT.mono (l' := [(0, pv0), (3, .int .i64 (IntKind.i64.wrap (s1 + 1)))]) (S' := St w0 Φ [] []) ⟨rfl, rfl, trivial⟩ (fun w1 hw => (hw.sel (js := []) rfl).selO (js := []) rfl) ?_)
  exact ih1 (IntKind.i64.wrap (s1 + 1)) h
 replace h := ite_f h c1
 refine WT.exit rfl <| WT.seq <| WT.region <| lq (q_move rfl) rfl <| lq (q_lenR Sl_100 rfl rfl ph0) rfl <| lq (q_leq rfl rfl) rfl <| lq (q_assign rfl) rfl <| WL.nil ?_
 refine WT.ret Tryz.func194 (resOk.one rfl) (fun w1 hw => ?_)
 subst hb0
 cases h
 exact post_of_St hw
theorem m_s_FactOk_ok {Φ : Hp} {w : World} (hΦ : In Φ w) (N : Nat) (p0 : TFact) {pv0_0 : Value} {pG0_0 : List Nat} (ph0_0 : RSl RTVal 3 Φ pG0_0 pv0_0 p0.Fields) {r : Bool} (h : m_s_FactOk N p0 = some r) :
  Calls Tryz.prog 136 [.agg [.string p0.Kind, pv0_0].toArray].toArray w (Post (.bool r) w) := by
 refine enter Tryz.func136 rfl Tryz.ntmps136 rfl (St.start0 hΦ) ?_
 unfold m_s_FactOk at h
 refine WT.seq <| WT.region ?_
 refine ln (n_box (C := #[.string p0.Kind, pv0_0]) rfl rfl) rfl (fun b_1 => ?_)
 refine lq (q_assign rfl) rfl <| WL.nil <| WT.seq <| WT.region <| lq (q_fieldAddr Fld_116_0 rfl) rfl <| lq (q_load1 T1_9 rfl (fun w1 hw => hw.rgO (i := 0) rfl 0 1 [.string p0.Kind] rfl)) rfl ?_
 obtain ⟨x1, hx1, h⟩ := bind_some h
 refine lp (p_call Fun_84 rfl (fun w1 hw => m_s_NameOk_ok hw.fro N p0.Kind hx1)) rfl <| lq (q_move rfl) rfl ?_
 obtain ⟨b1, hb_1, h⟩ := bind_some h
 refine WL.cutN 4 [(10, .bool b1), (2, .bool false)] ?_ (fun K => ?_)
 rotate_left
 ·refine WL.split (d := 6) rfl (fun c1 => ?_) (fun c1 => ?_)
  ·replace hb_1 := ite_t hb_1 c1
   refine WL.yes rfl rfl <| lq (q_fieldAddr Fld_116_1 rfl) rfl <| WL.yes rfl rfl <| lq (q_load1 T1_100 rfl (fun w1 hw => hw.rgO (i := 0) rfl 1 1 [pv0_0] rfl)) rfl <| WL.yes rfl rfl ?_
   obtain ⟨x2, hx2, hb_1⟩ := bind_some hb_1
   refine lp (p_call Fun_194 rfl (fun w1 hw => m_s_l3Vals_ok hw.fro N p0.Fields ph0_0 hx2)) rfl <| WL.q (q_pick1 rfl rfl) rfl rfl rfl ?_
   cases hb_1
   exact WL.keep (by exact ⟨rfl, rfl, trivial⟩) K
  ·replace hb_1 := ite_f hb_1 c1
   refine WL.no rfl rfl rfl rfl <| WL.no rfl rfl rfl rfl <| WL.no rfl rfl rfl rfl <| WL.q (q_pick0 rfl rfl) rfl rfl rfl ?_
   cases hb_1
   exact WL.keep (by exact ⟨rfl, rfl, trivial⟩) K
 refine lq (q_assign rfl) rfl <| WL.nil ?_
 refine WT.ret Tryz.func136 (resOk.one rfl) (fun w1 hw => ?_)
 cases h
 exact post_of_St hw
theorem m_s_StoreOk_ok {Φ : Hp} {w : World} (hΦ : In Φ w) (N : Nat) (p0 : TStore) {pv0_0 : Value} {pG0_0 : List Nat} (ph0_0 : RSl RTItem 3 Φ pG0_0 pv0_0 p0.Items) {r : Bool} (h : m_s_StoreOk N p0 = some r) :
  Calls Tryz.prog 69 [.agg [pv0_0, .int .i64 p0.Next].toArray].toArray w (Post (.bool r) w) := by
 refine enter Tryz.func69 rfl Tryz.ntmps69 rfl (St.start0 hΦ) ?_
 generalize hb0 : (⟨w, [], Φ⟩ : Base) = w0
 unfold m_s_StoreOk at h
 refine WT.seq <| WT.region ?_
 refine ln (n_box (C := #[pv0_0, .int .i64 p0.Next]) rfl rfl) rfl (fun b_1 => ?_)
 refine lq (q_assign rfl) rfl <| WL.nil <| WT.seq <| WT.seq <| WT.region <| lq (q_fieldAddr Fld_52_1 rfl) rfl <| lq (q_load1 T1_3 rfl (fun w1 hw => hw.rgO (i := 0) rfl 1 1 [.int .i64 p0.Next] rfl)) rfl ?_
 obtain ⟨x1, hx1, h⟩ := bind_some h
 refine lp (p_call Fun_85 rfl (fun w1 hw => m_s_l1In_ok hw.fro N p0.Next 1 1000000 hx1)) rfl <| lq (q_not rfl) rfl <| lq (q_move rfl) rfl ?_
 obtain ⟨b1, hb_1, h⟩ := bind_some h
 refine WL.cutN 5 [(14, .bool b1), (1, .pointer (some ⟨b_1, 0, none⟩))] ?_ (fun K => ?_)
 rotate_left
 ·refine WL.split (d := 9) rfl (fun c1 => ?_) (fun c1 => ?_)
  ·replace hb_1 := ite_t hb_1 c1
   refine WL.no rfl rfl rfl rfl <| WL.no rfl rfl rfl rfl <| WL.no rfl rfl rfl rfl <| WL.no rfl rfl rfl rfl <| WL.q (q_pick1 rfl rfl) rfl rfl rfl ?_
   cases hb_1
   exact WL.keep (by exact ⟨rfl, rfl, trivial⟩) K
  ·replace hb_1 := ite_f hb_1 c1
   refine WL.yes rfl rfl <| lq (q_fieldAddr Fld_52_0 rfl) rfl <| WL.yes rfl rfl <| lq (q_load1 T1_50 rfl (fun w1 hw => hw.rgO (i := 0) rfl 0 1 [pv0_0] rfl)) rfl <| WL.yes rfl rfl <| lq (q_lenR Sl_50 rfl rfl ph0_0) rfl <| WL.yes rfl rfl <| lq (q_gtr rfl rfl) rfl <| WL.q (q_pick0 rfl rfl) rfl rfl rfl ?_
   cases hb_1
   exact WL.keep (by exact ⟨rfl, rfl, trivial⟩) K
 refine WL.nil ?_
 refine WT.cond rfl (fun c2 => ?_) (fun c2 => ?_)
 ·replace h := ite_t h c2
  refine WT.seq <| WT.region <| lq (q_assign rfl) rfl <| WL.nil ?_
  refine WT.ret Tryz.func69 (resOk.one rfl) (fun w1 hw => ?_)
  subst hb0
  cases h
  exact post_of_St hw
 replace h := ite_f h c2
 refine WT.skip <| WT.seq <| WT.seq <| WT.region <| lq (q_assign rfl) rfl <| WL.nil <| WT.block <| WT.loop <| WT.mono (l' := [(1, .pointer (some ⟨b_1, 0, none⟩)), (3, .int .i64 0)]) (S' := St w0 Φ [(b_1, .cells #[pv0_0, .int .i64 p0.Next] 52 (0, 0))] []) ⟨rfl, rfl, trivial⟩ (fun w1 hw => (hw.sel (js := []) rfl).selO (js := [0]) rfl) ?_
 refine loop_ind (σ := Int) (fun s => [(1, .pointer (some ⟨b_1, 0, none⟩)), (3, .int .i64 s)]) (fun s => St w0 Φ [(b_1, .cells #[pv0_0, .int .i64 p0.Next] 52 (0, 0))] []) (fun m s => m_s_StoreOk_l1 N p0 m s = some r) (fun s hm => none_ne (show (none : Option (Bool)) = some r from hm)) (fun n1 ih1 s hm => ?_) N (0) h
 revert hm; revert s; intro s1 hm
 have h : m_s_StoreOk_l1 N p0 (n1 + 1) s1 = some r := hm
 show WT _ _ [(1, .pointer (some ⟨b_1, 0, none⟩)), (3, .int .i64 s1)] (St w0 Φ [(b_1, .cells #[pv0_0, .int .i64 p0.Next] 52 (0, 0))] [])
 unfold m_s_StoreOk_l1 at h
 refine WT.seq <| WT.seq <| WT.region <| lq (q_move rfl) rfl <| lq (q_fieldAddr Fld_52_0 rfl) rfl <| lq (q_load1 T1_50 rfl (fun w1 hw => hw.rgO (i := 0) rfl 0 1 [pv0_0] rfl)) rfl <| lq (q_lenR Sl_50 rfl rfl ph0_0) rfl <| lq (q_lss rfl rfl) rfl <| WL.nil ?_
 refine WT.cond rfl (fun c3 => ?_) (fun c3 => ?_)
 ·replace h := ite_t h c3
  refine WT.skip <| WT.seq <| WT.block <| WT.seq <| WT.region <| lq (q_fieldAddr Fld_52_0 rfl) rfl <| lq (q_load1 T1_50 rfl (fun w1 hw => hw.rgO (i := 0) rfl 0 1 [pv0_0] rfl)) rfl <| lq (q_move rfl) rfl ?_
  obtain ⟨x2, hx2, h⟩ := bind_some h
  obtain ⟨cs1, F1, -, g1, hb1, hs1, r1⟩ := ph0_0.el (idx_some hx2).2.2
  obtain ⟨v1, G1, rfl, hq1, h1⟩ := r1
  obtain rfl := hq1.symm
  refine lq (q_indexAddr Sl_50 rfl rfl ph0_0 hx2) rfl <| lq (q_loadN Tn_142 rfl (fun w1 hw => (g1.of_eq 0 3 rfl rfl : rg _ _ _ [.int .i64 x2.Id, .string x2.F.Kind, v1]).rangeAt hw.fro) rfl) rfl ?_
  refine ln (n_alloc (C := #[.int .i64 0, .string (⟨#[]⟩ : ByteArray), .slice none 0 0]) Zr_142 rfl) rfl (fun b_2 => ?_)
  refine ls (s_store (i := 0) (vs := [.int .i64 x2.Id, .string x2.F.Kind, v1]) (C' := [.int .i64 x2.Id, .string x2.F.Kind, v1]) (O' := [(b_2, .cells #[.int .i64 x2.Id, .string x2.F.Kind, v1] 142 (0, 0)), (b_1, .cells #[pv0_0, .int .i64 p0.Next] 52 (0, 0))]) Sz_142 rfl rfl rfl rfl rfl rfl ⟨rfl, rfl, h1.one, trivial⟩ rfl rfl) rfl <| WL.nil <| WT.seq <| WT.draw mixed (by kernel_rfl) (fun _ h => h.drew) <| qq (q_fieldAddr Fld_142_1 rfl) rfl ?_
  refine qq (q_loadN Tn_116 rfl (fun w1 hw => hw.rgO (i := 0) rfl 1 2 [.string x2.F.Kind, v1] rfl) rfl) rfl ?_
  obtain ⟨x3, hx3, h⟩ := bind_some h
  refine qp (p_call Fun_136 rfl (fun w1 hw => m_s_FactOk_ok hw.fro N x2.F h1 hx3)) rfl <| qq (q_not rfl) rfl <| qq (q_move rfl) rfl ?_
  obtain ⟨b2, hb_2, h⟩ := bind_some h
  refine WQ.cutN 4 [(35, .bool b2), (1, .pointer (some ⟨b_1, 0, none⟩)), (3, .int .i64 s1), (4, .pointer (some ⟨b_2, 0, none⟩))] ?_ (fun K => ?_)
  rotate_left
  ·refine WQ.split (d := 31) rfl (fun c4 => ?_) (fun c4 => ?_)
   ·replace hb_2 := ite_t hb_2 c4
    refine WQ.no rfl rfl rfl rfl <| WQ.no rfl rfl rfl rfl <| WQ.no rfl rfl rfl rfl <| WQ.q (q_pick1 rfl rfl) rfl rfl rfl ?_
    cases hb_2
    exact WQ.keep (by exact ⟨rfl, rfl, rfl, rfl, trivial⟩) K
   ·replace hb_2 := ite_f hb_2 c4
    refine WQ.yes rfl rfl <| qq (q_fieldAddr Fld_142_0 rfl) rfl <| WQ.yes rfl rfl <| qq (q_load1 T1_3 rfl (fun w1 hw => hw.rgO (i := 0) rfl 0 1 [.int .i64 x2.Id] rfl)) rfl <| WQ.yes rfl rfl <| qq (q_lss rfl rfl) rfl <| WQ.q (q_pick0 rfl rfl) rfl rfl rfl ?_
    cases hb_2
    exact WQ.keep (by exact ⟨rfl, rfl, rfl, rfl, trivial⟩) K
  refine qq (q_move rfl) rfl ?_
  obtain ⟨b3, hb_3, h⟩ := bind_some h
  refine WQ.cutN 6 [(42, .bool b3), (1, .pointer (some ⟨b_1, 0, none⟩)), (3, .int .i64 s1), (4, .pointer (some ⟨b_2, 0, none⟩))] ?_ (fun K => ?_)
  rotate_left
  ·refine WQ.split (d := 36) rfl (fun c5 => ?_) (fun c5 => ?_)
   ·replace hb_3 := ite_t hb_3 c5
    refine WQ.no rfl rfl rfl rfl <| WQ.no rfl rfl rfl rfl <| WQ.no rfl rfl rfl rfl <| WQ.no rfl rfl rfl rfl <| WQ.no rfl rfl rfl rfl <| WQ.q (q_pick1 rfl rfl) rfl rfl rfl ?_
    cases hb_3
    exact WQ.keep (by exact ⟨rfl, rfl, rfl, rfl, trivial⟩) K
   ·replace hb_3 := ite_f hb_3 c5
    refine WQ.yes rfl rfl <| qq (q_fieldAddr Fld_142_0 rfl) rfl <| WQ.yes rfl rfl <| qq (q_load1 T1_3 rfl (fun w1 hw => hw.rgO (i := 0) rfl 0 1 [.int .i64 x2.Id] rfl)) rfl <| WQ.yes rfl rfl <| qq (q_fieldAddr Fld_52_1 rfl) rfl <| WQ.yes rfl rfl <| qq (q_load1 T1_3 rfl (fun w1 hw => hw.rgO (i := 1) rfl 1 1 [.int .i64 p0.Next] rfl)) rfl <| WQ.yes rfl rfl <| qq (q_geq rfl rfl) rfl <| WQ.q (q_pick0 rfl rfl) rfl rfl rfl ?_
    cases hb_3
    exact WQ.keep (by exact ⟨rfl, rfl, rfl, rfl, trivial⟩) K
  refine qq (q_move rfl) rfl ?_
  obtain ⟨b4, hb_4, h⟩ := bind_some h
  refine WQ.cutN 15 [(58, .bool b4), (1, .pointer (some ⟨b_1, 0, none⟩)), (3, .int .i64 s1), (4, .pointer (some ⟨b_2, 0, none⟩))] ?_ (fun K => ?_)
  rotate_left
  ·refine WQ.split (d := 43) rfl (fun c6 => ?_) (fun c6 => ?_)
   ·replace hb_4 := ite_t hb_4 c6
    refine WQ.no rfl rfl rfl rfl <| WQ.no rfl rfl rfl rfl <| WQ.no rfl rfl rfl rfl <| WQ.nox rfl rfl rfl rfl <| WQ.nox rfl rfl rfl rfl <| WQ.nox rfl rfl rfl rfl <| WQ.nox rfl rfl rfl rfl <| WQ.nox rfl rfl rfl rfl <| WQ.nox rfl rfl rfl rfl <| WQ.nox rfl rfl rfl rfl <| WQ.nox rfl rfl rfl rfl <| WQ.nox rfl rfl rfl rfl <| WQ.nox rfl rfl rfl rfl <| WQ.no rfl rfl rfl rfl <| WQ.q (q_pick1 rfl rfl) rfl rfl rfl ?_
    cases hb_4
    exact WQ.keep (by exact ⟨rfl, rfl, rfl, rfl, trivial⟩) K
   ·replace hb_4 := ite_f hb_4 c6
    refine WQ.yes rfl rfl <| qq (q_move rfl) rfl <| WQ.yes rfl rfl <| qq (q_gtr rfl rfl) rfl <| WQ.yes rfl rfl <| qq (q_move rfl) rfl ?_
    obtain ⟨b5, hb_5, hb_4⟩ := bind_some hb_4
    refine WQ.cutN 11 [(57, .bool b5), (1, .pointer (some ⟨b_1, 0, none⟩)), (3, .int .i64 s1), (4, .pointer (some ⟨b_2, 0, none⟩)), (43, .bool false)] ?_ (fun K => ?_)
    rotate_left
    ·refine WQ.split (d := 46) rfl (fun c7 => ?_) (fun c7 => ?_)
     ·replace hb_5 := ite_t hb_5 c7
      refine WQ.yes rfl rfl <| qq (q_fieldAddr Fld_52_0 rfl) rfl <| WQ.yes rfl rfl <| qq (q_load1 T1_50 rfl (fun w1 hw => hw.rgO (i := 1) rfl 0 1 [pv0_0] rfl)) rfl <| WQ.yes rfl rfl <| qq (q_move rfl) rfl <| WQ.yes rfl rfl <| qq (q_sub rfl rfl) rfl <| WQ.yes rfl rfl ?_
      obtain ⟨x4, hx4, hb_5⟩ := bind_some hb_5
      obtain ⟨cs2, F2, -, g2, hb2, hs2, r2⟩ := ph0_0.el (idx_some hx4).2.2
      obtain ⟨v2, G2, rfl, hq2, h2⟩ := r2
      obtain rfl := hq2.symm
      refine qq (q_indexAddr Sl_50 rfl rfl ph0_0 hx4) rfl <| WQ.yes rfl rfl <| qq (q_fieldAddr Fld_142_0 rfl) rfl <| WQ.yes rfl rfl <| qq (q_load1 T1_3 rfl (fun w1 hw => (g2.of_eq 0 1 rfl rfl : rg _ _ _ [.int .i64 x4.Id]).rangeAt hw.fro)) rfl <| WQ.yes rfl rfl <| qq (q_fieldAddr Fld_142_0 rfl) rfl <| WQ.yes rfl rfl <| qq (q_load1 T1_3 rfl (fun w1 hw => hw.rgO (i := 0) rfl 0 1 [.int .i64 x2.Id] rfl)) rfl <| WQ.yes rfl rfl <| qq (q_geq rfl rfl) rfl <| WQ.yes rfl rfl ?_
      refine WQ.q (q_pick1 rfl rfl) rfl rfl rfl ?_
      cases hb_5
      exact WQ.keep (by exact ⟨rfl, rfl, rfl, rfl, rfl, trivial⟩) K
     ·replace hb_5 := ite_f hb_5 c7
      refine WQ.no rfl rfl rfl rfl <| WQ.no rfl rfl rfl rfl <| WQ.no rfl rfl rfl rfl <| WQ.no rfl rfl rfl rfl <| WQ.no rfl rfl rfl rfl <| WQ.no rfl rfl rfl rfl <| WQ.no rfl rfl rfl rfl <| WQ.no rfl rfl rfl rfl <| WQ.no rfl rfl rfl rfl <| WQ.no rfl rfl rfl rfl <| WQ.yes rfl rfl <| WQ.q (q_pick0 rfl rfl) rfl rfl rfl ?_
      cases hb_5
      exact WQ.keep (by exact ⟨rfl, rfl, rfl, rfl, rfl, trivial⟩) K
    refine WQ.q (q_pick0 rfl rfl) rfl rfl rfl ?_
    cases hb_4
    exact WQ.keep (by exact ⟨rfl, rfl, rfl, rfl, trivial⟩) K
  refine qq (q_move rfl) rfl ?_
  obtain ⟨b6, hb_6, h⟩ := bind_some h
  refine WQ.cutN 8 [(67, .bool b6), (1, .pointer (some ⟨b_1, 0, none⟩)), (3, .int .i64 s1)] ?_ (fun K => ?_)
  rotate_left
  ·refine WQ.split (d := 59) rfl (fun c8 => ?_) (fun c8 => ?_)
   ·replace hb_6 := ite_t hb_6 c8
    refine WQ.no rfl rfl rfl rfl <| WQ.no rfl rfl rfl rfl <| WQ.no rfl rfl rfl rfl <| WQ.no rfl rfl rfl rfl <| WQ.no rfl rfl rfl rfl <| WQ.no rfl rfl rfl rfl <| WQ.no rfl rfl rfl rfl <| WQ.q (q_pick1 rfl rfl) rfl rfl rfl ?_
    cases hb_6
    exact WQ.keep (by exact ⟨rfl, rfl, rfl, trivial⟩) K
   ·replace hb_6 := ite_f hb_6 c8
    refine WQ.yes rfl rfl <| qq (q_loadN Tn_52 rfl (fun w1 hw => hw.rgO (i := 1) rfl 0 2 [pv0_0, .int .i64 p0.Next] rfl) rfl) rfl <| WQ.yes rfl rfl <| qq (q_fieldAddr Fld_142_1 rfl) rfl <| WQ.yes rfl rfl <| qq (q_loadN Tn_116 rfl (fun w1 hw => hw.rgO (i := 0) rfl 1 2 [.string x2.F.Kind, v1] rfl) rfl) rfl <| WQ.yes rfl rfl ?_
    obtain ⟨x5, hx5, hb_6⟩ := bind_some hb_6
    refine qp (p_call Fun_137 rfl (fun w1 hw => m_s_IdOf_ok hw.fro N p0 x2.F ph0_0 h1 hx5)) rfl <| WQ.yes rfl rfl <| qq (q_fieldAddr Fld_142_0 rfl) rfl <| WQ.yes rfl rfl <| qq (q_load1 T1_3 rfl (fun w1 hw => hw.rgO (i := 0) rfl 0 1 [.int .i64 x2.Id] rfl)) rfl <| WQ.yes rfl rfl <| qq (q_neq rfl rfl) rfl <| WQ.q (q_pick0 rfl rfl) rfl rfl rfl ?_
    cases hb_6
    exact WQ.keep (by exact ⟨rfl, rfl, rfl, trivial⟩) K
  refine WQ.nil ?_
  refine WT.cond rfl (fun c9 => ?_) (fun c9 => ?_)
  ·replace h := ite_t h c9
   refine WT.seq <| WT.region <| lq (q_assign rfl) rfl <| WL.nil ?_
   refine WT.ret Tryz.func69 (resOk.one rfl) (fun w1 hw => ?_)
   subst hb0
   cases h
   exact post_of_St hw
  replace h := ite_f h c9
  refine WT.skip <| WT.inBlock <| WT.region <| lq (q_move rfl) rfl <| lq (q_add rfl rfl) rfl <| lq (q_assign rfl) rfl <| WL.nil ?_
  refine WT.inLoop (WT.mono (l' := [(1, .pointer (some ⟨b_1, 0, none⟩)), (3, .int .i64 (IntKind.i64.wrap (s1 + 1)))]) (S' := St w0 Φ [(b_1, .cells #[pv0_0, .int .i64 p0.Next] 52 (0, 0))] []) ⟨rfl, rfl, trivial⟩ (fun w1 hw => (hw.sel (js := []) rfl).selO (js := [1]) rfl) ?_)
  exact ih1 (IntKind.i64.wrap (s1 + 1)) h
 replace h := ite_f h c3
 refine WT.exit rfl <| WT.seq <| WT.region <| lq (q_assign rfl) rfl <| WL.nil ?_
 refine WT.ret Tryz.func69 (resOk.one rfl) (fun w1 hw => ?_)
 subst hb0
 cases h
 exact post_of_St hw
theorem m_s_MatchesOf_ok {Φ : Hp} {w : World} (hΦ : In Φ w) (N : Nat) (p0 : TRule) (p1 : TStore) {pv0_0 : Value} {pG0_0 : List Nat} {pv0_1 : Value} {pG0_1 : List Nat} {pv0_2 : Value} {pG0_2 : List Nat} {pv1_0 : Value} {pG1_0 : List Nat} (ph0_0 : RSl RTPat 3 Φ pG0_0 pv0_0 p0.Pats) (ph0_1 : RSl RTCond 11 Φ pG0_1 pv0_1 p0.Conds) (ph0_2 : RSl RTAct 5 Φ pG0_2 pv0_2 p0.Acts) (ph1_0 : RSl RTItem 3 Φ pG1_0 pv1_0 p1.Items) {r : (List TMatch)} (h : m_s_MatchesOf N p0 p1 = some r) :
  Calls Tryz.prog 25 [.agg [.string p0.Name, .int .i64 p0.Sal, pv0_0, pv0_1, pv0_2].toArray, .agg [pv1_0, .int .i64 p1.Next].toArray].toArray w (PostG Φ w [] (fun Φ' Fs v => ∃ (sr_0_0 : Value) (Dr_0_0 : List Nat), v = sr_0_0 ∧ Fs = [ob sr_0_0, Dr_0_0] ∧ OSl OTMatch 63 3 Φ' Dr_0_0 sr_0_0 r)) := by
 refine enter Tryz.func25 rfl Tryz.ntmps25 rfl (St.start0 hΦ) ?_
 generalize hb0 : (⟨w, [], Φ⟩ : Base) = w0
 unfold m_s_MatchesOf at h
 refine WT.seq <| WT.region ?_
 refine ln (n_box (C := #[.string p0.Name, .int .i64 p0.Sal, pv0_0, pv0_1, pv0_2]) rfl rfl) rfl (fun b_1 => ?_)
 refine ln (n_box (C := #[pv1_0, .int .i64 p1.Next]) rfl rfl) rfl (fun b_2 => ?_)
 refine lq (q_assign rfl) rfl <| WL.nil <| WT.seq <| WT.seq <| WT.region <| lq (q_loadN Tn_49 rfl (fun w1 hw => hw.rgO (i := 1) rfl 0 5 [.string p0.Name, .int .i64 p0.Sal, pv0_0, pv0_1, pv0_2] rfl) rfl) rfl ?_
 obtain ⟨x1, hx1, h⟩ := bind_some h
 refine lp (p_call Fun_68 rfl (fun w1 hw => m_s_RuleOk_ok hw.fro N p0 ph0_0 ph0_1 ph0_2 hx1)) rfl <| lq (q_not rfl) rfl <| lq (q_move rfl) rfl ?_
 obtain ⟨b1, hb_1, h⟩ := bind_some h
 refine WL.cutN 4 [(12, .bool b1), (2, .pointer (some ⟨b_1, 0, none⟩)), (3, .pointer (some ⟨b_2, 0, none⟩))] ?_ (fun K => ?_)
 rotate_left
 ·refine WL.split (d := 8) rfl (fun c1 => ?_) (fun c1 => ?_)
  ·replace hb_1 := ite_t hb_1 c1
   refine WL.no rfl rfl rfl rfl <| WL.no rfl rfl rfl rfl <| WL.no rfl rfl rfl rfl <| WL.q (q_pick1 rfl rfl) rfl rfl rfl ?_
   cases hb_1
   exact WL.keep (by exact ⟨rfl, rfl, rfl, trivial⟩) K
  ·replace hb_1 := ite_f hb_1 c1
   refine WL.yes rfl rfl <| lq (q_loadN Tn_52 rfl (fun w1 hw => hw.rgO (i := 0) rfl 0 2 [pv1_0, .int .i64 p1.Next] rfl) rfl) rfl <| WL.yes rfl rfl ?_
   obtain ⟨x2, hx2, hb_1⟩ := bind_some hb_1
   refine lp (p_call Fun_69 rfl (fun w1 hw => m_s_StoreOk_ok hw.fro N p1 ph1_0 hx2)) rfl <| WL.yes rfl rfl <| lq (q_not rfl) rfl <| WL.q (q_pick0 rfl rfl) rfl rfl rfl ?_
   cases hb_1
   exact WL.keep (by exact ⟨rfl, rfl, rfl, trivial⟩) K
 refine WL.nil ?_
 refine WT.cond rfl (fun c2 => ?_) (fun c2 => ?_)
 ·replace h := ite_t h c2
  refine WT.seq <| WT.region ?_
  have rc1 : RC OTMatch 3 Φ ([] : List (List Nat)) [] ([] : List TMatch) := RC.nil _ _ _
  refine le' (e_lit (vs := []) (C := #[]) OTMatch.lasts Sl_59 Zr_63 rfl rfl rfl rfl (fill_made MC_63_0 (fill_nil)) rfl rc1 rfl (by simpa using Kw.nil)) rfl (fun v1 Φ_1 D1 q1 => ?_)
  obtain ⟨fr1, h1⟩ := q1
  replace h1 : OSl OTMatch 63 3 Φ_1 [] v1 ([] : List TMatch) := by simpa [List.append_assoc] using h1
  refine WL.conv (S' := St w0 Φ_1 [(b_2, .cells #[pv1_0, .int .i64 p1.Next] 52 (0, 0)), (b_1, .cells #[.string p0.Name, .int .i64 p0.Sal, pv0_0, pv0_1, pv0_2] 49 (0, 0))] [[], ob v1]) (fun w1 hw => hw.addNil) <| lq (q_assign rfl) rfl <| WL.nil ?_
  refine WT.ret Tryz.func25 (resOk.one rfl) (fun w1 hw => ?_)
  subst hb0
  cases h
  refine postG_of_St (js := [1, 0]) hw rfl ⟨v1, [], rfl, rfl, h1⟩
 replace h := ite_f h c2
 refine WT.skip <| WT.seq <| WT.region <| lq (q_loadN Tn_49 rfl (fun w1 hw => hw.rgO (i := 1) rfl 0 5 [.string p0.Name, .int .i64 p0.Sal, pv0_0, pv0_1, pv0_2] rfl) rfl) rfl <| lq (q_loadN Tn_52 rfl (fun w1 hw => hw.rgO (i := 0) rfl 0 2 [pv1_0, .int .i64 p1.Next] rfl) rfl) rfl ?_
 obtain ⟨x3, hx3, h⟩ := bind_some h
 refine lc (k_call (js := []) (R := []) Fun_58 rfl rfl (fun w1 hw ap hl => m_s_l11Of_ok hw.fro N p0 p1 ph0_0 ph0_1 ph0_2 ph1_0  hx3)) rfl (fun v2 Φ_2 F1 q2 => ?_)
 obtain ⟨ap1, fr2, v3, D2, rfl, rfl, h2⟩ := q2
 refine lq (q_assign rfl) rfl <| WL.nil ?_
 refine WT.ret Tryz.func25 (resOk.one rfl) (fun w1 hw => ?_)
 subst hb0
 cases h
 refine postG_of_St (js := [0, 0]) hw rfl ⟨v2, D2, rfl, rfl, h2⟩
theorem m_sl_Compare_Sint_int_ok {Φ : Hp} {w : World} (hΦ : In Φ w) (N : Nat) (p0 : (List Int)) (p1 : (List Int)) {pv0 : Value} {pG0 : List Nat} {pv1 : Value} {pG1 : List Nat} (ph0 : RSl (RI .i64) 1 Φ pG0 pv0 p0) (ph1 : RSl (RI .i64) 1 Φ pG1 pv1 p1) {r : Int} (h : m_sl_Compare_Sint_int N p0 p1 = some r) :
  Calls Tryz.prog 148 [pv0, pv1].toArray w (Post (.int .i64 r) w) := by
 refine enter Tryz.func148 rfl Tryz.ntmps148 rfl (St.start0 hΦ) ?_
 generalize hb0 : (⟨w, [], Φ⟩ : Base) = w0
 unfold m_sl_Compare_Sint_int at h
 refine WT.seq <| WT.region <| lq (q_assign rfl) rfl <| WL.nil <| WT.seq <| WT.seq <| WT.region <| lq (q_move rfl) rfl <| lq (q_lenR Sl_41 rfl rfl ph0) rfl <| lq (q_move rfl) rfl <| WL.nil <| WT.block <| WT.loop <| WT.mono (l' := [(0, pv0), (1, pv1), (9, pv0), (10, .int .i64 (p0.length : Int)), (11, .int .i64 0)]) (S' := St w0 Φ [] []) ⟨rfl, rfl, rfl, rfl, rfl, trivial⟩ (fun w1 hw => (hw.sel (js := []) rfl).selO (js := []) rfl) ?_
 refine loop_ind (σ := Int) (fun s => [(0, pv0), (1, pv1), (9, pv0), (10, .int .i64 (p0.length : Int)), (11, .int .i64 s)]) (fun s => St w0 Φ [] []) (fun m s => m_sl_Compare_Sint_int_l1 N p0 p1 m s = some r) (fun s hm => none_ne (show (none : Option (Int)) = some r from hm)) (fun n1 ih1 s hm => ?_) N (0) h
 revert hm; revert s; intro s1 hm
 have h : m_sl_Compare_Sint_int_l1 N p0 p1 (n1 + 1) s1 = some r := hm
 show WT _ _ [(0, pv0), (1, pv1), (9, pv0), (10, .int .i64 (p0.length : Int)), (11, .int .i64 s1)] (St w0 Φ [] [])
 unfold m_sl_Compare_Sint_int_l1 at h
 refine WT.seq <| WT.region <| lq (q_lss rfl rfl) rfl <| WL.nil <| WT.seq ?_
 refine WT.cond rfl (fun c1 => ?_) (fun c1 => ?_)
 ·replace h := ite_t h c1
  refine WT.skip <| WT.seq <| WT.block <| WT.seq <| WT.region <| lq (q_move rfl) rfl ?_
  obtain ⟨x1, hx1, h⟩ := bind_some h
  obtain ⟨cs1, F1, -, g1, hb1, hs1, r1⟩ := ph0.el (idx_some hx1).2.2
  obtain ⟨rfl, -⟩ := r1
  refine lq (q_indexAddr Sl_41 rfl rfl ph0 hx1) rfl <| lq (q_load1 T1_3 rfl (fun w1 hw => (g1.of_eq 0 1 rfl rfl : rg _ _ _ [.int .i64 x1]).rangeAt hw.fro)) rfl <| lq (q_assign rfl) rfl <| lq (q_assign rfl) rfl <| WL.nil <| WT.seq <| WT.seq <| WT.region <| lq (q_move rfl) rfl <| lq (q_move rfl) rfl <| lq (q_lenR Sl_41 rfl rfl ph1) rfl <| lq (q_geq rfl rfl) rfl <| WL.nil ?_
  refine WT.cond rfl (fun c2 => ?_) (fun c2 => ?_)
  ·replace h := ite_t h c2
   refine WT.seq <| WT.region <| lq (q_assign rfl) rfl <| WL.nil ?_
   refine WT.ret Tryz.func148 (resOk.one rfl) (fun w1 hw => ?_)
   subst hb0
   cases h
   exact post_of_St hw
  replace h := ite_f h c2
  refine WT.skip <| WT.seq <| WT.region <| lq (q_move rfl) rfl <| lq (q_move rfl) rfl ?_
  obtain ⟨x2, hx2, h⟩ := bind_some h
  obtain ⟨cs2, F2, -, g2, hb2, hs2, r2⟩ := ph1.el (idx_some hx2).2.2
  obtain ⟨rfl, -⟩ := r2
  refine lq (q_indexAddr Sl_41 rfl rfl ph1 hx2) rfl <| lq (q_load1 T1_3 rfl (fun w1 hw => (g2.of_eq 0 1 rfl rfl : rg _ _ _ [.int .i64 x2]).rangeAt hw.fro)) rfl <| lq (q_assign rfl) rfl <| WL.nil <| WT.seq <| WT.region <| lq (q_move rfl) rfl <| lq (q_move rfl) rfl ?_
  obtain ⟨x3, hx3, h⟩ := bind_some h
  refine lp (p_call Fun_147 rfl (fun w1 hw => m_cmp_Compare_int_ok hw.fro N x1 x2 hx3)) rfl <| lq (q_assign rfl) rfl <| WL.nil <| WT.seq <| WT.region <| lq (q_move rfl) rfl <| lq (q_neq rfl rfl) rfl <| WL.nil ?_
  refine WT.cond rfl (fun c3 => ?_) (fun c3 => ?_)
  ·replace h := ite_t h c3
   refine WT.seq <| WT.region <| lq (q_move rfl) rfl <| lq (q_assign rfl) rfl <| WL.nil ?_
   refine WT.ret Tryz.func148 (resOk.one rfl) (fun w1 hw => ?_)
   subst hb0
   cases h
   exact post_of_St hw
  replace h := ite_f h c3
  refine WT.skip <| WT.inBlock <| WT.region <| lq (q_add rfl rfl) rfl <| lq (q_move rfl) rfl <| WL.nil ?_
  refine WT.inLoop (WT.mono (l' := [(0, pv0), (1, pv1), (9, pv0), (10, .int .i64 (p0.length : Int)), (11, .int .i64 (IntKind.i64.wrap (s1 + 1)))]) (S' := St w0 Φ [] []) ⟨rfl, rfl, rfl, rfl, rfl, trivial⟩ (fun w1 hw => (hw.sel (js := []) rfl).selO (js := []) rfl) ?_)
  exact ih1 (IntKind.i64.wrap (s1 + 1)) h
 replace h := ite_f h c1
 refine WT.exit rfl <| WT.seq <| WT.seq <| WT.region <| lq (q_move rfl) rfl <| lq (q_lenR Sl_41 rfl rfl ph0) rfl <| lq (q_move rfl) rfl <| lq (q_lenR Sl_41 rfl rfl ph1) rfl <| lq (q_lss rfl rfl) rfl <| WL.nil ?_
 refine WT.cond rfl (fun c4 => ?_) (fun c4 => ?_)
 ·replace h := ite_t h c4
  refine WT.seq <| WT.region <| lq (q_assign rfl) rfl <| WL.nil ?_
  refine WT.ret Tryz.func148 (resOk.one rfl) (fun w1 hw => ?_)
  subst hb0
  cases h
  exact post_of_St hw
 replace h := ite_f h c4
 refine WT.skip <| WT.seq <| WT.region <| lq (q_assign rfl) rfl <| WL.nil ?_
 refine WT.ret Tryz.func148 (resOk.one rfl) (fun w1 hw => ?_)
 subst hb0
 cases h
 exact post_of_St hw
theorem m_i_compareMatches_ok {Φ : Hp} {w : World} (hΦ : In Φ w) (N : Nat) (p0 : TMatch) (p1 : TMatch) {pv0_0 : Value} {pG0_0 : List Nat} {pv0_1 : Value} {pG0_1 : List Nat} {pv1_0 : Value} {pG1_0 : List Nat} {pv1_1 : Value} {pG1_1 : List Nat} (ph0_0 : RSl (RI .i64) 1 Φ pG0_0 pv0_0 p0.Ids) (ph0_1 : RSl RTBind 4 Φ pG0_1 pv0_1 p0.Binds) (ph1_0 : RSl (RI .i64) 1 Φ pG1_0 pv1_0 p1.Ids) (ph1_1 : RSl RTBind 4 Φ pG1_1 pv1_1 p1.Binds) {r : Int} (h : m_i_compareMatches N p0 p1 = some r) :
  Calls Tryz.prog 78 [.agg [.int .i64 p0.Rule, pv0_0, pv0_1].toArray, .agg [.int .i64 p1.Rule, pv1_0, pv1_1].toArray].toArray w (Post (.int .i64 r) w) := by
 refine enter Tryz.func78 rfl Tryz.ntmps78 rfl (St.start0 hΦ) ?_
 unfold m_i_compareMatches at h
 refine WT.seq <| WT.region ?_
 refine ln (n_box (C := #[.int .i64 p0.Rule, pv0_0, pv0_1]) rfl rfl) rfl (fun b_1 => ?_)
 refine ln (n_box (C := #[.int .i64 p1.Rule, pv1_0, pv1_1]) rfl rfl) rfl (fun b_2 => ?_)
 refine lq (q_assign rfl) rfl <| WL.nil <| WT.seq <| WT.mix (Kn Φ [] [(b_2, .cells #[.int .i64 p1.Rule, pv1_0, pv1_1] 63 (0, 0)), (b_1, .cells #[.int .i64 p0.Rule, pv0_0, pv0_1] 63 (0, 0))]) (fun _ => true) mixed (fun _ h => h.drew) <| mq 0 rfl (by kernel_rfl) (fun w1 hw => Kn.of (fun k hk _ _ => by simp at hk) (AllIn.mem ⟨gM 0 rfl, gM 1 rfl, trivial⟩) hw) (q_fieldAddr Fld_63_0 rfl) rfl ?_
 refine mq 1 rfl (by kernel_rfl) (fun w1 hw => Kn.of (fun k hk _ _ => by simp at hk) (AllIn.mem ⟨gM 0 rfl, gM 1 rfl, trivial⟩) hw) (q_load1 T1_3 rfl (fun w1 hw => hw.rgO (i := 1) rfl 0 1 [.int .i64 p0.Rule] rfl)) rfl <| mq 2 rfl (by kernel_rfl) (fun w1 hw => Kn.of (fun k hk _ _ => by simp at hk) (AllIn.mem ⟨gM 0 rfl, gM 1 rfl, trivial⟩) hw) (q_fieldAddr Fld_63_0 rfl) rfl ?_
 refine mq 3 rfl (by kernel_rfl) (fun w1 hw => Kn.of (fun k hk _ _ => by simp at hk) (AllIn.mem ⟨gM 0 rfl, gM 1 rfl, trivial⟩) hw) (q_load1 T1_3 rfl (fun w1 hw => hw.rgO (i := 0) rfl 0 1 [.int .i64 p1.Rule] rfl)) rfl <| mq 5 rfl (by kernel_rfl) (fun w1 hw => Kn.of (fun k hk _ _ => by simp at hk) (AllIn.mem ⟨gM 0 rfl, gM 1 rfl, trivial⟩) hw) (q_fieldAddr Fld_63_1 rfl) rfl ?_
 refine mq 6 rfl (by kernel_rfl) (fun w1 hw => Kn.of (fun k hk _ _ => by simp at hk) (AllIn.mem ⟨gM 0 rfl, gM 1 rfl, trivial⟩) hw) (q_load1 T1_41 rfl (fun w1 hw => hw.rgO (i := 1) rfl 1 1 [pv0_0] rfl)) rfl <| mq 7 rfl (by kernel_rfl) (fun w1 hw => Kn.of (fun k hk _ _ => by simp at hk) (AllIn.mem ⟨gM 0 rfl, gM 1 rfl, trivial⟩) hw) (q_lenR Sl_41 rfl rfl ph0_0) rfl ?_
 refine mq 8 rfl (by kernel_rfl) (fun w1 hw => Kn.of (fun k hk _ _ => by simp at hk) (AllIn.mem ⟨gM 0 rfl, gM 1 rfl, trivial⟩) hw) (q_fieldAddr Fld_63_1 rfl) rfl <| mq 9 rfl (by kernel_rfl) (fun w1 hw => Kn.of (fun k hk _ _ => by simp at hk) (AllIn.mem ⟨gM 0 rfl, gM 1 rfl, trivial⟩) hw) (q_load1 T1_41 rfl (fun w1 hw => hw.rgO (i := 0) rfl 1 1 [pv1_0] rfl)) rfl ?_
 refine mq 10 rfl (by kernel_rfl) (fun w1 hw => Kn.of (fun k hk _ _ => by simp at hk) (AllIn.mem ⟨gM 0 rfl, gM 1 rfl, trivial⟩) hw) (q_lenR Sl_41 rfl rfl ph1_0) rfl ?_
 obtain ⟨x1, hx1, h⟩ := bind_some h
 refine WM.one 4 (by kernel_rfl) (mp rfl (fun _ w1 hw => Kn.of (fun k hk _ _ => by simp at hk) (AllIn.mem ⟨gM 0 rfl, gM 1 rfl, trivial⟩) hw) (p_call Fun_147 rfl (fun w1 hw => m_cmp_Compare_int_ok hw.fro N p0.Rule p1.Rule hx1)) rfl ?_)
 obtain ⟨x2, hx2, h⟩ := bind_some h
 refine WM.one 11 (by kernel_rfl) (mp rfl (fun _ w1 hw => Kn.of (fun k hk _ _ => by simp at hk) (AllIn.mem ⟨gM 0 rfl, gM 1 rfl, trivial⟩) hw) (p_call Fun_147 rfl (fun w1 hw => m_cmp_Compare_int_ok hw.fro N (p0.Ids.length : Int) (p1.Ids.length : Int) hx2)) rfl ?_)
 have rc1 : RC (RI .i64) 1 Φ ([[], []] : List (List Nat)) [.int .i64 x1, .int .i64 x2] ([x1, x2] : List Int) := RC.cons (c := [.int .i64 x1]) (cells := [.int .i64 x2]) ⟨rfl, rfl⟩ rfl (RC.cons (c := [.int .i64 x2]) (cells := []) ⟨rfl, rfl⟩ rfl (RC.nil _ _ _))
 refine WM.one 12 (by kernel_rfl) (me rfl (fun _ v Φx D w1 hq hw => Kn.of (fun k hk _ _ => by simp at hk) (AllIn.mem ⟨gM 0 rfl, gM 1 rfl, trivial⟩) hw) (e_lit (vs := [(0, .int .i64 x1), (1, .int .i64 x2)]) (C := #[.int .i64 x1, .int .i64 x2]) RI.lasts Sl_41 Zr_3 rfl rfl rfl rfl (fill_made MC_3_2 (fill_cons (cells := [.int .i64 0, .int .i64 0]) (c := [.int .i64 x1]) (C' := [.int .i64 x1, .int .i64 0]) rfl rfl rfl rfl rfl (fill_cons (cells := [.int .i64 x1, .int .i64 0]) (c := [.int .i64 x2]) (C' := [.int .i64 x1, .int .i64 x2]) rfl rfl rfl rfl rfl (fill_nil)))) rfl rc1 rfl (by simpa using Kw.nil)) rfl (fun v1 Φ_1 D1 q1 => ?_))
 obtain ⟨fr1, h1⟩ := q1
 replace h1 : OSl (RI .i64) 3 1 Φ_1 [] v1 ([x1, x2] : List Int) := by simpa using h1
 replace ph0_0 := ph0_0.frame RI.lasts fr1 (Dj.empty _)
 replace ph0_1 := ph0_1.frame RTBind.lasts fr1 (Dj.empty _)
 replace ph1_0 := ph1_0.frame RI.lasts fr1 (Dj.empty _)
 replace ph1_1 := ph1_1.frame RTBind.lasts fr1 (Dj.empty _)
 obtain ⟨x3, hx3, h⟩ := bind_some h
 refine WM.one 13 (by kernel_rfl) (mp rfl (fun _ w1 hw => Kn.of (fun k hk _ _ => by simp at hk) (AllIn.mem ⟨gM 0 rfl, gM 1 rfl, trivial⟩) hw) (p_call Fun_146 rfl (fun w1 hw => m_cmp_Or_int_ok hw.fro N ([x1, x2] : List Int) h1.rsl hx3)) rfl ?_)
 refine mq 14 rfl (by kernel_rfl) (fun w1 hw => Kn.of (fun k hk _ _ => by simp at hk) (AllIn.mem ⟨gM 0 rfl, gM 1 rfl, trivial⟩) hw) (q_assign rfl) rfl <| WM.nil (by kernel_rfl) <| WT.seq <| WT.seq <| WT.region <| lq (q_move rfl) rfl <| lq (q_eql rfl rfl) rfl <| WL.nil ?_
 refine WT.cond rfl (fun c1 => ?_) (fun c1 => ?_)
 ·replace h := ite_t h c1
  refine WT.region <| lq (q_fieldAddr Fld_63_1 rfl) rfl <| lq (q_load1 T1_41 rfl (fun w1 hw => hw.rgO (i := 1) rfl 1 1 [pv0_0] rfl)) rfl <| lq (q_fieldAddr Fld_63_1 rfl) rfl <| lq (q_load1 T1_41 rfl (fun w1 hw => hw.rgO (i := 0) rfl 1 1 [pv1_0] rfl)) rfl ?_
  obtain ⟨x4, hx4, h⟩ := bind_some h
  refine lp (p_call Fun_148 rfl (fun w1 hw => m_sl_Compare_Sint_int_ok hw.fro N p0.Ids p1.Ids ph0_0 ph1_0 hx4)) rfl <| lq (q_assign rfl) rfl <| WL.nil <| WT.seq <| WT.region <| lq (q_move rfl) rfl <| lq (q_assign rfl) rfl <| WL.nil ?_
  refine WT.ret Tryz.func78 (resOk.one rfl) (fun w1 hw => ?_)
  cases h
  exact post_of_St hw
 replace h := ite_f h c1
 refine WT.skip <| WT.seq <| WT.region <| lq (q_move rfl) rfl <| lq (q_assign rfl) rfl <| WL.nil ?_
 refine WT.ret Tryz.func78 (resOk.one rfl) (fun w1 hw => ?_)
 cases h
 exact post_of_St hw
theorem m_i_LessMatch_ok {Φ : Hp} {w : World} (hΦ : In Φ w) (N : Nat) (p0 : TMatch) (p1 : TMatch) {pv0_0 : Value} {pG0_0 : List Nat} {pv0_1 : Value} {pG0_1 : List Nat} {pv1_0 : Value} {pG1_0 : List Nat} {pv1_1 : Value} {pG1_1 : List Nat} (ph0_0 : RSl (RI .i64) 1 Φ pG0_0 pv0_0 p0.Ids) (ph0_1 : RSl RTBind 4 Φ pG0_1 pv0_1 p0.Binds) (ph1_0 : RSl (RI .i64) 1 Φ pG1_0 pv1_0 p1.Ids) (ph1_1 : RSl RTBind 4 Φ pG1_1 pv1_1 p1.Binds) {r : Bool} (h : m_i_LessMatch N p0 p1 = some r) :
  Calls Tryz.prog 27 [.agg [.int .i64 p0.Rule, pv0_0, pv0_1].toArray, .agg [.int .i64 p1.Rule, pv1_0, pv1_1].toArray].toArray w (Post (.bool r) w) := by
 refine enter Tryz.func27 rfl Tryz.ntmps27 rfl (St.start0 hΦ) ?_
 unfold m_i_LessMatch at h
 refine WT.seq <| WT.region ?_
 refine ln (n_box (C := #[.int .i64 p0.Rule, pv0_0, pv0_1]) rfl rfl) rfl (fun b_1 => ?_)
 refine ln (n_box (C := #[.int .i64 p1.Rule, pv1_0, pv1_1]) rfl rfl) rfl (fun b_2 => ?_)
 refine lq (q_assign rfl) rfl <| WL.nil <| WT.seq <| WT.region <| lq (q_loadN Tn_63 rfl (fun w1 hw => hw.rgO (i := 1) rfl 0 3 [.int .i64 p0.Rule, pv0_0, pv0_1] rfl) rfl) rfl <| lq (q_loadN Tn_63 rfl (fun w1 hw => hw.rgO (i := 0) rfl 0 3 [.int .i64 p1.Rule, pv1_0, pv1_1] rfl) rfl) rfl ?_
 obtain ⟨x1, hx1, h⟩ := bind_some h
 refine lp (p_call Fun_78 rfl (fun w1 hw => m_i_compareMatches_ok hw.fro N p0 p1 ph0_0 ph0_1 ph1_0 ph1_1 hx1)) rfl <| lq (q_lss rfl rfl) rfl <| lq (q_assign rfl) rfl <| WL.nil ?_
 refine WT.ret Tryz.func27 (resOk.one rfl) (fun w1 hw => ?_)
 cases h
 exact post_of_St hw
theorem m_l_FnMatches_ok {Φ : Hp} {w : World} (hΦ : In Φ w) (N : Nat) (p0 : (List Int)) {pv0 : Value} {pG0 : List Nat} (ph0 : RSl (RI .u8) 1 Φ pG0 pv0 p0) {r : Bool} (h : m_l_FnMatches N p0 = some r) :
  Calls Tryz.prog 6 [pv0].toArray w (Post (.bool r) w) := by
 refine enter Tryz.func6 rfl Tryz.ntmps6 rfl (St.start0 hΦ) ?_
 generalize hb0 : (⟨w, [], Φ⟩ : Base) = w0
 unfold m_l_FnMatches at h
 refine WT.seq <| WT.region <| lq (q_assign rfl) rfl <| WL.nil <| WT.seq <| WT.seq <| WT.region <| lq (q_move rfl) rfl ?_
 obtain ⟨x1, hx1, h⟩ := bind_some h
 refine lp (p_call Fun_10 rfl (fun w1 hw => m_l_big_ok hw.fro N p0 ph0 hx1)) rfl <| WL.nil ?_
 refine WT.cond rfl (fun c1 => ?_) (fun c1 => ?_)
 ·replace h := ite_t h c1
  refine WT.seq <| WT.region <| lq (q_assign rfl) rfl <| WL.nil ?_
  refine WT.ret Tryz.func6 (resOk.one rfl) (fun w1 hw => ?_)
  subst hb0
  cases h
  exact post_of_St hw
 replace h := ite_f h c1
 refine WT.skip <| WT.seq <| WT.region <| lq (q_move rfl) rfl ?_
 obtain ⟨x2, hx2, h⟩ := bind_some h
 refine lc (k_call (js := []) (R := []) Fun_23 rfl rfl (fun w1 hw ap hl => m_s_DrawRule_ok hw.fro N p0 ph0  hx2)) rfl (fun v1 Φ_1 F1 q1 => ?_)
 obtain ⟨ap1, fr1, v2, D1, v3, v4, D2, v5, D3, X1, rfl, rfl, h1, h2, h3, h4, i1⟩ := q1
 refine lq (q_move rfl) rfl <| lq (q_extract rfl rfl) rfl <| lq (q_extract rfl rfl) rfl ?_
 refine ln (n_alloc (C := #[.string (⟨#[]⟩ : ByteArray), .int .i64 0, .slice none 0 0, .slice none 0 0, .slice none 0 0]) Zr_49 rfl) rfl (fun b_1 => ?_)
 refine ln (n_alloc (C := #[.slice none 0 0, .int .i64 0]) Zr_52 rfl) rfl (fun b_2 => ?_)
 refine ls (s_store (i := 1) (vs := [.string x2.1.Name, .int .i64 x2.1.Sal, v2, v3, v4]) (C' := [.string x2.1.Name, .int .i64 x2.1.Sal, v2, v3, v4]) (O' := [(b_2, .cells #[.slice none 0 0, .int .i64 0] 52 (0, 0)), (b_1, .cells #[.string x2.1.Name, .int .i64 x2.1.Sal, v2, v3, v4] 49 (0, 0))]) Sz_49 rfl rfl rfl rfl rfl rfl ⟨rfl, rfl, h1.one, h2.one, h3.one, trivial⟩ rfl rfl) rfl <| ls (s_store (i := 0) (vs := [v5, .int .i64 x2.2.Next]) (C' := [v5, .int .i64 x2.2.Next]) (O' := [(b_2, .cells #[v5, .int .i64 x2.2.Next] 52 (0, 0)), (b_1, .cells #[.string x2.1.Name, .int .i64 x2.1.Sal, v2, v3, v4] 49 (0, 0))]) Sz_52 rfl rfl rfl rfl rfl rfl ⟨h4.one, rfl, trivial⟩ rfl rfl) rfl ?_
 refine WL.nil <| WT.seq <| WT.region <| lq (q_loadN Tn_49 rfl (fun w1 hw => hw.rgO (i := 1) rfl 0 5 [.string x2.1.Name, .int .i64 x2.1.Sal, v2, v3, v4] rfl) rfl) rfl <| lq (q_loadN Tn_52 rfl (fun w1 hw => hw.rgO (i := 0) rfl 0 2 [v5, .int .i64 x2.2.Next] rfl) rfl) rfl ?_
 obtain ⟨x4, hx3, h⟩ := bind_some h
 refine lc (k_call (js := []) (R := [ob v2, D1, ob v3, ob v4, D2, ob v5, X1]) Fun_19 rfl rfl (fun w1 hw ap hl => m_i_MatchesOf_ok hw.fro N x2.1 x2.2 (h1.rslG OTPat.gives) h2.rsl (h3.rslG OTAct.gives) h4.rsl  hx3)) rfl (fun v6 Φ_2 F2 q2 => ?_)
 obtain ⟨ap2, fr2, v7, D4, rfl, rfl, h5⟩ := q2
 replace h1 := h1.frame OTPat.lasts fr2 (ap2.r (i := 0) rfl) (ap2.r (i := 1) rfl)
 replace h2 := h2.frame RTCond.lasts fr2 (ap2.r (i := 2) rfl) (Dj.nil _)
 replace h3 := h3.frame OTAct.lasts fr2 (ap2.r (i := 3) rfl) (ap2.r (i := 4) rfl)
 replace h4 := h4.frame RTItem.lasts fr2 (ap2.r (i := 5) rfl) (Dj.sub (ap2.r (i := 6) rfl) i1)
 refine lq (q_assign rfl) rfl <| WL.nil <| WT.seq <| WT.seq <| WT.region <| lq (q_move rfl) rfl <| lq (q_lenR Sl_59 rfl rfl (h5.rslG OTMatch.gives)) rfl <| lq (q_loadN Tn_49 rfl (fun w1 hw => hw.rgO (i := 1) rfl 0 5 [.string x2.1.Name, .int .i64 x2.1.Sal, v2, v3, v4] rfl) rfl) rfl <| lq (q_loadN Tn_52 rfl (fun w1 hw => hw.rgO (i := 0) rfl 0 2 [v5, .int .i64 x2.2.Next] rfl) rfl) rfl ?_
 obtain ⟨x5, hx4, h⟩ := bind_some h
 refine lc (k_call (js := []) (R := [ob v6, D4, ob v2, D1, ob v3, ob v4, D2, ob v5, X1]) Fun_25 rfl rfl (fun w1 hw ap hl => m_s_MatchesOf_ok hw.fro N x2.1 x2.2 (h1.rslG OTPat.gives) h2.rsl (h3.rslG OTAct.gives) h4.rsl  hx4)) rfl (fun v8 Φ_3 F3 q3 => ?_)
 obtain ⟨ap3, fr3, v9, D5, rfl, rfl, h6⟩ := q3
 replace h1 := h1.frame OTPat.lasts fr3 (ap3.r (i := 2) rfl) (ap3.r (i := 3) rfl)
 replace h2 := h2.frame RTCond.lasts fr3 (ap3.r (i := 4) rfl) (Dj.nil _)
 replace h3 := h3.frame OTAct.lasts fr3 (ap3.r (i := 5) rfl) (ap3.r (i := 6) rfl)
 replace h4 := h4.frame RTItem.lasts fr3 (ap3.r (i := 7) rfl) (Dj.sub (ap3.r (i := 8) rfl) i1)
 replace h5 := h5.frame OTMatch.lasts fr3 (ap3.r (i := 0) rfl) (ap3.r (i := 1) rfl)
 refine lq (q_lenR Sl_59 rfl rfl (h6.rslG OTMatch.gives)) rfl <| lq (q_neq rfl rfl) rfl <| WL.nil ?_
 refine WT.cond rfl (fun c2 => ?_) (fun c2 => ?_)
 ·replace h := ite_t h c2
  refine WT.seq <| WT.region <| lq (q_assign rfl) rfl <| WL.nil ?_
  refine WT.ret Tryz.func6 (resOk.one rfl) (fun w1 hw => ?_)
  subst hb0
  cases h
  exact post_of_St hw
 replace h := ite_f h c2
 refine WT.skip <| WT.seq <| WT.seq <| WT.region <| lq (q_assign rfl) rfl <| WL.nil <| WT.block <| WT.loop <| WT.mono (l' := [(3, .pointer (some ⟨b_1, 0, none⟩)), (4, .pointer (some ⟨b_2, 0, none⟩)), (5, v6), (6, .int .i64 0)]) (S' := St w0 Φ_3 [(b_2, .cells #[v5, .int .i64 x2.2.Next] 52 (0, 0)), (b_1, .cells #[.string x2.1.Name, .int .i64 x2.1.Sal, v2, v3, v4] 49 (0, 0))] [ob v6, D4, ob v2, D1, ob v3, ob v4, D2, ob v5, X1]) ⟨rfl, rfl, rfl, rfl, trivial⟩ (fun w1 hw => (hw.sel (js := [2, 2, 2, 2, 2, 2, 2, 2, 2]) rfl).selO (js := [0, 0]) rfl) ?_
 refine loop_ind (σ := Hp × Int) (fun s => [(3, .pointer (some ⟨b_1, 0, none⟩)), (4, .pointer (some ⟨b_2, 0, none⟩)), (5, v6), (6, .int .i64 s.2)]) (fun s => St w0 s.1 [(b_2, .cells #[v5, .int .i64 x2.2.Next] 52 (0, 0)), (b_1, .cells #[.string x2.1.Name, .int .i64 x2.1.Sal, v2, v3, v4] 49 (0, 0))] [ob v6, D4, ob v2, D1, ob v3, ob v4, D2, ob v5, X1]) (fun m s => m_l_FnMatches_l1 N x2 x4 m s.2 = some r ∧ (OSl OTPat 114 3 s.1 D1 v2 x2.1.Pats) ∧ (OSl RTCond 128 11 s.1 [] v3 x2.1.Conds) ∧ (OSl OTAct 135 5 s.1 D2 v4 x2.1.Acts) ∧ (OSl RTItem 142 3 s.1 D3 v5 x2.2.Items) ∧ (OSl OTMatch 63 3 s.1 D4 v6 x4)) (fun s hm => none_ne (show (none : Option (Bool)) = some r from hm.1)) (fun n1 ih1 s hm => ?_) N (Φ_3, 0) ⟨h, h1, h2, h3, h4, h5⟩
 obtain ⟨Φ_4, s1⟩ := s
 obtain ⟨h, h1, h2, h3, h4, h5⟩ := hm
 replace h : m_l_FnMatches_l1 N x2 x4 (n1 + 1) s1 = some r := h
 replace h1 : OSl OTPat 114 3 Φ_4 D1 v2 x2.1.Pats := h1
 replace h2 : OSl RTCond 128 11 Φ_4 [] v3 x2.1.Conds := h2
 replace h3 : OSl OTAct 135 5 Φ_4 D2 v4 x2.1.Acts := h3
 replace h4 : OSl RTItem 142 3 Φ_4 D3 v5 x2.2.Items := h4
 replace h5 : OSl OTMatch 63 3 Φ_4 D4 v6 x4 := h5
 show WT _ _ [(3, .pointer (some ⟨b_1, 0, none⟩)), (4, .pointer (some ⟨b_2, 0, none⟩)), (5, v6), (6, .int .i64 s1)] (St w0 Φ_4 [(b_2, .cells #[v5, .int .i64 x2.2.Next] 52 (0, 0)), (b_1, .cells #[.string x2.1.Name, .int .i64 x2.1.Sal, v2, v3, v4] 49 (0, 0))] [ob v6, D4, ob v2, D1, ob v3, ob v4, D2, ob v5, X1])
 unfold m_l_FnMatches_l1 at h
 refine WT.seq <| WT.seq <| WT.region <| lq (q_move rfl) rfl <| lq (q_move rfl) rfl <| lq (q_lenR Sl_59 rfl rfl (h5.rslG OTMatch.gives)) rfl <| lq (q_lss rfl rfl) rfl <| WL.nil ?_
 refine WT.cond rfl (fun c3 => ?_) (fun c3 => ?_)
 ·replace h := ite_t h c3
  refine WT.skip <| WT.seq <| WT.block <| WT.seq <| WT.mix (Kn Φ_4 (ob v6) [(b_2, .cells #[v5, .int .i64 x2.2.Next] 52 (0, 0)), (b_1, .cells #[.string x2.1.Name, .int .i64 x2.1.Sal, v2, v3, v4] 49 (0, 0))]) (fun _ => true) mixed (fun _ h => h.drew) <| mq 0 rfl (by kernel_rfl) (fun w1 hw => Kn.of (fun _ _ _ h => h) (AllIn.mem ⟨gM 0 rfl, gM 1 rfl, trivial⟩) hw) (q_loadN Tn_49 rfl (fun w1 hw => hw.rgO (i := 1) rfl 0 5 [.string x2.1.Name, .int .i64 x2.1.Sal, v2, v3, v4] rfl) rfl) rfl ?_
  refine mq 1 rfl (by kernel_rfl) (fun w1 hw => Kn.of (fun _ _ _ h => h) (AllIn.mem ⟨gM 0 rfl, gM 1 rfl, trivial⟩) hw) (q_loadN Tn_52 rfl (fun w1 hw => hw.rgO (i := 0) rfl 0 2 [v5, .int .i64 x2.2.Next] rfl) rfl) rfl <| mq 2 rfl (by kernel_rfl) (fun w1 hw => Kn.of (fun _ _ _ h => h) (AllIn.mem ⟨gM 0 rfl, gM 1 rfl, trivial⟩) hw) (q_move rfl) rfl ?_
  refine mq 3 rfl (by kernel_rfl) (fun w1 hw => Kn.of (fun _ _ _ h => h) (AllIn.mem ⟨gM 0 rfl, gM 1 rfl, trivial⟩) hw) (q_move rfl) rfl ?_
  obtain ⟨x6, hx5, h⟩ := bind_some h
  obtain ⟨cs1, F4, -, g1, hb1, hs1, r1⟩ := h5.elS (idx_some hx5).2.2
  obtain ⟨v10, v11, rfl, rfl, h7, h8⟩ := r1
  have h9 := h7.rsl
  have h10 := h8.rsl
  refine mq 4 rfl (by kernel_rfl) (fun w1 hw => Kn.of (fun _ _ _ h => h) (AllIn.mem ⟨gM 0 rfl, gM 1 rfl, trivial⟩) hw) (q_indexAddr Sl_59 rfl rfl h5.rsl hx5) rfl <| mq 5 rfl (by kernel_rfl) (fun w1 hw => Kn.of (fun _ _ _ h => h) (AllIn.mem ⟨gM 0 rfl, gM 1 rfl, trivial⟩) hw) (q_fieldAddr Fld_63_1 rfl) rfl <| mq 6 rfl (by kernel_rfl) (fun w1 hw => Kn.of (fun _ _ _ h => h) (AllIn.mem ⟨gM 0 rfl, gM 1 rfl, trivial⟩) hw) (q_load1 T1_41 rfl (fun w1 hw => hw.rg hb1 (g1.of_eq 1 1 rfl rfl : rg _ _ _ [v10]))) rfl ?_
  obtain ⟨x7, hx6, h⟩ := bind_some h
  refine WM.one 7 (by kernel_rfl) (mc rfl (fun _ v Φx D w1 hq hw => Kn.of (fun k hk o ho => hq.2.1 k o ((hq.1.r (i := 0) rfl) k hk) ((fun _ _ _ h => h) k hk o ho)) (AllIn.mem ⟨gM 0 rfl, gM 1 rfl, trivial⟩) hw) (k_call (js := []) (R := [ob v6, D4, ob v2, D1, ob v3, ob v4, D2, ob v5, X1]) Fun_16 rfl rfl (fun w1 hw ap hl => m_i_BindsFor_ok hw.fro N x2.1 x2.2 x6.Ids (h1.rslG OTPat.gives) h2.rsl (h3.rslG OTAct.gives) h4.rsl h9  hx6)) rfl (fun v12 Φ_5 F5 q4 => ?_))
  obtain ⟨ap4, fr4, v13, rfl, rfl, h11⟩ := q4
  replace h1 := h1.frame OTPat.lasts fr4 (ap4.r (i := 2) rfl) (ap4.r (i := 3) rfl)
  replace h2 := h2.frame RTCond.lasts fr4 (ap4.r (i := 4) rfl) (Dj.nil _)
  replace h3 := h3.frame OTAct.lasts fr4 (ap4.r (i := 5) rfl) (ap4.r (i := 6) rfl)
  replace h4 := h4.frame RTItem.lasts fr4 (ap4.r (i := 7) rfl) (Dj.sub (ap4.r (i := 8) rfl) i1)
  replace h5 := h5.frame OTMatch.lasts fr4 (ap4.r (i := 0) rfl) (ap4.r (i := 1) rfl)
  refine mq 8 rfl (by kernel_rfl) (fun w1 hw => Kn.of (fun k hk o ho => fr4 k o ((ap4.r (i := 0) rfl) k hk) ((fun _ _ _ h => h) k hk o ho)) (AllIn.mem ⟨gM 0 rfl, gM 1 rfl, trivial⟩) hw) (q_move rfl) rfl <| mq 9 rfl (by kernel_rfl) (fun w1 hw => Kn.of (fun k hk o ho => fr4 k o ((ap4.r (i := 0) rfl) k hk) ((fun _ _ _ h => h) k hk o ho)) (AllIn.mem ⟨gM 0 rfl, gM 1 rfl, trivial⟩) hw) (q_extract rfl rfl) rfl ?_
  refine mq 10 rfl (by kernel_rfl) (fun w1 hw => Kn.of (fun k hk o ho => fr4 k o ((ap4.r (i := 0) rfl) k hk) ((fun _ _ _ h => h) k hk o ho)) (AllIn.mem ⟨gM 0 rfl, gM 1 rfl, trivial⟩) hw) (q_extract rfl rfl) rfl <| mq 11 rfl (by kernel_rfl) (fun w1 hw => Kn.of (fun k hk o ho => fr4 k o ((ap4.r (i := 0) rfl) k hk) ((fun _ _ _ h => h) k hk o ho)) (AllIn.mem ⟨gM 0 rfl, gM 1 rfl, trivial⟩) hw) (q_assign rfl) rfl ?_
  refine mq 12 rfl (by kernel_rfl) (fun w1 hw => Kn.of (fun k hk o ho => fr4 k o ((ap4.r (i := 0) rfl) k hk) ((fun _ _ _ h => h) k hk o ho)) (AllIn.mem ⟨gM 0 rfl, gM 1 rfl, trivial⟩) hw) (q_assign rfl) rfl <| WM.nil (by kernel_rfl) <| WT.seq <| WT.draw mixed (by kernel_rfl) (fun _ h => h.drew) <| qq (q_move rfl) rfl <| qq (q_not rfl) rfl <| qq (q_move rfl) rfl ?_
  obtain ⟨b1, hb_1, h⟩ := bind_some h
  refine WQ.cutN 9 [(54, .bool b1), (3, .pointer (some ⟨b_1, 0, none⟩)), (4, .pointer (some ⟨b_2, 0, none⟩)), (5, v6), (6, .int .i64 s1), (7, v13)] ?_ (fun K => ?_)
  rotate_left
  ·refine WQ.split (d := 45) rfl (fun c4 => ?_) (fun c4 => ?_)
   ·replace hb_1 := ite_t hb_1 c4
    refine WQ.no rfl rfl rfl rfl <| WQ.no rfl rfl rfl rfl <| WQ.no rfl rfl rfl rfl <| WQ.no rfl rfl rfl rfl <| WQ.no rfl rfl rfl rfl <| WQ.no rfl rfl rfl rfl <| WQ.no rfl rfl rfl rfl <| WQ.no rfl rfl rfl rfl <| WQ.q (q_pick1 rfl rfl) rfl rfl rfl ?_
    cases hb_1
    exact WQ.keep (by exact ⟨rfl, rfl, rfl, rfl, rfl, rfl, trivial⟩) K
   ·replace hb_1 := ite_f hb_1 c4
    refine WQ.yes rfl rfl <| qq (q_move rfl) rfl <| WQ.yes rfl rfl <| qq (q_move rfl) rfl <| WQ.yes rfl rfl <| qq (q_move rfl) rfl <| WQ.yes rfl rfl ?_
    obtain ⟨x8, hx7, hb_1⟩ := bind_some hb_1
    obtain ⟨cs2, F6, -, g2, hb2, hs2, r2⟩ := h5.elS (idx_some hx7).2.2
    obtain ⟨v14, v15, rfl, rfl, h12, h13⟩ := r2
    have h14 := h12.rsl
    have h15 := h13.rsl
    refine qq (q_indexAddr Sl_59 rfl rfl h5.rsl hx7) rfl <| WQ.yes rfl rfl <| qq (q_fieldAddr Fld_63_2 rfl) rfl <| WQ.yes rfl rfl <| qq (q_load1 T1_55 rfl (fun w1 hw => (g2.of_eq 2 1 rfl rfl : rg _ _ _ [v15]).rangeAt hw.fro)) rfl <| WQ.yes rfl rfl ?_
    obtain ⟨x9, hx8, hb_1⟩ := bind_some hb_1
    refine qp (p_call Fun_18 rfl (fun w1 hw => m_l_sameBinds_ok hw.fro N x7.1 x8.Binds h11.rsl h15 hx8)) rfl <| WQ.yes rfl rfl <| qq (q_not rfl) rfl <| WQ.q (q_pick0 rfl rfl) rfl rfl rfl ?_
    cases hb_1
    exact WQ.keep (by exact ⟨rfl, rfl, rfl, rfl, rfl, rfl, trivial⟩) K
  refine qq (q_move rfl) rfl ?_
  obtain ⟨b2, hb_2, h⟩ := bind_some h
  refine WQ.cutN 5 [(60, .bool b2), (3, .pointer (some ⟨b_1, 0, none⟩)), (4, .pointer (some ⟨b_2, 0, none⟩)), (5, v6), (6, .int .i64 s1), (7, v13)] ?_ (fun K => ?_)
  rotate_left
  ·refine WQ.split (d := 55) rfl (fun c5 => ?_) (fun c5 => ?_)
   ·replace hb_2 := ite_t hb_2 c5
    refine WQ.no rfl rfl rfl rfl <| WQ.no rfl rfl rfl rfl <| WQ.no rfl rfl rfl rfl <| WQ.no rfl rfl rfl rfl <| WQ.q (q_pick1 rfl rfl) rfl rfl rfl ?_
    cases hb_2
    exact WQ.keep (by exact ⟨rfl, rfl, rfl, rfl, rfl, rfl, trivial⟩) K
   ·replace hb_2 := ite_f hb_2 c5
    refine WQ.yes rfl rfl <| qq (q_loadN Tn_49 rfl (fun w1 hw => hw.rgO (i := 1) rfl 0 5 [.string x2.1.Name, .int .i64 x2.1.Sal, v2, v3, v4] rfl) rfl) rfl <| WQ.yes rfl rfl <| qq (q_loadN Tn_52 rfl (fun w1 hw => hw.rgO (i := 0) rfl 0 2 [v5, .int .i64 x2.2.Next] rfl) rfl) rfl <| WQ.yes rfl rfl <| qq (q_move rfl) rfl <| WQ.yes rfl rfl ?_
    obtain ⟨x10, hx9, hb_2⟩ := bind_some hb_2
    refine qp (p_call Fun_21 rfl (fun w1 hw => m_i_Blocked_ok hw.fro N x2.1 x2.2 x7.1 (h1.rslG OTPat.gives) h2.rsl (h3.rslG OTAct.gives) h4.rsl h11.rsl hx9)) rfl <| WQ.q (q_pick0 rfl rfl) rfl rfl rfl ?_
    cases hb_2
    exact WQ.keep (by exact ⟨rfl, rfl, rfl, rfl, rfl, rfl, trivial⟩) K
  refine qq (q_move rfl) rfl ?_
  obtain ⟨b3, hb_3, h⟩ := bind_some h
  refine WQ.cutN 6 [(67, .bool b3), (3, .pointer (some ⟨b_1, 0, none⟩)), (4, .pointer (some ⟨b_2, 0, none⟩)), (5, v6), (6, .int .i64 s1)] ?_ (fun K => ?_)
  rotate_left
  ·refine WQ.split (d := 61) rfl (fun c6 => ?_) (fun c6 => ?_)
   ·replace hb_3 := ite_t hb_3 c6
    refine WQ.no rfl rfl rfl rfl <| WQ.no rfl rfl rfl rfl <| WQ.no rfl rfl rfl rfl <| WQ.no rfl rfl rfl rfl <| WQ.no rfl rfl rfl rfl <| WQ.q (q_pick1 rfl rfl) rfl rfl rfl ?_
    cases hb_3
    exact WQ.keep (by exact ⟨rfl, rfl, rfl, rfl, rfl, trivial⟩) K
   ·replace hb_3 := ite_f hb_3 c6
    refine WQ.yes rfl rfl <| qq (q_fieldAddr Fld_49_3 rfl) rfl <| WQ.yes rfl rfl <| qq (q_load1 T1_46 rfl (fun w1 hw => hw.rgO (i := 1) rfl 3 1 [v3] rfl)) rfl <| WQ.yes rfl rfl <| qq (q_move rfl) rfl <| WQ.yes rfl rfl ?_
    obtain ⟨x11, hx10, hb_3⟩ := bind_some hb_3
    refine qp (p_call Fun_22 rfl (fun w1 hw => m_i_HoldAll_ok hw.fro N x2.1.Conds x7.1 h2.rsl h11.rsl hx10)) rfl <| WQ.yes rfl rfl <| qq (q_not rfl) rfl <| WQ.q (q_pick0 rfl rfl) rfl rfl rfl ?_
    cases hb_3
    exact WQ.keep (by exact ⟨rfl, rfl, rfl, rfl, rfl, trivial⟩) K
  refine qq (q_move rfl) rfl ?_
  obtain ⟨b4, hb_4, h⟩ := bind_some h
  refine WQ.cutN 16 [(84, .bool b4), (3, .pointer (some ⟨b_1, 0, none⟩)), (4, .pointer (some ⟨b_2, 0, none⟩)), (5, v6), (6, .int .i64 s1)] ?_ (fun K => ?_)
  rotate_left
  ·refine WQ.split (d := 68) rfl (fun c7 => ?_) (fun c7 => ?_)
   ·replace hb_4 := ite_t hb_4 c7
    refine WQ.no rfl rfl rfl rfl <| WQ.no rfl rfl rfl rfl <| WQ.no rfl rfl rfl rfl <| WQ.nox rfl rfl rfl rfl <| WQ.nox rfl rfl rfl rfl <| WQ.nox rfl rfl rfl rfl <| WQ.nox rfl rfl rfl rfl <| WQ.nox rfl rfl rfl rfl <| WQ.nox rfl rfl rfl rfl <| WQ.nox rfl rfl rfl rfl <| WQ.nox rfl rfl rfl rfl <| WQ.nox rfl rfl rfl rfl <| WQ.nox rfl rfl rfl rfl <| WQ.nox rfl rfl rfl rfl <| WQ.no rfl rfl rfl rfl <| WQ.q (q_pick1 rfl rfl) rfl rfl rfl ?_
    cases hb_4
    exact WQ.keep (by exact ⟨rfl, rfl, rfl, rfl, rfl, trivial⟩) K
   ·replace hb_4 := ite_f hb_4 c7
    refine WQ.yes rfl rfl <| qq (q_move rfl) rfl <| WQ.yes rfl rfl <| qq (q_gtr rfl rfl) rfl <| WQ.yes rfl rfl <| qq (q_move rfl) rfl ?_
    obtain ⟨b5, hb_5, hb_4⟩ := bind_some hb_4
    refine WQ.cutN 12 [(83, .bool b5), (3, .pointer (some ⟨b_1, 0, none⟩)), (4, .pointer (some ⟨b_2, 0, none⟩)), (5, v6), (6, .int .i64 s1), (68, .bool false)] ?_ (fun K => ?_)
    rotate_left
    ·refine WQ.split (d := 71) rfl (fun c8 => ?_) (fun c8 => ?_)
     ·replace hb_5 := ite_t hb_5 c8
      refine WQ.yes rfl rfl <| qq (q_move rfl) rfl <| WQ.yes rfl rfl <| qq (q_move rfl) rfl <| WQ.yes rfl rfl <| qq (q_sub rfl rfl) rfl <| WQ.yes rfl rfl ?_
      obtain ⟨x12, hx11, hb_5⟩ := bind_some hb_5
      obtain ⟨cs3, F7, -, g3, hb3, hs3, r3⟩ := h5.elS (idx_some hx11).2.2
      obtain ⟨v16, v17, rfl, rfl, h16, h17⟩ := r3
      have h18 := h16.rsl
      have h19 := h17.rsl
      refine qq (q_indexAddr Sl_59 rfl rfl h5.rsl hx11) rfl <| WQ.yes rfl rfl <| qq (q_loadN Tn_63 rfl (fun w1 hw => (g3.of_eq 0 3 rfl rfl : rg _ _ _ [.int .i64 x12.Rule, v16, v17]).rangeAt hw.fro) rfl) rfl <| WQ.yes rfl rfl <| qq (q_move rfl) rfl <| WQ.yes rfl rfl <| qq (q_move rfl) rfl <| WQ.yes rfl rfl ?_
      obtain ⟨x13, hx12, hb_5⟩ := bind_some hb_5
      obtain ⟨cs4, F8, -, g4, hb4, hs4, r4⟩ := h5.elS (idx_some hx12).2.2
      obtain ⟨v18, v19, rfl, rfl, h20, h21⟩ := r4
      have h22 := h20.rsl
      have h23 := h21.rsl
      refine qq (q_indexAddr Sl_59 rfl rfl h5.rsl hx12) rfl <| WQ.yes rfl rfl <| qq (q_loadN Tn_63 rfl (fun w1 hw => (g4.of_eq 0 3 rfl rfl : rg _ _ _ [.int .i64 x13.Rule, v18, v19]).rangeAt hw.fro) rfl) rfl <| WQ.yes rfl rfl ?_
      obtain ⟨x14, hx13, hb_5⟩ := bind_some hb_5
      refine qp (p_call Fun_27 rfl (fun w1 hw => m_i_LessMatch_ok hw.fro N x12 x13 h18 h19 h22 h23 hx13)) rfl <| WQ.yes rfl rfl <| qq (q_not rfl) rfl <| WQ.yes rfl rfl <| WQ.q (q_pick1 rfl rfl) rfl rfl rfl ?_
      cases hb_5
      exact WQ.keep (by exact ⟨rfl, rfl, rfl, rfl, rfl, rfl, trivial⟩) K
     ·replace hb_5 := ite_f hb_5 c8
      refine WQ.no rfl rfl rfl rfl <| WQ.no rfl rfl rfl rfl <| WQ.no rfl rfl rfl rfl <| WQ.no rfl rfl rfl rfl <| WQ.no rfl rfl rfl rfl <| WQ.no rfl rfl rfl rfl <| WQ.no rfl rfl rfl rfl <| WQ.no rfl rfl rfl rfl <| WQ.no rfl rfl rfl rfl <| WQ.no rfl rfl rfl rfl <| WQ.no rfl rfl rfl rfl <| WQ.yes rfl rfl <| WQ.q (q_pick0 rfl rfl) rfl rfl rfl ?_
      cases hb_5
      exact WQ.keep (by exact ⟨rfl, rfl, rfl, rfl, rfl, rfl, trivial⟩) K
    refine WQ.q (q_pick0 rfl rfl) rfl rfl rfl ?_
    cases hb_4
    exact WQ.keep (by exact ⟨rfl, rfl, rfl, rfl, rfl, trivial⟩) K
  refine WQ.nil ?_
  refine WT.cond rfl (fun c9 => ?_) (fun c9 => ?_)
  ·replace h := ite_t h c9
   refine WT.seq <| WT.region <| lq (q_assign rfl) rfl <| WL.nil ?_
   refine WT.ret Tryz.func6 (resOk.one rfl) (fun w1 hw => ?_)
   subst hb0
   cases h
   exact post_of_St hw
  replace h := ite_f h c9
  refine WT.skip <| WT.inBlock <| WT.region <| lq (q_move rfl) rfl <| lq (q_add rfl rfl) rfl <| lq (q_assign rfl) rfl <| WL.nil ?_
  refine WT.inLoop (WT.mono (l' := [(3, .pointer (some ⟨b_1, 0, none⟩)), (4, .pointer (some ⟨b_2, 0, none⟩)), (5, v6), (6, .int .i64 (IntKind.i64.wrap (s1 + 1)))]) (S' := St w0 Φ_5 [(b_2, .cells #[v5, .int .i64 x2.2.Next] 52 (0, 0)), (b_1, .cells #[.string x2.1.Name, .int .i64 x2.1.Sal, v2, v3, v4] 49 (0, 0))] [ob v6, D4, ob v2, D1, ob v3, ob v4, D2, ob v5, X1]) ⟨rfl, rfl, rfl, rfl, trivial⟩ (fun w1 hw => (hw.sel (js := [1, 1, 1, 1, 1, 1, 1, 1, 1]) rfl).selO (js := [0, 0]) rfl) ?_)
  exact ih1 (Φ_5, IntKind.i64.wrap (s1 + 1)) ⟨h, h1, h2, h3, h4, h5⟩
 replace h := ite_f h c3
 refine WT.exit rfl <| WT.seq <| WT.region <| lq (q_loadN Tn_49 rfl (fun w1 hw => hw.rgO (i := 1) rfl 0 5 [.string x2.1.Name, .int .i64 x2.1.Sal, v2, v3, v4] rfl) rfl) rfl ?_
 obtain ⟨x15, hx14, h⟩ := bind_some h
 refine lp (p_call Fun_26 rfl (fun w1 hw => m_i_RuleOk_ok hw.fro N x2.1 (h1.rslG OTPat.gives) h2.rsl (h3.rslG OTAct.gives) hx14)) rfl <| lq (q_move rfl) rfl ?_
 obtain ⟨b6, hb_6, h⟩ := bind_some h
 refine WL.cutN 3 [(90, .bool b6)] ?_ (fun K => ?_)
 rotate_left
 ·refine WL.split (d := 87) rfl (fun c10 => ?_) (fun c10 => ?_)
  ·replace hb_6 := ite_t hb_6 c10
   refine WL.yes rfl rfl <| lq (q_loadN Tn_52 rfl (fun w1 hw => hw.rgO (i := 0) rfl 0 2 [v5, .int .i64 x2.2.Next] rfl) rfl) rfl <| WL.yes rfl rfl ?_
   obtain ⟨x16, hx15, hb_6⟩ := bind_some hb_6
   refine lp (p_call Fun_28 rfl (fun w1 hw => m_i_StoreOk_ok hw.fro N x2.2 h4.rsl hx15)) rfl <| WL.q (q_pick1 rfl rfl) rfl rfl rfl ?_
   cases hb_6
   exact WL.keep (by exact ⟨rfl, trivial⟩) K
  ·replace hb_6 := ite_f hb_6 c10
   refine WL.no rfl rfl rfl rfl <| WL.no rfl rfl rfl rfl <| WL.q (q_pick0 rfl rfl) rfl rfl rfl ?_
   cases hb_6
   exact WL.keep (by exact ⟨rfl, trivial⟩) K
 refine lq (q_assign rfl) rfl <| WL.nil ?_
 refine WT.ret Tryz.func6 (resOk.one rfl) (fun w1 hw => ?_)
 subst hb0
 cases h
 exact post_of_St hw
end Go.Proofs.YtjangilipfjcmaaGreat
