/- Printed by a program of ours: each Go function computes its Lean function. -/
import Derived.Test.YtjangilipfjcmaaGreatProg
import Derived.Test.YtjangilipfjcmaaGreatWMatchesWalk1
namespace Go.Proofs.YtjangilipfjcmaaGreat
open Eng
open Go.RowKit (Below)
set_option linter.unusedVariables false
set_option linter.unusedSimpArgs false

set_option maxRecDepth 100000
set_option maxHeartbeats 1000000
theorem m_i_RuleOk_ok {Φ : Hp} {w : World} (hΦ : In Φ w) (N : Nat) (p0 : TRule) {pv0_0 : Value} {pG0_0 : List Nat} {pv0_1 : Value} {pG0_1 : List Nat} {pv0_2 : Value} {pG0_2 : List Nat} (ph0_0 : RSl RTPat 3 Φ pG0_0 pv0_0 p0.Pats) (ph0_1 : RSl RTCond 11 Φ pG0_1 pv0_1 p0.Conds) (ph0_2 : RSl RTAct 5 Φ pG0_2 pv0_2 p0.Acts) {r : Bool} (h : m_i_RuleOk N p0 = some r) :
  Calls Tryz.prog 26 [.agg [.string p0.Name, .int .i64 p0.Sal, pv0_0, pv0_1, pv0_2].toArray].toArray w (Post (.bool r) w) := by
 refine enter Tryz.func26 rfl Tryz.ntmps26 rfl (St.start0 hΦ) ?_
 have pa0_0 : Old ⟨w, [], Φ⟩ pG0_0 := Old.mk hΦ ph0_0.kn (Dj.empty _)
 have pa0_1 : Old ⟨w, [], Φ⟩ pG0_1 := Old.mk hΦ ph0_1.kn (Dj.empty _)
 have pa0_2 : Old ⟨w, [], Φ⟩ pG0_2 := Old.mk hΦ ph0_2.kn (Dj.empty _)
 revert pa0_0 pa0_1 pa0_2
 generalize hb0 : (⟨w, [], Φ⟩ : Base) = w0
 intro pa0_0 pa0_1 pa0_2
 unfold m_i_RuleOk at h
 refine WT.seq <| WT.region ?_
 refine ln (n_box (C := #[.string p0.Name, .int .i64 p0.Sal, pv0_0, pv0_1, pv0_2]) rfl rfl) rfl (fun b_1 => ?_)
 refine lq (q_assign rfl) rfl <| WL.nil <| WT.seq <| WT.seq <| WT.region <| lq (q_fieldAddr Fld_49_0 rfl) rfl <| lq (q_load1 T1_9 rfl (fun w1 hw => hw.rgO (i := 0) rfl 0 1 [.string p0.Name] rfl)) rfl ?_
 obtain ⟨x1, hx1, h⟩ := bind_some h
 refine lp (p_call Fun_70 rfl (fun w1 hw => m_i_NameOk_ok hw.fro N p0.Name hx1)) rfl <| lq (q_not rfl) rfl <| lq (q_move rfl) rfl ?_
 obtain ⟨b1, hb_1, h⟩ := bind_some h
 refine WL.cutN 5 [(19, .bool b1), (1, .pointer (some ⟨b_1, 0, none⟩))] ?_ (fun K => ?_)
 rotate_left
 ·refine WL.split (d := 14) rfl (fun c1 => ?_) (fun c1 => ?_)
  ·replace hb_1 := ite_t hb_1 c1
   refine WL.no rfl rfl rfl rfl <| WL.no rfl rfl rfl rfl <| WL.no rfl rfl rfl rfl <| WL.no rfl rfl rfl rfl <| WL.q (q_pick1 rfl rfl) rfl rfl rfl ?_
   cases hb_1
   exact WL.keep (by exact ⟨rfl, rfl, trivial⟩) K
  ·replace hb_1 := ite_f hb_1 c1
   refine WL.yes rfl rfl <| lq (q_fieldAddr Fld_49_1 rfl) rfl <| WL.yes rfl rfl <| lq (q_load1 T1_3 rfl (fun w1 hw => hw.rgO (i := 0) rfl 1 1 [.int .i64 p0.Sal] rfl)) rfl <| WL.yes rfl rfl ?_
   obtain ⟨x2, hx2, hb_1⟩ := bind_some hb_1
   refine lp (p_call Fun_71 rfl (fun w1 hw => m_i_inRange_ok hw.fro N p0.Sal (-100) 100 hx2)) rfl <| WL.yes rfl rfl <| lq (q_not rfl) rfl <| WL.q (q_pick0 rfl rfl) rfl rfl rfl ?_
   cases hb_1
   exact WL.keep (by exact ⟨rfl, rfl, trivial⟩) K
 refine lq (q_move rfl) rfl ?_
 obtain ⟨b2, hb_2, h⟩ := bind_some h
 refine WL.cutN 4 [(24, .bool b2), (1, .pointer (some ⟨b_1, 0, none⟩))] ?_ (fun K => ?_)
 rotate_left
 ·refine WL.split (d := 20) rfl (fun c2 => ?_) (fun c2 => ?_)
  ·replace hb_2 := ite_t hb_2 c2
   refine WL.no rfl rfl rfl rfl <| WL.no rfl rfl rfl rfl <| WL.no rfl rfl rfl rfl <| WL.q (q_pick1 rfl rfl) rfl rfl rfl ?_
   cases hb_2
   exact WL.keep (by exact ⟨rfl, rfl, trivial⟩) K
  ·replace hb_2 := ite_f hb_2 c2
   refine WL.yes rfl rfl <| lq (q_loadN Tn_49 rfl (fun w1 hw => hw.rgO (i := 0) rfl 0 5 [.string p0.Name, .int .i64 p0.Sal, pv0_0, pv0_1, pv0_2] rfl) rfl) rfl <| WL.yes rfl rfl ?_
   obtain ⟨x3, hx3, hb_2⟩ := bind_some hb_2
   refine lp (p_call Fun_72 rfl (fun w1 hw => m_i_patsOk_ok hw.fro N p0 ph0_0 ph0_1 ph0_2 hx3)) rfl <| WL.yes rfl rfl <| lq (q_not rfl) rfl <| WL.q (q_pick0 rfl rfl) rfl rfl rfl ?_
   cases hb_2
   exact WL.keep (by exact ⟨rfl, rfl, trivial⟩) K
 refine WL.nil ?_
 refine WT.cond rfl (fun c3 => ?_) (fun c3 => ?_)
 ·replace h := ite_t h c3
  refine WT.seq <| WT.region <| lq (q_assign rfl) rfl <| WL.nil ?_
  refine WT.ret Tryz.func26 (resOk.one rfl) (fun w1 hw => ?_)
  subst hb0
  cases h
  exact post_of_St hw
 replace h := ite_f h c3
 refine WT.skip <| WT.seq <| WT.seq <| WT.region <| lq (q_fieldAddr Fld_49_3 rfl) rfl <| lq (q_load1 T1_46 rfl (fun w1 hw => hw.rgO (i := 0) rfl 3 1 [pv0_1] rfl)) rfl <| lq (q_lenR Sl_46 rfl rfl ph0_1) rfl <| lq (q_gtr rfl rfl) rfl <| lq (q_move rfl) rfl ?_
 obtain ⟨b3, hb_3, h⟩ := bind_some h
 refine WL.cutN 6 [(35, .bool b3), (1, .pointer (some ⟨b_1, 0, none⟩))] ?_ (fun K => ?_)
 rotate_left
 ·refine WL.split (d := 29) rfl (fun c4 => ?_) (fun c4 => ?_)
  ·replace hb_3 := ite_t hb_3 c4
   refine WL.no rfl rfl rfl rfl <| WL.no rfl rfl rfl rfl <| WL.no rfl rfl rfl rfl <| WL.no rfl rfl rfl rfl <| WL.no rfl rfl rfl rfl <| WL.q (q_pick1 rfl rfl) rfl rfl rfl ?_
   cases hb_3
   exact WL.keep (by exact ⟨rfl, rfl, trivial⟩) K
  ·replace hb_3 := ite_f hb_3 c4
   refine WL.yes rfl rfl <| lq (q_fieldAddr Fld_49_4 rfl) rfl <| WL.yes rfl rfl <| lq (q_load1 T1_47 rfl (fun w1 hw => hw.rgO (i := 0) rfl 4 1 [pv0_2] rfl)) rfl <| WL.yes rfl rfl <| lq (q_lenR Sl_47 rfl rfl ph0_2) rfl <| WL.yes rfl rfl ?_
   obtain ⟨x4, hx4, hb_3⟩ := bind_some hb_3
   refine lp (p_call Fun_71 rfl (fun w1 hw => m_i_inRange_ok hw.fro N (p0.Acts.length : Int) 1 6 hx4)) rfl <| WL.yes rfl rfl <| lq (q_not rfl) rfl <| WL.q (q_pick0 rfl rfl) rfl rfl rfl ?_
   cases hb_3
   exact WL.keep (by exact ⟨rfl, rfl, trivial⟩) K
 refine WL.nil ?_
 refine WT.cond rfl (fun c5 => ?_) (fun c5 => ?_)
 ·replace h := ite_t h c5
  refine WT.seq <| WT.region <| lq (q_assign rfl) rfl <| WL.nil ?_
  refine WT.ret Tryz.func26 (resOk.one rfl) (fun w1 hw => ?_)
  subst hb0
  cases h
  exact post_of_St hw
 replace h := ite_f h c5
 refine WT.skip <| WT.seq <| WT.seq <| WT.region <| lq (q_fieldAddr Fld_49_3 rfl) rfl <| lq (q_load1 T1_46 rfl (fun w1 hw => hw.rgO (i := 0) rfl 3 1 [pv0_1] rfl)) rfl <| lq (q_lenR Sl_46 rfl rfl ph0_1) rfl <| lq (q_move rfl) rfl <| WL.nil <| WT.block <| WT.loop <| WT.mono (l' := [(1, .pointer (some ⟨b_1, 0, none⟩)), (37, pv0_1), (38, .int .i64 (p0.Conds.length : Int)), (39, .int .i64 0)]) (S' := St w0 Φ [(b_1, .cells #[.string p0.Name, .int .i64 p0.Sal, pv0_0, pv0_1, pv0_2] 49 (0, 0))] []) ⟨rfl, rfl, rfl, rfl, trivial⟩ (fun w1 hw => (hw.sel (js := []) rfl).selO (js := [0]) rfl) ?_
 refine loop_ind (σ := Int) (fun s => [(1, .pointer (some ⟨b_1, 0, none⟩)), (37, pv0_1), (38, .int .i64 (p0.Conds.length : Int)), (39, .int .i64 s)]) (fun s => St w0 Φ [(b_1, .cells #[.string p0.Name, .int .i64 p0.Sal, pv0_0, pv0_1, pv0_2] 49 (0, 0))] []) (fun m s => m_i_RuleOk_l1 N p0 m s = some r) (fun s hm => none_ne (show (none : Option (Bool)) = some r from hm)) (fun n1 ih1 s hm => ?_) N (0) h
 revert hm; revert s; intro s1 hm
 have h : m_i_RuleOk_l1 N p0 (n1 + 1) s1 = some r := hm
 show WT _ _ [(1, .pointer (some ⟨b_1, 0, none⟩)), (37, pv0_1), (38, .int .i64 (p0.Conds.length : Int)), (39, .int .i64 s1)] (St w0 Φ [(b_1, .cells #[.string p0.Name, .int .i64 p0.Sal, pv0_0, pv0_1, pv0_2] 49 (0, 0))] [])
 unfold m_i_RuleOk_l1 at h
 refine WT.seq <| WT.region <| lq (q_lss rfl rfl) rfl <| WL.nil <| WT.seq ?_
 refine WT.cond rfl (fun c6 => ?_) (fun c6 => ?_)
 ·replace h := ite_t h c6
  refine WT.skip <| WT.seq <| WT.block <| WT.seq <| WT.region ?_
  obtain ⟨x5, hx5, h⟩ := bind_some h
  obtain ⟨cs1, F1, -, g1, hb1, hs1, r1⟩ := ph0_1.el (idx_some hx5).2.2
  obtain ⟨rfl, -⟩ := r1
  refine lq (q_indexAddr Sl_46 rfl rfl ph0_1 hx5) rfl <| lq (q_loadN Tn_128 rfl (fun w1 hw => (g1.of_eq 0 11 rfl rfl : rg _ _ _ [.int .i64 x5.Op, .int .i64 x5.L.K, .string x5.L.S, .int .i64 x5.L.V.K, .int .i64 x5.L.V.N, .string x5.L.V.S, .int .i64 x5.R.K, .string x5.R.S, .int .i64 x5.R.V.K, .int .i64 x5.R.V.N, .string x5.R.V.S]).rangeAt hw.fro) rfl) rfl ?_
  refine ln (n_alloc (C := #[.int .i64 0, .int .i64 0, .string (⟨#[]⟩ : ByteArray), .int .i64 0, .int .i64 0, .string (⟨#[]⟩ : ByteArray), .int .i64 0, .string (⟨#[]⟩ : ByteArray), .int .i64 0, .int .i64 0, .string (⟨#[]⟩ : ByteArray)]) Zr_128 rfl) rfl (fun b_2 => ?_)
  refine ls (s_store (i := 0) (vs := [.int .i64 x5.Op, .int .i64 x5.L.K, .string x5.L.S, .int .i64 x5.L.V.K, .int .i64 x5.L.V.N, .string x5.L.V.S, .int .i64 x5.R.K, .string x5.R.S, .int .i64 x5.R.V.K, .int .i64 x5.R.V.N, .string x5.R.V.S]) (C' := [.int .i64 x5.Op, .int .i64 x5.L.K, .string x5.L.S, .int .i64 x5.L.V.K, .int .i64 x5.L.V.N, .string x5.L.V.S, .int .i64 x5.R.K, .string x5.R.S, .int .i64 x5.R.V.K, .int .i64 x5.R.V.N, .string x5.R.V.S]) (O' := [(b_2, .cells #[.int .i64 x5.Op, .int .i64 x5.L.K, .string x5.L.S, .int .i64 x5.L.V.K, .int .i64 x5.L.V.N, .string x5.L.V.S, .int .i64 x5.R.K, .string x5.R.S, .int .i64 x5.R.V.K, .int .i64 x5.R.V.N, .string x5.R.V.S] 128 (0, 0)), (b_1, .cells #[.string p0.Name, .int .i64 p0.Sal, pv0_0, pv0_1, pv0_2] 49 (0, 0))]) Sz_128 rfl rfl rfl rfl rfl rfl ⟨rfl, rfl, rfl, rfl, rfl, rfl, rfl, rfl, rfl, rfl, rfl, trivial⟩ rfl rfl) rfl ?_
  refine WL.nil <| WT.seq <| WT.region <| lq (q_loadN Tn_128 rfl (fun w1 hw => hw.rgO (i := 0) rfl 0 11 [.int .i64 x5.Op, .int .i64 x5.L.K, .string x5.L.S, .int .i64 x5.L.V.K, .int .i64 x5.L.V.N, .string x5.L.V.S, .int .i64 x5.R.K, .string x5.R.S, .int .i64 x5.R.V.K, .int .i64 x5.R.V.N, .string x5.R.V.S] rfl) rfl) rfl ?_
  obtain ⟨x6, hx6, h⟩ := bind_some h
  refine lp (p_call Fun_73 rfl (fun w1 hw => m_i_CondOk_ok hw.fro N x5 hx6)) rfl <| lq (q_not rfl) rfl <| WL.nil ?_
  refine WT.cond rfl (fun c7 => ?_) (fun c7 => ?_)
  ·replace h := ite_t h c7
   refine WT.seq <| WT.region <| lq (q_assign rfl) rfl <| WL.nil ?_
   refine WT.ret Tryz.func26 (resOk.one rfl) (fun w1 hw => ?_)
   subst hb0
   cases h
   exact post_of_St hw
  replace h := ite_f h c7
  refine WT.skip <| WT.inBlock <| WT.region <| lq (q_add rfl rfl) rfl <| lq (q_move rfl) rfl <| WL.nil ?_
  refine WT.inLoop (WT.mono (l' := [(1, .pointer (some ⟨b_1, 0, none⟩)), (37, pv0_1), (38, .int .i64 (p0.Conds.length : Int)), (39, .int .i64 (IntKind.i64.wrap (s1 + 1)))]) (S' := St w0 Φ [(b_1, .cells #[.string p0.Name, .int .i64 p0.Sal, pv0_0, pv0_1, pv0_2] 49 (0, 0))] []) ⟨rfl, rfl, rfl, rfl, trivial⟩ (fun w1 hw => (hw.sel (js := []) rfl).selO (js := [1]) rfl) ?_)
  exact ih1 (IntKind.i64.wrap (s1 + 1)) h
 replace h := ite_f h c6
 refine WT.exit rfl <| WT.seq <| WT.seq <| WT.region <| lq (q_fieldAddr Fld_49_4 rfl) rfl <| lq (q_load1 T1_47 rfl (fun w1 hw => hw.rgO (i := 0) rfl 4 1 [pv0_2] rfl)) rfl <| lq (q_lenR Sl_47 rfl rfl ph0_2) rfl <| lq (q_move rfl) rfl <| WL.nil <| WT.block <| WT.loop <| WT.mono (l' := [(1, .pointer (some ⟨b_1, 0, none⟩)), (48, pv0_2), (49, .int .i64 (p0.Acts.length : Int)), (50, .int .i64 0)]) (S' := St w0 Φ [(b_1, .cells #[.string p0.Name, .int .i64 p0.Sal, pv0_0, pv0_1, pv0_2] 49 (0, 0))] []) ⟨rfl, rfl, rfl, rfl, trivial⟩ (fun w1 hw => (hw.sel (js := []) rfl).selO (js := [0]) rfl) ?_
 refine loop_ind (σ := Int) (fun s => [(1, .pointer (some ⟨b_1, 0, none⟩)), (48, pv0_2), (49, .int .i64 (p0.Acts.length : Int)), (50, .int .i64 s)]) (fun s => St w0 Φ [(b_1, .cells #[.string p0.Name, .int .i64 p0.Sal, pv0_0, pv0_1, pv0_2] 49 (0, 0))] []) (fun m s => m_i_RuleOk_l2 N p0 m s = some r) (fun s hm => none_ne (show (none : Option (Bool)) = some r from hm)) (fun n2 ih2 s hm => ?_) N (0) h
 revert hm; revert s; intro s2 hm
 have h : m_i_RuleOk_l2 N p0 (n2 + 1) s2 = some r := hm
 show WT _ _ [(1, .pointer (some ⟨b_1, 0, none⟩)), (48, pv0_2), (49, .int .i64 (p0.Acts.length : Int)), (50, .int .i64 s2)] (St w0 Φ [(b_1, .cells #[.string p0.Name, .int .i64 p0.Sal, pv0_0, pv0_1, pv0_2] 49 (0, 0))] [])
 unfold m_i_RuleOk_l2 at h
 refine WT.seq <| WT.region <| lq (q_lss rfl rfl) rfl <| WL.nil <| WT.seq ?_
 refine WT.cond rfl (fun c8 => ?_) (fun c8 => ?_)
 ·replace h := ite_t h c8
  refine WT.skip <| WT.seq <| WT.block <| WT.seq <| WT.region ?_
  obtain ⟨x7, hx7, h⟩ := bind_some h
  obtain ⟨cs2, F2, -, g2, hb2, hs2, r2⟩ := ph0_2.el (idx_some hx7).2.2
  obtain ⟨v1, G1, rfl, hq1, h1⟩ := r2
  obtain rfl := hq1.symm
  refine lq (q_indexAddr Sl_47 rfl rfl ph0_2 hx7) rfl <| lq (q_loadN Tn_135 rfl (fun w1 hw => (g2.of_eq 0 5 rfl rfl : rg _ _ _ [.int .i64 x7.Kind, .string x7.Name, v1, .int .i64 x7.N, .string x7.Undo]).rangeAt hw.fro) rfl) rfl ?_
  refine ln (n_alloc (C := #[.int .i64 0, .string (⟨#[]⟩ : ByteArray), .slice none 0 0, .int .i64 0, .string (⟨#[]⟩ : ByteArray)]) Zr_135 rfl) rfl (fun b_3 => ?_)
  refine ls (s_store (i := 0) (vs := [.int .i64 x7.Kind, .string x7.Name, v1, .int .i64 x7.N, .string x7.Undo]) (C' := [.int .i64 x7.Kind, .string x7.Name, v1, .int .i64 x7.N, .string x7.Undo]) (O' := [(b_3, .cells #[.int .i64 x7.Kind, .string x7.Name, v1, .int .i64 x7.N, .string x7.Undo] 135 (0, 0)), (b_1, .cells #[.string p0.Name, .int .i64 p0.Sal, pv0_0, pv0_1, pv0_2] 49 (0, 0))]) Sz_135 rfl rfl rfl rfl rfl rfl ⟨rfl, rfl, h1.one, rfl, rfl, trivial⟩ rfl rfl) rfl ?_
  refine WL.nil <| WT.seq <| WT.draw mixed (by kernel_rfl) (fun _ h => h.drew) <| qq (q_loadN Tn_135 rfl (fun w1 hw => hw.rgO (i := 0) rfl 0 5 [.int .i64 x7.Kind, .string x7.Name, v1, .int .i64 x7.N, .string x7.Undo] rfl) rfl) rfl ?_
  obtain ⟨x8, hx8, h⟩ := bind_some h
  refine qp (p_call Fun_74 rfl (fun w1 hw => m_i_ActOk_ok hw.fro N x7 h1 hx8)) rfl <| qq (q_not rfl) rfl <| qq (q_move rfl) rfl ?_
  obtain ⟨b4, hb_4, h⟩ := bind_some h
  refine WQ.cutN 11 [(68, .bool b4), (1, .pointer (some ⟨b_1, 0, none⟩)), (48, pv0_2), (49, .int .i64 (p0.Acts.length : Int)), (50, .int .i64 s2)] ?_ (fun K => ?_)
  rotate_left
  ·refine WQ.split (d := 57) rfl (fun c9 => ?_) (fun c9 => ?_)
   ·replace hb_4 := ite_t hb_4 c9
    refine WQ.no rfl rfl rfl rfl <| WQ.no rfl rfl rfl rfl <| WQ.no rfl rfl rfl rfl <| WQ.no rfl rfl rfl rfl <| WQ.nox rfl rfl rfl rfl <| WQ.nox rfl rfl rfl rfl <| WQ.nox rfl rfl rfl rfl <| WQ.nox rfl rfl rfl rfl <| WQ.nox rfl rfl rfl rfl <| WQ.no rfl rfl rfl rfl <| WQ.q (q_pick1 rfl rfl) rfl rfl rfl ?_
    cases hb_4
    exact WQ.keep (by exact ⟨rfl, rfl, rfl, rfl, rfl, trivial⟩) K
   ·replace hb_4 := ite_f hb_4 c9
    refine WQ.yes rfl rfl <| qq (q_fieldAddr Fld_135_0 rfl) rfl <| WQ.yes rfl rfl <| qq (q_load1 T1_3 rfl (fun w1 hw => hw.rgO (i := 0) rfl 0 1 [.int .i64 x7.Kind] rfl)) rfl <| WQ.yes rfl rfl <| qq (q_eql rfl rfl) rfl <| WQ.yes rfl rfl <| qq (q_move rfl) rfl ?_
    obtain ⟨b5, hb_5, hb_4⟩ := bind_some hb_4
    refine WQ.cutN 6 [(67, .bool b5), (1, .pointer (some ⟨b_1, 0, none⟩)), (48, pv0_2), (49, .int .i64 (p0.Acts.length : Int)), (50, .int .i64 s2), (57, .bool false)] ?_ (fun K => ?_)
    rotate_left
    ·refine WQ.split (d := 61) rfl (fun c10 => ?_) (fun c10 => ?_)
     ·replace hb_5 := ite_t hb_5 c10
      refine WQ.yes rfl rfl <| qq (q_fieldAddr Fld_135_3 rfl) rfl <| WQ.yes rfl rfl <| qq (q_load1 T1_3 rfl (fun w1 hw => hw.rgO (i := 0) rfl 3 1 [.int .i64 x7.N] rfl)) rfl <| WQ.yes rfl rfl <| qq (q_loadN Tn_49 rfl (fun w1 hw => hw.rgO (i := 1) rfl 0 5 [.string p0.Name, .int .i64 p0.Sal, pv0_0, pv0_1, pv0_2] rfl) rfl) rfl <| WQ.yes rfl rfl ?_
      obtain ⟨x9, hx9, hb_5⟩ := bind_some hb_5
      refine qp (p_call Fun_24 rfl (fun w1 hw => m_i_PosCount_ok hw.fro N p0 ph0_0 ph0_1 ph0_2 hx9)) rfl <| WQ.yes rfl rfl <| qq (q_geq rfl rfl) rfl <| WQ.yes rfl rfl <| WQ.q (q_pick1 rfl rfl) rfl rfl rfl ?_
      cases hb_5
      exact WQ.keep (by exact ⟨rfl, rfl, rfl, rfl, rfl, rfl, trivial⟩) K
     ·replace hb_5 := ite_f hb_5 c10
      refine WQ.no rfl rfl rfl rfl <| WQ.no rfl rfl rfl rfl <| WQ.no rfl rfl rfl rfl <| WQ.no rfl rfl rfl rfl <| WQ.no rfl rfl rfl rfl <| WQ.yes rfl rfl <| WQ.q (q_pick0 rfl rfl) rfl rfl rfl ?_
      cases hb_5
      exact WQ.keep (by exact ⟨rfl, rfl, rfl, rfl, rfl, rfl, trivial⟩) K
    refine WQ.q (q_pick0 rfl rfl) rfl rfl rfl ?_
    cases hb_4
    exact WQ.keep (by exact ⟨rfl, rfl, rfl, rfl, rfl, trivial⟩) K
  refine WQ.nil ?_
  refine WT.cond rfl (fun c11 => ?_) (fun c11 => ?_)
  ·replace h := ite_t h c11
   refine WT.seq <| WT.region <| lq (q_assign rfl) rfl <| WL.nil ?_
   refine WT.ret Tryz.func26 (resOk.one rfl) (fun w1 hw => ?_)
   subst hb0
   cases h
   exact post_of_St hw
  replace h := ite_f h c11
  refine WT.skip <| WT.inBlock <| WT.region <| lq (q_add rfl rfl) rfl <| lq (q_move rfl) rfl <| WL.nil ?_
  refine WT.inLoop (WT.mono (l' := [(1, .pointer (some ⟨b_1, 0, none⟩)), (48, pv0_2), (49, .int .i64 (p0.Acts.length : Int)), (50, .int .i64 (IntKind.i64.wrap (s2 + 1)))]) (S' := St w0 Φ [(b_1, .cells #[.string p0.Name, .int .i64 p0.Sal, pv0_0, pv0_1, pv0_2] 49 (0, 0))] []) ⟨rfl, rfl, rfl, rfl, trivial⟩ (fun w1 hw => (hw.sel (js := []) rfl).selO (js := [1]) rfl) ?_)
  exact ih2 (IntKind.i64.wrap (s2 + 1)) h
 replace h := ite_f h c8
 refine WT.exit rfl <| WT.seq <| WT.region <| lq (q_loadN Tn_49 rfl (fun w1 hw => hw.rgO (i := 0) rfl 0 5 [.string p0.Name, .int .i64 p0.Sal, pv0_0, pv0_1, pv0_2] rfl) rfl) rfl ?_
 obtain ⟨x10, hx10, h⟩ := bind_some h
 refine lc (k_call (js := []) (R := []) Fun_75 rfl rfl (fun w1 hw ap hl => m_i_PosVars_ok hw.fro N p0 ph0_0 ph0_1 ph0_2  hx10)) rfl (fun v2 Φ_1 F3 q1 => ?_)
 obtain ⟨ap1, fr1, v3, rfl, rfl, h2⟩ := q1
 replace ph0_0 := ph0_0.frame RTPat.lasts fr1 (ap1.o pa0_0)
 replace ph0_1 := ph0_1.frame RTCond.lasts fr1 (ap1.o pa0_1)
 replace ph0_2 := ph0_2.frame RTAct.lasts fr1 (ap1.o pa0_2)
 refine lq (q_assign rfl) rfl <| WL.nil <| WT.seq <| WT.seq <| WT.region <| lq (q_loadN Tn_49 rfl (fun w1 hw => hw.rgO (i := 0) rfl 0 5 [.string p0.Name, .int .i64 p0.Sal, pv0_0, pv0_1, pv0_2] rfl) rfl) rfl ?_
 obtain ⟨x11, hx11, h⟩ := bind_some h
 refine lc (k_call (js := []) (R := [ob v2]) Fun_76 rfl rfl (fun w1 hw ap hl => m_i_usedVars_ok hw.fro N p0 ph0_0 ph0_1 ph0_2  hx11)) rfl (fun v4 Φ_2 F4 q2 => ?_)
 obtain ⟨ap2, fr2, v5, rfl, rfl, h3⟩ := q2
 replace h2 := h2.frame RS.lasts fr2 (ap2.r (i := 0) rfl) (Dj.nil _)
 refine lq (q_lenR Sl_137 rfl rfl h3.rsl) rfl <| lq (q_move rfl) rfl <| WL.nil <| WT.block <| WT.loop <| WT.mono (l' := [(7, v2), (73, v4), (74, .int .i64 (x11.length : Int)), (75, .int .i64 0)]) (S' := St w0 Φ_2 [] [ob v4, ob v2]) ⟨rfl, rfl, rfl, rfl, trivial⟩ (fun w1 hw => (hw.sel (js := [0, 0]) rfl).selO (js := []) rfl) ?_
 refine loop_ind (σ := Int) (fun s => [(7, v2), (73, v4), (74, .int .i64 (x11.length : Int)), (75, .int .i64 s)]) (fun s => St w0 Φ_2 [] [ob v4, ob v2]) (fun m s => m_i_RuleOk_l3 N x10 x11 m s = some r) (fun s hm => none_ne (show (none : Option (Bool)) = some r from hm)) (fun n3 ih3 s hm => ?_) N (0) h
 revert hm; revert s; intro s3 hm
 have h : m_i_RuleOk_l3 N x10 x11 (n3 + 1) s3 = some r := hm
 show WT _ _ [(7, v2), (73, v4), (74, .int .i64 (x11.length : Int)), (75, .int .i64 s3)] (St w0 Φ_2 [] [ob v4, ob v2])
 unfold m_i_RuleOk_l3 at h
 refine WT.seq <| WT.region <| lq (q_lss rfl rfl) rfl <| WL.nil <| WT.seq ?_
 refine WT.cond rfl (fun c12 => ?_) (fun c12 => ?_)
 ·replace h := ite_t h c12
  refine WT.skip <| WT.seq <| WT.block <| WT.seq <| WT.region ?_
  obtain ⟨x12, hx12, h⟩ := bind_some h
  obtain ⟨cs3, F5, -, g3, hb3, hs3, r3⟩ := h3.elS (idx_some hx12).2.2
  obtain ⟨rfl, -⟩ := r3
  refine lq (q_indexAddr Sl_137 rfl rfl h3.rsl hx12) rfl <| lq (q_load1 T1_9 rfl (fun w1 hw => (g3.of_eq 0 1 rfl rfl : rg _ _ _ [.string x12]).rangeAt hw.fro)) rfl <| lq (q_assign rfl) rfl <| WL.nil <| WT.seq <| WT.region <| lq (q_move rfl) rfl <| lq (q_move rfl) rfl ?_
  obtain ⟨x13, hx13, h⟩ := bind_some h
  refine lp (p_call Fun_77 rfl (fun w1 hw => m_sl_Contains_Sstring_string_ok hw.fro N x10 x12 h2.rsl hx13)) rfl <| lq (q_not rfl) rfl <| WL.nil ?_
  refine WT.cond rfl (fun c13 => ?_) (fun c13 => ?_)
  ·replace h := ite_t h c13
   refine WT.seq <| WT.region <| lq (q_assign rfl) rfl <| WL.nil ?_
   refine WT.ret Tryz.func26 (resOk.one rfl) (fun w1 hw => ?_)
   subst hb0
   cases h
   exact post_of_St hw
  replace h := ite_f h c13
  refine WT.skip <| WT.inBlock <| WT.region <| lq (q_add rfl rfl) rfl <| lq (q_move rfl) rfl <| WL.nil ?_
  refine WT.inLoop (WT.mono (l' := [(7, v2), (73, v4), (74, .int .i64 (x11.length : Int)), (75, .int .i64 (IntKind.i64.wrap (s3 + 1)))]) (S' := St w0 Φ_2 [] [ob v4, ob v2]) ⟨rfl, rfl, rfl, rfl, trivial⟩ (fun w1 hw => (hw.sel (js := [0, 0]) rfl).selO (js := []) rfl) ?_)
  exact ih3 (IntKind.i64.wrap (s3 + 1)) h
 replace h := ite_f h c12
 refine WT.exit rfl <| WT.seq <| WT.region <| lq (q_assign rfl) rfl <| WL.nil ?_
 refine WT.ret Tryz.func26 (resOk.one rfl) (fun w1 hw => ?_)
 subst hb0
 cases h
 exact post_of_St hw
theorem m_i_FactOk_ok {Φ : Hp} {w : World} (hΦ : In Φ w) (N : Nat) (p0 : TFact) {pv0_0 : Value} {pG0_0 : List Nat} (ph0_0 : RSl RTVal 3 Φ pG0_0 pv0_0 p0.Fields) {r : Bool} (h : m_i_FactOk N p0 = some r) :
  Calls Tryz.prog 79 [.agg [.string p0.Kind, pv0_0].toArray].toArray w (Post (.bool r) w) := by
 refine enter Tryz.func79 rfl Tryz.ntmps79 rfl (St.start0 hΦ) ?_
 generalize hb0 : (⟨w, [], Φ⟩ : Base) = w0
 unfold m_i_FactOk at h
 refine WT.seq <| WT.region ?_
 refine ln (n_box (C := #[.string p0.Kind, pv0_0]) rfl rfl) rfl (fun b_1 => ?_)
 refine lq (q_assign rfl) rfl <| WL.nil <| WT.seq <| WT.seq <| WT.region <| lq (q_fieldAddr Fld_116_0 rfl) rfl <| lq (q_load1 T1_9 rfl (fun w1 hw => hw.rgO (i := 0) rfl 0 1 [.string p0.Kind] rfl)) rfl ?_
 obtain ⟨x1, hx1, h⟩ := bind_some h
 refine lp (p_call Fun_70 rfl (fun w1 hw => m_i_NameOk_ok hw.fro N p0.Kind hx1)) rfl <| lq (q_not rfl) rfl <| lq (q_move rfl) rfl ?_
 obtain ⟨b1, hb_1, h⟩ := bind_some h
 refine WL.cutN 5 [(14, .bool b1), (1, .pointer (some ⟨b_1, 0, none⟩))] ?_ (fun K => ?_)
 rotate_left
 ·refine WL.split (d := 9) rfl (fun c1 => ?_) (fun c1 => ?_)
  ·replace hb_1 := ite_t hb_1 c1
   refine WL.no rfl rfl rfl rfl <| WL.no rfl rfl rfl rfl <| WL.no rfl rfl rfl rfl <| WL.no rfl rfl rfl rfl <| WL.q (q_pick1 rfl rfl) rfl rfl rfl ?_
   cases hb_1
   exact WL.keep (by exact ⟨rfl, rfl, trivial⟩) K
  ·replace hb_1 := ite_f hb_1 c1
   refine WL.yes rfl rfl <| lq (q_fieldAddr Fld_116_1 rfl) rfl <| WL.yes rfl rfl <| lq (q_load1 T1_100 rfl (fun w1 hw => hw.rgO (i := 0) rfl 1 1 [pv0_0] rfl)) rfl <| WL.yes rfl rfl <| lq (q_lenR Sl_100 rfl rfl ph0_0) rfl <| WL.yes rfl rfl <| lq (q_gtr rfl rfl) rfl <| WL.q (q_pick0 rfl rfl) rfl rfl rfl ?_
   cases hb_1
   exact WL.keep (by exact ⟨rfl, rfl, trivial⟩) K
 refine WL.nil ?_
 refine WT.cond rfl (fun c2 => ?_) (fun c2 => ?_)
 ·replace h := ite_t h c2
  refine WT.seq <| WT.region <| lq (q_assign rfl) rfl <| WL.nil ?_
  refine WT.ret Tryz.func79 (resOk.one rfl) (fun w1 hw => ?_)
  subst hb0
  cases h
  exact post_of_St hw
 replace h := ite_f h c2
 refine WT.skip <| WT.seq <| WT.seq <| WT.region <| lq (q_fieldAddr Fld_116_1 rfl) rfl <| lq (q_load1 T1_100 rfl (fun w1 hw => hw.rgO (i := 0) rfl 1 1 [pv0_0] rfl)) rfl <| lq (q_lenR Sl_100 rfl rfl ph0_0) rfl <| lq (q_move rfl) rfl <| WL.nil <| WT.block <| WT.loop <| WT.mono (l' := [(16, pv0_0), (17, .int .i64 (p0.Fields.length : Int)), (18, .int .i64 0)]) (S' := St w0 Φ [] []) ⟨rfl, rfl, rfl, trivial⟩ (fun w1 hw => (hw.sel (js := []) rfl).selO (js := []) rfl) ?_
 refine loop_ind (σ := Int) (fun s => [(16, pv0_0), (17, .int .i64 (p0.Fields.length : Int)), (18, .int .i64 s)]) (fun s => St w0 Φ [] []) (fun m s => m_i_FactOk_l1 N p0 m s = some r) (fun s hm => none_ne (show (none : Option (Bool)) = some r from hm)) (fun n1 ih1 s hm => ?_) N (0) h
 revert hm; revert s; intro s1 hm
 have h : m_i_FactOk_l1 N p0 (n1 + 1) s1 = some r := hm
 show WT _ _ [(16, pv0_0), (17, .int .i64 (p0.Fields.length : Int)), (18, .int .i64 s1)] (St w0 Φ [] [])
 unfold m_i_FactOk_l1 at h
 refine WT.seq <| WT.region <| lq (q_lss rfl rfl) rfl <| WL.nil <| WT.seq ?_
 refine WT.cond rfl (fun c3 => ?_) (fun c3 => ?_)
 ·replace h := ite_t h c3
  refine WT.skip <| WT.seq <| WT.block <| WT.seq <| WT.region ?_
  obtain ⟨x2, hx2, h⟩ := bind_some h
  obtain ⟨cs1, F1, -, g1, hb1, hs1, r1⟩ := ph0_0.el (idx_some hx2).2.2
  obtain ⟨rfl, -⟩ := r1
  refine lq (q_indexAddr Sl_100 rfl rfl ph0_0 hx2) rfl <| lq (q_loadN Tn_121 rfl (fun w1 hw => (g1.of_eq 0 3 rfl rfl : rg _ _ _ [.int .i64 x2.K, .int .i64 x2.N, .string x2.S]).rangeAt hw.fro) rfl) rfl ?_
  refine ln (n_alloc (C := #[.int .i64 0, .int .i64 0, .string (⟨#[]⟩ : ByteArray)]) Zr_121 rfl) rfl (fun b_2 => ?_)
  refine ls (s_store (i := 0) (vs := [.int .i64 x2.K, .int .i64 x2.N, .string x2.S]) (C' := [.int .i64 x2.K, .int .i64 x2.N, .string x2.S]) (O' := [(b_2, .cells #[.int .i64 x2.K, .int .i64 x2.N, .string x2.S] 121 (0, 0))]) Sz_121 rfl rfl rfl rfl rfl rfl ⟨rfl, rfl, rfl, trivial⟩ rfl rfl) rfl <| WL.nil <| WT.seq <| WT.region <| lq (q_loadN Tn_121 rfl (fun w1 hw => hw.rgO (i := 0) rfl 0 3 [.int .i64 x2.K, .int .i64 x2.N, .string x2.S] rfl) rfl) rfl ?_
  obtain ⟨x3, hx3, h⟩ := bind_some h
  refine lp (p_call Fun_149 rfl (fun w1 hw => m_i_ValOk_ok hw.fro N x2 hx3)) rfl <| lq (q_not rfl) rfl <| WL.nil ?_
  refine WT.cond rfl (fun c4 => ?_) (fun c4 => ?_)
  ·replace h := ite_t h c4
   refine WT.seq <| WT.region <| lq (q_assign rfl) rfl <| WL.nil ?_
   refine WT.ret Tryz.func79 (resOk.one rfl) (fun w1 hw => ?_)
   subst hb0
   cases h
   exact post_of_St hw
  replace h := ite_f h c4
  refine WT.skip <| WT.inBlock <| WT.region <| lq (q_add rfl rfl) rfl <| lq (q_move rfl) rfl <| WL.nil ?_
  refine WT.inLoop (WT.mono (l' := [(16, pv0_0), (17, .int .i64 (p0.Fields.length : Int)), (18, .int .i64 (IntKind.i64.wrap (s1 + 1)))]) (S' := St w0 Φ [] []) ⟨rfl, rfl, rfl, trivial⟩ (fun w1 hw => (hw.sel (js := []) rfl).selO (js := []) rfl) ?_)
  exact ih1 (IntKind.i64.wrap (s1 + 1)) h
 replace h := ite_f h c3
 refine WT.exit rfl <| WT.seq <| WT.region <| lq (q_assign rfl) rfl <| WL.nil ?_
 refine WT.ret Tryz.func79 (resOk.one rfl) (fun w1 hw => ?_)
 subst hb0
 cases h
 exact post_of_St hw
theorem m_sl_Equal_Si_Val_i_Val_ok {Φ : Hp} {w : World} (hΦ : In Φ w) (N : Nat) (p0 : (List TVal)) (p1 : (List TVal)) {pv0 : Value} {pG0 : List Nat} {pv1 : Value} {pG1 : List Nat} (ph0 : RSl RTVal 3 Φ pG0 pv0 p0) (ph1 : RSl RTVal 3 Φ pG1 pv1 p1) {r : Bool} (h : m_sl_Equal_Si_Val_i_Val N p0 p1 = some r) :
  Calls Tryz.prog 109 [pv0, pv1].toArray w (Post (.bool r) w) := by
 refine enter Tryz.func109 rfl Tryz.ntmps109 rfl (St.start0 hΦ) ?_
 generalize hb0 : (⟨w, [], Φ⟩ : Base) = w0
 unfold m_sl_Equal_Si_Val_i_Val at h
 refine WT.seq <| WT.region <| lq (q_assign rfl) rfl <| WL.nil <| WT.seq <| WT.seq <| WT.region <| lq (q_move rfl) rfl <| lq (q_lenR Sl_100 rfl rfl ph0) rfl <| lq (q_move rfl) rfl <| lq (q_lenR Sl_100 rfl rfl ph1) rfl <| lq (q_neq rfl rfl) rfl <| WL.nil ?_
 refine WT.cond rfl (fun c1 => ?_) (fun c1 => ?_)
 ·replace h := ite_t h c1
  refine WT.seq <| WT.region <| lq (q_assign rfl) rfl <| WL.nil ?_
  refine WT.ret Tryz.func109 (resOk.one rfl) (fun w1 hw => ?_)
  subst hb0
  cases h
  exact post_of_St hw
 replace h := ite_f h c1
 refine WT.skip <| WT.seq <| WT.seq <| WT.region <| lq (q_move rfl) rfl <| lq (q_lenR Sl_100 rfl rfl ph0) rfl <| lq (q_move rfl) rfl <| WL.nil <| WT.block <| WT.loop <| WT.mono (l' := [(0, pv0), (1, pv1), (12, .int .i64 (p0.length : Int)), (13, .int .i64 0)]) (S' := St w0 Φ [] []) ⟨rfl, rfl, rfl, rfl, trivial⟩ (fun w1 hw => (hw.sel (js := []) rfl).selO (js := []) rfl) ?_
 refine loop_ind (σ := Int) (fun s => [(0, pv0), (1, pv1), (12, .int .i64 (p0.length : Int)), (13, .int .i64 s)]) (fun s => St w0 Φ [] []) (fun m s => m_sl_Equal_Si_Val_i_Val_l1 N p0 p1 m s = some r) (fun s hm => none_ne (show (none : Option (Bool)) = some r from hm)) (fun n1 ih1 s hm => ?_) N (0) h
 revert hm; revert s; intro s1 hm
 have h : m_sl_Equal_Si_Val_i_Val_l1 N p0 p1 (n1 + 1) s1 = some r := hm
 show WT _ _ [(0, pv0), (1, pv1), (12, .int .i64 (p0.length : Int)), (13, .int .i64 s1)] (St w0 Φ [] [])
 unfold m_sl_Equal_Si_Val_i_Val_l1 at h
 refine WT.seq <| WT.region <| lq (q_lss rfl rfl) rfl <| WL.nil <| WT.seq ?_
 refine WT.cond rfl (fun c2 => ?_) (fun c2 => ?_)
 ·replace h := ite_t h c2
  refine WT.skip <| WT.seq <| WT.block <| WT.seq <| WT.region <| lq (q_move rfl) rfl <| lq (q_assign rfl) rfl <| WL.nil <| WT.seq <| WT.draw mixed (by kernel_rfl) (fun _ h => h.drew) <| qq (q_move rfl) rfl <| qq (q_move rfl) rfl ?_
  obtain ⟨x1, hx1, h⟩ := bind_some h
  obtain ⟨cs1, F1, -, g1, hb1, hs1, r1⟩ := ph0.el (idx_some hx1).2.2
  obtain ⟨rfl, -⟩ := r1
  refine qq (q_indexAddr Sl_100 rfl rfl ph0 hx1) rfl <| qq (q_loadN Tn_121 rfl (fun w1 hw => (g1.of_eq 0 3 rfl rfl : rg _ _ _ [.int .i64 x1.K, .int .i64 x1.N, .string x1.S]).rangeAt hw.fro) rfl) rfl <| qq (q_move rfl) rfl <| qq (q_move rfl) rfl ?_
  obtain ⟨x2, hx2, h⟩ := bind_some h
  obtain ⟨cs2, F2, -, g2, hb2, hs2, r2⟩ := ph1.el (idx_some hx2).2.2
  obtain ⟨rfl, -⟩ := r2
  refine qq (q_indexAddr Sl_100 rfl rfl ph1 hx2) rfl <| qq (q_loadN Tn_121 rfl (fun w1 hw => (g2.of_eq 0 3 rfl rfl : rg _ _ _ [.int .i64 x2.K, .int .i64 x2.N, .string x2.S]).rangeAt hw.fro) rfl) rfl <| qq (q_neA EqT_121 rfl rfl rfl (r := eqT_TVal x1 x2) rfl) rfl <| WQ.nil ?_
  refine WT.cond rfl (fun c3 => ?_) (fun c3 => ?_)
  ·replace h := ite_t h c3
   refine WT.seq <| WT.region <| lq (q_assign rfl) rfl <| WL.nil ?_
   refine WT.ret Tryz.func109 (resOk.one rfl) (fun w1 hw => ?_)
   subst hb0
   cases h
   exact post_of_St hw
  replace h := ite_f h c3
  refine WT.skip <| WT.inBlock <| WT.region <| lq (q_add rfl rfl) rfl <| lq (q_move rfl) rfl <| WL.nil ?_
  refine WT.inLoop (WT.mono (l' := [(0, pv0), (1, pv1), (12, .int .i64 (p0.length : Int)), (13, .int .i64 (IntKind.i64.wrap (s1 + 1)))]) (S' := St w0 Φ [] []) ⟨rfl, rfl, rfl, rfl, trivial⟩ (fun w1 hw => (hw.sel (js := []) rfl).selO (js := []) rfl) ?_)
  exact ih1 (IntKind.i64.wrap (s1 + 1)) h
 replace h := ite_f h c2
 refine WT.exit rfl <| WT.seq <| WT.region <| lq (q_assign rfl) rfl <| WL.nil ?_
 refine WT.ret Tryz.func109 (resOk.one rfl) (fun w1 hw => ?_)
 subst hb0
 cases h
 exact post_of_St hw
theorem m_i_SameFact_ok {Φ : Hp} {w : World} (hΦ : In Φ w) (N : Nat) (p0 : TFact) (p1 : TFact) {pv0_0 : Value} {pG0_0 : List Nat} {pv1_0 : Value} {pG1_0 : List Nat} (ph0_0 : RSl RTVal 3 Φ pG0_0 pv0_0 p0.Fields) (ph1_0 : RSl RTVal 3 Φ pG1_0 pv1_0 p1.Fields) {r : Bool} (h : m_i_SameFact N p0 p1 = some r) :
  Calls Tryz.prog 80 [.agg [.string p0.Kind, pv0_0].toArray, .agg [.string p1.Kind, pv1_0].toArray].toArray w (Post (.bool r) w) := by
 refine enter Tryz.func80 rfl Tryz.ntmps80 rfl (St.start0 hΦ) ?_
 unfold m_i_SameFact at h
 refine WT.seq <| WT.region ?_
 refine ln (n_box (C := #[.string p0.Kind, pv0_0]) rfl rfl) rfl (fun b_1 => ?_)
 refine ln (n_box (C := #[.string p1.Kind, pv1_0]) rfl rfl) rfl (fun b_2 => ?_)
 refine lq (q_assign rfl) rfl <| WL.nil <| WT.seq <| WT.region <| lq (q_fieldAddr Fld_116_0 rfl) rfl <| lq (q_load1 T1_9 rfl (fun w1 hw => hw.rgO (i := 1) rfl 0 1 [.string p0.Kind] rfl)) rfl <| lq (q_fieldAddr Fld_116_0 rfl) rfl <| lq (q_load1 T1_9 rfl (fun w1 hw => hw.rgO (i := 0) rfl 0 1 [.string p1.Kind] rfl)) rfl <| lq (q_seq rfl rfl) rfl <| lq (q_move rfl) rfl ?_
 obtain ⟨b1, hb_1, h⟩ := bind_some h
 refine WL.cutN 6 [(16, .bool b1), (4, .bool false)] ?_ (fun K => ?_)
 rotate_left
 ·refine WL.split (d := 10) rfl (fun c1 => ?_) (fun c1 => ?_)
  ·replace hb_1 := ite_t hb_1 c1
   refine WL.yes rfl rfl <| lq (q_fieldAddr Fld_116_1 rfl) rfl <| WL.yes rfl rfl <| lq (q_load1 T1_100 rfl (fun w1 hw => hw.rgO (i := 1) rfl 1 1 [pv0_0] rfl)) rfl <| WL.yes rfl rfl <| lq (q_fieldAddr Fld_116_1 rfl) rfl <| WL.yes rfl rfl <| lq (q_load1 T1_100 rfl (fun w1 hw => hw.rgO (i := 0) rfl 1 1 [pv1_0] rfl)) rfl <| WL.yes rfl rfl ?_
   obtain ⟨x1, hx1, hb_1⟩ := bind_some hb_1
   refine lp (p_call Fun_109 rfl (fun w1 hw => m_sl_Equal_Si_Val_i_Val_ok hw.fro N p0.Fields p1.Fields ph0_0 ph1_0 hx1)) rfl <| WL.q (q_pick1 rfl rfl) rfl rfl rfl ?_
   cases hb_1
   exact WL.keep (by exact ⟨rfl, rfl, trivial⟩) K
  ·replace hb_1 := ite_f hb_1 c1
   refine WL.no rfl rfl rfl rfl <| WL.no rfl rfl rfl rfl <| WL.no rfl rfl rfl rfl <| WL.no rfl rfl rfl rfl <| WL.no rfl rfl rfl rfl <| WL.q (q_pick0 rfl rfl) rfl rfl rfl ?_
   cases hb_1
   exact WL.keep (by exact ⟨rfl, rfl, trivial⟩) K
 refine lq (q_assign rfl) rfl <| WL.nil ?_
 refine WT.ret Tryz.func80 (resOk.one rfl) (fun w1 hw => ?_)
 cases h
 exact post_of_St hw
theorem m_i_StoreOk_ok {Φ : Hp} {w : World} (hΦ : In Φ w) (N : Nat) (p0 : TStore) {pv0_0 : Value} {pG0_0 : List Nat} (ph0_0 : RSl RTItem 3 Φ pG0_0 pv0_0 p0.Items) {r : Bool} (h : m_i_StoreOk N p0 = some r) :
  Calls Tryz.prog 28 [.agg [pv0_0, .int .i64 p0.Next].toArray].toArray w (Post (.bool r) w) := by
 refine enter Tryz.func28 rfl Tryz.ntmps28 rfl (St.start0 hΦ) ?_
 generalize hb0 : (⟨w, [], Φ⟩ : Base) = w0
 unfold m_i_StoreOk at h
 refine WT.seq <| WT.region ?_
 refine ln (n_box (C := #[pv0_0, .int .i64 p0.Next]) rfl rfl) rfl (fun b_1 => ?_)
 refine lq (q_assign rfl) rfl <| WL.nil <| WT.seq <| WT.seq <| WT.region <| lq (q_fieldAddr Fld_52_0 rfl) rfl <| lq (q_load1 T1_50 rfl (fun w1 hw => hw.rgO (i := 0) rfl 0 1 [pv0_0] rfl)) rfl <| lq (q_lenR Sl_50 rfl rfl ph0_0) rfl <| lq (q_gtr rfl rfl) rfl <| lq (q_move rfl) rfl ?_
 obtain ⟨b1, hb_1, h⟩ := bind_some h
 refine WL.cutN 5 [(16, .bool b1), (1, .pointer (some ⟨b_1, 0, none⟩))] ?_ (fun K => ?_)
 rotate_left
 ·refine WL.split (d := 11) rfl (fun c1 => ?_) (fun c1 => ?_)
  ·replace hb_1 := ite_t hb_1 c1
   refine WL.no rfl rfl rfl rfl <| WL.no rfl rfl rfl rfl <| WL.no rfl rfl rfl rfl <| WL.no rfl rfl rfl rfl <| WL.q (q_pick1 rfl rfl) rfl rfl rfl ?_
   cases hb_1
   exact WL.keep (by exact ⟨rfl, rfl, trivial⟩) K
  ·replace hb_1 := ite_f hb_1 c1
   refine WL.yes rfl rfl <| lq (q_fieldAddr Fld_52_1 rfl) rfl <| WL.yes rfl rfl <| lq (q_load1 T1_3 rfl (fun w1 hw => hw.rgO (i := 0) rfl 1 1 [.int .i64 p0.Next] rfl)) rfl <| WL.yes rfl rfl ?_
   obtain ⟨x1, hx1, hb_1⟩ := bind_some hb_1
   refine lp (p_call Fun_71 rfl (fun w1 hw => m_i_inRange_ok hw.fro N p0.Next 1 1000000 hx1)) rfl <| WL.yes rfl rfl <| lq (q_not rfl) rfl <| WL.q (q_pick0 rfl rfl) rfl rfl rfl ?_
   cases hb_1
   exact WL.keep (by exact ⟨rfl, rfl, trivial⟩) K
 refine WL.nil ?_
 refine WT.cond rfl (fun c2 => ?_) (fun c2 => ?_)
 ·replace h := ite_t h c2
  refine WT.seq <| WT.region <| lq (q_assign rfl) rfl <| WL.nil ?_
  refine WT.ret Tryz.func28 (resOk.one rfl) (fun w1 hw => ?_)
  subst hb0
  cases h
  exact post_of_St hw
 replace h := ite_f h c2
 refine WT.skip <| WT.seq <| WT.seq <| WT.region <| lq (q_fieldAddr Fld_52_0 rfl) rfl <| lq (q_load1 T1_50 rfl (fun w1 hw => hw.rgO (i := 0) rfl 0 1 [pv0_0] rfl)) rfl <| lq (q_lenR Sl_50 rfl rfl ph0_0) rfl <| lq (q_move rfl) rfl <| WL.nil <| WT.block <| WT.loop <| WT.mono (l' := [(1, .pointer (some ⟨b_1, 0, none⟩)), (18, pv0_0), (19, .int .i64 (p0.Items.length : Int)), (20, .int .i64 0)]) (S' := St w0 Φ [(b_1, .cells #[pv0_0, .int .i64 p0.Next] 52 (0, 0))] []) ⟨rfl, rfl, rfl, rfl, trivial⟩ (fun w1 hw => (hw.sel (js := []) rfl).selO (js := [0]) rfl) ?_
 refine loop_ind (σ := Int) (fun s => [(1, .pointer (some ⟨b_1, 0, none⟩)), (18, pv0_0), (19, .int .i64 (p0.Items.length : Int)), (20, .int .i64 s)]) (fun s => St w0 Φ [(b_1, .cells #[pv0_0, .int .i64 p0.Next] 52 (0, 0))] []) (fun m s => m_i_StoreOk_l1 N p0 m s = some r) (fun s hm => none_ne (show (none : Option (Bool)) = some r from hm)) (fun n1 ih1 s hm => ?_) N (0) h
 revert hm; revert s; intro s1 hm
 have h : m_i_StoreOk_l1 N p0 (n1 + 1) s1 = some r := hm
 show WT _ _ [(1, .pointer (some ⟨b_1, 0, none⟩)), (18, pv0_0), (19, .int .i64 (p0.Items.length : Int)), (20, .int .i64 s1)] (St w0 Φ [(b_1, .cells #[pv0_0, .int .i64 p0.Next] 52 (0, 0))] [])
 unfold m_i_StoreOk_l1 at h
 refine WT.seq <| WT.region <| lq (q_lss rfl rfl) rfl <| WL.nil <| WT.seq ?_
 refine WT.cond rfl (fun c3 => ?_) (fun c3 => ?_)
 ·replace h := ite_t h c3
  refine WT.skip <| WT.seq <| WT.block <| WT.seq <| WT.region <| lq (q_move rfl) rfl ?_
  obtain ⟨x2, hx2, h⟩ := bind_some h
  obtain ⟨cs1, F1, -, g1, hb1, hs1, r1⟩ := ph0_0.el (idx_some hx2).2.2
  obtain ⟨v1, G1, rfl, hq1, h1⟩ := r1
  obtain rfl := hq1.symm
  refine lq (q_indexAddr Sl_50 rfl rfl ph0_0 hx2) rfl <| lq (q_loadN Tn_142 rfl (fun w1 hw => (g1.of_eq 0 3 rfl rfl : rg _ _ _ [.int .i64 x2.Id, .string x2.F.Kind, v1]).rangeAt hw.fro) rfl) rfl ?_
  refine ln (n_alloc (C := #[.int .i64 0, .string (⟨#[]⟩ : ByteArray), .slice none 0 0]) Zr_142 rfl) rfl (fun b_2 => ?_)
  refine lq (q_assign rfl) rfl <| ls (s_store (i := 0) (vs := [.int .i64 x2.Id, .string x2.F.Kind, v1]) (C' := [.int .i64 x2.Id, .string x2.F.Kind, v1]) (O' := [(b_2, .cells #[.int .i64 x2.Id, .string x2.F.Kind, v1] 142 (0, 0)), (b_1, .cells #[pv0_0, .int .i64 p0.Next] 52 (0, 0))]) Sz_142 rfl rfl rfl rfl rfl rfl ⟨rfl, rfl, h1.one, trivial⟩ rfl rfl) rfl <| WL.nil <| WT.seq <| WT.seq <| WT.draw mixed (by kernel_rfl) (fun _ h => h.drew) ?_
  refine qq (q_fieldAddr Fld_142_1 rfl) rfl <| qq (q_loadN Tn_116 rfl (fun w1 hw => hw.rgO (i := 0) rfl 1 2 [.string x2.F.Kind, v1] rfl) rfl) rfl ?_
  obtain ⟨x3, hx3, h⟩ := bind_some h
  refine qp (p_call Fun_79 rfl (fun w1 hw => m_i_FactOk_ok hw.fro N x2.F h1 hx3)) rfl <| qq (q_not rfl) rfl <| qq (q_move rfl) rfl ?_
  obtain ⟨b2, hb_2, h⟩ := bind_some h
  refine WQ.cutN 8 [(37, .bool b2), (1, .pointer (some ⟨b_1, 0, none⟩)), (3, .int .i64 s1), (4, .pointer (some ⟨b_2, 0, none⟩)), (18, pv0_0), (19, .int .i64 (p0.Items.length : Int)), (20, .int .i64 s1)] ?_ (fun K => ?_)
  rotate_left
  ·refine WQ.split (d := 29) rfl (fun c4 => ?_) (fun c4 => ?_)
   ·replace hb_2 := ite_t hb_2 c4
    refine WQ.no rfl rfl rfl rfl <| WQ.no rfl rfl rfl rfl <| WQ.no rfl rfl rfl rfl <| WQ.no rfl rfl rfl rfl <| WQ.no rfl rfl rfl rfl <| WQ.no rfl rfl rfl rfl <| WQ.no rfl rfl rfl rfl <| WQ.q (q_pick1 rfl rfl) rfl rfl rfl ?_
    cases hb_2
    exact WQ.keep (by exact ⟨rfl, rfl, rfl, rfl, rfl, rfl, rfl, trivial⟩) K
   ·replace hb_2 := ite_f hb_2 c4
    refine WQ.yes rfl rfl <| qq (q_fieldAddr Fld_142_0 rfl) rfl <| WQ.yes rfl rfl <| qq (q_load1 T1_3 rfl (fun w1 hw => hw.rgO (i := 0) rfl 0 1 [.int .i64 x2.Id] rfl)) rfl <| WQ.yes rfl rfl <| qq (q_fieldAddr Fld_52_1 rfl) rfl <| WQ.yes rfl rfl <| qq (q_load1 T1_3 rfl (fun w1 hw => hw.rgO (i := 1) rfl 1 1 [.int .i64 p0.Next] rfl)) rfl <| WQ.yes rfl rfl <| qq (q_sub rfl rfl) rfl <| WQ.yes rfl rfl ?_
    obtain ⟨x4, hx4, hb_2⟩ := bind_some hb_2
    refine qp (p_call Fun_71 rfl (fun w1 hw => m_i_inRange_ok hw.fro N x2.Id 1 (IntKind.i64.wrap (p0.Next - 1)) hx4)) rfl <| WQ.yes rfl rfl <| qq (q_not rfl) rfl <| WQ.q (q_pick0 rfl rfl) rfl rfl rfl ?_
    cases hb_2
    exact WQ.keep (by exact ⟨rfl, rfl, rfl, rfl, rfl, rfl, rfl, trivial⟩) K
  refine qq (q_move rfl) rfl ?_
  obtain ⟨b3, hb_3, h⟩ := bind_some h
  refine WQ.cutN 15 [(53, .bool b3), (1, .pointer (some ⟨b_1, 0, none⟩)), (3, .int .i64 s1), (4, .pointer (some ⟨b_2, 0, none⟩)), (18, pv0_0), (19, .int .i64 (p0.Items.length : Int)), (20, .int .i64 s1)] ?_ (fun K => ?_)
  rotate_left
  ·refine WQ.split (d := 38) rfl (fun c5 => ?_) (fun c5 => ?_)
   ·replace hb_3 := ite_t hb_3 c5
    refine WQ.no rfl rfl rfl rfl <| WQ.no rfl rfl rfl rfl <| WQ.no rfl rfl rfl rfl <| WQ.nox rfl rfl rfl rfl <| WQ.nox rfl rfl rfl rfl <| WQ.nox rfl rfl rfl rfl <| WQ.nox rfl rfl rfl rfl <| WQ.nox rfl rfl rfl rfl <| WQ.nox rfl rfl rfl rfl <| WQ.nox rfl rfl rfl rfl <| WQ.nox rfl rfl rfl rfl <| WQ.nox rfl rfl rfl rfl <| WQ.nox rfl rfl rfl rfl <| WQ.no rfl rfl rfl rfl <| WQ.q (q_pick1 rfl rfl) rfl rfl rfl ?_
    cases hb_3
    exact WQ.keep (by exact ⟨rfl, rfl, rfl, rfl, rfl, rfl, rfl, trivial⟩) K
   ·replace hb_3 := ite_f hb_3 c5
    refine WQ.yes rfl rfl <| qq (q_move rfl) rfl <| WQ.yes rfl rfl <| qq (q_gtr rfl rfl) rfl <| WQ.yes rfl rfl <| qq (q_move rfl) rfl ?_
    obtain ⟨b4, hb_4, hb_3⟩ := bind_some hb_3
    refine WQ.cutN 11 [(52, .bool b4), (1, .pointer (some ⟨b_1, 0, none⟩)), (3, .int .i64 s1), (4, .pointer (some ⟨b_2, 0, none⟩)), (18, pv0_0), (19, .int .i64 (p0.Items.length : Int)), (20, .int .i64 s1), (38, .bool false)] ?_ (fun K => ?_)
    rotate_left
    ·refine WQ.split (d := 41) rfl (fun c6 => ?_) (fun c6 => ?_)
     ·replace hb_4 := ite_t hb_4 c6
      refine WQ.yes rfl rfl <| qq (q_fieldAddr Fld_142_0 rfl) rfl <| WQ.yes rfl rfl <| qq (q_load1 T1_3 rfl (fun w1 hw => hw.rgO (i := 0) rfl 0 1 [.int .i64 x2.Id] rfl)) rfl <| WQ.yes rfl rfl <| qq (q_fieldAddr Fld_52_0 rfl) rfl <| WQ.yes rfl rfl <| qq (q_load1 T1_50 rfl (fun w1 hw => hw.rgO (i := 1) rfl 0 1 [pv0_0] rfl)) rfl <| WQ.yes rfl rfl <| qq (q_move rfl) rfl <| WQ.yes rfl rfl <| qq (q_sub rfl rfl) rfl <| WQ.yes rfl rfl ?_
      obtain ⟨x5, hx5, hb_4⟩ := bind_some hb_4
      obtain ⟨cs2, F2, -, g2, hb2, hs2, r2⟩ := ph0_0.el (idx_some hx5).2.2
      obtain ⟨v2, G2, rfl, hq2, h2⟩ := r2
      obtain rfl := hq2.symm
      refine qq (q_indexAddr Sl_50 rfl rfl ph0_0 hx5) rfl <| WQ.yes rfl rfl <| qq (q_fieldAddr Fld_142_0 rfl) rfl <| WQ.yes rfl rfl <| qq (q_load1 T1_3 rfl (fun w1 hw => (g2.of_eq 0 1 rfl rfl : rg _ _ _ [.int .i64 x5.Id]).rangeAt hw.fro)) rfl <| WQ.yes rfl rfl <| qq (q_leq rfl rfl) rfl <| WQ.yes rfl rfl <| WQ.q (q_pick1 rfl rfl) rfl rfl rfl ?_
      cases hb_4
      exact WQ.keep (by exact ⟨rfl, rfl, rfl, rfl, rfl, rfl, rfl, rfl, trivial⟩) K
     ·replace hb_4 := ite_f hb_4 c6
      refine WQ.no rfl rfl rfl rfl <| WQ.no rfl rfl rfl rfl <| WQ.no rfl rfl rfl rfl <| WQ.no rfl rfl rfl rfl <| WQ.no rfl rfl rfl rfl <| WQ.no rfl rfl rfl rfl <| WQ.no rfl rfl rfl rfl <| WQ.no rfl rfl rfl rfl <| WQ.no rfl rfl rfl rfl <| WQ.no rfl rfl rfl rfl <| WQ.yes rfl rfl <| WQ.q (q_pick0 rfl rfl) rfl rfl rfl ?_
      cases hb_4
      exact WQ.keep (by exact ⟨rfl, rfl, rfl, rfl, rfl, rfl, rfl, rfl, trivial⟩) K
    refine WQ.q (q_pick0 rfl rfl) rfl rfl rfl ?_
    cases hb_3
    exact WQ.keep (by exact ⟨rfl, rfl, rfl, rfl, rfl, rfl, rfl, trivial⟩) K
  refine WQ.nil ?_
  refine WT.cond rfl (fun c7 => ?_) (fun c7 => ?_)
  ·replace h := ite_t h c7
   refine WT.seq <| WT.region <| lq (q_assign rfl) rfl <| WL.nil ?_
   refine WT.ret Tryz.func28 (resOk.one rfl) (fun w1 hw => ?_)
   subst hb0
   cases h
   exact post_of_St hw
  replace h := ite_f h c7
  refine WT.skip <| WT.seq <| WT.region <| lq (q_fieldAddr Fld_52_0 rfl) rfl <| lq (q_load1 T1_50 rfl (fun w1 hw => hw.rgO (i := 1) rfl 0 1 [pv0_0] rfl)) rfl <| lq (q_move rfl) rfl ?_
  obtain ⟨x6, hx6, h⟩ := bind_some h
  refine lq (q_slH Sl_50 rfl rfl ph0_0 hx6) rfl ?_
  obtain ⟨F3, h3, hs3⟩ := ph0_0.sub hx6
  refine lq (q_lenR Sl_50 rfl rfl h3) rfl <| lq (q_move rfl) rfl <| WL.nil <| WT.block <| WT.loop <| WT.mono (l' := [(1, .pointer (some ⟨b_1, 0, none⟩)), (4, .pointer (some ⟨b_2, 0, none⟩)), (18, pv0_0), (19, .int .i64 (p0.Items.length : Int)), (20, .int .i64 s1), (57, (slc pv0_0 (0 : Int).toNat s1.toNat 3)), (58, .int .i64 (x6.length : Int)), (59, .int .i64 0)]) (S' := St w0 Φ [(b_2, .cells #[.int .i64 x2.Id, .string x2.F.Kind, v1] 142 (0, 0)), (b_1, .cells #[pv0_0, .int .i64 p0.Next] 52 (0, 0))] []) ⟨rfl, rfl, rfl, rfl, rfl, rfl, rfl, rfl, trivial⟩ (fun w1 hw => (hw.sel (js := []) rfl).selO (js := [0, 0]) rfl) ?_
  refine loop_ind (σ := Int) (fun s => [(1, .pointer (some ⟨b_1, 0, none⟩)), (4, .pointer (some ⟨b_2, 0, none⟩)), (18, pv0_0), (19, .int .i64 (p0.Items.length : Int)), (20, .int .i64 s1), (57, (slc pv0_0 (0 : Int).toNat s1.toNat 3)), (58, .int .i64 (x6.length : Int)), (59, .int .i64 s)]) (fun s => St w0 Φ [(b_2, .cells #[.int .i64 x2.Id, .string x2.F.Kind, v1] 142 (0, 0)), (b_1, .cells #[pv0_0, .int .i64 p0.Next] 52 (0, 0))] []) (fun m s => m_i_StoreOk_l2 N s1 (m_i_StoreOk_l1 N p0 n1) x2 x6 m s = some r) (fun s hm => none_ne (show (none : Option (Bool)) = some r from hm)) (fun n2 ih2 s hm => ?_) N (0) h
  revert hm; revert s; intro s2 hm
  have h : m_i_StoreOk_l2 N s1 (m_i_StoreOk_l1 N p0 n1) x2 x6 (n2 + 1) s2 = some r := hm
  show WT _ _ [(1, .pointer (some ⟨b_1, 0, none⟩)), (4, .pointer (some ⟨b_2, 0, none⟩)), (18, pv0_0), (19, .int .i64 (p0.Items.length : Int)), (20, .int .i64 s1), (57, (slc pv0_0 (0 : Int).toNat s1.toNat 3)), (58, .int .i64 (x6.length : Int)), (59, .int .i64 s2)] (St w0 Φ [(b_2, .cells #[.int .i64 x2.Id, .string x2.F.Kind, v1] 142 (0, 0)), (b_1, .cells #[pv0_0, .int .i64 p0.Next] 52 (0, 0))] [])
  unfold m_i_StoreOk_l2 at h
  refine WT.seq <| WT.region <| lq (q_lss rfl rfl) rfl <| WL.nil <| WT.seq ?_
  refine WT.cond rfl (fun c8 => ?_) (fun c8 => ?_)
  ·replace h := ite_t h c8
   refine WT.skip <| WT.seq <| WT.block <| WT.seq <| WT.region ?_
   obtain ⟨x7, hx7, h⟩ := bind_some h
   obtain ⟨cs3, F4, -, g3, hb3, hs4, r3⟩ := h3.el (idx_some hx7).2.2
   obtain ⟨v3, G3, rfl, hq3, h4⟩ := r3
   obtain rfl := hq3.symm
   refine lq (q_indexAddr Sl_50 rfl rfl h3 hx7) rfl <| lq (q_loadN Tn_142 rfl (fun w1 hw => (g3.of_eq 0 3 rfl rfl : rg _ _ _ [.int .i64 x7.Id, .string x7.F.Kind, v3]).rangeAt hw.fro) rfl) rfl ?_
   refine ln (n_alloc (C := #[.int .i64 0, .string (⟨#[]⟩ : ByteArray), .slice none 0 0]) Zr_142 rfl) rfl (fun b_3 => ?_)
   refine ls (s_store (i := 0) (vs := [.int .i64 x7.Id, .string x7.F.Kind, v3]) (C' := [.int .i64 x7.Id, .string x7.F.Kind, v3]) (O' := [(b_3, .cells #[.int .i64 x7.Id, .string x7.F.Kind, v3] 142 (0, 0)), (b_2, .cells #[.int .i64 x2.Id, .string x2.F.Kind, v1] 142 (0, 0)), (b_1, .cells #[pv0_0, .int .i64 p0.Next] 52 (0, 0))]) Sz_142 rfl rfl rfl rfl rfl rfl ⟨rfl, rfl, h4.one, trivial⟩ rfl rfl) rfl <| WL.nil <| WT.seq ?_
   refine WT.region <| lq (q_fieldAddr Fld_142_1 rfl) rfl <| lq (q_loadN Tn_116 rfl (fun w1 hw => hw.rgO (i := 1) rfl 1 2 [.string x2.F.Kind, v1] rfl) rfl) rfl <| lq (q_fieldAddr Fld_142_1 rfl) rfl <| lq (q_loadN Tn_116 rfl (fun w1 hw => hw.rgO (i := 0) rfl 1 2 [.string x7.F.Kind, v3] rfl) rfl) rfl ?_
   obtain ⟨x8, hx8, h⟩ := bind_some h
   refine lp (p_call Fun_80 rfl (fun w1 hw => m_i_SameFact_ok hw.fro N x2.F x7.F h1 h4 hx8)) rfl <| WL.nil ?_
   refine WT.cond rfl (fun c9 => ?_) (fun c9 => ?_)
   ·replace h := ite_t h c9
    refine WT.seq <| WT.region <| lq (q_assign rfl) rfl <| WL.nil ?_
    refine WT.ret Tryz.func28 (resOk.one rfl) (fun w1 hw => ?_)
    subst hb0
    cases h
    exact post_of_St hw
   replace h := ite_f h c9
   refine WT.skip <| WT.inBlock <| WT.region <| lq (q_add rfl rfl) rfl <| lq (q_move rfl) rfl <| WL.nil ?_
   refine WT.inLoop (WT.mono (l' := [(1, .pointer (some ⟨b_1, 0, none⟩)), (4, .pointer (some ⟨b_2, 0, none⟩)), (18, pv0_0), (19, .int .i64 (p0.Items.length : Int)), (20, .int .i64 s1), (57, (slc pv0_0 (0 : Int).toNat s1.toNat 3)), (58, .int .i64 (x6.length : Int)), (59, .int .i64 (IntKind.i64.wrap (s2 + 1)))]) (S' := St w0 Φ [(b_2, .cells #[.int .i64 x2.Id, .string x2.F.Kind, v1] 142 (0, 0)), (b_1, .cells #[pv0_0, .int .i64 p0.Next] 52 (0, 0))] []) ⟨rfl, rfl, rfl, rfl, rfl, rfl, rfl, rfl, trivial⟩ (fun w1 hw => (hw.sel (js := []) rfl).selO (js := [1, 1]) rfl) ?_)
   exact ih2 (IntKind.i64.wrap (s2 + 1)) h
  replace h := ite_f h c8
  refine WT.exit rfl <| WT.inBlock <| WT.region <| lq (q_add rfl rfl) rfl <| lq (q_move rfl) rfl <| WL.nil ?_
  refine WT.inLoop (WT.mono (l' := [(1, .pointer (some ⟨b_1, 0, none⟩)), (18, pv0_0), (19, .int .i64 (p0.Items.length : Int)), (20, .int .i64 (IntKind.i64.wrap (s1 + 1)))]) (S' := St w0 Φ [(b_1, .cells #[pv0_0, .int .i64 p0.Next] 52 (0, 0))] []) ⟨rfl, rfl, rfl, rfl, trivial⟩ (fun w1 hw => (hw.sel (js := []) rfl).selO (js := [1]) rfl) ?_)
  exact ih1 (IntKind.i64.wrap (s1 + 1)) h
 replace h := ite_f h c3
 refine WT.exit rfl <| WT.seq <| WT.region <| lq (q_assign rfl) rfl <| WL.nil ?_
 refine WT.ret Tryz.func28 (resOk.one rfl) (fun w1 hw => ?_)
 subst hb0
 cases h
 exact post_of_St hw
theorem m_i_hitsIn_ok {Φ : Hp} {w : World} (hΦ : In Φ w) (N : Nat) (p0 : TPat) (p1 : TStore) (p2 : (List TBind)) {pv0_0 : Value} {pG0_0 : List Nat} {pv1_0 : Value} {pG1_0 : List Nat} {pv2 : Value} {pG2 : List Nat} (ph0_0 : RSl RTArg 5 Φ pG0_0 pv0_0 p0.Args) (ph1_0 : RSl RTItem 3 Φ pG1_0 pv1_0 p1.Items) (ph2 : RSl RTBind 4 Φ pG2 pv2 p2) {r : Int} (h : m_i_hitsIn N p0 p1 p2 = some r) :
  Calls Tryz.prog 66 [.agg [.string p0.Kind, pv0_0, .bool p0.Not].toArray, .agg [pv1_0, .int .i64 p1.Next].toArray, pv2].toArray w (Post (.int .i64 r) w) := by
 refine enter Tryz.func66 rfl Tryz.ntmps66 rfl (St.start0 hΦ) ?_
 have pa0_0 : Old ⟨w, [], Φ⟩ pG0_0 := Old.mk hΦ ph0_0.kn (Dj.empty _)
 have pa1_0 : Old ⟨w, [], Φ⟩ pG1_0 := Old.mk hΦ ph1_0.kn (Dj.empty _)
 have pa2 : Old ⟨w, [], Φ⟩ pG2 := Old.mk hΦ ph2.kn (Dj.empty _)
 revert pa0_0 pa1_0 pa2
 generalize hb0 : (⟨w, [], Φ⟩ : Base) = w0
 intro pa0_0 pa1_0 pa2
 unfold m_i_hitsIn at h
 refine WT.seq <| WT.region ?_
 refine ln (n_box (C := #[.string p0.Kind, pv0_0, .bool p0.Not]) rfl rfl) rfl (fun b_1 => ?_)
 refine ln (n_box (C := #[pv1_0, .int .i64 p1.Next]) rfl rfl) rfl (fun b_2 => ?_)
 refine lq (q_assign rfl) rfl <| WL.nil <| WT.seq <| WT.region <| lq (q_assign rfl) rfl <| WL.nil <| WT.seq <| WT.seq <| WT.region <| lq (q_fieldAddr Fld_52_0 rfl) rfl <| lq (q_load1 T1_50 rfl (fun w1 hw => hw.rgO (i := 0) rfl 0 1 [pv1_0] rfl)) rfl <| lq (q_lenR Sl_50 rfl rfl ph1_0) rfl <| lq (q_move rfl) rfl <| WL.nil <| WT.block <| WT.loop <| WT.mono (l' := [(2, pv2), (3, .pointer (some ⟨b_1, 0, none⟩)), (7, .int .i64 0), (13, pv1_0), (14, .int .i64 (p1.Items.length : Int)), (15, .int .i64 0)]) (S' := St w0 Φ [(b_1, .cells #[.string p0.Kind, pv0_0, .bool p0.Not] 114 (0, 0))] []) ⟨rfl, rfl, rfl, rfl, rfl, rfl, trivial⟩ (fun w1 hw => (hw.sel (js := []) rfl).selO (js := [1]) rfl) ?_
 refine loop_ind (σ := Hp × Int × Int) (fun s => [(2, pv2), (3, .pointer (some ⟨b_1, 0, none⟩)), (7, .int .i64 s.2.1), (13, pv1_0), (14, .int .i64 (p1.Items.length : Int)), (15, .int .i64 s.2.2)]) (fun s => St w0 s.1 [(b_1, .cells #[.string p0.Kind, pv0_0, .bool p0.Not] 114 (0, 0))] []) (fun m s => m_i_hitsIn_l1 N p0 p1 p2 m s.2.1 s.2.2 = some r ∧ (RSl RTBind 4 s.1 pG2 pv2 p2) ∧ (RSl RTArg 5 s.1 pG0_0 pv0_0 p0.Args) ∧ (RSl RTItem 3 s.1 pG1_0 pv1_0 p1.Items)) (fun s hm => none_ne (show (none : Option (Int)) = some r from hm.1)) (fun n1 ih1 s hm => ?_) N (Φ, 0, 0) ⟨h, ph2, ph0_0, ph1_0⟩
 obtain ⟨Φ_1, s1, s2⟩ := s
 obtain ⟨h, ph2, ph0_0, ph1_0⟩ := hm
 replace h : m_i_hitsIn_l1 N p0 p1 p2 (n1 + 1) s1 s2 = some r := h
 replace ph2 : RSl RTBind 4 Φ_1 pG2 pv2 p2 := ph2
 replace ph0_0 : RSl RTArg 5 Φ_1 pG0_0 pv0_0 p0.Args := ph0_0
 replace ph1_0 : RSl RTItem 3 Φ_1 pG1_0 pv1_0 p1.Items := ph1_0
 show WT _ _ [(2, pv2), (3, .pointer (some ⟨b_1, 0, none⟩)), (7, .int .i64 s1), (13, pv1_0), (14, .int .i64 (p1.Items.length : Int)), (15, .int .i64 s2)] (St w0 Φ_1 [(b_1, .cells #[.string p0.Kind, pv0_0, .bool p0.Not] 114 (0, 0))] [])
 unfold m_i_hitsIn_l1 at h
 refine WT.seq <| WT.region <| lq (q_lss rfl rfl) rfl <| WL.nil <| WT.seq ?_
 refine WT.cond rfl (fun c1 => ?_) (fun c1 => ?_)
 ·replace h := ite_t h c1
  refine WT.skip <| WT.seq <| WT.block <| WT.seq <| WT.region ?_
  obtain ⟨x1, hx1, h⟩ := bind_some h
  obtain ⟨cs1, F1, -, g1, hb1, hs1, r1⟩ := ph1_0.el (idx_some hx1).2.2
  obtain ⟨v1, G1, rfl, hq1, h1⟩ := r1
  obtain rfl := hq1.symm
  refine lq (q_indexAddr Sl_50 rfl rfl ph1_0 hx1) rfl <| lq (q_loadN Tn_142 rfl (fun w1 hw => (g1.of_eq 0 3 rfl rfl : rg _ _ _ [.int .i64 x1.Id, .string x1.F.Kind, v1]).rangeAt hw.fro) rfl) rfl ?_
  refine ln (n_alloc (C := #[.int .i64 0, .string (⟨#[]⟩ : ByteArray), .slice none 0 0]) Zr_142 rfl) rfl (fun b_3 => ?_)
  refine ls (s_store (i := 0) (vs := [.int .i64 x1.Id, .string x1.F.Kind, v1]) (C' := [.int .i64 x1.Id, .string x1.F.Kind, v1]) (O' := [(b_3, .cells #[.int .i64 x1.Id, .string x1.F.Kind, v1] 142 (0, 0)), (b_1, .cells #[.string p0.Kind, pv0_0, .bool p0.Not] 114 (0, 0))]) Sz_142 rfl rfl rfl rfl rfl rfl ⟨rfl, rfl, h1.one, trivial⟩ rfl rfl) rfl <| WL.nil <| WT.seq <| WT.region <| lq (q_loadN Tn_114 rfl (fun w1 hw => hw.rgO (i := 1) rfl 0 3 [.string p0.Kind, pv0_0, .bool p0.Not] rfl) rfl) rfl ?_
  refine lq (q_fieldAddr Fld_142_1 rfl) rfl <| lq (q_loadN Tn_116 rfl (fun w1 hw => hw.rgO (i := 0) rfl 1 2 [.string x1.F.Kind, v1] rfl) rfl) rfl <| lq (q_move rfl) rfl ?_
  obtain ⟨x2, hx2, h⟩ := bind_some h
  refine lc (k_call (js := []) (R := []) Fun_127 rfl rfl (fun w1 hw ap hl => m_i_MatchPat_ok hw.fro N p0 x1.F p2 ph0_0 h1 ph2  hx2)) rfl (fun v2 Φ_2 F2 q1 => ?_)
  obtain ⟨ap1, fr1, v3, rfl, rfl, h2⟩ := q1
  replace ph2 := ph2.frame RTBind.lasts fr1 (ap1.o pa2)
  replace ph0_0 := ph0_0.frame RTArg.lasts fr1 (ap1.o pa0_0)
  replace ph1_0 := ph1_0.frame RTItem.lasts fr1 (ap1.o pa1_0)
  refine lq (q_move rfl) rfl <| lq (q_extract rfl rfl) rfl <| lq (q_extract rfl rfl) rfl <| lq (q_assign rfl) rfl <| lq (q_assign rfl) rfl <| WL.nil <| WT.seq <| WT.region <| lq (q_move rfl) rfl <| WL.nil ?_
  refine WT.cond rfl (fun c2 => ?_) (fun c2 => ?_)
  ·replace h := ite_t h c2
   refine WT.region <| lq (q_move rfl) rfl <| lq (q_add rfl rfl) rfl <| lq (q_assign rfl) rfl <| WL.nil <| WT.inBlock <| WT.region <| lq (q_add rfl rfl) rfl <| lq (q_move rfl) rfl <| WL.nil ?_
   refine WT.inLoop (WT.mono (l' := [(2, pv2), (3, .pointer (some ⟨b_1, 0, none⟩)), (7, .int .i64 (IntKind.i64.wrap (s1 + 1))), (13, pv1_0), (14, .int .i64 (p1.Items.length : Int)), (15, .int .i64 (IntKind.i64.wrap (s2 + 1)))]) (S' := St w0 Φ_2 [(b_1, .cells #[.string p0.Kind, pv0_0, .bool p0.Not] 114 (0, 0))] []) ⟨rfl, rfl, rfl, rfl, rfl, rfl, trivial⟩ (fun w1 hw => (hw.sel (js := []) rfl).selO (js := [1]) rfl) ?_)
   exact ih1 (Φ_2, IntKind.i64.wrap (s1 + 1), IntKind.i64.wrap (s2 + 1)) ⟨h, ph2, ph0_0, ph1_0⟩
  replace h := ite_f h c2
  refine WT.skip <| WT.inBlock <| WT.region <| lq (q_add rfl rfl) rfl <| lq (q_move rfl) rfl <| WL.nil ?_
  refine WT.inLoop (WT.mono (l' := [(2, pv2), (3, .pointer (some ⟨b_1, 0, none⟩)), (7, .int .i64 s1), (13, pv1_0), (14, .int .i64 (p1.Items.length : Int)), (15, .int .i64 (IntKind.i64.wrap (s2 + 1)))]) (S' := St w0 Φ_2 [(b_1, .cells #[.string p0.Kind, pv0_0, .bool p0.Not] 114 (0, 0))] []) ⟨rfl, rfl, rfl, rfl, rfl, rfl, trivial⟩ (fun w1 hw => (hw.sel (js := []) rfl).selO (js := [1]) rfl) ?_)
  exact ih1 (Φ_2, s1, IntKind.i64.wrap (s2 + 1)) ⟨h, ph2, ph0_0, ph1_0⟩
 replace h := ite_f h c1
 refine WT.exit rfl <| WT.seq <| WT.region <| lq (q_move rfl) rfl <| lq (q_assign rfl) rfl <| WL.nil ?_
 refine WT.ret Tryz.func66 (resOk.one rfl) (fun w1 hw => ?_)
 subst hb0
 cases h
 exact post_of_St hw
theorem m_i_Blocked_ok {Φ : Hp} {w : World} (hΦ : In Φ w) (N : Nat) (p0 : TRule) (p1 : TStore) (p2 : (List TBind)) {pv0_0 : Value} {pG0_0 : List Nat} {pv0_1 : Value} {pG0_1 : List Nat} {pv0_2 : Value} {pG0_2 : List Nat} {pv1_0 : Value} {pG1_0 : List Nat} {pv2 : Value} {pG2 : List Nat} (ph0_0 : RSl RTPat 3 Φ pG0_0 pv0_0 p0.Pats) (ph0_1 : RSl RTCond 11 Φ pG0_1 pv0_1 p0.Conds) (ph0_2 : RSl RTAct 5 Φ pG0_2 pv0_2 p0.Acts) (ph1_0 : RSl RTItem 3 Φ pG1_0 pv1_0 p1.Items) (ph2 : RSl RTBind 4 Φ pG2 pv2 p2) {r : Bool} (h : m_i_Blocked N p0 p1 p2 = some r) :
  Calls Tryz.prog 21 [.agg [.string p0.Name, .int .i64 p0.Sal, pv0_0, pv0_1, pv0_2].toArray, .agg [pv1_0, .int .i64 p1.Next].toArray, pv2].toArray w (Post (.bool r) w) := by
 refine enter Tryz.func21 rfl Tryz.ntmps21 rfl (St.start0 hΦ) ?_
 generalize hb0 : (⟨w, [], Φ⟩ : Base) = w0
 unfold m_i_Blocked at h
 refine WT.seq <| WT.region ?_
 refine ln (n_box (C := #[.string p0.Name, .int .i64 p0.Sal, pv0_0, pv0_1, pv0_2]) rfl rfl) rfl (fun b_1 => ?_)
 refine ln (n_box (C := #[pv1_0, .int .i64 p1.Next]) rfl rfl) rfl (fun b_2 => ?_)
 refine lq (q_assign rfl) rfl <| WL.nil <| WT.seq <| WT.seq <| WT.region <| lq (q_fieldAddr Fld_49_2 rfl) rfl <| lq (q_load1 T1_45 rfl (fun w1 hw => hw.rgO (i := 1) rfl 2 1 [pv0_0] rfl)) rfl <| lq (q_lenR Sl_45 rfl rfl ph0_0) rfl <| lq (q_move rfl) rfl <| WL.nil <| WT.block <| WT.loop <| WT.mono (l' := [(2, pv2), (4, .pointer (some ⟨b_2, 0, none⟩)), (10, pv0_0), (11, .int .i64 (p0.Pats.length : Int)), (12, .int .i64 0)]) (S' := St w0 Φ [(b_2, .cells #[pv1_0, .int .i64 p1.Next] 52 (0, 0))] []) ⟨rfl, rfl, rfl, rfl, rfl, trivial⟩ (fun w1 hw => (hw.sel (js := []) rfl).selO (js := [0]) rfl) ?_
 refine loop_ind (σ := Int) (fun s => [(2, pv2), (4, .pointer (some ⟨b_2, 0, none⟩)), (10, pv0_0), (11, .int .i64 (p0.Pats.length : Int)), (12, .int .i64 s)]) (fun s => St w0 Φ [(b_2, .cells #[pv1_0, .int .i64 p1.Next] 52 (0, 0))] []) (fun m s => m_i_Blocked_l1 N p0 p1 p2 m s = some r) (fun s hm => none_ne (show (none : Option (Bool)) = some r from hm)) (fun n1 ih1 s hm => ?_) N (0) h
 revert hm; revert s; intro s1 hm
 have h : m_i_Blocked_l1 N p0 p1 p2 (n1 + 1) s1 = some r := hm
 show WT _ _ [(2, pv2), (4, .pointer (some ⟨b_2, 0, none⟩)), (10, pv0_0), (11, .int .i64 (p0.Pats.length : Int)), (12, .int .i64 s1)] (St w0 Φ [(b_2, .cells #[pv1_0, .int .i64 p1.Next] 52 (0, 0))] [])
 unfold m_i_Blocked_l1 at h
 refine WT.seq <| WT.region <| lq (q_lss rfl rfl) rfl <| WL.nil <| WT.seq ?_
 refine WT.cond rfl (fun c1 => ?_) (fun c1 => ?_)
 ·replace h := ite_t h c1
  refine WT.skip <| WT.seq <| WT.block <| WT.seq <| WT.region ?_
  obtain ⟨x1, hx1, h⟩ := bind_some h
  obtain ⟨cs1, F1, -, g1, hb1, hs1, r1⟩ := ph0_0.el (idx_some hx1).2.2
  obtain ⟨v1, G1, rfl, hq1, h1⟩ := r1
  obtain rfl := hq1.symm
  refine lq (q_indexAddr Sl_45 rfl rfl ph0_0 hx1) rfl <| lq (q_loadN Tn_114 rfl (fun w1 hw => (g1.of_eq 0 3 rfl rfl : rg _ _ _ [.string x1.Kind, v1, .bool x1.Not]).rangeAt hw.fro) rfl) rfl ?_
  refine ln (n_alloc (C := #[.string (⟨#[]⟩ : ByteArray), .slice none 0 0, .bool false]) Zr_114 rfl) rfl (fun b_3 => ?_)
  refine ls (s_store (i := 0) (vs := [.string x1.Kind, v1, .bool x1.Not]) (C' := [.string x1.Kind, v1, .bool x1.Not]) (O' := [(b_3, .cells #[.string x1.Kind, v1, .bool x1.Not] 114 (0, 0)), (b_2, .cells #[pv1_0, .int .i64 p1.Next] 52 (0, 0))]) Sz_114 rfl rfl rfl rfl rfl rfl ⟨rfl, h1.one, rfl, trivial⟩ rfl rfl) rfl <| WL.nil <| WT.seq <| WT.region <| lq (q_fieldAddr Fld_114_2 rfl) rfl <| lq (q_load1 T1_4 rfl (fun w1 hw => hw.rgO (i := 0) rfl 2 1 [.bool x1.Not] rfl)) rfl ?_
  refine lq (q_move rfl) rfl ?_
  obtain ⟨b1, hb_1, h⟩ := bind_some h
  refine WL.cutN 6 [(24, .bool b1), (2, pv2), (4, .pointer (some ⟨b_2, 0, none⟩)), (10, pv0_0), (11, .int .i64 (p0.Pats.length : Int)), (12, .int .i64 s1)] ?_ (fun K => ?_)
  rotate_left
  ·refine WL.split (d := 18) rfl (fun c2 => ?_) (fun c2 => ?_)
   ·replace hb_1 := ite_t hb_1 c2
    refine WL.yes rfl rfl <| lq (q_loadN Tn_114 rfl (fun w1 hw => hw.rgO (i := 0) rfl 0 3 [.string x1.Kind, v1, .bool x1.Not] rfl) rfl) rfl <| WL.yes rfl rfl <| lq (q_loadN Tn_52 rfl (fun w1 hw => hw.rgO (i := 1) rfl 0 2 [pv1_0, .int .i64 p1.Next] rfl) rfl) rfl <| WL.yes rfl rfl <| lq (q_move rfl) rfl <| WL.yes rfl rfl ?_
    obtain ⟨x2, hx2, hb_1⟩ := bind_some hb_1
    refine lp (p_call Fun_66 rfl (fun w1 hw => m_i_hitsIn_ok hw.fro N x1 p1 p2 h1 ph1_0 ph2 hx2)) rfl <| WL.yes rfl rfl <| lq (q_gtr rfl rfl) rfl <| WL.q (q_pick1 rfl rfl) rfl rfl rfl ?_
    cases hb_1
    exact WL.keep (by exact ⟨rfl, rfl, rfl, rfl, rfl, rfl, trivial⟩) K
   ·replace hb_1 := ite_f hb_1 c2
    refine WL.no rfl rfl rfl rfl <| WL.no rfl rfl rfl rfl <| WL.no rfl rfl rfl rfl <| WL.no rfl rfl rfl rfl <| WL.no rfl rfl rfl rfl <| WL.q (q_pick0 rfl rfl) rfl rfl rfl ?_
    cases hb_1
    exact WL.keep (by exact ⟨rfl, rfl, rfl, rfl, rfl, rfl, trivial⟩) K
  refine WL.nil ?_
  refine WT.cond rfl (fun c3 => ?_) (fun c3 => ?_)
  ·replace h := ite_t h c3
   refine WT.seq <| WT.region <| lq (q_assign rfl) rfl <| WL.nil ?_
   refine WT.ret Tryz.func21 (resOk.one rfl) (fun w1 hw => ?_)
   subst hb0
   cases h
   exact post_of_St hw
  replace h := ite_f h c3
  refine WT.skip <| WT.inBlock <| WT.region <| lq (q_add rfl rfl) rfl <| lq (q_move rfl) rfl <| WL.nil ?_
  refine WT.inLoop (WT.mono (l' := [(2, pv2), (4, .pointer (some ⟨b_2, 0, none⟩)), (10, pv0_0), (11, .int .i64 (p0.Pats.length : Int)), (12, .int .i64 (IntKind.i64.wrap (s1 + 1)))]) (S' := St w0 Φ [(b_2, .cells #[pv1_0, .int .i64 p1.Next] 52 (0, 0))] []) ⟨rfl, rfl, rfl, rfl, rfl, trivial⟩ (fun w1 hw => (hw.sel (js := []) rfl).selO (js := [1]) rfl) ?_)
  exact ih1 (IntKind.i64.wrap (s1 + 1)) h
 replace h := ite_f h c1
 refine WT.exit rfl <| WT.seq <| WT.region <| lq (q_assign rfl) rfl <| WL.nil ?_
 refine WT.ret Tryz.func21 (resOk.one rfl) (fun w1 hw => ?_)
 subst hb0
 cases h
 exact post_of_St hw
theorem m_i_ArgVal_ok {Φ : Hp} {w : World} (hΦ : In Φ w) (N : Nat) (p0 : TArg) (p1 : (List TBind)) {pv1 : Value} {pG1 : List Nat} (ph1 : RSl RTBind 4 Φ pG1 pv1 p1) {r : TVal × Bool} (h : m_i_ArgVal N p0 p1 = some r) :
  Calls Tryz.prog 131 [.agg [.int .i64 p0.K, .string p0.S, .int .i64 p0.V.K, .int .i64 p0.V.N, .string p0.V.S].toArray, pv1].toArray w (Post (.tuple #[.agg [.int .i64 r.1.K, .int .i64 r.1.N, .string r.1.S].toArray, .bool r.2]) w) := by
 refine enter Tryz.func131 rfl Tryz.ntmps131 rfl (St.start0 hΦ) ?_
 unfold m_i_ArgVal at h
 refine WT.seq <| WT.region ?_
 refine ln (n_box (C := #[.int .i64 p0.K, .string p0.S, .int .i64 p0.V.K, .int .i64 p0.V.N, .string p0.V.S]) rfl rfl) rfl (fun b_1 => ?_)
 refine ln (n_alloc (C := #[.int .i64 0, .int .i64 0, .string (⟨#[]⟩ : ByteArray)]) Zr_121 rfl) rfl (fun b_2 => ?_)
 refine lq (q_assign rfl) rfl <| WL.nil <| WT.seq <| WT.seq <| WT.region <| lq (q_fieldAddr Fld_126_0 rfl) rfl <| lq (q_load1 T1_3 rfl (fun w1 hw => hw.rgO (i := 1) rfl 0 1 [.int .i64 p0.K] rfl)) rfl <| WL.nil <| WT.block <| WT.seq <| WT.region <| lq (q_eql rfl rfl) rfl <| lq (q_assign rfl) rfl <| WL.nil ?_
 refine WT.cond rfl (fun c1 => ?_) (fun c1 => ?_)
 ·replace h := ite_t h c1
  refine WT.seq <| WT.region <| lq (q_fieldAddr Fld_126_2 rfl) rfl <| lq (q_loadN Tn_121 rfl (fun w1 hw => hw.rgO (i := 1) rfl 2 3 [.int .i64 p0.V.K, .int .i64 p0.V.N, .string p0.V.S] rfl) rfl) rfl <| ls (s_store (i := 0) (vs := [.int .i64 p0.V.K, .int .i64 p0.V.N, .string p0.V.S]) (C' := [.int .i64 p0.V.K, .int .i64 p0.V.N, .string p0.V.S]) (O' := [(b_2, .cells #[.int .i64 p0.V.K, .int .i64 p0.V.N, .string p0.V.S] 121 (0, 0)), (b_1, .cells #[.int .i64 p0.K, .string p0.S, .int .i64 p0.V.K, .int .i64 p0.V.N, .string p0.V.S] 126 (0, 0))]) Sz_121 rfl rfl rfl rfl rfl rfl ⟨rfl, rfl, rfl, trivial⟩ rfl rfl) rfl ?_
  refine lq (q_assign rfl) rfl <| WL.nil ?_
  refine WT.ret Tryz.func131 (resOk.two (rv_cell Tn_121 rfl (fun w1 hw => hw.rgO (i := 0) rfl 0 3 [.int .i64 p0.V.K, .int .i64 p0.V.N, .string p0.V.S] rfl) rfl) rfl) (fun w1 hw => ?_)
  cases h
  exact post_of_St hw
 replace h := ite_f h c1
 refine WT.seq <| WT.region <| lq (q_eql rfl rfl) rfl <| lq (q_assign rfl) rfl <| WL.nil ?_
 refine WT.cond rfl (fun c2 => ?_) (fun c2 => ?_)
 ·replace h := ite_t h c2
  refine WT.seq <| WT.region <| lq (q_move rfl) rfl <| lq (q_fieldAddr Fld_126_1 rfl) rfl <| lq (q_load1 T1_9 rfl (fun w1 hw => hw.rgO (i := 1) rfl 1 1 [.string p0.S] rfl)) rfl ?_
  obtain ⟨x1, hx1, h⟩ := bind_some h
  refine lp (p_call Fun_188 rfl (fun w1 hw => m_i_BindOf_ok hw.fro N p1 p0.S ph1 hx1)) rfl <| lq (q_extract rfl rfl) rfl <| lq (q_extract rfl rfl) rfl <| ls (s_store (i := 0) (vs := [.int .i64 x1.1.K, .int .i64 x1.1.N, .string x1.1.S]) (C' := [.int .i64 x1.1.K, .int .i64 x1.1.N, .string x1.1.S]) (O' := [(b_2, .cells #[.int .i64 x1.1.K, .int .i64 x1.1.N, .string x1.1.S] 121 (0, 0)), (b_1, .cells #[.int .i64 p0.K, .string p0.S, .int .i64 p0.V.K, .int .i64 p0.V.N, .string p0.V.S] 126 (0, 0))]) Sz_121 rfl rfl rfl rfl rfl rfl ⟨rfl, rfl, rfl, trivial⟩ rfl rfl) rfl ?_
  refine lq (q_assign rfl) rfl <| WL.nil ?_
  refine WT.ret Tryz.func131 (resOk.two (rv_cell Tn_121 rfl (fun w1 hw => hw.rgO (i := 0) rfl 0 3 [.int .i64 x1.1.K, .int .i64 x1.1.N, .string x1.1.S] rfl) rfl) rfl) (fun w1 hw => ?_)
  cases h
  exact post_of_St hw
 replace h := ite_f h c2
 refine WT.skip <| WT.inBlock <| WT.seq <| WT.region <| lq (q_build (vs := []) (C := #[.int .i64 0, .int .i64 0, .string (⟨#[]⟩ : ByteArray)]) Pl_121 Zr_121 rfl (fill_nil)) rfl <| ls (s_store (i := 0) (vs := [.int .i64 0, .int .i64 0, .string (⟨#[]⟩ : ByteArray)]) (C' := [.int .i64 0, .int .i64 0, .string (⟨#[]⟩ : ByteArray)]) (O' := [(b_2, .cells #[.int .i64 0, .int .i64 0, .string (⟨#[]⟩ : ByteArray)] 121 (0, 0)), (b_1, .cells #[.int .i64 p0.K, .string p0.S, .int .i64 p0.V.K, .int .i64 p0.V.N, .string p0.V.S] 126 (0, 0))]) Sz_121 rfl rfl rfl rfl rfl rfl ⟨rfl, rfl, rfl, trivial⟩ rfl rfl) rfl ?_
 refine lq (q_assign rfl) rfl <| WL.nil ?_
 refine WT.ret Tryz.func131 (resOk.two (rv_cell Tn_121 rfl (fun w1 hw => hw.rgO (i := 0) rfl 0 3 [.int .i64 0, .int .i64 0, .string (⟨#[]⟩ : ByteArray)] rfl) rfl) rfl) (fun w1 hw => ?_)
 cases h
 exact post_of_St hw
theorem m_cmp_Or_int_ok {Φ : Hp} {w : World} (hΦ : In Φ w) (N : Nat) (p0 : (List Int)) {pv0 : Value} {pG0 : List Nat} (ph0 : RSl (RI .i64) 1 Φ pG0 pv0 p0) {r : Int} (h : m_cmp_Or_int N p0 = some r) :
  Calls Tryz.prog 146 [pv0].toArray w (Post (.int .i64 r) w) := by
 refine enter Tryz.func146 rfl Tryz.ntmps146 rfl (St.start0 hΦ) ?_
 generalize hb0 : (⟨w, [], Φ⟩ : Base) = w0
 unfold m_cmp_Or_int at h
 refine WT.seq <| WT.region <| lq (q_assign rfl) rfl <| WL.nil <| WT.seq <| WT.region <| lq (q_assign rfl) rfl <| WL.nil <| WT.seq <| WT.seq <| WT.region <| lq (q_move rfl) rfl <| lq (q_lenR Sl_41 rfl rfl ph0) rfl <| lq (q_move rfl) rfl <| WL.nil <| WT.block <| WT.loop <| WT.mono (l' := [(3, .int .i64 0), (6, pv0), (7, .int .i64 (p0.length : Int)), (8, .int .i64 0)]) (S' := St w0 Φ [] []) ⟨rfl, rfl, rfl, rfl, trivial⟩ (fun w1 hw => (hw.sel (js := []) rfl).selO (js := []) rfl) ?_
 refine loop_ind (σ := Int) (fun s => [(3, .int .i64 0), (6, pv0), (7, .int .i64 (p0.length : Int)), (8, .int .i64 s)]) (fun s => St w0 Φ [] []) (fun m s => m_cmp_Or_int_l1 N p0 m s = some r) (fun s hm => none_ne (show (none : Option (Int)) = some r from hm)) (fun n1 ih1 s hm => ?_) N (0) h
 revert hm; revert s; intro s1 hm
 have h : m_cmp_Or_int_l1 N p0 (n1 + 1) s1 = some r := hm
 show WT _ _ [(3, .int .i64 0), (6, pv0), (7, .int .i64 (p0.length : Int)), (8, .int .i64 s1)] (St w0 Φ [] [])
 unfold m_cmp_Or_int_l1 at h
 refine WT.seq <| WT.region <| lq (q_lss rfl rfl) rfl <| WL.nil <| WT.seq ?_
 refine WT.cond rfl (fun c1 => ?_) (fun c1 => ?_)
 ·replace h := ite_t h c1
  refine WT.skip <| WT.seq <| WT.block <| WT.seq <| WT.region ?_
  obtain ⟨x1, hx1, h⟩ := bind_some h
  obtain ⟨cs1, F1, -, g1, hb1, hs1, r1⟩ := ph0.el (idx_some hx1).2.2
  obtain ⟨rfl, -⟩ := r1
  refine lq (q_indexAddr Sl_41 rfl rfl ph0 hx1) rfl <| lq (q_load1 T1_3 rfl (fun w1 hw => (g1.of_eq 0 1 rfl rfl : rg _ _ _ [.int .i64 x1]).rangeAt hw.fro)) rfl <| lq (q_assign rfl) rfl <| WL.nil <| WT.seq <| WT.region <| lq (q_move rfl) rfl <| lq (q_move rfl) rfl <| lq (q_neq rfl rfl) rfl <| WL.nil ?_
  refine WT.cond rfl (fun c2 => ?_) (fun c2 => ?_)
  ·replace h := ite_t h c2
   refine WT.seq <| WT.region <| lq (q_move rfl) rfl <| lq (q_assign rfl) rfl <| WL.nil ?_
   refine WT.ret Tryz.func146 (resOk.one rfl) (fun w1 hw => ?_)
   subst hb0
   cases h
   exact post_of_St hw
  replace h := ite_f h c2
  refine WT.skip <| WT.inBlock <| WT.region <| lq (q_add rfl rfl) rfl <| lq (q_move rfl) rfl <| WL.nil ?_
  refine WT.inLoop (WT.mono (l' := [(3, .int .i64 0), (6, pv0), (7, .int .i64 (p0.length : Int)), (8, .int .i64 (IntKind.i64.wrap (s1 + 1)))]) (S' := St w0 Φ [] []) ⟨rfl, rfl, rfl, rfl, trivial⟩ (fun w1 hw => (hw.sel (js := []) rfl).selO (js := []) rfl) ?_)
  exact ih1 (IntKind.i64.wrap (s1 + 1)) h
 replace h := ite_f h c1
 refine WT.exit rfl <| WT.seq <| WT.region <| lq (q_move rfl) rfl <| lq (q_assign rfl) rfl <| WL.nil ?_
 refine WT.ret Tryz.func146 (resOk.one rfl) (fun w1 hw => ?_)
 subst hb0
 cases h
 exact post_of_St hw
theorem m_cmp_isNaN_int_ok {Φ : Hp} {w : World} (hΦ : In Φ w) (N : Nat) (p0 : Int)   {r : Bool} (h : m_cmp_isNaN_int N p0 = some r) :
  Calls Tryz.prog 200 [.int .i64 p0].toArray w (Post (.bool r) w) := by
 refine enter Tryz.func200 rfl Tryz.ntmps200 rfl (St.start0 hΦ) ?_
 unfold m_cmp_isNaN_int at h
 refine WT.seq <| WT.region <| lq (q_assign rfl) rfl <| WL.nil <| WT.seq <| WT.region <| lq (q_move rfl) rfl <| lq (q_move rfl) rfl <| lq (q_neq rfl rfl) rfl <| lq (q_assign rfl) rfl <| WL.nil ?_
 refine WT.ret Tryz.func200 (resOk.one rfl) (fun w1 hw => ?_)
 cases h
 exact post_of_St hw
theorem m_cmp_Compare_int_ok {Φ : Hp} {w : World} (hΦ : In Φ w) (N : Nat) (p0 : Int) (p1 : Int)   {r : Int} (h : m_cmp_Compare_int N p0 p1 = some r) :
  Calls Tryz.prog 147 [.int .i64 p0, .int .i64 p1].toArray w (Post (.int .i64 r) w) := by
 refine enter Tryz.func147 rfl Tryz.ntmps147 rfl (St.start0 hΦ) ?_
 unfold m_cmp_Compare_int at h
 refine WT.seq <| WT.region <| lq (q_assign rfl) rfl <| WL.nil <| WT.seq <| WT.region <| lq (q_move rfl) rfl ?_
 obtain ⟨x1, hx1, h⟩ := bind_some h
 refine lp (p_call Fun_200 rfl (fun w1 hw => m_cmp_isNaN_int_ok hw.fro N p0 hx1)) rfl <| lq (q_assign rfl) rfl <| WL.nil <| WT.seq <| WT.region <| lq (q_move rfl) rfl ?_
 obtain ⟨x2, hx2, h⟩ := bind_some h
 refine lp (p_call Fun_200 rfl (fun w1 hw => m_cmp_isNaN_int_ok hw.fro N p1 hx2)) rfl <| lq (q_assign rfl) rfl <| WL.nil <| WT.seq <| WT.seq <| WT.region <| lq (q_move rfl) rfl <| WL.nil ?_
 refine WT.cond rfl (fun c1 => ?_) (fun c1 => ?_)
 ·replace h := ite_t h c1
  refine WT.seq <| WT.seq <| WT.region <| lq (q_move rfl) rfl <| WL.nil ?_
  refine WT.cond rfl (fun c2 => ?_) (fun c2 => ?_)
  ·replace h := ite_t h c2
   refine WT.seq <| WT.region <| lq (q_assign rfl) rfl <| WL.nil ?_
   refine WT.ret Tryz.func147 (resOk.one rfl) (fun w1 hw => ?_)
   cases h
   exact post_of_St hw
  replace h := ite_f h c2
  refine WT.skip <| WT.seq <| WT.region <| lq (q_assign rfl) rfl <| WL.nil ?_
  refine WT.ret Tryz.func147 (resOk.one rfl) (fun w1 hw => ?_)
  cases h
  exact post_of_St hw
 replace h := ite_f h c1
 refine WT.skip <| WT.seq <| WT.seq <| WT.region <| lq (q_move rfl) rfl <| WL.nil ?_
 refine WT.cond rfl (fun c3 => ?_) (fun c3 => ?_)
 ·replace h := ite_t h c3
  refine WT.seq <| WT.region <| lq (q_assign rfl) rfl <| WL.nil ?_
  refine WT.ret Tryz.func147 (resOk.one rfl) (fun w1 hw => ?_)
  cases h
  exact post_of_St hw
 replace h := ite_f h c3
 refine WT.skip <| WT.seq <| WT.seq <| WT.region <| lq (q_move rfl) rfl <| lq (q_move rfl) rfl <| lq (q_lss rfl rfl) rfl <| WL.nil ?_
 refine WT.cond rfl (fun c4 => ?_) (fun c4 => ?_)
 ·replace h := ite_t h c4
  refine WT.seq <| WT.region <| lq (q_assign rfl) rfl <| WL.nil ?_
  refine WT.ret Tryz.func147 (resOk.one rfl) (fun w1 hw => ?_)
  cases h
  exact post_of_St hw
 replace h := ite_f h c4
 refine WT.skip <| WT.seq <| WT.seq <| WT.region <| lq (q_move rfl) rfl <| lq (q_move rfl) rfl <| lq (q_gtr rfl rfl) rfl <| WL.nil ?_
 refine WT.cond rfl (fun c5 => ?_) (fun c5 => ?_)
 ·replace h := ite_t h c5
  refine WT.seq <| WT.region <| lq (q_assign rfl) rfl <| WL.nil ?_
  refine WT.ret Tryz.func147 (resOk.one rfl) (fun w1 hw => ?_)
  cases h
  exact post_of_St hw
 replace h := ite_f h c5
 refine WT.skip <| WT.seq <| WT.region <| lq (q_assign rfl) rfl <| WL.nil ?_
 refine WT.ret Tryz.func147 (resOk.one rfl) (fun w1 hw => ?_)
 cases h
 exact post_of_St hw
theorem m_cmp_isNaN_string_ok {Φ : Hp} {w : World} (hΦ : In Φ w) (N : Nat) (p0 : ByteArray)   {r : Bool} (h : m_cmp_isNaN_string N p0 = some r) :
  Calls Tryz.prog 240 [.string p0].toArray w (Post (.bool r) w) := by
 refine enter Tryz.func240 rfl Tryz.ntmps240 rfl (St.start0 hΦ) ?_
 unfold m_cmp_isNaN_string at h
 refine WT.seq <| WT.region <| lq (q_assign rfl) rfl <| WL.nil <| WT.seq <| WT.region <| lq (q_move rfl) rfl <| lq (q_move rfl) rfl <| lq (q_sne rfl rfl) rfl <| lq (q_assign rfl) rfl <| WL.nil ?_
 refine WT.ret Tryz.func240 (resOk.one rfl) (fun w1 hw => ?_)
 cases h
 exact post_of_St hw
theorem m_cmp_Compare_string_ok {Φ : Hp} {w : World} (hΦ : In Φ w) (N : Nat) (p0 : ByteArray) (p1 : ByteArray)   {r : Int} (h : m_cmp_Compare_string N p0 p1 = some r) :
  Calls Tryz.prog 220 [.string p0, .string p1].toArray w (Post (.int .i64 r) w) := by
 refine enter Tryz.func220 rfl Tryz.ntmps220 rfl (St.start0 hΦ) ?_
 unfold m_cmp_Compare_string at h
 refine WT.seq <| WT.region <| lq (q_assign rfl) rfl <| WL.nil <| WT.seq <| WT.region <| lq (q_move rfl) rfl ?_
 obtain ⟨x1, hx1, h⟩ := bind_some h
 refine lp (p_call Fun_240 rfl (fun w1 hw => m_cmp_isNaN_string_ok hw.fro N p0 hx1)) rfl <| lq (q_assign rfl) rfl <| WL.nil <| WT.seq <| WT.region <| lq (q_move rfl) rfl ?_
 obtain ⟨x2, hx2, h⟩ := bind_some h
 refine lp (p_call Fun_240 rfl (fun w1 hw => m_cmp_isNaN_string_ok hw.fro N p1 hx2)) rfl <| lq (q_assign rfl) rfl <| WL.nil <| WT.seq <| WT.seq <| WT.region <| lq (q_move rfl) rfl <| WL.nil ?_
 refine WT.cond rfl (fun c1 => ?_) (fun c1 => ?_)
 ·replace h := ite_t h c1
  refine WT.seq <| WT.seq <| WT.region <| lq (q_move rfl) rfl <| WL.nil ?_
  refine WT.cond rfl (fun c2 => ?_) (fun c2 => ?_)
  ·replace h := ite_t h c2
   refine WT.seq <| WT.region <| lq (q_assign rfl) rfl <| WL.nil ?_
   refine WT.ret Tryz.func220 (resOk.one rfl) (fun w1 hw => ?_)
   cases h
   exact post_of_St hw
  replace h := ite_f h c2
  refine WT.skip <| WT.seq <| WT.region <| lq (q_assign rfl) rfl <| WL.nil ?_
  refine WT.ret Tryz.func220 (resOk.one rfl) (fun w1 hw => ?_)
  cases h
  exact post_of_St hw
 replace h := ite_f h c1
 refine WT.skip <| WT.seq <| WT.seq <| WT.region <| lq (q_move rfl) rfl <| WL.nil ?_
 refine WT.cond rfl (fun c3 => ?_) (fun c3 => ?_)
 ·replace h := ite_t h c3
  refine WT.seq <| WT.region <| lq (q_assign rfl) rfl <| WL.nil ?_
  refine WT.ret Tryz.func220 (resOk.one rfl) (fun w1 hw => ?_)
  cases h
  exact post_of_St hw
 replace h := ite_f h c3
 refine WT.skip <| WT.seq <| WT.seq <| WT.region <| lq (q_move rfl) rfl <| lq (q_move rfl) rfl <| lq (q_slt rfl rfl) rfl <| WL.nil ?_
 refine WT.cond rfl (fun c4 => ?_) (fun c4 => ?_)
 ·replace h := ite_t h c4
  refine WT.seq <| WT.region <| lq (q_assign rfl) rfl <| WL.nil ?_
  refine WT.ret Tryz.func220 (resOk.one rfl) (fun w1 hw => ?_)
  cases h
  exact post_of_St hw
 replace h := ite_f h c4
 refine WT.skip <| WT.seq <| WT.seq <| WT.region <| lq (q_move rfl) rfl <| lq (q_move rfl) rfl <| lq (q_sgt rfl rfl) rfl <| WL.nil ?_
 refine WT.cond rfl (fun c5 => ?_) (fun c5 => ?_)
 ·replace h := ite_t h c5
  refine WT.seq <| WT.region <| lq (q_assign rfl) rfl <| WL.nil ?_
  refine WT.ret Tryz.func220 (resOk.one rfl) (fun w1 hw => ?_)
  cases h
  exact post_of_St hw
 replace h := ite_f h c5
 refine WT.skip <| WT.seq <| WT.region <| lq (q_assign rfl) rfl <| WL.nil ?_
 refine WT.ret Tryz.func220 (resOk.one rfl) (fun w1 hw => ?_)
 cases h
 exact post_of_St hw
theorem m_i_compareVals_ok {Φ : Hp} {w : World} (hΦ : In Φ w) (N : Nat) (p0 : TVal) (p1 : TVal)   {r : Int} (h : m_i_compareVals N p0 p1 = some r) :
  Calls Tryz.prog 190 [.agg [.int .i64 p0.K, .int .i64 p0.N, .string p0.S].toArray, .agg [.int .i64 p1.K, .int .i64 p1.N, .string p1.S].toArray].toArray w (Post (.int .i64 r) w) := by
 refine enter Tryz.func190 rfl Tryz.ntmps190 rfl (St.start0 hΦ) ?_
 unfold m_i_compareVals at h
 refine WT.seq <| WT.region ?_
 refine ln (n_box (C := #[.int .i64 p0.K, .int .i64 p0.N, .string p0.S]) rfl rfl) rfl (fun b_1 => ?_)
 refine ln (n_box (C := #[.int .i64 p1.K, .int .i64 p1.N, .string p1.S]) rfl rfl) rfl (fun b_2 => ?_)
 refine lq (q_assign rfl) rfl <| WL.nil <| WT.seq <| WT.mix (Kn Φ [] [(b_2, .cells #[.int .i64 p1.K, .int .i64 p1.N, .string p1.S] 121 (0, 0)), (b_1, .cells #[.int .i64 p0.K, .int .i64 p0.N, .string p0.S] 121 (0, 0))]) (fun _ => true) mixed (fun _ h => h.drew) <| mq 0 rfl (by kernel_rfl) (fun w1 hw => Kn.of (fun k hk _ _ => by simp at hk) (AllIn.mem ⟨gM 0 rfl, gM 1 rfl, trivial⟩) hw) (q_fieldAddr Fld_121_0 rfl) rfl ?_
 refine mq 1 rfl (by kernel_rfl) (fun w1 hw => Kn.of (fun k hk _ _ => by simp at hk) (AllIn.mem ⟨gM 0 rfl, gM 1 rfl, trivial⟩) hw) (q_load1 T1_3 rfl (fun w1 hw => hw.rgO (i := 1) rfl 0 1 [.int .i64 p0.K] rfl)) rfl <| mq 2 rfl (by kernel_rfl) (fun w1 hw => Kn.of (fun k hk _ _ => by simp at hk) (AllIn.mem ⟨gM 0 rfl, gM 1 rfl, trivial⟩) hw) (q_fieldAddr Fld_121_0 rfl) rfl ?_
 refine mq 3 rfl (by kernel_rfl) (fun w1 hw => Kn.of (fun k hk _ _ => by simp at hk) (AllIn.mem ⟨gM 0 rfl, gM 1 rfl, trivial⟩) hw) (q_load1 T1_3 rfl (fun w1 hw => hw.rgO (i := 0) rfl 0 1 [.int .i64 p1.K] rfl)) rfl <| mq 5 rfl (by kernel_rfl) (fun w1 hw => Kn.of (fun k hk _ _ => by simp at hk) (AllIn.mem ⟨gM 0 rfl, gM 1 rfl, trivial⟩) hw) (q_fieldAddr Fld_121_1 rfl) rfl ?_
 refine mq 6 rfl (by kernel_rfl) (fun w1 hw => Kn.of (fun k hk _ _ => by simp at hk) (AllIn.mem ⟨gM 0 rfl, gM 1 rfl, trivial⟩) hw) (q_load1 T1_3 rfl (fun w1 hw => hw.rgO (i := 1) rfl 1 1 [.int .i64 p0.N] rfl)) rfl <| mq 7 rfl (by kernel_rfl) (fun w1 hw => Kn.of (fun k hk _ _ => by simp at hk) (AllIn.mem ⟨gM 0 rfl, gM 1 rfl, trivial⟩) hw) (q_fieldAddr Fld_121_1 rfl) rfl ?_
 refine mq 8 rfl (by kernel_rfl) (fun w1 hw => Kn.of (fun k hk _ _ => by simp at hk) (AllIn.mem ⟨gM 0 rfl, gM 1 rfl, trivial⟩) hw) (q_load1 T1_3 rfl (fun w1 hw => hw.rgO (i := 0) rfl 1 1 [.int .i64 p1.N] rfl)) rfl <| mq 10 rfl (by kernel_rfl) (fun w1 hw => Kn.of (fun k hk _ _ => by simp at hk) (AllIn.mem ⟨gM 0 rfl, gM 1 rfl, trivial⟩) hw) (q_fieldAddr Fld_121_2 rfl) rfl ?_
 refine mq 11 rfl (by kernel_rfl) (fun w1 hw => Kn.of (fun k hk _ _ => by simp at hk) (AllIn.mem ⟨gM 0 rfl, gM 1 rfl, trivial⟩) hw) (q_load1 T1_9 rfl (fun w1 hw => hw.rgO (i := 1) rfl 2 1 [.string p0.S] rfl)) rfl <| mq 12 rfl (by kernel_rfl) (fun w1 hw => Kn.of (fun k hk _ _ => by simp at hk) (AllIn.mem ⟨gM 0 rfl, gM 1 rfl, trivial⟩) hw) (q_fieldAddr Fld_121_2 rfl) rfl ?_
 refine mq 13 rfl (by kernel_rfl) (fun w1 hw => Kn.of (fun k hk _ _ => by simp at hk) (AllIn.mem ⟨gM 0 rfl, gM 1 rfl, trivial⟩) hw) (q_load1 T1_9 rfl (fun w1 hw => hw.rgO (i := 0) rfl 2 1 [.string p1.S] rfl)) rfl ?_
 obtain ⟨x1, hx1, h⟩ := bind_some h
 refine WM.one 4 (by kernel_rfl) (mp rfl (fun _ w1 hw => Kn.of (fun k hk _ _ => by simp at hk) (AllIn.mem ⟨gM 0 rfl, gM 1 rfl, trivial⟩) hw) (p_call Fun_147 rfl (fun w1 hw => m_cmp_Compare_int_ok hw.fro N p0.K p1.K hx1)) rfl ?_)
 obtain ⟨x2, hx2, h⟩ := bind_some h
 refine WM.one 9 (by kernel_rfl) (mp rfl (fun _ w1 hw => Kn.of (fun k hk _ _ => by simp at hk) (AllIn.mem ⟨gM 0 rfl, gM 1 rfl, trivial⟩) hw) (p_call Fun_147 rfl (fun w1 hw => m_cmp_Compare_int_ok hw.fro N p0.N p1.N hx2)) rfl ?_)
 obtain ⟨x3, hx3, h⟩ := bind_some h
 refine WM.one 14 (by kernel_rfl) (mp rfl (fun _ w1 hw => Kn.of (fun k hk _ _ => by simp at hk) (AllIn.mem ⟨gM 0 rfl, gM 1 rfl, trivial⟩) hw) (p_call Fun_220 rfl (fun w1 hw => m_cmp_Compare_string_ok hw.fro N p0.S p1.S hx3)) rfl ?_)
 have rc1 : RC (RI .i64) 1 Φ ([[], [], []] : List (List Nat)) [.int .i64 x1, .int .i64 x2, .int .i64 x3] ([x1, x2, x3] : List Int) := RC.cons (c := [.int .i64 x1]) (cells := [.int .i64 x2, .int .i64 x3]) ⟨rfl, rfl⟩ rfl (RC.cons (c := [.int .i64 x2]) (cells := [.int .i64 x3]) ⟨rfl, rfl⟩ rfl (RC.cons (c := [.int .i64 x3]) (cells := []) ⟨rfl, rfl⟩ rfl (RC.nil _ _ _)))
 refine WM.one 15 (by kernel_rfl) (me rfl (fun _ v Φx D w1 hq hw => Kn.of (fun k hk _ _ => by simp at hk) (AllIn.mem ⟨gM 0 rfl, gM 1 rfl, trivial⟩) hw) (e_lit (vs := [(0, .int .i64 x1), (1, .int .i64 x2), (2, .int .i64 x3)]) (C := #[.int .i64 x1, .int .i64 x2, .int .i64 x3]) RI.lasts Sl_41 Zr_3 rfl rfl rfl rfl (fill_made MC_3_3 (fill_cons (cells := [.int .i64 0, .int .i64 0, .int .i64 0]) (c := [.int .i64 x1]) (C' := [.int .i64 x1, .int .i64 0, .int .i64 0]) rfl rfl rfl rfl rfl (fill_cons (cells := [.int .i64 x1, .int .i64 0, .int .i64 0]) (c := [.int .i64 x2]) (C' := [.int .i64 x1, .int .i64 x2, .int .i64 0]) rfl rfl rfl rfl rfl (fill_cons (cells := [.int .i64 x1, .int .i64 x2, .int .i64 0]) (c := [.int .i64 x3]) (C' := [.int .i64 x1, .int .i64 x2, .int .i64 x3]) rfl rfl rfl rfl rfl (fill_nil))))) rfl rc1 rfl (by simpa using Kw.nil)) rfl (fun v1 Φ_1 D1 q1 => ?_))
 obtain ⟨fr1, h1⟩ := q1
 replace h1 : OSl (RI .i64) 3 1 Φ_1 [] v1 ([x1, x2, x3] : List Int) := by simpa using h1
 obtain ⟨x4, hx4, h⟩ := bind_some h
 refine WM.one 16 (by kernel_rfl) (mp rfl (fun _ w1 hw => Kn.of (fun k hk _ _ => by simp at hk) (AllIn.mem ⟨gM 0 rfl, gM 1 rfl, trivial⟩) hw) (p_call Fun_146 rfl (fun w1 hw => m_cmp_Or_int_ok hw.fro N ([x1, x2, x3] : List Int) h1.rsl hx4)) rfl ?_)
 refine mq 17 rfl (by kernel_rfl) (fun w1 hw => Kn.of (fun k hk _ _ => by simp at hk) (AllIn.mem ⟨gM 0 rfl, gM 1 rfl, trivial⟩) hw) (q_assign rfl) rfl <| WM.nil (by kernel_rfl) ?_
 refine WT.ret Tryz.func190 (resOk.one rfl) (fun w1 hw => ?_)
 cases h
 exact post_of_St hw
theorem m_i_LessVal_ok {Φ : Hp} {w : World} (hΦ : In Φ w) (N : Nat) (p0 : TVal) (p1 : TVal)   {r : Bool} (h : m_i_LessVal N p0 p1 = some r) :
  Calls Tryz.prog 132 [.agg [.int .i64 p0.K, .int .i64 p0.N, .string p0.S].toArray, .agg [.int .i64 p1.K, .int .i64 p1.N, .string p1.S].toArray].toArray w (Post (.bool r) w) := by
 refine enter Tryz.func132 rfl Tryz.ntmps132 rfl (St.start0 hΦ) ?_
 unfold m_i_LessVal at h
 refine WT.seq <| WT.region ?_
 refine ln (n_box (C := #[.int .i64 p0.K, .int .i64 p0.N, .string p0.S]) rfl rfl) rfl (fun b_1 => ?_)
 refine ln (n_box (C := #[.int .i64 p1.K, .int .i64 p1.N, .string p1.S]) rfl rfl) rfl (fun b_2 => ?_)
 refine lq (q_assign rfl) rfl <| WL.nil <| WT.seq <| WT.region <| lq (q_loadN Tn_121 rfl (fun w1 hw => hw.rgO (i := 1) rfl 0 3 [.int .i64 p0.K, .int .i64 p0.N, .string p0.S] rfl) rfl) rfl <| lq (q_loadN Tn_121 rfl (fun w1 hw => hw.rgO (i := 0) rfl 0 3 [.int .i64 p1.K, .int .i64 p1.N, .string p1.S] rfl) rfl) rfl ?_
 obtain ⟨x1, hx1, h⟩ := bind_some h
 refine lp (p_call Fun_190 rfl (fun w1 hw => m_i_compareVals_ok hw.fro N p0 p1 hx1)) rfl <| lq (q_lss rfl rfl) rfl <| lq (q_assign rfl) rfl <| WL.nil ?_
 refine WT.ret Tryz.func132 (resOk.one rfl) (fun w1 hw => ?_)
 cases h
 exact post_of_St hw
theorem m_i_Holds_ok {Φ : Hp} {w : World} (hΦ : In Φ w) (N : Nat) (p0 : TCond) (p1 : (List TBind)) {pv1 : Value} {pG1 : List Nat} (ph1 : RSl RTBind 4 Φ pG1 pv1 p1) {r : Bool} (h : m_i_Holds N p0 p1 = some r) :
  Calls Tryz.prog 67 [.agg [.int .i64 p0.Op, .int .i64 p0.L.K, .string p0.L.S, .int .i64 p0.L.V.K, .int .i64 p0.L.V.N, .string p0.L.V.S, .int .i64 p0.R.K, .string p0.R.S, .int .i64 p0.R.V.K, .int .i64 p0.R.V.N, .string p0.R.V.S].toArray, pv1].toArray w (Post (.bool r) w) := by
 refine enter Tryz.func67 rfl Tryz.ntmps67 rfl (St.start0 hΦ) ?_
 unfold m_i_Holds at h
 refine WT.seq <| WT.region ?_
 refine ln (n_box (C := #[.int .i64 p0.Op, .int .i64 p0.L.K, .string p0.L.S, .int .i64 p0.L.V.K, .int .i64 p0.L.V.N, .string p0.L.V.S, .int .i64 p0.R.K, .string p0.R.S, .int .i64 p0.R.V.K, .int .i64 p0.R.V.N, .string p0.R.V.S]) rfl rfl) rfl (fun b_1 => ?_)
 refine lq (q_assign rfl) rfl <| WL.nil <| WT.seq <| WT.region <| lq (q_fieldAddr Fld_128_1 rfl) rfl <| lq (q_loadN Tn_126 rfl (fun w1 hw => hw.rgO (i := 0) rfl 1 5 [.int .i64 p0.L.K, .string p0.L.S, .int .i64 p0.L.V.K, .int .i64 p0.L.V.N, .string p0.L.V.S] rfl) rfl) rfl <| lq (q_move rfl) rfl ?_
 obtain ⟨x1, hx1, h⟩ := bind_some h
 refine lp (p_call Fun_131 rfl (fun w1 hw => m_i_ArgVal_ok hw.fro N p0.L p1 ph1 hx1)) rfl <| lq (q_move rfl) rfl <| lq (q_extract rfl rfl) rfl <| lq (q_extract rfl rfl) rfl ?_
 refine ln (n_alloc (C := #[.int .i64 0, .int .i64 0, .string (⟨#[]⟩ : ByteArray)]) Zr_121 rfl) rfl (fun b_2 => ?_)
 refine ls (s_store (i := 0) (vs := [.int .i64 x1.1.K, .int .i64 x1.1.N, .string x1.1.S]) (C' := [.int .i64 x1.1.K, .int .i64 x1.1.N, .string x1.1.S]) (O' := [(b_2, .cells #[.int .i64 x1.1.K, .int .i64 x1.1.N, .string x1.1.S] 121 (0, 0)), (b_1, .cells #[.int .i64 p0.Op, .int .i64 p0.L.K, .string p0.L.S, .int .i64 p0.L.V.K, .int .i64 p0.L.V.N, .string p0.L.V.S, .int .i64 p0.R.K, .string p0.R.S, .int .i64 p0.R.V.K, .int .i64 p0.R.V.N, .string p0.R.V.S] 128 (0, 0))]) Sz_121 rfl rfl rfl rfl rfl rfl ⟨rfl, rfl, rfl, trivial⟩ rfl rfl) rfl ?_
 refine lq (q_assign rfl) rfl <| WL.nil <| WT.seq <| WT.region <| lq (q_fieldAddr Fld_128_2 rfl) rfl <| lq (q_loadN Tn_126 rfl (fun w1 hw => hw.rgO (i := 1) rfl 6 5 [.int .i64 p0.R.K, .string p0.R.S, .int .i64 p0.R.V.K, .int .i64 p0.R.V.N, .string p0.R.V.S] rfl) rfl) rfl <| lq (q_move rfl) rfl ?_
 obtain ⟨x2, hx2, h⟩ := bind_some h
 refine lp (p_call Fun_131 rfl (fun w1 hw => m_i_ArgVal_ok hw.fro N p0.R p1 ph1 hx2)) rfl <| lq (q_move rfl) rfl <| lq (q_extract rfl rfl) rfl <| lq (q_extract rfl rfl) rfl ?_
 refine ln (n_alloc (C := #[.int .i64 0, .int .i64 0, .string (⟨#[]⟩ : ByteArray)]) Zr_121 rfl) rfl (fun b_3 => ?_)
 refine ls (s_store (i := 0) (vs := [.int .i64 x2.1.K, .int .i64 x2.1.N, .string x2.1.S]) (C' := [.int .i64 x2.1.K, .int .i64 x2.1.N, .string x2.1.S]) (O' := [(b_3, .cells #[.int .i64 x2.1.K, .int .i64 x2.1.N, .string x2.1.S] 121 (0, 0)), (b_2, .cells #[.int .i64 x1.1.K, .int .i64 x1.1.N, .string x1.1.S] 121 (0, 0)), (b_1, .cells #[.int .i64 p0.Op, .int .i64 p0.L.K, .string p0.L.S, .int .i64 p0.L.V.K, .int .i64 p0.L.V.N, .string p0.L.V.S, .int .i64 p0.R.K, .string p0.R.S, .int .i64 p0.R.V.K, .int .i64 p0.R.V.N, .string p0.R.V.S] 128 (0, 0))]) Sz_121 rfl rfl rfl rfl rfl rfl ⟨rfl, rfl, rfl, trivial⟩ rfl rfl) rfl ?_
 refine lq (q_assign rfl) rfl <| WL.nil <| WT.seq <| WT.seq <| WT.region <| lq (q_move rfl) rfl <| lq (q_not rfl) rfl <| lq (q_move rfl) rfl ?_
 obtain ⟨b1, hb_1, h⟩ := bind_some h
 refine WL.cutN 3 [(28, .bool b1), (2, .pointer (some ⟨b_1, 0, none⟩)), (5, .pointer (some ⟨b_2, 0, none⟩)), (7, .pointer (some ⟨b_3, 0, none⟩))] ?_ (fun K => ?_)
 rotate_left
 ·refine WL.split (d := 25) rfl (fun c1 => ?_) (fun c1 => ?_)
  ·replace hb_1 := ite_t hb_1 c1
   refine WL.no rfl rfl rfl rfl <| WL.no rfl rfl rfl rfl <| WL.q (q_pick1 rfl rfl) rfl rfl rfl ?_
   cases hb_1
   exact WL.keep (by exact ⟨rfl, rfl, rfl, rfl, trivial⟩) K
  ·replace hb_1 := ite_f hb_1 c1
   refine WL.yes rfl rfl <| lq (q_move rfl) rfl <| WL.yes rfl rfl <| lq (q_not rfl) rfl <| WL.q (q_pick0 rfl rfl) rfl rfl rfl ?_
   cases hb_1
   exact WL.keep (by exact ⟨rfl, rfl, rfl, rfl, trivial⟩) K
 refine WL.nil ?_
 refine WT.cond rfl (fun c2 => ?_) (fun c2 => ?_)
 ·replace h := ite_t h c2
  refine WT.seq <| WT.region <| lq (q_assign rfl) rfl <| WL.nil ?_
  refine WT.ret Tryz.func67 (resOk.one rfl) (fun w1 hw => ?_)
  cases h
  exact post_of_St hw
 replace h := ite_f h c2
 refine WT.skip <| WT.seq <| WT.seq <| WT.region <| lq (q_fieldAddr Fld_128_0 rfl) rfl <| lq (q_load1 T1_3 rfl (fun w1 hw => hw.rgO (i := 2) rfl 0 1 [.int .i64 p0.Op] rfl)) rfl <| WL.nil <| WT.block <| WT.seq <| WT.region <| lq (q_eql rfl rfl) rfl <| lq (q_assign rfl) rfl <| WL.nil ?_
 refine WT.cond rfl (fun c3 => ?_) (fun c3 => ?_)
 ·replace h := ite_t h c3
  refine WT.seq <| WT.region <| lq (q_loadN Tn_121 rfl (fun w1 hw => hw.rgO (i := 1) rfl 0 3 [.int .i64 x1.1.K, .int .i64 x1.1.N, .string x1.1.S] rfl) rfl) rfl <| lq (q_loadN Tn_121 rfl (fun w1 hw => hw.rgO (i := 0) rfl 0 3 [.int .i64 x2.1.K, .int .i64 x2.1.N, .string x2.1.S] rfl) rfl) rfl <| lq (q_eqA EqT_121 rfl rfl rfl (r := eqT_TVal x1.1 x2.1) rfl) rfl <| lq (q_assign rfl) rfl <| WL.nil ?_
  refine WT.ret Tryz.func67 (resOk.one rfl) (fun w1 hw => ?_)
  cases h
  exact post_of_St hw
 replace h := ite_f h c3
 refine WT.seq <| WT.region <| lq (q_eql rfl rfl) rfl <| lq (q_assign rfl) rfl <| WL.nil ?_
 refine WT.cond rfl (fun c4 => ?_) (fun c4 => ?_)
 ·replace h := ite_t h c4
  refine WT.seq <| WT.region <| lq (q_loadN Tn_121 rfl (fun w1 hw => hw.rgO (i := 1) rfl 0 3 [.int .i64 x1.1.K, .int .i64 x1.1.N, .string x1.1.S] rfl) rfl) rfl <| lq (q_loadN Tn_121 rfl (fun w1 hw => hw.rgO (i := 0) rfl 0 3 [.int .i64 x2.1.K, .int .i64 x2.1.N, .string x2.1.S] rfl) rfl) rfl <| lq (q_neA EqT_121 rfl rfl rfl (r := eqT_TVal x1.1 x2.1) rfl) rfl <| lq (q_assign rfl) rfl <| WL.nil ?_
  refine WT.ret Tryz.func67 (resOk.one rfl) (fun w1 hw => ?_)
  cases h
  exact post_of_St hw
 replace h := ite_f h c4
 refine WT.seq <| WT.region <| lq (q_eql rfl rfl) rfl <| lq (q_assign rfl) rfl <| WL.nil ?_
 refine WT.cond rfl (fun c5 => ?_) (fun c5 => ?_)
 ·replace h := ite_t h c5
  refine WT.seq <| WT.region <| lq (q_loadN Tn_121 rfl (fun w1 hw => hw.rgO (i := 1) rfl 0 3 [.int .i64 x1.1.K, .int .i64 x1.1.N, .string x1.1.S] rfl) rfl) rfl <| lq (q_loadN Tn_121 rfl (fun w1 hw => hw.rgO (i := 0) rfl 0 3 [.int .i64 x2.1.K, .int .i64 x2.1.N, .string x2.1.S] rfl) rfl) rfl ?_
  obtain ⟨x3, hx3, h⟩ := bind_some h
  refine lp (p_call Fun_132 rfl (fun w1 hw => m_i_LessVal_ok hw.fro N x1.1 x2.1 hx3)) rfl <| lq (q_assign rfl) rfl <| WL.nil ?_
  refine WT.ret Tryz.func67 (resOk.one rfl) (fun w1 hw => ?_)
  cases h
  exact post_of_St hw
 replace h := ite_f h c5
 refine WT.skip <| WT.inBlock <| WT.seq <| WT.region <| lq (q_assign rfl) rfl <| WL.nil ?_
 refine WT.ret Tryz.func67 (resOk.one rfl) (fun w1 hw => ?_)
 cases h
 exact post_of_St hw
theorem m_i_HoldAll_ok {Φ : Hp} {w : World} (hΦ : In Φ w) (N : Nat) (p0 : (List TCond)) (p1 : (List TBind)) {pv0 : Value} {pG0 : List Nat} {pv1 : Value} {pG1 : List Nat} (ph0 : RSl RTCond 11 Φ pG0 pv0 p0) (ph1 : RSl RTBind 4 Φ pG1 pv1 p1) {r : Bool} (h : m_i_HoldAll N p0 p1 = some r) :
  Calls Tryz.prog 22 [pv0, pv1].toArray w (Post (.bool r) w) := by
 refine enter Tryz.func22 rfl Tryz.ntmps22 rfl (St.start0 hΦ) ?_
 generalize hb0 : (⟨w, [], Φ⟩ : Base) = w0
 unfold m_i_HoldAll at h
 refine WT.seq <| WT.region <| lq (q_assign rfl) rfl <| WL.nil <| WT.seq <| WT.seq <| WT.region <| lq (q_move rfl) rfl <| lq (q_lenR Sl_46 rfl rfl ph0) rfl <| lq (q_move rfl) rfl <| WL.nil <| WT.block <| WT.loop <| WT.mono (l' := [(1, pv1), (7, pv0), (8, .int .i64 (p0.length : Int)), (9, .int .i64 0)]) (S' := St w0 Φ [] []) ⟨rfl, rfl, rfl, rfl, trivial⟩ (fun w1 hw => (hw.sel (js := []) rfl).selO (js := []) rfl) ?_
 refine loop_ind (σ := Int) (fun s => [(1, pv1), (7, pv0), (8, .int .i64 (p0.length : Int)), (9, .int .i64 s)]) (fun s => St w0 Φ [] []) (fun m s => m_i_HoldAll_l1 N p0 p1 m s = some r) (fun s hm => none_ne (show (none : Option (Bool)) = some r from hm)) (fun n1 ih1 s hm => ?_) N (0) h
 revert hm; revert s; intro s1 hm
 have h : m_i_HoldAll_l1 N p0 p1 (n1 + 1) s1 = some r := hm
 show WT _ _ [(1, pv1), (7, pv0), (8, .int .i64 (p0.length : Int)), (9, .int .i64 s1)] (St w0 Φ [] [])
 unfold m_i_HoldAll_l1 at h
 refine WT.seq <| WT.region <| lq (q_lss rfl rfl) rfl <| WL.nil <| WT.seq ?_
 refine WT.cond rfl (fun c1 => ?_) (fun c1 => ?_)
 ·replace h := ite_t h c1
  refine WT.skip <| WT.seq <| WT.block <| WT.seq <| WT.region ?_
  obtain ⟨x1, hx1, h⟩ := bind_some h
  obtain ⟨cs1, F1, -, g1, hb1, hs1, r1⟩ := ph0.el (idx_some hx1).2.2
  obtain ⟨rfl, -⟩ := r1
  refine lq (q_indexAddr Sl_46 rfl rfl ph0 hx1) rfl <| lq (q_loadN Tn_128 rfl (fun w1 hw => (g1.of_eq 0 11 rfl rfl : rg _ _ _ [.int .i64 x1.Op, .int .i64 x1.L.K, .string x1.L.S, .int .i64 x1.L.V.K, .int .i64 x1.L.V.N, .string x1.L.V.S, .int .i64 x1.R.K, .string x1.R.S, .int .i64 x1.R.V.K, .int .i64 x1.R.V.N, .string x1.R.V.S]).rangeAt hw.fro) rfl) rfl ?_
  refine ln (n_alloc (C := #[.int .i64 0, .int .i64 0, .string (⟨#[]⟩ : ByteArray), .int .i64 0, .int .i64 0, .string (⟨#[]⟩ : ByteArray), .int .i64 0, .string (⟨#[]⟩ : ByteArray), .int .i64 0, .int .i64 0, .string (⟨#[]⟩ : ByteArray)]) Zr_128 rfl) rfl (fun b_1 => ?_)
  refine ls (s_store (i := 0) (vs := [.int .i64 x1.Op, .int .i64 x1.L.K, .string x1.L.S, .int .i64 x1.L.V.K, .int .i64 x1.L.V.N, .string x1.L.V.S, .int .i64 x1.R.K, .string x1.R.S, .int .i64 x1.R.V.K, .int .i64 x1.R.V.N, .string x1.R.V.S]) (C' := [.int .i64 x1.Op, .int .i64 x1.L.K, .string x1.L.S, .int .i64 x1.L.V.K, .int .i64 x1.L.V.N, .string x1.L.V.S, .int .i64 x1.R.K, .string x1.R.S, .int .i64 x1.R.V.K, .int .i64 x1.R.V.N, .string x1.R.V.S]) (O' := [(b_1, .cells #[.int .i64 x1.Op, .int .i64 x1.L.K, .string x1.L.S, .int .i64 x1.L.V.K, .int .i64 x1.L.V.N, .string x1.L.V.S, .int .i64 x1.R.K, .string x1.R.S, .int .i64 x1.R.V.K, .int .i64 x1.R.V.N, .string x1.R.V.S] 128 (0, 0))]) Sz_128 rfl rfl rfl rfl rfl rfl ⟨rfl, rfl, rfl, rfl, rfl, rfl, rfl, rfl, rfl, rfl, rfl, trivial⟩ rfl rfl) rfl ?_
  refine WL.nil <| WT.seq <| WT.region <| lq (q_loadN Tn_128 rfl (fun w1 hw => hw.rgO (i := 0) rfl 0 11 [.int .i64 x1.Op, .int .i64 x1.L.K, .string x1.L.S, .int .i64 x1.L.V.K, .int .i64 x1.L.V.N, .string x1.L.V.S, .int .i64 x1.R.K, .string x1.R.S, .int .i64 x1.R.V.K, .int .i64 x1.R.V.N, .string x1.R.V.S] rfl) rfl) rfl <| lq (q_move rfl) rfl ?_
  obtain ⟨x2, hx2, h⟩ := bind_some h
  refine lp (p_call Fun_67 rfl (fun w1 hw => m_i_Holds_ok hw.fro N x1 p1 ph1 hx2)) rfl <| lq (q_not rfl) rfl <| WL.nil ?_
  refine WT.cond rfl (fun c2 => ?_) (fun c2 => ?_)
  ·replace h := ite_t h c2
   refine WT.seq <| WT.region <| lq (q_assign rfl) rfl <| WL.nil ?_
   refine WT.ret Tryz.func22 (resOk.one rfl) (fun w1 hw => ?_)
   subst hb0
   cases h
   exact post_of_St hw
  replace h := ite_f h c2
  refine WT.skip <| WT.inBlock <| WT.region <| lq (q_add rfl rfl) rfl <| lq (q_move rfl) rfl <| WL.nil ?_
  refine WT.inLoop (WT.mono (l' := [(1, pv1), (7, pv0), (8, .int .i64 (p0.length : Int)), (9, .int .i64 (IntKind.i64.wrap (s1 + 1)))]) (S' := St w0 Φ [] []) ⟨rfl, rfl, rfl, rfl, trivial⟩ (fun w1 hw => (hw.sel (js := []) rfl).selO (js := []) rfl) ?_)
  exact ih1 (IntKind.i64.wrap (s1 + 1)) h
 replace h := ite_f h c1
 refine WT.exit rfl <| WT.seq <| WT.region <| lq (q_assign rfl) rfl <| WL.nil ?_
 refine WT.ret Tryz.func22 (resOk.one rfl) (fun w1 hw => ?_)
 subst hb0
 cases h
 exact post_of_St hw
theorem m_sl_Clone_Sint_int_ok {Φ : Hp} {w : World} (hΦ : In Φ w) (N : Nat) (p0 : (List Int)) {pv0 : Value} {pG0 : List Nat} (ph0 : RSl (RI .i64) 1 Φ pG0 pv0 p0) {r : (List Int)} (h : m_sl_Clone_Sint_int N p0 = some r) :
  Calls Tryz.prog 189 [pv0].toArray w (PostG Φ w [] (fun Φ' Fs v => ∃ (sr_0_0 : Value), v = sr_0_0 ∧ Fs = [ob sr_0_0] ∧ OSl (RI .i64) 3 1 Φ' [] sr_0_0 r)) := by
 refine enter Tryz.func189 rfl Tryz.ntmps189 rfl (St.start0 hΦ) ?_
 unfold m_sl_Clone_Sint_int at h
 refine WT.seq <| WT.region <| lq (q_assign rfl) rfl <| WL.nil <| WT.seq <| WT.seq ?_
 rcases RSl.nilOr ph0 with ⟨hxs1, cc1, hv1⟩ | ⟨a1, cc1, hv1⟩
 ·skip
  replace h : some [] = some r := by simpa [hxs1, app] using h
  refine WT.region <| lq (q_move rfl) rfl <| lq (q_eqNil Sl_41 (congrArg some hv1) rfl) rfl <| WL.nil ?_
  refine WT.cond rfl (fun c => ?_) (fun c => by simp at c)
  refine WT.seq <| WT.region <| lq (q_assign rfl) rfl <| WL.nil ?_
  refine WT.ret Tryz.func189 (resOk.one rfl) (fun w1 hw => ?_)
  cases h
  replace hw := hw.addNil
  refine postG_of_St (js := [0]) hw rfl ⟨.slice none 0 0, rfl, rfl, OSl.nil _ _ _ _⟩
 refine WT.region <| lq (q_move rfl) rfl <| lq (q_eqNil Sl_41 (congrArg some hv1) rfl) rfl <| WL.nil ?_
 refine WT.cond rfl (fun c => by simp at c) (fun c => ?_)
 refine WT.skip <| WT.seq <| WT.region ?_
 have rc1 : RC (RI .i64) 1 Φ ([] : List (List Nat)) [] ([] : List Int) := RC.nil _ _ _
 refine le' (e_lit (vs := []) (C := #[]) RI.lasts Sl_41 Zr_3 rfl rfl rfl rfl (fill_made MC_3_0 (fill_nil)) rfl rc1 rfl (by simpa using Kw.nil)) rfl (fun v1 Φ_1 D1 q1 => ?_)
 obtain ⟨fr1, h1⟩ := q1
 replace h1 : OSl (RI .i64) 3 1 Φ_1 [] v1 ([] : List Int) := by simpa using h1
 replace ph0 := ph0.frame RI.lasts fr1 (Dj.empty _)
 refine lq (q_move rfl) rfl ?_
 obtain ⟨x1, hx1, h⟩ := bind_some h
 refine le' (e_appF RI.lasts RI.one RI.flat Sl_41 Ei_3 rfl rfl rfl rfl rfl (js := [0]) (Rr := []) rfl h1 ph0 hx1) rfl (fun v2 Φ_2 D2 q2 => ?_)
 obtain ⟨⟨ap1, fr2⟩, h2⟩ := q2
 refine lq (q_assign rfl) rfl <| WL.nil ?_
 refine WT.ret Tryz.func189 (resOk.one rfl) (fun w1 hw => ?_)
 cases h
 refine postG_of_St (js := [0]) hw rfl ⟨v2, rfl, rfl, h2⟩
theorem m_i_addRows_ok (N : Nat) : ∀ {Φ : Hp} {w : World} (hΦ : In Φ w) (p0 : (List TMatch)) (p1 : TRule) (p2 : TStore) (p3 : (List Int)) (p4 : (List TBind)) {pv0 : Value} {pD0 : List Nat} {pb0 : Nat} {pv1_0 : Value} {pG1_0 : List Nat} {pv1_1 : Value} {pG1_1 : List Nat} {pv1_2 : Value} {pG1_2 : List Nat} {pv2_0 : Value} {pG2_0 : List Nat} {pv3 : Value} {pG3 : List Nat} {pv4 : Value} {pG4 : List Nat} (ph0 : OSl OTMatch 63 3 Φ pD0 pv0 p0) (pp0 : Φ pb0 = some (.cells #[pv0] 59 (0, 0))) (ph1_0 : RSl RTPat 3 Φ pG1_0 pv1_0 p1.Pats) (ph1_1 : RSl RTCond 11 Φ pG1_1 pv1_1 p1.Conds) (ph1_2 : RSl RTAct 5 Φ pG1_2 pv1_2 p1.Acts) (ph2_0 : RSl RTItem 3 Φ pG2_0 pv2_0 p2.Items) (ph3 : RSl (RI .i64) 1 Φ pG3 pv3 p3) (ph4 : RSl RTBind 4 Φ pG4 pv4 p4) (pd1_0 : Dj pG1_0 [[pb0], ob pv0, pD0].flatten) (pd1_1 : Dj pG1_1 [[pb0], ob pv0, pD0].flatten) (pd1_2 : Dj pG1_2 [[pb0], ob pv0, pD0].flatten) (pd2_0 : Dj pG2_0 [[pb0], ob pv0, pD0].flatten) (pd3 : Dj pG3 [[pb0], ob pv0, pD0].flatten) (pd4 : Dj pG4 [[pb0], ob pv0, pD0].flatten) (hB : [[pb0], ob pv0, pD0].flatten.Nodup) (hlt : ∀ k ∈ [[pb0], ob pv0, pD0].flatten, k < w.heap.size) {r : (List TMatch)} (h : m_i_addRows N p0 p1 p2 p3 p4 = some r),
  Calls Tryz.prog 130 [.pointer (some ⟨pb0, 0, none⟩), .agg [.string p1.Name, .int .i64 p1.Sal, pv1_0, pv1_1, pv1_2].toArray, .agg [pv2_0, .int .i64 p2.Next].toArray, pv3, pv4].toArray w (PostG Φ w [[pb0], ob pv0, pD0].flatten (fun Φ' Fs v => ∃ (so_0_0 : Value) (Do_0_0 : List Nat), v = .tuple #[] ∧ Fs = [[pb0], ob so_0_0, Do_0_0] ∧ OSl OTMatch 63 3 Φ' Do_0_0 so_0_0 r ∧ Φ' pb0 = some (.cells #[so_0_0] 59 (0, 0)))) := by
 induction N with
 | zero => intros; rename_i h; simp [m_i_addRows] at h
 | succ N ih =>
 intro Φ w hΦ p0 p1 p2 p3 p4 pv0 pD0 pb0 pv1_0 pG1_0 pv1_1 pG1_1 pv1_2 pG1_2 pv2_0 pG2_0 pv3 pG3 pv4 pG4 ph0 pp0 ph1_0 ph1_1 ph1_2 ph2_0 ph3 ph4 pd1_0 pd1_1 pd1_2 pd2_0 pd3 pd4 hB hlt r h
 refine enter Tryz.func130 rfl Tryz.ntmps130 rfl (St.start hΦ [[pb0], ob pv0, pD0] hB hlt) ?_
 have pa1_0 : Old ⟨w, [[pb0], ob pv0, pD0].flatten, Φ⟩ pG1_0 := Old.mk hΦ ph1_0.kn pd1_0
 have pa1_1 : Old ⟨w, [[pb0], ob pv0, pD0].flatten, Φ⟩ pG1_1 := Old.mk hΦ ph1_1.kn pd1_1
 have pa1_2 : Old ⟨w, [[pb0], ob pv0, pD0].flatten, Φ⟩ pG1_2 := Old.mk hΦ ph1_2.kn pd1_2
 have pa2_0 : Old ⟨w, [[pb0], ob pv0, pD0].flatten, Φ⟩ pG2_0 := Old.mk hΦ ph2_0.kn pd2_0
 have pa3 : Old ⟨w, [[pb0], ob pv0, pD0].flatten, Φ⟩ pG3 := Old.mk hΦ ph3.kn pd3
 have pa4 : Old ⟨w, [[pb0], ob pv0, pD0].flatten, Φ⟩ pG4 := Old.mk hΦ ph4.kn pd4
 revert pa1_0 pa1_1 pa1_2 pa2_0 pa3 pa4
 generalize hb0 : (⟨w, [[pb0], ob pv0, pD0].flatten, Φ⟩ : Base) = w0
 intro pa1_0 pa1_1 pa1_2 pa2_0 pa3 pa4
 unfold m_i_addRows at h
 refine WT.seq <| WT.region ?_
 refine ln (n_box (C := #[.string p1.Name, .int .i64 p1.Sal, pv1_0, pv1_1, pv1_2]) rfl rfl) rfl (fun b_1 => ?_)
 refine ln (n_box (C := #[pv2_0, .int .i64 p2.Next]) rfl rfl) rfl (fun b_2 => ?_)
 refine WL.nil <| WT.seq <| WT.region <| lq (q_loadN Tn_49 rfl (fun w1 hw => hw.rgO (i := 1) rfl 0 5 [.string p1.Name, .int .i64 p1.Sal, pv1_0, pv1_1, pv1_2] rfl) rfl) rfl ?_
 obtain ⟨x1, hx1, h⟩ := bind_some h
 refine lc (k_call (js := []) (R := [[pb0], ob pv0, pD0]) Fun_61 rfl rfl (fun w1 hw ap hl => m_i_pats_ok hw.fro N p1 false ph1_0 ph1_1 ph1_2  hx1)) rfl (fun v1 Φ_1 F1 q1 => ?_)
 obtain ⟨ap1, fr1, v2, D1, rfl, rfl, h1, i1⟩ := q1
 replace ph3 := ph3.frame RI.lasts fr1 (ap1.o pa3)
 replace ph4 := ph4.frame RTBind.lasts fr1 (ap1.o pa4)
 replace ph1_0 := ph1_0.frame RTPat.lasts fr1 (ap1.o pa1_0)
 replace ph1_1 := ph1_1.frame RTCond.lasts fr1 (ap1.o pa1_1)
 replace ph1_2 := ph1_2.frame RTAct.lasts fr1 (ap1.o pa1_2)
 replace ph2_0 := ph2_0.frame RTItem.lasts fr1 (ap1.o pa2_0)
 replace ph0 := ph0.frame OTMatch.lasts fr1 (ap1.r (i := 1) rfl) (ap1.r (i := 2) rfl)
 replace pp0 := fr1 _ _ ((ap1.r (i := 0) rfl) _ (by simp)) pp0
 refine lq (q_assign rfl) rfl <| WL.nil <| WT.seq <| WT.seq <| WT.region <| lq (q_move rfl) rfl <| lq (q_lenR Sl_41 rfl rfl ph3) rfl <| lq (q_move rfl) rfl <| lq (q_lenR Sl_45 rfl rfl h1.rsl) rfl <| lq (q_eql rfl rfl) rfl <| WL.nil ?_
 refine WT.cond rfl (fun c1 => ?_) (fun c1 => ?_)
 ·replace h := ite_t h c1
  refine WT.seq <| WT.seq <| WT.region <| lq (q_loadN Tn_49 rfl (fun w1 hw => hw.rgO (i := 1) rfl 0 5 [.string p1.Name, .int .i64 p1.Sal, pv1_0, pv1_1, pv1_2] rfl) rfl) rfl <| lq (q_loadN Tn_52 rfl (fun w1 hw => hw.rgO (i := 0) rfl 0 2 [pv2_0, .int .i64 p2.Next] rfl) rfl) rfl <| lq (q_move rfl) rfl ?_
  obtain ⟨x2, hx2, h⟩ := bind_some h
  refine lp (p_call Fun_21 rfl (fun w1 hw => m_i_Blocked_ok hw.fro N p1 p2 p4 ph1_0 ph1_1 ph1_2 ph2_0 ph4 hx2)) rfl <| lq (q_not rfl) rfl <| lq (q_move rfl) rfl ?_
  obtain ⟨b1, hb_1, h⟩ := bind_some h
  refine WL.cutN 5 [(32, .bool b1), (0, .pointer (some ⟨pb0, 0, none⟩)), (3, pv3), (4, pv4)] ?_ (fun K => ?_)
  rotate_left
  ·refine WL.split (d := 27) rfl (fun c2 => ?_) (fun c2 => ?_)
   ·replace hb_1 := ite_t hb_1 c2
    refine WL.yes rfl rfl <| lq (q_fieldAddr Fld_49_3 rfl) rfl <| WL.yes rfl rfl <| lq (q_load1 T1_46 rfl (fun w1 hw => hw.rgO (i := 1) rfl 3 1 [pv1_1] rfl)) rfl <| WL.yes rfl rfl <| lq (q_move rfl) rfl <| WL.yes rfl rfl ?_
    obtain ⟨x3, hx3, hb_1⟩ := bind_some hb_1
    refine lp (p_call Fun_22 rfl (fun w1 hw => m_i_HoldAll_ok hw.fro N p1.Conds p4 ph1_1 ph4 hx3)) rfl <| WL.q (q_pick1 rfl rfl) rfl rfl rfl ?_
    cases hb_1
    exact WL.keep (by exact ⟨rfl, rfl, rfl, rfl, trivial⟩) K
   ·replace hb_1 := ite_f hb_1 c2
    refine WL.no rfl rfl rfl rfl <| WL.no rfl rfl rfl rfl <| WL.no rfl rfl rfl rfl <| WL.no rfl rfl rfl rfl <| WL.q (q_pick0 rfl rfl) rfl rfl rfl ?_
    cases hb_1
    exact WL.keep (by exact ⟨rfl, rfl, rfl, rfl, trivial⟩) K
  refine WL.nil ?_
  refine WT.cond rfl (fun c3 => ?_) (fun c3 => ?_)
  ·replace h := ite_t h c3
   refine WT.mix (Kn Φ_1 [pb0] [(b_2, .cells #[pv2_0, .int .i64 p2.Next] 52 (0, 0)), (b_1, .cells #[.string p1.Name, .int .i64 p1.Sal, pv1_0, pv1_1, pv1_2] 49 (0, 0))]) (fun i => match i with | 12 => false | _ => true) mixed (fun _ h => h.drew) <| mq 0 rfl (by kernel_rfl) (fun w1 hw => Kn.of (fun _ _ _ h => h) (AllIn.mem ⟨gM 0 rfl, gM 1 rfl, trivial⟩) hw) (q_move rfl) rfl ?_
   refine mq 1 rfl (by kernel_rfl) (fun w1 hw => Kn.of (fun _ _ _ h => h) (AllIn.mem ⟨gM 0 rfl, gM 1 rfl, trivial⟩) hw) (q_move rfl) rfl <| mq 2 rfl (by kernel_rfl) (fun w1 hw => Kn.of (fun _ _ _ h => h) (AllIn.mem ⟨gM 0 rfl, gM 1 rfl, trivial⟩) hw) (q_nilCheck rfl) rfl <| mq 3 rfl (by kernel_rfl) (fun w1 hw => Kn.of (fun _ _ _ h => h) (AllIn.mem ⟨gM 0 rfl, gM 1 rfl, trivial⟩) hw) (q_load1 T1_59 rfl (fun w1 hw => hw.rg (by simp) ((rg_cells pp0).of_eq 0 1 rfl rfl : rg _ _ _ [pv0]))) rfl ?_
   refine mq 4 rfl (by kernel_rfl) (fun w1 hw => Kn.of (fun _ _ _ h => h) (AllIn.mem ⟨gM 0 rfl, gM 1 rfl, trivial⟩) hw) (q_move rfl) rfl <| mq 6 rfl (by kernel_rfl) (fun w1 hw => Kn.of (fun _ _ _ h => h) (AllIn.mem ⟨gM 0 rfl, gM 1 rfl, trivial⟩) hw) (q_move rfl) rfl ?_
   obtain ⟨x4, hx4, h⟩ := bind_some h
   refine WM.one 5 (by kernel_rfl) (mc rfl (fun _ v Φx D w1 hq hw => Kn.of (fun k hk o ho => hq.2.1 k o ((hq.1.r (i := 1) rfl) k hk) ((fun _ _ _ h => h) k hk o ho)) (AllIn.mem ⟨gM 0 rfl, gM 1 rfl, trivial⟩) hw) (k_call (js := []) (R := [ob v1, [pb0], ob pv0, pD0]) Fun_189 rfl rfl (fun w1 hw ap hl => m_sl_Clone_Sint_int_ok hw.fro N p3 ph3  hx4)) rfl (fun v3 Φ_2 F2 q2 => ?_))
   obtain ⟨ap2, fr2, v4, rfl, rfl, h2⟩ := q2
   replace ph4 := ph4.frame RTBind.lasts fr2 (ap2.o pa4)
   replace ph0 := ph0.frame OTMatch.lasts fr2 (ap2.r (i := 2) rfl) (ap2.r (i := 3) rfl)
   replace pp0 := fr2 _ _ ((ap2.r (i := 1) rfl) _ (by simp)) pp0
   obtain ⟨x5, hx5, h⟩ := bind_some h
   refine WM.one 7 (by kernel_rfl) (mc rfl (fun _ v Φx D w1 hq hw => Kn.of (fun k hk o ho => hq.2.1 k o ((hq.1.r (i := 2) rfl) k hk) ((fun k hk o ho => fr2 k o ((ap2.r (i := 1) rfl) k hk) ((fun _ _ _ h => h) k hk o ho)) k hk o ho)) (AllIn.mem ⟨gM 0 rfl, gM 1 rfl, trivial⟩) hw) (k_call (js := []) (R := [ob v3, ob v1, [pb0], ob pv0, pD0]) Fun_187 rfl rfl (fun w1 hw ap hl => m_sl_Clone_Si_Bind_i_Bind_ok hw.fro N p4 ph4  hx5)) rfl (fun v5 Φ_3 F3 q3 => ?_))
   obtain ⟨ap3, fr3, v6, rfl, rfl, h3⟩ := q3
   replace ph0 := ph0.frame OTMatch.lasts fr3 (ap3.r (i := 3) rfl) (ap3.r (i := 4) rfl)
   replace h2 := h2.frame RI.lasts fr3 (ap3.r (i := 0) rfl) (Dj.nil _)
   replace pp0 := fr3 _ _ ((ap3.r (i := 2) rfl) _ (by simp)) pp0
   refine mq 8 rfl (by kernel_rfl) (fun w1 hw => Kn.of (fun k hk o ho => fr3 k o ((ap3.r (i := 2) rfl) k hk) ((fun k hk o ho => fr2 k o ((ap2.r (i := 1) rfl) k hk) ((fun _ _ _ h => h) k hk o ho)) k hk o ho)) (AllIn.mem ⟨gM 0 rfl, gM 1 rfl, trivial⟩) hw) (q_build (vs := [(1, v3), (2, v5)]) (C := #[.int .i64 0, v3, v5]) Pl_63 Zr_63 rfl (fill_cons (cells := [.int .i64 0, .slice none 0 0, .slice none 0 0]) (c := [v3]) (C' := [.int .i64 0, v3, .slice none 0 0]) rfl (one_cells h2.one) rfl rfl rfl (fill_cons (cells := [.int .i64 0, v3, .slice none 0 0]) (c := [v5]) (C' := [.int .i64 0, v3, v5]) rfl (one_cells h3.one) rfl rfl rfl (fill_nil)))) rfl ?_
   have rc1 : RC OTMatch 3 Φ_3 ([(ob v3 ++ []) ++ ((ob v5 ++ []))] : List (List Nat)) [.int .i64 0, v3, v5] ([(⟨0, x4, x5⟩ : TMatch)] : List TMatch) := RC.cons (c := [.int .i64 0, v3, v5]) (cells := []) ⟨v3, v5, rfl, rfl, h2, h3⟩ rfl (RC.nil _ _ _)
   refine WM.one 9 (by kernel_rfl) (me rfl (fun _ v Φx D w1 hq hw => Kn.of (fun k hk o ho => hq.1 k o (by simp) ((fun k hk o ho => fr3 k o ((ap3.r (i := 2) rfl) k hk) ((fun k hk o ho => fr2 k o ((ap2.r (i := 1) rfl) k hk) ((fun _ _ _ h => h) k hk o ho)) k hk o ho)) k hk o ho)) (AllIn.mem ⟨gM 0 rfl, gM 1 rfl, trivial⟩) hw) (e_lit (vs := [(0, .agg [.int .i64 0, v3, v5].toArray)]) (C := #[.int .i64 0, v3, v5]) OTMatch.lasts Sl_59 Zr_63 rfl rfl rfl rfl (fill_made MC_63_1 (fill_cons (cells := [.int .i64 0, .slice none 0 0, .slice none 0 0]) (c := [.int .i64 0, v3, v5]) (C' := [.int .i64 0, v3, v5]) rfl rfl rfl rfl rfl (fill_nil))) rfl rc1 rfl (RC.kn OTMatch.knows rc1)) rfl (fun v7 Φ_4 D2 q4 => ?_))
   obtain ⟨fr4, h4⟩ := q4
   replace h4 : OSl OTMatch 63 3 Φ_4 ((ob v3 ++ []) ++ ((ob v5 ++ []))) v7 ([(⟨0, x4, x5⟩ : TMatch)] : List TMatch) := by simpa [List.append_assoc] using h4
   replace ph0 := ph0.frame OTMatch.lasts fr4 (Dj.empty _) (Dj.empty _)
   replace pp0 := fr4 _ _ (by simp) pp0
   refine WM.conv (S' := St w0 Φ_4 [(b_2, .cells #[pv2_0, .int .i64 p2.Next] 52 (0, 0)), (b_1, .cells #[.string p1.Name, .int .i64 p1.Sal, pv1_0, pv1_1, pv1_2] 49 (0, 0))] [((ob v3 ++ []) ++ ((ob v5 ++ []))), ob v7, ob v1, [pb0], ob pv0, pD0]) (fun w1 hw => hw.merge (js := [2, 1]) rfl (SP.eq (by simp [List.append_assoc, ob_nil]))) ?_
   obtain ⟨x6, hx6, h⟩ := bind_some h
   refine WM.one 10 (by kernel_rfl) (me rfl (fun _ v Φx D w1 hq hw => Kn.of (fun k hk o ho => hq.1.2 k o ((hq.1.1.r (i := 3) rfl) k hk) ((fun k hk o ho => fr4 k o (by simp) ((fun k hk o ho => fr3 k o ((ap3.r (i := 2) rfl) k hk) ((fun k hk o ho => fr2 k o ((ap2.r (i := 1) rfl) k hk) ((fun _ _ _ h => h) k hk o ho)) k hk o ho)) k hk o ho)) k hk o ho)) (AllIn.mem ⟨gM 0 rfl, gM 1 rfl, trivial⟩) hw) (e_appO OTMatch.lasts OTMatch.one Sl_59 Ei_63 rfl rfl rfl rfl rfl (js := [4]) (Rr := [((ob v3 ++ []) ++ ((ob v5 ++ []))), ob v7, ob v1, [pb0], pD0]) rfl ph0 h4 (fun ap => (ap.r (i := 4) rfl)) (fun ap => (ap.r (i := 0) rfl)) hx6) rfl (fun v8 Φ_5 D3 q5 => ?_))
   obtain ⟨⟨ap4, fr5⟩, h5⟩ := q5
   replace pp0 := fr5 _ _ ((ap4.r (i := 3) rfl) _ (by simp)) pp0
   refine WM.conv (S' := St w0 Φ_5 [(b_2, .cells #[pv2_0, .int .i64 p2.Next] 52 (0, 0)), (b_1, .cells #[.string p1.Name, .int .i64 p1.Sal, pv1_0, pv1_1, pv1_2] 49 (0, 0))] [(pD0 ++ ((ob v3 ++ []) ++ ((ob v5 ++ [])))), ob v8, ob v7, ob v1, [pb0]]) (fun w1 hw => hw.merge (js := [5, 1]) rfl (SP.eq (by simp))) <| mq 11 rfl (by kernel_rfl) (fun w1 hw => Kn.of (fun k hk o ho => fr5 k o ((ap4.r (i := 3) rfl) k hk) ((fun k hk o ho => fr4 k o (by simp) ((fun k hk o ho => fr3 k o ((ap3.r (i := 2) rfl) k hk) ((fun k hk o ho => fr2 k o ((ap2.r (i := 1) rfl) k hk) ((fun _ _ _ h => h) k hk o ho)) k hk o ho)) k hk o ho)) k hk o ho)) (AllIn.mem ⟨gM 0 rfl, gM 1 rfl, trivial⟩) hw) (q_nilCheck rfl) rfl ?_
   refine WM.thw (js := [4]) (R := [(pD0 ++ ((ob v3 ++ []) ++ ((ob v5 ++ [])))), ob v8, ob v7, ob v1]) rfl pp0 (fun Φ_6 ap5 fr6 => ?_)
   replace h5 := h5.frame OTMatch.lasts fr6 (ap5.r (i := 1) rfl) (ap5.r (i := 0) rfl)
   refine WM.one 12 (by kernel_rfl) (ms rfl (fun hc => by cases hc) (s_store (i := 0) (vs := [v8]) (C' := [v8]) (O' := [(pb0, .cells #[v8] 59 (0, 0)), (b_2, .cells #[pv2_0, .int .i64 p2.Next] 52 (0, 0)), (b_1, .cells #[.string p1.Name, .int .i64 p1.Sal, pv1_0, pv1_1, pv1_2] 49 (0, 0))]) Sz_59 rfl rfl rfl (one_cells h5.one) rfl rfl ⟨h5.one, trivial⟩ rfl rfl) rfl ?_)
   refine WM.nil (by kernel_rfl) ?_
   refine WT.frz (js := [0]) (R := [(b_2, .cells #[pv2_0, .int .i64 p2.Next] 52 (0, 0)), (b_1, .cells #[.string p1.Name, .int .i64 p1.Sal, pv1_0, pv1_1, pv1_2] 49 (0, 0))]) rfl (fun Φ_7 fr7 k1 => ?_)
   replace h5 := h5.frame OTMatch.lasts fr7 (Dj.empty _) (Dj.empty _)
   refine WT.ret Tryz.func130 resOk.none (fun w1 hw => ?_)
   subst hb0
   cases h
   refine postG_of_St (js := [0, 1, 0]) hw rfl ⟨v8, (pD0 ++ ((ob v3 ++ []) ++ ((ob v5 ++ [])))), rfl, rfl, h5, k1⟩
  replace h := ite_f h c3
  refine WT.skip ?_
  refine WT.ret Tryz.func130 resOk.none (fun w1 hw => ?_)
  subst hb0
  cases h
  refine postG_of_St (js := [1, 1, 1]) hw rfl ⟨pv0, pD0, rfl, rfl, ph0, pp0⟩
 replace h := ite_f h c1
 refine WT.skip <| WT.seq <| WT.region <| lq (q_fieldAddr Fld_52_0 rfl) rfl <| lq (q_load1 T1_50 rfl (fun w1 hw => hw.rgO (i := 0) rfl 0 1 [pv2_0] rfl)) rfl <| lq (q_lenR Sl_50 rfl rfl ph2_0) rfl <| lq (q_move rfl) rfl <| WL.nil <| WT.block <| WT.loop <| WT.mono (l' := [(0, .pointer (some ⟨pb0, 0, none⟩)), (3, pv3), (4, pv4), (6, .pointer (some ⟨b_1, 0, none⟩)), (7, .pointer (some ⟨b_2, 0, none⟩)), (10, v1), (46, pv2_0), (47, .int .i64 (p2.Items.length : Int)), (48, .int .i64 0)]) (S' := St w0 Φ_1 [(b_2, .cells #[pv2_0, .int .i64 p2.Next] 52 (0, 0)), (b_1, .cells #[.string p1.Name, .int .i64 p1.Sal, pv1_0, pv1_1, pv1_2] 49 (0, 0))] [ob v1, [pb0], ob pv0, pD0]) ⟨rfl, rfl, rfl, rfl, rfl, rfl, rfl, rfl, rfl, trivial⟩ (fun w1 hw => (hw.sel (js := [0, 0, 0, 0]) rfl).selO (js := [0, 0]) rfl) ?_
 refine loop_ind (σ := Hp × (List TMatch) × Value × List Nat × Int) (fun s => [(0, .pointer (some ⟨pb0, 0, none⟩)), (3, pv3), (4, pv4), (6, .pointer (some ⟨b_1, 0, none⟩)), (7, .pointer (some ⟨b_2, 0, none⟩)), (10, v1), (46, pv2_0), (47, .int .i64 (p2.Items.length : Int)), (48, .int .i64 s.2.2.2.2)]) (fun s => St w0 s.1 [(b_2, .cells #[pv2_0, .int .i64 p2.Next] 52 (0, 0)), (b_1, .cells #[.string p1.Name, .int .i64 p1.Sal, pv1_0, pv1_1, pv1_2] 49 (0, 0))] [ob v1, [pb0], ob s.2.2.1, s.2.2.2.1]) (fun m s => m_i_addRows_l1 N p1 p2 p3 p4 (m_i_addRows N) x1 m s.2.1 s.2.2.2.2 = some r ∧ (OSl OTMatch 63 3 s.1 s.2.2.2.1 s.2.2.1 s.2.1) ∧ (OSl RTPat 114 3 s.1 D1 v1 x1) ∧ (s.1 pb0 = some (.cells #[s.2.2.1] 59 (0, 0))) ∧ (RSl (RI .i64) 1 s.1 pG3 pv3 p3) ∧ (RSl RTBind 4 s.1 pG4 pv4 p4) ∧ (RSl RTPat 3 s.1 pG1_0 pv1_0 p1.Pats) ∧ (RSl RTCond 11 s.1 pG1_1 pv1_1 p1.Conds) ∧ (RSl RTAct 5 s.1 pG1_2 pv1_2 p1.Acts) ∧ (RSl RTItem 3 s.1 pG2_0 pv2_0 p2.Items)) (fun s hm => none_ne (show (none : Option ((List TMatch))) = some r from hm.1)) (fun n1 ih1 s hm => ?_) N (Φ_1, p0, pv0, pD0, 0) ⟨h, ph0, h1, pp0, ph3, ph4, ph1_0, ph1_1, ph1_2, ph2_0⟩
 obtain ⟨Φ_8, s1, u1, D4, s2⟩ := s
 obtain ⟨h, k2, h1, k3, ph3, ph4, ph1_0, ph1_1, ph1_2, ph2_0⟩ := hm
 replace h : m_i_addRows_l1 N p1 p2 p3 p4 (m_i_addRows N) x1 (n1 + 1) s1 s2 = some r := h
 replace k2 : OSl OTMatch 63 3 Φ_8 D4 u1 s1 := k2
 replace h1 : OSl RTPat 114 3 Φ_8 D1 v1 x1 := h1
 replace k3 : Φ_8 pb0 = some (.cells #[u1] 59 (0, 0)) := k3
 replace ph3 : RSl (RI .i64) 1 Φ_8 pG3 pv3 p3 := ph3
 replace ph4 : RSl RTBind 4 Φ_8 pG4 pv4 p4 := ph4
 replace ph1_0 : RSl RTPat 3 Φ_8 pG1_0 pv1_0 p1.Pats := ph1_0
 replace ph1_1 : RSl RTCond 11 Φ_8 pG1_1 pv1_1 p1.Conds := ph1_1
 replace ph1_2 : RSl RTAct 5 Φ_8 pG1_2 pv1_2 p1.Acts := ph1_2
 replace ph2_0 : RSl RTItem 3 Φ_8 pG2_0 pv2_0 p2.Items := ph2_0
 show WT _ _ [(0, .pointer (some ⟨pb0, 0, none⟩)), (3, pv3), (4, pv4), (6, .pointer (some ⟨b_1, 0, none⟩)), (7, .pointer (some ⟨b_2, 0, none⟩)), (10, v1), (46, pv2_0), (47, .int .i64 (p2.Items.length : Int)), (48, .int .i64 s2)] (St w0 Φ_8 [(b_2, .cells #[pv2_0, .int .i64 p2.Next] 52 (0, 0)), (b_1, .cells #[.string p1.Name, .int .i64 p1.Sal, pv1_0, pv1_1, pv1_2] 49 (0, 0))] [ob v1, [pb0], ob u1, D4])
 unfold m_i_addRows_l1 at h
 refine WT.seq <| WT.region <| lq (q_lss rfl rfl) rfl <| WL.nil <| WT.seq ?_
 refine WT.cond rfl (fun c4 => ?_) (fun c4 => ?_)
 ·replace h := ite_t h c4
  refine WT.skip <| WT.seq <| WT.block <| WT.seq <| WT.region ?_
  obtain ⟨x7, hx7, h⟩ := bind_some h
  obtain ⟨cs1, F4, -, g1, hb1, hs1, r1⟩ := ph2_0.el (idx_some hx7).2.2
  obtain ⟨v9, G1, rfl, hq1, h6⟩ := r1
  obtain rfl := hq1.symm
  refine lq (q_indexAddr Sl_50 rfl rfl ph2_0 hx7) rfl <| lq (q_loadN Tn_142 rfl (fun w1 hw => (g1.of_eq 0 3 rfl rfl : rg _ _ _ [.int .i64 x7.Id, .string x7.F.Kind, v9]).rangeAt hw.fro) rfl) rfl ?_
  refine ln (n_alloc (C := #[.int .i64 0, .string (⟨#[]⟩ : ByteArray), .slice none 0 0]) Zr_142 rfl) rfl (fun b_3 => ?_)
  refine ls (s_store (i := 0) (vs := [.int .i64 x7.Id, .string x7.F.Kind, v9]) (C' := [.int .i64 x7.Id, .string x7.F.Kind, v9]) (O' := [(b_3, .cells #[.int .i64 x7.Id, .string x7.F.Kind, v9] 142 (0, 0)), (b_2, .cells #[pv2_0, .int .i64 p2.Next] 52 (0, 0)), (b_1, .cells #[.string p1.Name, .int .i64 p1.Sal, pv1_0, pv1_1, pv1_2] 49 (0, 0))]) Sz_142 rfl rfl rfl rfl rfl rfl ⟨rfl, rfl, h6.one, trivial⟩ rfl rfl) rfl ?_
  refine WL.nil <| WT.seq <| WT.mix (Kn Φ_8 (ob v1) [(b_3, .cells #[.int .i64 x7.Id, .string x7.F.Kind, v9] 142 (0, 0)), (b_2, .cells #[pv2_0, .int .i64 p2.Next] 52 (0, 0)), (b_1, .cells #[.string p1.Name, .int .i64 p1.Sal, pv1_0, pv1_1, pv1_2] 49 (0, 0))]) (fun _ => true) mixed (fun _ h => h.drew) <| mq 0 rfl (by kernel_rfl) (fun w1 hw => Kn.of (fun _ _ _ h => h) (AllIn.mem ⟨gM 0 rfl, gM 1 rfl, gM 2 rfl, trivial⟩) hw) (q_move rfl) rfl ?_
  refine mq 1 rfl (by kernel_rfl) (fun w1 hw => Kn.of (fun _ _ _ h => h) (AllIn.mem ⟨gM 0 rfl, gM 1 rfl, gM 2 rfl, trivial⟩) hw) (q_move rfl) rfl <| mq 2 rfl (by kernel_rfl) (fun w1 hw => Kn.of (fun _ _ _ h => h) (AllIn.mem ⟨gM 0 rfl, gM 1 rfl, gM 2 rfl, trivial⟩) hw) (q_lenR Sl_41 rfl rfl ph3) rfl ?_
  obtain ⟨x8, hx8, h⟩ := bind_some h
  obtain ⟨cs2, F5, -, g2, hb2, hs2, r2⟩ := h1.elS (idx_some hx8).2.2
  obtain ⟨v10, G2, rfl, hq2, h7⟩ := r2
  obtain rfl := hq2.symm
  refine mq 3 rfl (by kernel_rfl) (fun w1 hw => Kn.of (fun _ _ _ h => h) (AllIn.mem ⟨gM 0 rfl, gM 1 rfl, gM 2 rfl, trivial⟩) hw) (q_indexAddr Sl_45 rfl rfl h1.rsl hx8) rfl <| mq 4 rfl (by kernel_rfl) (fun w1 hw => Kn.of (fun _ _ _ h => h) (AllIn.mem ⟨gM 0 rfl, gM 1 rfl, gM 2 rfl, trivial⟩) hw) (q_loadN Tn_114 rfl (fun w1 hw => hw.rg hb2 (g2.of_eq 0 3 rfl rfl : rg _ _ _ [.string x8.Kind, v10, .bool x8.Not])) rfl) rfl ?_
  refine mq 5 rfl (by kernel_rfl) (fun w1 hw => Kn.of (fun _ _ _ h => h) (AllIn.mem ⟨gM 0 rfl, gM 1 rfl, gM 2 rfl, trivial⟩) hw) (q_fieldAddr Fld_142_1 rfl) rfl <| mq 6 rfl (by kernel_rfl) (fun w1 hw => Kn.of (fun _ _ _ h => h) (AllIn.mem ⟨gM 0 rfl, gM 1 rfl, gM 2 rfl, trivial⟩) hw) (q_loadN Tn_116 rfl (fun w1 hw => hw.rgO (i := 0) rfl 1 2 [.string x7.F.Kind, v9] rfl) rfl) rfl ?_
  refine mq 7 rfl (by kernel_rfl) (fun w1 hw => Kn.of (fun _ _ _ h => h) (AllIn.mem ⟨gM 0 rfl, gM 1 rfl, gM 2 rfl, trivial⟩) hw) (q_move rfl) rfl ?_
  obtain ⟨x9, hx9, h⟩ := bind_some h
  refine WM.one 8 (by kernel_rfl) (mc rfl (fun _ v Φx D w1 hq hw => Kn.of (fun k hk o ho => hq.2.1 k o ((hq.1.r (i := 0) rfl) k hk) ((fun _ _ _ h => h) k hk o ho)) (AllIn.mem ⟨gM 0 rfl, gM 1 rfl, gM 2 rfl, trivial⟩) hw) (k_call (js := []) (R := [ob v1, [pb0], ob u1, D4]) Fun_127 rfl rfl (fun w1 hw ap hl => m_i_MatchPat_ok hw.fro N x8 x7.F p4 h7 h6 ph4  hx9)) rfl (fun v11 Φ_9 F6 q6 => ?_))
  obtain ⟨ap6, fr8, v12, rfl, rfl, h8⟩ := q6
  replace ph3 := ph3.frame RI.lasts fr8 (ap6.o pa3)
  replace ph4 := ph4.frame RTBind.lasts fr8 (ap6.o pa4)
  replace ph1_0 := ph1_0.frame RTPat.lasts fr8 (ap6.o pa1_0)
  replace ph1_1 := ph1_1.frame RTCond.lasts fr8 (ap6.o pa1_1)
  replace ph1_2 := ph1_2.frame RTAct.lasts fr8 (ap6.o pa1_2)
  replace ph2_0 := ph2_0.frame RTItem.lasts fr8 (ap6.o pa2_0)
  replace h6 := h6.frame RTVal.lasts fr8 (Dj.sub (ap6.o pa2_0) (fun k h => hs1 k h))
  replace k2 := k2.frame OTMatch.lasts fr8 (ap6.r (i := 2) rfl) (ap6.r (i := 3) rfl)
  replace h1 := h1.frame RTPat.lasts fr8 (ap6.r (i := 0) rfl) (Dj.sub (ap6.o pa1_0) i1)
  replace k3 := fr8 _ _ ((ap6.r (i := 1) rfl) _ (by simp)) k3
  refine mq 9 rfl (by kernel_rfl) (fun w1 hw => Kn.of (fun k hk o ho => fr8 k o ((ap6.r (i := 0) rfl) k hk) ((fun _ _ _ h => h) k hk o ho)) (AllIn.mem ⟨gM 0 rfl, gM 1 rfl, gM 2 rfl, trivial⟩) hw) (q_move rfl) rfl <| mq 10 rfl (by kernel_rfl) (fun w1 hw => Kn.of (fun k hk o ho => fr8 k o ((ap6.r (i := 0) rfl) k hk) ((fun _ _ _ h => h) k hk o ho)) (AllIn.mem ⟨gM 0 rfl, gM 1 rfl, gM 2 rfl, trivial⟩) hw) (q_extract rfl rfl) rfl ?_
  refine mq 11 rfl (by kernel_rfl) (fun w1 hw => Kn.of (fun k hk o ho => fr8 k o ((ap6.r (i := 0) rfl) k hk) ((fun _ _ _ h => h) k hk o ho)) (AllIn.mem ⟨gM 0 rfl, gM 1 rfl, gM 2 rfl, trivial⟩) hw) (q_extract rfl rfl) rfl <| mq 12 rfl (by kernel_rfl) (fun w1 hw => Kn.of (fun k hk o ho => fr8 k o ((ap6.r (i := 0) rfl) k hk) ((fun _ _ _ h => h) k hk o ho)) (AllIn.mem ⟨gM 0 rfl, gM 1 rfl, gM 2 rfl, trivial⟩) hw) (q_assign rfl) rfl ?_
  refine mq 13 rfl (by kernel_rfl) (fun w1 hw => Kn.of (fun k hk o ho => fr8 k o ((ap6.r (i := 0) rfl) k hk) ((fun _ _ _ h => h) k hk o ho)) (AllIn.mem ⟨gM 0 rfl, gM 1 rfl, gM 2 rfl, trivial⟩) hw) (q_assign rfl) rfl <| WM.nil (by kernel_rfl) <| WT.seq <| WT.region <| lq (q_move rfl) rfl <| WL.nil ?_
  refine WT.cond rfl (fun c5 => ?_) (fun c5 => ?_)
  ·replace h := ite_t h c5
   refine cut (σ := Hp × (List TMatch) × Value × List Nat) (fun s => [(0, .pointer (some ⟨pb0, 0, none⟩)), (3, pv3), (4, pv4), (6, .pointer (some ⟨b_1, 0, none⟩)), (7, .pointer (some ⟨b_2, 0, none⟩)), (10, v1), (46, pv2_0), (47, .int .i64 (p2.Items.length : Int)), (48, .int .i64 s2)]) (fun s => St w0 s.1 [(b_2, .cells #[pv2_0, .int .i64 p2.Next] 52 (0, 0)), (b_1, .cells #[.string p1.Name, .int .i64 p1.Sal, pv1_0, pv1_1, pv1_2] 49 (0, 0))] [[pb0], ob s.2.2.1, s.2.2.2, ob v1]) (fun s => m_i_addRows_j2 N s2 (m_i_addRows_l1 N p1 p2 p3 p4 (m_i_addRows N) x1 n1) s.2.1 = some r ∧ (OSl RTPat 114 3 s.1 D1 v1 x1) ∧ (OSl OTMatch 63 3 s.1 s.2.2.2 s.2.2.1 s.2.1) ∧ (s.1 pb0 = some (.cells #[s.2.2.1] 59 (0, 0))) ∧ (RSl (RI .i64) 1 s.1 pG3 pv3 p3) ∧ (RSl RTBind 4 s.1 pG4 pv4 p4) ∧ (RSl RTPat 3 s.1 pG1_0 pv1_0 p1.Pats) ∧ (RSl RTCond 11 s.1 pG1_1 pv1_1 p1.Conds) ∧ (RSl RTAct 5 s.1 pG1_2 pv1_2 p1.Acts) ∧ (RSl RTItem 3 s.1 pG2_0 pv2_0 p2.Items)) (fun s hm => ?_) (fun K => ?_)
   ·clear h
    obtain ⟨Φ_14, s3, u2, D8⟩ := s
    obtain ⟨h, h1, k4, k5, ph3, ph4, ph1_0, ph1_1, ph1_2, ph2_0⟩ := hm
    replace h : m_i_addRows_j2 N s2 (m_i_addRows_l1 N p1 p2 p3 p4 (m_i_addRows N) x1 n1) s3 = some r := h
    replace h1 : OSl RTPat 114 3 Φ_14 D1 v1 x1 := h1
    replace k4 : OSl OTMatch 63 3 Φ_14 D8 u2 s3 := k4
    replace k5 : Φ_14 pb0 = some (.cells #[u2] 59 (0, 0)) := k5
    replace ph3 : RSl (RI .i64) 1 Φ_14 pG3 pv3 p3 := ph3
    replace ph4 : RSl RTBind 4 Φ_14 pG4 pv4 p4 := ph4
    replace ph1_0 : RSl RTPat 3 Φ_14 pG1_0 pv1_0 p1.Pats := ph1_0
    replace ph1_1 : RSl RTCond 11 Φ_14 pG1_1 pv1_1 p1.Conds := ph1_1
    replace ph1_2 : RSl RTAct 5 Φ_14 pG1_2 pv1_2 p1.Acts := ph1_2
    replace ph2_0 : RSl RTItem 3 Φ_14 pG2_0 pv2_0 p2.Items := ph2_0
    show WT _ _ [(0, .pointer (some ⟨pb0, 0, none⟩)), (3, pv3), (4, pv4), (6, .pointer (some ⟨b_1, 0, none⟩)), (7, .pointer (some ⟨b_2, 0, none⟩)), (10, v1), (46, pv2_0), (47, .int .i64 (p2.Items.length : Int)), (48, .int .i64 s2)] (St w0 Φ_14 [(b_2, .cells #[pv2_0, .int .i64 p2.Next] 52 (0, 0)), (b_1, .cells #[.string p1.Name, .int .i64 p1.Sal, pv1_0, pv1_1, pv1_2] 49 (0, 0))] [[pb0], ob u2, D8, ob v1])
    unfold m_i_addRows_j2 at h
    refine WT.inBlock <| WT.region <| lq (q_add rfl rfl) rfl <| lq (q_move rfl) rfl <| WL.nil ?_
    refine WT.inLoop (WT.mono (l' := [(0, .pointer (some ⟨pb0, 0, none⟩)), (3, pv3), (4, pv4), (6, .pointer (some ⟨b_1, 0, none⟩)), (7, .pointer (some ⟨b_2, 0, none⟩)), (10, v1), (46, pv2_0), (47, .int .i64 (p2.Items.length : Int)), (48, .int .i64 (IntKind.i64.wrap (s2 + 1)))]) (S' := St w0 Φ_14 [(b_2, .cells #[pv2_0, .int .i64 p2.Next] 52 (0, 0)), (b_1, .cells #[.string p1.Name, .int .i64 p1.Sal, pv1_0, pv1_1, pv1_2] 49 (0, 0))] [ob v1, [pb0], ob u2, D8]) ⟨rfl, rfl, rfl, rfl, rfl, rfl, rfl, rfl, rfl, trivial⟩ (fun w1 hw => (hw.sel (js := [3, 0, 0, 0]) rfl).selO (js := [0, 0]) rfl) ?_)
    exact ih1 (Φ_14, s3, u2, D8, IntKind.i64.wrap (s2 + 1)) ⟨h, k4, h1, k5, ph3, ph4, ph1_0, ph1_1, ph1_2, ph2_0⟩
   refine WT.mix (Kn Φ_9 [] [(b_3, .cells #[.int .i64 x7.Id, .string x7.F.Kind, v9] 142 (0, 0)), (b_2, .cells #[pv2_0, .int .i64 p2.Next] 52 (0, 0)), (b_1, .cells #[.string p1.Name, .int .i64 p1.Sal, pv1_0, pv1_1, pv1_2] 49 (0, 0))]) (fun i => match i with | 10 => false | _ => true) mixed (fun _ h => h.drew) <| mq 0 rfl (by kernel_rfl) (fun w1 hw => Kn.of (fun k hk _ _ => by simp at hk) (AllIn.mem ⟨gM 0 rfl, gM 1 rfl, gM 2 rfl, trivial⟩) hw) (q_move rfl) rfl ?_
   refine mq 1 rfl (by kernel_rfl) (fun w1 hw => Kn.of (fun k hk _ _ => by simp at hk) (AllIn.mem ⟨gM 0 rfl, gM 1 rfl, gM 2 rfl, trivial⟩) hw) (q_loadN Tn_49 rfl (fun w1 hw => hw.rgO (i := 2) rfl 0 5 [.string p1.Name, .int .i64 p1.Sal, pv1_0, pv1_1, pv1_2] rfl) rfl) rfl <| mq 2 rfl (by kernel_rfl) (fun w1 hw => Kn.of (fun k hk _ _ => by simp at hk) (AllIn.mem ⟨gM 0 rfl, gM 1 rfl, gM 2 rfl, trivial⟩) hw) (q_loadN Tn_52 rfl (fun w1 hw => hw.rgO (i := 1) rfl 0 2 [pv2_0, .int .i64 p2.Next] rfl) rfl) rfl ?_
   refine mq 9 rfl (by kernel_rfl) (fun w1 hw => Kn.of (fun k hk _ _ => by simp at hk) (AllIn.mem ⟨gM 0 rfl, gM 1 rfl, gM 2 rfl, trivial⟩) hw) (q_move rfl) rfl <| mqT 3 [4, 8, 10] rfl (by kernel_rfl) (fun w1 hw => Kn.of (fun k hk _ _ => by simp at hk) (AllIn.mem ⟨gM 0 rfl, gM 1 rfl, gM 2 rfl, trivial⟩) hw) (q_move rfl) rfl ?_
   refine mqT 5 [6, 7, 8, 10] rfl (by kernel_rfl) (fun w1 hw => Kn.of (fun k hk _ _ => by simp at hk) (AllIn.mem ⟨gM 0 rfl, gM 1 rfl, gM 2 rfl, trivial⟩) hw) (q_fieldAddr Fld_142_0 rfl) rfl <| mqT 6 [7, 8, 10] rfl (by kernel_rfl) (fun w1 hw => Kn.of (fun k hk _ _ => by simp at hk) (AllIn.mem ⟨gM 0 rfl, gM 1 rfl, gM 2 rfl, trivial⟩) hw) (q_load1 T1_3 rfl (fun w1 hw => hw.rgO (i := 0) rfl 0 1 [.int .i64 x7.Id] rfl)) rfl ?_
   refine WM.two 4 7 (by kernel_rfl) ?_ ?_
   ·skip
    obtain ⟨x13, hx13, h⟩ := bind_some h
    refine mc rfl (fun _ v Φx D w1 hq hw => Kn.of (fun k hk _ _ => by simp at hk) (AllIn.mem ⟨gM 0 rfl, gM 1 rfl, gM 2 rfl, trivial⟩) hw) (k_call (js := []) (R := [ob v12, ob v1, [pb0], ob u1, D4]) Fun_189 rfl rfl (fun w1 hw ap hl => m_sl_Clone_Sint_int_ok hw.fro N p3 ph3  hx13)) rfl (fun v19 Φ_15 F9 q11 => ?_)
    obtain ⟨ap10, fr13, v20, rfl, rfl, h14⟩ := q11
    replace ph3 := ph3.frame RI.lasts fr13 (ap10.o pa3)
    replace ph4 := ph4.frame RTBind.lasts fr13 (ap10.o pa4)
    replace ph1_0 := ph1_0.frame RTPat.lasts fr13 (ap10.o pa1_0)
    replace ph1_1 := ph1_1.frame RTCond.lasts fr13 (ap10.o pa1_1)
    replace ph1_2 := ph1_2.frame RTAct.lasts fr13 (ap10.o pa1_2)
    replace ph2_0 := ph2_0.frame RTItem.lasts fr13 (ap10.o pa2_0)
    replace k2 := k2.frame OTMatch.lasts fr13 (ap10.r (i := 3) rfl) (ap10.r (i := 4) rfl)
    replace h1 := h1.frame RTPat.lasts fr13 (ap10.r (i := 1) rfl) (Dj.sub (ap10.o pa1_0) i1)
    replace h8 := h8.frame RTBind.lasts fr13 (ap10.r (i := 0) rfl) (Dj.nil _)
    replace k3 := fr13 _ _ ((ap10.r (i := 2) rfl) _ (by simp)) k3
    have rc3 : RC (RI .i64) 1 Φ_15 ([[]] : List (List Nat)) [.int .i64 x7.Id] ([x7.Id] : List Int) := RC.cons (c := [.int .i64 x7.Id]) (cells := []) ⟨rfl, rfl⟩ rfl (RC.nil _ _ _)
    refine WM.one 7 (by kernel_rfl) (me rfl (fun _ v Φx D w1 hq hw => Kn.of (fun k hk _ _ => by simp at hk) (AllIn.mem ⟨gM 0 rfl, gM 1 rfl, gM 2 rfl, trivial⟩) hw) (e_lit (vs := [(0, .int .i64 x7.Id)]) (C := #[.int .i64 x7.Id]) RI.lasts Sl_41 Zr_3 rfl rfl rfl rfl (fill_made MC_3_1 (fill_cons (cells := [.int .i64 0]) (c := [.int .i64 x7.Id]) (C' := [.int .i64 x7.Id]) rfl rfl rfl rfl rfl (fill_nil))) rfl rc3 rfl (by simpa using Kw.nil)) rfl (fun v21 Φ_16 D9 q12 => ?_))
    obtain ⟨fr14, h15⟩ := q12
    replace h15 : OSl (RI .i64) 3 1 Φ_16 [] v21 ([x7.Id] : List Int) := by simpa using h15
    replace ph3 := ph3.frame RI.lasts fr14 (Dj.empty _)
    replace ph4 := ph4.frame RTBind.lasts fr14 (Dj.empty _)
    replace ph1_0 := ph1_0.frame RTPat.lasts fr14 (Dj.empty _)
    replace ph1_1 := ph1_1.frame RTCond.lasts fr14 (Dj.empty _)
    replace ph1_2 := ph1_2.frame RTAct.lasts fr14 (Dj.empty _)
    replace ph2_0 := ph2_0.frame RTItem.lasts fr14 (Dj.empty _)
    replace k2 := k2.frame OTMatch.lasts fr14 (Dj.empty _) (Dj.empty _)
    replace h1 := h1.frame RTPat.lasts fr14 (Dj.empty _) (Dj.empty _)
    replace h8 := h8.frame RTBind.lasts fr14 (Dj.empty _) (Dj.empty _)
    replace h14 := h14.frame RI.lasts fr14 (Dj.empty _) (Dj.empty _)
    replace k3 := fr14 _ _ (by simp) k3
    obtain ⟨x14, hx14, h⟩ := bind_some h
    refine WM.one 8 (by kernel_rfl) (me rfl (fun _ v Φx D w1 hq hw => Kn.of (fun k hk _ _ => by simp at hk) (AllIn.mem ⟨gM 0 rfl, gM 1 rfl, gM 2 rfl, trivial⟩) hw) (e_appF RI.lasts RI.one RI.flat Sl_41 Ei_3 rfl rfl rfl rfl rfl (js := [1]) (Rr := [ob v21, ob v12, ob v1, [pb0], ob u1, D4]) rfl h14 h15.rsl hx14) rfl (fun v22 Φ_17 D10 q13 => ?_))
    obtain ⟨⟨ap11, fr15⟩, h16⟩ := q13
    replace ph3 := ph3.frame RI.lasts fr15 (ap11.o pa3)
    replace ph4 := ph4.frame RTBind.lasts fr15 (ap11.o pa4)
    replace ph1_0 := ph1_0.frame RTPat.lasts fr15 (ap11.o pa1_0)
    replace ph1_1 := ph1_1.frame RTCond.lasts fr15 (ap11.o pa1_1)
    replace ph1_2 := ph1_2.frame RTAct.lasts fr15 (ap11.o pa1_2)
    replace ph2_0 := ph2_0.frame RTItem.lasts fr15 (ap11.o pa2_0)
    replace k2 := k2.frame OTMatch.lasts fr15 (ap11.r (i := 4) rfl) (ap11.r (i := 5) rfl)
    replace h1 := h1.frame RTPat.lasts fr15 (ap11.r (i := 2) rfl) (Dj.sub (ap11.o pa1_0) i1)
    replace h8 := h8.frame RTBind.lasts fr15 (ap11.r (i := 1) rfl) (Dj.nil _)
    replace k3 := fr15 _ _ ((ap11.r (i := 3) rfl) _ (by simp)) k3
    obtain ⟨x15, hx15, h⟩ := bind_some h
    refine WM.one 10 (by kernel_rfl) (mc rfl (fun hc => by cases hc) (k_call (js := [4, 4, 4]) (R := [ob v22, ob v21, ob v12, ob v1]) Fun_130 rfl rfl (fun w1 hw ap hl => ih hw.fro s1 p1 p2 x14 x9.1 k2 k3 ph1_0 ph1_1 ph1_2 ph2_0 h16.rsl h8.rsl (ap.o pa1_0) (ap.o pa1_1) (ap.o pa1_2) (ap.o pa2_0) (Dj.app (ap.r (i := 0) rfl) (Dj.nil _)) (Dj.app (ap.r (i := 2) rfl) (Dj.nil _)) ap.nd hl hx15)) rfl (fun v23 Φ_18 F10 q14 => ?_))
    obtain ⟨ap12, fr16, v24, D11, rfl, rfl, h17, h18⟩ := q14
    replace ph3 := ph3.frame RI.lasts fr16 (ap12.o pa3)
    replace ph4 := ph4.frame RTBind.lasts fr16 (ap12.o pa4)
    replace ph1_0 := ph1_0.frame RTPat.lasts fr16 (ap12.o pa1_0)
    replace ph1_1 := ph1_1.frame RTCond.lasts fr16 (ap12.o pa1_1)
    replace ph1_2 := ph1_2.frame RTAct.lasts fr16 (ap12.o pa1_2)
    replace ph2_0 := ph2_0.frame RTItem.lasts fr16 (ap12.o pa2_0)
    replace h1 := h1.frame RTPat.lasts fr16 (ap12.r (i := 3) rfl) (Dj.sub (ap12.o pa1_0) i1)
    refine WM.nil (by kernel_rfl) <| WT.mono (l' := [(0, .pointer (some ⟨pb0, 0, none⟩)), (3, pv3), (4, pv4), (6, .pointer (some ⟨b_1, 0, none⟩)), (7, .pointer (some ⟨b_2, 0, none⟩)), (10, v1), (46, pv2_0), (47, .int .i64 (p2.Items.length : Int)), (48, .int .i64 s2)]) (S' := St w0 Φ_18 [(b_2, .cells #[pv2_0, .int .i64 p2.Next] 52 (0, 0)), (b_1, .cells #[.string p1.Name, .int .i64 p1.Sal, pv1_0, pv1_1, pv1_2] 49 (0, 0))] [[pb0], ob v24, D11, ob v1]) ⟨rfl, rfl, rfl, rfl, rfl, rfl, rfl, rfl, rfl, trivial⟩ (fun w1 hw => (hw.sel (js := [0, 0, 0, 3]) rfl).selO (js := [1, 1]) rfl) ?_
    exact K (Φ_18, x15, v24, D11) ⟨h, h1, h17, h18, ph3, ph4, ph1_0, ph1_1, ph1_2, ph2_0⟩
   have rc4 : RC (RI .i64) 1 Φ_9 ([[]] : List (List Nat)) [.int .i64 x7.Id] ([x7.Id] : List Int) := RC.cons (c := [.int .i64 x7.Id]) (cells := []) ⟨rfl, rfl⟩ rfl (RC.nil _ _ _)
   refine me rfl (fun _ v Φx D w1 hq hw => Kn.of (fun k hk _ _ => by simp at hk) (AllIn.mem ⟨gM 0 rfl, gM 1 rfl, gM 2 rfl, trivial⟩) hw) (e_lit (vs := [(0, .int .i64 x7.Id)]) (C := #[.int .i64 x7.Id]) RI.lasts Sl_41 Zr_3 rfl rfl rfl rfl (fill_made MC_3_1 (fill_cons (cells := [.int .i64 0]) (c := [.int .i64 x7.Id]) (C' := [.int .i64 x7.Id]) rfl rfl rfl rfl rfl (fill_nil))) rfl rc4 rfl (by simpa using Kw.nil)) rfl (fun v25 Φ_19 D12 q15 => ?_)
   obtain ⟨fr17, h19⟩ := q15
   replace h19 : OSl (RI .i64) 3 1 Φ_19 [] v25 ([x7.Id] : List Int) := by simpa using h19
   replace ph3 := ph3.frame RI.lasts fr17 (Dj.empty _)
   replace ph4 := ph4.frame RTBind.lasts fr17 (Dj.empty _)
   replace ph1_0 := ph1_0.frame RTPat.lasts fr17 (Dj.empty _)
   replace ph1_1 := ph1_1.frame RTCond.lasts fr17 (Dj.empty _)
   replace ph1_2 := ph1_2.frame RTAct.lasts fr17 (Dj.empty _)
   replace ph2_0 := ph2_0.frame RTItem.lasts fr17 (Dj.empty _)
   replace k2 := k2.frame OTMatch.lasts fr17 (Dj.empty _) (Dj.empty _)
   replace h1 := h1.frame RTPat.lasts fr17 (Dj.empty _) (Dj.empty _)
   replace h8 := h8.frame RTBind.lasts fr17 (Dj.empty _) (Dj.empty _)
   replace k3 := fr17 _ _ (by simp) k3
   obtain ⟨x16, hx16, h⟩ := bind_some h
   refine WM.one 4 (by kernel_rfl) (mc rfl (fun _ v Φx D w1 hq hw => Kn.of (fun k hk _ _ => by simp at hk) (AllIn.mem ⟨gM 0 rfl, gM 1 rfl, gM 2 rfl, trivial⟩) hw) (k_call (js := []) (R := [ob v25, ob v12, ob v1, [pb0], ob u1, D4]) Fun_189 rfl rfl (fun w1 hw ap hl => m_sl_Clone_Sint_int_ok hw.fro N p3 ph3  hx16)) rfl (fun v26 Φ_20 F11 q16 => ?_))
   obtain ⟨ap13, fr18, v27, rfl, rfl, h20⟩ := q16
   replace ph3 := ph3.frame RI.lasts fr18 (ap13.o pa3)
   replace ph4 := ph4.frame RTBind.lasts fr18 (ap13.o pa4)
   replace ph1_0 := ph1_0.frame RTPat.lasts fr18 (ap13.o pa1_0)
   replace ph1_1 := ph1_1.frame RTCond.lasts fr18 (ap13.o pa1_1)
   replace ph1_2 := ph1_2.frame RTAct.lasts fr18 (ap13.o pa1_2)
   replace ph2_0 := ph2_0.frame RTItem.lasts fr18 (ap13.o pa2_0)
   replace k2 := k2.frame OTMatch.lasts fr18 (ap13.r (i := 4) rfl) (ap13.r (i := 5) rfl)
   replace h1 := h1.frame RTPat.lasts fr18 (ap13.r (i := 2) rfl) (Dj.sub (ap13.o pa1_0) i1)
   replace h19 := h19.frame RI.lasts fr18 (ap13.r (i := 0) rfl) (Dj.nil _)
   replace h8 := h8.frame RTBind.lasts fr18 (ap13.r (i := 1) rfl) (Dj.nil _)
   replace k3 := fr18 _ _ ((ap13.r (i := 3) rfl) _ (by simp)) k3
   obtain ⟨x17, hx17, h⟩ := bind_some h
   refine WM.one 8 (by kernel_rfl) (me rfl (fun _ v Φx D w1 hq hw => Kn.of (fun k hk _ _ => by simp at hk) (AllIn.mem ⟨gM 0 rfl, gM 1 rfl, gM 2 rfl, trivial⟩) hw) (e_appF RI.lasts RI.one RI.flat Sl_41 Ei_3 rfl rfl rfl rfl rfl (js := [0]) (Rr := [ob v25, ob v12, ob v1, [pb0], ob u1, D4]) rfl h20 h19.rsl hx17) rfl (fun v28 Φ_21 D13 q17 => ?_))
   obtain ⟨⟨ap14, fr19⟩, h21⟩ := q17
   replace ph3 := ph3.frame RI.lasts fr19 (ap14.o pa3)
   replace ph4 := ph4.frame RTBind.lasts fr19 (ap14.o pa4)
   replace ph1_0 := ph1_0.frame RTPat.lasts fr19 (ap14.o pa1_0)
   replace ph1_1 := ph1_1.frame RTCond.lasts fr19 (ap14.o pa1_1)
   replace ph1_2 := ph1_2.frame RTAct.lasts fr19 (ap14.o pa1_2)
   replace ph2_0 := ph2_0.frame RTItem.lasts fr19 (ap14.o pa2_0)
   replace k2 := k2.frame OTMatch.lasts fr19 (ap14.r (i := 4) rfl) (ap14.r (i := 5) rfl)
   replace h1 := h1.frame RTPat.lasts fr19 (ap14.r (i := 2) rfl) (Dj.sub (ap14.o pa1_0) i1)
   replace h8 := h8.frame RTBind.lasts fr19 (ap14.r (i := 1) rfl) (Dj.nil _)
   replace k3 := fr19 _ _ ((ap14.r (i := 3) rfl) _ (by simp)) k3
   obtain ⟨x18, hx18, h⟩ := bind_some h
   refine WM.one 10 (by kernel_rfl) (mc rfl (fun hc => by cases hc) (k_call (js := [4, 4, 4]) (R := [ob v28, ob v25, ob v12, ob v1]) Fun_130 rfl rfl (fun w1 hw ap hl => ih hw.fro s1 p1 p2 x17 x9.1 k2 k3 ph1_0 ph1_1 ph1_2 ph2_0 h21.rsl h8.rsl (ap.o pa1_0) (ap.o pa1_1) (ap.o pa1_2) (ap.o pa2_0) (Dj.app (ap.r (i := 0) rfl) (Dj.nil _)) (Dj.app (ap.r (i := 2) rfl) (Dj.nil _)) ap.nd hl hx18)) rfl (fun v29 Φ_22 F12 q18 => ?_))
   obtain ⟨ap15, fr20, v30, D14, rfl, rfl, h22, h23⟩ := q18
   replace ph3 := ph3.frame RI.lasts fr20 (ap15.o pa3)
   replace ph4 := ph4.frame RTBind.lasts fr20 (ap15.o pa4)
   replace ph1_0 := ph1_0.frame RTPat.lasts fr20 (ap15.o pa1_0)
   replace ph1_1 := ph1_1.frame RTCond.lasts fr20 (ap15.o pa1_1)
   replace ph1_2 := ph1_2.frame RTAct.lasts fr20 (ap15.o pa1_2)
   replace ph2_0 := ph2_0.frame RTItem.lasts fr20 (ap15.o pa2_0)
   replace h1 := h1.frame RTPat.lasts fr20 (ap15.r (i := 3) rfl) (Dj.sub (ap15.o pa1_0) i1)
   refine WM.nil (by kernel_rfl) <| WT.mono (l' := [(0, .pointer (some ⟨pb0, 0, none⟩)), (3, pv3), (4, pv4), (6, .pointer (some ⟨b_1, 0, none⟩)), (7, .pointer (some ⟨b_2, 0, none⟩)), (10, v1), (46, pv2_0), (47, .int .i64 (p2.Items.length : Int)), (48, .int .i64 s2)]) (S' := St w0 Φ_22 [(b_2, .cells #[pv2_0, .int .i64 p2.Next] 52 (0, 0)), (b_1, .cells #[.string p1.Name, .int .i64 p1.Sal, pv1_0, pv1_1, pv1_2] 49 (0, 0))] [[pb0], ob v30, D14, ob v1]) ⟨rfl, rfl, rfl, rfl, rfl, rfl, rfl, rfl, rfl, trivial⟩ (fun w1 hw => (hw.sel (js := [0, 0, 0, 3]) rfl).selO (js := [1, 1]) rfl) ?_
   exact K (Φ_22, x18, v30, D14) ⟨h, h1, h22, h23, ph3, ph4, ph1_0, ph1_1, ph1_2, ph2_0⟩
  replace h := ite_f h c5
  refine WT.skip <| WT.inBlock <| WT.region <| lq (q_add rfl rfl) rfl <| lq (q_move rfl) rfl <| WL.nil ?_
  refine WT.inLoop (WT.mono (l' := [(0, .pointer (some ⟨pb0, 0, none⟩)), (3, pv3), (4, pv4), (6, .pointer (some ⟨b_1, 0, none⟩)), (7, .pointer (some ⟨b_2, 0, none⟩)), (10, v1), (46, pv2_0), (47, .int .i64 (p2.Items.length : Int)), (48, .int .i64 (IntKind.i64.wrap (s2 + 1)))]) (S' := St w0 Φ_9 [(b_2, .cells #[pv2_0, .int .i64 p2.Next] 52 (0, 0)), (b_1, .cells #[.string p1.Name, .int .i64 p1.Sal, pv1_0, pv1_1, pv1_2] 49 (0, 0))] [ob v1, [pb0], ob u1, D4]) ⟨rfl, rfl, rfl, rfl, rfl, rfl, rfl, rfl, rfl, trivial⟩ (fun w1 hw => (hw.sel (js := [1, 1, 1, 1]) rfl).selO (js := [1, 1]) rfl) ?_)
  exact ih1 (Φ_9, s1, u1, D4, IntKind.i64.wrap (s2 + 1)) ⟨h, k2, h1, k3, ph3, ph4, ph1_0, ph1_1, ph1_2, ph2_0⟩
 replace h := ite_f h c4
 refine WT.exit rfl ?_
 refine WT.fin Tryz.func130 resOk.none (fun w1 hw => ?_)
 subst hb0
 cases h
 refine postG_of_St (js := [1, 1, 1]) hw rfl ⟨u1, D4, rfl, rfl, k2, k3⟩
theorem m_i_matchesIn_ok {Φ : Hp} {w : World} (hΦ : In Φ w) (N : Nat) (p0 : TRule) (p1 : TStore) {pv0_0 : Value} {pG0_0 : List Nat} {pv0_1 : Value} {pG0_1 : List Nat} {pv0_2 : Value} {pG0_2 : List Nat} {pv1_0 : Value} {pG1_0 : List Nat} (ph0_0 : RSl RTPat 3 Φ pG0_0 pv0_0 p0.Pats) (ph0_1 : RSl RTCond 11 Φ pG0_1 pv0_1 p0.Conds) (ph0_2 : RSl RTAct 5 Φ pG0_2 pv0_2 p0.Acts) (ph1_0 : RSl RTItem 3 Φ pG1_0 pv1_0 p1.Items) {r : (List TMatch)} (h : m_i_matchesIn N p0 p1 = some r) :
  Calls Tryz.prog 65 [.agg [.string p0.Name, .int .i64 p0.Sal, pv0_0, pv0_1, pv0_2].toArray, .agg [pv1_0, .int .i64 p1.Next].toArray].toArray w (PostG Φ w [] (fun Φ' Fs v => ∃ (sr_0_0 : Value) (Dr_0_0 : List Nat), v = sr_0_0 ∧ Fs = [ob sr_0_0, Dr_0_0] ∧ OSl OTMatch 63 3 Φ' Dr_0_0 sr_0_0 r)) := by
 refine enter Tryz.func65 rfl Tryz.ntmps65 rfl (St.start0 hΦ) ?_
 have pa0_0 : Old ⟨w, [], Φ⟩ pG0_0 := Old.mk hΦ ph0_0.kn (Dj.empty _)
 have pa0_1 : Old ⟨w, [], Φ⟩ pG0_1 := Old.mk hΦ ph0_1.kn (Dj.empty _)
 have pa0_2 : Old ⟨w, [], Φ⟩ pG0_2 := Old.mk hΦ ph0_2.kn (Dj.empty _)
 have pa1_0 : Old ⟨w, [], Φ⟩ pG1_0 := Old.mk hΦ ph1_0.kn (Dj.empty _)
 revert pa0_0 pa0_1 pa0_2 pa1_0
 generalize hb0 : (⟨w, [], Φ⟩ : Base) = w0
 intro pa0_0 pa0_1 pa0_2 pa1_0
 unfold m_i_matchesIn at h
 refine WT.seq <| WT.region ?_
 refine ln (n_box (C := #[.string p0.Name, .int .i64 p0.Sal, pv0_0, pv0_1, pv0_2]) rfl rfl) rfl (fun b_1 => ?_)
 refine ln (n_box (C := #[pv1_0, .int .i64 p1.Next]) rfl rfl) rfl (fun b_2 => ?_)
 refine lq (q_assign rfl) rfl <| WL.nil <| WT.seq <| WT.region ?_
 refine ln (n_alloc (C := #[.slice none 0 0]) Zr_59 rfl) rfl (fun b_3 => ?_)
 refine WL.nil <| WT.seq <| WT.region <| lq (q_loadN Tn_49 rfl (fun w1 hw => hw.rgO (i := 2) rfl 0 5 [.string p0.Name, .int .i64 p0.Sal, pv0_0, pv0_1, pv0_2] rfl) rfl) rfl <| lq (q_loadN Tn_52 rfl (fun w1 hw => hw.rgO (i := 1) rfl 0 2 [pv1_0, .int .i64 p1.Next] rfl) rfl) rfl ?_
 refine WL.frz (js := [0]) (R := [(b_2, .cells #[pv1_0, .int .i64 p1.Next] 52 (0, 0)), (b_1, .cells #[.string p0.Name, .int .i64 p0.Sal, pv0_0, pv0_1, pv0_2] 49 (0, 0))]) rfl (fun Φ_1 fr1 k1 => ?_)
 replace ph0_0 := ph0_0.frame RTPat.lasts fr1 (Dj.empty _)
 replace ph0_1 := ph0_1.frame RTCond.lasts fr1 (Dj.empty _)
 replace ph0_2 := ph0_2.frame RTAct.lasts fr1 (Dj.empty _)
 replace ph1_0 := ph1_0.frame RTItem.lasts fr1 (Dj.empty _)
 refine WL.conv (S' := St w0 Φ_1 [(b_2, .cells #[pv1_0, .int .i64 p1.Next] 52 (0, 0)), (b_1, .cells #[.string p0.Name, .int .i64 p0.Sal, pv0_0, pv0_1, pv0_2] 49 (0, 0))] (ob (.slice none 0 0) :: [[b_3]])) (fun w1 hw => hw.addNil) <| WL.conv (S' := St w0 Φ_1 [(b_2, .cells #[pv1_0, .int .i64 p1.Next] 52 (0, 0)), (b_1, .cells #[.string p0.Name, .int .i64 p0.Sal, pv0_0, pv0_1, pv0_2] 49 (0, 0))] ([] :: [ob (.slice none 0 0), [b_3]])) (fun w1 hw => hw.addNil) ?_
 have k2 := OSl.nil OTMatch 63 3 Φ_1
 obtain ⟨x1, hx1, h⟩ := bind_some h
 refine lc (k_call (js := [2, 1, 0]) (R := []) Fun_130 rfl rfl (fun w1 hw ap hl => m_i_addRows_ok N hw.fro ([] : List TMatch) p0 p1 [] [] k2 k1 ph0_0 ph0_1 ph0_2 ph1_0 (RSl.nil _ _ _) (RSl.nil _ _ _) (ap.o pa0_0) (ap.o pa0_1) (ap.o pa0_2) (ap.o pa1_0) (Dj.nil _) (Dj.nil _) ap.nd hl hx1)) rfl (fun v1 Φ_2 F1 q1 => ?_)
 obtain ⟨ap1, fr2, v2, D1, rfl, rfl, h1, h2⟩ := q1
 refine WL.nil <| WT.seq <| WT.region <| lq (q_load1 T1_59 rfl (fun w1 hw => ((rg_cells h2).of_eq 0 1 rfl rfl : rg _ _ _ [v2]).rangeAt hw.fro)) rfl <| lq (q_assign rfl) rfl <| WL.nil ?_
 refine WT.ret Tryz.func65 (resOk.one rfl) (fun w1 hw => ?_)
 subst hb0
 cases h
 refine postG_of_St (js := [1, 1]) hw rfl ⟨v2, D1, rfl, rfl, h1⟩
theorem m_i_MatchesOf_ok {Φ : Hp} {w : World} (hΦ : In Φ w) (N : Nat) (p0 : TRule) (p1 : TStore) {pv0_0 : Value} {pG0_0 : List Nat} {pv0_1 : Value} {pG0_1 : List Nat} {pv0_2 : Value} {pG0_2 : List Nat} {pv1_0 : Value} {pG1_0 : List Nat} (ph0_0 : RSl RTPat 3 Φ pG0_0 pv0_0 p0.Pats) (ph0_1 : RSl RTCond 11 Φ pG0_1 pv0_1 p0.Conds) (ph0_2 : RSl RTAct 5 Φ pG0_2 pv0_2 p0.Acts) (ph1_0 : RSl RTItem 3 Φ pG1_0 pv1_0 p1.Items) {r : (List TMatch)} (h : m_i_MatchesOf N p0 p1 = some r) :
  Calls Tryz.prog 19 [.agg [.string p0.Name, .int .i64 p0.Sal, pv0_0, pv0_1, pv0_2].toArray, .agg [pv1_0, .int .i64 p1.Next].toArray].toArray w (PostG Φ w [] (fun Φ' Fs v => ∃ (sr_0_0 : Value) (Dr_0_0 : List Nat), v = sr_0_0 ∧ Fs = [ob sr_0_0, Dr_0_0] ∧ OSl OTMatch 63 3 Φ' Dr_0_0 sr_0_0 r)) := by
 refine enter Tryz.func19 rfl Tryz.ntmps19 rfl (St.start0 hΦ) ?_
 unfold m_i_MatchesOf at h
 refine WT.seq <| WT.region ?_
 refine ln (n_box (C := #[.string p0.Name, .int .i64 p0.Sal, pv0_0, pv0_1, pv0_2]) rfl rfl) rfl (fun b_1 => ?_)
 refine ln (n_box (C := #[pv1_0, .int .i64 p1.Next]) rfl rfl) rfl (fun b_2 => ?_)
 refine lq (q_assign rfl) rfl <| WL.nil <| WT.seq <| WT.seq <| WT.region <| lq (q_loadN Tn_49 rfl (fun w1 hw => hw.rgO (i := 1) rfl 0 5 [.string p0.Name, .int .i64 p0.Sal, pv0_0, pv0_1, pv0_2] rfl) rfl) rfl ?_
 obtain ⟨x1, hx1, h⟩ := bind_some h
 refine lp (p_call Fun_26 rfl (fun w1 hw => m_i_RuleOk_ok hw.fro N p0 ph0_0 ph0_1 ph0_2 hx1)) rfl <| lq (q_not rfl) rfl <| lq (q_move rfl) rfl ?_
 obtain ⟨b1, hb_1, h⟩ := bind_some h
 refine WL.cutN 4 [(12, .bool b1), (2, .pointer (some ⟨b_1, 0, none⟩)), (3, .pointer (some ⟨b_2, 0, none⟩))] ?_ (fun K => ?_)
 rotate_left
 ·refine WL.split (d := 8) rfl (fun c1 => ?_) (fun c1 => ?_)
  ·replace hb_1 := ite_t hb_1 c1
   refine WL.no rfl rfl rfl rfl <| WL.no rfl rfl rfl rfl <| WL.no rfl rfl rfl rfl <| WL.q (q_pick1 rfl rfl) rfl rfl rfl ?_
   cases hb_1
   exact WL.keep (by exact ⟨rfl, rfl, rfl, trivial⟩) K
  ·replace hb_1 := ite_f hb_1 c1
   refine WL.yes rfl rfl <| lq (q_loadN Tn_52 rfl (fun w1 hw => hw.rgO (i := 0) rfl 0 2 [pv1_0, .int .i64 p1.Next] rfl) rfl) rfl <| WL.yes rfl rfl ?_
   obtain ⟨x2, hx2, hb_1⟩ := bind_some hb_1
   refine lp (p_call Fun_28 rfl (fun w1 hw => m_i_StoreOk_ok hw.fro N p1 ph1_0 hx2)) rfl <| WL.yes rfl rfl <| lq (q_not rfl) rfl <| WL.q (q_pick0 rfl rfl) rfl rfl rfl ?_
   cases hb_1
   exact WL.keep (by exact ⟨rfl, rfl, rfl, trivial⟩) K
 refine WL.nil ?_
 refine WT.cond rfl (fun c2 => ?_) (fun c2 => ?_)
 ·replace h := ite_t h c2
  refine WT.seq <| WT.region <| lq (q_assign rfl) rfl <| WL.nil ?_
  refine WT.ret Tryz.func19 (resOk.one rfl) (fun w1 hw => ?_)
  cases h
  replace hw := hw.addNil
  replace hw := hw.addNil
  refine postG_of_St (js := [1, 0]) hw rfl ⟨.slice none 0 0, [], rfl, rfl, OSl.nil _ _ _ _⟩
 replace h := ite_f h c2
 refine WT.skip <| WT.seq <| WT.region <| lq (q_loadN Tn_49 rfl (fun w1 hw => hw.rgO (i := 1) rfl 0 5 [.string p0.Name, .int .i64 p0.Sal, pv0_0, pv0_1, pv0_2] rfl) rfl) rfl <| lq (q_loadN Tn_52 rfl (fun w1 hw => hw.rgO (i := 0) rfl 0 2 [pv1_0, .int .i64 p1.Next] rfl) rfl) rfl ?_
 obtain ⟨x3, hx3, h⟩ := bind_some h
 refine lc (k_call (js := []) (R := []) Fun_65 rfl rfl (fun w1 hw ap hl => m_i_matchesIn_ok hw.fro N p0 p1 ph0_0 ph0_1 ph0_2 ph1_0  hx3)) rfl (fun v1 Φ_1 F1 q1 => ?_)
 obtain ⟨ap1, fr1, v2, D1, rfl, rfl, h1⟩ := q1
 refine lq (q_assign rfl) rfl <| WL.nil ?_
 refine WT.ret Tryz.func19 (resOk.one rfl) (fun w1 hw => ?_)
 cases h
 refine postG_of_St (js := [0, 0]) hw rfl ⟨v1, D1, rfl, rfl, h1⟩
theorem m_s_l1New_ok {Φ : Hp} {w : World} (hΦ : In Φ w) (N : Nat) (p0 : (List Int)) {pv0 : Value} {pG0 : List Nat} (ph0 : RSl (RI .u8) 1 Φ pG0 pv0 p0) {r : Tl1Cur} (h : m_s_l1New N p0 = some r) :
  Calls Tryz.prog 44 [pv0].toArray w (PostG Φ w [] (fun Φ' Fs v => ∃ (b0 : Nat) (sr_0_0 : Value) (Gr_0_0 : List Nat), v = .pointer (some ⟨b0, 0, none⟩) ∧ Fs = [[b0]] ∧ RSl (RI .u8) 1 Φ' Gr_0_0 sr_0_0 r.b ∧ (∀ k ∈ Gr_0_0, k ∈ pG0) ∧ Φ' b0 = some (.cells #[sr_0_0, .int .i64 r.i, .int .i64 r.h] 159 (0, 0)))) := by
 refine enter Tryz.func44 rfl Tryz.ntmps44 rfl (St.start0 hΦ) ?_
 generalize hb0 : (⟨w, [], Φ⟩ : Base) = w0
 unfold m_s_l1New at h
 refine WT.seq <| WT.region <| lq (q_assign rfl) rfl <| WL.nil <| WT.seq <| WT.region <| lq (q_move rfl) rfl <| lq (q_lenR Sl_22 rfl rfl ph0) rfl <| lq (q_add rfl rfl) rfl <| lq (q_assign rfl) rfl <| WL.nil <| WT.seq <| WT.seq <| WT.region <| lq (q_assign rfl) rfl <| WL.nil <| WT.block <| WT.loop <| WT.mono (l' := [(0, pv0), (3, .int .i64 (IntKind.i64.wrap (354354 + (p0.length : Int)))), (4, .int .i64 0)]) (S' := St w0 Φ [] []) ⟨rfl, rfl, rfl, trivial⟩ (fun w1 hw => (hw.sel (js := []) rfl).selO (js := []) rfl) ?_
 refine loop_ind (σ := Int × Int) (fun s => [(0, pv0), (3, .int .i64 s.1), (4, .int .i64 s.2)]) (fun s => St w0 Φ [] []) (fun m s => m_s_l1New_l1 N p0 m s.1 s.2 = some r) (fun s hm => none_ne (show (none : Option (Tl1Cur)) = some r from hm)) (fun n1 ih1 s hm => ?_) N (IntKind.i64.wrap (354354 + (p0.length : Int)), 0) h
 obtain ⟨s1, s2⟩ := s
 have h : m_s_l1New_l1 N p0 (n1 + 1) s1 s2 = some r := hm
 show WT _ _ [(0, pv0), (3, .int .i64 s1), (4, .int .i64 s2)] (St w0 Φ [] [])
 unfold m_s_l1New_l1 at h
 refine WT.seq <| WT.seq <| WT.region <| lq (q_move rfl) rfl <| lq (q_move rfl) rfl <| lq (q_lenR Sl_22 rfl rfl ph0) rfl <| lq (q_lss rfl rfl) rfl <| lq (q_move rfl) rfl ?_
 obtain ⟨b1, hb_1, h⟩ := bind_some h
 refine WL.cutN 3 [(15, .bool b1), (0, pv0), (3, .int .i64 s1), (4, .int .i64 s2)] ?_ (fun K => ?_)
 rotate_left
 ·refine WL.split (d := 12) rfl (fun c1 => ?_) (fun c1 => ?_)
  ·replace hb_1 := ite_t hb_1 c1
   refine WL.yes rfl rfl <| lq (q_move rfl) rfl <| WL.yes rfl rfl <| lq (q_lss rfl rfl) rfl <| WL.q (q_pick1 rfl rfl) rfl rfl rfl ?_
   cases hb_1
   exact WL.keep (by exact ⟨rfl, rfl, rfl, rfl, trivial⟩) K
  ·replace hb_1 := ite_f hb_1 c1
   refine WL.no rfl rfl rfl rfl <| WL.no rfl rfl rfl rfl <| WL.q (q_pick0 rfl rfl) rfl rfl rfl ?_
   cases hb_1
   exact WL.keep (by exact ⟨rfl, rfl, rfl, rfl, trivial⟩) K
 refine WL.nil ?_
 refine WT.cond rfl (fun c2 => ?_) (fun c2 => ?_)
 ·replace h := ite_t h c2
  refine WT.skip <| WT.seq <| WT.block <| WT.region <| lq (q_move rfl) rfl <| lq (q_mul rfl rfl) rfl <| lq (q_move rfl) rfl <| lq (q_move rfl) rfl ?_
  obtain ⟨x1, hx1, h⟩ := bind_some h
  obtain ⟨cs1, F1, -, g1, hb1, hs1, r1⟩ := ph0.el (idx_some hx1).2.2
  obtain ⟨rfl, -⟩ := r1
  refine lq (q_indexAddr Sl_22 rfl rfl ph0 hx1) rfl <| lq (q_load1 T1_5 rfl (fun w1 hw => (g1.of_eq 0 1 rfl rfl : rg _ _ _ [.int .u8 x1]).rangeAt hw.fro)) rfl <| lq (q_convI Ik_5 Ik_3 rfl) rfl <| lq (q_add rfl rfl) rfl <| lq (q_add rfl rfl) rfl <| lq (q_and rfl rfl) rfl <| lq (q_assign rfl) rfl <| WL.nil <| WT.inBlock <| WT.region <| lq (q_move rfl) rfl <| lq (q_add rfl rfl) rfl <| lq (q_assign rfl) rfl <| WL.nil ?_
  refine WT.inLoop (WT.mono (l' := [(0, pv0), (3, .int .i64 (andI .i64 (IntKind.i64.wrap ((IntKind.i64.wrap ((IntKind.i64.wrap (s1 * 137)) + (IntKind.i64.wrap x1))) + 11)) 1073741823)), (4, .int .i64 (IntKind.i64.wrap (s2 + 1)))]) (S' := St w0 Φ [] []) ⟨rfl, rfl, rfl, trivial⟩ (fun w1 hw => (hw.sel (js := []) rfl).selO (js := []) rfl) ?_)
  exact ih1 ((andI .i64 (IntKind.i64.wrap ((IntKind.i64.wrap ((IntKind.i64.wrap (s1 * 137)) + (IntKind.i64.wrap x1))) + 11)) 1073741823), IntKind.i64.wrap (s2 + 1)) h
 replace h := ite_f h c2
 refine WT.exit rfl <| WT.seq <| WT.region <| lq (q_move rfl) rfl <| lq (q_move rfl) rfl <| lq (q_build (vs := [(0, pv0), (2, .int .i64 s1)]) (C := #[pv0, .int .i64 0, .int .i64 s1]) Pl_159 Zr_159 rfl (fill_cons (cells := [.slice none 0 0, .int .i64 0, .int .i64 0]) (c := [pv0]) (C' := [pv0, .int .i64 0, .int .i64 0]) rfl (one_cells ph0.one) rfl rfl rfl (fill_cons (cells := [pv0, .int .i64 0, .int .i64 0]) (c := [.int .i64 s1]) (C' := [pv0, .int .i64 0, .int .i64 s1]) rfl rfl rfl rfl rfl (fill_nil)))) rfl ?_
 refine ln (n_box (C := #[pv0, .int .i64 0, .int .i64 s1]) rfl rfl) rfl (fun b_1 => ?_)
 refine lq (q_assign rfl) rfl <| WL.nil ?_
 refine WT.frz (js := [0]) (R := []) rfl (fun Φ_1 fr1 k1 => ?_)
 replace ph0 := ph0.frame RI.lasts fr1 (Dj.empty _)
 refine WT.ret Tryz.func44 (resOk.one rfl) (fun w1 hw => ?_)
 subst hb0
 cases h
 refine postG_of_St (js := [0]) hw rfl ⟨b_1, pv0, pG0, rfl, rfl, ph0, (fun k hk => hk), k1⟩
theorem m_s_l1Byte_ok {Φ : Hp} {w : World} (hΦ : In Φ w) (N : Nat) (p0 : Tl1Cur) {pv0_0 : Value} {pG0_0 : List Nat} {pb0 : Nat} (ph0_0 : RSl (RI .u8) 1 Φ pG0_0 pv0_0 p0.b) (pp0 : Φ pb0 = some (.cells #[pv0_0, .int .i64 p0.i, .int .i64 p0.h] 159 (0, 0))) (pd0_0 : Dj pG0_0 [[pb0]].flatten) (hB : [[pb0]].flatten.Nodup) (hlt : ∀ k ∈ [[pb0]].flatten, k < w.heap.size) {r : Int × Tl1Cur} (h : m_s_l1Byte N p0 = some r) :
  Calls Tryz.prog 124 [.pointer (some ⟨pb0, 0, none⟩)].toArray w (PostG Φ w [[pb0]].flatten (fun Φ' Fs v => v = .int .i64 r.1 ∧ Fs = [[pb0]] ∧ r.2.b = p0.b ∧ Φ' pb0 = some (.cells #[pv0_0, .int .i64 r.2.i, .int .i64 r.2.h] 159 (0, 0)))) := by
 refine enter Tryz.func124 rfl Tryz.ntmps124 rfl (St.start hΦ [[pb0]] hB hlt) ?_
 have pa0_0 : Old ⟨w, [[pb0]].flatten, Φ⟩ pG0_0 := Old.mk hΦ ph0_0.kn pd0_0
 unfold m_s_l1Byte at h
 refine WT.seq <| WT.region <| lq (q_assign rfl) rfl <| WL.nil <| WT.seq <| WT.region <| lq (q_move rfl) rfl <| lq (q_move rfl) rfl <| lq (q_nilCheck rfl) rfl <| lq (q_fieldAddr Fld_159_2 rfl) rfl <| lq (q_load1 T1_3 rfl (fun w1 hw => ((rg_cells pp0).of_eq 2 1 rfl rfl : rg _ _ _ [.int .i64 p0.h]).rangeAt hw.fro)) rfl <| lq (q_mul rfl rfl) rfl <| lq (q_add rfl rfl) rfl <| lq (q_nilCheck rfl) rfl <| lq (q_fieldAddr Fld_159_2 rfl) rfl ?_
 refine WL.thw (js := [0]) (R := []) rfl pp0 (fun Φ_1 ap1 fr1 => ?_)
 replace ph0_0 := ph0_0.frame RI.lasts fr1 (ap1.o pa0_0)
 refine ls (s_store (i := 0) (vs := [.int .i64 (IntKind.i64.wrap ((IntKind.i64.wrap (p0.h * 6364136223846793005)) + 1442695040888963407))]) (C' := [pv0_0, .int .i64 p0.i, .int .i64 (IntKind.i64.wrap ((IntKind.i64.wrap (p0.h * 6364136223846793005)) + 1442695040888963407))]) (O' := [(pb0, .cells #[pv0_0, .int .i64 p0.i, .int .i64 (IntKind.i64.wrap ((IntKind.i64.wrap (p0.h * 6364136223846793005)) + 1442695040888963407))] 159 (0, 0))]) Sz_3 rfl rfl rfl rfl rfl rfl ⟨rfl, trivial⟩ rfl rfl) rfl ?_
 refine WL.nil <| WT.seq <| WT.draw mixed (by kernel_rfl) (fun _ h => h.drew) <| qq (q_move rfl) rfl <| qq (q_nilCheck rfl) rfl <| qq (q_fieldAddr Fld_159_2 rfl) rfl <| qq (q_load1 T1_3 rfl (fun w1 hw => hw.rgO (i := 0) rfl 2 1 [.int .i64 (IntKind.i64.wrap ((IntKind.i64.wrap (p0.h * 6364136223846793005)) + 1442695040888963407))] rfl)) rfl <| qq (q_shr rfl rfl (by decide)) rfl <| qq (q_move rfl) rfl <| qq (q_nilCheck rfl) rfl <| qq (q_fieldAddr Fld_159_2 rfl) rfl ?_
 refine qq (q_load1 T1_3 rfl (fun w1 hw => hw.rgO (i := 0) rfl 2 1 [.int .i64 (IntKind.i64.wrap ((IntKind.i64.wrap (p0.h * 6364136223846793005)) + 1442695040888963407))] rfl)) rfl <| qq (q_shr rfl rfl (by decide)) rfl <| qq (q_xor rfl rfl) rfl <| qq (q_and rfl rfl) rfl <| qq (q_assign rfl) rfl <| WQ.nil <| WT.seq <| WT.seq <| WT.draw mixed (by kernel_rfl) (fun _ h => h.drew) <| qq (q_move rfl) rfl <| qq (q_nilCheck rfl) rfl <| qq (q_fieldAddr Fld_159_1 rfl) rfl ?_
 refine qq (q_load1 T1_3 rfl (fun w1 hw => hw.rgO (i := 0) rfl 1 1 [.int .i64 p0.i] rfl)) rfl <| qq (q_move rfl) rfl <| qq (q_nilCheck rfl) rfl <| qq (q_fieldAddr Fld_159_0 rfl) rfl <| qq (q_load1 T1_22 rfl (fun w1 hw => hw.rgO (i := 0) rfl 0 1 [pv0_0] rfl)) rfl <| qq (q_lenR Sl_22 rfl rfl ph0_0) rfl <| qq (q_lss rfl rfl) rfl <| WQ.nil ?_
 refine WT.cond rfl (fun c1 => ?_) (fun c1 => ?_)
 ·replace h := ite_t h c1
  refine WT.seq <| WT.draw mixed (by kernel_rfl) (fun _ h => h.drew) <| qq (q_move rfl) rfl <| qq (q_move rfl) rfl <| qq (q_nilCheck rfl) rfl <| qq (q_fieldAddr Fld_159_0 rfl) rfl <| qq (q_load1 T1_22 rfl (fun w1 hw => hw.rgO (i := 0) rfl 0 1 [pv0_0] rfl)) rfl <| qq (q_move rfl) rfl <| qq (q_nilCheck rfl) rfl <| qq (q_fieldAddr Fld_159_1 rfl) rfl <| qq (q_load1 T1_3 rfl (fun w1 hw => hw.rgO (i := 0) rfl 1 1 [.int .i64 p0.i] rfl)) rfl ?_
  obtain ⟨x1, hx1, h⟩ := bind_some h
  obtain ⟨cs1, F1, -, g1, hb1, hs1, r1⟩ := ph0_0.el (idx_some hx1).2.2
  obtain ⟨rfl, -⟩ := r1
  refine qq (q_indexAddr Sl_22 rfl rfl ph0_0 hx1) rfl <| qq (q_load1 T1_5 rfl (fun w1 hw => (g1.of_eq 0 1 rfl rfl : rg _ _ _ [.int .u8 x1]).rangeAt hw.fro)) rfl <| qq (q_convI Ik_5 Ik_3 rfl) rfl <| qq (q_add rfl rfl) rfl <| qq (q_and rfl rfl) rfl <| qq (q_assign rfl) rfl <| WQ.nil <| WT.region <| lq (q_move rfl) rfl <| lq (q_move rfl) rfl <| lq (q_nilCheck rfl) rfl <| lq (q_fieldAddr Fld_159_1 rfl) rfl <| lq (q_load1 T1_3 rfl (fun w1 hw => hw.rgO (i := 0) rfl 1 1 [.int .i64 p0.i] rfl)) rfl ?_
  refine lq (q_add rfl rfl) rfl <| lq (q_nilCheck rfl) rfl <| lq (q_fieldAddr Fld_159_1 rfl) rfl <| ls (s_store (i := 0) (vs := [.int .i64 (IntKind.i64.wrap (p0.i + 1))]) (C' := [pv0_0, .int .i64 (IntKind.i64.wrap (p0.i + 1)), .int .i64 (IntKind.i64.wrap ((IntKind.i64.wrap (p0.h * 6364136223846793005)) + 1442695040888963407))]) (O' := [(pb0, .cells #[pv0_0, .int .i64 (IntKind.i64.wrap (p0.i + 1)), .int .i64 (IntKind.i64.wrap ((IntKind.i64.wrap (p0.h * 6364136223846793005)) + 1442695040888963407))] 159 (0, 0))]) Sz_3 rfl rfl rfl rfl rfl rfl ⟨rfl, trivial⟩ rfl rfl) rfl ?_
  refine WL.nil <| WT.seq <| WT.region <| lq (q_move rfl) rfl <| lq (q_assign rfl) rfl <| WL.nil ?_
  refine WT.frz (js := [0]) (R := []) rfl (fun Φ_2 fr2 k1 => ?_)
  replace ph0_0 := ph0_0.frame RI.lasts fr2 (Dj.empty _)
  refine WT.ret Tryz.func124 (resOk.one rfl) (fun w1 hw => ?_)
  cases h
  refine postG_of_St (js := [0]) hw rfl ⟨rfl, rfl, rfl, k1⟩
 replace h := ite_f h c1
 refine WT.skip <| WT.seq <| WT.region <| lq (q_move rfl) rfl <| lq (q_assign rfl) rfl <| WL.nil ?_
 refine WT.frz (js := [0]) (R := []) rfl (fun Φ_3 fr3 k2 => ?_)
 replace ph0_0 := ph0_0.frame RI.lasts fr3 (Dj.empty _)
 refine WT.ret Tryz.func124 (resOk.one rfl) (fun w1 hw => ?_)
 cases h
 refine postG_of_St (js := [0]) hw rfl ⟨rfl, rfl, rfl, k2⟩
theorem m_s_l1Below_ok {Φ : Hp} {w : World} (hΦ : In Φ w) (N : Nat) (p0 : Tl1Cur) (p1 : Int) {pv0_0 : Value} {pG0_0 : List Nat} {pb0 : Nat} (ph0_0 : RSl (RI .u8) 1 Φ pG0_0 pv0_0 p0.b) (pp0 : Φ pb0 = some (.cells #[pv0_0, .int .i64 p0.i, .int .i64 p0.h] 159 (0, 0))) (pd0_0 : Dj pG0_0 [[pb0]].flatten) (hB : [[pb0]].flatten.Nodup) (hlt : ∀ k ∈ [[pb0]].flatten, k < w.heap.size) {r : Int × Tl1Cur} (h : m_s_l1Below N p0 p1 = some r) :
  Calls Tryz.prog 59 [.pointer (some ⟨pb0, 0, none⟩), .int .i64 p1].toArray w (PostG Φ w [[pb0]].flatten (fun Φ' Fs v => v = .int .i64 r.1 ∧ Fs = [[pb0]] ∧ r.2.b = p0.b ∧ Φ' pb0 = some (.cells #[pv0_0, .int .i64 r.2.i, .int .i64 r.2.h] 159 (0, 0)))) := by
 refine enter Tryz.func59 rfl Tryz.ntmps59 rfl (St.start hΦ [[pb0]] hB hlt) ?_
 have pa0_0 : Old ⟨w, [[pb0]].flatten, Φ⟩ pG0_0 := Old.mk hΦ ph0_0.kn pd0_0
 unfold m_s_l1Below at h
 refine WT.seq <| WT.region <| lq (q_assign rfl) rfl <| WL.nil <| WT.seq <| WT.seq <| WT.region <| lq (q_move rfl) rfl <| lq (q_leq rfl rfl) rfl <| WL.nil ?_
 refine WT.cond rfl (fun c1 => ?_) (fun c1 => ?_)
 ·replace h := ite_t h c1
  refine WT.seq <| WT.region <| lq (q_assign rfl) rfl <| WL.nil ?_
  refine WT.ret Tryz.func59 (resOk.one rfl) (fun w1 hw => ?_)
  cases h
  refine postG_of_St (js := [0]) hw rfl ⟨rfl, rfl, rfl, pp0⟩
 replace h := ite_f h c1
 refine WT.skip <| WT.seq <| WT.seq <| WT.region <| lq (q_move rfl) rfl <| lq (q_leq rfl rfl) rfl <| WL.nil ?_
 refine WT.cond rfl (fun c2 => ?_) (fun c2 => ?_)
 ·replace h := ite_t h c2
  refine WT.seq <| WT.region <| lq (q_move rfl) rfl ?_
  obtain ⟨x1, hx1, h⟩ := bind_some h
  refine lc (k_call (js := [0]) (R := []) Fun_124 rfl rfl (fun w1 hw ap hl => m_s_l1Byte_ok hw.fro N p0 ph0_0 pp0 (ap.o pa0_0) ap.nd hl hx1)) rfl (fun v1 Φ_1 F1 q1 => ?_)
  obtain ⟨ap1, fr1, rfl, rfl, e1, h1⟩ := q1
  replace ph0_0 := ph0_0.frame RI.lasts fr1 (ap1.o pa0_0)
  refine lq (q_move rfl) rfl ?_
  obtain ⟨x2, hx2, h⟩ := bind_some h
  refine lq (q_remV rfl rfl hx2) rfl <| lq (q_assign rfl) rfl <| WL.nil ?_
  refine WT.ret Tryz.func59 (resOk.one rfl) (fun w1 hw => ?_)
  cases h
  refine postG_of_St (js := [0]) hw rfl ⟨rfl, rfl, rfl, h1⟩
 replace h := ite_f h c2
 refine WT.skip <| WT.seq <| WT.region <| lq (q_move rfl) rfl ?_
 obtain ⟨x3, hx3, h⟩ := bind_some h
 refine lc (k_call (js := [0]) (R := []) Fun_124 rfl rfl (fun w1 hw ap hl => m_s_l1Byte_ok hw.fro N p0 ph0_0 pp0 (ap.o pa0_0) ap.nd hl hx3)) rfl (fun v2 Φ_2 F2 q2 => ?_)
 obtain ⟨ap2, fr2, rfl, rfl, e2, h2⟩ := q2
 replace ph0_0 := ph0_0.frame RI.lasts fr2 (ap2.o pa0_0)
 refine lq (q_assign rfl) rfl <| WL.nil <| WT.seq <| WT.region <| lq (q_move rfl) rfl ?_
 obtain ⟨x4, hx4, h⟩ := bind_some h
 refine lc (k_call (js := [0]) (R := []) Fun_124 rfl rfl (fun w1 hw ap hl => m_s_l1Byte_ok hw.fro N (⟨p0.b, x3.2.i, x3.2.h⟩ : Tl1Cur) ph0_0 h2 (ap.o pa0_0) ap.nd hl hx4)) rfl (fun v3 Φ_3 F3 q3 => ?_)
 obtain ⟨ap3, fr3, rfl, rfl, e3, h3⟩ := q3
 replace ph0_0 := ph0_0.frame RI.lasts fr3 (ap3.o pa0_0)
 refine lq (q_assign rfl) rfl <| WL.nil <| WT.seq <| WT.region <| lq (q_move rfl) rfl ?_
 obtain ⟨x5, hx5, h⟩ := bind_some h
 refine lc (k_call (js := [0]) (R := []) Fun_124 rfl rfl (fun w1 hw ap hl => m_s_l1Byte_ok hw.fro N (⟨p0.b, x4.2.i, x4.2.h⟩ : Tl1Cur) ph0_0 h3 (ap.o pa0_0) ap.nd hl hx5)) rfl (fun v4 Φ_4 F4 q4 => ?_)
 obtain ⟨ap4, fr4, rfl, rfl, e4, h4⟩ := q4
 replace ph0_0 := ph0_0.frame RI.lasts fr4 (ap4.o pa0_0)
 refine lq (q_assign rfl) rfl <| WL.nil <| WT.seq <| WT.region <| lq (q_move rfl) rfl <| lq (q_mul rfl rfl) rfl <| lq (q_move rfl) rfl <| lq (q_mul rfl rfl) rfl <| lq (q_add rfl rfl) rfl <| lq (q_move rfl) rfl <| lq (q_add rfl rfl) rfl <| lq (q_move rfl) rfl ?_
 obtain ⟨x6, hx6, h⟩ := bind_some h
 refine lq (q_remV rfl rfl hx6) rfl <| lq (q_assign rfl) rfl <| WL.nil ?_
 refine WT.ret Tryz.func59 (resOk.one rfl) (fun w1 hw => ?_)
 cases h
 refine postG_of_St (js := [0]) hw rfl ⟨rfl, rfl, rfl, h4⟩
theorem m_s_l1Once_ok {Φ : Hp} {w : World} (hΦ : In Φ w) (N : Nat) (p0 : Tl1Cur) (p1 : Int) {pv0_0 : Value} {pG0_0 : List Nat} {pb0 : Nat} (ph0_0 : RSl (RI .u8) 1 Φ pG0_0 pv0_0 p0.b) (pp0 : Φ pb0 = some (.cells #[pv0_0, .int .i64 p0.i, .int .i64 p0.h] 159 (0, 0))) (pd0_0 : Dj pG0_0 [[pb0]].flatten) (hB : [[pb0]].flatten.Nodup) (hlt : ∀ k ∈ [[pb0]].flatten, k < w.heap.size) {r : Bool × Tl1Cur} (h : m_s_l1Once N p0 p1 = some r) :
  Calls Tryz.prog 47 [.pointer (some ⟨pb0, 0, none⟩), .int .i64 p1].toArray w (PostG Φ w [[pb0]].flatten (fun Φ' Fs v => v = .bool r.1 ∧ Fs = [[pb0]] ∧ r.2.b = p0.b ∧ Φ' pb0 = some (.cells #[pv0_0, .int .i64 r.2.i, .int .i64 r.2.h] 159 (0, 0)))) := by
 refine enter Tryz.func47 rfl Tryz.ntmps47 rfl (St.start hΦ [[pb0]] hB hlt) ?_
 have pa0_0 : Old ⟨w, [[pb0]].flatten, Φ⟩ pG0_0 := Old.mk hΦ ph0_0.kn pd0_0
 unfold m_s_l1Once at h
 refine WT.seq <| WT.region <| lq (q_assign rfl) rfl <| WL.nil <| WT.seq <| WT.region <| lq (q_move rfl) rfl <| lq (q_move rfl) rfl ?_
 obtain ⟨x1, hx1, h⟩ := bind_some h
 refine lc (k_call (js := [0]) (R := []) Fun_59 rfl rfl (fun w1 hw ap hl => m_s_l1Below_ok hw.fro N p0 p1 ph0_0 pp0 (ap.o pa0_0) ap.nd hl hx1)) rfl (fun v1 Φ_1 F1 q1 => ?_)
 obtain ⟨ap1, fr1, rfl, rfl, e1, h1⟩ := q1
 replace ph0_0 := ph0_0.frame RI.lasts fr1 (ap1.o pa0_0)
 refine lq (q_eql rfl rfl) rfl <| lq (q_assign rfl) rfl <| WL.nil ?_
 refine WT.ret Tryz.func47 (resOk.one rfl) (fun w1 hw => ?_)
 cases h
 refine postG_of_St (js := [0]) hw rfl ⟨rfl, rfl, rfl, h1⟩
theorem m_s_l1Int_ok {Φ : Hp} {w : World} (hΦ : In Φ w) (N : Nat) (p0 : Tl1Cur) (p1 : (List Int)) {pv0_0 : Value} {pG0_0 : List Nat} {pb0 : Nat} {pv1 : Value} {pG1 : List Nat} (ph0_0 : RSl (RI .u8) 1 Φ pG0_0 pv0_0 p0.b) (pp0 : Φ pb0 = some (.cells #[pv0_0, .int .i64 p0.i, .int .i64 p0.h] 159 (0, 0))) (ph1 : RSl (RI .i64) 1 Φ pG1 pv1 p1) (pd0_0 : Dj pG0_0 [[pb0]].flatten) (pd1 : Dj pG1 [[pb0]].flatten) (hB : [[pb0]].flatten.Nodup) (hlt : ∀ k ∈ [[pb0]].flatten, k < w.heap.size) {r : Int × Tl1Cur} (h : m_s_l1Int N p0 p1 = some r) :
  Calls Tryz.prog 113 [.pointer (some ⟨pb0, 0, none⟩), pv1].toArray w (PostG Φ w [[pb0]].flatten (fun Φ' Fs v => v = .int .i64 r.1 ∧ Fs = [[pb0]] ∧ r.2.b = p0.b ∧ Φ' pb0 = some (.cells #[pv0_0, .int .i64 r.2.i, .int .i64 r.2.h] 159 (0, 0)))) := by
 refine enter Tryz.func113 rfl Tryz.ntmps113 rfl (St.start hΦ [[pb0]] hB hlt) ?_
 have pa0_0 : Old ⟨w, [[pb0]].flatten, Φ⟩ pG0_0 := Old.mk hΦ ph0_0.kn pd0_0
 have pa1 : Old ⟨w, [[pb0]].flatten, Φ⟩ pG1 := Old.mk hΦ ph1.kn pd1
 unfold m_s_l1Int at h
 refine WT.seq <| WT.region <| lq (q_assign rfl) rfl <| WL.nil <| WT.seq <| WT.region <| lq (q_move rfl) rfl <| lq (q_move rfl) rfl <| lq (q_move rfl) rfl <| lq (q_lenR Sl_41 rfl rfl ph1) rfl ?_
 obtain ⟨x1, hx1, h⟩ := bind_some h
 refine lc (k_call (js := [0]) (R := []) Fun_59 rfl rfl (fun w1 hw ap hl => m_s_l1Below_ok hw.fro N p0 (p1.length : Int) ph0_0 pp0 (ap.o pa0_0) ap.nd hl hx1)) rfl (fun v1 Φ_1 F1 q1 => ?_)
 obtain ⟨ap1, fr1, rfl, rfl, e1, h1⟩ := q1
 replace ph1 := ph1.frame RI.lasts fr1 (ap1.o pa1)
 replace ph0_0 := ph0_0.frame RI.lasts fr1 (ap1.o pa0_0)
 obtain ⟨x2, hx2, h⟩ := bind_some h
 obtain ⟨cs1, F2, -, g1, hb1, hs1, r1⟩ := ph1.el (idx_some hx2).2.2
 obtain ⟨rfl, -⟩ := r1
 refine lq (q_indexAddr Sl_41 rfl rfl ph1 hx2) rfl <| lq (q_load1 T1_3 rfl (fun w1 hw => (g1.of_eq 0 1 rfl rfl : rg _ _ _ [.int .i64 x2]).rangeAt hw.fro)) rfl <| lq (q_assign rfl) rfl <| WL.nil ?_
 refine WT.ret Tryz.func113 (resOk.one rfl) (fun w1 hw => ?_)
 cases h
 refine postG_of_St (js := [0]) hw rfl ⟨rfl, rfl, rfl, h1⟩
theorem m_s_l1Str_ok {Φ : Hp} {w : World} (hΦ : In Φ w) (N : Nat) (p0 : Tl1Cur) (p1 : (List ByteArray)) {pv0_0 : Value} {pG0_0 : List Nat} {pb0 : Nat} {pv1 : Value} {pG1 : List Nat} (ph0_0 : RSl (RI .u8) 1 Φ pG0_0 pv0_0 p0.b) (pp0 : Φ pb0 = some (.cells #[pv0_0, .int .i64 p0.i, .int .i64 p0.h] 159 (0, 0))) (ph1 : RSl RS 1 Φ pG1 pv1 p1) (pd0_0 : Dj pG0_0 [[pb0]].flatten) (pd1 : Dj pG1 [[pb0]].flatten) (hB : [[pb0]].flatten.Nodup) (hlt : ∀ k ∈ [[pb0]].flatten, k < w.heap.size) {r : ByteArray × Tl1Cur} (h : m_s_l1Str N p0 p1 = some r) :
  Calls Tryz.prog 101 [.pointer (some ⟨pb0, 0, none⟩), pv1].toArray w (PostG Φ w [[pb0]].flatten (fun Φ' Fs v => v = .string r.1 ∧ Fs = [[pb0]] ∧ r.2.b = p0.b ∧ Φ' pb0 = some (.cells #[pv0_0, .int .i64 r.2.i, .int .i64 r.2.h] 159 (0, 0)))) := by
 refine enter Tryz.func101 rfl Tryz.ntmps101 rfl (St.start hΦ [[pb0]] hB hlt) ?_
 have pa0_0 : Old ⟨w, [[pb0]].flatten, Φ⟩ pG0_0 := Old.mk hΦ ph0_0.kn pd0_0
 have pa1 : Old ⟨w, [[pb0]].flatten, Φ⟩ pG1 := Old.mk hΦ ph1.kn pd1
 unfold m_s_l1Str at h
 refine WT.seq <| WT.region <| lq (q_assign rfl) rfl <| WL.nil <| WT.seq <| WT.region <| lq (q_move rfl) rfl <| lq (q_move rfl) rfl <| lq (q_move rfl) rfl <| lq (q_lenR Sl_137 rfl rfl ph1) rfl ?_
 obtain ⟨x1, hx1, h⟩ := bind_some h
 refine lc (k_call (js := [0]) (R := []) Fun_59 rfl rfl (fun w1 hw ap hl => m_s_l1Below_ok hw.fro N p0 (p1.length : Int) ph0_0 pp0 (ap.o pa0_0) ap.nd hl hx1)) rfl (fun v1 Φ_1 F1 q1 => ?_)
 obtain ⟨ap1, fr1, rfl, rfl, e1, h1⟩ := q1
 replace ph1 := ph1.frame RS.lasts fr1 (ap1.o pa1)
 replace ph0_0 := ph0_0.frame RI.lasts fr1 (ap1.o pa0_0)
 obtain ⟨x2, hx2, h⟩ := bind_some h
 obtain ⟨cs1, F2, -, g1, hb1, hs1, r1⟩ := ph1.el (idx_some hx2).2.2
 obtain ⟨rfl, -⟩ := r1
 refine lq (q_indexAddr Sl_137 rfl rfl ph1 hx2) rfl <| lq (q_load1 T1_9 rfl (fun w1 hw => (g1.of_eq 0 1 rfl rfl : rg _ _ _ [.string x2]).rangeAt hw.fro)) rfl <| lq (q_assign rfl) rfl <| WL.nil ?_
 refine WT.ret Tryz.func101 (resOk.one rfl) (fun w1 hw => ?_)
 cases h
 refine postG_of_St (js := [0]) hw rfl ⟨rfl, rfl, rfl, h1⟩
theorem m_s_l6Val_ok {Φ : Hp} {w : World} (hΦ : In Φ w) (N : Nat) (p0 : TVal)   {r : TArg} (h : m_s_l6Val N p0 = some r) :
  Calls Tryz.prog 180 [.agg [.int .i64 p0.K, .int .i64 p0.N, .string p0.S].toArray].toArray w (Post (.agg [.int .i64 r.K, .string r.S, .int .i64 r.V.K, .int .i64 r.V.N, .string r.V.S].toArray) w) := by
 refine enter Tryz.func180 rfl Tryz.ntmps180 rfl (St.start0 hΦ) ?_
 unfold m_s_l6Val at h
 refine WT.seq <| WT.region ?_
 refine ln (n_box (C := #[.int .i64 p0.K, .int .i64 p0.N, .string p0.S]) rfl rfl) rfl (fun b_1 => ?_)
 refine ln (n_alloc (C := #[.int .i64 0, .string (⟨#[]⟩ : ByteArray), .int .i64 0, .int .i64 0, .string (⟨#[]⟩ : ByteArray)]) Zr_126 rfl) rfl (fun b_2 => ?_)
 refine WL.nil <| WT.seq <| WT.region <| lq (q_loadN Tn_121 rfl (fun w1 hw => hw.rgO (i := 1) rfl 0 3 [.int .i64 p0.K, .int .i64 p0.N, .string p0.S] rfl) rfl) rfl <| lq (q_build (vs := [(0, .int .i64 2), (2, .agg [.int .i64 p0.K, .int .i64 p0.N, .string p0.S].toArray)]) (C := #[.int .i64 2, .string (⟨#[]⟩ : ByteArray), .int .i64 p0.K, .int .i64 p0.N, .string p0.S]) Pl_126 Zr_126 rfl (fill_cons (cells := [.int .i64 0, .string ⟨#[]⟩, .int .i64 0, .int .i64 0, .string ⟨#[]⟩]) (c := [.int .i64 2]) (C' := [.int .i64 2, .string ⟨#[]⟩, .int .i64 0, .int .i64 0, .string ⟨#[]⟩]) rfl rfl rfl rfl rfl (fill_cons (cells := [.int .i64 2, .string ⟨#[]⟩, .int .i64 0, .int .i64 0, .string ⟨#[]⟩]) (c := [.int .i64 p0.K, .int .i64 p0.N, .string p0.S]) (C' := [.int .i64 2, .string ⟨#[]⟩, .int .i64 p0.K, .int .i64 p0.N, .string p0.S]) rfl rfl rfl rfl rfl (fill_nil)))) rfl ?_
 refine ls (s_store (i := 0) (vs := [.int .i64 2, .string (⟨#[]⟩ : ByteArray), .int .i64 p0.K, .int .i64 p0.N, .string p0.S]) (C' := [.int .i64 2, .string (⟨#[]⟩ : ByteArray), .int .i64 p0.K, .int .i64 p0.N, .string p0.S]) (O' := [(b_2, .cells #[.int .i64 2, .string (⟨#[]⟩ : ByteArray), .int .i64 p0.K, .int .i64 p0.N, .string p0.S] 126 (0, 0)), (b_1, .cells #[.int .i64 p0.K, .int .i64 p0.N, .string p0.S] 121 (0, 0))]) Sz_126 rfl rfl rfl rfl rfl rfl ⟨rfl, rfl, rfl, rfl, rfl, trivial⟩ rfl rfl) rfl ?_
 refine WL.nil ?_
 refine WT.ret Tryz.func180 (resOk.one (rv_cell Tn_126 rfl (fun w1 hw => hw.rgO (i := 0) rfl 0 5 [.int .i64 2, .string (⟨#[]⟩ : ByteArray), .int .i64 p0.K, .int .i64 p0.N, .string p0.S] rfl) rfl)) (fun w1 hw => ?_)
 cases h
 exact post_of_St hw
theorem m_s_l6Var_ok {Φ : Hp} {w : World} (hΦ : In Φ w) (N : Nat) (p0 : ByteArray)   {r : TArg} (h : m_s_l6Var N p0 = some r) :
  Calls Tryz.prog 181 [.string p0].toArray w (Post (.agg [.int .i64 r.K, .string r.S, .int .i64 r.V.K, .int .i64 r.V.N, .string r.V.S].toArray) w) := by
 refine enter Tryz.func181 rfl Tryz.ntmps181 rfl (St.start0 hΦ) ?_
 unfold m_s_l6Var at h
 refine WT.seq <| WT.region ?_
 refine ln (n_alloc (C := #[.int .i64 0, .string (⟨#[]⟩ : ByteArray), .int .i64 0, .int .i64 0, .string (⟨#[]⟩ : ByteArray)]) Zr_126 rfl) rfl (fun b_1 => ?_)
 refine WL.nil <| WT.seq <| WT.region <| lq (q_move rfl) rfl <| lq (q_build (vs := [(0, .int .i64 1), (1, .string p0)]) (C := #[.int .i64 1, .string p0, .int .i64 0, .int .i64 0, .string (⟨#[]⟩ : ByteArray)]) Pl_126 Zr_126 rfl (fill_cons (cells := [.int .i64 0, .string ⟨#[]⟩, .int .i64 0, .int .i64 0, .string ⟨#[]⟩]) (c := [.int .i64 1]) (C' := [.int .i64 1, .string ⟨#[]⟩, .int .i64 0, .int .i64 0, .string ⟨#[]⟩]) rfl rfl rfl rfl rfl (fill_cons (cells := [.int .i64 1, .string ⟨#[]⟩, .int .i64 0, .int .i64 0, .string ⟨#[]⟩]) (c := [.string p0]) (C' := [.int .i64 1, .string p0, .int .i64 0, .int .i64 0, .string ⟨#[]⟩]) rfl rfl rfl rfl rfl (fill_nil)))) rfl ?_
 refine ls (s_store (i := 0) (vs := [.int .i64 1, .string p0, .int .i64 0, .int .i64 0, .string (⟨#[]⟩ : ByteArray)]) (C' := [.int .i64 1, .string p0, .int .i64 0, .int .i64 0, .string (⟨#[]⟩ : ByteArray)]) (O' := [(b_1, .cells #[.int .i64 1, .string p0, .int .i64 0, .int .i64 0, .string (⟨#[]⟩ : ByteArray)] 126 (0, 0))]) Sz_126 rfl rfl rfl rfl rfl rfl ⟨rfl, rfl, rfl, rfl, rfl, trivial⟩ rfl rfl) rfl <| WL.nil ?_
 refine WT.ret Tryz.func181 (resOk.one (rv_cell Tn_126 rfl (fun w1 hw => hw.rgO (i := 0) rfl 0 5 [.int .i64 1, .string p0, .int .i64 0, .int .i64 0, .string (⟨#[]⟩ : ByteArray)] rfl) rfl)) (fun w1 hw => ?_)
 cases h
 exact post_of_St hw
theorem m_s_l3Small_ok {Φ : Hp} {w : World} (hΦ : In Φ w) (N : Nat) (p0 : Tl1Cur) {pv0_0 : Value} {pG0_0 : List Nat} {pb0 : Nat} (ph0_0 : RSl (RI .u8) 1 Φ pG0_0 pv0_0 p0.b) (pp0 : Φ pb0 = some (.cells #[pv0_0, .int .i64 p0.i, .int .i64 p0.h] 159 (0, 0))) (pd0_0 : Dj pG0_0 [[pb0]].flatten) (hB : [[pb0]].flatten.Nodup) (hlt : ∀ k ∈ [[pb0]].flatten, k < w.heap.size) {r : TVal × Tl1Cur} (h : m_s_l3Small N p0 = some r) :
  Calls Tryz.prog 183 [.pointer (some ⟨pb0, 0, none⟩)].toArray w (PostG Φ w [[pb0]].flatten (fun Φ' Fs v => v = .agg [.int .i64 r.1.K, .int .i64 r.1.N, .string r.1.S].toArray ∧ Fs = [[pb0]] ∧ r.2.b = p0.b ∧ Φ' pb0 = some (.cells #[pv0_0, .int .i64 r.2.i, .int .i64 r.2.h] 159 (0, 0)))) := by
 refine enter Tryz.func183 rfl Tryz.ntmps183 rfl (St.start hΦ [[pb0]] hB hlt) ?_
 have pa0_0 : Old ⟨w, [[pb0]].flatten, Φ⟩ pG0_0 := Old.mk hΦ ph0_0.kn pd0_0
 unfold m_s_l3Small at h
 refine WT.seq <| WT.region ?_
 refine ln (n_alloc (C := #[.int .i64 0, .int .i64 0, .string (⟨#[]⟩ : ByteArray)]) Zr_121 rfl) rfl (fun b_1 => ?_)
 refine WL.nil <| WT.seq <| WT.seq <| WT.region <| lq (q_move rfl) rfl ?_
 obtain ⟨x1, hx1, h⟩ := bind_some h
 refine lc (k_call (js := [0]) (R := []) Fun_47 rfl rfl (fun w1 hw ap hl => m_s_l1Once_ok hw.fro N p0 2 ph0_0 pp0 (ap.o pa0_0) ap.nd hl hx1)) rfl (fun v1 Φ_1 F1 q1 => ?_)
 obtain ⟨ap1, fr1, rfl, rfl, e1, h1⟩ := q1
 replace ph0_0 := ph0_0.frame RI.lasts fr1 (ap1.o pa0_0)
 refine WL.nil ?_
 refine WT.cond rfl (fun c1 => ?_) (fun c1 => ?_)
 ·replace h := ite_t h c1
  refine WT.seq <| WT.region <| lq (q_move rfl) rfl ?_
  obtain ⟨x2, hx2, h⟩ := bind_some h
  refine lc (k_call (js := [0]) (R := []) Fun_59 rfl rfl (fun w1 hw ap hl => m_s_l1Below_ok hw.fro N (⟨p0.b, x1.2.i, x1.2.h⟩ : Tl1Cur) 3 ph0_0 h1 (ap.o pa0_0) ap.nd hl hx2)) rfl (fun v2 Φ_2 F2 q2 => ?_)
  obtain ⟨ap2, fr2, rfl, rfl, e2, h2⟩ := q2
  replace ph0_0 := ph0_0.frame RI.lasts fr2 (ap2.o pa0_0)
  refine lq (q_add rfl rfl) rfl <| lq (q_build (vs := [(0, .int .i64 1), (1, .int .i64 (IntKind.i64.wrap (1 + x2.1)))]) (C := #[.int .i64 1, .int .i64 (IntKind.i64.wrap (1 + x2.1)), .string (⟨#[]⟩ : ByteArray)]) Pl_121 Zr_121 rfl (fill_cons (cells := [.int .i64 0, .int .i64 0, .string ⟨#[]⟩]) (c := [.int .i64 1]) (C' := [.int .i64 1, .int .i64 0, .string ⟨#[]⟩]) rfl rfl rfl rfl rfl (fill_cons (cells := [.int .i64 1, .int .i64 0, .string ⟨#[]⟩]) (c := [.int .i64 (IntKind.i64.wrap (1 + x2.1))]) (C' := [.int .i64 1, .int .i64 (IntKind.i64.wrap (1 + x2.1)), .string ⟨#[]⟩]) rfl rfl rfl rfl rfl (fill_nil)))) rfl ?_
  refine ls (s_store (i := 0) (vs := [.int .i64 1, .int .i64 (IntKind.i64.wrap (1 + x2.1)), .string (⟨#[]⟩ : ByteArray)]) (C' := [.int .i64 1, .int .i64 (IntKind.i64.wrap (1 + x2.1)), .string (⟨#[]⟩ : ByteArray)]) (O' := [(b_1, .cells #[.int .i64 1, .int .i64 (IntKind.i64.wrap (1 + x2.1)), .string (⟨#[]⟩ : ByteArray)] 121 (0, 0))]) Sz_121 rfl rfl rfl rfl rfl rfl ⟨rfl, rfl, rfl, trivial⟩ rfl rfl) rfl <| WL.nil ?_
  refine WT.ret Tryz.func183 (resOk.one (rv_cell Tn_121 rfl (fun w1 hw => hw.rgO (i := 0) rfl 0 3 [.int .i64 1, .int .i64 (IntKind.i64.wrap (1 + x2.1)), .string (⟨#[]⟩ : ByteArray)] rfl) rfl)) (fun w1 hw => ?_)
  cases h
  refine postG_of_St (js := [0]) hw rfl ⟨rfl, rfl, rfl, h2⟩
 replace h := ite_f h c1
 refine WT.skip <| WT.seq <| WT.region <| lq (q_move rfl) rfl ?_
 have rc1 : RC RS 1 Φ_1 ([[], []] : List (List Nat)) [.string (⟨#[97]⟩ : ByteArray), .string (⟨#[98]⟩ : ByteArray)] ([(⟨#[97]⟩ : ByteArray), (⟨#[98]⟩ : ByteArray)] : List ByteArray) := RC.cons (c := [.string (⟨#[97]⟩ : ByteArray)]) (cells := [.string (⟨#[98]⟩ : ByteArray)]) ⟨rfl, rfl⟩ rfl (RC.cons (c := [.string (⟨#[98]⟩ : ByteArray)]) (cells := []) ⟨rfl, rfl⟩ rfl (RC.nil _ _ _))
 refine le' (e_lit (vs := [(0, .string (⟨#[97]⟩ : ByteArray)), (1, .string (⟨#[98]⟩ : ByteArray))]) (C := #[.string (⟨#[97]⟩ : ByteArray), .string (⟨#[98]⟩ : ByteArray)]) RS.lasts Sl_137 Zr_9 rfl rfl rfl rfl (fill_made MC_9_2 (fill_cons (cells := [.string ⟨#[]⟩, .string ⟨#[]⟩]) (c := [.string (⟨#[97]⟩ : ByteArray)]) (C' := [.string (⟨#[97]⟩ : ByteArray), .string ⟨#[]⟩]) rfl rfl rfl rfl rfl (fill_cons (cells := [.string (⟨#[97]⟩ : ByteArray), .string ⟨#[]⟩]) (c := [.string (⟨#[98]⟩ : ByteArray)]) (C' := [.string (⟨#[97]⟩ : ByteArray), .string (⟨#[98]⟩ : ByteArray)]) rfl rfl rfl rfl rfl (fill_nil)))) rfl rc1 rfl (by simpa using Kw.nil)) rfl (fun v3 Φ_3 D1 q3 => ?_)
 obtain ⟨fr3, h3⟩ := q3
 replace h3 : OSl RS 9 1 Φ_3 [] v3 ([(⟨#[97]⟩ : ByteArray), (⟨#[98]⟩ : ByteArray)] : List ByteArray) := by simpa using h3
 replace ph0_0 := ph0_0.frame RI.lasts fr3 (Dj.empty _)
 replace h1 := fr3 _ _ (by simp) h1
 obtain ⟨x3, hx3, h⟩ := bind_some h
 refine lc (k_call (js := [1]) (R := [ob v3]) Fun_101 rfl rfl (fun w1 hw ap hl => m_s_l1Str_ok hw.fro N (⟨p0.b, x1.2.i, x1.2.h⟩ : Tl1Cur) ([(⟨#[97]⟩ : ByteArray), (⟨#[98]⟩ : ByteArray)] : List ByteArray) ph0_0 h1 h3.rsl (ap.o pa0_0) (Dj.app (ap.r (i := 0) rfl) (Dj.nil _)) ap.nd hl hx3)) rfl (fun v4 Φ_4 F3 q4 => ?_)
 obtain ⟨ap3, fr4, rfl, rfl, e3, h4⟩ := q4
 replace ph0_0 := ph0_0.frame RI.lasts fr4 (ap3.o pa0_0)
 refine lq (q_build (vs := [(0, .int .i64 2), (2, .string x3.1)]) (C := #[.int .i64 2, .int .i64 0, .string x3.1]) Pl_121 Zr_121 rfl (fill_cons (cells := [.int .i64 0, .int .i64 0, .string ⟨#[]⟩]) (c := [.int .i64 2]) (C' := [.int .i64 2, .int .i64 0, .string ⟨#[]⟩]) rfl rfl rfl rfl rfl (fill_cons (cells := [.int .i64 2, .int .i64 0, .string ⟨#[]⟩]) (c := [.string x3.1]) (C' := [.int .i64 2, .int .i64 0, .string x3.1]) rfl rfl rfl rfl rfl (fill_nil)))) rfl ?_
 refine ls (s_store (i := 0) (vs := [.int .i64 2, .int .i64 0, .string x3.1]) (C' := [.int .i64 2, .int .i64 0, .string x3.1]) (O' := [(b_1, .cells #[.int .i64 2, .int .i64 0, .string x3.1] 121 (0, 0))]) Sz_121 rfl rfl rfl rfl rfl rfl ⟨rfl, rfl, rfl, trivial⟩ rfl rfl) rfl <| WL.nil ?_
 refine WT.ret Tryz.func183 (resOk.one (rv_cell Tn_121 rfl (fun w1 hw => hw.rgO (i := 0) rfl 0 3 [.int .i64 2, .int .i64 0, .string x3.1] rfl) rfl)) (fun w1 hw => ?_)
 cases h
 refine postG_of_St (js := [0]) hw rfl ⟨rfl, rfl, rfl, h4⟩
theorem m_s_l6Arg_ok {Φ : Hp} {w : World} (hΦ : In Φ w) (N : Nat) (p0 : Tl1Cur) {pv0_0 : Value} {pG0_0 : List Nat} {pb0 : Nat} (ph0_0 : RSl (RI .u8) 1 Φ pG0_0 pv0_0 p0.b) (pp0 : Φ pb0 = some (.cells #[pv0_0, .int .i64 p0.i, .int .i64 p0.h] 159 (0, 0))) (pd0_0 : Dj pG0_0 [[pb0]].flatten) (hB : [[pb0]].flatten.Nodup) (hlt : ∀ k ∈ [[pb0]].flatten, k < w.heap.size) {r : TArg × Tl1Cur} (h : m_s_l6Arg N p0 = some r) :
  Calls Tryz.prog 175 [.pointer (some ⟨pb0, 0, none⟩)].toArray w (PostG Φ w [[pb0]].flatten (fun Φ' Fs v => v = .agg [.int .i64 r.1.K, .string r.1.S, .int .i64 r.1.V.K, .int .i64 r.1.V.N, .string r.1.V.S].toArray ∧ Fs = [[pb0]] ∧ r.2.b = p0.b ∧ Φ' pb0 = some (.cells #[pv0_0, .int .i64 r.2.i, .int .i64 r.2.h] 159 (0, 0)))) := by
 refine enter Tryz.func175 rfl Tryz.ntmps175 rfl (St.start hΦ [[pb0]] hB hlt) ?_
 have pa0_0 : Old ⟨w, [[pb0]].flatten, Φ⟩ pG0_0 := Old.mk hΦ ph0_0.kn pd0_0
 unfold m_s_l6Arg at h
 refine WT.seq <| WT.region ?_
 refine ln (n_alloc (C := #[.int .i64 0, .string (⟨#[]⟩ : ByteArray), .int .i64 0, .int .i64 0, .string (⟨#[]⟩ : ByteArray)]) Zr_126 rfl) rfl (fun b_1 => ?_)
 refine WL.nil <| WT.seq <| WT.seq <| WT.region <| lq (q_move rfl) rfl ?_
 obtain ⟨x1, hx1, h⟩ := bind_some h
 refine lc (k_call (js := [0]) (R := []) Fun_59 rfl rfl (fun w1 hw ap hl => m_s_l1Below_ok hw.fro N p0 6 ph0_0 pp0 (ap.o pa0_0) ap.nd hl hx1)) rfl (fun v1 Φ_1 F1 q1 => ?_)
 obtain ⟨ap1, fr1, rfl, rfl, e1, h1⟩ := q1
 replace ph0_0 := ph0_0.frame RI.lasts fr1 (ap1.o pa0_0)
 refine WL.nil <| WT.block <| WT.seq <| WT.region <| lq (q_eql rfl rfl) rfl <| lq (q_assign rfl) rfl <| WL.nil ?_
 refine WT.cond rfl (fun c1 => ?_) (fun c1 => ?_)
 ·replace h := ite_t h c1
  refine WT.seq <| WT.region <| lq (q_build (vs := [(0, .int .i64 3)]) (C := #[.int .i64 3, .string (⟨#[]⟩ : ByteArray), .int .i64 0, .int .i64 0, .string (⟨#[]⟩ : ByteArray)]) Pl_126 Zr_126 rfl (fill_cons (cells := [.int .i64 0, .string ⟨#[]⟩, .int .i64 0, .int .i64 0, .string ⟨#[]⟩]) (c := [.int .i64 3]) (C' := [.int .i64 3, .string ⟨#[]⟩, .int .i64 0, .int .i64 0, .string ⟨#[]⟩]) rfl rfl rfl rfl rfl (fill_nil))) rfl ?_
  refine ls (s_store (i := 0) (vs := [.int .i64 3, .string (⟨#[]⟩ : ByteArray), .int .i64 0, .int .i64 0, .string (⟨#[]⟩ : ByteArray)]) (C' := [.int .i64 3, .string (⟨#[]⟩ : ByteArray), .int .i64 0, .int .i64 0, .string (⟨#[]⟩ : ByteArray)]) (O' := [(b_1, .cells #[.int .i64 3, .string (⟨#[]⟩ : ByteArray), .int .i64 0, .int .i64 0, .string (⟨#[]⟩ : ByteArray)] 126 (0, 0))]) Sz_126 rfl rfl rfl rfl rfl rfl ⟨rfl, rfl, rfl, rfl, rfl, trivial⟩ rfl rfl) rfl ?_
  refine WL.nil ?_
  refine WT.ret Tryz.func175 (resOk.one (rv_cell Tn_126 rfl (fun w1 hw => hw.rgO (i := 0) rfl 0 5 [.int .i64 3, .string (⟨#[]⟩ : ByteArray), .int .i64 0, .int .i64 0, .string (⟨#[]⟩ : ByteArray)] rfl) rfl)) (fun w1 hw => ?_)
  cases h
  refine postG_of_St (js := [0]) hw rfl ⟨rfl, rfl, rfl, h1⟩
 replace h := ite_f h c1
 refine WT.seq <| WT.region <| lq (q_eql rfl rfl) rfl <| lq (q_assign rfl) rfl <| WL.nil ?_
 refine WT.cond rfl (fun c2 => ?_) (fun c2 => ?_)
 ·replace h := ite_t h c2
  refine WT.seq <| WT.region <| lq (q_move rfl) rfl ?_
  obtain ⟨x2, hx2, h⟩ := bind_some h
  refine lc (k_call (js := [0]) (R := []) Fun_183 rfl rfl (fun w1 hw ap hl => m_s_l3Small_ok hw.fro N (⟨p0.b, x1.2.i, x1.2.h⟩ : Tl1Cur) ph0_0 h1 (ap.o pa0_0) ap.nd hl hx2)) rfl (fun v2 Φ_2 F2 q2 => ?_)
  obtain ⟨ap2, fr2, rfl, rfl, e2, h2⟩ := q2
  replace ph0_0 := ph0_0.frame RI.lasts fr2 (ap2.o pa0_0)
  obtain ⟨x3, hx3, h⟩ := bind_some h
  refine lp (p_call Fun_180 rfl (fun w1 hw => m_s_l6Val_ok hw.fro N x2.1 hx3)) rfl <| ls (s_store (i := 0) (vs := [.int .i64 x3.K, .string x3.S, .int .i64 x3.V.K, .int .i64 x3.V.N, .string x3.V.S]) (C' := [.int .i64 x3.K, .string x3.S, .int .i64 x3.V.K, .int .i64 x3.V.N, .string x3.V.S]) (O' := [(b_1, .cells #[.int .i64 x3.K, .string x3.S, .int .i64 x3.V.K, .int .i64 x3.V.N, .string x3.V.S] 126 (0, 0))]) Sz_126 rfl rfl rfl rfl rfl rfl ⟨rfl, rfl, rfl, rfl, rfl, trivial⟩ rfl rfl) rfl ?_
  refine WL.nil ?_
  refine WT.ret Tryz.func175 (resOk.one (rv_cell Tn_126 rfl (fun w1 hw => hw.rgO (i := 0) rfl 0 5 [.int .i64 x3.K, .string x3.S, .int .i64 x3.V.K, .int .i64 x3.V.N, .string x3.V.S] rfl) rfl)) (fun w1 hw => ?_)
  cases h
  refine postG_of_St (js := [0]) hw rfl ⟨rfl, rfl, rfl, h2⟩
 replace h := ite_f h c2
 refine WT.skip <| WT.inBlock <| WT.seq <| WT.region <| lq (q_move rfl) rfl ?_
 have rc1 : RC RS 1 Φ_1 ([[], [], [], []] : List (List Nat)) [.string (⟨#[88]⟩ : ByteArray), .string (⟨#[89]⟩ : ByteArray), .string (⟨#[90]⟩ : ByteArray), .string (⟨#[88]⟩ : ByteArray)] ([(⟨#[88]⟩ : ByteArray), (⟨#[89]⟩ : ByteArray), (⟨#[90]⟩ : ByteArray), (⟨#[88]⟩ : ByteArray)] : List ByteArray) := RC.cons (c := [.string (⟨#[88]⟩ : ByteArray)]) (cells := [.string (⟨#[89]⟩ : ByteArray), .string (⟨#[90]⟩ : ByteArray), .string (⟨#[88]⟩ : ByteArray)]) ⟨rfl, rfl⟩ rfl (RC.cons (c := [.string (⟨#[89]⟩ : ByteArray)]) (cells := [.string (⟨#[90]⟩ : ByteArray), .string (⟨#[88]⟩ : ByteArray)]) ⟨rfl, rfl⟩ rfl (RC.cons (c := [.string (⟨#[90]⟩ : ByteArray)]) (cells := [.string (⟨#[88]⟩ : ByteArray)]) ⟨rfl, rfl⟩ rfl (RC.cons (c := [.string (⟨#[88]⟩ : ByteArray)]) (cells := []) ⟨rfl, rfl⟩ rfl (RC.nil _ _ _))))
 refine le' (e_lit (vs := [(0, .string (⟨#[88]⟩ : ByteArray)), (1, .string (⟨#[89]⟩ : ByteArray)), (2, .string (⟨#[90]⟩ : ByteArray)), (3, .string (⟨#[88]⟩ : ByteArray))]) (C := #[.string (⟨#[88]⟩ : ByteArray), .string (⟨#[89]⟩ : ByteArray), .string (⟨#[90]⟩ : ByteArray), .string (⟨#[88]⟩ : ByteArray)]) RS.lasts Sl_137 Zr_9 rfl rfl rfl rfl (fill_made MC_9_4 (fill_cons (cells := [.string ⟨#[]⟩, .string ⟨#[]⟩, .string ⟨#[]⟩, .string ⟨#[]⟩]) (c := [.string (⟨#[88]⟩ : ByteArray)]) (C' := [.string (⟨#[88]⟩ : ByteArray), .string ⟨#[]⟩, .string ⟨#[]⟩, .string ⟨#[]⟩]) rfl rfl rfl rfl rfl (fill_cons (cells := [.string (⟨#[88]⟩ : ByteArray), .string ⟨#[]⟩, .string ⟨#[]⟩, .string ⟨#[]⟩]) (c := [.string (⟨#[89]⟩ : ByteArray)]) (C' := [.string (⟨#[88]⟩ : ByteArray), .string (⟨#[89]⟩ : ByteArray), .string ⟨#[]⟩, .string ⟨#[]⟩]) rfl rfl rfl rfl rfl (fill_cons (cells := [.string (⟨#[88]⟩ : ByteArray), .string (⟨#[89]⟩ : ByteArray), .string ⟨#[]⟩, .string ⟨#[]⟩]) (c := [.string (⟨#[90]⟩ : ByteArray)]) (C' := [.string (⟨#[88]⟩ : ByteArray), .string (⟨#[89]⟩ : ByteArray), .string (⟨#[90]⟩ : ByteArray), .string ⟨#[]⟩]) rfl rfl rfl rfl rfl (fill_cons (cells := [.string (⟨#[88]⟩ : ByteArray), .string (⟨#[89]⟩ : ByteArray), .string (⟨#[90]⟩ : ByteArray), .string ⟨#[]⟩]) (c := [.string (⟨#[88]⟩ : ByteArray)]) (C' := [.string (⟨#[88]⟩ : ByteArray), .string (⟨#[89]⟩ : ByteArray), .string (⟨#[90]⟩ : ByteArray), .string (⟨#[88]⟩ : ByteArray)]) rfl rfl rfl rfl rfl (fill_nil)))))) rfl rc1 rfl (by simpa using Kw.nil)) rfl (fun v3 Φ_3 D1 q3 => ?_)
 obtain ⟨fr3, h3⟩ := q3
 replace h3 : OSl RS 9 1 Φ_3 [] v3 ([(⟨#[88]⟩ : ByteArray), (⟨#[89]⟩ : ByteArray), (⟨#[90]⟩ : ByteArray), (⟨#[88]⟩ : ByteArray)] : List ByteArray) := by simpa using h3
 replace ph0_0 := ph0_0.frame RI.lasts fr3 (Dj.empty _)
 replace h1 := fr3 _ _ (by simp) h1
 obtain ⟨x4, hx4, h⟩ := bind_some h
 refine lc (k_call (js := [1]) (R := [ob v3]) Fun_101 rfl rfl (fun w1 hw ap hl => m_s_l1Str_ok hw.fro N (⟨p0.b, x1.2.i, x1.2.h⟩ : Tl1Cur) ([(⟨#[88]⟩ : ByteArray), (⟨#[89]⟩ : ByteArray), (⟨#[90]⟩ : ByteArray), (⟨#[88]⟩ : ByteArray)] : List ByteArray) ph0_0 h1 h3.rsl (ap.o pa0_0) (Dj.app (ap.r (i := 0) rfl) (Dj.nil _)) ap.nd hl hx4)) rfl (fun v4 Φ_4 F3 q4 => ?_)
 obtain ⟨ap3, fr4, rfl, rfl, e3, h4⟩ := q4
 replace ph0_0 := ph0_0.frame RI.lasts fr4 (ap3.o pa0_0)
 obtain ⟨x5, hx5, h⟩ := bind_some h
 refine lp (p_call Fun_181 rfl (fun w1 hw => m_s_l6Var_ok hw.fro N x4.1 hx5)) rfl <| ls (s_store (i := 0) (vs := [.int .i64 x5.K, .string x5.S, .int .i64 x5.V.K, .int .i64 x5.V.N, .string x5.V.S]) (C' := [.int .i64 x5.K, .string x5.S, .int .i64 x5.V.K, .int .i64 x5.V.N, .string x5.V.S]) (O' := [(b_1, .cells #[.int .i64 x5.K, .string x5.S, .int .i64 x5.V.K, .int .i64 x5.V.N, .string x5.V.S] 126 (0, 0))]) Sz_126 rfl rfl rfl rfl rfl rfl ⟨rfl, rfl, rfl, rfl, rfl, trivial⟩ rfl rfl) rfl ?_
 refine WL.nil ?_
 refine WT.ret Tryz.func175 (resOk.one (rv_cell Tn_126 rfl (fun w1 hw => hw.rgO (i := 0) rfl 0 5 [.int .i64 x5.K, .string x5.S, .int .i64 x5.V.K, .int .i64 x5.V.N, .string x5.V.S] rfl) rfl)) (fun w1 hw => ?_)
 cases h
 refine postG_of_St (js := [0]) hw rfl ⟨rfl, rfl, rfl, h4⟩
theorem m_s_l6Draw_ok {Φ : Hp} {w : World} (hΦ : In Φ w) (N : Nat) (p0 : Tl1Cur) (p1 : Bool) {pv0_0 : Value} {pG0_0 : List Nat} {pb0 : Nat} (ph0_0 : RSl (RI .u8) 1 Φ pG0_0 pv0_0 p0.b) (pp0 : Φ pb0 = some (.cells #[pv0_0, .int .i64 p0.i, .int .i64 p0.h] 159 (0, 0))) (pd0_0 : Dj pG0_0 [[pb0]].flatten) (hB : [[pb0]].flatten.Nodup) (hlt : ∀ k ∈ [[pb0]].flatten, k < w.heap.size) {r : TPat × Tl1Cur} (h : m_s_l6Draw N p0 p1 = some r) :
  Calls Tryz.prog 114 [.pointer (some ⟨pb0, 0, none⟩), .bool p1].toArray w (PostG Φ w [[pb0]].flatten (fun Φ' Fs v => ∃ (sr_0_0 : Value), v = .agg [.string r.1.Kind, sr_0_0, .bool r.1.Not].toArray ∧ Fs = [ob sr_0_0, [pb0]] ∧ OSl RTArg 126 5 Φ' [] sr_0_0 r.1.Args ∧ r.2.b = p0.b ∧ Φ' pb0 = some (.cells #[pv0_0, .int .i64 r.2.i, .int .i64 r.2.h] 159 (0, 0)))) := by
 refine enter Tryz.func114 rfl Tryz.ntmps114 rfl (St.start hΦ [[pb0]] hB hlt) ?_
 have pa0_0 : Old ⟨w, [[pb0]].flatten, Φ⟩ pG0_0 := Old.mk hΦ ph0_0.kn pd0_0
 revert pa0_0
 generalize hb0 : (⟨w, [[pb0]].flatten, Φ⟩ : Base) = w0
 intro pa0_0
 unfold m_s_l6Draw at h
 refine WT.seq <| WT.region ?_
 refine ln (n_alloc (C := #[.string (⟨#[]⟩ : ByteArray), .slice none 0 0, .bool false]) Zr_114 rfl) rfl (fun b_1 => ?_)
 refine WL.nil <| WT.seq <| WT.region <| lq (q_move rfl) rfl ?_
 have rc1 : RC RS 1 Φ ([[], [], [], []] : List (List Nat)) [.string (⟨#[111, 114, 100, 101, 114]⟩ : ByteArray), .string (⟨#[112, 97, 105, 100]⟩ : ByteArray), .string (⟨#[105, 116, 101, 109]⟩ : ByteArray), .string (⟨#[111, 114, 100, 101, 114]⟩ : ByteArray)] ([(⟨#[111, 114, 100, 101, 114]⟩ : ByteArray), (⟨#[112, 97, 105, 100]⟩ : ByteArray), (⟨#[105, 116, 101, 109]⟩ : ByteArray), (⟨#[111, 114, 100, 101, 114]⟩ : ByteArray)] : List ByteArray) := RC.cons (c := [.string (⟨#[111, 114, 100, 101, 114]⟩ : ByteArray)]) (cells := [.string (⟨#[112, 97, 105, 100]⟩ : ByteArray), .string (⟨#[105, 116, 101, 109]⟩ : ByteArray), .string (⟨#[111, 114, 100, 101, 114]⟩ : ByteArray)]) ⟨rfl, rfl⟩ rfl (RC.cons (c := [.string (⟨#[112, 97, 105, 100]⟩ : ByteArray)]) (cells := [.string (⟨#[105, 116, 101, 109]⟩ : ByteArray), .string (⟨#[111, 114, 100, 101, 114]⟩ : ByteArray)]) ⟨rfl, rfl⟩ rfl (RC.cons (c := [.string (⟨#[105, 116, 101, 109]⟩ : ByteArray)]) (cells := [.string (⟨#[111, 114, 100, 101, 114]⟩ : ByteArray)]) ⟨rfl, rfl⟩ rfl (RC.cons (c := [.string (⟨#[111, 114, 100, 101, 114]⟩ : ByteArray)]) (cells := []) ⟨rfl, rfl⟩ rfl (RC.nil _ _ _))))
 refine le' (e_lit (vs := [(0, .string (⟨#[111, 114, 100, 101, 114]⟩ : ByteArray)), (1, .string (⟨#[112, 97, 105, 100]⟩ : ByteArray)), (2, .string (⟨#[105, 116, 101, 109]⟩ : ByteArray)), (3, .string (⟨#[111, 114, 100, 101, 114]⟩ : ByteArray))]) (C := #[.string (⟨#[111, 114, 100, 101, 114]⟩ : ByteArray), .string (⟨#[112, 97, 105, 100]⟩ : ByteArray), .string (⟨#[105, 116, 101, 109]⟩ : ByteArray), .string (⟨#[111, 114, 100, 101, 114]⟩ : ByteArray)]) RS.lasts Sl_137 Zr_9 rfl rfl rfl rfl (fill_made MC_9_4 (fill_cons (cells := [.string ⟨#[]⟩, .string ⟨#[]⟩, .string ⟨#[]⟩, .string ⟨#[]⟩]) (c := [.string (⟨#[111, 114, 100, 101, 114]⟩ : ByteArray)]) (C' := [.string (⟨#[111, 114, 100, 101, 114]⟩ : ByteArray), .string ⟨#[]⟩, .string ⟨#[]⟩, .string ⟨#[]⟩]) rfl rfl rfl rfl rfl (fill_cons (cells := [.string (⟨#[111, 114, 100, 101, 114]⟩ : ByteArray), .string ⟨#[]⟩, .string ⟨#[]⟩, .string ⟨#[]⟩]) (c := [.string (⟨#[112, 97, 105, 100]⟩ : ByteArray)]) (C' := [.string (⟨#[111, 114, 100, 101, 114]⟩ : ByteArray), .string (⟨#[112, 97, 105, 100]⟩ : ByteArray), .string ⟨#[]⟩, .string ⟨#[]⟩]) rfl rfl rfl rfl rfl (fill_cons (cells := [.string (⟨#[111, 114, 100, 101, 114]⟩ : ByteArray), .string (⟨#[112, 97, 105, 100]⟩ : ByteArray), .string ⟨#[]⟩, .string ⟨#[]⟩]) (c := [.string (⟨#[105, 116, 101, 109]⟩ : ByteArray)]) (C' := [.string (⟨#[111, 114, 100, 101, 114]⟩ : ByteArray), .string (⟨#[112, 97, 105, 100]⟩ : ByteArray), .string (⟨#[105, 116, 101, 109]⟩ : ByteArray), .string ⟨#[]⟩]) rfl rfl rfl rfl rfl (fill_cons (cells := [.string (⟨#[111, 114, 100, 101, 114]⟩ : ByteArray), .string (⟨#[112, 97, 105, 100]⟩ : ByteArray), .string (⟨#[105, 116, 101, 109]⟩ : ByteArray), .string ⟨#[]⟩]) (c := [.string (⟨#[111, 114, 100, 101, 114]⟩ : ByteArray)]) (C' := [.string (⟨#[111, 114, 100, 101, 114]⟩ : ByteArray), .string (⟨#[112, 97, 105, 100]⟩ : ByteArray), .string (⟨#[105, 116, 101, 109]⟩ : ByteArray), .string (⟨#[111, 114, 100, 101, 114]⟩ : ByteArray)]) rfl rfl rfl rfl rfl (fill_nil)))))) rfl rc1 rfl (by simpa using Kw.nil)) rfl (fun v1 Φ_1 D1 q1 => ?_)
 obtain ⟨fr1, h1⟩ := q1
 replace h1 : OSl RS 9 1 Φ_1 [] v1 ([(⟨#[111, 114, 100, 101, 114]⟩ : ByteArray), (⟨#[112, 97, 105, 100]⟩ : ByteArray), (⟨#[105, 116, 101, 109]⟩ : ByteArray), (⟨#[111, 114, 100, 101, 114]⟩ : ByteArray)] : List ByteArray) := by simpa using h1
 replace ph0_0 := ph0_0.frame RI.lasts fr1 (Dj.empty _)
 replace pp0 := fr1 _ _ (by simp) pp0
 obtain ⟨x1, hx1, h⟩ := bind_some h
 refine lc (k_call (js := [1]) (R := [ob v1]) Fun_101 rfl rfl (fun w1 hw ap hl => m_s_l1Str_ok hw.fro N p0 ([(⟨#[111, 114, 100, 101, 114]⟩ : ByteArray), (⟨#[112, 97, 105, 100]⟩ : ByteArray), (⟨#[105, 116, 101, 109]⟩ : ByteArray), (⟨#[111, 114, 100, 101, 114]⟩ : ByteArray)] : List ByteArray) ph0_0 pp0 h1.rsl (ap.o pa0_0) (Dj.app (ap.r (i := 0) rfl) (Dj.nil _)) ap.nd hl hx1)) rfl (fun v2 Φ_2 F1 q2 => ?_)
 obtain ⟨ap1, fr2, rfl, rfl, e1, h2⟩ := q2
 replace ph0_0 := ph0_0.frame RI.lasts fr2 (ap1.o pa0_0)
 refine lq (q_move rfl) rfl <| lq (q_build (vs := [(0, .string x1.1), (2, .bool p1)]) (C := #[.string x1.1, .slice none 0 0, .bool p1]) Pl_114 Zr_114 rfl (fill_cons (cells := [.string ⟨#[]⟩, .slice none 0 0, .bool false]) (c := [.string x1.1]) (C' := [.string x1.1, .slice none 0 0, .bool false]) rfl rfl rfl rfl rfl (fill_cons (cells := [.string x1.1, .slice none 0 0, .bool false]) (c := [.bool p1]) (C' := [.string x1.1, .slice none 0 0, .bool p1]) rfl rfl rfl rfl rfl (fill_nil)))) rfl ?_
 refine ln (n_alloc (C := #[.string (⟨#[]⟩ : ByteArray), .slice none 0 0, .bool false]) Zr_114 rfl) rfl (fun b_2 => ?_)
 refine ls (s_store (i := 0) (vs := [.string x1.1, .slice none 0 0, .bool p1]) (C' := [.string x1.1, .slice none 0 0, .bool p1]) (O' := [(b_2, .cells #[.string x1.1, .slice none 0 0, .bool p1] 114 (0, 0)), (b_1, .cells #[.string (⟨#[]⟩ : ByteArray), .slice none 0 0, .bool false] 114 (0, 0))]) Sz_114 rfl rfl rfl rfl rfl rfl ⟨rfl, rfl, rfl, trivial⟩ rfl rfl) rfl <| WL.nil <| WT.seq <| WT.region <| lq (q_assign rfl) rfl <| WL.nil ?_
 refine WT.seq <| WT.seq <| WT.region <| lq (q_fieldAddr Fld_114_0 rfl) rfl <| lq (q_load1 T1_9 rfl (fun w1 hw => hw.rgO (i := 0) rfl 0 1 [.string x1.1] rfl)) rfl <| lq (q_seq rfl rfl) rfl <| WL.nil ?_
 refine cut (σ := Int) (fun s => [(0, .pointer (some ⟨pb0, 0, none⟩)), (4, .pointer (some ⟨b_1, 0, none⟩)), (5, .pointer (some ⟨b_2, 0, none⟩)), (6, .int .i64 s)]) (fun s => St w0 Φ_2 [(b_2, .cells #[.string x1.1, .slice none 0 0, .bool p1] 114 (0, 0)), (b_1, .cells #[.string (⟨#[]⟩ : ByteArray), .slice none 0 0, .bool false] 114 (0, 0))] [[pb0]]) (fun s => m_s_l6Draw_j1 N p0 p1 x1 s = some r) (fun s hm => ?_) (fun K => ?_)
 ·clear h
  revert hm; revert s; intro s1 hm
  have h : m_s_l6Draw_j1 N p0 p1 x1 s1 = some r := hm
  show WT _ _ [(0, .pointer (some ⟨pb0, 0, none⟩)), (4, .pointer (some ⟨b_1, 0, none⟩)), (5, .pointer (some ⟨b_2, 0, none⟩)), (6, .int .i64 s1)] (St w0 Φ_2 [(b_2, .cells #[.string x1.1, .slice none 0 0, .bool p1] 114 (0, 0)), (b_1, .cells #[.string (⟨#[]⟩ : ByteArray), .slice none 0 0, .bool false] 114 (0, 0))] [[pb0]])
  unfold m_s_l6Draw_j1 at h
  refine WT.seq <| WT.seq <| WT.region <| lq (q_assign rfl) rfl <| WL.nil <| WT.block <| WT.loop <| WT.conv (S' := St w0 Φ_2 [(b_2, .cells #[.string x1.1, .slice none 0 0, .bool p1] 114 (0, 0)), (b_1, .cells #[.string (⟨#[]⟩ : ByteArray), .slice none 0 0, .bool false] 114 (0, 0))] (ob (.slice none 0 0) :: [[pb0]])) (fun w1 hw => hw.addNil) ?_
  have k1 := OSl.nil RTArg 126 5 Φ_2
  refine WT.mono (l' := [(0, .pointer (some ⟨pb0, 0, none⟩)), (4, .pointer (some ⟨b_1, 0, none⟩)), (5, .pointer (some ⟨b_2, 0, none⟩)), (6, .int .i64 s1), (7, .int .i64 0)]) (S' := St w0 Φ_2 [(b_2, .cells #[.string x1.1, (.slice none 0 0), .bool p1] 114 (0, 0)), (b_1, .cells #[.string (⟨#[]⟩ : ByteArray), .slice none 0 0, .bool false] 114 (0, 0))] [ob (.slice none 0 0), [pb0]]) ⟨rfl, rfl, rfl, rfl, rfl, trivial⟩ (fun w1 hw => (hw.sel (js := [0, 0]) rfl).selO (js := [0, 0]) rfl) ?_
  refine loop_ind (σ := Hp × (List TArg) × Value × Int × Int × Int) (fun s => [(0, .pointer (some ⟨pb0, 0, none⟩)), (4, .pointer (some ⟨b_1, 0, none⟩)), (5, .pointer (some ⟨b_2, 0, none⟩)), (6, .int .i64 s1), (7, .int .i64 s.2.2.2.1)]) (fun s => St w0 s.1 [(b_2, .cells #[.string x1.1, s.2.2.1, .bool p1] 114 (0, 0)), (b_1, .cells #[.string (⟨#[]⟩ : ByteArray), .slice none 0 0, .bool false] 114 (0, 0))] [ob s.2.2.1, [pb0]]) (fun m s => m_s_l6Draw_l2 N p0 p1 x1 s1 m s.2.1 s.2.2.2.1 s.2.2.2.2.1 s.2.2.2.2.2 = some r ∧ (OSl RTArg 126 5 s.1 [] s.2.2.1 s.2.1) ∧ (s.1 pb0 = some (.cells #[pv0_0, .int .i64 s.2.2.2.2.1, .int .i64 s.2.2.2.2.2] 159 (0, 0))) ∧ (RSl (RI .u8) 1 s.1 pG0_0 pv0_0 p0.b)) (fun s hm => none_ne (show (none : Option (TPat × Tl1Cur)) = some r from hm.1)) (fun n2 ih2 s hm => ?_) N (Φ_2, ([] : List TArg), (.slice none 0 0), 0, x1.2.i, x1.2.h) ⟨h, k1, h2, ph0_0⟩
  obtain ⟨Φ_3, s2, u1, s3, s4, s5⟩ := s
  obtain ⟨h, k2, k3, ph0_0⟩ := hm
  replace h : m_s_l6Draw_l2 N p0 p1 x1 s1 (n2 + 1) s2 s3 s4 s5 = some r := h
  replace k2 : OSl RTArg 126 5 Φ_3 [] u1 s2 := k2
  replace k3 : Φ_3 pb0 = some (.cells #[pv0_0, .int .i64 s4, .int .i64 s5] 159 (0, 0)) := k3
  replace ph0_0 : RSl (RI .u8) 1 Φ_3 pG0_0 pv0_0 p0.b := ph0_0
  show WT _ _ [(0, .pointer (some ⟨pb0, 0, none⟩)), (4, .pointer (some ⟨b_1, 0, none⟩)), (5, .pointer (some ⟨b_2, 0, none⟩)), (6, .int .i64 s1), (7, .int .i64 s3)] (St w0 Φ_3 [(b_2, .cells #[.string x1.1, u1, .bool p1] 114 (0, 0)), (b_1, .cells #[.string (⟨#[]⟩ : ByteArray), .slice none 0 0, .bool false] 114 (0, 0))] [ob u1, [pb0]])
  unfold m_s_l6Draw_l2 at h
  refine WT.seq <| WT.seq <| WT.region <| lq (q_move rfl) rfl <| lq (q_move rfl) rfl <| lq (q_lss rfl rfl) rfl <| WL.nil ?_
  refine WT.cond rfl (fun c1 => ?_) (fun c1 => ?_)
  ·replace h := ite_t h c1
   refine WT.skip <| WT.seq <| WT.block <| WT.mix (Kn Φ_3 [] [(b_2, .cells #[.string x1.1, u1, .bool p1] 114 (0, 0)), (b_1, .cells #[.string (⟨#[]⟩ : ByteArray), .slice none 0 0, .bool false] 114 (0, 0))]) (fun i => match i with | 7 => false | _ => true) mixed (fun _ h => h.drew) <| mq 0 rfl (by kernel_rfl) (fun w1 hw => Kn.of (fun k hk _ _ => by simp at hk) (AllIn.mem ⟨gM 0 rfl, gM 1 rfl, trivial⟩) hw) (q_fieldAddr Fld_114_1 rfl) rfl ?_
   refine mq 1 rfl (by kernel_rfl) (fun w1 hw => Kn.of (fun k hk _ _ => by simp at hk) (AllIn.mem ⟨gM 0 rfl, gM 1 rfl, trivial⟩) hw) (q_load1 T1_112 rfl (fun w1 hw => hw.rgO (i := 0) rfl 1 1 [u1] rfl)) rfl <| mq 2 rfl (by kernel_rfl) (fun w1 hw => Kn.of (fun k hk _ _ => by simp at hk) (AllIn.mem ⟨gM 0 rfl, gM 1 rfl, trivial⟩) hw) (q_move rfl) rfl ?_
   obtain ⟨x2, hx2, h⟩ := bind_some h
   refine WM.one 3 (by kernel_rfl) (mc rfl (fun _ v Φx D w1 hq hw => Kn.of (fun k hk _ _ => by simp at hk) (AllIn.mem ⟨gM 0 rfl, gM 1 rfl, trivial⟩) hw) (k_call (js := [1]) (R := [ob u1]) Fun_175 rfl rfl (fun w1 hw ap hl => m_s_l6Arg_ok hw.fro N (⟨p0.b, s4, s5⟩ : Tl1Cur) ph0_0 k3 (ap.o pa0_0) ap.nd hl hx2)) rfl (fun v3 Φ_4 F2 q3 => ?_))
   obtain ⟨ap2, fr3, rfl, rfl, e2, h3⟩ := q3
   replace ph0_0 := ph0_0.frame RI.lasts fr3 (ap2.o pa0_0)
   replace k2 := k2.frame RTArg.lasts fr3 (ap2.r (i := 0) rfl) (Dj.nil _)
   have rc2 : RC RTArg 5 Φ_4 ([[]] : List (List Nat)) [.int .i64 x2.1.K, .string x2.1.S, .int .i64 x2.1.V.K, .int .i64 x2.1.V.N, .string x2.1.V.S] ([x2.1] : List TArg) := RC.cons (c := [.int .i64 x2.1.K, .string x2.1.S, .int .i64 x2.1.V.K, .int .i64 x2.1.V.N, .string x2.1.V.S]) (cells := []) ⟨rfl, rfl⟩ rfl (RC.nil _ _ _)
   refine WM.one 4 (by kernel_rfl) (me rfl (fun _ v Φx D w1 hq hw => Kn.of (fun k hk _ _ => by simp at hk) (AllIn.mem ⟨gM 0 rfl, gM 1 rfl, trivial⟩) hw) (e_lit (vs := [(0, .agg [.int .i64 x2.1.K, .string x2.1.S, .int .i64 x2.1.V.K, .int .i64 x2.1.V.N, .string x2.1.V.S].toArray)]) (C := #[.int .i64 x2.1.K, .string x2.1.S, .int .i64 x2.1.V.K, .int .i64 x2.1.V.N, .string x2.1.V.S]) RTArg.lasts Sl_112 Zr_126 rfl rfl rfl rfl (fill_made MC_126_1 (fill_cons (cells := [.int .i64 0, .string ⟨#[]⟩, .int .i64 0, .int .i64 0, .string ⟨#[]⟩]) (c := [.int .i64 x2.1.K, .string x2.1.S, .int .i64 x2.1.V.K, .int .i64 x2.1.V.N, .string x2.1.V.S]) (C' := [.int .i64 x2.1.K, .string x2.1.S, .int .i64 x2.1.V.K, .int .i64 x2.1.V.N, .string x2.1.V.S]) rfl rfl rfl rfl rfl (fill_nil))) rfl rc2 rfl (by simpa using Kw.nil)) rfl (fun v4 Φ_5 D2 q4 => ?_))
   obtain ⟨fr4, h4⟩ := q4
   replace h4 : OSl RTArg 126 5 Φ_5 [] v4 ([x2.1] : List TArg) := by simpa using h4
   replace ph0_0 := ph0_0.frame RI.lasts fr4 (Dj.empty _)
   replace k2 := k2.frame RTArg.lasts fr4 (Dj.empty _) (Dj.empty _)
   replace h3 := fr4 _ _ (by simp) h3
   obtain ⟨x3, hx3, h⟩ := bind_some h
   refine WM.one 5 (by kernel_rfl) (me rfl (fun _ v Φx D w1 hq hw => Kn.of (fun k hk _ _ => by simp at hk) (AllIn.mem ⟨gM 0 rfl, gM 1 rfl, trivial⟩) hw) (e_appF RTArg.lasts RTArg.one RTArg.flat Sl_112 Ei_126 rfl rfl rfl rfl rfl (js := [2]) (Rr := [ob v4, [pb0]]) rfl k2 h4.rsl hx3) rfl (fun v5 Φ_6 D3 q5 => ?_))
   obtain ⟨⟨ap3, fr5⟩, h5⟩ := q5
   replace ph0_0 := ph0_0.frame RI.lasts fr5 (ap3.o pa0_0)
   replace h3 := fr5 _ _ ((ap3.r (i := 1) rfl) _ (by simp)) h3
   refine mq 6 rfl (by kernel_rfl) (fun w1 hw => Kn.of (fun k hk _ _ => by simp at hk) (AllIn.mem ⟨gM 0 rfl, gM 1 rfl, trivial⟩) hw) (q_fieldAddr Fld_114_1 rfl) rfl ?_
   refine WM.one 7 (by kernel_rfl) (ms rfl (fun hc => by cases hc) (s_store (i := 0) (vs := [v5]) (C' := [.string x1.1, v5, .bool p1]) (O' := [(b_2, .cells #[.string x1.1, v5, .bool p1] 114 (0, 0)), (b_1, .cells #[.string (⟨#[]⟩ : ByteArray), .slice none 0 0, .bool false] 114 (0, 0))]) Sz_112 rfl rfl rfl (one_cells h5.one) rfl rfl ⟨h5.one, trivial⟩ rfl rfl) rfl ?_)
   refine WM.nil (by kernel_rfl) <| WT.inBlock <| WT.region <| lq (q_move rfl) rfl <| lq (q_add rfl rfl) rfl <| lq (q_assign rfl) rfl <| WL.nil ?_
   refine WT.inLoop (WT.mono (l' := [(0, .pointer (some ⟨pb0, 0, none⟩)), (4, .pointer (some ⟨b_1, 0, none⟩)), (5, .pointer (some ⟨b_2, 0, none⟩)), (6, .int .i64 s1), (7, .int .i64 (IntKind.i64.wrap (s3 + 1)))]) (S' := St w0 Φ_6 [(b_2, .cells #[.string x1.1, v5, .bool p1] 114 (0, 0)), (b_1, .cells #[.string (⟨#[]⟩ : ByteArray), .slice none 0 0, .bool false] 114 (0, 0))] [ob v5, [pb0]]) ⟨rfl, rfl, rfl, rfl, rfl, trivial⟩ (fun w1 hw => (hw.sel (js := [0, 1]) rfl).selO (js := [0, 0]) rfl) ?_)
   exact ih2 (Φ_6, x3, v5, IntKind.i64.wrap (s3 + 1), x2.2.i, x2.2.h) ⟨h, h5, h3, ph0_0⟩
  replace h := ite_f h c1
  refine WT.exit rfl <| WT.seq <| WT.region <| lq (q_loadN Tn_114 rfl (fun w1 hw => hw.rgO (i := 0) rfl 0 3 [.string x1.1, u1, .bool p1] rfl) rfl) rfl <| ls (s_store (i := 1) (vs := [.string x1.1, u1, .bool p1]) (C' := [.string x1.1, u1, .bool p1]) (O' := [(b_2, .cells #[.string x1.1, u1, .bool p1] 114 (0, 0)), (b_1, .cells #[.string x1.1, u1, .bool p1] 114 (0, 0))]) Sz_114 rfl rfl rfl rfl rfl rfl ⟨rfl, k2.one, rfl, trivial⟩ rfl rfl) rfl ?_
  refine WL.nil ?_
  refine WT.ret Tryz.func114 (resOk.one (rv_cell Tn_114 rfl (fun w1 hw => hw.rgO (i := 1) rfl 0 3 [.string x1.1, u1, .bool p1] rfl) rfl)) (fun w1 hw => ?_)
  subst hb0
  cases h
  refine postG_of_St (js := [0, 0]) hw rfl ⟨u1, rfl, rfl, k2, rfl, k3⟩
 refine WT.cond rfl (fun c2 => ?_) (fun c2 => ?_)
 ·replace h := ite_t h c2
  refine WT.region <| lq (q_assign rfl) rfl <| WL.nil <| WT.mono (l' := [(0, .pointer (some ⟨pb0, 0, none⟩)), (4, .pointer (some ⟨b_1, 0, none⟩)), (5, .pointer (some ⟨b_2, 0, none⟩)), (6, .int .i64 2)]) (S' := St w0 Φ_2 [(b_2, .cells #[.string x1.1, .slice none 0 0, .bool p1] 114 (0, 0)), (b_1, .cells #[.string (⟨#[]⟩ : ByteArray), .slice none 0 0, .bool false] 114 (0, 0))] [[pb0]]) ⟨rfl, rfl, rfl, rfl, trivial⟩ (fun w1 hw => (hw.sel (js := [0]) rfl).selO (js := [0, 0]) rfl) ?_
  exact K (2) h
 replace h := ite_f h c2
 refine WT.skip <| WT.mono (l' := [(0, .pointer (some ⟨pb0, 0, none⟩)), (4, .pointer (some ⟨b_1, 0, none⟩)), (5, .pointer (some ⟨b_2, 0, none⟩)), (6, .int .i64 1)]) (S' := St w0 Φ_2 [(b_2, .cells #[.string x1.1, .slice none 0 0, .bool p1] 114 (0, 0)), (b_1, .cells #[.string (⟨#[]⟩ : ByteArray), .slice none 0 0, .bool false] 114 (0, 0))] [[pb0]]) ⟨rfl, rfl, rfl, rfl, trivial⟩ (fun w1 hw => (hw.sel (js := [0]) rfl).selO (js := [0, 0]) rfl) ?_
 exact K (1) h
theorem m_s_l6Has_ok {Φ : Hp} {w : World} (hΦ : In Φ w) (N : Nat) (p0 : (List ByteArray)) (p1 : ByteArray) {pv0 : Value} {pG0 : List Nat} (ph0 : RSl RS 1 Φ pG0 pv0 p0) {r : Bool} (h : m_s_l6Has N p0 p1 = some r) :
  Calls Tryz.prog 177 [pv0, .string p1].toArray w (Post (.bool r) w) := by
 refine enter Tryz.func177 rfl Tryz.ntmps177 rfl (St.start0 hΦ) ?_
 generalize hb0 : (⟨w, [], Φ⟩ : Base) = w0
 unfold m_s_l6Has at h
 refine WT.seq <| WT.region <| lq (q_assign rfl) rfl <| WL.nil <| WT.seq <| WT.seq <| WT.region <| lq (q_assign rfl) rfl <| WL.nil <| WT.block <| WT.loop <| WT.mono (l' := [(0, pv0), (1, .string p1), (5, .int .i64 0)]) (S' := St w0 Φ [] []) ⟨rfl, rfl, rfl, trivial⟩ (fun w1 hw => (hw.sel (js := []) rfl).selO (js := []) rfl) ?_
 refine loop_ind (σ := Int) (fun s => [(0, pv0), (1, .string p1), (5, .int .i64 s)]) (fun s => St w0 Φ [] []) (fun m s => m_s_l6Has_l1 N p0 p1 m s = some r) (fun s hm => none_ne (show (none : Option (Bool)) = some r from hm)) (fun n1 ih1 s hm => ?_) N (0) h
 revert hm; revert s; intro s1 hm
 have h : m_s_l6Has_l1 N p0 p1 (n1 + 1) s1 = some r := hm
 show WT _ _ [(0, pv0), (1, .string p1), (5, .int .i64 s1)] (St w0 Φ [] [])
 unfold m_s_l6Has_l1 at h
 refine WT.seq <| WT.seq <| WT.region <| lq (q_move rfl) rfl <| lq (q_move rfl) rfl <| lq (q_lenR Sl_137 rfl rfl ph0) rfl <| lq (q_lss rfl rfl) rfl <| WL.nil ?_
 refine WT.cond rfl (fun c1 => ?_) (fun c1 => ?_)
 ·replace h := ite_t h c1
  refine WT.skip <| WT.seq <| WT.block <| WT.seq <| WT.region <| lq (q_move rfl) rfl <| lq (q_move rfl) rfl ?_
  obtain ⟨x1, hx1, h⟩ := bind_some h
  obtain ⟨cs1, F1, -, g1, hb1, hs1, r1⟩ := ph0.el (idx_some hx1).2.2
  obtain ⟨rfl, -⟩ := r1
  refine lq (q_indexAddr Sl_137 rfl rfl ph0 hx1) rfl <| lq (q_load1 T1_9 rfl (fun w1 hw => (g1.of_eq 0 1 rfl rfl : rg _ _ _ [.string x1]).rangeAt hw.fro)) rfl <| lq (q_move rfl) rfl <| lq (q_seq rfl rfl) rfl <| WL.nil ?_
  refine WT.cond rfl (fun c2 => ?_) (fun c2 => ?_)
  ·replace h := ite_t h c2
   refine WT.seq <| WT.region <| lq (q_assign rfl) rfl <| WL.nil ?_
   refine WT.ret Tryz.func177 (resOk.one rfl) (fun w1 hw => ?_)
   subst hb0
   cases h
   exact post_of_St hw
  replace h := ite_f h c2
  refine WT.skip <| WT.inBlock <| WT.region <| lq (q_move rfl) rfl <| lq (q_add rfl rfl) rfl <| lq (q_assign rfl) rfl <| WL.nil ?_
  refine WT.inLoop (WT.mono (l' := [(0, pv0), (1, .string p1), (5, .int .i64 (IntKind.i64.wrap (s1 + 1)))]) (S' := St w0 Φ [] []) ⟨rfl, rfl, rfl, trivial⟩ (fun w1 hw => (hw.sel (js := []) rfl).selO (js := []) rfl) ?_)
  exact ih1 (IntKind.i64.wrap (s1 + 1)) h
 replace h := ite_f h c1
 refine WT.exit rfl <| WT.seq <| WT.region <| lq (q_assign rfl) rfl <| WL.nil ?_
 refine WT.ret Tryz.func177 (resOk.one rfl) (fun w1 hw => ?_)
 subst hb0
 cases h
 exact post_of_St hw
end Go.Proofs.YtjangilipfjcmaaGreat
