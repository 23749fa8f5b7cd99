/- Printed by a program of ours: each Go function computes its Lean function. -/
import Derived.Test.YtelchcokfcdndaaGreatProg
import Derived.Test.YtelchcokfcdndaaGreatWExactAllMatchesWalk2
namespace Go.Proofs.YtelchcokfcdndaaGreat
open Eng
open Go.RowKit (Below)
set_option linter.unusedVariables false
set_option linter.unusedSimpArgs false

set_option maxRecDepth 100000
set_option maxHeartbeats 1000000
theorem m_s_ArgOk_ok {Φ : Hp} {w : World} (hΦ : In Φ w) (N : Nat) (p0 : TArg)   {r : Bool} (h : m_s_ArgOk N p0 = some r) :
  Calls Tryz.prog 179 [.agg [.int .i64 p0.K, .string p0.S, .int .i64 p0.V.K, .int .i64 p0.V.N, .string p0.V.S].toArray].toArray w (Post (.bool r) w) := by
 refine enter Tryz.func179 rfl Tryz.ntmps179 rfl (St.start0 hΦ) ?_
 unfold m_s_ArgOk at h
 refine sr ?_
 refine ln (nb rfl) rfl (fun b_1 => ?_)
 refine la rfl <| en <| sr <| lf Fld_137_2 rfl rfl rfl <| ld3 Tn_85 0 rfl <| lq (q_build (vs := []) (C := #[.int .i64 0, .int .i64 0, .string (⟨#[]⟩ : ByteArray)]) Pl_85 Zr_85 rfl (fill_nil)) rfl <| lq (q_eqA EqT_85 rfl rfl rfl (r := eqT_TVal p0.V (⟨0, 0, (⟨#[]⟩ : ByteArray)⟩ : TVal)) rfl) rfl <| la rfl <| en <| sq <| sr <| lf Fld_137_0 rfl rfl rfl <| lo T1_3 0 rfl <| en <| blk <| sr <| la rfl <| la rfl <| en ?_
 refine cdh rfl h (fun c1 h => ?_) (fun c1 h => ?_)
 ·refine sr <| lf Fld_137_1 rfl rfl rfl <| lo T1_9 0 rfl ?_
  obtain ⟨x1, hx1, h⟩ := bs h
  refine lp (p_call Fun_201 rfl (fun w1 hw => m_s_l5VarOk_ok hw.fro N p0.S hx1)) rfl <| la rfl ?_
  obtain ⟨b1, hb_1, h⟩ := bs h
  refine WL.cutN 2 [(17, .bool b1), (2, .bool false)] ?_ (fun K => ?_)
  rotate_left
  ·refine spl 15 rfl hb_1 (fun c2 hb_1 => ?_) (fun c2 hb_1 => ?_)
   ·refine ly rfl rfl <| la rfl <| la rfl ?_
    cases hb_1
    exact kk K ⟨rfl, rfl, trivial⟩
   ·refine la rfl <| la rfl ?_
    cases hb_1
    exact kk K ⟨rfl, rfl, trivial⟩
  refine la rfl <| en ?_
  refine WT.ret Tryz.func179 (resOk.one rfl) (fun w1 hw => ?_)
  cases h
  exact post_of_St hw
 refine sr <| la rfl <| la rfl <| en ?_
 refine cdh rfl h (fun c3 h => ?_) (fun c3 h => ?_)
 ·refine sr <| lf Fld_137_2 rfl rfl rfl <| ld3 Tn_85 0 rfl ?_
  obtain ⟨x2, hx2, h⟩ := bs h
  refine lp (p_call Fun_187 rfl (fun w1 hw => m_s_ValOk_ok hw.fro N p0.V hx2)) rfl <| la rfl ?_
  obtain ⟨b2, hb_2, h⟩ := bs h
  refine WL.cutN 4 [(27, .bool b2), (2, .bool false)] ?_ (fun K => ?_)
  rotate_left
  ·refine spl 23 rfl hb_2 (fun c4 hb_2 => ?_) (fun c4 hb_2 => ?_)
   ·refine ly rfl rfl <| lf Fld_137_1 rfl rfl rfl <| ly rfl rfl <| lo T1_9 0 rfl <| ly rfl rfl <| la rfl <| la rfl ?_
    cases hb_2
    exact kk K ⟨rfl, rfl, trivial⟩
   ·refine la rfl <| la rfl <| la rfl <| la rfl ?_
    cases hb_2
    exact kk K ⟨rfl, rfl, trivial⟩
  refine la rfl <| en ?_
  refine WT.ret Tryz.func179 (resOk.one rfl) (fun w1 hw => ?_)
  cases h
  exact post_of_St hw
 refine sr <| la rfl <| la rfl <| en ?_
 refine cdh rfl h (fun c5 h => ?_) (fun c5 h => ?_)
 ·refine sr <| lf Fld_137_1 rfl rfl rfl <| lo T1_9 0 rfl <| la rfl <| la rfl ?_
  obtain ⟨b3, hb_3, h⟩ := bs h
  refine WL.cutN 2 [(35, .bool b3), (2, .bool false)] ?_ (fun K => ?_)
  rotate_left
  ·refine spl 33 rfl hb_3 (fun c6 hb_3 => ?_) (fun c6 hb_3 => ?_)
   ·refine ly rfl rfl <| la rfl <| la rfl ?_
    cases hb_3
    exact kk K ⟨rfl, rfl, trivial⟩
   ·refine la rfl <| la rfl ?_
    cases hb_3
    exact kk K ⟨rfl, rfl, trivial⟩
  refine la rfl <| en ?_
  refine WT.ret Tryz.func179 (resOk.one rfl) (fun w1 hw => ?_)
  cases h
  exact post_of_St hw
 refine WT.skip <| ib <| sr <| la rfl <| en ?_
 refine WT.ret Tryz.func179 (resOk.one rfl) (fun w1 hw => ?_)
 cases h
 exact post_of_St hw
theorem m_s_PatOk_ok {Φ : Hp} {w : World} (hΦ : In Φ w) (N : Nat) (p0 : TPat) {pv0_0 : Value} {pG0_0 : List Nat} (ph0_0 : RSl RTArg 5 Φ pG0_0 pv0_0 p0.Args) {r : Bool} (h : m_s_PatOk N p0 = some r) :
  Calls Tryz.prog 139 [.agg [.string p0.Kind, pv0_0, .bool p0.Not].toArray].toArray w (Post (.bool r) w) := by
 refine enter Tryz.func139 rfl Tryz.ntmps139 rfl (St.start0 hΦ) ?_
 generalize hb0 : (⟨w, [], Φ⟩ : Base) = w0
 unfold m_s_PatOk at h
 refine sr ?_
 refine ln (nb rfl) rfl (fun b_1 => ?_)
 refine la rfl <| en <| sq <| sr <| la rfl <| en <| blk ?_
 refine loop_in (σ := Int) (fun s => [(1, .pointer (some ⟨b_1, 0, none⟩)), (3, .int .i64 s)]) (fun s => St w0 Φ [(b_1, .cells #[.string p0.Kind, pv0_0, .bool p0.Not] 171 (0, 0))] []) (fun m s => m_s_PatOk_l1 N p0 m s = some r) (0) N h ⟨rfl, rfl, trivial⟩ (fun w1 hw => (hw.sel (js := []) rfl).selO (js := [0]) rfl) (fun s hm => none_ne hm) (fun n1 ih1 s hm => ?_)
 revert hm; revert s; intro s1 hm
 have h : m_s_PatOk_l1 N p0 (n1 + 1) s1 = some r := hm
 show WT _ _ [(1, .pointer (some ⟨b_1, 0, none⟩)), (3, .int .i64 s1)] (St w0 Φ [(b_1, .cells #[.string p0.Kind, pv0_0, .bool p0.Not] 171 (0, 0))] [])
 unfold m_s_PatOk_l1 at h
 refine sq <| sr <| la rfl <| lf Fld_171_1 rfl rfl rfl <| lo T1_169 0 rfl <| lq (q_lenR Sl_169 rfl rfl ph0_0) rfl <| la rfl <| en ?_
 refine cdh rfl h (fun c1 h => ?_) (fun c1 h => ?_)
 ·refine WT.skip <| sq <| blk <| sr <| lf Fld_171_1 rfl rfl rfl <| lo T1_169 0 rfl <| la rfl ?_
  obtain ⟨x1, hx1, h⟩ := bs h
  obtain ⟨cs1, F1, -, g1, hb1, hs1, r1⟩ := ph0_0.el (idx_some hx1).2.2
  obtain ⟨rfl, -⟩ := r1
  refine lq (q_indexAddr Sl_169 rfl rfl ph0_0 hx1) rfl <| lg5 0 Tn_137 g1 rfl rfl ?_
  obtain ⟨x2, hx2, h⟩ := bs h
  refine lp (p_call Fun_179 rfl (fun w1 hw => m_s_ArgOk_ok hw.fro N x1 hx2)) rfl <| la rfl <| en ?_
  refine cdh rfl h (fun c2 h => ?_) (fun c2 h => ?_)
  ·refine sr <| la rfl <| en ?_
   refine WT.ret Tryz.func139 (resOk.one rfl) (fun w1 hw => ?_)
   subst hb0
   cases h
   exact post_of_St hw
  refine WT.skip <| ib <| rgn <| la rfl <| la rfl <| la rfl <| en ?_
  exact lback (ih1 (IntKind.i64.wrap (s1 + 1)) h) ⟨rfl, rfl, trivial⟩ (fun w1 hw => (hw.sel (js := []) rfl).selO (js := [0]) rfl)
 refine xt rfl <| sr <| lf Fld_171_0 rfl rfl rfl <| lo T1_9 0 rfl ?_
 obtain ⟨x3, hx3, h⟩ := bs h
 refine lp (p_call Fun_40 rfl (fun w1 hw => m_s_NameOk_ok hw.fro N p0.Kind hx3)) rfl <| la rfl ?_
 obtain ⟨b1, hb_1, h⟩ := bs h
 refine WL.cutN 5 [(26, .bool b1)] ?_ (fun K => ?_)
 rotate_left
 ·refine spl 21 rfl hb_1 (fun c3 hb_1 => ?_) (fun c3 hb_1 => ?_)
  ·refine ly rfl rfl <| lf Fld_171_1 rfl rfl rfl <| ly rfl rfl <| lo T1_169 0 rfl <| ly rfl rfl <| lq (q_lenR Sl_169 rfl rfl ph0_0) rfl <| ly rfl rfl <| la rfl <| la rfl ?_
   cases hb_1
   exact kk K ⟨rfl, trivial⟩
  ·refine la rfl <| la rfl <| la rfl <| la rfl <| la rfl ?_
   cases hb_1
   exact kk K ⟨rfl, trivial⟩
 refine la rfl <| en ?_
 refine WT.ret Tryz.func139 (resOk.one rfl) (fun w1 hw => ?_)
 subst hb0
 cases h
 exact post_of_St hw
theorem m_s_l9Pats_ok {Φ : Hp} {w : World} (hΦ : In Φ w) (N : Nat) (p0 : (List TPat)) {pv0 : Value} {pG0 : List Nat} (ph0 : RSl RTPat 3 Φ pG0 pv0 p0) {r : Bool} (h : m_s_l9Pats N p0 = some r) :
  Calls Tryz.prog 86 [pv0].toArray w (Post (.bool r) w) := by
 refine enter Tryz.func86 rfl Tryz.ntmps86 rfl (St.start0 hΦ) ?_
 generalize hb0 : (⟨w, [], Φ⟩ : Base) = w0
 unfold m_s_l9Pats at h
 refine sr <| la rfl <| en <| sq <| sr <| la rfl <| en <| blk ?_
 refine loop_in (σ := Int) (fun s => [(0, pv0), (3, .int .i64 s)]) (fun s => St w0 Φ [] []) (fun m s => m_s_l9Pats_l1 N p0 m s = some r) (0) N h ⟨rfl, rfl, trivial⟩ (fun w1 hw => (hw.sel (js := []) rfl).selO (js := []) rfl) (fun s hm => none_ne hm) (fun n1 ih1 s hm => ?_)
 revert hm; revert s; intro s1 hm
 have h : m_s_l9Pats_l1 N p0 (n1 + 1) s1 = some r := hm
 show WT _ _ [(0, pv0), (3, .int .i64 s1)] (St w0 Φ [] [])
 unfold m_s_l9Pats_l1 at h
 refine sq <| sr <| la rfl <| la rfl <| lq (q_lenR Sl_36 rfl rfl ph0) rfl <| la rfl <| en ?_
 refine cdh rfl h (fun c1 h => ?_) (fun c1 h => ?_)
 ·refine WT.skip <| sq <| blk <| sq <| sr <| la rfl <| la rfl <| la rfl ?_
  obtain ⟨b1, hb_1, h⟩ := bs h
  refine WL.cutN 7 [(19, .bool b1), (0, pv0), (3, .int .i64 s1)] ?_ (fun K => ?_)
  rotate_left
  ·refine spl 12 rfl hb_1 (fun c2 hb_1 => ?_) (fun c2 hb_1 => ?_)
   ·refine ly rfl rfl <| la rfl <| ly rfl rfl <| la rfl <| ly rfl rfl ?_
    obtain ⟨x1, hx1, hb_1⟩ := bs hb_1
    obtain ⟨cs1, F1, -, g1, hb1, hs1, r1⟩ := ph0.el (idx_some hx1).2.2
    obtain ⟨v1, G1, rfl, hq1, h1⟩ := r1
    obtain rfl := hq1.symm
    refine lq (q_indexAddr Sl_36 rfl rfl ph0 hx1) rfl <| ly rfl rfl <| lf Fld_171_2 rfl rfl rfl <| ly rfl rfl <| lg 2 T1_4 g1 rfl rfl <| ly rfl rfl <| la rfl <| la rfl ?_
    cases hb_1
    exact kk K ⟨rfl, rfl, rfl, trivial⟩
   ·refine la rfl <| la rfl <| la rfl <| la rfl <| la rfl <| la rfl <| la rfl ?_
    cases hb_1
    exact kk K ⟨rfl, rfl, rfl, trivial⟩
  refine en ?_
  refine cdh rfl h (fun c3 h => ?_) (fun c3 h => ?_)
  ·refine sr <| la rfl <| en ?_
   refine WT.ret Tryz.func86 (resOk.one rfl) (fun w1 hw => ?_)
   subst hb0
   cases h
   exact post_of_St hw
  refine WT.skip <| sr <| la rfl <| la rfl ?_
  obtain ⟨x2, hx2, h⟩ := bs h
  obtain ⟨cs2, F2, -, g2, hb2, hs2, r2⟩ := ph0.el (idx_some hx2).2.2
  obtain ⟨v2, G2, rfl, hq2, h2⟩ := r2
  obtain rfl := hq2.symm
  refine lq (q_indexAddr Sl_36 rfl rfl ph0 hx2) rfl <| lg3 0 Tn_171 g2 rfl rfl ?_
  obtain ⟨x3, hx3, h⟩ := bs h
  refine lp (p_call Fun_139 rfl (fun w1 hw => m_s_PatOk_ok hw.fro N x2 h2 hx3)) rfl <| la rfl <| la rfl ?_
  obtain ⟨b2, hb_2, h⟩ := bs h
  refine WL.cutN 10 [(36, .bool b2), (0, pv0), (3, .int .i64 s1)] ?_ (fun K => ?_)
  rotate_left
  ·refine spl 26 rfl hb_2 (fun c4 hb_2 => ?_) (fun c4 hb_2 => ?_)
   ·refine la rfl <| la rfl <| la rfl <| WL.nox rfl rfl rfl rfl <| WL.nox rfl rfl rfl rfl <| WL.nox rfl rfl rfl rfl <| WL.nox rfl rfl rfl rfl <| WL.nox rfl rfl rfl rfl <| la rfl <| la rfl ?_
    cases hb_2
    exact kk K ⟨rfl, rfl, rfl, trivial⟩
   ·refine ly rfl rfl <| la rfl <| ly rfl rfl <| la rfl <| ly rfl rfl <| la rfl ?_
    obtain ⟨b3, hb_3, hb_2⟩ := bs hb_2
    refine WL.cutN 6 [(35, .bool b3), (0, pv0), (3, .int .i64 s1), (26, .bool false)] ?_ (fun K => ?_)
    rotate_left
    ·refine spl 29 rfl hb_3 (fun c5 hb_3 => ?_) (fun c5 hb_3 => ?_)
     ·refine ly rfl rfl <| la rfl <| ly rfl rfl <| la rfl <| ly rfl rfl ?_
      obtain ⟨x4, hx4, hb_3⟩ := bs hb_3
      obtain ⟨cs3, F3, -, g3, hb3, hs3, r3⟩ := ph0.el (idx_some hx4).2.2
      obtain ⟨v3, G3, rfl, hq3, h3⟩ := r3
      obtain rfl := hq3.symm
      refine lq (q_indexAddr Sl_36 rfl rfl ph0 hx4) rfl <| ly rfl rfl <| lf Fld_171_2 rfl rfl rfl <| ly rfl rfl <| lg 2 T1_4 g3 rfl rfl <| ly rfl rfl <| la rfl ?_
      cases hb_3
      exact kk K ⟨rfl, rfl, rfl, rfl, trivial⟩
     ·refine la rfl <| la rfl <| la rfl <| la rfl <| la rfl <| ly rfl rfl <| la rfl ?_
      cases hb_3
      exact kk K ⟨rfl, rfl, rfl, rfl, trivial⟩
    refine la rfl ?_
    cases hb_2
    exact kk K ⟨rfl, rfl, rfl, trivial⟩
  refine la rfl ?_
  obtain ⟨b4, hb_4, h⟩ := bs h
  refine WL.cutN 19 [(56, .bool b4), (0, pv0), (3, .int .i64 s1)] ?_ (fun K => ?_)
  rotate_left
  ·refine spl 37 rfl hb_4 (fun c6 hb_4 => ?_) (fun c6 hb_4 => ?_)
   ·refine la rfl <| la rfl <| la rfl <| WL.nox rfl rfl rfl rfl <| WL.nox rfl rfl rfl rfl <| WL.nox rfl rfl rfl rfl <| WL.nox rfl rfl rfl rfl <| WL.nox rfl rfl rfl rfl <| WL.nox rfl rfl rfl rfl <| la rfl <| la rfl <| WL.nox rfl rfl rfl rfl <| WL.nox rfl rfl rfl rfl <| WL.nox rfl rfl rfl rfl <| WL.nox rfl rfl rfl rfl <| WL.nox rfl rfl rfl rfl <| WL.nox rfl rfl rfl rfl <| la rfl <| la rfl ?_
    cases hb_4
    exact kk K ⟨rfl, rfl, rfl, trivial⟩
   ·refine ly rfl rfl <| la rfl <| ly rfl rfl <| la rfl <| ly rfl rfl <| la rfl ?_
    obtain ⟨b5, hb_5, hb_4⟩ := bs hb_4
    refine WL.cutN 7 [(47, .bool b5), (0, pv0), (3, .int .i64 s1), (37, .bool false)] ?_ (fun K => ?_)
    rotate_left
    ·refine spl 40 rfl hb_5 (fun c7 hb_5 => ?_) (fun c7 hb_5 => ?_)
     ·refine ly rfl rfl <| la rfl <| ly rfl rfl <| la rfl <| ly rfl rfl <| la rfl <| ly rfl rfl ?_
      obtain ⟨x5, hx5, hb_5⟩ := bs hb_5
      obtain ⟨cs4, F4, -, g4, hb4, hs4, r4⟩ := ph0.el (idx_some hx5).2.2
      obtain ⟨v4, G4, rfl, hq4, h4⟩ := r4
      obtain rfl := hq4.symm
      refine lq (q_indexAddr Sl_36 rfl rfl ph0 hx5) rfl <| ly rfl rfl <| lf Fld_171_2 rfl rfl rfl <| ly rfl rfl <| lg 2 T1_4 g4 rfl rfl <| ly rfl rfl <| la rfl ?_
      cases hb_5
      exact kk K ⟨rfl, rfl, rfl, rfl, trivial⟩
     ·refine la rfl <| la rfl <| la rfl <| la rfl <| la rfl <| la rfl <| ly rfl rfl <| la rfl ?_
      cases hb_5
      exact kk K ⟨rfl, rfl, rfl, rfl, trivial⟩
    refine ly rfl rfl <| la rfl ?_
    obtain ⟨b6, hb_6, hb_4⟩ := bs hb_4
    refine WL.cutN 7 [(55, .bool b6), (0, pv0), (3, .int .i64 s1), (37, .bool false)] ?_ (fun K => ?_)
    rotate_left
    ·refine spl 48 rfl hb_6 (fun c8 hb_6 => ?_) (fun c8 hb_6 => ?_)
     ·refine ly rfl rfl <| la rfl <| ly rfl rfl <| la rfl <| ly rfl rfl ?_
      obtain ⟨x6, hx6, hb_6⟩ := bs hb_6
      obtain ⟨cs5, F5, -, g5, hb5, hs5, r5⟩ := ph0.el (idx_some hx6).2.2
      obtain ⟨v5, G5, rfl, hq5, h5⟩ := r5
      obtain rfl := hq5.symm
      refine lq (q_indexAddr Sl_36 rfl rfl ph0 hx6) rfl <| ly rfl rfl <| lf Fld_171_2 rfl rfl rfl <| ly rfl rfl <| lg 2 T1_4 g5 rfl rfl <| ly rfl rfl <| la rfl <| ly rfl rfl <| la rfl ?_
      cases hb_6
      exact kk K ⟨rfl, rfl, rfl, rfl, trivial⟩
     ·refine la rfl <| la rfl <| la rfl <| la rfl <| la rfl <| la rfl <| ly rfl rfl <| la rfl ?_
      cases hb_6
      exact kk K ⟨rfl, rfl, rfl, rfl, trivial⟩
    refine la rfl ?_
    cases hb_4
    exact kk K ⟨rfl, rfl, rfl, trivial⟩
  refine en ?_
  refine cdh rfl h (fun c9 h => ?_) (fun c9 h => ?_)
  ·refine sr <| la rfl <| en ?_
   refine WT.ret Tryz.func86 (resOk.one rfl) (fun w1 hw => ?_)
   subst hb0
   cases h
   exact post_of_St hw
  refine WT.skip <| ib <| rgn <| la rfl <| la rfl <| la rfl <| en ?_
  exact lback (ih1 (IntKind.i64.wrap (s1 + 1)) h) ⟨rfl, rfl, trivial⟩ (fun w1 hw => (hw.sel (js := []) rfl).selO (js := []) rfl)
 refine xt rfl <| sr <| la rfl <| lq (q_lenR Sl_36 rfl rfl ph0) rfl ?_
 obtain ⟨x7, hx7, h⟩ := bs h
 refine lp (p_call Fun_41 rfl (fun w1 hw => m_s_l1In_ok hw.fro N (p0.length : Int) 1 6 hx7)) rfl <| la rfl <| en ?_
 refine WT.ret Tryz.func86 (resOk.one rfl) (fun w1 hw => ?_)
 subst hb0
 cases h
 exact post_of_St hw
theorem m_s_CondOk_ok {Φ : Hp} {w : World} (hΦ : In Φ w) (N : Nat) (p0 : TCond)   {r : Bool} (h : m_s_CondOk N p0 = some r) :
  Calls Tryz.prog 140 [.agg [.int .i64 p0.Op, .int .i64 p0.L.K, .string p0.L.S, .int .i64 p0.L.V.K, .int .i64 p0.L.V.N, .string p0.L.V.S, .int .i64 p0.R.K, .string p0.R.S, .int .i64 p0.R.V.K, .int .i64 p0.R.V.N, .string p0.R.V.S].toArray].toArray w (Post (.bool r) w) := by
 refine enter Tryz.func140 rfl Tryz.ntmps140 rfl (St.start0 hΦ) ?_
 unfold m_s_CondOk at h
 refine sr ?_
 refine ln (nb rfl) rfl (fun b_1 => ?_)
 refine la rfl <| en <| sr <| lf Fld_139_0 rfl rfl rfl <| lo T1_3 0 rfl ?_
 obtain ⟨x1, hx1, h⟩ := bs h
 refine lp (p_call Fun_41 rfl (fun w1 hw => m_s_l1In_ok hw.fro N p0.Op 1 3 hx1)) rfl <| la rfl ?_
 obtain ⟨b1, hb_1, h⟩ := bs h
 refine WL.cutN 4 [(10, .bool b1), (1, .pointer (some ⟨b_1, 0, none⟩)), (2, .bool false)] ?_ (fun K => ?_)
 rotate_left
 ·refine spl 6 rfl hb_1 (fun c1 hb_1 => ?_) (fun c1 hb_1 => ?_)
  ·refine ly rfl rfl <| lf Fld_139_1 rfl rfl rfl <| ly rfl rfl <| ld5 Tn_137 0 rfl <| ly rfl rfl ?_
   obtain ⟨x2, hx2, hb_1⟩ := bs hb_1
   refine lp (p_call Fun_179 rfl (fun w1 hw => m_s_ArgOk_ok hw.fro N p0.L hx2)) rfl <| la rfl ?_
   cases hb_1
   exact kk K ⟨rfl, rfl, rfl, trivial⟩
  ·refine la rfl <| la rfl <| la rfl <| la rfl ?_
   cases hb_1
   exact kk K ⟨rfl, rfl, rfl, trivial⟩
 refine la rfl ?_
 obtain ⟨b2, hb_2, h⟩ := bs h
 refine WL.cutN 4 [(15, .bool b2), (1, .pointer (some ⟨b_1, 0, none⟩)), (2, .bool false)] ?_ (fun K => ?_)
 rotate_left
 ·refine spl 11 rfl hb_2 (fun c2 hb_2 => ?_) (fun c2 hb_2 => ?_)
  ·refine ly rfl rfl <| lf Fld_139_2 rfl rfl rfl <| ly rfl rfl <| ld5 Tn_137 0 rfl <| ly rfl rfl ?_
   obtain ⟨x3, hx3, hb_2⟩ := bs hb_2
   refine lp (p_call Fun_179 rfl (fun w1 hw => m_s_ArgOk_ok hw.fro N p0.R hx3)) rfl <| la rfl ?_
   cases hb_2
   exact kk K ⟨rfl, rfl, rfl, trivial⟩
  ·refine la rfl <| la rfl <| la rfl <| la rfl ?_
   cases hb_2
   exact kk K ⟨rfl, rfl, rfl, trivial⟩
 refine la rfl ?_
 obtain ⟨b3, hb_3, h⟩ := bs h
 refine WL.cutN 5 [(21, .bool b3), (1, .pointer (some ⟨b_1, 0, none⟩)), (2, .bool false)] ?_ (fun K => ?_)
 rotate_left
 ·refine spl 16 rfl hb_3 (fun c3 hb_3 => ?_) (fun c3 hb_3 => ?_)
  ·refine ly rfl rfl <| lf Fld_139_1 rfl rfl rfl <| ly rfl rfl <| lf Fld_137_0 rfl rfl rfl <| ly rfl rfl <| lo T1_3 0 rfl <| ly rfl rfl <| la rfl <| la rfl ?_
   cases hb_3
   exact kk K ⟨rfl, rfl, rfl, trivial⟩
  ·refine la rfl <| la rfl <| la rfl <| la rfl <| la rfl ?_
   cases hb_3
   exact kk K ⟨rfl, rfl, rfl, trivial⟩
 refine la rfl ?_
 obtain ⟨b4, hb_4, h⟩ := bs h
 refine WL.cutN 5 [(27, .bool b4), (2, .bool false)] ?_ (fun K => ?_)
 rotate_left
 ·refine spl 22 rfl hb_4 (fun c4 hb_4 => ?_) (fun c4 hb_4 => ?_)
  ·refine ly rfl rfl <| lf Fld_139_2 rfl rfl rfl <| ly rfl rfl <| lf Fld_137_0 rfl rfl rfl <| ly rfl rfl <| lo T1_3 0 rfl <| ly rfl rfl <| la rfl <| la rfl ?_
   cases hb_4
   exact kk K ⟨rfl, rfl, trivial⟩
  ·refine la rfl <| la rfl <| la rfl <| la rfl <| la rfl ?_
   cases hb_4
   exact kk K ⟨rfl, rfl, trivial⟩
 refine la rfl <| en ?_
 refine WT.ret Tryz.func140 (resOk.one rfl) (fun w1 hw => ?_)
 cases h
 exact post_of_St hw
theorem m_s_l9Known_ok {Φ : Hp} {w : World} (hΦ : In Φ w) (N : Nat) (p0 : TArg) (p1 : (List ByteArray)) {pv1 : Value} {pG1 : List Nat} (ph1 : RSl RS 1 Φ pG1 pv1 p1) {r : Bool} (h : m_s_l9Known N p0 p1 = some r) :
  Calls Tryz.prog 141 [.agg [.int .i64 p0.K, .string p0.S, .int .i64 p0.V.K, .int .i64 p0.V.N, .string p0.V.S].toArray, pv1].toArray w (Post (.bool r) w) := by
 refine enter Tryz.func141 rfl Tryz.ntmps141 rfl (St.start0 hΦ) ?_
 unfold m_s_l9Known at h
 refine sr ?_
 refine ln (nb rfl) rfl (fun b_1 => ?_)
 refine la rfl <| en <| sr <| lf Fld_137_0 rfl rfl rfl <| lo T1_3 0 rfl <| la rfl <| la rfl ?_
 obtain ⟨b1, hb_1, h⟩ := bs h
 refine WL.cutN 5 [(13, .bool b1), (4, .bool false)] ?_ (fun K => ?_)
 rotate_left
 ·refine spl 8 rfl hb_1 (fun c1 hb_1 => ?_) (fun c1 hb_1 => ?_)
  ·refine la rfl <| la rfl <| la rfl <| la rfl <| la rfl ?_
   cases hb_1
   exact kk K ⟨rfl, rfl, trivial⟩
  ·refine ly rfl rfl <| la rfl <| ly rfl rfl <| lf Fld_137_1 rfl rfl rfl <| ly rfl rfl <| lo T1_9 0 rfl <| ly rfl rfl ?_
   obtain ⟨x1, hx1, hb_1⟩ := bs hb_1
   refine lp (p_call Fun_138 rfl (fun w1 hw => m_s_l6Has_ok hw.fro N p1 p0.S ph1 hx1)) rfl <| la rfl ?_
   cases hb_1
   exact kk K ⟨rfl, rfl, trivial⟩
 refine la rfl <| en ?_
 refine WT.ret Tryz.func141 (resOk.one rfl) (fun w1 hw => ?_)
 cases h
 exact post_of_St hw
theorem m_s_l9Conds_ok {Φ : Hp} {w : World} (hΦ : In Φ w) (N : Nat) (p0 : (List TCond)) (p1 : (List ByteArray)) {pv0 pv1 : Value} {pG0 pG1 : List Nat} (ph0 : RSl RTCond 11 Φ pG0 pv0 p0) (ph1 : RSl RS 1 Φ pG1 pv1 p1) {r : Bool} (h : m_s_l9Conds N p0 p1 = some r) :
  Calls Tryz.prog 87 [pv0, pv1].toArray w (Post (.bool r) w) := by
 refine enter Tryz.func87 rfl Tryz.ntmps87 rfl (St.start0 hΦ) ?_
 generalize hb0 : (⟨w, [], Φ⟩ : Base) = w0
 unfold m_s_l9Conds at h
 refine sr <| la rfl <| en <| sq <| sr <| la rfl <| en <| blk ?_
 refine loop_in (σ := Int) (fun s => [(0, pv0), (1, pv1), (5, .int .i64 s)]) (fun s => St w0 Φ [] []) (fun m s => m_s_l9Conds_l1 N p0 p1 m s = some r) (0) N h ⟨rfl, rfl, rfl, trivial⟩ (fun w1 hw => (hw.sel (js := []) rfl).selO (js := []) rfl) (fun s hm => none_ne hm) (fun n1 ih1 s hm => ?_)
 revert hm; revert s; intro s1 hm
 have h : m_s_l9Conds_l1 N p0 p1 (n1 + 1) s1 = some r := hm
 show WT _ _ [(0, pv0), (1, pv1), (5, .int .i64 s1)] (St w0 Φ [] [])
 unfold m_s_l9Conds_l1 at h
 refine sq <| sr <| la rfl <| la rfl <| lq (q_lenR Sl_37 rfl rfl ph0) rfl <| la rfl <| en ?_
 refine cdh rfl h (fun c1 h => ?_) (fun c1 h => ?_)
 ·refine WT.skip <| sq <| blk <| sr <| la rfl <| la rfl ?_
  obtain ⟨x1, hx1, h⟩ := bs h
  obtain ⟨cs1, F1, -, g1, hb1, hs1, r1⟩ := ph0.el (idx_some hx1).2.2
  obtain ⟨rfl, -⟩ := r1
  refine lq (q_indexAddr Sl_37 rfl rfl ph0 hx1) rfl <| lg11 0 Tn_139 g1 rfl rfl ?_
  obtain ⟨x2, hx2, h⟩ := bs h
  refine lp (p_call Fun_140 rfl (fun w1 hw => m_s_CondOk_ok hw.fro N x1 hx2)) rfl <| la rfl <| la rfl ?_
  obtain ⟨b1, hb_1, h⟩ := bs h
  refine WL.cutN 9 [(27, .bool b1), (0, pv0), (1, pv1), (5, .int .i64 s1)] ?_ (fun K => ?_)
  rotate_left
  ·refine spl 18 rfl hb_1 (fun c2 hb_1 => ?_) (fun c2 hb_1 => ?_)
   ·refine la rfl <| la rfl <| la rfl <| la rfl <| la rfl <| la rfl <| la rfl <| la rfl <| la rfl ?_
    cases hb_1
    exact kk K ⟨rfl, rfl, rfl, rfl, trivial⟩
   ·refine ly rfl rfl <| la rfl <| ly rfl rfl <| la rfl <| ly rfl rfl ?_
    obtain ⟨x3, hx3, hb_1⟩ := bs hb_1
    obtain ⟨cs2, F2, -, g2, hb2, hs2, r2⟩ := ph0.el (idx_some hx3).2.2
    obtain ⟨rfl, -⟩ := r2
    refine lq (q_indexAddr Sl_37 rfl rfl ph0 hx3) rfl <| ly rfl rfl <| lf Fld_139_1 rfl rfl rfl <| ly rfl rfl <| lg5 1 Tn_137 g2 rfl rfl <| ly rfl rfl <| la rfl <| ly rfl rfl ?_
    obtain ⟨x4, hx4, hb_1⟩ := bs hb_1
    refine lp (p_call Fun_141 rfl (fun w1 hw => m_s_l9Known_ok hw.fro N x3.L p1 ph1 hx4)) rfl <| ly rfl rfl <| la rfl <| la rfl ?_
    cases hb_1
    exact kk K ⟨rfl, rfl, rfl, rfl, trivial⟩
  refine la rfl ?_
  obtain ⟨b2, hb_2, h⟩ := bs h
  refine WL.cutN 9 [(37, .bool b2), (0, pv0), (1, pv1), (5, .int .i64 s1)] ?_ (fun K => ?_)
  rotate_left
  ·refine spl 28 rfl hb_2 (fun c3 hb_2 => ?_) (fun c3 hb_2 => ?_)
   ·refine la rfl <| la rfl <| la rfl <| la rfl <| la rfl <| la rfl <| la rfl <| la rfl <| la rfl ?_
    cases hb_2
    exact kk K ⟨rfl, rfl, rfl, rfl, trivial⟩
   ·refine ly rfl rfl <| la rfl <| ly rfl rfl <| la rfl <| ly rfl rfl ?_
    obtain ⟨x5, hx5, hb_2⟩ := bs hb_2
    obtain ⟨cs3, F3, -, g3, hb3, hs3, r3⟩ := ph0.el (idx_some hx5).2.2
    obtain ⟨rfl, -⟩ := r3
    refine lq (q_indexAddr Sl_37 rfl rfl ph0 hx5) rfl <| ly rfl rfl <| lf Fld_139_2 rfl rfl rfl <| ly rfl rfl <| lg5 6 Tn_137 g3 rfl rfl <| ly rfl rfl <| la rfl <| ly rfl rfl ?_
    obtain ⟨x6, hx6, hb_2⟩ := bs hb_2
    refine lp (p_call Fun_141 rfl (fun w1 hw => m_s_l9Known_ok hw.fro N x5.R p1 ph1 hx6)) rfl <| ly rfl rfl <| la rfl <| la rfl ?_
    cases hb_2
    exact kk K ⟨rfl, rfl, rfl, rfl, trivial⟩
  refine en ?_
  refine cdh rfl h (fun c4 h => ?_) (fun c4 h => ?_)
  ·refine sr <| la rfl <| en ?_
   refine WT.ret Tryz.func87 (resOk.one rfl) (fun w1 hw => ?_)
   subst hb0
   cases h
   exact post_of_St hw
  refine WT.skip <| ib <| rgn <| la rfl <| la rfl <| la rfl <| en ?_
  exact lback (ih1 (IntKind.i64.wrap (s1 + 1)) h) ⟨rfl, rfl, rfl, trivial⟩ (fun w1 hw => (hw.sel (js := []) rfl).selO (js := []) rfl)
 refine xt rfl <| sr <| la rfl <| lq (q_lenR Sl_37 rfl rfl ph0) rfl <| la rfl <| la rfl <| en ?_
 refine WT.ret Tryz.func87 (resOk.one rfl) (fun w1 hw => ?_)
 subst hb0
 cases h
 exact post_of_St hw
theorem m_s_l8Given_ok {Φ : Hp} {w : World} (hΦ : In Φ w) (N : Nat) (p0 : TArg)   {r : Bool} (h : m_s_l8Given N p0 = some r) :
  Calls Tryz.prog 210 [.agg [.int .i64 p0.K, .string p0.S, .int .i64 p0.V.K, .int .i64 p0.V.N, .string p0.V.S].toArray].toArray w (Post (.bool r) w) := by
 refine enter Tryz.func210 rfl Tryz.ntmps210 rfl (St.start0 hΦ) ?_
 unfold m_s_l8Given at h
 refine sr ?_
 refine ln (nb rfl) rfl (fun b_1 => ?_)
 refine la rfl <| en <| sr <| ld5 Tn_137 0 rfl ?_
 obtain ⟨x1, hx1, h⟩ := bs h
 refine lp (p_call Fun_179 rfl (fun w1 hw => m_s_ArgOk_ok hw.fro N p0 hx1)) rfl <| la rfl ?_
 obtain ⟨b1, hb_1, h⟩ := bs h
 refine WL.cutN 4 [(9, .bool b1), (2, .bool false)] ?_ (fun K => ?_)
 rotate_left
 ·refine spl 5 rfl hb_1 (fun c1 hb_1 => ?_) (fun c1 hb_1 => ?_)
  ·refine ly rfl rfl <| lf Fld_137_0 rfl rfl rfl <| ly rfl rfl <| lo T1_3 0 rfl <| ly rfl rfl <| la rfl <| la rfl ?_
   cases hb_1
   exact kk K ⟨rfl, rfl, trivial⟩
  ·refine la rfl <| la rfl <| la rfl <| la rfl ?_
   cases hb_1
   exact kk K ⟨rfl, rfl, trivial⟩
 refine la rfl <| en ?_
 refine WT.ret Tryz.func210 (resOk.one rfl) (fun w1 hw => ?_)
 cases h
 exact post_of_St hw
theorem m_s_ExprOk_ok {Φ : Hp} {w : World} (hΦ : In Φ w) (N : Nat) (p0 : TExpr)   {r : Bool} (h : m_s_ExprOk N p0 = some r) :
  Calls Tryz.prog 202 [.agg [.string p0.Op, .int .i64 p0.L.K, .string p0.L.S, .int .i64 p0.L.V.K, .int .i64 p0.L.V.N, .string p0.L.V.S, .int .i64 p0.R.K, .string p0.R.S, .int .i64 p0.R.V.K, .int .i64 p0.R.V.N, .string p0.R.V.S].toArray].toArray w (Post (.bool r) w) := by
 refine enter Tryz.func202 rfl Tryz.ntmps202 rfl (St.start0 hΦ) ?_
 generalize hb0 : (⟨w, [], Φ⟩ : Base) = w0
 unfold m_s_ExprOk at h
 refine sr ?_
 refine ln (nb rfl) rfl (fun b_1 => ?_)
 refine la rfl <| en <| sq <| sr <| lf Fld_191_0 rfl rfl rfl <| lo T1_9 0 rfl <| en <| blk <| sr <| la rfl <| la rfl <| en ?_
 refine cdh rfl h (fun c1 h => ?_) (fun c1 h => ?_)
 ·refine sr <| lf Fld_191_1 rfl rfl rfl <| ld5 Tn_137 0 rfl ?_
  obtain ⟨x1, hx1, h⟩ := bs h
  refine lp (p_call Fun_210 rfl (fun w1 hw => m_s_l8Given_ok hw.fro N p0.L hx1)) rfl <| la rfl ?_
  obtain ⟨b1, hb_1, h⟩ := bs h
  refine WL.cutN 5 [(15, .bool b1), (2, .bool false)] ?_ (fun K => ?_)
  rotate_left
  ·refine spl 10 rfl hb_1 (fun c2 hb_1 => ?_) (fun c2 hb_1 => ?_)
   ·refine ly rfl rfl <| lf Fld_191_2 rfl rfl rfl <| ly rfl rfl <| ld5 Tn_137 0 rfl <| ly rfl rfl <| lq (q_build (vs := []) (C := #[.int .i64 0, .string (⟨#[]⟩ : ByteArray), .int .i64 0, .int .i64 0, .string (⟨#[]⟩ : ByteArray)]) Pl_137 Zr_137 rfl (fill_nil)) rfl <| ly rfl rfl <| lq (q_eqA EqT_137 rfl rfl rfl (r := eqT_TArg p0.R (⟨0, (⟨#[]⟩ : ByteArray), (⟨0, 0, (⟨#[]⟩ : ByteArray)⟩ : TVal)⟩ : TArg)) rfl) rfl <| la rfl ?_
    cases hb_1
    exact kk K ⟨rfl, rfl, trivial⟩
   ·refine la rfl <| la rfl <| la rfl <| la rfl <| la rfl ?_
    cases hb_1
    exact kk K ⟨rfl, rfl, trivial⟩
  refine la rfl <| en ?_
  refine WT.ret Tryz.func202 (resOk.one rfl) (fun w1 hw => ?_)
  subst hb0
  cases h
  exact post_of_St hw
 refine sq <| sr <| la rfl <| la rfl <| en ?_
 refine cut (σ := Bool) (fun s => [(1, .pointer (some ⟨b_1, 0, none⟩)), (16, .bool s)]) (fun s => St w0 Φ [(b_1, .cells #[.string p0.Op, .int .i64 p0.L.K, .string p0.L.S, .int .i64 p0.L.V.K, .int .i64 p0.L.V.N, .string p0.L.V.S, .int .i64 p0.R.K, .string p0.R.S, .int .i64 p0.R.V.K, .int .i64 p0.R.V.N, .string p0.R.V.S] 191 (0, 0))] []) (fun s => m_s_ExprOk_j1 N p0 s = some r) (fun s hm => ?_) (fun K => ?_)
 ·clear h
  revert hm; revert s; intro s1 hm
  have h : m_s_ExprOk_j1 N p0 s1 = some r := hm
  show WT _ _ [(1, .pointer (some ⟨b_1, 0, none⟩)), (16, .bool s1)] (St w0 Φ [(b_1, .cells #[.string p0.Op, .int .i64 p0.L.K, .string p0.L.S, .int .i64 p0.L.V.K, .int .i64 p0.L.V.N, .string p0.L.V.S, .int .i64 p0.R.K, .string p0.R.S, .int .i64 p0.R.V.K, .int .i64 p0.R.V.N, .string p0.R.V.S] 191 (0, 0))] [])
  unfold m_s_ExprOk_j1 at h
  refine cdh rfl h (fun c3 h => ?_) (fun c3 h => ?_)
  ·refine sr <| lf Fld_191_1 rfl rfl rfl <| ld5 Tn_137 0 rfl ?_
   obtain ⟨x2, hx2, h⟩ := bs h
   refine lp (p_call Fun_210 rfl (fun w1 hw => m_s_l8Given_ok hw.fro N p0.L hx2)) rfl <| la rfl ?_
   obtain ⟨b2, hb_2, h⟩ := bs h
   refine WL.cutN 4 [(26, .bool b2)] ?_ (fun K => ?_)
   rotate_left
   ·refine spl 22 rfl hb_2 (fun c4 hb_2 => ?_) (fun c4 hb_2 => ?_)
    ·refine ly rfl rfl <| lf Fld_191_2 rfl rfl rfl <| ly rfl rfl <| ld5 Tn_137 0 rfl <| ly rfl rfl ?_
     obtain ⟨x3, hx3, hb_2⟩ := bs hb_2
     refine lp (p_call Fun_210 rfl (fun w1 hw => m_s_l8Given_ok hw.fro N p0.R hx3)) rfl <| la rfl ?_
     cases hb_2
     exact kk K ⟨rfl, trivial⟩
    ·refine la rfl <| la rfl <| la rfl <| la rfl ?_
     cases hb_2
     exact kk K ⟨rfl, trivial⟩
   refine la rfl <| en ?_
   refine WT.ret Tryz.func202 (resOk.one rfl) (fun w1 hw => ?_)
   subst hb0
   cases h
   exact post_of_St hw
  refine WT.skip <| ib <| sr <| la rfl <| en ?_
  refine WT.ret Tryz.func202 (resOk.one rfl) (fun w1 hw => ?_)
  subst hb0
  cases h
  exact post_of_St hw
 refine cdh rfl h (fun c5 h => ?_) (fun c5 h => ?_)
 ·refine WT.skip ?_
  exact wto (K (seq p0.Op (⟨#[43]⟩ : ByteArray)) h) ⟨rfl, rfl, trivial⟩ (fun w1 hw => (hw.sel (js := []) rfl).selO (js := [0]) rfl)
 refine rgn <| la rfl <| la rfl <| en ?_
 exact wto (K (seq p0.Op (⟨#[45]⟩ : ByteArray)) h) ⟨rfl, rfl, trivial⟩ (fun w1 hw => (hw.sel (js := []) rfl).selO (js := [0]) rfl)
theorem m_s_l8Args_ok {Φ : Hp} {w : World} (hΦ : In Φ w) (N : Nat) (p0 : (List TExpr)) {pv0 : Value} {pG0 : List Nat} (ph0 : RSl RTExpr 11 Φ pG0 pv0 p0) {r : Bool} (h : m_s_l8Args N p0 = some r) :
  Calls Tryz.prog 180 [pv0].toArray w (Post (.bool r) w) := by
 refine enter Tryz.func180 rfl Tryz.ntmps180 rfl (St.start0 hΦ) ?_
 generalize hb0 : (⟨w, [], Φ⟩ : Base) = w0
 unfold m_s_l8Args at h
 refine sr <| la rfl <| en <| sq <| sr <| la rfl <| en <| blk ?_
 refine loop_in (σ := Int) (fun s => [(0, pv0), (3, .int .i64 s)]) (fun s => St w0 Φ [] []) (fun m s => m_s_l8Args_l1 N p0 m s = some r) (0) N h ⟨rfl, rfl, trivial⟩ (fun w1 hw => (hw.sel (js := []) rfl).selO (js := []) rfl) (fun s hm => none_ne hm) (fun n1 ih1 s hm => ?_)
 revert hm; revert s; intro s1 hm
 have h : m_s_l8Args_l1 N p0 (n1 + 1) s1 = some r := hm
 show WT _ _ [(0, pv0), (3, .int .i64 s1)] (St w0 Φ [] [])
 unfold m_s_l8Args_l1 at h
 refine sq <| sr <| la rfl <| la rfl <| lq (q_lenR Sl_141 rfl rfl ph0) rfl <| la rfl <| en ?_
 refine cdh rfl h (fun c1 h => ?_) (fun c1 h => ?_)
 ·refine WT.skip <| sq <| blk <| sr <| la rfl <| la rfl ?_
  obtain ⟨x1, hx1, h⟩ := bs h
  obtain ⟨cs1, F1, -, g1, hb1, hs1, r1⟩ := ph0.el (idx_some hx1).2.2
  obtain ⟨rfl, -⟩ := r1
  refine lq (q_indexAddr Sl_141 rfl rfl ph0 hx1) rfl <| lg11 0 Tn_191 g1 rfl rfl ?_
  obtain ⟨x2, hx2, h⟩ := bs h
  refine lp (p_call Fun_202 rfl (fun w1 hw => m_s_ExprOk_ok hw.fro N x1 hx2)) rfl <| la rfl <| en ?_
  refine cdh rfl h (fun c2 h => ?_) (fun c2 h => ?_)
  ·refine sr <| la rfl <| en ?_
   refine WT.ret Tryz.func180 (resOk.one rfl) (fun w1 hw => ?_)
   subst hb0
   cases h
   exact post_of_St hw
  refine WT.skip <| ib <| rgn <| la rfl <| la rfl <| la rfl <| en ?_
  exact lback (ih1 (IntKind.i64.wrap (s1 + 1)) h) ⟨rfl, rfl, trivial⟩ (fun w1 hw => (hw.sel (js := []) rfl).selO (js := []) rfl)
 refine xt rfl <| sr <| la rfl <| lq (q_lenR Sl_141 rfl rfl ph0) rfl <| la rfl <| la rfl <| en ?_
 refine WT.ret Tryz.func180 (resOk.one rfl) (fun w1 hw => ?_)
 subst hb0
 cases h
 exact post_of_St hw
theorem m_s_ActOk_ok {Φ : Hp} {w : World} (hΦ : In Φ w) (N : Nat) (p0 : TAct) {pv0_0 : Value} {pG0_0 : List Nat} (ph0_0 : RSl RTExpr 11 Φ pG0_0 pv0_0 p0.Args) {r : Bool} (h : m_s_ActOk N p0 = some r) :
  Calls Tryz.prog 142 [.agg [.int .i64 p0.Kind, .string p0.Name, pv0_0, .int .i64 p0.N, .string p0.Undo].toArray].toArray w (Post (.bool r) w) := by
 refine enter Tryz.func142 rfl Tryz.ntmps142 rfl (St.start0 hΦ) ?_
 generalize hb0 : (⟨w, [], Φ⟩ : Base) = w0
 unfold m_s_ActOk at h
 refine sr ?_
 refine ln (nb rfl) rfl (fun b_1 => ?_)
 refine la rfl <| en <| sr <| lf Fld_143_1 rfl rfl rfl <| lo T1_9 0 rfl <| la rfl <| la rfl ?_
 obtain ⟨b1, hb_1, h⟩ := bs h
 refine WL.cutN 5 [(12, .bool b1), (1, .pointer (some ⟨b_1, 0, none⟩))] ?_ (fun K => ?_)
 rotate_left
 ·refine spl 7 rfl hb_1 (fun c1 hb_1 => ?_) (fun c1 hb_1 => ?_)
  ·refine ly rfl rfl <| lf Fld_143_2 rfl rfl rfl <| ly rfl rfl <| lo T1_141 0 rfl <| ly rfl rfl <| lq (q_lenR Sl_141 rfl rfl ph0_0) rfl <| ly rfl rfl <| la rfl <| la rfl ?_
   cases hb_1
   exact kk K ⟨rfl, rfl, trivial⟩
  ·refine la rfl <| la rfl <| la rfl <| la rfl <| la rfl ?_
   cases hb_1
   exact kk K ⟨rfl, rfl, trivial⟩
 refine la rfl ?_
 obtain ⟨b2, hb_2, h⟩ := bs h
 refine WL.cutN 4 [(17, .bool b2), (1, .pointer (some ⟨b_1, 0, none⟩))] ?_ (fun K => ?_)
 rotate_left
 ·refine spl 13 rfl hb_2 (fun c2 hb_2 => ?_) (fun c2 hb_2 => ?_)
  ·refine ly rfl rfl <| lf Fld_143_4 rfl rfl rfl <| ly rfl rfl <| lo T1_9 0 rfl <| ly rfl rfl <| la rfl <| la rfl ?_
   cases hb_2
   exact kk K ⟨rfl, rfl, trivial⟩
  ·refine la rfl <| la rfl <| la rfl <| la rfl ?_
   cases hb_2
   exact kk K ⟨rfl, rfl, trivial⟩
 refine la rfl <| en <| sq <| sr <| lf Fld_143_0 rfl rfl rfl <| lo T1_3 0 rfl <| en <| blk <| sr <| la rfl <| la rfl <| en ?_
 refine cdh rfl h (fun c3 h => ?_) (fun c3 h => ?_)
 ·refine sr <| lf Fld_143_1 rfl rfl rfl <| lo T1_9 0 rfl ?_
  obtain ⟨x1, hx1, h⟩ := bs h
  refine lp (p_call Fun_40 rfl (fun w1 hw => m_s_NameOk_ok hw.fro N p0.Name hx1)) rfl <| la rfl ?_
  obtain ⟨b3, hb_3, h⟩ := bs h
  refine WL.cutN 4 [(29, .bool b3), (1, .pointer (some ⟨b_1, 0, none⟩))] ?_ (fun K => ?_)
  rotate_left
  ·refine spl 25 rfl hb_3 (fun c4 hb_3 => ?_) (fun c4 hb_3 => ?_)
   ·refine ly rfl rfl <| lf Fld_143_2 rfl rfl rfl <| ly rfl rfl <| lo T1_141 0 rfl <| ly rfl rfl ?_
    obtain ⟨x2, hx2, hb_3⟩ := bs hb_3
    refine lp (p_call Fun_180 rfl (fun w1 hw => m_s_l8Args_ok hw.fro N p0.Args ph0_0 hx2)) rfl <| la rfl ?_
    cases hb_3
    exact kk K ⟨rfl, rfl, trivial⟩
   ·refine la rfl <| la rfl <| la rfl <| la rfl ?_
    cases hb_3
    exact kk K ⟨rfl, rfl, trivial⟩
  refine la rfl ?_
  obtain ⟨b4, hb_4, h⟩ := bs h
  refine WL.cutN 4 [(34, .bool b4), (1, .pointer (some ⟨b_1, 0, none⟩))] ?_ (fun K => ?_)
  rotate_left
  ·refine spl 30 rfl hb_4 (fun c5 hb_4 => ?_) (fun c5 hb_4 => ?_)
   ·refine ly rfl rfl <| lf Fld_143_3 rfl rfl rfl <| ly rfl rfl <| lo T1_3 0 rfl <| ly rfl rfl <| la rfl <| la rfl ?_
    cases hb_4
    exact kk K ⟨rfl, rfl, trivial⟩
   ·refine la rfl <| la rfl <| la rfl <| la rfl ?_
    cases hb_4
    exact kk K ⟨rfl, rfl, trivial⟩
  refine la rfl ?_
  obtain ⟨b5, hb_5, h⟩ := bs h
  refine WL.cutN 4 [(39, .bool b5)] ?_ (fun K => ?_)
  rotate_left
  ·refine spl 35 rfl hb_5 (fun c6 hb_5 => ?_) (fun c6 hb_5 => ?_)
   ·refine ly rfl rfl <| lf Fld_143_4 rfl rfl rfl <| ly rfl rfl <| lo T1_9 0 rfl <| ly rfl rfl <| la rfl <| la rfl ?_
    cases hb_5
    exact kk K ⟨rfl, trivial⟩
   ·refine la rfl <| la rfl <| la rfl <| la rfl ?_
    cases hb_5
    exact kk K ⟨rfl, trivial⟩
  refine la rfl <| en ?_
  refine WT.ret Tryz.func142 (resOk.one rfl) (fun w1 hw => ?_)
  subst hb0
  cases h
  exact post_of_St hw
 refine sr <| la rfl <| la rfl <| en ?_
 refine cdh rfl h (fun c7 h => ?_) (fun c7 h => ?_)
 ·refine sr <| lf Fld_143_1 rfl rfl rfl <| lo T1_9 0 rfl ?_
  obtain ⟨x3, hx3, h⟩ := bs h
  refine lp (p_call Fun_40 rfl (fun w1 hw => m_s_NameOk_ok hw.fro N p0.Name hx3)) rfl <| la rfl ?_
  obtain ⟨b6, hb_6, h⟩ := bs h
  refine WL.cutN 4 [(49, .bool b6), (1, .pointer (some ⟨b_1, 0, none⟩))] ?_ (fun K => ?_)
  rotate_left
  ·refine spl 45 rfl hb_6 (fun c8 hb_6 => ?_) (fun c8 hb_6 => ?_)
   ·refine ly rfl rfl <| lf Fld_143_2 rfl rfl rfl <| ly rfl rfl <| lo T1_141 0 rfl <| ly rfl rfl ?_
    obtain ⟨x4, hx4, hb_6⟩ := bs hb_6
    refine lp (p_call Fun_180 rfl (fun w1 hw => m_s_l8Args_ok hw.fro N p0.Args ph0_0 hx4)) rfl <| la rfl ?_
    cases hb_6
    exact kk K ⟨rfl, rfl, trivial⟩
   ·refine la rfl <| la rfl <| la rfl <| la rfl ?_
    cases hb_6
    exact kk K ⟨rfl, rfl, trivial⟩
  refine la rfl ?_
  obtain ⟨b7, hb_7, h⟩ := bs h
  refine WL.cutN 4 [(54, .bool b7), (1, .pointer (some ⟨b_1, 0, none⟩))] ?_ (fun K => ?_)
  rotate_left
  ·refine spl 50 rfl hb_7 (fun c9 hb_7 => ?_) (fun c9 hb_7 => ?_)
   ·refine ly rfl rfl <| lf Fld_143_3 rfl rfl rfl <| ly rfl rfl <| lo T1_3 0 rfl <| ly rfl rfl <| la rfl <| la rfl ?_
    cases hb_7
    exact kk K ⟨rfl, rfl, trivial⟩
   ·refine la rfl <| la rfl <| la rfl <| la rfl ?_
    cases hb_7
    exact kk K ⟨rfl, rfl, trivial⟩
  refine la rfl ?_
  obtain ⟨b8, hb_8, h⟩ := bs h
  refine WL.cutN 9 [(64, .bool b8)] ?_ (fun K => ?_)
  rotate_left
  ·refine spl 55 rfl hb_8 (fun c10 hb_8 => ?_) (fun c10 hb_8 => ?_)
   ·refine ly rfl rfl <| lf Fld_143_4 rfl rfl rfl <| ly rfl rfl <| lo T1_9 0 rfl <| ly rfl rfl <| la rfl <| ly rfl rfl <| la rfl ?_
    obtain ⟨b9, hb_9, hb_8⟩ := bs hb_8
    refine WL.cutN 4 [(63, .bool b9), (55, .bool true)] ?_ (fun K => ?_)
    rotate_left
    ·refine spl 59 rfl hb_9 (fun c11 hb_9 => ?_) (fun c11 hb_9 => ?_)
     ·refine la rfl <| la rfl <| la rfl <| ly rfl rfl <| la rfl ?_
      cases hb_9
      exact kk K ⟨rfl, rfl, trivial⟩
     ·refine ly rfl rfl <| lf Fld_143_4 rfl rfl rfl <| ly rfl rfl <| lo T1_9 0 rfl <| ly rfl rfl ?_
      obtain ⟨x5, hx5, hb_9⟩ := bs hb_9
      refine lp (p_call Fun_40 rfl (fun w1 hw => m_s_NameOk_ok hw.fro N p0.Undo hx5)) rfl <| ly rfl rfl <| la rfl ?_
      cases hb_9
      exact kk K ⟨rfl, rfl, trivial⟩
    refine la rfl ?_
    cases hb_8
    exact kk K ⟨rfl, trivial⟩
   ·refine la rfl <| la rfl <| la rfl <| la rfl <| WL.nox rfl rfl rfl rfl <| WL.nox rfl rfl rfl rfl <| WL.nox rfl rfl rfl rfl <| la rfl <| la rfl ?_
    cases hb_8
    exact kk K ⟨rfl, trivial⟩
  refine la rfl <| en ?_
  refine WT.ret Tryz.func142 (resOk.one rfl) (fun w1 hw => ?_)
  subst hb0
  cases h
  exact post_of_St hw
 refine sr <| la rfl <| la rfl <| en ?_
 refine cdh rfl h (fun c12 h => ?_) (fun c12 h => ?_)
 ·refine sr <| lf Fld_143_1 rfl rfl rfl <| lo T1_9 0 rfl ?_
  obtain ⟨x6, hx6, h⟩ := bs h
  refine lp (p_call Fun_40 rfl (fun w1 hw => m_s_NameOk_ok hw.fro N p0.Name hx6)) rfl <| la rfl ?_
  obtain ⟨b10, hb_10, h⟩ := bs h
  refine WL.cutN 4 [(74, .bool b10), (1, .pointer (some ⟨b_1, 0, none⟩))] ?_ (fun K => ?_)
  rotate_left
  ·refine spl 70 rfl hb_10 (fun c13 hb_10 => ?_) (fun c13 hb_10 => ?_)
   ·refine ly rfl rfl <| lf Fld_143_2 rfl rfl rfl <| ly rfl rfl <| lo T1_141 0 rfl <| ly rfl rfl ?_
    obtain ⟨x7, hx7, hb_10⟩ := bs hb_10
    refine lp (p_call Fun_180 rfl (fun w1 hw => m_s_l8Args_ok hw.fro N p0.Args ph0_0 hx7)) rfl <| la rfl ?_
    cases hb_10
    exact kk K ⟨rfl, rfl, trivial⟩
   ·refine la rfl <| la rfl <| la rfl <| la rfl ?_
    cases hb_10
    exact kk K ⟨rfl, rfl, trivial⟩
  refine la rfl ?_
  obtain ⟨b11, hb_11, h⟩ := bs h
  refine WL.cutN 4 [(79, .bool b11), (1, .pointer (some ⟨b_1, 0, none⟩))] ?_ (fun K => ?_)
  rotate_left
  ·refine spl 75 rfl hb_11 (fun c14 hb_11 => ?_) (fun c14 hb_11 => ?_)
   ·refine ly rfl rfl <| lf Fld_143_3 rfl rfl rfl <| ly rfl rfl <| lo T1_3 0 rfl <| ly rfl rfl ?_
    obtain ⟨x8, hx8, hb_11⟩ := bs hb_11
    refine lp (p_call Fun_41 rfl (fun w1 hw => m_s_l1In_ok hw.fro N p0.N 0 100000 hx8)) rfl <| la rfl ?_
    cases hb_11
    exact kk K ⟨rfl, rfl, trivial⟩
   ·refine la rfl <| la rfl <| la rfl <| la rfl ?_
    cases hb_11
    exact kk K ⟨rfl, rfl, trivial⟩
  refine la rfl ?_
  obtain ⟨b12, hb_12, h⟩ := bs h
  refine WL.cutN 4 [(84, .bool b12)] ?_ (fun K => ?_)
  rotate_left
  ·refine spl 80 rfl hb_12 (fun c15 hb_12 => ?_) (fun c15 hb_12 => ?_)
   ·refine ly rfl rfl <| lf Fld_143_4 rfl rfl rfl <| ly rfl rfl <| lo T1_9 0 rfl <| ly rfl rfl <| la rfl <| la rfl ?_
    cases hb_12
    exact kk K ⟨rfl, trivial⟩
   ·refine la rfl <| la rfl <| la rfl <| la rfl ?_
    cases hb_12
    exact kk K ⟨rfl, trivial⟩
  refine la rfl <| en ?_
  refine WT.ret Tryz.func142 (resOk.one rfl) (fun w1 hw => ?_)
  subst hb0
  cases h
  exact post_of_St hw
 refine sr <| la rfl <| la rfl <| en ?_
 refine cdh rfl h (fun c16 h => ?_) (fun c16 h => ?_)
 ·refine sr <| la rfl <| la rfl ?_
  obtain ⟨b13, hb_13, h⟩ := bs h
  refine WL.cutN 4 [(92, .bool b13)] ?_ (fun K => ?_)
  rotate_left
  ·refine spl 88 rfl hb_13 (fun c17 hb_13 => ?_) (fun c17 hb_13 => ?_)
   ·refine ly rfl rfl <| lf Fld_143_3 rfl rfl rfl <| ly rfl rfl <| lo T1_3 0 rfl <| ly rfl rfl ?_
    obtain ⟨x9, hx9, hb_13⟩ := bs hb_13
    refine lp (p_call Fun_41 rfl (fun w1 hw => m_s_l1In_ok hw.fro N p0.N 0 7 hx9)) rfl <| la rfl ?_
    cases hb_13
    exact kk K ⟨rfl, trivial⟩
   ·refine la rfl <| la rfl <| la rfl <| la rfl ?_
    cases hb_13
    exact kk K ⟨rfl, trivial⟩
  refine la rfl <| en ?_
  refine WT.ret Tryz.func142 (resOk.one rfl) (fun w1 hw => ?_)
  subst hb0
  cases h
  exact post_of_St hw
 refine sq <| sr <| la rfl <| la rfl <| en ?_
 refine cut (σ := Bool) (fun s => [(1, .pointer (some ⟨b_1, 0, none⟩)), (3, .bool b2), (93, .bool s)]) (fun s => St w0 Φ [(b_1, .cells #[.int .i64 p0.Kind, .string p0.Name, pv0_0, .int .i64 p0.N, .string p0.Undo] 143 (0, 0))] []) (fun s => m_s_ActOk_j1 N p0 b2 s = some r) (fun s hm => ?_) (fun K => ?_)
 ·clear h
  revert hm; revert s; intro s1 hm
  have h : m_s_ActOk_j1 N p0 b2 s1 = some r := hm
  show WT _ _ [(1, .pointer (some ⟨b_1, 0, none⟩)), (3, .bool b2), (93, .bool s1)] (St w0 Φ [(b_1, .cells #[.int .i64 p0.Kind, .string p0.Name, pv0_0, .int .i64 p0.N, .string p0.Undo] 143 (0, 0))] [])
  unfold m_s_ActOk_j1 at h
  refine cdh rfl h (fun c18 h => ?_) (fun c18 h => ?_)
  ·refine sr <| la rfl <| la rfl ?_
   obtain ⟨b14, hb_14, h⟩ := bs h
   refine WL.cutN 4 [(101, .bool b14)] ?_ (fun K => ?_)
   rotate_left
   ·refine spl 97 rfl hb_14 (fun c19 hb_14 => ?_) (fun c19 hb_14 => ?_)
    ·refine ly rfl rfl <| lf Fld_143_3 rfl rfl rfl <| ly rfl rfl <| lo T1_3 0 rfl <| ly rfl rfl <| la rfl <| la rfl ?_
     cases hb_14
     exact kk K ⟨rfl, trivial⟩
    ·refine la rfl <| la rfl <| la rfl <| la rfl ?_
     cases hb_14
     exact kk K ⟨rfl, trivial⟩
   refine la rfl <| en ?_
   refine WT.ret Tryz.func142 (resOk.one rfl) (fun w1 hw => ?_)
   subst hb0
   cases h
   exact post_of_St hw
  refine WT.skip <| ib <| sr <| la rfl <| en ?_
  refine WT.ret Tryz.func142 (resOk.one rfl) (fun w1 hw => ?_)
  subst hb0
  cases h
  exact post_of_St hw
 refine cdh rfl h (fun c20 h => ?_) (fun c20 h => ?_)
 ·refine WT.skip ?_
  exact wto (K (decide (p0.Kind = 5)) h) ⟨rfl, rfl, rfl, trivial⟩ (fun w1 hw => (hw.sel (js := []) rfl).selO (js := [0]) rfl)
 refine rgn <| la rfl <| la rfl <| en ?_
 exact wto (K (decide (p0.Kind = 6)) h) ⟨rfl, rfl, rfl, trivial⟩ (fun w1 hw => (hw.sel (js := []) rfl).selO (js := [0]) rfl)
theorem m_s_l9Acts_ok {Φ : Hp} {w : World} (hΦ : In Φ w) (N : Nat) (p0 : (List TAct)) (p1 : (List ByteArray)) (p2 : Int) {pv0 pv1 : Value} {pG0 pG1 : List Nat} (ph0 : RSl RTAct 5 Φ pG0 pv0 p0) (ph1 : RSl RS 1 Φ pG1 pv1 p1) {r : Bool} (h : m_s_l9Acts N p0 p1 p2 = some r) :
  Calls Tryz.prog 88 [pv0, pv1, .int .i64 p2].toArray w (Post (.bool r) w) := by
 refine enter Tryz.func88 rfl Tryz.ntmps88 rfl (St.start0 hΦ) ?_
 generalize hb0 : (⟨w, [], Φ⟩ : Base) = w0
 unfold m_s_l9Acts at h
 refine sr <| la rfl <| en <| sq <| sr <| la rfl <| en <| blk ?_
 refine loop_in (σ := Int) (fun s => [(0, pv0), (1, pv1), (2, .int .i64 p2), (7, .int .i64 s)]) (fun s => St w0 Φ [] []) (fun m s => m_s_l9Acts_l1 N p0 p1 p2 m s = some r) (0) N h ⟨rfl, rfl, rfl, rfl, trivial⟩ (fun w1 hw => (hw.sel (js := []) rfl).selO (js := []) rfl) (fun s hm => none_ne hm) (fun n1 ih1 s hm => ?_)
 revert hm; revert s; intro s1 hm
 have h : m_s_l9Acts_l1 N p0 p1 p2 (n1 + 1) s1 = some r := hm
 show WT _ _ [(0, pv0), (1, pv1), (2, .int .i64 p2), (7, .int .i64 s1)] (St w0 Φ [] [])
 unfold m_s_l9Acts_l1 at h
 refine sq <| sr <| la rfl <| la rfl <| lq (q_lenR Sl_38 rfl rfl ph0) rfl <| la rfl <| en ?_
 refine cdh rfl h (fun c1 h => ?_) (fun c1 h => ?_)
 ·refine WT.skip <| sq <| blk <| sq <| sr <| la rfl <| la rfl ?_
  obtain ⟨x1, hx1, h⟩ := bs h
  obtain ⟨cs1, F1, -, g1, hb1, hs1, r1⟩ := ph0.el (idx_some hx1).2.2
  obtain ⟨v1, G1, rfl, hq1, h1⟩ := r1
  obtain rfl := hq1.symm
  refine lq (q_indexAddr Sl_38 rfl rfl ph0 hx1) rfl <| lg5 0 Tn_143 g1 rfl rfl ?_
  obtain ⟨x2, hx2, h⟩ := bs h
  refine lp (p_call Fun_142 rfl (fun w1 hw => m_s_ActOk_ok hw.fro N x1 h1 hx2)) rfl <| la rfl <| la rfl ?_
  obtain ⟨b1, hb_1, h⟩ := bs h
  refine WL.cutN 16 [(37, .bool b1), (0, pv0), (1, pv1), (2, .int .i64 p2), (7, .int .i64 s1)] ?_ (fun K => ?_)
  rotate_left
  ·refine spl 21 rfl hb_1 (fun c2 hb_1 => ?_) (fun c2 hb_1 => ?_)
   ·refine la rfl <| la rfl <| la rfl <| la rfl <| la rfl <| la rfl <| la rfl <| WL.nox rfl rfl rfl rfl <| WL.nox rfl rfl rfl rfl <| WL.nox rfl rfl rfl rfl <| WL.nox rfl rfl rfl rfl <| WL.nox rfl rfl rfl rfl <| WL.nox rfl rfl rfl rfl <| WL.nox rfl rfl rfl rfl <| la rfl <| la rfl ?_
    cases hb_1
    exact kk K ⟨rfl, rfl, rfl, rfl, rfl, trivial⟩
   ·refine ly rfl rfl <| la rfl <| ly rfl rfl <| la rfl <| ly rfl rfl ?_
    obtain ⟨x3, hx3, hb_1⟩ := bs hb_1
    obtain ⟨cs2, F2, -, g2, hb2, hs2, r2⟩ := ph0.el (idx_some hx3).2.2
    obtain ⟨v2, G2, rfl, hq2, h2⟩ := r2
    obtain rfl := hq2.symm
    refine lq (q_indexAddr Sl_38 rfl rfl ph0 hx3) rfl <| ly rfl rfl <| lf Fld_143_0 rfl rfl rfl <| ly rfl rfl <| lg 0 T1_3 g2 rfl rfl <| ly rfl rfl <| la rfl <| ly rfl rfl <| la rfl ?_
    obtain ⟨b2, hb_2, hb_1⟩ := bs hb_1
    refine WL.cutN 8 [(36, .bool b2), (0, pv0), (1, pv1), (2, .int .i64 p2), (7, .int .i64 s1), (21, .bool false)] ?_ (fun K => ?_)
    rotate_left
    ·refine spl 28 rfl hb_2 (fun c3 hb_2 => ?_) (fun c3 hb_2 => ?_)
     ·refine ly rfl rfl <| la rfl <| ly rfl rfl <| la rfl <| ly rfl rfl ?_
      obtain ⟨x4, hx4, hb_2⟩ := bs hb_2
      obtain ⟨cs3, F3, -, g3, hb3, hs3, r3⟩ := ph0.el (idx_some hx4).2.2
      obtain ⟨v3, G3, rfl, hq3, h3⟩ := r3
      obtain rfl := hq3.symm
      refine lq (q_indexAddr Sl_38 rfl rfl ph0 hx4) rfl <| ly rfl rfl <| lf Fld_143_3 rfl rfl rfl <| ly rfl rfl <| lg 3 T1_3 g3 rfl rfl <| ly rfl rfl <| la rfl <| ly rfl rfl <| la rfl <| ly rfl rfl <| la rfl ?_
      cases hb_2
      exact kk K ⟨rfl, rfl, rfl, rfl, rfl, rfl, trivial⟩
     ·refine la rfl <| la rfl <| la rfl <| la rfl <| la rfl <| la rfl <| la rfl <| ly rfl rfl <| la rfl ?_
      cases hb_2
      exact kk K ⟨rfl, rfl, rfl, rfl, rfl, rfl, trivial⟩
    refine la rfl ?_
    cases hb_1
    exact kk K ⟨rfl, rfl, rfl, rfl, rfl, trivial⟩
  refine en ?_
  refine cdh rfl h (fun c4 h => ?_) (fun c4 h => ?_)
  ·refine sr <| la rfl <| en ?_
   refine WT.ret Tryz.func88 (resOk.one rfl) (fun w1 hw => ?_)
   subst hb0
   cases h
   exact post_of_St hw
  refine WT.skip <| sr <| la rfl <| en <| blk ?_
  refine loop_in (σ := Int) (fun s => [(0, pv0), (1, pv1), (2, .int .i64 p2), (7, .int .i64 s1), (8, .int .i64 s)]) (fun s => St w0 Φ [] []) (fun m s => m_s_l9Acts_l2 N p0 p1 s1 (m_s_l9Acts_l1 N p0 p1 p2 n1) m s = some r) (0) N h ⟨rfl, rfl, rfl, rfl, rfl, trivial⟩ (fun w1 hw => (hw.sel (js := []) rfl).selO (js := []) rfl) (fun s hm => none_ne hm) (fun n2 ih2 s hm => ?_)
  revert hm; revert s; intro s2 hm
  have h : m_s_l9Acts_l2 N p0 p1 s1 (m_s_l9Acts_l1 N p0 p1 p2 n1) (n2 + 1) s2 = some r := hm
  show WT _ _ [(0, pv0), (1, pv1), (2, .int .i64 p2), (7, .int .i64 s1), (8, .int .i64 s2)] (St w0 Φ [] [])
  unfold m_s_l9Acts_l2 at h
  refine sq <| sr <| la rfl <| la rfl <| la rfl ?_
  obtain ⟨x5, hx5, h⟩ := bs h
  obtain ⟨cs4, F4, -, g4, hb4, hs4, r4⟩ := ph0.el (idx_some hx5).2.2
  obtain ⟨v4, G4, rfl, hq4, h4⟩ := r4
  obtain rfl := hq4.symm
  refine lq (q_indexAddr Sl_38 rfl rfl ph0 hx5) rfl <| lf Fld_143_2 rfl rfl rfl <| lg 2 T1_141 g4 rfl rfl <| lq (q_lenR Sl_141 rfl rfl h4) rfl <| la rfl <| en ?_
  refine cdh rfl h (fun c5 h => ?_) (fun c5 h => ?_)
  ·refine WT.skip <| sq <| blk <| sr <| la rfl <| la rfl ?_
   obtain ⟨x6, hx6, h⟩ := bs h
   obtain ⟨cs5, F5, -, g5, hb5, hs5, r5⟩ := ph0.el (idx_some hx6).2.2
   obtain ⟨v5, G5, rfl, hq5, h5⟩ := r5
   obtain rfl := hq5.symm
   refine lq (q_indexAddr Sl_38 rfl rfl ph0 hx6) rfl <| lf Fld_143_2 rfl rfl rfl <| lg 2 T1_141 g5 rfl rfl <| la rfl ?_
   obtain ⟨x7, hx7, h⟩ := bs h
   obtain ⟨cs6, F6, -, g6, hb6, hs6, r6⟩ := h5.el (idx_some hx7).2.2
   obtain ⟨rfl, -⟩ := r6
   refine lq (q_indexAddr Sl_141 rfl rfl h5 hx7) rfl <| lf Fld_191_1 rfl rfl rfl <| lg5 1 Tn_137 g6 rfl rfl <| la rfl ?_
   obtain ⟨x8, hx8, h⟩ := bs h
   refine lp (p_call Fun_141 rfl (fun w1 hw => m_s_l9Known_ok hw.fro N x7.L p1 ph1 hx8)) rfl <| la rfl <| la rfl ?_
   obtain ⟨b3, hb_3, h⟩ := bs h
   refine WL.cutN 13 [(73, .bool b3), (0, pv0), (1, pv1), (2, .int .i64 p2), (7, .int .i64 s1), (8, .int .i64 s2)] ?_ (fun K => ?_)
   rotate_left
   ·refine spl 60 rfl hb_3 (fun c6 hb_3 => ?_) (fun c6 hb_3 => ?_)
    ·refine la rfl <| la rfl <| la rfl <| la rfl <| la rfl <| la rfl <| la rfl <| la rfl <| la rfl <| la rfl <| la rfl <| la rfl <| la rfl ?_
     cases hb_3
     exact kk K ⟨rfl, rfl, rfl, rfl, rfl, rfl, trivial⟩
    ·refine ly rfl rfl <| la rfl <| ly rfl rfl <| la rfl <| ly rfl rfl ?_
     obtain ⟨x9, hx9, hb_3⟩ := bs hb_3
     obtain ⟨cs7, F7, -, g7, hb7, hs7, r7⟩ := ph0.el (idx_some hx9).2.2
     obtain ⟨v6, G6, rfl, hq6, h6⟩ := r7
     obtain rfl := hq6.symm
     refine lq (q_indexAddr Sl_38 rfl rfl ph0 hx9) rfl <| ly rfl rfl <| lf Fld_143_2 rfl rfl rfl <| ly rfl rfl <| lg 2 T1_141 g7 rfl rfl <| ly rfl rfl <| la rfl <| ly rfl rfl ?_
     obtain ⟨x10, hx10, hb_3⟩ := bs hb_3
     obtain ⟨cs8, F8, -, g8, hb8, hs8, r8⟩ := h6.el (idx_some hx10).2.2
     obtain ⟨rfl, -⟩ := r8
     refine lq (q_indexAddr Sl_141 rfl rfl h6 hx10) rfl <| ly rfl rfl <| lf Fld_191_2 rfl rfl rfl <| ly rfl rfl <| lg5 6 Tn_137 g8 rfl rfl <| ly rfl rfl <| la rfl <| ly rfl rfl ?_
     obtain ⟨x11, hx11, hb_3⟩ := bs hb_3
     refine lp (p_call Fun_141 rfl (fun w1 hw => m_s_l9Known_ok hw.fro N x10.R p1 ph1 hx11)) rfl <| ly rfl rfl <| la rfl <| la rfl ?_
     cases hb_3
     exact kk K ⟨rfl, rfl, rfl, rfl, rfl, rfl, trivial⟩
   refine en ?_
   refine cdh rfl h (fun c7 h => ?_) (fun c7 h => ?_)
   ·refine sr <| la rfl <| en ?_
    refine WT.ret Tryz.func88 (resOk.one rfl) (fun w1 hw => ?_)
    subst hb0
    cases h
    exact post_of_St hw
   refine WT.skip <| ib <| rgn <| la rfl <| la rfl <| la rfl <| en ?_
   exact lback (ih2 (IntKind.i64.wrap (s2 + 1)) h) ⟨rfl, rfl, rfl, rfl, rfl, trivial⟩ (fun w1 hw => (hw.sel (js := []) rfl).selO (js := []) rfl)
  refine xt rfl <| ib <| rgn <| la rfl <| la rfl <| la rfl <| en ?_
  exact lback (ih1 (IntKind.i64.wrap (s1 + 1)) h) ⟨rfl, rfl, rfl, rfl, trivial⟩ (fun w1 hw => (hw.sel (js := []) rfl).selO (js := []) rfl)
 refine xt rfl <| sr <| la rfl <| lq (q_lenR Sl_38 rfl rfl ph0) rfl ?_
 obtain ⟨x12, hx12, h⟩ := bs h
 refine lp (p_call Fun_41 rfl (fun w1 hw => m_s_l1In_ok hw.fro N (p0.length : Int) 1 6 hx12)) rfl <| la rfl <| en ?_
 refine WT.ret Tryz.func88 (resOk.one rfl) (fun w1 hw => ?_)
 subst hb0
 cases h
 exact post_of_St hw
theorem m_s_PosCount_ok {Φ : Hp} {w : World} (hΦ : In Φ w) (N : Nat) (p0 : TRule) {pv0_0 pv0_1 pv0_2 : Value} {pG0_0 pG0_1 pG0_2 : List Nat} (ph0_0 : RSl RTPat 3 Φ pG0_0 pv0_0 p0.Pats) (ph0_1 : RSl RTCond 11 Φ pG0_1 pv0_1 p0.Conds) (ph0_2 : RSl RTAct 5 Φ pG0_2 pv0_2 p0.Acts) {r : Int} (h : m_s_PosCount N p0 = some r) :
  Calls Tryz.prog 89 [.agg [.string p0.Name, .int .i64 p0.Sal, pv0_0, pv0_1, pv0_2].toArray].toArray w (Post (.int .i64 r) w) := by
 refine enter Tryz.func89 rfl Tryz.ntmps89 rfl (St.start0 hΦ) ?_
 generalize hb0 : (⟨w, [], Φ⟩ : Base) = w0
 unfold m_s_PosCount at h
 refine sr ?_
 refine ln (nb rfl) rfl (fun b_1 => ?_)
 refine la rfl <| en <| sr <| la rfl <| en <| sq <| sr <| la rfl <| en <| blk ?_
 refine loop_in (σ := Int × Int) (fun s => [(1, .pointer (some ⟨b_1, 0, none⟩)), (3, .int .i64 s.1), (4, .int .i64 s.2)]) (fun s => St w0 Φ [(b_1, .cells #[.string p0.Name, .int .i64 p0.Sal, pv0_0, pv0_1, pv0_2] 40 (0, 0))] []) (fun m s => m_s_PosCount_l1 N p0 m s.1 s.2 = some r) (0, 0) N h ⟨rfl, rfl, rfl, trivial⟩ (fun w1 hw => (hw.sel (js := []) rfl).selO (js := [0]) rfl) (fun s hm => none_ne hm) (fun n1 ih1 s hm => ?_)
 obtain ⟨s1, s2⟩ := s
 have h : m_s_PosCount_l1 N p0 (n1 + 1) s1 s2 = some r := hm
 show WT _ _ [(1, .pointer (some ⟨b_1, 0, none⟩)), (3, .int .i64 s1), (4, .int .i64 s2)] (St w0 Φ [(b_1, .cells #[.string p0.Name, .int .i64 p0.Sal, pv0_0, pv0_1, pv0_2] 40 (0, 0))] [])
 unfold m_s_PosCount_l1 at h
 refine sq <| sr <| la rfl <| lf Fld_40_2 rfl rfl rfl <| lo T1_36 0 rfl <| lq (q_lenR Sl_36 rfl rfl ph0_0) rfl <| la rfl <| en ?_
 refine cdh rfl h (fun c1 h => ?_) (fun c1 h => ?_)
 ·refine WT.skip <| sq <| blk <| sr <| lf Fld_40_2 rfl rfl rfl <| lo T1_36 0 rfl <| la rfl ?_
  obtain ⟨x1, hx1, h⟩ := bs h
  obtain ⟨cs1, F1, -, g1, hb1, hs1, r1⟩ := ph0_0.el (idx_some hx1).2.2
  obtain ⟨v1, G1, rfl, hq1, h1⟩ := r1
  obtain rfl := hq1.symm
  refine lq (q_indexAddr Sl_36 rfl rfl ph0_0 hx1) rfl <| lf Fld_171_2 rfl rfl rfl <| lg 2 T1_4 g1 rfl rfl <| la rfl <| en ?_
  refine cdh rfl h (fun c2 h => ?_) (fun c2 h => ?_)
  ·refine rgn <| la rfl <| la rfl <| la rfl <| en <| ib <| rgn <| la rfl <| la rfl <| la rfl <| en ?_
   exact lback (ih1 (IntKind.i64.wrap (s1 + 1), IntKind.i64.wrap (s2 + 1)) h) ⟨rfl, rfl, rfl, trivial⟩ (fun w1 hw => (hw.sel (js := []) rfl).selO (js := [0]) rfl)
  refine WT.skip <| ib <| rgn <| la rfl <| la rfl <| la rfl <| en ?_
  exact lback (ih1 (s1, IntKind.i64.wrap (s2 + 1)) h) ⟨rfl, rfl, rfl, trivial⟩ (fun w1 hw => (hw.sel (js := []) rfl).selO (js := [0]) rfl)
 refine xt rfl <| sr <| la rfl <| la rfl <| en ?_
 refine WT.ret Tryz.func89 (resOk.one rfl) (fun w1 hw => ?_)
 subst hb0
 cases h
 exact post_of_St hw
theorem m_s_RuleOk_ok {Φ : Hp} {w : World} (hΦ : In Φ w) (N : Nat) (p0 : TRule) {pv0_0 pv0_1 pv0_2 : Value} {pG0_0 pG0_1 pG0_2 : List Nat} (ph0_0 : RSl RTPat 3 Φ pG0_0 pv0_0 p0.Pats) (ph0_1 : RSl RTCond 11 Φ pG0_1 pv0_1 p0.Conds) (ph0_2 : RSl RTAct 5 Φ pG0_2 pv0_2 p0.Acts) {r : Bool} (h : m_s_RuleOk N p0 = some r) :
  Calls Tryz.prog 38 [.agg [.string p0.Name, .int .i64 p0.Sal, pv0_0, pv0_1, pv0_2].toArray].toArray w (Post (.bool r) w) := by
 refine enter Tryz.func38 rfl Tryz.ntmps38 rfl (St.start0 hΦ) ?_
 have pa0_0 := Old.mk hΦ ph0_0.kn (Dj.empty _)
 have pa0_1 := Old.mk hΦ ph0_1.kn (Dj.empty _)
 have pa0_2 := Old.mk hΦ ph0_2.kn (Dj.empty _)
 unfold m_s_RuleOk at h
 refine sr ?_
 refine ln (nb rfl) rfl (fun b_1 => ?_)
 refine la rfl <| en <| sr <| ld5 Tn_40 0 rfl ?_
 obtain ⟨x1, hx1, h⟩ := bs h
 refine lc (k_call (js := []) (R := []) Fun_85 rfl rfl (fun w1 hw ap hl => m_s_PosVars_ok hw.fro N p0 ph0_0 ph0_1 ph0_2  hx1)) rfl (fun v1 Φ_1 F1 q1 => ?_)
 obtain ⟨ap1, fr1, v2, rfl, rfl, h1⟩ := q1
 replace ph0_0 := ph0_0.frame RTPat.lasts fr1 (ap1.o pa0_0)
 replace ph0_1 := ph0_1.frame RTCond.lasts fr1 (ap1.o pa0_1)
 replace ph0_2 := ph0_2.frame RTAct.lasts fr1 (ap1.o pa0_2)
 refine la rfl <| en <| sq <| WT.draw mixed (by kernel_rfl) (fun _ h => h.drew) <| qq (q_fieldAddr Fld_40_0 rfl) rfl <| qq (q_load1 T1_9 rfl (fun w1 hw => hw.rgO (i := 0) rfl 0 1 [.string p0.Name] rfl)) rfl ?_
 obtain ⟨x2, hx2, h⟩ := bs h
 refine qp (p_call Fun_40 rfl (fun w1 hw => m_s_NameOk_ok hw.fro N p0.Name hx2)) rfl <| qq (q_move rfl) rfl ?_
 obtain ⟨b1, hb_1, h⟩ := bs h
 refine WQ.cutN 4 [(13, .bool b1), (1, .pointer (some ⟨b_1, 0, none⟩)), (3, v1)] ?_ (fun K => ?_)
 rotate_left
 ·refine WQ.split (d := 9) rfl (fun c1 => ?_) (fun c1 => ?_)
  ·replace hb_1 := ite_t hb_1 c1
   refine WQ.yes rfl rfl <| qq (q_fieldAddr Fld_40_1 rfl) rfl <| WQ.yes rfl rfl <| qq (q_load1 T1_3 rfl (fun w1 hw => hw.rgO (i := 0) rfl 1 1 [.int .i64 p0.Sal] rfl)) rfl <| WQ.yes rfl rfl ?_
   obtain ⟨x3, hx3, hb_1⟩ := bs hb_1
   refine qp (p_call Fun_41 rfl (fun w1 hw => m_s_l1In_ok hw.fro N p0.Sal (-100) 100 hx3)) rfl <| WQ.q (q_pick1 rfl rfl) rfl rfl rfl ?_
   cases hb_1
   exact WQ.keep (by exact ⟨rfl, rfl, rfl, trivial⟩) K
  ·replace hb_1 := ite_f hb_1 c1
   refine WQ.no rfl rfl rfl rfl <| WQ.no rfl rfl rfl rfl <| WQ.no rfl rfl rfl rfl <| WQ.q (q_pick0 rfl rfl) rfl rfl rfl ?_
   cases hb_1
   exact WQ.keep (by exact ⟨rfl, rfl, rfl, trivial⟩) K
 refine qq (q_move rfl) rfl ?_
 obtain ⟨b2, hb_2, h⟩ := bs h
 refine WQ.cutN 4 [(18, .bool b2), (1, .pointer (some ⟨b_1, 0, none⟩)), (3, v1)] ?_ (fun K => ?_)
 rotate_left
 ·refine WQ.split (d := 14) rfl (fun c2 => ?_) (fun c2 => ?_)
  ·replace hb_2 := ite_t hb_2 c2
   refine WQ.yes rfl rfl <| qq (q_fieldAddr Fld_40_2 rfl) rfl <| WQ.yes rfl rfl <| qq (q_load1 T1_36 rfl (fun w1 hw => hw.rgO (i := 0) rfl 2 1 [pv0_0] rfl)) rfl <| WQ.yes rfl rfl ?_
   obtain ⟨x4, hx4, hb_2⟩ := bs hb_2
   refine qp (p_call Fun_86 rfl (fun w1 hw => m_s_l9Pats_ok hw.fro N p0.Pats ph0_0 hx4)) rfl <| WQ.q (q_pick1 rfl rfl) rfl rfl rfl ?_
   cases hb_2
   exact WQ.keep (by exact ⟨rfl, rfl, rfl, trivial⟩) K
  ·replace hb_2 := ite_f hb_2 c2
   refine WQ.no rfl rfl rfl rfl <| WQ.no rfl rfl rfl rfl <| WQ.no rfl rfl rfl rfl <| WQ.q (q_pick0 rfl rfl) rfl rfl rfl ?_
   cases hb_2
   exact WQ.keep (by exact ⟨rfl, rfl, rfl, trivial⟩) K
 refine qq (q_move rfl) rfl ?_
 obtain ⟨b3, hb_3, h⟩ := bs h
 refine WQ.cutN 5 [(24, .bool b3), (1, .pointer (some ⟨b_1, 0, none⟩)), (3, v1)] ?_ (fun K => ?_)
 rotate_left
 ·refine WQ.split (d := 19) rfl (fun c3 => ?_) (fun c3 => ?_)
  ·replace hb_3 := ite_t hb_3 c3
   refine WQ.yes rfl rfl <| qq (q_fieldAddr Fld_40_3 rfl) rfl <| WQ.yes rfl rfl <| qq (q_load1 T1_37 rfl (fun w1 hw => hw.rgO (i := 0) rfl 3 1 [pv0_1] rfl)) rfl <| WQ.yes rfl rfl <| qq (q_move rfl) rfl <| WQ.yes rfl rfl ?_
   obtain ⟨x5, hx5, hb_3⟩ := bs hb_3
   refine qp (p_call Fun_87 rfl (fun w1 hw => m_s_l9Conds_ok hw.fro N p0.Conds x1 ph0_1 h1.rsl hx5)) rfl <| WQ.q (q_pick1 rfl rfl) rfl rfl rfl ?_
   cases hb_3
   exact WQ.keep (by exact ⟨rfl, rfl, rfl, trivial⟩) K
  ·replace hb_3 := ite_f hb_3 c3
   refine WQ.no rfl rfl rfl rfl <| WQ.no rfl rfl rfl rfl <| WQ.no rfl rfl rfl rfl <| WQ.no rfl rfl rfl rfl <| WQ.q (q_pick0 rfl rfl) rfl rfl rfl ?_
   cases hb_3
   exact WQ.keep (by exact ⟨rfl, rfl, rfl, trivial⟩) K
 refine qq (q_move rfl) rfl ?_
 obtain ⟨b4, hb_4, h⟩ := bs h
 refine WQ.cutN 7 [(32, .bool b4)] ?_ (fun K => ?_)
 rotate_left
 ·refine WQ.split (d := 25) rfl (fun c4 => ?_) (fun c4 => ?_)
  ·replace hb_4 := ite_t hb_4 c4
   refine WQ.yes rfl rfl <| qq (q_fieldAddr Fld_40_4 rfl) rfl <| WQ.yes rfl rfl <| qq (q_load1 T1_38 rfl (fun w1 hw => hw.rgO (i := 0) rfl 4 1 [pv0_2] rfl)) rfl <| WQ.yes rfl rfl <| qq (q_move rfl) rfl <| WQ.yes rfl rfl <| qq (q_loadN Tn_40 rfl (fun w1 hw => hw.rgO (i := 0) rfl 0 5 [.string p0.Name, .int .i64 p0.Sal, pv0_0, pv0_1, pv0_2] rfl) rfl) rfl <| WQ.yes rfl rfl ?_
   obtain ⟨x6, hx6, hb_4⟩ := bs hb_4
   refine qp (p_call Fun_89 rfl (fun w1 hw => m_s_PosCount_ok hw.fro N p0 ph0_0 ph0_1 ph0_2 hx6)) rfl <| WQ.yes rfl rfl ?_
   obtain ⟨x7, hx7, hb_4⟩ := bs hb_4
   refine qp (p_call Fun_88 rfl (fun w1 hw => m_s_l9Acts_ok hw.fro N p0.Acts x1 x6 ph0_2 h1.rsl hx7)) rfl <| WQ.q (q_pick1 rfl rfl) rfl rfl rfl ?_
   cases hb_4
   exact WQ.keep (by exact ⟨rfl, trivial⟩) K
  ·replace hb_4 := ite_f hb_4 c4
   refine WQ.no rfl rfl rfl rfl <| WQ.no rfl rfl rfl rfl <| WQ.no rfl rfl rfl rfl <| WQ.no rfl rfl rfl rfl <| WQ.no rfl rfl rfl rfl <| WQ.no rfl rfl rfl rfl <| WQ.q (q_pick0 rfl rfl) rfl rfl rfl ?_
   cases hb_4
   exact WQ.keep (by exact ⟨rfl, trivial⟩) K
 refine qq (q_assign rfl) rfl <| WQ.nil ?_
 refine WT.ret Tryz.func38 (resOk.one rfl) (fun w1 hw => ?_)
 cases h
 exact post_of_St hw
theorem m_s_RuleAt_ok {Φ : Hp} {w : World} (hΦ : In Φ w) (N : Nat) (p0 : TDef) (p1 : ByteArray) {pv0_0 : Value} {pG0_0 : List Nat} (ph0_0 : RSl RTRule 5 Φ pG0_0 pv0_0 p0.Rules) {r : Int} (h : m_s_RuleAt N p0 p1 = some r) :
  Calls Tryz.prog 39 [.agg [.string p0.Name, pv0_0].toArray, .string p1].toArray w (Post (.int .i64 r) w) := by
 refine enter Tryz.func39 rfl Tryz.ntmps39 rfl (St.start0 hΦ) ?_
 generalize hb0 : (⟨w, [], Φ⟩ : Base) = w0
 unfold m_s_RuleAt at h
 refine sr ?_
 refine ln (nb rfl) rfl (fun b_1 => ?_)
 refine la rfl <| en <| sq <| sr <| la rfl <| en <| blk ?_
 refine loop_in (σ := Int) (fun s => [(1, .string p1), (2, .pointer (some ⟨b_1, 0, none⟩)), (5, .int .i64 s)]) (fun s => St w0 Φ [(b_1, .cells #[.string p0.Name, pv0_0] 26 (0, 0))] []) (fun m s => m_s_RuleAt_l1 N p0 p1 m s = some r) (0) N h ⟨rfl, rfl, rfl, trivial⟩ (fun w1 hw => (hw.sel (js := []) rfl).selO (js := [0]) rfl) (fun s hm => none_ne hm) (fun n1 ih1 s hm => ?_)
 revert hm; revert s; intro s1 hm
 have h : m_s_RuleAt_l1 N p0 p1 (n1 + 1) s1 = some r := hm
 show WT _ _ [(1, .string p1), (2, .pointer (some ⟨b_1, 0, none⟩)), (5, .int .i64 s1)] (St w0 Φ [(b_1, .cells #[.string p0.Name, pv0_0] 26 (0, 0))] [])
 unfold m_s_RuleAt_l1 at h
 refine sq <| sr <| la rfl <| lf Fld_26_1 rfl rfl rfl <| lo T1_24 0 rfl <| lq (q_lenR Sl_24 rfl rfl ph0_0) rfl <| la rfl <| en ?_
 refine cdh rfl h (fun c1 h => ?_) (fun c1 h => ?_)
 ·refine WT.skip <| sq <| blk <| sr <| lf Fld_26_1 rfl rfl rfl <| lo T1_24 0 rfl <| la rfl ?_
  obtain ⟨x1, hx1, h⟩ := bs h
  obtain ⟨cs1, F1, -, g1, hb1, hs1, r1⟩ := ph0_0.el (idx_some hx1).2.2
  obtain ⟨v1, G1, v2, G2, v3, G3, rfl, rfl, h1, h2, h3⟩ := r1
  refine lq (q_indexAddr Sl_24 rfl rfl ph0_0 hx1) rfl <| lf Fld_40_0 rfl rfl rfl <| lg 0 T1_9 g1 rfl rfl <| la rfl <| la rfl <| en ?_
  refine cdh rfl h (fun c2 h => ?_) (fun c2 h => ?_)
  ·refine sr <| la rfl <| la rfl <| en ?_
   refine WT.ret Tryz.func39 (resOk.one rfl) (fun w1 hw => ?_)
   subst hb0
   cases h
   exact post_of_St hw
  refine WT.skip <| ib <| rgn <| la rfl <| la rfl <| la rfl <| en ?_
  exact lback (ih1 (IntKind.i64.wrap (s1 + 1)) h) ⟨rfl, rfl, rfl, trivial⟩ (fun w1 hw => (hw.sel (js := []) rfl).selO (js := [0]) rfl)
 refine xt rfl <| sr <| la rfl <| en ?_
 refine WT.ret Tryz.func39 (resOk.one rfl) (fun w1 hw => ?_)
 subst hb0
 cases h
 exact post_of_St hw
theorem m_s_DefOk_ok {Φ : Hp} {w : World} (hΦ : In Φ w) (N : Nat) (p0 : TDef) {pv0_0 : Value} {pG0_0 : List Nat} (ph0_0 : RSl RTRule 5 Φ pG0_0 pv0_0 p0.Rules) {r : Bool} (h : m_s_DefOk N p0 = some r) :
  Calls Tryz.prog 9 [.agg [.string p0.Name, pv0_0].toArray].toArray w (Post (.bool r) w) := by
 refine enter Tryz.func9 rfl Tryz.ntmps9 rfl (St.start0 hΦ) ?_
 generalize hb0 : (⟨w, [], Φ⟩ : Base) = w0
 unfold m_s_DefOk at h
 refine sr ?_
 refine ln (nb rfl) rfl (fun b_1 => ?_)
 refine la rfl <| en <| sq <| sr <| la rfl <| en <| blk ?_
 refine loop_in (σ := Int) (fun s => [(1, .pointer (some ⟨b_1, 0, none⟩)), (3, .int .i64 s)]) (fun s => St w0 Φ [(b_1, .cells #[.string p0.Name, pv0_0] 26 (0, 0))] []) (fun m s => m_s_DefOk_l1 N p0 m s = some r) (0) N h ⟨rfl, rfl, trivial⟩ (fun w1 hw => (hw.sel (js := []) rfl).selO (js := [0]) rfl) (fun s hm => none_ne hm) (fun n1 ih1 s hm => ?_)
 revert hm; revert s; intro s1 hm
 have h : m_s_DefOk_l1 N p0 (n1 + 1) s1 = some r := hm
 show WT _ _ [(1, .pointer (some ⟨b_1, 0, none⟩)), (3, .int .i64 s1)] (St w0 Φ [(b_1, .cells #[.string p0.Name, pv0_0] 26 (0, 0))] [])
 unfold m_s_DefOk_l1 at h
 refine sq <| sr <| la rfl <| lf Fld_26_1 rfl rfl rfl <| lo T1_24 0 rfl <| lq (q_lenR Sl_24 rfl rfl ph0_0) rfl <| la rfl <| en ?_
 refine cdh rfl h (fun c1 h => ?_) (fun c1 h => ?_)
 ·refine WT.skip <| sq <| blk <| sq <| WT.draw mixed (by kernel_rfl) (fun _ h => h.drew) <| qq (q_fieldAddr Fld_26_1 rfl) rfl <| qq (q_load1 T1_24 rfl (fun w1 hw => hw.rgO (i := 0) rfl 1 1 [pv0_0] rfl)) rfl <| qq (q_move rfl) rfl ?_
  obtain ⟨x1, hx1, h⟩ := bs h
  obtain ⟨cs1, F1, -, g1, hb1, hs1, r1⟩ := ph0_0.el (idx_some hx1).2.2
  obtain ⟨v1, G1, v2, G2, v3, G3, rfl, rfl, h1, h2, h3⟩ := r1
  refine qq (q_indexAddr Sl_24 rfl rfl ph0_0 hx1) rfl <| qq (q_loadN Tn_40 rfl (fun w1 hw => (g1.of_eq 0 5 rfl rfl : rg _ _ _ [.string x1.Name, .int .i64 x1.Sal, v1, v2, v3]).rangeAt hw.fro) rfl) rfl ?_
  obtain ⟨x2, hx2, h⟩ := bs h
  refine qp (p_call Fun_38 rfl (fun w1 hw => m_s_RuleOk_ok hw.fro N x1 h1 h2 h3 hx2)) rfl <| qq (q_not rfl) rfl <| qq (q_move rfl) rfl ?_
  obtain ⟨b1, hb_1, h⟩ := bs h
  refine WQ.cutN 11 [(29, .bool b1), (1, .pointer (some ⟨b_1, 0, none⟩)), (3, .int .i64 s1)] ?_ (fun K => ?_)
  rotate_left
  ·refine WQ.split (d := 18) rfl (fun c2 => ?_) (fun c2 => ?_)
   ·replace hb_1 := ite_t hb_1 c2
    refine WQ.no rfl rfl rfl rfl <| WQ.no rfl rfl rfl rfl <| WQ.no rfl rfl rfl rfl <| WQ.no rfl rfl rfl rfl <| WQ.no rfl rfl rfl rfl <| WQ.no rfl rfl rfl rfl <| WQ.no rfl rfl rfl rfl <| WQ.no rfl rfl rfl rfl <| WQ.no rfl rfl rfl rfl <| WQ.no rfl rfl rfl rfl <| WQ.q (q_pick1 rfl rfl) rfl rfl rfl ?_
    cases hb_1
    exact WQ.keep (by exact ⟨rfl, rfl, rfl, trivial⟩) K
   ·replace hb_1 := ite_f hb_1 c2
    refine WQ.yes rfl rfl <| qq (q_loadN Tn_26 rfl (fun w1 hw => hw.rgO (i := 0) rfl 0 2 [.string p0.Name, pv0_0] rfl) rfl) rfl <| WQ.yes rfl rfl <| qq (q_fieldAddr Fld_26_1 rfl) rfl <| WQ.yes rfl rfl <| qq (q_load1 T1_24 rfl (fun w1 hw => hw.rgO (i := 0) rfl 1 1 [pv0_0] rfl)) rfl <| WQ.yes rfl rfl <| qq (q_move rfl) rfl <| WQ.yes rfl rfl ?_
    obtain ⟨x3, hx3, hb_1⟩ := bs hb_1
    obtain ⟨cs2, F2, -, g2, hb2, hs2, r2⟩ := ph0_0.el (idx_some hx3).2.2
    obtain ⟨v4, G4, v5, G5, v6, G6, rfl, rfl, h4, h5, h6⟩ := r2
    refine qq (q_indexAddr Sl_24 rfl rfl ph0_0 hx3) rfl <| WQ.yes rfl rfl <| qq (q_fieldAddr Fld_40_0 rfl) rfl <| WQ.yes rfl rfl <| qq (q_load1 T1_9 rfl (fun w1 hw => (g2.of_eq 0 1 rfl rfl : rg _ _ _ [.string x3.Name]).rangeAt hw.fro)) rfl <| WQ.yes rfl rfl ?_
    obtain ⟨x4, hx4, hb_1⟩ := bs hb_1
    refine qp (p_call Fun_39 rfl (fun w1 hw => m_s_RuleAt_ok hw.fro N p0 x3.Name ph0_0 hx4)) rfl <| WQ.yes rfl rfl <| qq (q_move rfl) rfl <| WQ.yes rfl rfl <| qq (q_neq rfl rfl) rfl <| WQ.q (q_pick0 rfl rfl) rfl rfl rfl ?_
    cases hb_1
    exact WQ.keep (by exact ⟨rfl, rfl, rfl, trivial⟩) K
  refine WQ.nil ?_
  refine cdh rfl h (fun c3 h => ?_) (fun c3 h => ?_)
  ·refine sr <| la rfl <| en ?_
   refine WT.ret Tryz.func9 (resOk.one rfl) (fun w1 hw => ?_)
   subst hb0
   cases h
   exact post_of_St hw
  refine WT.skip <| ib <| rgn <| la rfl <| la rfl <| la rfl <| en ?_
  exact lback (ih1 (IntKind.i64.wrap (s1 + 1)) h) ⟨rfl, rfl, trivial⟩ (fun w1 hw => (hw.sel (js := []) rfl).selO (js := [0]) rfl)
 refine xt rfl <| sr <| lf Fld_26_0 rfl rfl rfl <| lo T1_9 0 rfl ?_
 obtain ⟨x5, hx5, h⟩ := bs h
 refine lp (p_call Fun_40 rfl (fun w1 hw => m_s_NameOk_ok hw.fro N p0.Name hx5)) rfl <| la rfl ?_
 obtain ⟨b2, hb_2, h⟩ := bs h
 refine WL.cutN 5 [(38, .bool b2)] ?_ (fun K => ?_)
 rotate_left
 ·refine spl 33 rfl hb_2 (fun c4 hb_2 => ?_) (fun c4 hb_2 => ?_)
  ·refine ly rfl rfl <| lf Fld_26_1 rfl rfl rfl <| ly rfl rfl <| lo T1_24 0 rfl <| ly rfl rfl <| lq (q_lenR Sl_24 rfl rfl ph0_0) rfl <| ly rfl rfl ?_
   obtain ⟨x6, hx6, hb_2⟩ := bs hb_2
   refine lp (p_call Fun_41 rfl (fun w1 hw => m_s_l1In_ok hw.fro N (p0.Rules.length : Int) 1 12 hx6)) rfl <| la rfl ?_
   cases hb_2
   exact kk K ⟨rfl, trivial⟩
  ·refine la rfl <| la rfl <| la rfl <| la rfl <| la rfl ?_
   cases hb_2
   exact kk K ⟨rfl, trivial⟩
 refine la rfl <| en ?_
 refine WT.ret Tryz.func9 (resOk.one rfl) (fun w1 hw => ?_)
 subst hb0
 cases h
 exact post_of_St hw
theorem m_s_l3Vals_ok {Φ : Hp} {w : World} (hΦ : In Φ w) (N : Nat) (p0 : (List TVal)) {pv0 : Value} {pG0 : List Nat} (ph0 : RSl RTVal 3 Φ pG0 pv0 p0) {r : Bool} (h : m_s_l3Vals N p0 = some r) :
  Calls Tryz.prog 155 [pv0].toArray w (Post (.bool r) w) := by
 refine enter Tryz.func155 rfl Tryz.ntmps155 rfl (St.start0 hΦ) ?_
 generalize hb0 : (⟨w, [], Φ⟩ : Base) = w0
 unfold m_s_l3Vals at h
 refine sr <| la rfl <| en <| sq <| sr <| la rfl <| en <| blk ?_
 refine loop_in (σ := Int) (fun s => [(0, pv0), (3, .int .i64 s)]) (fun s => St w0 Φ [] []) (fun m s => m_s_l3Vals_l1 N p0 m s = some r) (0) N h ⟨rfl, rfl, trivial⟩ (fun w1 hw => (hw.sel (js := []) rfl).selO (js := []) rfl) (fun s hm => none_ne hm) (fun n1 ih1 s hm => ?_)
 revert hm; revert s; intro s1 hm
 have h : m_s_l3Vals_l1 N p0 (n1 + 1) s1 = some r := hm
 show WT _ _ [(0, pv0), (3, .int .i64 s1)] (St w0 Φ [] [])
 unfold m_s_l3Vals_l1 at h
 refine sq <| sr <| la rfl <| la rfl <| lq (q_lenR Sl_121 rfl rfl ph0) rfl <| la rfl <| en ?_
 refine cdh rfl h (fun c1 h => ?_) (fun c1 h => ?_)
 ·refine WT.skip <| sq <| blk <| sr <| la rfl <| la rfl ?_
  obtain ⟨x1, hx1, h⟩ := bs h
  obtain ⟨cs1, F1, -, g1, hb1, hs1, r1⟩ := ph0.el (idx_some hx1).2.2
  obtain ⟨rfl, -⟩ := r1
  refine lq (q_indexAddr Sl_121 rfl rfl ph0 hx1) rfl <| lg3 0 Tn_85 g1 rfl rfl ?_
  obtain ⟨x2, hx2, h⟩ := bs h
  refine lp (p_call Fun_187 rfl (fun w1 hw => m_s_ValOk_ok hw.fro N x1 hx2)) rfl <| la rfl <| en ?_
  refine cdh rfl h (fun c2 h => ?_) (fun c2 h => ?_)
  ·refine sr <| la rfl <| en ?_
   refine WT.ret Tryz.func155 (resOk.one rfl) (fun w1 hw => ?_)
   subst hb0
   cases h
   exact post_of_St hw
  refine WT.skip <| ib <| rgn <| la rfl <| la rfl <| la rfl <| en ?_
  exact lback (ih1 (IntKind.i64.wrap (s1 + 1)) h) ⟨rfl, rfl, trivial⟩ (fun w1 hw => (hw.sel (js := []) rfl).selO (js := []) rfl)
 refine xt rfl <| sr <| la rfl <| lq (q_lenR Sl_121 rfl rfl ph0) rfl <| la rfl <| la rfl <| en ?_
 refine WT.ret Tryz.func155 (resOk.one rfl) (fun w1 hw => ?_)
 subst hb0
 cases h
 exact post_of_St hw
theorem m_s_FactOk_ok {Φ : Hp} {w : World} (hΦ : In Φ w) (N : Nat) (p0 : TFact) {pv0_0 : Value} {pG0_0 : List Nat} (ph0_0 : RSl RTVal 3 Φ pG0_0 pv0_0 p0.Fields) {r : Bool} (h : m_s_FactOk N p0 = some r) :
  Calls Tryz.prog 99 [.agg [.string p0.Kind, pv0_0].toArray].toArray w (Post (.bool r) w) := by
 refine enter Tryz.func99 rfl Tryz.ntmps99 rfl (St.start0 hΦ) ?_
 unfold m_s_FactOk at h
 refine sr ?_
 refine ln (nb rfl) rfl (fun b_1 => ?_)
 refine la rfl <| en <| sr <| lf Fld_123_0 rfl rfl rfl <| lo T1_9 0 rfl ?_
 obtain ⟨x1, hx1, h⟩ := bs h
 refine lp (p_call Fun_40 rfl (fun w1 hw => m_s_NameOk_ok hw.fro N p0.Kind hx1)) rfl <| la rfl ?_
 obtain ⟨b1, hb_1, h⟩ := bs h
 refine WL.cutN 4 [(10, .bool b1), (2, .bool false)] ?_ (fun K => ?_)
 rotate_left
 ·refine spl 6 rfl hb_1 (fun c1 hb_1 => ?_) (fun c1 hb_1 => ?_)
  ·refine ly rfl rfl <| lf Fld_123_1 rfl rfl rfl <| ly rfl rfl <| lo T1_121 0 rfl <| ly rfl rfl ?_
   obtain ⟨x2, hx2, hb_1⟩ := bs hb_1
   refine lp (p_call Fun_155 rfl (fun w1 hw => m_s_l3Vals_ok hw.fro N p0.Fields ph0_0 hx2)) rfl <| la rfl ?_
   cases hb_1
   exact kk K ⟨rfl, rfl, trivial⟩
  ·refine la rfl <| la rfl <| la rfl <| la rfl ?_
   cases hb_1
   exact kk K ⟨rfl, rfl, trivial⟩
 refine la rfl <| en ?_
 refine WT.ret Tryz.func99 (resOk.one rfl) (fun w1 hw => ?_)
 cases h
 exact post_of_St hw
theorem m_s_l3SameVals_ok {Φ : Hp} {w : World} (hΦ : In Φ w) (N : Nat) (p0 : (List TVal)) (p1 : (List TVal)) {pv0 pv1 : Value} {pG0 pG1 : List Nat} (ph0 : RSl RTVal 3 Φ pG0 pv0 p0) (ph1 : RSl RTVal 3 Φ pG1 pv1 p1) {r : Bool} (h : m_s_l3SameVals N p0 p1 = some r) :
  Calls Tryz.prog 188 [pv0, pv1].toArray w (Post (.bool r) w) := by
 refine enter Tryz.func188 rfl Tryz.ntmps188 rfl (St.start0 hΦ) ?_
 generalize hb0 : (⟨w, [], Φ⟩ : Base) = w0
 unfold m_s_l3SameVals at h
 refine sr <| la rfl <| en <| sq <| sr <| la rfl <| lq (q_lenR Sl_121 rfl rfl ph0) rfl <| la rfl <| lq (q_lenR Sl_121 rfl rfl ph1) rfl <| la rfl <| en ?_
 refine cdh rfl h (fun c1 h => ?_) (fun c1 h => ?_)
 ·refine sr <| la rfl <| en ?_
  refine WT.ret Tryz.func188 (resOk.one rfl) (fun w1 hw => ?_)
  subst hb0
  cases h
  exact post_of_St hw
 refine WT.skip <| sq <| sr <| la rfl <| en <| blk ?_
 refine loop_in (σ := Int) (fun s => [(0, pv0), (1, pv1), (5, .int .i64 s)]) (fun s => St w0 Φ [] []) (fun m s => m_s_l3SameVals_l1 N p0 p1 m s = some r) (0) N h ⟨rfl, rfl, rfl, trivial⟩ (fun w1 hw => (hw.sel (js := []) rfl).selO (js := []) rfl) (fun s hm => none_ne hm) (fun n1 ih1 s hm => ?_)
 revert hm; revert s; intro s1 hm
 have h : m_s_l3SameVals_l1 N p0 p1 (n1 + 1) s1 = some r := hm
 show WT _ _ [(0, pv0), (1, pv1), (5, .int .i64 s1)] (St w0 Φ [] [])
 unfold m_s_l3SameVals_l1 at h
 refine sq <| sr <| la rfl <| la rfl <| lq (q_lenR Sl_121 rfl rfl ph0) rfl <| la rfl <| en ?_
 refine cdh rfl h (fun c2 h => ?_) (fun c2 h => ?_)
 ·refine WT.skip <| sq <| blk <| sq <| WT.draw mixed (by kernel_rfl) (fun _ h => h.drew) <| qq (q_move rfl) rfl <| qq (q_move rfl) rfl ?_
  obtain ⟨x1, hx1, h⟩ := bs h
  obtain ⟨cs1, F1, -, g1, hb1, hs1, r1⟩ := ph0.el (idx_some hx1).2.2
  obtain ⟨rfl, -⟩ := r1
  refine qq (q_indexAddr Sl_121 rfl rfl ph0 hx1) rfl <| qq (q_loadN Tn_85 rfl (fun w1 hw => (g1.of_eq 0 3 rfl rfl : rg _ _ _ [.int .i64 x1.K, .int .i64 x1.N, .string x1.S]).rangeAt hw.fro) rfl) rfl <| qq (q_move rfl) rfl <| qq (q_move rfl) rfl ?_
  obtain ⟨x2, hx2, h⟩ := bs h
  obtain ⟨cs2, F2, -, g2, hb2, hs2, r2⟩ := ph1.el (idx_some hx2).2.2
  obtain ⟨rfl, -⟩ := r2
  refine qq (q_indexAddr Sl_121 rfl rfl ph1 hx2) rfl <| qq (q_loadN Tn_85 rfl (fun w1 hw => (g2.of_eq 0 3 rfl rfl : rg _ _ _ [.int .i64 x2.K, .int .i64 x2.N, .string x2.S]).rangeAt hw.fro) rfl) rfl <| qq (q_neA EqT_85 rfl rfl rfl (r := eqT_TVal x1 x2) rfl) rfl <| WQ.nil ?_
  refine cdh rfl h (fun c3 h => ?_) (fun c3 h => ?_)
  ·refine sr <| la rfl <| en ?_
   refine WT.ret Tryz.func188 (resOk.one rfl) (fun w1 hw => ?_)
   subst hb0
   cases h
   exact post_of_St hw
  refine WT.skip <| ib <| rgn <| la rfl <| la rfl <| la rfl <| en ?_
  exact lback (ih1 (IntKind.i64.wrap (s1 + 1)) h) ⟨rfl, rfl, rfl, trivial⟩ (fun w1 hw => (hw.sel (js := []) rfl).selO (js := []) rfl)
 refine xt rfl <| sr <| la rfl <| en ?_
 refine WT.ret Tryz.func188 (resOk.one rfl) (fun w1 hw => ?_)
 subst hb0
 cases h
 exact post_of_St hw
theorem m_s_SameFact_ok {Φ : Hp} {w : World} (hΦ : In Φ w) (N : Nat) (p0 : TFact) (p1 : TFact) {pv0_0 pv1_0 : Value} {pG0_0 pG1_0 : List Nat} (ph0_0 : RSl RTVal 3 Φ pG0_0 pv0_0 p0.Fields) (ph1_0 : RSl RTVal 3 Φ pG1_0 pv1_0 p1.Fields) {r : Bool} (h : m_s_SameFact N p0 p1 = some r) :
  Calls Tryz.prog 156 [.agg [.string p0.Kind, pv0_0].toArray, .agg [.string p1.Kind, pv1_0].toArray].toArray w (Post (.bool r) w) := by
 refine enter Tryz.func156 rfl Tryz.ntmps156 rfl (St.start0 hΦ) ?_
 unfold m_s_SameFact at h
 refine sr ?_
 refine ln (nb rfl) rfl (fun b_1 => ?_)
 refine ln (nb rfl) rfl (fun b_2 => ?_)
 refine la rfl <| en <| sr <| lf Fld_123_0 rfl rfl rfl <| lo T1_9 1 rfl <| lf Fld_123_0 rfl rfl rfl <| lo T1_9 0 rfl <| la rfl <| la rfl ?_
 obtain ⟨b1, hb_1, h⟩ := bs h
 refine WL.cutN 6 [(16, .bool b1), (4, .bool false)] ?_ (fun K => ?_)
 rotate_left
 ·refine spl 10 rfl hb_1 (fun c1 hb_1 => ?_) (fun c1 hb_1 => ?_)
  ·refine ly rfl rfl <| lf Fld_123_1 rfl rfl rfl <| ly rfl rfl <| lo T1_121 1 rfl <| ly rfl rfl <| lf Fld_123_1 rfl rfl rfl <| ly rfl rfl <| lo T1_121 0 rfl <| ly rfl rfl ?_
   obtain ⟨x1, hx1, hb_1⟩ := bs hb_1
   refine lp (p_call Fun_188 rfl (fun w1 hw => m_s_l3SameVals_ok hw.fro N p0.Fields p1.Fields ph0_0 ph1_0 hx1)) rfl <| la rfl ?_
   cases hb_1
   exact kk K ⟨rfl, rfl, trivial⟩
  ·refine la rfl <| la rfl <| la rfl <| la rfl <| la rfl <| la rfl ?_
   cases hb_1
   exact kk K ⟨rfl, rfl, trivial⟩
 refine la rfl <| en ?_
 refine WT.ret Tryz.func156 (resOk.one rfl) (fun w1 hw => ?_)
 cases h
 exact post_of_St hw
theorem m_s_IdOf_ok {Φ : Hp} {w : World} (hΦ : In Φ w) (N : Nat) (p0 : TStore) (p1 : TFact) {pv0_0 pv1_0 : Value} {pG0_0 pG1_0 : List Nat} (ph0_0 : RSl RTItem 3 Φ pG0_0 pv0_0 p0.Items) (ph1_0 : RSl RTVal 3 Φ pG1_0 pv1_0 p1.Fields) {r : Int} (h : m_s_IdOf N p0 p1 = some r) :
  Calls Tryz.prog 100 [.agg [pv0_0, .int .i64 p0.Next].toArray, .agg [.string p1.Kind, pv1_0].toArray].toArray w (Post (.int .i64 r) w) := by
 refine enter Tryz.func100 rfl Tryz.ntmps100 rfl (St.start0 hΦ) ?_
 generalize hb0 : (⟨w, [], Φ⟩ : Base) = w0
 unfold m_s_IdOf at h
 refine sr ?_
 refine ln (nb rfl) rfl (fun b_1 => ?_)
 refine ln (nb rfl) rfl (fun b_2 => ?_)
 refine la rfl <| en <| sq <| sr <| la rfl <| en <| blk ?_
 refine loop_in (σ := Int) (fun s => [(2, .pointer (some ⟨b_1, 0, none⟩)), (3, .pointer (some ⟨b_2, 0, none⟩)), (5, .int .i64 s)]) (fun s => St w0 Φ [(b_2, .cells #[.string p1.Kind, pv1_0] 123 (0, 0)), (b_1, .cells #[pv0_0, .int .i64 p0.Next] 29 (0, 0))] []) (fun m s => m_s_IdOf_l1 N p0 p1 m s = some r) (0) N h ⟨rfl, rfl, rfl, trivial⟩ (fun w1 hw => (hw.sel (js := []) rfl).selO (js := [0, 0]) rfl) (fun s hm => none_ne hm) (fun n1 ih1 s hm => ?_)
 revert hm; revert s; intro s1 hm
 have h : m_s_IdOf_l1 N p0 p1 (n1 + 1) s1 = some r := hm
 show WT _ _ [(2, .pointer (some ⟨b_1, 0, none⟩)), (3, .pointer (some ⟨b_2, 0, none⟩)), (5, .int .i64 s1)] (St w0 Φ [(b_2, .cells #[.string p1.Kind, pv1_0] 123 (0, 0)), (b_1, .cells #[pv0_0, .int .i64 p0.Next] 29 (0, 0))] [])
 unfold m_s_IdOf_l1 at h
 refine sq <| sr <| la rfl <| lf Fld_29_0 rfl rfl rfl <| lo T1_27 1 rfl <| lq (q_lenR Sl_27 rfl rfl ph0_0) rfl <| la rfl <| en ?_
 refine cdh rfl h (fun c1 h => ?_) (fun c1 h => ?_)
 ·refine WT.skip <| sq <| blk <| sq <| WT.draw mixed (by kernel_rfl) (fun _ h => h.drew) <| qq (q_fieldAddr Fld_29_0 rfl) rfl <| qq (q_load1 T1_27 rfl (fun w1 hw => hw.rgO (i := 1) rfl 0 1 [pv0_0] rfl)) rfl <| qq (q_move rfl) rfl ?_
  obtain ⟨x1, hx1, h⟩ := bs h
  obtain ⟨cs1, F1, -, g1, hb1, hs1, r1⟩ := ph0_0.el (idx_some hx1).2.2
  obtain ⟨v1, G1, rfl, hq1, h1⟩ := r1
  obtain rfl := hq1.symm
  refine qq (q_indexAddr Sl_27 rfl rfl ph0_0 hx1) rfl <| qq (q_fieldAddr Fld_125_1 rfl) rfl <| qq (q_loadN Tn_123 rfl (fun w1 hw => (g1.of_eq 1 2 rfl rfl : rg _ _ _ [.string x1.F.Kind, v1]).rangeAt hw.fro) rfl) rfl <| qq (q_loadN Tn_123 rfl (fun w1 hw => hw.rgO (i := 0) rfl 0 2 [.string p1.Kind, pv1_0] rfl) rfl) rfl ?_
  obtain ⟨x2, hx2, h⟩ := bs h
  refine qp (p_call Fun_156 rfl (fun w1 hw => m_s_SameFact_ok hw.fro N x1.F p1 h1 ph1_0 hx2)) rfl <| WQ.nil ?_
  refine cdh rfl h (fun c2 h => ?_) (fun c2 h => ?_)
  ·refine sr <| lf Fld_29_0 rfl rfl rfl <| lo T1_27 1 rfl <| la rfl ?_
   obtain ⟨x3, hx3, h⟩ := bs h
   obtain ⟨cs2, F2, -, g2, hb2, hs2, r2⟩ := ph0_0.el (idx_some hx3).2.2
   obtain ⟨v2, G2, rfl, hq2, h2⟩ := r2
   obtain rfl := hq2.symm
   refine lq (q_indexAddr Sl_27 rfl rfl ph0_0 hx3) rfl <| lf Fld_125_0 rfl rfl rfl <| lg 0 T1_3 g2 rfl rfl <| la rfl <| en ?_
   refine WT.ret Tryz.func100 (resOk.one rfl) (fun w1 hw => ?_)
   subst hb0
   cases h
   exact post_of_St hw
  refine WT.skip <| ib <| rgn <| la rfl <| la rfl <| la rfl <| en ?_
  exact lback (ih1 (IntKind.i64.wrap (s1 + 1)) h) ⟨rfl, rfl, rfl, trivial⟩ (fun w1 hw => (hw.sel (js := []) rfl).selO (js := [0, 0]) rfl)
 refine xt rfl <| sr <| la rfl <| en ?_
 refine WT.ret Tryz.func100 (resOk.one rfl) (fun w1 hw => ?_)
 subst hb0
 cases h
 exact post_of_St hw
theorem m_s_StoreOk_ok {Φ : Hp} {w : World} (hΦ : In Φ w) (N : Nat) (p0 : TStore) {pv0_0 : Value} {pG0_0 : List Nat} (ph0_0 : RSl RTItem 3 Φ pG0_0 pv0_0 p0.Items) {r : Bool} (h : m_s_StoreOk N p0 = some r) :
  Calls Tryz.prog 44 [.agg [pv0_0, .int .i64 p0.Next].toArray].toArray w (Post (.bool r) w) := by
 refine enter Tryz.func44 rfl Tryz.ntmps44 rfl (St.start0 hΦ) ?_
 generalize hb0 : (⟨w, [], Φ⟩ : Base) = w0
 unfold m_s_StoreOk at h
 refine sr ?_
 refine ln (nb rfl) rfl (fun b_1 => ?_)
 refine la rfl <| en <| sq <| sr <| lf Fld_29_1 rfl rfl rfl <| lo T1_3 0 rfl ?_
 obtain ⟨x1, hx1, h⟩ := bs h
 refine lp (p_call Fun_41 rfl (fun w1 hw => m_s_l1In_ok hw.fro N p0.Next 1 1000000 hx1)) rfl <| la rfl <| la rfl ?_
 obtain ⟨b1, hb_1, h⟩ := bs h
 refine WL.cutN 5 [(14, .bool b1), (1, .pointer (some ⟨b_1, 0, none⟩))] ?_ (fun K => ?_)
 rotate_left
 ·refine spl 9 rfl hb_1 (fun c1 hb_1 => ?_) (fun c1 hb_1 => ?_)
  ·refine la rfl <| la rfl <| la rfl <| la rfl <| la rfl ?_
   cases hb_1
   exact kk K ⟨rfl, rfl, trivial⟩
  ·refine ly rfl rfl <| lf Fld_29_0 rfl rfl rfl <| ly rfl rfl <| lo T1_27 0 rfl <| ly rfl rfl <| lq (q_lenR Sl_27 rfl rfl ph0_0) rfl <| ly rfl rfl <| la rfl <| la rfl ?_
   cases hb_1
   exact kk K ⟨rfl, rfl, trivial⟩
 refine en ?_
 refine cdh rfl h (fun c2 h => ?_) (fun c2 h => ?_)
 ·refine sr <| la rfl <| en ?_
  refine WT.ret Tryz.func44 (resOk.one rfl) (fun w1 hw => ?_)
  subst hb0
  cases h
  exact post_of_St hw
 refine WT.skip <| sq <| sr <| la rfl <| en <| blk ?_
 refine loop_in (σ := Int) (fun s => [(1, .pointer (some ⟨b_1, 0, none⟩)), (3, .int .i64 s)]) (fun s => St w0 Φ [(b_1, .cells #[pv0_0, .int .i64 p0.Next] 29 (0, 0))] []) (fun m s => m_s_StoreOk_l1 N p0 m s = some r) (0) N h ⟨rfl, rfl, trivial⟩ (fun w1 hw => (hw.sel (js := []) rfl).selO (js := [0]) rfl) (fun s hm => none_ne hm) (fun n1 ih1 s hm => ?_)
 revert hm; revert s; intro s1 hm
 have h : m_s_StoreOk_l1 N p0 (n1 + 1) s1 = some r := hm
 show WT _ _ [(1, .pointer (some ⟨b_1, 0, none⟩)), (3, .int .i64 s1)] (St w0 Φ [(b_1, .cells #[pv0_0, .int .i64 p0.Next] 29 (0, 0))] [])
 unfold m_s_StoreOk_l1 at h
 refine sq <| sr <| la rfl <| lf Fld_29_0 rfl rfl rfl <| lo T1_27 0 rfl <| lq (q_lenR Sl_27 rfl rfl ph0_0) rfl <| la rfl <| en ?_
 refine cdh rfl h (fun c3 h => ?_) (fun c3 h => ?_)
 ·refine WT.skip <| sq <| blk <| sr <| lf Fld_29_0 rfl rfl rfl <| lo T1_27 0 rfl <| la rfl ?_
  obtain ⟨x2, hx2, h⟩ := bs h
  obtain ⟨cs1, F1, -, g1, hb1, hs1, r1⟩ := ph0_0.el (idx_some hx2).2.2
  obtain ⟨v1, G1, rfl, hq1, h1⟩ := r1
  obtain rfl := hq1.symm
  refine lq (q_indexAddr Sl_27 rfl rfl ph0_0 hx2) rfl <| lg3 0 Tn_125 g1 rfl rfl ?_
  refine ln (nz Zr_125) rfl (fun b_2 => ?_)
  refine soN 0 Sz_125 rfl ⟨rfl, rfl, h1.one, trivial⟩ rfl ?_
  refine en <| sq <| WT.draw mixed (by kernel_rfl) (fun _ h => h.drew) <| qq (q_fieldAddr Fld_125_1 rfl) rfl <| qq (q_loadN Tn_123 rfl (fun w1 hw => hw.rgO (i := 0) rfl 1 2 [.string x2.F.Kind, v1] rfl) rfl) rfl ?_
  obtain ⟨x3, hx3, h⟩ := bs h
  refine qp (p_call Fun_99 rfl (fun w1 hw => m_s_FactOk_ok hw.fro N x2.F h1 hx3)) rfl <| qq (q_not rfl) rfl <| qq (q_move rfl) rfl ?_
  obtain ⟨b2, hb_2, h⟩ := bs h
  refine WQ.cutN 4 [(35, .bool b2), (1, .pointer (some ⟨b_1, 0, none⟩)), (3, .int .i64 s1), (4, .pointer (some ⟨b_2, 0, none⟩))] ?_ (fun K => ?_)
  rotate_left
  ·refine WQ.split (d := 31) rfl (fun c4 => ?_) (fun c4 => ?_)
   ·replace hb_2 := ite_t hb_2 c4
    refine WQ.no rfl rfl rfl rfl <| WQ.no rfl rfl rfl rfl <| WQ.no rfl rfl rfl rfl <| WQ.q (q_pick1 rfl rfl) rfl rfl rfl ?_
    cases hb_2
    exact WQ.keep (by exact ⟨rfl, rfl, rfl, rfl, trivial⟩) K
   ·replace hb_2 := ite_f hb_2 c4
    refine WQ.yes rfl rfl <| qq (q_fieldAddr Fld_125_0 rfl) rfl <| WQ.yes rfl rfl <| qq (q_load1 T1_3 rfl (fun w1 hw => hw.rgO (i := 0) rfl 0 1 [.int .i64 x2.Id] rfl)) rfl <| WQ.yes rfl rfl <| qq (q_lss rfl rfl) rfl <| WQ.q (q_pick0 rfl rfl) rfl rfl rfl ?_
    cases hb_2
    exact WQ.keep (by exact ⟨rfl, rfl, rfl, rfl, trivial⟩) K
  refine qq (q_move rfl) rfl ?_
  obtain ⟨b3, hb_3, h⟩ := bs h
  refine WQ.cutN 6 [(42, .bool b3), (1, .pointer (some ⟨b_1, 0, none⟩)), (3, .int .i64 s1), (4, .pointer (some ⟨b_2, 0, none⟩))] ?_ (fun K => ?_)
  rotate_left
  ·refine WQ.split (d := 36) rfl (fun c5 => ?_) (fun c5 => ?_)
   ·replace hb_3 := ite_t hb_3 c5
    refine WQ.no rfl rfl rfl rfl <| WQ.no rfl rfl rfl rfl <| WQ.no rfl rfl rfl rfl <| WQ.no rfl rfl rfl rfl <| WQ.no rfl rfl rfl rfl <| WQ.q (q_pick1 rfl rfl) rfl rfl rfl ?_
    cases hb_3
    exact WQ.keep (by exact ⟨rfl, rfl, rfl, rfl, trivial⟩) K
   ·replace hb_3 := ite_f hb_3 c5
    refine WQ.yes rfl rfl <| qq (q_fieldAddr Fld_125_0 rfl) rfl <| WQ.yes rfl rfl <| qq (q_load1 T1_3 rfl (fun w1 hw => hw.rgO (i := 0) rfl 0 1 [.int .i64 x2.Id] rfl)) rfl <| WQ.yes rfl rfl <| qq (q_fieldAddr Fld_29_1 rfl) rfl <| WQ.yes rfl rfl <| qq (q_load1 T1_3 rfl (fun w1 hw => hw.rgO (i := 1) rfl 1 1 [.int .i64 p0.Next] rfl)) rfl <| WQ.yes rfl rfl <| qq (q_geq rfl rfl) rfl <| WQ.q (q_pick0 rfl rfl) rfl rfl rfl ?_
    cases hb_3
    exact WQ.keep (by exact ⟨rfl, rfl, rfl, rfl, trivial⟩) K
  refine qq (q_move rfl) rfl ?_
  obtain ⟨b4, hb_4, h⟩ := bs h
  refine WQ.cutN 15 [(58, .bool b4), (1, .pointer (some ⟨b_1, 0, none⟩)), (3, .int .i64 s1), (4, .pointer (some ⟨b_2, 0, none⟩))] ?_ (fun K => ?_)
  rotate_left
  ·refine WQ.split (d := 43) rfl (fun c6 => ?_) (fun c6 => ?_)
   ·replace hb_4 := ite_t hb_4 c6
    refine WQ.no rfl rfl rfl rfl <| WQ.no rfl rfl rfl rfl <| WQ.no rfl rfl rfl rfl <| WQ.nox rfl rfl rfl rfl <| WQ.nox rfl rfl rfl rfl <| WQ.nox rfl rfl rfl rfl <| WQ.nox rfl rfl rfl rfl <| WQ.nox rfl rfl rfl rfl <| WQ.nox rfl rfl rfl rfl <| WQ.nox rfl rfl rfl rfl <| WQ.nox rfl rfl rfl rfl <| WQ.nox rfl rfl rfl rfl <| WQ.nox rfl rfl rfl rfl <| WQ.no rfl rfl rfl rfl <| WQ.q (q_pick1 rfl rfl) rfl rfl rfl ?_
    cases hb_4
    exact WQ.keep (by exact ⟨rfl, rfl, rfl, rfl, trivial⟩) K
   ·replace hb_4 := ite_f hb_4 c6
    refine WQ.yes rfl rfl <| qq (q_move rfl) rfl <| WQ.yes rfl rfl <| qq (q_gtr rfl rfl) rfl <| WQ.yes rfl rfl <| qq (q_move rfl) rfl ?_
    obtain ⟨b5, hb_5, hb_4⟩ := bs hb_4
    refine WQ.cutN 11 [(57, .bool b5), (1, .pointer (some ⟨b_1, 0, none⟩)), (3, .int .i64 s1), (4, .pointer (some ⟨b_2, 0, none⟩)), (43, .bool false)] ?_ (fun K => ?_)
    rotate_left
    ·refine WQ.split (d := 46) rfl (fun c7 => ?_) (fun c7 => ?_)
     ·replace hb_5 := ite_t hb_5 c7
      refine WQ.yes rfl rfl <| qq (q_fieldAddr Fld_29_0 rfl) rfl <| WQ.yes rfl rfl <| qq (q_load1 T1_27 rfl (fun w1 hw => hw.rgO (i := 1) rfl 0 1 [pv0_0] rfl)) rfl <| WQ.yes rfl rfl <| qq (q_move rfl) rfl <| WQ.yes rfl rfl <| qq (q_sub rfl rfl) rfl <| WQ.yes rfl rfl ?_
      obtain ⟨x4, hx4, hb_5⟩ := bs hb_5
      obtain ⟨cs2, F2, -, g2, hb2, hs2, r2⟩ := ph0_0.el (idx_some hx4).2.2
      obtain ⟨v2, G2, rfl, hq2, h2⟩ := r2
      obtain rfl := hq2.symm
      refine qq (q_indexAddr Sl_27 rfl rfl ph0_0 hx4) rfl <| WQ.yes rfl rfl <| qq (q_fieldAddr Fld_125_0 rfl) rfl <| WQ.yes rfl rfl <| qq (q_load1 T1_3 rfl (fun w1 hw => (g2.of_eq 0 1 rfl rfl : rg _ _ _ [.int .i64 x4.Id]).rangeAt hw.fro)) rfl <| WQ.yes rfl rfl <| qq (q_fieldAddr Fld_125_0 rfl) rfl <| WQ.yes rfl rfl <| qq (q_load1 T1_3 rfl (fun w1 hw => hw.rgO (i := 0) rfl 0 1 [.int .i64 x2.Id] rfl)) rfl <| WQ.yes rfl rfl <| qq (q_geq rfl rfl) rfl <| WQ.yes rfl rfl ?_
      refine WQ.q (q_pick1 rfl rfl) rfl rfl rfl ?_
      cases hb_5
      exact WQ.keep (by exact ⟨rfl, rfl, rfl, rfl, rfl, trivial⟩) K
     ·replace hb_5 := ite_f hb_5 c7
      refine WQ.no rfl rfl rfl rfl <| WQ.no rfl rfl rfl rfl <| WQ.no rfl rfl rfl rfl <| WQ.no rfl rfl rfl rfl <| WQ.no rfl rfl rfl rfl <| WQ.no rfl rfl rfl rfl <| WQ.no rfl rfl rfl rfl <| WQ.no rfl rfl rfl rfl <| WQ.no rfl rfl rfl rfl <| WQ.no rfl rfl rfl rfl <| WQ.yes rfl rfl <| WQ.q (q_pick0 rfl rfl) rfl rfl rfl ?_
      cases hb_5
      exact WQ.keep (by exact ⟨rfl, rfl, rfl, rfl, rfl, trivial⟩) K
    refine WQ.q (q_pick0 rfl rfl) rfl rfl rfl ?_
    cases hb_4
    exact WQ.keep (by exact ⟨rfl, rfl, rfl, rfl, trivial⟩) K
  refine qq (q_move rfl) rfl ?_
  obtain ⟨b6, hb_6, h⟩ := bs h
  refine WQ.cutN 8 [(67, .bool b6), (1, .pointer (some ⟨b_1, 0, none⟩)), (3, .int .i64 s1)] ?_ (fun K => ?_)
  rotate_left
  ·refine WQ.split (d := 59) rfl (fun c8 => ?_) (fun c8 => ?_)
   ·replace hb_6 := ite_t hb_6 c8
    refine WQ.no rfl rfl rfl rfl <| WQ.no rfl rfl rfl rfl <| WQ.no rfl rfl rfl rfl <| WQ.no rfl rfl rfl rfl <| WQ.no rfl rfl rfl rfl <| WQ.no rfl rfl rfl rfl <| WQ.no rfl rfl rfl rfl <| WQ.q (q_pick1 rfl rfl) rfl rfl rfl ?_
    cases hb_6
    exact WQ.keep (by exact ⟨rfl, rfl, rfl, trivial⟩) K
   ·replace hb_6 := ite_f hb_6 c8
    refine WQ.yes rfl rfl <| qq (q_loadN Tn_29 rfl (fun w1 hw => hw.rgO (i := 1) rfl 0 2 [pv0_0, .int .i64 p0.Next] rfl) rfl) rfl <| WQ.yes rfl rfl <| qq (q_fieldAddr Fld_125_1 rfl) rfl <| WQ.yes rfl rfl <| qq (q_loadN Tn_123 rfl (fun w1 hw => hw.rgO (i := 0) rfl 1 2 [.string x2.F.Kind, v1] rfl) rfl) rfl <| WQ.yes rfl rfl ?_
    obtain ⟨x5, hx5, hb_6⟩ := bs hb_6
    refine qp (p_call Fun_100 rfl (fun w1 hw => m_s_IdOf_ok hw.fro N p0 x2.F ph0_0 h1 hx5)) rfl <| WQ.yes rfl rfl <| qq (q_fieldAddr Fld_125_0 rfl) rfl <| WQ.yes rfl rfl <| qq (q_load1 T1_3 rfl (fun w1 hw => hw.rgO (i := 0) rfl 0 1 [.int .i64 x2.Id] rfl)) rfl <| WQ.yes rfl rfl <| qq (q_neq rfl rfl) rfl <| WQ.q (q_pick0 rfl rfl) rfl rfl rfl ?_
    cases hb_6
    exact WQ.keep (by exact ⟨rfl, rfl, rfl, trivial⟩) K
  refine WQ.nil ?_
  refine cdh rfl h (fun c9 h => ?_) (fun c9 h => ?_)
  ·refine sr <| la rfl <| en ?_
   refine WT.ret Tryz.func44 (resOk.one rfl) (fun w1 hw => ?_)
   subst hb0
   cases h
   exact post_of_St hw
  refine WT.skip <| ib <| rgn <| la rfl <| la rfl <| la rfl <| en ?_
  exact lback (ih1 (IntKind.i64.wrap (s1 + 1)) h) ⟨rfl, rfl, trivial⟩ (fun w1 hw => (hw.sel (js := []) rfl).selO (js := [1]) rfl)
 refine xt rfl <| sr <| la rfl <| en ?_
 refine WT.ret Tryz.func44 (resOk.one rfl) (fun w1 hw => ?_)
 subst hb0
 cases h
 exact post_of_St hw
theorem m_s_BindOf_ok {Φ : Hp} {w : World} (hΦ : In Φ w) (N : Nat) (p0 : (List TBind)) (p1 : ByteArray) {pv0 : Value} {pG0 : List Nat} (ph0 : RSl RTBind 4 Φ pG0 pv0 p0) {r : TVal × Bool} (h : m_s_BindOf N p0 p1 = some r) :
  Calls Tryz.prog 193 [pv0, .string p1].toArray w (Post (.tuple #[.agg [.int .i64 r.1.K, .int .i64 r.1.N, .string r.1.S].toArray, .bool r.2]) w) := by
 refine enter Tryz.func193 rfl Tryz.ntmps193 rfl (St.start0 hΦ) ?_
 generalize hb0 : (⟨w, [], Φ⟩ : Base) = w0
 unfold m_s_BindOf at h
 refine sr ?_
 refine ln (nz Zr_85) rfl (fun b_1 => ?_)
 refine la rfl <| en <| sq <| sr <| la rfl <| en <| blk ?_
 refine loop_in (σ := Int) (fun s => [(0, pv0), (1, .string p1), (4, .pointer (some ⟨b_1, 0, none⟩)), (6, .int .i64 s)]) (fun s => St w0 Φ [(b_1, .cells #[.int .i64 0, .int .i64 0, .string (⟨#[]⟩ : ByteArray)] 85 (0, 0))] []) (fun m s => m_s_BindOf_l1 N p0 p1 m s = some r) (0) N h ⟨rfl, rfl, rfl, rfl, trivial⟩ (fun w1 hw => (hw.sel (js := []) rfl).selO (js := [0]) rfl) (fun s hm => none_ne hm) (fun n1 ih1 s hm => ?_)
 revert hm; revert s; intro s1 hm
 have h : m_s_BindOf_l1 N p0 p1 (n1 + 1) s1 = some r := hm
 show WT _ _ [(0, pv0), (1, .string p1), (4, .pointer (some ⟨b_1, 0, none⟩)), (6, .int .i64 s1)] (St w0 Φ [(b_1, .cells #[.int .i64 0, .int .i64 0, .string (⟨#[]⟩ : ByteArray)] 85 (0, 0))] [])
 unfold m_s_BindOf_l1 at h
 refine sq <| sr <| la rfl <| la rfl <| lq (q_lenR Sl_42 rfl rfl ph0) rfl <| la rfl <| en ?_
 refine cdh rfl h (fun c1 h => ?_) (fun c1 h => ?_)
 ·refine WT.skip <| sq <| blk <| sr <| la rfl <| la rfl ?_
  obtain ⟨x1, hx1, h⟩ := bs h
  obtain ⟨cs1, F1, -, g1, hb1, hs1, r1⟩ := ph0.el (idx_some hx1).2.2
  obtain ⟨rfl, -⟩ := r1
  refine lq (q_indexAddr Sl_42 rfl rfl ph0 hx1) rfl <| lf Fld_87_0 rfl rfl rfl <| lg 0 T1_9 g1 rfl rfl <| la rfl <| la rfl <| en ?_
  refine cdh rfl h (fun c2 h => ?_) (fun c2 h => ?_)
  ·refine sr <| la rfl <| la rfl ?_
   obtain ⟨x2, hx2, h⟩ := bs h
   obtain ⟨cs2, F2, -, g2, hb2, hs2, r2⟩ := ph0.el (idx_some hx2).2.2
   obtain ⟨rfl, -⟩ := r2
   refine lq (q_indexAddr Sl_42 rfl rfl ph0 hx2) rfl <| lf Fld_87_1 rfl rfl rfl <| lg3 1 Tn_85 g2 rfl rfl <| soN 0 Sz_85 rfl ⟨rfl, rfl, rfl, trivial⟩ rfl ?_
   refine la rfl <| en ?_
   refine WT.ret Tryz.func193 (resOk.two (rv_cell Tn_85 rfl (fun w1 hw => hw.rgO (i := 0) rfl 0 3 [.int .i64 x2.V.K, .int .i64 x2.V.N, .string x2.V.S] rfl) rfl) rfl) (fun w1 hw => ?_)
   subst hb0
   cases h
   exact post_of_St hw
  refine WT.skip <| ib <| rgn <| la rfl <| la rfl <| la rfl <| en ?_
  exact lback (ih1 (IntKind.i64.wrap (s1 + 1)) h) ⟨rfl, rfl, rfl, rfl, trivial⟩ (fun w1 hw => (hw.sel (js := []) rfl).selO (js := [0]) rfl)
 refine xt rfl <| sr <| lq (q_build (vs := []) (C := #[.int .i64 0, .int .i64 0, .string (⟨#[]⟩ : ByteArray)]) Pl_85 Zr_85 rfl (fill_nil)) rfl <| soN 0 Sz_85 rfl ⟨rfl, rfl, rfl, trivial⟩ rfl ?_
 refine la rfl <| en ?_
 refine WT.ret Tryz.func193 (resOk.two (rv_cell Tn_85 rfl (fun w1 hw => hw.rgO (i := 0) rfl 0 3 [.int .i64 0, .int .i64 0, .string (⟨#[]⟩ : ByteArray)] rfl) rfl) rfl) (fun w1 hw => ?_)
 subst hb0
 cases h
 exact post_of_St hw
theorem m_s_MatchPat_ok {Φ : Hp} {w : World} (hΦ : In Φ w) (N : Nat) (p0 : TPat) (p1 : TFact) (p2 : (List TBind)) {pv0_0 pv1_0 pv2 : Value} {pG0_0 pG1_0 pG2 : List Nat} (ph0_0 : RSl RTArg 5 Φ pG0_0 pv0_0 p0.Args) (ph1_0 : RSl RTVal 3 Φ pG1_0 pv1_0 p1.Fields) (ph2 : RSl RTBind 4 Φ pG2 pv2 p2) {r : (List TBind) × Bool} (h : m_s_MatchPat N p0 p1 p2 = some r) :
  Calls Tryz.prog 163 [.agg [.string p0.Kind, pv0_0, .bool p0.Not].toArray, .agg [.string p1.Kind, pv1_0].toArray, pv2].toArray w (PostG Φ w [] (fun Φ' Fs v => ∃ (sr_0_0 : Value), v = .tuple #[sr_0_0, .bool r.2] ∧ Fs = [ob sr_0_0] ∧ OSl RTBind 87 4 Φ' [] sr_0_0 r.1)) := by
 refine enter Tryz.func163 rfl Tryz.ntmps163 rfl (St.start0 hΦ) ?_
 have pa0_0 := Old.mk hΦ ph0_0.kn (Dj.empty _)
 have pa1_0 := Old.mk hΦ ph1_0.kn (Dj.empty _)
 have pa2 := Old.mk hΦ ph2.kn (Dj.empty _)
 revert pa0_0 pa1_0 pa2
 generalize hb0 : (⟨w, [], Φ⟩ : Base) = w0
 intro pa0_0 pa1_0 pa2
 unfold m_s_MatchPat at h
 refine sr ?_
 refine ln (nb rfl) rfl (fun b_1 => ?_)
 refine ln (nb rfl) rfl (fun b_2 => ?_)
 refine la rfl <| la rfl <| en <| sr ?_
 refine le' (e_lit0 RTBind.lasts Sl_42 Zr_87 rfl rfl) rfl (fun v1 Φ_1 D1 q1 => ?_)
 obtain ⟨fr1, h1⟩ := q1
 replace ph2 := ph2.frame RTBind.lasts fr1 (Dj.empty _)
 replace ph0_0 := ph0_0.frame RTArg.lasts fr1 (Dj.empty _)
 replace ph1_0 := ph1_0.frame RTVal.lasts fr1 (Dj.empty _)
 refine la rfl ?_
 obtain ⟨x1, hx1, h⟩ := bs h
 refine le' (e_appF RTBind.lasts RTBind.one RTBind.flat Sl_42 Ei_87 rfl rfl rfl rfl rfl (js := [0]) (Rr := []) rfl h1 ph2 hx1) rfl (fun v2 Φ_2 D2 q2 => ?_)
 obtain ⟨⟨ap1, fr2⟩, h2⟩ := q2
 replace ph2 := ph2.frame RTBind.lasts fr2 (ap1.o pa2)
 replace ph0_0 := ph0_0.frame RTArg.lasts fr2 (ap1.o pa0_0)
 replace ph1_0 := ph1_0.frame RTVal.lasts fr2 (ap1.o pa1_0)
 refine la rfl <| en <| sq <| sr <| lf Fld_171_0 rfl rfl rfl <| lo T1_9 1 rfl <| lf Fld_123_0 rfl rfl rfl <| lo T1_9 0 rfl <| la rfl <| la rfl ?_
 obtain ⟨b1, hb_1, h⟩ := bs h
 refine WL.cutN 8 [(29, .bool b1), (2, pv2), (3, .pointer (some ⟨b_1, 0, none⟩)), (4, .pointer (some ⟨b_2, 0, none⟩)), (8, v2)] ?_ (fun K => ?_)
 rotate_left
 ·refine spl 21 rfl hb_1 (fun c1 hb_1 => ?_) (fun c1 hb_1 => ?_)
  ·refine la rfl <| la rfl <| la rfl <| la rfl <| la rfl <| la rfl <| la rfl <| la rfl ?_
   cases hb_1
   exact kk K ⟨rfl, rfl, rfl, rfl, rfl, trivial⟩
  ·refine ly rfl rfl <| lf Fld_171_1 rfl rfl rfl <| ly rfl rfl <| lo T1_169 1 rfl <| ly rfl rfl <| lq (q_lenR Sl_169 rfl rfl ph0_0) rfl <| ly rfl rfl <| lf Fld_123_1 rfl rfl rfl <| ly rfl rfl <| lo T1_121 0 rfl <| ly rfl rfl <| lq (q_lenR Sl_121 rfl rfl ph1_0) rfl <| ly rfl rfl <| la rfl <| la rfl ?_
   cases hb_1
   exact kk K ⟨rfl, rfl, rfl, rfl, rfl, trivial⟩
 refine en ?_
 refine cdh rfl h (fun c2 h => ?_) (fun c2 h => ?_)
 ·refine sr <| la rfl <| la rfl <| la rfl <| en ?_
  refine WT.ret Tryz.func163 (resOk.two rfl rfl) (fun w1 hw => ?_)
  subst hb0
  cases h
  refine postG_of_St (js := [0]) hw rfl ⟨v2, rfl, rfl, h2⟩
 refine WT.skip <| sq <| sr <| la rfl <| en <| blk ?_
 refine loop_in (σ := Hp × (List TBind) × Value × Int) (fun s => [(2, pv2), (3, .pointer (some ⟨b_1, 0, none⟩)), (4, .pointer (some ⟨b_2, 0, none⟩)), (8, s.2.2.1), (9, .int .i64 s.2.2.2)]) (fun s => St w0 s.1 [(b_2, .cells #[.string p1.Kind, pv1_0] 123 (0, 0)), (b_1, .cells #[.string p0.Kind, pv0_0, .bool p0.Not] 171 (0, 0))] [ob s.2.2.1]) (fun m s => m_s_MatchPat_l1 N p0 p1 p2 m s.2.1 s.2.2.2 = some r ∧ (OSl RTBind 87 4 s.1 [] s.2.2.1 s.2.1) ∧ (RSl RTBind 4 s.1 pG2 pv2 p2) ∧ (RSl RTArg 5 s.1 pG0_0 pv0_0 p0.Args) ∧ (RSl RTVal 3 s.1 pG1_0 pv1_0 p1.Fields)) (Φ_2, x1, v2, 0) N ⟨h, h2, ph2, ph0_0, ph1_0⟩ ⟨rfl, rfl, rfl, rfl, rfl, trivial⟩ (fun w1 hw => (hw.sel (js := [0]) rfl).selO (js := [0, 0]) rfl) (fun s hm => none_ne hm.1) (fun n1 ih1 s hm => ?_)
 obtain ⟨Φ_3, s1, u1, s2⟩ := s
 obtain ⟨h, k1, ph2, ph0_0, ph1_0⟩ := hm
 dsimp only at h k1 ph2 ph0_0 ph1_0 ⊢
 unfold m_s_MatchPat_l1 at h
 refine sq <| sr <| la rfl <| lf Fld_171_1 rfl rfl rfl <| lo T1_169 1 rfl <| lq (q_lenR Sl_169 rfl rfl ph0_0) rfl <| la rfl <| en ?_
 refine cdh rfl h (fun c3 h => ?_) (fun c3 h => ?_)
 ·refine WT.skip <| sq <| blk <| sr <| lf Fld_171_1 rfl rfl rfl <| lo T1_169 1 rfl <| la rfl ?_
  obtain ⟨x2, hx2, h⟩ := bs h
  obtain ⟨cs1, F1, -, g1, hb1, hs1, r1⟩ := ph0_0.el (idx_some hx2).2.2
  obtain ⟨rfl, -⟩ := r1
  refine lq (q_indexAddr Sl_169 rfl rfl ph0_0 hx2) rfl <| lg5 0 Tn_137 g1 rfl rfl ?_
  refine ln (nz Zr_137) rfl (fun b_3 => ?_)
  refine soN 0 Sz_137 rfl ⟨rfl, rfl, rfl, rfl, rfl, trivial⟩ rfl ?_
  refine en <| sr <| la rfl <| lf Fld_137_1 rfl rfl rfl <| lo T1_9 0 rfl ?_
  obtain ⟨x3, hx3, h⟩ := bs h
  refine lp (p_call Fun_193 rfl (fun w1 hw => m_s_BindOf_ok hw.fro N s1 x2.S k1.rsl hx3)) rfl <| la rfl <| lq (q_extract rfl rfl) rfl <| lq (q_extract rfl rfl) rfl ?_
  refine ln (nz Zr_85) rfl (fun b_4 => ?_)
  refine soN 0 Sz_85 rfl ⟨rfl, rfl, rfl, trivial⟩ rfl ?_
  refine la rfl <| en <| sq <| sq <| WT.draw mixed (by kernel_rfl) (fun _ h => h.drew) <| qq (q_fieldAddr Fld_137_0 rfl) rfl <| qq (q_load1 T1_3 rfl (fun w1 hw => hw.rgO (i := 1) rfl 0 1 [.int .i64 x2.K] rfl)) rfl <| qq (q_eql rfl rfl) rfl <| qq (q_move rfl) rfl ?_
  obtain ⟨b2, hb_2, h⟩ := bs h
  refine WQ.cutN 9 [(62, .bool b2), (2, pv2), (3, .pointer (some ⟨b_1, 0, none⟩)), (4, .pointer (some ⟨b_2, 0, none⟩)), (8, u1), (9, .int .i64 s2), (10, .pointer (some ⟨b_3, 0, none⟩)), (11, .pointer (some ⟨b_4, 0, none⟩)), (12, .bool x3.2)] ?_ (fun K => ?_)
  rotate_left
  ·refine WQ.split (d := 53) rfl (fun c4 => ?_) (fun c4 => ?_)
   ·replace hb_2 := ite_t hb_2 c4
    refine WQ.yes rfl rfl <| qq (q_fieldAddr Fld_137_2 rfl) rfl <| WQ.yes rfl rfl <| qq (q_loadN Tn_85 rfl (fun w1 hw => hw.rgO (i := 1) rfl 2 3 [.int .i64 x2.V.K, .int .i64 x2.V.N, .string x2.V.S] rfl) rfl) rfl <| WQ.yes rfl rfl <| qq (q_fieldAddr Fld_123_1 rfl) rfl <| WQ.yes rfl rfl <| qq (q_load1 T1_121 rfl (fun w1 hw => hw.rgO (i := 2) rfl 1 1 [pv1_0] rfl)) rfl <| WQ.yes rfl rfl <| qq (q_move rfl) rfl <| WQ.yes rfl rfl ?_
    obtain ⟨x4, hx4, hb_2⟩ := bs hb_2
    obtain ⟨cs2, F2, -, g2, hb2, hs2, r2⟩ := ph1_0.el (idx_some hx4).2.2
    obtain ⟨rfl, -⟩ := r2
    refine qq (q_indexAddr Sl_121 rfl rfl ph1_0 hx4) rfl <| WQ.yes rfl rfl <| qq (q_loadN Tn_85 rfl (fun w1 hw => (g2.of_eq 0 3 rfl rfl : rg _ _ _ [.int .i64 x4.K, .int .i64 x4.N, .string x4.S]).rangeAt hw.fro) rfl) rfl <| WQ.yes rfl rfl <| qq (q_neA EqT_85 rfl rfl rfl (r := eqT_TVal x2.V x4) rfl) rfl <| WQ.q (q_pick1 rfl rfl) rfl rfl rfl ?_
    cases hb_2
    exact WQ.keep (by exact ⟨rfl, rfl, rfl, rfl, rfl, rfl, rfl, rfl, rfl, trivial⟩) K
   ·replace hb_2 := ite_f hb_2 c4
    refine WQ.no rfl rfl rfl rfl <| WQ.no rfl rfl rfl rfl <| WQ.no rfl rfl rfl rfl <| WQ.no rfl rfl rfl rfl <| WQ.no rfl rfl rfl rfl <| WQ.no rfl rfl rfl rfl <| WQ.no rfl rfl rfl rfl <| WQ.no rfl rfl rfl rfl <| WQ.q (q_pick0 rfl rfl) rfl rfl rfl ?_
    cases hb_2
    exact WQ.keep (by exact ⟨rfl, rfl, rfl, rfl, rfl, rfl, rfl, rfl, rfl, trivial⟩) K
  refine qq (q_move rfl) rfl ?_
  obtain ⟨b3, hb_3, h⟩ := bs h
  refine WQ.cutN 16 [(79, .bool b3), (2, pv2), (3, .pointer (some ⟨b_1, 0, none⟩)), (4, .pointer (some ⟨b_2, 0, none⟩)), (8, u1), (9, .int .i64 s2), (10, .pointer (some ⟨b_3, 0, none⟩)), (12, .bool x3.2)] ?_ (fun K => ?_)
  rotate_left
  ·refine WQ.split (d := 63) rfl (fun c5 => ?_) (fun c5 => ?_)
   ·replace hb_3 := ite_t hb_3 c5
    refine WQ.no rfl rfl rfl rfl <| WQ.no rfl rfl rfl rfl <| WQ.no rfl rfl rfl rfl <| WQ.no rfl rfl rfl rfl <| WQ.nox rfl rfl rfl rfl <| WQ.no rfl rfl rfl rfl <| WQ.no rfl rfl rfl rfl <| WQ.nox rfl rfl rfl rfl <| WQ.nox rfl rfl rfl rfl <| WQ.nox rfl rfl rfl rfl <| WQ.nox rfl rfl rfl rfl <| WQ.nox rfl rfl rfl rfl <| WQ.nox rfl rfl rfl rfl <| WQ.nox rfl rfl rfl rfl <| WQ.no rfl rfl rfl rfl <| WQ.q (q_pick1 rfl rfl) rfl rfl rfl ?_
    cases hb_3
    exact WQ.keep (by exact ⟨rfl, rfl, rfl, rfl, rfl, rfl, rfl, rfl, trivial⟩) K
   ·replace hb_3 := ite_f hb_3 c5
    refine WQ.yes rfl rfl <| qq (q_fieldAddr Fld_137_0 rfl) rfl <| WQ.yes rfl rfl <| qq (q_load1 T1_3 rfl (fun w1 hw => hw.rgO (i := 1) rfl 0 1 [.int .i64 x2.K] rfl)) rfl <| WQ.yes rfl rfl <| qq (q_eql rfl rfl) rfl <| WQ.yes rfl rfl <| qq (q_move rfl) rfl ?_
    obtain ⟨b4, hb_4, hb_3⟩ := bs hb_3
    refine WQ.cutN 2 [(69, .bool b4), (2, pv2), (3, .pointer (some ⟨b_1, 0, none⟩)), (4, .pointer (some ⟨b_2, 0, none⟩)), (8, u1), (9, .int .i64 s2), (10, .pointer (some ⟨b_3, 0, none⟩)), (11, .pointer (some ⟨b_4, 0, none⟩)), (12, .bool x3.2), (63, .bool false)] ?_ (fun K => ?_)
    rotate_left
    ·refine WQ.split (d := 67) rfl (fun c6 => ?_) (fun c6 => ?_)
     ·replace hb_4 := ite_t hb_4 c6
      refine WQ.yes rfl rfl <| qq (q_move rfl) rfl <| WQ.yes rfl rfl <| WQ.q (q_pick1 rfl rfl) rfl rfl rfl ?_
      cases hb_4
      exact WQ.keep (by exact ⟨rfl, rfl, rfl, rfl, rfl, rfl, rfl, rfl, rfl, rfl, trivial⟩) K
     ·replace hb_4 := ite_f hb_4 c6
      refine WQ.no rfl rfl rfl rfl <| WQ.yes rfl rfl <| WQ.q (q_pick0 rfl rfl) rfl rfl rfl ?_
      cases hb_4
      exact WQ.keep (by exact ⟨rfl, rfl, rfl, rfl, rfl, rfl, rfl, rfl, rfl, rfl, trivial⟩) K
    refine WQ.yes rfl rfl <| qq (q_move rfl) rfl ?_
    obtain ⟨b5, hb_5, hb_3⟩ := bs hb_3
    refine WQ.cutN 8 [(78, .bool b5), (2, pv2), (3, .pointer (some ⟨b_1, 0, none⟩)), (4, .pointer (some ⟨b_2, 0, none⟩)), (8, u1), (9, .int .i64 s2), (10, .pointer (some ⟨b_3, 0, none⟩)), (12, .bool x3.2), (63, .bool false)] ?_ (fun K => ?_)
    rotate_left
    ·refine WQ.split (d := 70) rfl (fun c7 => ?_) (fun c7 => ?_)
     ·replace hb_5 := ite_t hb_5 c7
      refine WQ.yes rfl rfl <| qq (q_loadN Tn_85 rfl (fun w1 hw => hw.rgO (i := 0) rfl 0 3 [.int .i64 x3.1.K, .int .i64 x3.1.N, .string x3.1.S] rfl) rfl) rfl <| WQ.yes rfl rfl <| qq (q_fieldAddr Fld_123_1 rfl) rfl <| WQ.yes rfl rfl <| qq (q_load1 T1_121 rfl (fun w1 hw => hw.rgO (i := 2) rfl 1 1 [pv1_0] rfl)) rfl <| WQ.yes rfl rfl <| qq (q_move rfl) rfl <| WQ.yes rfl rfl ?_
      obtain ⟨x5, hx5, hb_5⟩ := bs hb_5
      obtain ⟨cs3, F3, -, g3, hb3, hs3, r3⟩ := ph1_0.el (idx_some hx5).2.2
      obtain ⟨rfl, -⟩ := r3
      refine qq (q_indexAddr Sl_121 rfl rfl ph1_0 hx5) rfl <| WQ.yes rfl rfl <| qq (q_loadN Tn_85 rfl (fun w1 hw => (g3.of_eq 0 3 rfl rfl : rg _ _ _ [.int .i64 x5.K, .int .i64 x5.N, .string x5.S]).rangeAt hw.fro) rfl) rfl <| WQ.yes rfl rfl <| qq (q_neA EqT_85 rfl rfl rfl (r := eqT_TVal x3.1 x5) rfl) rfl <| WQ.yes rfl rfl <| WQ.q (q_pick1 rfl rfl) rfl rfl rfl ?_
      cases hb_5
      exact WQ.keep (by exact ⟨rfl, rfl, rfl, rfl, rfl, rfl, rfl, rfl, rfl, trivial⟩) K
     ·replace hb_5 := ite_f hb_5 c7
      refine WQ.no rfl rfl rfl rfl <| WQ.no rfl rfl rfl rfl <| WQ.no rfl rfl rfl rfl <| WQ.no rfl rfl rfl rfl <| WQ.no rfl rfl rfl rfl <| WQ.no rfl rfl rfl rfl <| WQ.no rfl rfl rfl rfl <| WQ.yes rfl rfl <| WQ.q (q_pick0 rfl rfl) rfl rfl rfl ?_
      cases hb_5
      exact WQ.keep (by exact ⟨rfl, rfl, rfl, rfl, rfl, rfl, rfl, rfl, rfl, trivial⟩) K
    refine WQ.q (q_pick0 rfl rfl) rfl rfl rfl ?_
    cases hb_3
    exact WQ.keep (by exact ⟨rfl, rfl, rfl, rfl, rfl, rfl, rfl, rfl, trivial⟩) K
  refine WQ.nil ?_
  refine cdh rfl h (fun c8 h => ?_) (fun c8 h => ?_)
  ·refine sr ?_
   refine le' (e_lit0 RTBind.lasts Sl_42 Zr_87 rfl rfl) rfl (fun v3 Φ_4 D3 q3 => ?_)
   obtain ⟨fr3, h3⟩ := q3
   replace ph2 := ph2.frame RTBind.lasts fr3 (Dj.empty _)
   refine la rfl ?_
   obtain ⟨x6, hx6, h⟩ := bs h
   refine le' (e_appF RTBind.lasts RTBind.one RTBind.flat Sl_42 Ei_87 rfl rfl rfl rfl rfl (js := [0]) (Rr := [ob u1]) rfl h3 ph2 hx6) rfl (fun v4 Φ_5 D4 q4 => ?_)
   obtain ⟨⟨ap2, fr4⟩, h4⟩ := q4
   refine la rfl <| la rfl <| en ?_
   refine WT.ret Tryz.func163 (resOk.two rfl rfl) (fun w1 hw => ?_)
   subst hb0
   cases h
   refine postG_of_St (js := [0]) hw rfl ⟨v4, rfl, rfl, h4⟩
  refine WT.skip <| sr <| lf Fld_137_0 rfl rfl rfl <| lo T1_3 1 rfl <| la rfl <| la rfl ?_
  obtain ⟨b6, hb_6, h⟩ := bs h
  refine WL.cutN 3 [(89, .bool b6), (2, pv2), (3, .pointer (some ⟨b_1, 0, none⟩)), (4, .pointer (some ⟨b_2, 0, none⟩)), (8, u1), (9, .int .i64 s2), (10, .pointer (some ⟨b_3, 0, none⟩))] ?_ (fun K => ?_)
  rotate_left
  ·refine spl 86 rfl hb_6 (fun c9 hb_6 => ?_) (fun c9 hb_6 => ?_)
   ·refine ly rfl rfl <| la rfl <| ly rfl rfl <| la rfl <| la rfl ?_
    cases hb_6
    exact kk K ⟨rfl, rfl, rfl, rfl, rfl, rfl, rfl, trivial⟩
   ·refine la rfl <| la rfl <| la rfl ?_
    cases hb_6
    exact kk K ⟨rfl, rfl, rfl, rfl, rfl, rfl, rfl, trivial⟩
  refine en ?_
  refine cdh rfl h (fun c10 h => ?_) (fun c10 h => ?_)
  ·refine WT.mix (Kn Φ_3 pG1_0 [(b_4, .cells #[.int .i64 x3.1.K, .int .i64 x3.1.N, .string x3.1.S] 85 (0, 0)), (b_3, .cells #[.int .i64 x2.K, .string x2.S, .int .i64 x2.V.K, .int .i64 x2.V.N, .string x2.V.S] 137 (0, 0)), (b_2, .cells #[.string p1.Kind, pv1_0] 123 (0, 0)), (b_1, .cells #[.string p0.Kind, pv0_0, .bool p0.Not] 171 (0, 0))]) (fun _ => true) mixed (fun _ h => h.drew) <| ma 0 rfl (by kernel_rfl) (kn Kf.id (AllIn.mem ⟨gM 0 rfl, gM 1 rfl, gM 2 rfl, gM 3 rfl, trivial⟩)) rfl ?_
   refine mq 1 rfl (by kernel_rfl) (kn Kf.id (AllIn.mem ⟨gM 0 rfl, gM 1 rfl, gM 2 rfl, gM 3 rfl, trivial⟩)) (q_fieldAddr Fld_137_1 rfl) rfl <| mq 2 rfl (by kernel_rfl) (kn Kf.id (AllIn.mem ⟨gM 0 rfl, gM 1 rfl, gM 2 rfl, gM 3 rfl, trivial⟩)) (q_load1 T1_9 rfl (fun w1 hw => hw.rgO (i := 1) rfl 1 1 [.string x2.S] rfl)) rfl ?_
   refine mq 3 rfl (by kernel_rfl) (kn Kf.id (AllIn.mem ⟨gM 0 rfl, gM 1 rfl, gM 2 rfl, gM 3 rfl, trivial⟩)) (q_fieldAddr Fld_123_1 rfl) rfl <| mq 4 rfl (by kernel_rfl) (kn Kf.id (AllIn.mem ⟨gM 0 rfl, gM 1 rfl, gM 2 rfl, gM 3 rfl, trivial⟩)) (q_load1 T1_121 rfl (fun w1 hw => hw.rgO (i := 2) rfl 1 1 [pv1_0] rfl)) rfl ?_
   refine ma 5 rfl (by kernel_rfl) (kn Kf.id (AllIn.mem ⟨gM 0 rfl, gM 1 rfl, gM 2 rfl, gM 3 rfl, trivial⟩)) rfl ?_
   obtain ⟨x7, hx7, h⟩ := bs h
   obtain ⟨cs4, F4, -, g4, hb4, hs4, r4⟩ := ph1_0.el (idx_some hx7).2.2
   obtain ⟨rfl, -⟩ := r4
   refine mq 6 rfl (by kernel_rfl) (kn Kf.id (AllIn.mem ⟨gM 0 rfl, gM 1 rfl, gM 2 rfl, gM 3 rfl, trivial⟩)) (q_indexAddr Sl_121 rfl rfl ph1_0 hx7) rfl <| mq 7 rfl (by kernel_rfl) (kn Kf.id (AllIn.mem ⟨gM 0 rfl, gM 1 rfl, gM 2 rfl, gM 3 rfl, trivial⟩)) (q_loadN Tn_85 rfl (fun w1 hw => hw.rg hb4 (g4.of_eq 0 3 rfl rfl : rg _ _ _ [.int .i64 x7.K, .int .i64 x7.N, .string x7.S])) rfl) rfl ?_
   refine mq 8 rfl (by kernel_rfl) (kn Kf.id (AllIn.mem ⟨gM 0 rfl, gM 1 rfl, gM 2 rfl, gM 3 rfl, trivial⟩)) (q_build (vs := [(0, .string x2.S), (1, .agg [.int .i64 x7.K, .int .i64 x7.N, .string x7.S].toArray)]) (C := #[.string x2.S, .int .i64 x7.K, .int .i64 x7.N, .string x7.S]) Pl_87 Zr_87 rfl (fill_cons (C' := [.string x2.S, .int .i64 0, .int .i64 0, .string ⟨#[]⟩]) rfl rfl rfl rfl rfl (fill_cons (C' := [.string x2.S, .int .i64 x7.K, .int .i64 x7.N, .string x7.S]) rfl rfl rfl rfl rfl (fill_nil)))) rfl ?_
   have rc3 : RC RTBind 4 Φ_3 ([[]] : List (List Nat)) [.string x2.S, .int .i64 x7.K, .int .i64 x7.N, .string x7.S] ([(⟨x2.S, x7⟩ : TBind)] : List TBind) := RC.cons (c := [.string x2.S, .int .i64 x7.K, .int .i64 x7.N, .string x7.S]) (cells := []) ⟨rfl, rfl⟩ rfl (RC.nil _ _ _)
   refine WM.one 9 (by kernel_rfl) (me rfl (fun _ v Φx D w1 hq hw => Kn.of (Kf.id.se hq.1) (AllIn.mem ⟨gM 0 rfl, gM 1 rfl, gM 2 rfl, gM 3 rfl, trivial⟩) hw) (e_lit (vs := [(0, .agg [.string x2.S, .int .i64 x7.K, .int .i64 x7.N, .string x7.S].toArray)]) (C := #[.string x2.S, .int .i64 x7.K, .int .i64 x7.N, .string x7.S]) RTBind.lasts Sl_42 Zr_87 rfl rfl rfl rfl (fill_made MC_87_1 (fill_cons (C' := [.string x2.S, .int .i64 x7.K, .int .i64 x7.N, .string x7.S]) rfl rfl rfl rfl rfl (fill_nil))) rfl rc3 rfl (by simpa using Kw.nil)) rfl (fun v5 Φ_6 D5 q5 => ?_))
   obtain ⟨fr5, h5⟩ := q5
   replace h5 : OSl RTBind 87 4 Φ_6 [] v5 ([(⟨x2.S, x7⟩ : TBind)] : List TBind) := by simpa using h5
   replace ph2 := ph2.frame RTBind.lasts fr5 (Dj.empty _)
   replace ph0_0 := ph0_0.frame RTArg.lasts fr5 (Dj.empty _)
   replace ph1_0 := ph1_0.frame RTVal.lasts fr5 (Dj.empty _)
   replace k1 := k1.frame RTBind.lasts fr5 (Dj.empty _) (Dj.empty _)
   obtain ⟨x8, hx8, h⟩ := bs h
   have kf1 := (Kf.id (F := pG1_0) : Kf Φ_3 _ _).se fr5
   refine WM.one 10 (by kernel_rfl) (me rfl (fun _ v Φx D w1 hq hw => Kn.of (kf1.st hq.1.2 (hq.1.1.o pa1_0)) (AllIn.mem ⟨gM 0 rfl, gM 1 rfl, gM 2 rfl, gM 3 rfl, trivial⟩) hw) (e_appF RTBind.lasts RTBind.one RTBind.flat Sl_42 Ei_87 rfl rfl rfl rfl rfl (js := [1]) (Rr := [ob v5]) rfl k1 h5.rsl hx8) rfl (fun v6 Φ_7 D6 q6 => ?_))
   obtain ⟨⟨ap3, fr6⟩, h6⟩ := q6
   replace ph2 := ph2.frame RTBind.lasts fr6 (ap3.o pa2)
   replace ph0_0 := ph0_0.frame RTArg.lasts fr6 (ap3.o pa0_0)
   replace ph1_0 := ph1_0.frame RTVal.lasts fr6 (ap3.o pa1_0)
   have kf2 := kf1.st fr6 (ap3.o pa1_0)
   refine ma 11 rfl (by kernel_rfl) (kn kf2 (AllIn.mem ⟨gM 0 rfl, gM 1 rfl, gM 2 rfl, gM 3 rfl, trivial⟩)) rfl <| WM.nil (by kernel_rfl) <| ib <| rgn <| la rfl <| la rfl <| la rfl <| en ?_
   exact lback (ih1 (Φ_7, x8, v6, IntKind.i64.wrap (s2 + 1)) ⟨h, h6, ph2, ph0_0, ph1_0⟩) ⟨rfl, rfl, rfl, rfl, rfl, trivial⟩ (fun w1 hw => (hw.sel (js := [0]) rfl).selO (js := [2, 2]) rfl)
  refine WT.skip <| ib <| rgn <| la rfl <| la rfl <| la rfl <| en ?_
  exact lback (ih1 (Φ_3, s1, u1, IntKind.i64.wrap (s2 + 1)) ⟨h, k1, ph2, ph0_0, ph1_0⟩) ⟨rfl, rfl, rfl, rfl, rfl, trivial⟩ (fun w1 hw => (hw.sel (js := [0]) rfl).selO (js := [2, 2]) rfl)
 refine xt rfl <| sr <| la rfl <| la rfl <| la rfl <| en ?_
 refine WT.ret Tryz.func163 (resOk.two rfl rfl) (fun w1 hw => ?_)
 subst hb0
 cases h
 refine postG_of_St (js := [0]) hw rfl ⟨u1, rfl, rfl, k1⟩
theorem m_s_Blocked_ok {Φ : Hp} {w : World} (hΦ : In Φ w) (N : Nat) (p0 : TRule) (p1 : TStore) (p2 : (List TBind)) {pv0_0 pv0_1 pv0_2 pv1_0 pv2 : Value} {pG0_0 pG0_1 pG0_2 pG1_0 pG2 : List Nat} (ph0_0 : RSl RTPat 3 Φ pG0_0 pv0_0 p0.Pats) (ph0_1 : RSl RTCond 11 Φ pG0_1 pv0_1 p0.Conds) (ph0_2 : RSl RTAct 5 Φ pG0_2 pv0_2 p0.Acts) (ph1_0 : RSl RTItem 3 Φ pG1_0 pv1_0 p1.Items) (ph2 : RSl RTBind 4 Φ pG2 pv2 p2) {r : Bool} (h : m_s_Blocked N p0 p1 p2 = some r) :
  Calls Tryz.prog 161 [.agg [.string p0.Name, .int .i64 p0.Sal, pv0_0, pv0_1, pv0_2].toArray, .agg [pv1_0, .int .i64 p1.Next].toArray, pv2].toArray w (Post (.bool r) w) := by
 refine enter Tryz.func161 rfl Tryz.ntmps161 rfl (St.start0 hΦ) ?_
 have pa0_0 := Old.mk hΦ ph0_0.kn (Dj.empty _)
 have pa0_1 := Old.mk hΦ ph0_1.kn (Dj.empty _)
 have pa0_2 := Old.mk hΦ ph0_2.kn (Dj.empty _)
 have pa1_0 := Old.mk hΦ ph1_0.kn (Dj.empty _)
 have pa2 := Old.mk hΦ ph2.kn (Dj.empty _)
 revert pa0_0 pa0_1 pa0_2 pa1_0 pa2
 generalize hb0 : (⟨w, [], Φ⟩ : Base) = w0
 intro pa0_0 pa0_1 pa0_2 pa1_0 pa2
 unfold m_s_Blocked at h
 refine sr ?_
 refine ln (nb rfl) rfl (fun b_1 => ?_)
 refine ln (nb rfl) rfl (fun b_2 => ?_)
 refine la rfl <| en <| sq <| sr <| la rfl <| en <| blk ?_
 refine loop_in (σ := Hp × Int) (fun s => [(2, pv2), (3, .pointer (some ⟨b_1, 0, none⟩)), (4, .pointer (some ⟨b_2, 0, none⟩)), (7, .int .i64 s.2)]) (fun s => St w0 s.1 [(b_2, .cells #[pv1_0, .int .i64 p1.Next] 29 (0, 0)), (b_1, .cells #[.string p0.Name, .int .i64 p0.Sal, pv0_0, pv0_1, pv0_2] 40 (0, 0))] []) (fun m s => m_s_Blocked_l1 N p0 p1 p2 m s.2 = some r ∧ (RSl RTBind 4 s.1 pG2 pv2 p2) ∧ (RSl RTPat 3 s.1 pG0_0 pv0_0 p0.Pats) ∧ (RSl RTCond 11 s.1 pG0_1 pv0_1 p0.Conds) ∧ (RSl RTAct 5 s.1 pG0_2 pv0_2 p0.Acts) ∧ (RSl RTItem 3 s.1 pG1_0 pv1_0 p1.Items)) (Φ, 0) N ⟨h, ph2, ph0_0, ph0_1, ph0_2, ph1_0⟩ ⟨rfl, rfl, rfl, rfl, trivial⟩ (fun w1 hw => (hw.sel (js := []) rfl).selO (js := [0, 0]) rfl) (fun s hm => none_ne hm.1) (fun n1 ih1 s hm => ?_)
 obtain ⟨Φ_1, s1⟩ := s
 obtain ⟨h, ph2, ph0_0, ph0_1, ph0_2, ph1_0⟩ := hm
 dsimp only at h ph2 ph0_0 ph0_1 ph0_2 ph1_0 ⊢
 unfold m_s_Blocked_l1 at h
 refine sq <| sr <| la rfl <| lf Fld_40_2 rfl rfl rfl <| lo T1_36 1 rfl <| lq (q_lenR Sl_36 rfl rfl ph0_0) rfl <| la rfl <| en ?_
 refine cdh rfl h (fun c1 h => ?_) (fun c1 h => ?_)
 ·refine WT.skip <| sq <| blk <| sr <| la rfl <| en <| blk ?_
  refine loop_in (σ := Hp × Int) (fun s => [(2, pv2), (3, .pointer (some ⟨b_1, 0, none⟩)), (4, .pointer (some ⟨b_2, 0, none⟩)), (7, .int .i64 s1), (8, .int .i64 s.2)]) (fun s => St w0 s.1 [(b_2, .cells #[pv1_0, .int .i64 p1.Next] 29 (0, 0)), (b_1, .cells #[.string p0.Name, .int .i64 p0.Sal, pv0_0, pv0_1, pv0_2] 40 (0, 0))] []) (fun m s => m_s_Blocked_l2 N p0 p1 p2 s1 (m_s_Blocked_l1 N p0 p1 p2 n1) m s.2 = some r ∧ (RSl RTBind 4 s.1 pG2 pv2 p2) ∧ (RSl RTPat 3 s.1 pG0_0 pv0_0 p0.Pats) ∧ (RSl RTCond 11 s.1 pG0_1 pv0_1 p0.Conds) ∧ (RSl RTAct 5 s.1 pG0_2 pv0_2 p0.Acts) ∧ (RSl RTItem 3 s.1 pG1_0 pv1_0 p1.Items)) (Φ_1, 0) N ⟨h, ph2, ph0_0, ph0_1, ph0_2, ph1_0⟩ ⟨rfl, rfl, rfl, rfl, rfl, trivial⟩ (fun w1 hw => (hw.sel (js := []) rfl).selO (js := [0, 0]) rfl) (fun s hm => none_ne hm.1) (fun n2 ih2 s hm => ?_)
  obtain ⟨Φ_2, s2⟩ := s
  obtain ⟨h, ph2, ph0_0, ph0_1, ph0_2, ph1_0⟩ := hm
  dsimp only at h ph2 ph0_0 ph0_1 ph0_2 ph1_0 ⊢
  unfold m_s_Blocked_l2 at h
  refine sq <| sr <| la rfl <| lf Fld_29_0 rfl rfl rfl <| lo T1_27 0 rfl <| lq (q_lenR Sl_27 rfl rfl ph1_0) rfl <| la rfl <| la rfl ?_
  obtain ⟨b1, hb_1, h⟩ := bs h
  refine WL.cutN 7 [(30, .bool b1), (2, pv2), (3, .pointer (some ⟨b_1, 0, none⟩)), (4, .pointer (some ⟨b_2, 0, none⟩)), (7, .int .i64 s1), (8, .int .i64 s2)] ?_ (fun K => ?_)
  rotate_left
  ·refine spl 23 rfl hb_1 (fun c2 hb_1 => ?_) (fun c2 hb_1 => ?_)
   ·refine ly rfl rfl <| lf Fld_40_2 rfl rfl rfl <| ly rfl rfl <| lo T1_36 1 rfl <| ly rfl rfl <| la rfl <| ly rfl rfl ?_
    obtain ⟨x1, hx1, hb_1⟩ := bs hb_1
    obtain ⟨cs1, F1, -, g1, hb1, hs1, r1⟩ := ph0_0.el (idx_some hx1).2.2
    obtain ⟨v1, G1, rfl, hq1, h1⟩ := r1
    obtain rfl := hq1.symm
    refine lq (q_indexAddr Sl_36 rfl rfl ph0_0 hx1) rfl <| ly rfl rfl <| lf Fld_171_2 rfl rfl rfl <| ly rfl rfl <| lg 2 T1_4 g1 rfl rfl <| la rfl ?_
    cases hb_1
    exact kk K ⟨rfl, rfl, rfl, rfl, rfl, rfl, trivial⟩
   ·refine la rfl <| la rfl <| la rfl <| la rfl <| la rfl <| la rfl <| la rfl ?_
    cases hb_1
    exact kk K ⟨rfl, rfl, rfl, rfl, rfl, rfl, trivial⟩
  refine en ?_
  refine cdh rfl h (fun c3 h => ?_) (fun c3 h => ?_)
  ·refine WT.skip <| sq <| blk <| sq <| WT.mix (Kn Φ_2 (pG0_0 ++ pG1_0) [(b_2, .cells #[pv1_0, .int .i64 p1.Next] 29 (0, 0)), (b_1, .cells #[.string p0.Name, .int .i64 p0.Sal, pv0_0, pv0_1, pv0_2] 40 (0, 0))]) (fun _ => true) mixed (fun _ h => h.drew) <| mq 0 rfl (by kernel_rfl) (kn Kf.id (ai2 0 1 rfl rfl)) (q_fieldAddr Fld_40_2 rfl) rfl <| mq 1 rfl (by kernel_rfl) (kn Kf.id (ai2 0 1 rfl rfl)) (q_load1 T1_36 rfl (fun w1 hw => hw.rgO (i := 1) rfl 2 1 [pv0_0] rfl)) rfl ?_
   refine ma 2 rfl (by kernel_rfl) (kn Kf.id (ai2 0 1 rfl rfl)) rfl ?_
   obtain ⟨x2, hx2, h⟩ := bs h
   obtain ⟨cs2, F2, -, g2, hb2, hs2, r2⟩ := ph0_0.el (idx_some hx2).2.2
   obtain ⟨v2, G2, rfl, hq2, h2⟩ := r2
   obtain rfl := hq2.symm
   refine mq 3 rfl (by kernel_rfl) (kn Kf.id (ai2 0 1 rfl rfl)) (q_indexAddr Sl_36 rfl rfl ph0_0 hx2) rfl <| mq 4 rfl (by kernel_rfl) (kn Kf.id (ai2 0 1 rfl rfl)) (q_loadN Tn_171 rfl (fun w1 hw => hw.rg (List.mem_append.2 (.inl hb2)) (g2.of_eq 0 3 rfl rfl : rg _ _ _ [.string x2.Kind, v2, .bool x2.Not])) rfl) rfl <| mq 5 rfl (by kernel_rfl) (kn Kf.id (ai2 0 1 rfl rfl)) (q_fieldAddr Fld_29_0 rfl) rfl <| mq 6 rfl (by kernel_rfl) (kn Kf.id (ai2 0 1 rfl rfl)) (q_load1 T1_27 rfl (fun w1 hw => hw.rgO (i := 0) rfl 0 1 [pv1_0] rfl)) rfl ?_
   refine ma 7 rfl (by kernel_rfl) (kn Kf.id (ai2 0 1 rfl rfl)) rfl ?_
   obtain ⟨x3, hx3, h⟩ := bs h
   obtain ⟨cs3, F3, -, g3, hb3, hs3, r3⟩ := ph1_0.el (idx_some hx3).2.2
   obtain ⟨v3, G3, rfl, hq3, h3⟩ := r3
   obtain rfl := hq3.symm
   refine mq 8 rfl (by kernel_rfl) (kn Kf.id (ai2 0 1 rfl rfl)) (q_indexAddr Sl_27 rfl rfl ph1_0 hx3) rfl <| mq 9 rfl (by kernel_rfl) (kn Kf.id (ai2 0 1 rfl rfl)) (q_fieldAddr Fld_125_1 rfl) rfl <| mq 10 rfl (by kernel_rfl) (kn Kf.id (ai2 0 1 rfl rfl)) (q_loadN Tn_123 rfl (fun w1 hw => hw.rg (List.mem_append.2 (.inr hb3)) (g3.of_eq 1 2 rfl rfl : rg _ _ _ [.string x3.F.Kind, v3])) rfl) rfl <| ma 11 rfl (by kernel_rfl) (kn Kf.id (ai2 0 1 rfl rfl)) rfl ?_
   obtain ⟨x4, hx4, h⟩ := bs h
   refine WM.one 12 (by kernel_rfl) (mc rfl (fun _ v Φx D w1 hq hw => Kn.of (Kf.id.st hq.2.1 (Dj.app (hq.1.o pa0_0) (hq.1.o pa1_0))) (ai2 0 1 rfl rfl) hw) (k_call (js := []) (R := []) Fun_163 rfl rfl (fun w1 hw ap hl => m_s_MatchPat_ok hw.fro N x2 x3.F p2 h2 h3 ph2  hx4)) rfl (fun v4 Φ_3 F4 q1 => ?_))
   obtain ⟨ap1, fr1, v5, rfl, rfl, h4⟩ := q1
   replace ph2 := ph2.frame RTBind.lasts fr1 (ap1.o pa2)
   replace ph0_0 := ph0_0.frame RTPat.lasts fr1 (ap1.o pa0_0)
   replace ph0_1 := ph0_1.frame RTCond.lasts fr1 (ap1.o pa0_1)
   replace ph0_2 := ph0_2.frame RTAct.lasts fr1 (ap1.o pa0_2)
   replace ph1_0 := ph1_0.frame RTItem.lasts fr1 (ap1.o pa1_0)
   have kf1 := (Kf.id (F := (pG0_0 ++ pG1_0)) : Kf Φ_2 _ _).st fr1 (Dj.app (ap1.o pa0_0) (ap1.o pa1_0))
   refine ma 13 rfl (by kernel_rfl) (kn kf1 (ai2 0 1 rfl rfl)) rfl <| mq 14 rfl (by kernel_rfl) (kn kf1 (ai2 0 1 rfl rfl)) (q_extract rfl rfl) rfl <| mq 15 rfl (by kernel_rfl) (kn kf1 (ai2 0 1 rfl rfl)) (q_extract rfl rfl) rfl <| ma 16 rfl (by kernel_rfl) (kn kf1 (ai2 0 1 rfl rfl)) rfl <| ma 17 rfl (by kernel_rfl) (kn kf1 (ai2 0 1 rfl rfl)) rfl <| WM.nil (by kernel_rfl) <| sr <| la rfl <| en ?_
   refine cdh rfl h (fun c4 h => ?_) (fun c4 h => ?_)
   ·refine sr <| la rfl <| en ?_
    refine WT.ret Tryz.func161 (resOk.one rfl) (fun w1 hw => ?_)
    subst hb0
    cases h
    exact post_of_St hw
   refine WT.skip <| ib <| rgn <| la rfl <| la rfl <| la rfl <| en ?_
   exact lback (ih2 (Φ_3, IntKind.i64.wrap (s2 + 1)) ⟨h, ph2, ph0_0, ph0_1, ph0_2, ph1_0⟩) ⟨rfl, rfl, rfl, rfl, rfl, trivial⟩ (fun w1 hw => (hw.sel (js := []) rfl).selO (js := [0, 0]) rfl)
  refine xt rfl <| ib <| rgn <| la rfl <| la rfl <| la rfl <| en ?_
  exact lback (ih1 (Φ_2, IntKind.i64.wrap (s1 + 1)) ⟨h, ph2, ph0_0, ph0_1, ph0_2, ph1_0⟩) ⟨rfl, rfl, rfl, rfl, trivial⟩ (fun w1 hw => (hw.sel (js := []) rfl).selO (js := [0, 0]) rfl)
 refine xt rfl <| sr <| la rfl <| en ?_
 refine WT.ret Tryz.func161 (resOk.one rfl) (fun w1 hw => ?_)
 subst hb0
 cases h
 exact post_of_St hw
theorem m_s_ArgVal_ok {Φ : Hp} {w : World} (hΦ : In Φ w) (N : Nat) (p0 : TArg) (p1 : (List TBind)) {pv1 : Value} {pG1 : List Nat} (ph1 : RSl RTBind 4 Φ pG1 pv1 p1) {r : TVal × Bool} (h : m_s_ArgVal N p0 p1 = some r) :
  Calls Tryz.prog 207 [.agg [.int .i64 p0.K, .string p0.S, .int .i64 p0.V.K, .int .i64 p0.V.N, .string p0.V.S].toArray, pv1].toArray w (Post (.tuple #[.agg [.int .i64 r.1.K, .int .i64 r.1.N, .string r.1.S].toArray, .bool r.2]) w) := by
 refine enter Tryz.func207 rfl Tryz.ntmps207 rfl (St.start0 hΦ) ?_
 unfold m_s_ArgVal at h
 refine sr ?_
 refine ln (nb rfl) rfl (fun b_1 => ?_)
 refine ln (nz Zr_85) rfl (fun b_2 => ?_)
 refine la rfl <| en <| sq <| sr <| lf Fld_137_0 rfl rfl rfl <| lo T1_3 1 rfl <| en <| blk <| sr <| la rfl <| la rfl <| en ?_
 refine cdh rfl h (fun c1 h => ?_) (fun c1 h => ?_)
 ·refine sr <| lf Fld_137_2 rfl rfl rfl <| ld3 Tn_85 1 rfl <| soN 0 Sz_85 rfl ⟨rfl, rfl, rfl, trivial⟩ rfl ?_
  refine la rfl <| en ?_
  refine WT.ret Tryz.func207 (resOk.two (rv_cell Tn_85 rfl (fun w1 hw => hw.rgO (i := 0) rfl 0 3 [.int .i64 p0.V.K, .int .i64 p0.V.N, .string p0.V.S] rfl) rfl) rfl) (fun w1 hw => ?_)
  cases h
  exact post_of_St hw
 refine sr <| la rfl <| la rfl <| en ?_
 refine cdh rfl h (fun c2 h => ?_) (fun c2 h => ?_)
 ·refine sr <| la rfl <| lf Fld_137_1 rfl rfl rfl <| lo T1_9 1 rfl ?_
  obtain ⟨x1, hx1, h⟩ := bs h
  refine lp (p_call Fun_193 rfl (fun w1 hw => m_s_BindOf_ok hw.fro N p1 p0.S ph1 hx1)) rfl <| lq (q_extract rfl rfl) rfl <| lq (q_extract rfl rfl) rfl <| soN 0 Sz_85 rfl ⟨rfl, rfl, rfl, trivial⟩ rfl ?_
  refine la rfl <| en ?_
  refine WT.ret Tryz.func207 (resOk.two (rv_cell Tn_85 rfl (fun w1 hw => hw.rgO (i := 0) rfl 0 3 [.int .i64 x1.1.K, .int .i64 x1.1.N, .string x1.1.S] rfl) rfl) rfl) (fun w1 hw => ?_)
  cases h
  exact post_of_St hw
 refine WT.skip <| ib <| sr <| lq (q_build (vs := []) (C := #[.int .i64 0, .int .i64 0, .string (⟨#[]⟩ : ByteArray)]) Pl_85 Zr_85 rfl (fill_nil)) rfl <| soN 0 Sz_85 rfl ⟨rfl, rfl, rfl, trivial⟩ rfl ?_
 refine la rfl <| en ?_
 refine WT.ret Tryz.func207 (resOk.two (rv_cell Tn_85 rfl (fun w1 hw => hw.rgO (i := 0) rfl 0 3 [.int .i64 0, .int .i64 0, .string (⟨#[]⟩ : ByteArray)] rfl) rfl) rfl) (fun w1 hw => ?_)
 cases h
 exact post_of_St hw
theorem m_s_LessVal_ok {Φ : Hp} {w : World} (hΦ : In Φ w) (N : Nat) (p0 : TVal) (p1 : TVal)   {r : Bool} (h : m_s_LessVal N p0 p1 = some r) :
  Calls Tryz.prog 208 [.agg [.int .i64 p0.K, .int .i64 p0.N, .string p0.S].toArray, .agg [.int .i64 p1.K, .int .i64 p1.N, .string p1.S].toArray].toArray w (Post (.bool r) w) := by
 refine enter Tryz.func208 rfl Tryz.ntmps208 rfl (St.start0 hΦ) ?_
 unfold m_s_LessVal at h
 refine sr ?_
 refine ln (nb rfl) rfl (fun b_1 => ?_)
 refine ln (nb rfl) rfl (fun b_2 => ?_)
 refine la rfl <| en <| sq <| blk <| sr <| lf Fld_85_0 rfl rfl rfl <| lo T1_3 1 rfl <| lf Fld_85_0 rfl rfl rfl <| lo T1_3 0 rfl <| la rfl <| la rfl <| en ?_
 refine cdh rfl h (fun c1 h => ?_) (fun c1 h => ?_)
 ·refine sr <| lf Fld_85_0 rfl rfl rfl <| lo T1_3 1 rfl <| lf Fld_85_0 rfl rfl rfl <| lo T1_3 0 rfl <| la rfl <| la rfl <| en ?_
  refine WT.ret Tryz.func208 (resOk.one rfl) (fun w1 hw => ?_)
  cases h
  exact post_of_St hw
 refine sr <| lf Fld_85_1 rfl rfl rfl <| lo T1_3 1 rfl <| lf Fld_85_1 rfl rfl rfl <| lo T1_3 0 rfl <| la rfl <| la rfl <| en ?_
 refine cdh rfl h (fun c2 h => ?_) (fun c2 h => ?_)
 ·refine sr <| lf Fld_85_1 rfl rfl rfl <| lo T1_3 1 rfl <| lf Fld_85_1 rfl rfl rfl <| lo T1_3 0 rfl <| la rfl <| la rfl <| en ?_
  refine WT.ret Tryz.func208 (resOk.one rfl) (fun w1 hw => ?_)
  cases h
  exact post_of_St hw
 refine WT.skip <| ib <| sr <| lf Fld_85_2 rfl rfl rfl <| lo T1_9 1 rfl <| lf Fld_85_2 rfl rfl rfl <| lo T1_9 0 rfl <| lq (q_slt rfl rfl) rfl <| la rfl <| en ?_
 refine WT.ret Tryz.func208 (resOk.one rfl) (fun w1 hw => ?_)
 cases h
 exact post_of_St hw
theorem m_s_Holds_ok {Φ : Hp} {w : World} (hΦ : In Φ w) (N : Nat) (p0 : TCond) (p1 : (List TBind)) {pv1 : Value} {pG1 : List Nat} (ph1 : RSl RTBind 4 Φ pG1 pv1 p1) {r : Bool} (h : m_s_Holds N p0 p1 = some r) :
  Calls Tryz.prog 192 [.agg [.int .i64 p0.Op, .int .i64 p0.L.K, .string p0.L.S, .int .i64 p0.L.V.K, .int .i64 p0.L.V.N, .string p0.L.V.S, .int .i64 p0.R.K, .string p0.R.S, .int .i64 p0.R.V.K, .int .i64 p0.R.V.N, .string p0.R.V.S].toArray, pv1].toArray w (Post (.bool r) w) := by
 refine enter Tryz.func192 rfl Tryz.ntmps192 rfl (St.start0 hΦ) ?_
 unfold m_s_Holds at h
 refine sr ?_
 refine ln (nb rfl) rfl (fun b_1 => ?_)
 refine la rfl <| en <| sr <| lf Fld_139_1 rfl rfl rfl <| ld5 Tn_137 0 rfl <| la rfl ?_
 obtain ⟨x1, hx1, h⟩ := bs h
 refine lp (p_call Fun_207 rfl (fun w1 hw => m_s_ArgVal_ok hw.fro N p0.L p1 ph1 hx1)) rfl <| la rfl <| lq (q_extract rfl rfl) rfl <| lq (q_extract rfl rfl) rfl ?_
 refine ln (nz Zr_85) rfl (fun b_2 => ?_)
 refine soN 0 Sz_85 rfl ⟨rfl, rfl, rfl, trivial⟩ rfl ?_
 refine la rfl <| en <| sr <| lf Fld_139_2 rfl rfl rfl <| ld5 Tn_137 1 rfl <| la rfl ?_
 obtain ⟨x2, hx2, h⟩ := bs h
 refine lp (p_call Fun_207 rfl (fun w1 hw => m_s_ArgVal_ok hw.fro N p0.R p1 ph1 hx2)) rfl <| la rfl <| lq (q_extract rfl rfl) rfl <| lq (q_extract rfl rfl) rfl ?_
 refine ln (nz Zr_85) rfl (fun b_3 => ?_)
 refine soN 0 Sz_85 rfl ⟨rfl, rfl, rfl, trivial⟩ rfl ?_
 refine la rfl <| en <| sq <| sr <| la rfl <| la rfl <| la rfl ?_
 obtain ⟨b1, hb_1, h⟩ := bs h
 refine WL.cutN 3 [(28, .bool b1), (2, .pointer (some ⟨b_1, 0, none⟩)), (5, .pointer (some ⟨b_2, 0, none⟩)), (7, .pointer (some ⟨b_3, 0, none⟩))] ?_ (fun K => ?_)
 rotate_left
 ·refine spl 25 rfl hb_1 (fun c1 hb_1 => ?_) (fun c1 hb_1 => ?_)
  ·refine la rfl <| la rfl <| la rfl ?_
   cases hb_1
   exact kk K ⟨rfl, rfl, rfl, rfl, trivial⟩
  ·refine ly rfl rfl <| la rfl <| ly rfl rfl <| la rfl <| la rfl ?_
   cases hb_1
   exact kk K ⟨rfl, rfl, rfl, rfl, trivial⟩
 refine en ?_
 refine cdh rfl h (fun c2 h => ?_) (fun c2 h => ?_)
 ·refine sr <| la rfl <| en ?_
  refine WT.ret Tryz.func192 (resOk.one rfl) (fun w1 hw => ?_)
  cases h
  exact post_of_St hw
 refine WT.skip <| sq <| sr <| lf Fld_139_0 rfl rfl rfl <| lo T1_3 2 rfl <| en <| blk <| sr <| la rfl <| la rfl <| en ?_
 refine cdh rfl h (fun c3 h => ?_) (fun c3 h => ?_)
 ·refine sr <| ld3 Tn_85 1 rfl <| ld3 Tn_85 0 rfl <| lq (q_eqA EqT_85 rfl rfl rfl (r := eqT_TVal x1.1 x2.1) rfl) rfl <| la rfl <| en ?_
  refine WT.ret Tryz.func192 (resOk.one rfl) (fun w1 hw => ?_)
  cases h
  exact post_of_St hw
 refine sr <| la rfl <| la rfl <| en ?_
 refine cdh rfl h (fun c4 h => ?_) (fun c4 h => ?_)
 ·refine sr <| ld3 Tn_85 1 rfl <| ld3 Tn_85 0 rfl <| lq (q_neA EqT_85 rfl rfl rfl (r := eqT_TVal x1.1 x2.1) rfl) rfl <| la rfl <| en ?_
  refine WT.ret Tryz.func192 (resOk.one rfl) (fun w1 hw => ?_)
  cases h
  exact post_of_St hw
 refine sr <| la rfl <| la rfl <| en ?_
 refine cdh rfl h (fun c5 h => ?_) (fun c5 h => ?_)
 ·refine sr <| ld3 Tn_85 1 rfl <| ld3 Tn_85 0 rfl ?_
  obtain ⟨x3, hx3, h⟩ := bs h
  refine lp (p_call Fun_208 rfl (fun w1 hw => m_s_LessVal_ok hw.fro N x1.1 x2.1 hx3)) rfl <| la rfl <| en ?_
  refine WT.ret Tryz.func192 (resOk.one rfl) (fun w1 hw => ?_)
  cases h
  exact post_of_St hw
 refine WT.skip <| ib <| sr <| la rfl <| en ?_
 refine WT.ret Tryz.func192 (resOk.one rfl) (fun w1 hw => ?_)
 cases h
 exact post_of_St hw
theorem m_s_HoldAll_ok {Φ : Hp} {w : World} (hΦ : In Φ w) (N : Nat) (p0 : (List TCond)) (p1 : (List TBind)) {pv0 pv1 : Value} {pG0 pG1 : List Nat} (ph0 : RSl RTCond 11 Φ pG0 pv0 p0) (ph1 : RSl RTBind 4 Φ pG1 pv1 p1) {r : Bool} (h : m_s_HoldAll N p0 p1 = some r) :
  Calls Tryz.prog 162 [pv0, pv1].toArray w (Post (.bool r) w) := by
 refine enter Tryz.func162 rfl Tryz.ntmps162 rfl (St.start0 hΦ) ?_
 generalize hb0 : (⟨w, [], Φ⟩ : Base) = w0
 unfold m_s_HoldAll at h
 refine sr <| la rfl <| en <| sq <| sr <| la rfl <| en <| blk ?_
 refine loop_in (σ := Int) (fun s => [(0, pv0), (1, pv1), (5, .int .i64 s)]) (fun s => St w0 Φ [] []) (fun m s => m_s_HoldAll_l1 N p0 p1 m s = some r) (0) N h ⟨rfl, rfl, rfl, trivial⟩ (fun w1 hw => (hw.sel (js := []) rfl).selO (js := []) rfl) (fun s hm => none_ne hm) (fun n1 ih1 s hm => ?_)
 revert hm; revert s; intro s1 hm
 have h : m_s_HoldAll_l1 N p0 p1 (n1 + 1) s1 = some r := hm
 show WT _ _ [(0, pv0), (1, pv1), (5, .int .i64 s1)] (St w0 Φ [] [])
 unfold m_s_HoldAll_l1 at h
 refine sq <| sr <| la rfl <| la rfl <| lq (q_lenR Sl_37 rfl rfl ph0) rfl <| la rfl <| en ?_
 refine cdh rfl h (fun c1 h => ?_) (fun c1 h => ?_)
 ·refine WT.skip <| sq <| blk <| sr <| la rfl <| la rfl ?_
  obtain ⟨x1, hx1, h⟩ := bs h
  obtain ⟨cs1, F1, -, g1, hb1, hs1, r1⟩ := ph0.el (idx_some hx1).2.2
  obtain ⟨rfl, -⟩ := r1
  refine lq (q_indexAddr Sl_37 rfl rfl ph0 hx1) rfl <| lg11 0 Tn_139 g1 rfl rfl <| la rfl ?_
  obtain ⟨x2, hx2, h⟩ := bs h
  refine lp (p_call Fun_192 rfl (fun w1 hw => m_s_Holds_ok hw.fro N x1 p1 ph1 hx2)) rfl <| la rfl <| en ?_
  refine cdh rfl h (fun c2 h => ?_) (fun c2 h => ?_)
  ·refine sr <| la rfl <| en ?_
   refine WT.ret Tryz.func162 (resOk.one rfl) (fun w1 hw => ?_)
   subst hb0
   cases h
   exact post_of_St hw
  refine WT.skip <| ib <| rgn <| la rfl <| la rfl <| la rfl <| en ?_
  exact lback (ih1 (IntKind.i64.wrap (s1 + 1)) h) ⟨rfl, rfl, rfl, trivial⟩ (fun w1 hw => (hw.sel (js := []) rfl).selO (js := []) rfl)
 refine xt rfl <| sr <| la rfl <| en ?_
 refine WT.ret Tryz.func162 (resOk.one rfl) (fun w1 hw => ?_)
 subst hb0
 cases h
 exact post_of_St hw
end Go.Proofs.YtelchcokfcdndaaGreat
