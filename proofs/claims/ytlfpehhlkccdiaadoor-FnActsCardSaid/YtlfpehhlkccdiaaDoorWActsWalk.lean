/- Printed by a program of ours: each Go function computes its Lean function. -/
import Derived.Test.YtlfpehhlkccdiaaDoorProg
import Derived.Test.YtlfpehhlkccdiaaDoorWActsWalk1
namespace Go.Proofs.YtlfpehhlkccdiaaDoor
open Eng
open Go.RowKit (Below)
set_option linter.unusedVariables false
set_option linter.unusedSimpArgs false

set_option maxRecDepth 100000
set_option maxHeartbeats 1000000
theorem m_i_NameOk_ok {Φ : Hp} {w : World} (hΦ : In Φ w) (N : Nat) (p0 : ByteArray)   {r : Bool} (h : m_i_NameOk N p0 = some r) :
  Calls Tryd.prog 56 [.string p0].toArray w (Post (.bool r) w) := by
 refine enter Tryd.func56 rfl Tryd.ntmps56 rfl (St.start0 hΦ) ?_
 unfold m_i_NameOk at h
 refine sr <| la rfl <| en <| sr <| la rfl <| lq (q_lenS Str_9 rfl rfl) rfl <| la rfl <| la rfl ?_
 obtain ⟨b1, hb_1, h⟩ := bs h
 refine WL.cutN 4 [(10, .bool b1), (0, .string p0), (2, .bool false)] ?_ (fun K => ?_)
 rotate_left
 ·refine spl 6 rfl hb_1 (fun c1 hb_1 => ?_) (fun c1 hb_1 => ?_)
  ·refine ly rfl rfl <| la rfl <| ly rfl rfl ?_
   obtain ⟨y1, hy1, hb_1⟩ := bs hb_1
   refine lq (q_indexS Str_9 rfl rfl hy1) rfl <| ly rfl rfl ?_
   obtain ⟨x1, hx1, hb_1⟩ := bs hb_1
   refine lp (p_call Fun_72 rfl (fun w1 hw => m_i_isSmall_ok hw.fro N (y1.toNat : Int) hx1)) rfl <| la rfl ?_
   cases hb_1
   exact kk K ⟨rfl, rfl, rfl, trivial⟩
  ·refine la rfl <| la rfl <| la rfl <| la rfl ?_
   cases hb_1
   exact kk K ⟨rfl, rfl, rfl, trivial⟩
 refine la rfl ?_
 obtain ⟨b2, hb_2, h⟩ := bs h
 refine WL.cutN 3 [(14, .bool b2), (2, .bool false)] ?_ (fun K => ?_)
 rotate_left
 ·refine spl 11 rfl hb_2 (fun c2 hb_2 => ?_) (fun c2 hb_2 => ?_)
  ·refine ly rfl rfl <| la rfl <| ly rfl rfl ?_
   obtain ⟨x2, hx2, hb_2⟩ := bs hb_2
   refine lp (p_call Fun_73 rfl (fun w1 hw => m_i_isWord_ok hw.fro N p0 12 hx2)) rfl <| la rfl ?_
   cases hb_2
   exact kk K ⟨rfl, rfl, trivial⟩
  ·refine la rfl <| la rfl <| la rfl ?_
   cases hb_2
   exact kk K ⟨rfl, rfl, trivial⟩
 refine la rfl <| en ?_
 refine WT.ret Tryd.func56 (resOk.one rfl) (fun w1 hw => ?_)
 cases h
 exact post_of_St hw
theorem m_i_argsOk_ok {Φ : Hp} {w : World} (hΦ : In Φ w) (N : Nat) (p0 : TAct) {pv0_0 : Value} {pG0_0 : List Nat} (ph0_0 : RSl RTExpr 11 Φ pG0_0 pv0_0 p0.Args) {r : Bool} (h : m_i_argsOk N p0 = some r) :
  Calls Tryd.prog 31 [.agg [.int .i64 p0.Kind, .string p0.Name, pv0_0, .int .i64 p0.N, .string p0.Undo].toArray].toArray w (Post (.bool r) w) := by
 refine enter Tryd.func31 rfl Tryd.ntmps31 rfl (St.start0 hΦ) ?_
 generalize hb0 : (⟨w, [], Φ⟩ : Base) = w0
 unfold m_i_argsOk at h
 refine sr ?_
 refine ln (nb rfl) rfl (fun b_1 => ?_)
 refine la rfl <| en <| sq <| sr <| lf Fld_41_1 rfl rfl rfl <| lo T1_9 0 rfl ?_
 obtain ⟨x1, hx1, h⟩ := bs h
 refine lp (p_call Fun_56 rfl (fun w1 hw => m_i_NameOk_ok hw.fro N p0.Name hx1)) rfl <| la rfl <| la rfl ?_
 obtain ⟨b1, hb_1, h⟩ := bs h
 refine WL.cutN 5 [(14, .bool b1), (1, .pointer (some ⟨b_1, 0, none⟩))] ?_ (fun K => ?_)
 rotate_left
 ·refine spl 9 rfl hb_1 (fun c1 hb_1 => ?_) (fun c1 hb_1 => ?_)
  ·refine la rfl <| la rfl <| la rfl <| la rfl <| la rfl ?_
   cases hb_1
   exact kk K ⟨rfl, rfl, trivial⟩
  ·refine ly rfl rfl <| lf Fld_41_2 rfl rfl rfl <| ly rfl rfl <| lo T1_39 0 rfl <| ly rfl rfl <| lq (q_lenR Sl_39 rfl rfl ph0_0) rfl <| ly rfl rfl <| la rfl <| la rfl ?_
   cases hb_1
   exact kk K ⟨rfl, rfl, trivial⟩
 refine en ?_
 refine cdh rfl h (fun c2 h => ?_) (fun c2 h => ?_)
 ·refine sr <| la rfl <| en ?_
  refine WT.ret Tryd.func31 (resOk.one rfl) (fun w1 hw => ?_)
  subst hb0
  cases h
  exact post_of_St hw
 refine WT.skip <| sq <| sr <| lf Fld_41_2 rfl rfl rfl <| lo T1_39 0 rfl <| lq (q_lenR Sl_39 rfl rfl ph0_0) rfl <| la rfl <| en <| blk ?_
 refine loop_in (σ := Int) (fun s => [(16, pv0_0), (17, .int .i64 (p0.Args.length : Int)), (18, .int .i64 s)]) (fun s => St w0 Φ [] []) (fun m s => m_i_argsOk_l1 N p0 m s = some r) (0) N h ⟨rfl, rfl, rfl, trivial⟩ (fun w1 hw => (hw.sel (js := []) rfl).selO (js := []) rfl) (fun s hm => none_ne hm) (fun n1 ih1 s hm => ?_)
 revert hm; revert s; intro s1 hm
 have h : m_i_argsOk_l1 N p0 (n1 + 1) s1 = some r := hm
 show WT _ _ [(16, pv0_0), (17, .int .i64 (p0.Args.length : Int)), (18, .int .i64 s1)] (St w0 Φ [] [])
 unfold m_i_argsOk_l1 at h
 refine sr <| la rfl <| en <| sq ?_
 refine cdh rfl h (fun c3 h => ?_) (fun c3 h => ?_)
 ·refine WT.skip <| sq <| blk <| sr ?_
  obtain ⟨x2, hx2, h⟩ := bs h
  obtain ⟨cs1, F1, -, g1, hb1, hs1, r1⟩ := ph0_0.el (idx_some hx2).2.2
  obtain ⟨rfl, -⟩ := r1
  refine lq (q_indexAddr Sl_39 rfl rfl ph0_0 hx2) rfl <| lg11 0 Tn_34 g1 rfl rfl ?_
  refine ln (nz Zr_34) rfl (fun b_2 => ?_)
  refine soN 0 Sz_34 rfl ⟨rfl, rfl, rfl, rfl, rfl, rfl, rfl, rfl, rfl, rfl, rfl, trivial⟩ rfl ?_
  refine en <| sr <| ld11 Tn_34 0 rfl ?_
  obtain ⟨x3, hx3, h⟩ := bs h
  refine lp (p_call Fun_24 rfl (fun w1 hw => m_i_ExprOk_ok hw.fro N x2 hx3)) rfl <| la rfl <| en ?_
  refine cdh rfl h (fun c4 h => ?_) (fun c4 h => ?_)
  ·refine sr <| la rfl <| en ?_
   refine WT.ret Tryd.func31 (resOk.one rfl) (fun w1 hw => ?_)
   subst hb0
   cases h
   exact post_of_St hw
  refine WT.skip <| ib <| rgn <| la rfl <| la rfl <| en ?_
  exact lback (ih1 (IntKind.i64.wrap (s1 + 1)) h) ⟨rfl, rfl, rfl, trivial⟩ (fun w1 hw => (hw.sel (js := []) rfl).selO (js := []) rfl)
 refine xt rfl <| sr <| la rfl <| en ?_
 refine WT.ret Tryd.func31 (resOk.one rfl) (fun w1 hw => ?_)
 subst hb0
 cases h
 exact post_of_St hw
theorem m_i_isUndo_ok {Φ : Hp} {w : World} (hΦ : In Φ w) (N : Nat) (p0 : ByteArray)   {r : Bool} (h : m_i_isUndo N p0 = some r) :
  Calls Tryd.prog 33 [.string p0].toArray w (Post (.bool r) w) := by
 refine enter Tryd.func33 rfl Tryd.ntmps33 rfl (St.start0 hΦ) ?_
 unfold m_i_isUndo at h
 refine sr <| la rfl <| en <| sr <| la rfl <| la rfl <| la rfl ?_
 obtain ⟨b1, hb_1, h⟩ := bs h
 refine WL.cutN 3 [(8, .bool b1), (2, .bool false)] ?_ (fun K => ?_)
 rotate_left
 ·refine spl 5 rfl hb_1 (fun c1 hb_1 => ?_) (fun c1 hb_1 => ?_)
  ·refine la rfl <| la rfl <| la rfl ?_
   cases hb_1
   exact kk K ⟨rfl, rfl, trivial⟩
  ·refine ly rfl rfl <| la rfl <| ly rfl rfl ?_
   obtain ⟨x1, hx1, hb_1⟩ := bs hb_1
   refine lp (p_call Fun_56 rfl (fun w1 hw => m_i_NameOk_ok hw.fro N p0 hx1)) rfl <| la rfl ?_
   cases hb_1
   exact kk K ⟨rfl, rfl, trivial⟩
 refine la rfl <| en ?_
 refine WT.ret Tryd.func33 (resOk.one rfl) (fun w1 hw => ?_)
 cases h
 exact post_of_St hw
theorem m_i_ActOk_ok {Φ : Hp} {w : World} (hΦ : In Φ w) (N : Nat) (p0 : TAct) {pv0_0 : Value} {pG0_0 : List Nat} (ph0_0 : RSl RTExpr 11 Φ pG0_0 pv0_0 p0.Args) {r : Bool} (h : m_i_ActOk N p0 = some r) :
  Calls Tryd.prog 14 [.agg [.int .i64 p0.Kind, .string p0.Name, pv0_0, .int .i64 p0.N, .string p0.Undo].toArray].toArray w (Post (.bool r) w) := by
 refine enter Tryd.func14 rfl Tryd.ntmps14 rfl (St.start0 hΦ) ?_
 generalize hb0 : (⟨w, [], Φ⟩ : Base) = w0
 unfold m_i_ActOk at h
 refine sr ?_
 refine ln (nb rfl) rfl (fun b_1 => ?_)
 refine la rfl <| en <| sr <| lf Fld_41_1 rfl rfl rfl <| lo T1_9 0 rfl <| la rfl <| la rfl ?_
 obtain ⟨b1, hb_1, h⟩ := bs h
 refine WL.cutN 5 [(12, .bool b1), (1, .pointer (some ⟨b_1, 0, none⟩))] ?_ (fun K => ?_)
 rotate_left
 ·refine spl 7 rfl hb_1 (fun c1 hb_1 => ?_) (fun c1 hb_1 => ?_)
  ·refine ly rfl rfl <| lf Fld_41_2 rfl rfl rfl <| ly rfl rfl <| lo T1_39 0 rfl <| ly rfl rfl <| lq (q_lenR Sl_39 rfl rfl ph0_0) rfl <| ly rfl rfl <| la rfl <| la rfl ?_
   cases hb_1
   exact kk K ⟨rfl, rfl, trivial⟩
  ·refine la rfl <| la rfl <| la rfl <| la rfl <| la rfl ?_
   cases hb_1
   exact kk K ⟨rfl, rfl, trivial⟩
 refine la rfl <| en <| sq <| sr <| lf Fld_41_0 rfl rfl rfl <| lo T1_3 0 rfl <| en <| blk <| sr <| la rfl <| la rfl <| en ?_
 refine cdh rfl h (fun c2 h => ?_) (fun c2 h => ?_)
 ·refine sr <| ld5 Tn_41 0 rfl ?_
  obtain ⟨x1, hx1, h⟩ := bs h
  refine lp (p_call Fun_31 rfl (fun w1 hw => m_i_argsOk_ok hw.fro N p0 ph0_0 hx1)) rfl <| la rfl ?_
  obtain ⟨b2, hb_2, h⟩ := bs h
  refine WL.cutN 4 [(23, .bool b2), (1, .pointer (some ⟨b_1, 0, none⟩))] ?_ (fun K => ?_)
  rotate_left
  ·refine spl 19 rfl hb_2 (fun c3 hb_2 => ?_) (fun c3 hb_2 => ?_)
   ·refine ly rfl rfl <| lf Fld_41_3 rfl rfl rfl <| ly rfl rfl <| lo T1_3 0 rfl <| ly rfl rfl <| la rfl <| la rfl ?_
    cases hb_2
    exact kk K ⟨rfl, rfl, trivial⟩
   ·refine la rfl <| la rfl <| la rfl <| la rfl ?_
    cases hb_2
    exact kk K ⟨rfl, rfl, trivial⟩
  refine la rfl ?_
  obtain ⟨b3, hb_3, h⟩ := bs h
  refine WL.cutN 4 [(28, .bool b3)] ?_ (fun K => ?_)
  rotate_left
  ·refine spl 24 rfl hb_3 (fun c4 hb_3 => ?_) (fun c4 hb_3 => ?_)
   ·refine ly rfl rfl <| lf Fld_41_4 rfl rfl rfl <| ly rfl rfl <| lo T1_9 0 rfl <| ly rfl rfl <| la rfl <| la rfl ?_
    cases hb_3
    exact kk K ⟨rfl, trivial⟩
   ·refine la rfl <| la rfl <| la rfl <| la rfl ?_
    cases hb_3
    exact kk K ⟨rfl, trivial⟩
  refine la rfl <| en ?_
  refine WT.ret Tryd.func14 (resOk.one rfl) (fun w1 hw => ?_)
  subst hb0
  cases h
  exact post_of_St hw
 refine sr <| la rfl <| la rfl <| en ?_
 refine cdh rfl h (fun c5 h => ?_) (fun c5 h => ?_)
 ·refine sr <| la rfl <| la rfl ?_
  obtain ⟨b4, hb_4, h⟩ := bs h
  refine WL.cutN 4 [(36, .bool b4), (1, .pointer (some ⟨b_1, 0, none⟩))] ?_ (fun K => ?_)
  rotate_left
  ·refine spl 32 rfl hb_4 (fun c6 hb_4 => ?_) (fun c6 hb_4 => ?_)
   ·refine ly rfl rfl <| lf Fld_41_3 rfl rfl rfl <| ly rfl rfl <| lo T1_3 0 rfl <| ly rfl rfl ?_
    obtain ⟨x2, hx2, hb_4⟩ := bs hb_4
    refine lp (p_call Fun_32 rfl (fun w1 hw => m_i_inRange_ok hw.fro N p0.N 0 7 hx2)) rfl <| la rfl ?_
    cases hb_4
    exact kk K ⟨rfl, rfl, trivial⟩
   ·refine la rfl <| la rfl <| la rfl <| la rfl ?_
    cases hb_4
    exact kk K ⟨rfl, rfl, trivial⟩
  refine la rfl ?_
  obtain ⟨b5, hb_5, h⟩ := bs h
  refine WL.cutN 4 [(41, .bool b5)] ?_ (fun K => ?_)
  rotate_left
  ·refine spl 37 rfl hb_5 (fun c7 hb_5 => ?_) (fun c7 hb_5 => ?_)
   ·refine ly rfl rfl <| lf Fld_41_4 rfl rfl rfl <| ly rfl rfl <| lo T1_9 0 rfl <| ly rfl rfl <| la rfl <| la rfl ?_
    cases hb_5
    exact kk K ⟨rfl, trivial⟩
   ·refine la rfl <| la rfl <| la rfl <| la rfl ?_
    cases hb_5
    exact kk K ⟨rfl, trivial⟩
  refine la rfl <| en ?_
  refine WT.ret Tryd.func14 (resOk.one rfl) (fun w1 hw => ?_)
  subst hb0
  cases h
  exact post_of_St hw
 refine sr <| la rfl <| la rfl <| en ?_
 refine cdh rfl h (fun c8 h => ?_) (fun c8 h => ?_)
 ·refine sr <| ld5 Tn_41 0 rfl ?_
  obtain ⟨x3, hx3, h⟩ := bs h
  refine lp (p_call Fun_31 rfl (fun w1 hw => m_i_argsOk_ok hw.fro N p0 ph0_0 hx3)) rfl <| la rfl ?_
  obtain ⟨b6, hb_6, h⟩ := bs h
  refine WL.cutN 4 [(50, .bool b6), (1, .pointer (some ⟨b_1, 0, none⟩))] ?_ (fun K => ?_)
  rotate_left
  ·refine spl 46 rfl hb_6 (fun c9 hb_6 => ?_) (fun c9 hb_6 => ?_)
   ·refine ly rfl rfl <| lf Fld_41_3 rfl rfl rfl <| ly rfl rfl <| lo T1_3 0 rfl <| ly rfl rfl <| la rfl <| la rfl ?_
    cases hb_6
    exact kk K ⟨rfl, rfl, trivial⟩
   ·refine la rfl <| la rfl <| la rfl <| la rfl ?_
    cases hb_6
    exact kk K ⟨rfl, rfl, trivial⟩
  refine la rfl ?_
  obtain ⟨b7, hb_7, h⟩ := bs h
  refine WL.cutN 4 [(55, .bool b7)] ?_ (fun K => ?_)
  rotate_left
  ·refine spl 51 rfl hb_7 (fun c10 hb_7 => ?_) (fun c10 hb_7 => ?_)
   ·refine ly rfl rfl <| lf Fld_41_4 rfl rfl rfl <| ly rfl rfl <| lo T1_9 0 rfl <| ly rfl rfl ?_
    obtain ⟨x4, hx4, hb_7⟩ := bs hb_7
    refine lp (p_call Fun_33 rfl (fun w1 hw => m_i_isUndo_ok hw.fro N p0.Undo hx4)) rfl <| la rfl ?_
    cases hb_7
    exact kk K ⟨rfl, trivial⟩
   ·refine la rfl <| la rfl <| la rfl <| la rfl ?_
    cases hb_7
    exact kk K ⟨rfl, trivial⟩
  refine la rfl <| en ?_
  refine WT.ret Tryd.func14 (resOk.one rfl) (fun w1 hw => ?_)
  subst hb0
  cases h
  exact post_of_St hw
 refine sr <| la rfl <| la rfl <| en ?_
 refine cdh rfl h (fun c11 h => ?_) (fun c11 h => ?_)
 ·refine sr <| ld5 Tn_41 0 rfl ?_
  obtain ⟨x5, hx5, h⟩ := bs h
  refine lp (p_call Fun_31 rfl (fun w1 hw => m_i_argsOk_ok hw.fro N p0 ph0_0 hx5)) rfl <| la rfl ?_
  obtain ⟨b8, hb_8, h⟩ := bs h
  refine WL.cutN 4 [(64, .bool b8), (1, .pointer (some ⟨b_1, 0, none⟩))] ?_ (fun K => ?_)
  rotate_left
  ·refine spl 60 rfl hb_8 (fun c12 hb_8 => ?_) (fun c12 hb_8 => ?_)
   ·refine ly rfl rfl <| lf Fld_41_3 rfl rfl rfl <| ly rfl rfl <| lo T1_3 0 rfl <| ly rfl rfl ?_
    obtain ⟨x6, hx6, hb_8⟩ := bs hb_8
    refine lp (p_call Fun_32 rfl (fun w1 hw => m_i_inRange_ok hw.fro N p0.N 0 100000 hx6)) rfl <| la rfl ?_
    cases hb_8
    exact kk K ⟨rfl, rfl, trivial⟩
   ·refine la rfl <| la rfl <| la rfl <| la rfl ?_
    cases hb_8
    exact kk K ⟨rfl, rfl, trivial⟩
  refine la rfl ?_
  obtain ⟨b9, hb_9, h⟩ := bs h
  refine WL.cutN 4 [(69, .bool b9)] ?_ (fun K => ?_)
  rotate_left
  ·refine spl 65 rfl hb_9 (fun c13 hb_9 => ?_) (fun c13 hb_9 => ?_)
   ·refine ly rfl rfl <| lf Fld_41_4 rfl rfl rfl <| ly rfl rfl <| lo T1_9 0 rfl <| ly rfl rfl <| la rfl <| la rfl ?_
    cases hb_9
    exact kk K ⟨rfl, trivial⟩
   ·refine la rfl <| la rfl <| la rfl <| la rfl ?_
    cases hb_9
    exact kk K ⟨rfl, trivial⟩
  refine la rfl <| en ?_
  refine WT.ret Tryd.func14 (resOk.one rfl) (fun w1 hw => ?_)
  subst hb0
  cases h
  exact post_of_St hw
 refine sq <| sr <| la rfl <| la rfl <| en ?_
 refine cut (σ := Bool) (fun s => [(1, .pointer (some ⟨b_1, 0, none⟩)), (3, .bool b1), (70, .bool s)]) (fun s => St w0 Φ [(b_1, .cells #[.int .i64 p0.Kind, .string p0.Name, pv0_0, .int .i64 p0.N, .string p0.Undo] 41 (0, 0))] []) (fun s => m_i_ActOk_j1 N p0 b1 s = some r) (fun s hm => ?_) (fun K => ?_)
 ·clear h
  revert hm; revert s; intro s1 hm
  have h : m_i_ActOk_j1 N p0 b1 s1 = some r := hm
  show WT _ _ [(1, .pointer (some ⟨b_1, 0, none⟩)), (3, .bool b1), (70, .bool s1)] (St w0 Φ [(b_1, .cells #[.int .i64 p0.Kind, .string p0.Name, pv0_0, .int .i64 p0.N, .string p0.Undo] 41 (0, 0))] [])
  unfold m_i_ActOk_j1 at h
  refine cdh rfl h (fun c14 h => ?_) (fun c14 h => ?_)
  ·refine sr <| la rfl <| la rfl ?_
   obtain ⟨b10, hb_10, h⟩ := bs h
   refine WL.cutN 4 [(78, .bool b10), (1, .pointer (some ⟨b_1, 0, none⟩))] ?_ (fun K => ?_)
   rotate_left
   ·refine spl 74 rfl hb_10 (fun c15 hb_10 => ?_) (fun c15 hb_10 => ?_)
    ·refine ly rfl rfl <| lf Fld_41_3 rfl rfl rfl <| ly rfl rfl <| lo T1_3 0 rfl <| ly rfl rfl <| la rfl <| la rfl ?_
     cases hb_10
     exact kk K ⟨rfl, rfl, trivial⟩
    ·refine la rfl <| la rfl <| la rfl <| la rfl ?_
     cases hb_10
     exact kk K ⟨rfl, rfl, trivial⟩
   refine la rfl ?_
   obtain ⟨b11, hb_11, h⟩ := bs h
   refine WL.cutN 4 [(83, .bool b11)] ?_ (fun K => ?_)
   rotate_left
   ·refine spl 79 rfl hb_11 (fun c16 hb_11 => ?_) (fun c16 hb_11 => ?_)
    ·refine ly rfl rfl <| lf Fld_41_4 rfl rfl rfl <| ly rfl rfl <| lo T1_9 0 rfl <| ly rfl rfl <| la rfl <| la rfl ?_
     cases hb_11
     exact kk K ⟨rfl, trivial⟩
    ·refine la rfl <| la rfl <| la rfl <| la rfl ?_
     cases hb_11
     exact kk K ⟨rfl, trivial⟩
   refine la rfl <| en ?_
   refine WT.ret Tryd.func14 (resOk.one rfl) (fun w1 hw => ?_)
   subst hb0
   cases h
   exact post_of_St hw
  refine WT.skip <| ib <| sr <| la rfl <| en ?_
  refine WT.ret Tryd.func14 (resOk.one rfl) (fun w1 hw => ?_)
  subst hb0
  cases h
  exact post_of_St hw
 refine cdh rfl h (fun c17 h => ?_) (fun c17 h => ?_)
 ·refine WT.skip ?_
  exact wto (K (decide (p0.Kind = 5)) h) ⟨rfl, rfl, rfl, trivial⟩ (fun w1 hw => (hw.sel (js := []) rfl).selO (js := [0]) rfl)
 refine rgn <| la rfl <| la rfl <| en ?_
 exact wto (K (decide (p0.Kind = 6)) h) ⟨rfl, rfl, rfl, trivial⟩ (fun w1 hw => (hw.sel (js := []) rfl).selO (js := [0]) rfl)
theorem m_i_callText_ok {Φ : Hp} {w : World} (hΦ : In Φ w) (N : Nat) (p0 : TAct) {pv0_0 : Value} {pG0_0 : List Nat} (hT : Tab Φ) (ph0_0 : RSl RTExpr 11 Φ pG0_0 pv0_0 p0.Args) {r : ByteArray} (h : m_i_callText N p0 = some r) :
  Calls Tryd.prog 29 [.agg [.int .i64 p0.Kind, .string p0.Name, pv0_0, .int .i64 p0.N, .string p0.Undo].toArray].toArray w (Post (.string r) w) := by
 refine enter Tryd.func29 rfl Tryd.ntmps29 rfl (St.start0 hΦ) ?_
 have pa0_0 := Old.mk hΦ ph0_0.kn (Dj.empty _)
 revert pa0_0
 generalize hb0 : (⟨w, [], Φ⟩ : Base) = w0
 intro pa0_0
 unfold m_i_callText at h
 refine sr ?_
 refine ln (nb rfl) rfl (fun b_1 => ?_)
 refine la rfl <| en <| sr <| la rfl <| en <| sq <| sr <| lf Fld_41_2 rfl rfl rfl <| lo T1_39 0 rfl <| lq (q_lenR Sl_39 rfl rfl ph0_0) rfl <| la rfl <| en <| blk <| WT.loop <| WT.conv (S' := St w0 Φ [(b_1, .cells #[.int .i64 p0.Kind, .string p0.Name, pv0_0, .int .i64 p0.N, .string p0.Undo] 41 (0, 0))] (ob (.slice none 0 0) :: [])) (fun w1 hw => hw.addNil) ?_
 have k1 := OSl.nil RS 9 1 Φ
 refine WT.mono (l' := [(1, .pointer (some ⟨b_1, 0, none⟩)), (3, (.slice none 0 0)), (7, pv0_0), (8, .int .i64 (p0.Args.length : Int)), (9, .int .i64 0)]) (S' := St w0 Φ [(b_1, .cells #[.int .i64 p0.Kind, .string p0.Name, pv0_0, .int .i64 p0.N, .string p0.Undo] 41 (0, 0))] [ob (.slice none 0 0)]) ⟨rfl, rfl, rfl, rfl, rfl, trivial⟩ (fun w1 hw => (hw.sel (js := [0]) rfl).selO (js := [0]) rfl) ?_
 refine loop_ind (σ := Hp × (List ByteArray) × Value × Int) (fun s => [(1, .pointer (some ⟨b_1, 0, none⟩)), (3, s.2.2.1), (7, pv0_0), (8, .int .i64 (p0.Args.length : Int)), (9, .int .i64 s.2.2.2)]) (fun s => St w0 s.1 [(b_1, .cells #[.int .i64 p0.Kind, .string p0.Name, pv0_0, .int .i64 p0.N, .string p0.Undo] 41 (0, 0))] [ob s.2.2.1]) (fun m s => m_i_callText_l1 N p0 m s.2.1 s.2.2.2 = some r ∧ (OSl RS 9 1 s.1 [] s.2.2.1 s.2.1) ∧ (RSl RTExpr 11 s.1 pG0_0 pv0_0 p0.Args)) (fun s hm => none_ne (show (none : Option (ByteArray)) = some r from hm.1)) (fun n1 ih1 s hm => ?_) N (Φ, ([] : List ByteArray), (.slice none 0 0), 0) ⟨h, k1, ph0_0⟩
 obtain ⟨Φ_1, s1, u1, s2⟩ := s
 obtain ⟨h, k2, ph0_0⟩ := hm
 dsimp only at h k2 ph0_0 ⊢
 unfold m_i_callText_l1 at h
 refine sr <| la rfl <| en <| sq ?_
 refine cdh rfl h (fun c1 h => ?_) (fun c1 h => ?_)
 ·refine WT.skip <| sq <| blk <| sr ?_
  obtain ⟨x1, hx1, h⟩ := bs h
  obtain ⟨cs1, F1, -, g1, hb1, hs1, r1⟩ := ph0_0.el (idx_some hx1).2.2
  obtain ⟨rfl, -⟩ := r1
  refine lq (q_indexAddr Sl_39 rfl rfl ph0_0 hx1) rfl <| lg11 0 Tn_34 g1 rfl rfl ?_
  refine ln (nz Zr_34) rfl (fun b_2 => ?_)
  refine soN 0 Sz_34 rfl ⟨rfl, rfl, rfl, rfl, rfl, rfl, rfl, rfl, rfl, rfl, rfl, trivial⟩ rfl ?_
  refine en <| rgn <| la rfl <| ld11 Tn_34 0 rfl ?_
  obtain ⟨x2, hx2, h⟩ := bs h
  refine lp (p_call Fun_9 rfl (fun w1 hw => m_i_ExprText_ok hw.fro N x1 (hT.fr (by subst hb0; exact hw.frB hΦ)) hx2)) rfl ?_
  have rc1 : RC RS 1 Φ_1 ([[]] : List (List Nat)) [.string x2] ([x2] : List ByteArray) := RC.cons (c := [.string x2]) (cells := []) ⟨rfl, rfl⟩ rfl (RC.nil _ _ _)
  refine le' (e_lit (vs := [(0, .string x2)]) (C := #[.string x2]) RS.lasts Sl_76 Zr_9 rfl rfl rfl rfl (fill_made MC_9_1 (fill_cons (C' := [.string x2]) rfl rfl rfl rfl rfl (fill_nil))) rfl rc1 rfl (by simpa using Kw.nil)) rfl (fun v1 Φ_2 D1 q1 => ?_)
  obtain ⟨fr1, h1⟩ := q1
  replace h1 : OSl RS 9 1 Φ_2 [] v1 ([x2] : List ByteArray) := by simpa using h1
  replace ph0_0 := ph0_0.frame RTExpr.lasts fr1 (Dj.empty _)
  replace k2 := k2.frame RS.lasts fr1 (Dj.empty _) (Dj.empty _)
  obtain ⟨x3, hx3, h⟩ := bs h
  refine le' (e_appF RS.lasts RS.one RS.flat Sl_76 Ei_9 rfl rfl rfl rfl rfl (js := [1]) (Rr := [ob v1]) rfl k2 h1.rsl hx3) rfl (fun v2 Φ_3 D2 q2 => ?_)
  obtain ⟨⟨ap1, fr2⟩, h2⟩ := q2
  replace ph0_0 := ph0_0.frame RTExpr.lasts fr2 (ap1.o pa0_0)
  refine la rfl <| en <| ib <| rgn <| la rfl <| la rfl <| en ?_
  exact lback (ih1 (Φ_3, x3, v2, IntKind.i64.wrap (s2 + 1)) ⟨h, h2, ph0_0⟩) ⟨rfl, rfl, rfl, rfl, rfl, trivial⟩ (fun w1 hw => (hw.sel (js := [0]) rfl).selO (js := [1]) rfl)
 refine xt rfl <| sq <| WT.draw mixed (by kernel_rfl) (fun _ h => h.drew) <| qq (q_fieldAddr Fld_41_1 rfl) rfl <| qq (q_load1 T1_9 rfl (fun w1 hw => hw.rgO (i := 0) rfl 1 1 [.string p0.Name] rfl)) rfl ?_
 obtain ⟨z1, hz1, h⟩ := bs h
 refine qq (q_cat rfl rfl hz1) rfl <| qq (q_move rfl) rfl ?_
 obtain ⟨x4, hx4, h⟩ := bs h
 refine qp (p_call Fun_54 rfl (fun w1 hw => m_strings_Join_ok hw.fro N s1 (⟨#[44, 32]⟩ : ByteArray) k2.rsl hx4)) rfl ?_
 obtain ⟨z2, hz2, h⟩ := bs h
 refine qq (q_cat rfl rfl hz2) rfl ?_
 obtain ⟨z3, hz3, h⟩ := bs h
 refine qq (q_cat rfl rfl hz3) rfl <| qq (q_assign rfl) rfl <| WQ.nil ?_
 refine WT.ret Tryd.func29 (resOk.one rfl) (fun w1 hw => ?_)
 subst hb0
 cases h
 exact post_of_St hw
theorem m_i_ActText_ok {Φ : Hp} {w : World} (hΦ : In Φ w) (N : Nat) (p0 : TAct) {pv0_0 : Value} {pG0_0 : List Nat} (hT : Tab Φ) (ph0_0 : RSl RTExpr 11 Φ pG0_0 pv0_0 p0.Args) {r : ByteArray} (h : m_i_ActText N p0 = some r) :
  Calls Tryd.prog 13 [.agg [.int .i64 p0.Kind, .string p0.Name, pv0_0, .int .i64 p0.N, .string p0.Undo].toArray].toArray w (Post (.string r) w) := by
 refine enter Tryd.func13 rfl Tryd.ntmps13 rfl (St.start0 hΦ) ?_
 generalize hb0 : (⟨w, [], Φ⟩ : Base) = w0
 unfold m_i_ActText at h
 refine sr ?_
 refine ln (nb rfl) rfl (fun b_1 => ?_)
 refine la rfl <| en <| sq <| sr <| ld5 Tn_41 0 rfl ?_
 obtain ⟨x1, hx1, h⟩ := bs h
 refine lp (p_call Fun_14 rfl (fun w1 hw => m_i_ActOk_ok hw.fro N p0 ph0_0 hx1)) rfl <| la rfl <| en ?_
 refine cdh rfl h (fun c1 h => ?_) (fun c1 h => ?_)
 ·refine sr <| la rfl <| en ?_
  refine WT.ret Tryd.func13 (resOk.one rfl) (fun w1 hw => ?_)
  subst hb0
  cases h
  exact post_of_St hw
 refine WT.skip <| sq <| sr <| lf Fld_41_0 rfl rfl rfl <| lo T1_3 0 rfl <| en <| blk <| sr <| la rfl <| la rfl <| en ?_
 refine cdh rfl h (fun c2 h => ?_) (fun c2 h => ?_)
 ·refine sr <| ld5 Tn_41 0 rfl ?_
  obtain ⟨x2, hx2, h⟩ := bs h
  refine lp (p_call Fun_29 rfl (fun w1 hw => m_i_callText_ok hw.fro N p0 (hT.fr (by subst hb0; exact hw.frB hΦ)) ph0_0 hx2)) rfl ?_
  obtain ⟨z1, hz1, h⟩ := bs h
  refine lq (q_cat rfl rfl hz1) rfl <| la rfl <| en ?_
  refine WT.ret Tryd.func13 (resOk.one rfl) (fun w1 hw => ?_)
  subst hb0
  cases h
  exact post_of_St hw
 refine sr <| la rfl <| la rfl <| en ?_
 refine cdh rfl h (fun c3 h => ?_) (fun c3 h => ?_)
 ·refine sr <| lf Fld_41_3 rfl rfl rfl <| lo T1_3 0 rfl ?_
  obtain ⟨x3, hx3, h⟩ := bs h
  refine lp (p_call Fun_30 rfl (fun w1 hw => m_strconv_Itoa_ok hw.fro N p0.N (hT.fr (by subst hb0; exact hw.frB hΦ)) hx3)) rfl ?_
  obtain ⟨z2, hz2, h⟩ := bs h
  refine lq (q_cat rfl rfl hz2) rfl <| la rfl <| en ?_
  refine WT.ret Tryd.func13 (resOk.one rfl) (fun w1 hw => ?_)
  subst hb0
  cases h
  exact post_of_St hw
 refine sr <| la rfl <| la rfl <| en ?_
 refine cdh rfl h (fun c4 h => ?_) (fun c4 h => ?_)
 ·refine sq <| sr <| lf Fld_41_4 rfl rfl rfl <| lo T1_9 0 rfl <| la rfl <| en ?_
  refine cdh rfl h (fun c5 h => ?_) (fun c5 h => ?_)
  ·refine sq <| WT.draw mixed (by kernel_rfl) (fun _ h => h.drew) <| qq (q_loadN Tn_41 rfl (fun w1 hw => hw.rgO (i := 0) rfl 0 5 [.int .i64 p0.Kind, .string p0.Name, pv0_0, .int .i64 p0.N, .string p0.Undo] rfl) rfl) rfl ?_
   obtain ⟨x4, hx4, h⟩ := bs h
   refine qp (p_call Fun_29 rfl (fun w1 hw => m_i_callText_ok hw.fro N p0 (hT.fr (by subst hb0; exact hw.frB hΦ)) ph0_0 hx4)) rfl ?_
   obtain ⟨z3, hz3, h⟩ := bs h
   refine qq (q_cat rfl rfl hz3) rfl ?_
   obtain ⟨z4, hz4, h⟩ := bs h
   refine qq (q_cat rfl rfl hz4) rfl <| qq (q_fieldAddr Fld_41_4 rfl) rfl <| qq (q_load1 T1_9 rfl (fun w1 hw => hw.rgO (i := 0) rfl 4 1 [.string p0.Undo] rfl)) rfl ?_
   obtain ⟨z5, hz5, h⟩ := bs h
   refine qq (q_cat rfl rfl hz5) rfl <| qq (q_assign rfl) rfl <| WQ.nil ?_
   refine WT.ret Tryd.func13 (resOk.one rfl) (fun w1 hw => ?_)
   subst hb0
   cases h
   exact post_of_St hw
  refine WT.skip <| sr <| ld5 Tn_41 0 rfl ?_
  obtain ⟨x5, hx5, h⟩ := bs h
  refine lp (p_call Fun_29 rfl (fun w1 hw => m_i_callText_ok hw.fro N p0 (hT.fr (by subst hb0; exact hw.frB hΦ)) ph0_0 hx5)) rfl ?_
  obtain ⟨z6, hz6, h⟩ := bs h
  refine lq (q_cat rfl rfl hz6) rfl <| la rfl <| en ?_
  refine WT.ret Tryd.func13 (resOk.one rfl) (fun w1 hw => ?_)
  subst hb0
  cases h
  exact post_of_St hw
 refine sr <| la rfl <| la rfl <| en ?_
 refine cdh rfl h (fun c6 h => ?_) (fun c6 h => ?_)
 ·refine sq <| WT.draw mixed (by kernel_rfl) (fun _ h => h.drew) <| qq (q_fieldAddr Fld_41_3 rfl) rfl <| qq (q_load1 T1_3 rfl (fun w1 hw => hw.rgO (i := 0) rfl 3 1 [.int .i64 p0.N] rfl)) rfl ?_
  obtain ⟨x6, hx6, h⟩ := bs h
  refine qp (p_call Fun_30 rfl (fun w1 hw => m_strconv_Itoa_ok hw.fro N p0.N (hT.fr (by subst hb0; exact hw.frB hΦ)) hx6)) rfl ?_
  obtain ⟨z7, hz7, h⟩ := bs h
  refine qq (q_cat rfl rfl hz7) rfl ?_
  obtain ⟨z8, hz8, h⟩ := bs h
  refine qq (q_cat rfl rfl hz8) rfl <| qq (q_loadN Tn_41 rfl (fun w1 hw => hw.rgO (i := 0) rfl 0 5 [.int .i64 p0.Kind, .string p0.Name, pv0_0, .int .i64 p0.N, .string p0.Undo] rfl) rfl) rfl ?_
  obtain ⟨x7, hx7, h⟩ := bs h
  refine qp (p_call Fun_29 rfl (fun w1 hw => m_i_callText_ok hw.fro N p0 (hT.fr (by subst hb0; exact hw.frB hΦ)) ph0_0 hx7)) rfl ?_
  obtain ⟨z9, hz9, h⟩ := bs h
  refine qq (q_cat rfl rfl hz9) rfl <| qq (q_assign rfl) rfl <| WQ.nil ?_
  refine WT.ret Tryd.func13 (resOk.one rfl) (fun w1 hw => ?_)
  subst hb0
  cases h
  exact post_of_St hw
 refine sr <| la rfl <| la rfl <| en ?_
 refine cdh rfl h (fun c7 h => ?_) (fun c7 h => ?_)
 ·refine sr <| la rfl <| en ?_
  refine WT.ret Tryd.func13 (resOk.one rfl) (fun w1 hw => ?_)
  subst hb0
  cases h
  exact post_of_St hw
 refine WT.skip <| ib <| sr <| la rfl <| en ?_
 refine WT.ret Tryd.func13 (resOk.one rfl) (fun w1 hw => ?_)
 subst hb0
 cases h
 exact post_of_St hw
theorem m_s_l1In_ok {Φ : Hp} {w : World} (hΦ : In Φ w) (N : Nat) (p0 : Int) (p1 : Int) (p2 : Int)   {r : Bool} (h : m_s_l1In N p0 p1 p2 = some r) :
  Calls Tryd.prog 36 [.int .i64 p0, .int .i64 p1, .int .i64 p2].toArray w (Post (.bool r) w) := by
 refine enter Tryd.func36 rfl Tryd.ntmps36 rfl (St.start0 hΦ) ?_
 unfold m_s_l1In at h
 refine sr <| la rfl <| en <| sr <| la rfl <| la rfl <| la rfl <| la rfl ?_
 obtain ⟨b1, hb_1, h⟩ := bs h
 refine WL.cutN 4 [(14, .bool b1), (6, .bool false)] ?_ (fun K => ?_)
 rotate_left
 ·refine spl 10 rfl hb_1 (fun c1 hb_1 => ?_) (fun c1 hb_1 => ?_)
  ·refine ly rfl rfl <| la rfl <| ly rfl rfl <| la rfl <| ly rfl rfl <| la rfl <| la rfl ?_
   cases hb_1
   exact kk K ⟨rfl, rfl, trivial⟩
  ·refine la rfl <| la rfl <| la rfl <| la rfl ?_
   cases hb_1
   exact kk K ⟨rfl, rfl, trivial⟩
 refine la rfl <| en ?_
 refine WT.ret Tryd.func36 (resOk.one rfl) (fun w1 hw => ?_)
 cases h
 exact post_of_St hw
theorem m_s_l1Letter_ok {Φ : Hp} {w : World} (hΦ : In Φ w) (N : Nat) (p0 : Int)   {r : Bool} (h : m_s_l1Letter N p0 = some r) :
  Calls Tryd.prog 57 [.int .u8 p0].toArray w (Post (.bool r) w) := by
 refine enter Tryd.func57 rfl Tryd.ntmps57 rfl (St.start0 hΦ) ?_
 unfold m_s_l1Letter at h
 refine sr <| la rfl <| en <| sr <| la rfl <| lq (q_convI Ik_5 Ik_3 rfl) rfl ?_
 obtain ⟨x1, hx1, h⟩ := bs h
 refine lp (p_call Fun_36 rfl (fun w1 hw => m_s_l1In_ok hw.fro N (IntKind.i64.wrap p0) 97 122 hx1)) rfl <| la rfl ?_
 obtain ⟨b1, hb_1, h⟩ := bs h
 refine WL.cutN 4 [(10, .bool b1), (0, .int .u8 p0), (2, .bool false)] ?_ (fun K => ?_)
 rotate_left
 ·refine spl 6 rfl hb_1 (fun c1 hb_1 => ?_) (fun c1 hb_1 => ?_)
  ·refine la rfl <| la rfl <| la rfl <| la rfl ?_
   cases hb_1
   exact kk K ⟨rfl, rfl, rfl, trivial⟩
  ·refine ly rfl rfl <| la rfl <| ly rfl rfl <| lq (q_convI Ik_5 Ik_3 rfl) rfl <| ly rfl rfl ?_
   obtain ⟨x2, hx2, hb_1⟩ := bs hb_1
   refine lp (p_call Fun_36 rfl (fun w1 hw => m_s_l1In_ok hw.fro N (IntKind.i64.wrap p0) 48 57 hx2)) rfl <| la rfl ?_
   cases hb_1
   exact kk K ⟨rfl, rfl, rfl, trivial⟩
 refine la rfl ?_
 obtain ⟨b2, hb_2, h⟩ := bs h
 refine WL.cutN 3 [(14, .bool b2), (2, .bool false)] ?_ (fun K => ?_)
 rotate_left
 ·refine spl 11 rfl hb_2 (fun c2 hb_2 => ?_) (fun c2 hb_2 => ?_)
  ·refine la rfl <| la rfl <| la rfl ?_
   cases hb_2
   exact kk K ⟨rfl, rfl, trivial⟩
  ·refine ly rfl rfl <| la rfl <| ly rfl rfl <| la rfl <| la rfl ?_
   cases hb_2
   exact kk K ⟨rfl, rfl, trivial⟩
 refine la rfl <| en ?_
 refine WT.ret Tryd.func57 (resOk.one rfl) (fun w1 hw => ?_)
 cases h
 exact post_of_St hw
theorem m_s_NameOk_ok {Φ : Hp} {w : World} (hΦ : In Φ w) (N : Nat) (p0 : ByteArray)   {r : Bool} (h : m_s_NameOk N p0 = some r) :
  Calls Tryd.prog 34 [.string p0].toArray w (Post (.bool r) w) := by
 refine enter Tryd.func34 rfl Tryd.ntmps34 rfl (St.start0 hΦ) ?_
 generalize hb0 : (⟨w, [], Φ⟩ : Base) = w0
 unfold m_s_NameOk at h
 refine sr <| la rfl <| en <| sq <| sr <| la rfl <| en <| blk ?_
 refine loop_in (σ := Int) (fun s => [(0, .string p0), (3, .int .i64 s)]) (fun s => St w0 Φ [] []) (fun m s => m_s_NameOk_l1 N p0 m s = some r) (0) N h ⟨rfl, rfl, trivial⟩ (fun w1 hw => (hw.sel (js := []) rfl).selO (js := []) rfl) (fun s hm => none_ne hm) (fun n1 ih1 s hm => ?_)
 revert hm; revert s; intro s1 hm
 have h : m_s_NameOk_l1 N p0 (n1 + 1) s1 = some r := hm
 show WT _ _ [(0, .string p0), (3, .int .i64 s1)] (St w0 Φ [] [])
 unfold m_s_NameOk_l1 at h
 refine sq <| sr <| la rfl <| la rfl <| lq (q_lenS Str_9 rfl rfl) rfl <| la rfl <| en ?_
 refine cdh rfl h (fun c1 h => ?_) (fun c1 h => ?_)
 ·refine WT.skip <| sq <| blk <| sr <| la rfl <| la rfl ?_
  obtain ⟨y1, hy1, h⟩ := bs h
  refine lq (q_indexS Str_9 rfl rfl hy1) rfl ?_
  obtain ⟨x1, hx1, h⟩ := bs h
  refine lp (p_call Fun_57 rfl (fun w1 hw => m_s_l1Letter_ok hw.fro N (y1.toNat : Int) hx1)) rfl <| la rfl <| la rfl ?_
  obtain ⟨b1, hb_1, h⟩ := bs h
  refine WL.cutN 11 [(26, .bool b1), (0, .string p0), (3, .int .i64 s1)] ?_ (fun K => ?_)
  rotate_left
  ·refine spl 15 rfl hb_1 (fun c2 hb_1 => ?_) (fun c2 hb_1 => ?_)
   ·refine la rfl <| la rfl <| la rfl <| WL.nox rfl rfl rfl rfl <| WL.nox rfl rfl rfl rfl <| WL.nox rfl rfl rfl rfl <| WL.nox rfl rfl rfl rfl <| WL.nox rfl rfl rfl rfl <| WL.nox rfl rfl rfl rfl <| la rfl <| la rfl ?_
    cases hb_1
    exact kk K ⟨rfl, rfl, rfl, trivial⟩
   ·refine ly rfl rfl <| la rfl <| ly rfl rfl <| la rfl <| ly rfl rfl <| la rfl ?_
    obtain ⟨b2, hb_2, hb_1⟩ := bs hb_1
    refine WL.cutN 7 [(25, .bool b2), (0, .string p0), (3, .int .i64 s1), (15, .bool false)] ?_ (fun K => ?_)
    rotate_left
    ·refine spl 18 rfl hb_2 (fun c3 hb_2 => ?_) (fun c3 hb_2 => ?_)
     ·refine ly rfl rfl <| la rfl <| ly rfl rfl <| la rfl <| ly rfl rfl ?_
      obtain ⟨y2, hy2, hb_2⟩ := bs hb_2
      refine lq (q_indexS Str_9 rfl rfl hy2) rfl <| ly rfl rfl <| lq (q_convI Ik_5 Ik_3 rfl) rfl <| ly rfl rfl ?_
      obtain ⟨x2, hx2, hb_2⟩ := bs hb_2
      refine lp (p_call Fun_36 rfl (fun w1 hw => m_s_l1In_ok hw.fro N (IntKind.i64.wrap (y2.toNat : Int)) 97 122 hx2)) rfl <| ly rfl rfl <| la rfl <| ly rfl rfl <| la rfl ?_
      cases hb_2
      exact kk K ⟨rfl, rfl, rfl, rfl, trivial⟩
     ·refine la rfl <| la rfl <| la rfl <| la rfl <| la rfl <| la rfl <| ly rfl rfl <| la rfl ?_
      cases hb_2
      exact kk K ⟨rfl, rfl, rfl, rfl, trivial⟩
    refine la rfl ?_
    cases hb_1
    exact kk K ⟨rfl, rfl, rfl, trivial⟩
  refine en ?_
  refine cdh rfl h (fun c4 h => ?_) (fun c4 h => ?_)
  ·refine sr <| la rfl <| en ?_
   refine WT.ret Tryd.func34 (resOk.one rfl) (fun w1 hw => ?_)
   subst hb0
   cases h
   exact post_of_St hw
  refine WT.skip <| ib <| rgn <| la rfl <| la rfl <| la rfl <| en ?_
  exact lback (ih1 (IntKind.i64.wrap (s1 + 1)) h) ⟨rfl, rfl, trivial⟩ (fun w1 hw => (hw.sel (js := []) rfl).selO (js := []) rfl)
 refine xt rfl <| sr <| la rfl <| lq (q_lenS Str_9 rfl rfl) rfl ?_
 obtain ⟨x3, hx3, h⟩ := bs h
 refine lp (p_call Fun_36 rfl (fun w1 hw => m_s_l1In_ok hw.fro N (p0.size : Int) 1 12 hx3)) rfl <| la rfl <| en ?_
 refine WT.ret Tryd.func34 (resOk.one rfl) (fun w1 hw => ?_)
 subst hb0
 cases h
 exact post_of_St hw
theorem m_s_l5Large_ok {Φ : Hp} {w : World} (hΦ : In Φ w) (N : Nat) (p0 : Int)   {r : Bool} (h : m_s_l5Large N p0 = some r) :
  Calls Tryd.prog 85 [.int .u8 p0].toArray w (Post (.bool r) w) := by
 refine enter Tryd.func85 rfl Tryd.ntmps85 rfl (St.start0 hΦ) ?_
 unfold m_s_l5Large at h
 refine sr <| la rfl <| en <| sr <| la rfl <| lq (q_convI Ik_5 Ik_3 rfl) rfl ?_
 obtain ⟨x1, hx1, h⟩ := bs h
 refine lp (p_call Fun_36 rfl (fun w1 hw => m_s_l1In_ok hw.fro N (IntKind.i64.wrap p0) 65 90 hx1)) rfl <| la rfl <| en ?_
 refine WT.ret Tryd.func85 (resOk.one rfl) (fun w1 hw => ?_)
 cases h
 exact post_of_St hw
theorem m_s_l5VarOk_ok {Φ : Hp} {w : World} (hΦ : In Φ w) (N : Nat) (p0 : ByteArray)   {r : Bool} (h : m_s_l5VarOk N p0 = some r) :
  Calls Tryd.prog 74 [.string p0].toArray w (Post (.bool r) w) := by
 refine enter Tryd.func74 rfl Tryd.ntmps74 rfl (St.start0 hΦ) ?_
 generalize hb0 : (⟨w, [], Φ⟩ : Base) = w0
 unfold m_s_l5VarOk at h
 refine sr <| la rfl <| en <| sq <| sr <| la rfl <| en <| blk ?_
 refine loop_in (σ := Int) (fun s => [(0, .string p0), (3, .int .i64 s)]) (fun s => St w0 Φ [] []) (fun m s => m_s_l5VarOk_l1 N p0 m s = some r) (0) N h ⟨rfl, rfl, trivial⟩ (fun w1 hw => (hw.sel (js := []) rfl).selO (js := []) rfl) (fun s hm => none_ne hm) (fun n1 ih1 s hm => ?_)
 revert hm; revert s; intro s1 hm
 have h : m_s_l5VarOk_l1 N p0 (n1 + 1) s1 = some r := hm
 show WT _ _ [(0, .string p0), (3, .int .i64 s1)] (St w0 Φ [] [])
 unfold m_s_l5VarOk_l1 at h
 refine sq <| sr <| la rfl <| la rfl <| lq (q_lenS Str_9 rfl rfl) rfl <| la rfl <| en ?_
 refine cdh rfl h (fun c1 h => ?_) (fun c1 h => ?_)
 ·refine WT.skip <| sq <| blk <| sr <| la rfl <| la rfl ?_
  obtain ⟨y1, hy1, h⟩ := bs h
  refine lq (q_indexS Str_9 rfl rfl hy1) rfl ?_
  obtain ⟨x1, hx1, h⟩ := bs h
  refine lp (p_call Fun_85 rfl (fun w1 hw => m_s_l5Large_ok hw.fro N (y1.toNat : Int) hx1)) rfl <| la rfl <| la rfl ?_
  obtain ⟨b1, hb_1, h⟩ := bs h
  refine WL.cutN 10 [(25, .bool b1), (0, .string p0), (3, .int .i64 s1)] ?_ (fun K => ?_)
  rotate_left
  ·refine spl 15 rfl hb_1 (fun c2 hb_1 => ?_) (fun c2 hb_1 => ?_)
   ·refine ly rfl rfl <| la rfl <| ly rfl rfl <| la rfl <| ly rfl rfl <| la rfl ?_
    obtain ⟨b2, hb_2, hb_1⟩ := bs hb_1
    refine WL.cutN 6 [(24, .bool b2), (0, .string p0), (3, .int .i64 s1), (15, .bool true)] ?_ (fun K => ?_)
    rotate_left
    ·refine spl 18 rfl hb_2 (fun c3 hb_2 => ?_) (fun c3 hb_2 => ?_)
     ·refine la rfl <| la rfl <| la rfl <| la rfl <| la rfl <| ly rfl rfl <| la rfl ?_
      cases hb_2
      exact kk K ⟨rfl, rfl, rfl, rfl, trivial⟩
     ·refine ly rfl rfl <| la rfl <| ly rfl rfl <| la rfl <| ly rfl rfl ?_
      obtain ⟨y2, hy2, hb_2⟩ := bs hb_2
      refine lq (q_indexS Str_9 rfl rfl hy2) rfl <| ly rfl rfl ?_
      obtain ⟨x2, hx2, hb_2⟩ := bs hb_2
      refine lp (p_call Fun_57 rfl (fun w1 hw => m_s_l1Letter_ok hw.fro N (y2.toNat : Int) hx2)) rfl <| ly rfl rfl <| la rfl <| ly rfl rfl <| la rfl ?_
      cases hb_2
      exact kk K ⟨rfl, rfl, rfl, rfl, trivial⟩
    refine la rfl ?_
    cases hb_1
    exact kk K ⟨rfl, rfl, rfl, trivial⟩
   ·refine la rfl <| la rfl <| la rfl <| WL.nox rfl rfl rfl rfl <| WL.nox rfl rfl rfl rfl <| WL.nox rfl rfl rfl rfl <| WL.nox rfl rfl rfl rfl <| WL.nox rfl rfl rfl rfl <| la rfl <| la rfl ?_
    cases hb_1
    exact kk K ⟨rfl, rfl, rfl, trivial⟩
  refine en ?_
  refine cdh rfl h (fun c4 h => ?_) (fun c4 h => ?_)
  ·refine sr <| la rfl <| en ?_
   refine WT.ret Tryd.func74 (resOk.one rfl) (fun w1 hw => ?_)
   subst hb0
   cases h
   exact post_of_St hw
  refine WT.skip <| ib <| rgn <| la rfl <| la rfl <| la rfl <| en ?_
  exact lback (ih1 (IntKind.i64.wrap (s1 + 1)) h) ⟨rfl, rfl, trivial⟩ (fun w1 hw => (hw.sel (js := []) rfl).selO (js := []) rfl)
 refine xt rfl <| sr <| la rfl <| lq (q_lenS Str_9 rfl rfl) rfl ?_
 obtain ⟨x3, hx3, h⟩ := bs h
 refine lp (p_call Fun_36 rfl (fun w1 hw => m_s_l1In_ok hw.fro N (p0.size : Int) 1 12 hx3)) rfl <| la rfl <| en ?_
 refine WT.ret Tryd.func74 (resOk.one rfl) (fun w1 hw => ?_)
 subst hb0
 cases h
 exact post_of_St hw
theorem m_s_l2Plain_ok {Φ : Hp} {w : World} (hΦ : In Φ w) (N : Nat) (p0 : ByteArray)   {r : Bool} (h : m_s_l2Plain N p0 = some r) :
  Calls Tryd.prog 86 [.string p0].toArray w (Post (.bool r) w) := by
 refine enter Tryd.func86 rfl Tryd.ntmps86 rfl (St.start0 hΦ) ?_
 generalize hb0 : (⟨w, [], Φ⟩ : Base) = w0
 unfold m_s_l2Plain at h
 refine sr <| la rfl <| en <| sq <| sr <| la rfl <| en <| blk ?_
 refine loop_in (σ := Int) (fun s => [(0, .string p0), (3, .int .i64 s)]) (fun s => St w0 Φ [] []) (fun m s => m_s_l2Plain_l1 N p0 m s = some r) (0) N h ⟨rfl, rfl, trivial⟩ (fun w1 hw => (hw.sel (js := []) rfl).selO (js := []) rfl) (fun s hm => none_ne hm) (fun n1 ih1 s hm => ?_)
 revert hm; revert s; intro s1 hm
 have h : m_s_l2Plain_l1 N p0 (n1 + 1) s1 = some r := hm
 show WT _ _ [(0, .string p0), (3, .int .i64 s1)] (St w0 Φ [] [])
 unfold m_s_l2Plain_l1 at h
 refine sq <| sr <| la rfl <| la rfl <| lq (q_lenS Str_9 rfl rfl) rfl <| la rfl <| en ?_
 refine cdh rfl h (fun c1 h => ?_) (fun c1 h => ?_)
 ·refine WT.skip <| sq <| blk <| sr <| la rfl <| la rfl ?_
  obtain ⟨y1, hy1, h⟩ := bs h
  refine lq (q_indexS Str_9 rfl rfl hy1) rfl ?_
  obtain ⟨x1, hx1, h⟩ := bs h
  refine lp (p_call Fun_57 rfl (fun w1 hw => m_s_l1Letter_ok hw.fro N (y1.toNat : Int) hx1)) rfl <| la rfl <| en ?_
  refine cdh rfl h (fun c2 h => ?_) (fun c2 h => ?_)
  ·refine sr <| la rfl <| en ?_
   refine WT.ret Tryd.func86 (resOk.one rfl) (fun w1 hw => ?_)
   subst hb0
   cases h
   exact post_of_St hw
  refine WT.skip <| ib <| rgn <| la rfl <| la rfl <| la rfl <| en ?_
  exact lback (ih1 (IntKind.i64.wrap (s1 + 1)) h) ⟨rfl, rfl, trivial⟩ (fun w1 hw => (hw.sel (js := []) rfl).selO (js := []) rfl)
 refine xt rfl <| sr <| la rfl <| lq (q_lenS Str_9 rfl rfl) rfl <| la rfl <| la rfl <| en ?_
 refine WT.ret Tryd.func86 (resOk.one rfl) (fun w1 hw => ?_)
 subst hb0
 cases h
 exact post_of_St hw
theorem m_s_ValOk_ok {Φ : Hp} {w : World} (hΦ : In Φ w) (N : Nat) (p0 : TVal)   {r : Bool} (h : m_s_ValOk N p0 = some r) :
  Calls Tryd.prog 75 [.agg [.int .i64 p0.K, .int .i64 p0.N, .string p0.S].toArray].toArray w (Post (.bool r) w) := by
 refine enter Tryd.func75 rfl Tryd.ntmps75 rfl (St.start0 hΦ) ?_
 unfold m_s_ValOk at h
 refine sr ?_
 refine ln (nb rfl) rfl (fun b_1 => ?_)
 refine la rfl <| en <| sq <| sr <| lf Fld_30_0 rfl rfl rfl <| lo T1_3 0 rfl <| en <| blk <| sr <| la rfl <| la rfl <| en ?_
 refine cdh rfl h (fun c1 h => ?_) (fun c1 h => ?_)
 ·refine sr <| lf Fld_30_1 rfl rfl rfl <| lo T1_3 0 rfl ?_
  obtain ⟨x1, hx1, h⟩ := bs h
  refine lp (p_call Fun_36 rfl (fun w1 hw => m_s_l1In_ok hw.fro N p0.N (-1000000000) 1000000000 hx1)) rfl <| la rfl ?_
  obtain ⟨b1, hb_1, h⟩ := bs h
  refine WL.cutN 4 [(14, .bool b1), (2, .bool false)] ?_ (fun K => ?_)
  rotate_left
  ·refine spl 10 rfl hb_1 (fun c2 hb_1 => ?_) (fun c2 hb_1 => ?_)
   ·refine ly rfl rfl <| lf Fld_30_2 rfl rfl rfl <| ly rfl rfl <| lo T1_9 0 rfl <| ly rfl rfl <| la rfl <| la rfl ?_
    cases hb_1
    exact kk K ⟨rfl, rfl, trivial⟩
   ·refine la rfl <| la rfl <| la rfl <| la rfl ?_
    cases hb_1
    exact kk K ⟨rfl, rfl, trivial⟩
  refine la rfl <| en ?_
  refine WT.ret Tryd.func75 (resOk.one rfl) (fun w1 hw => ?_)
  cases h
  exact post_of_St hw
 refine sr <| la rfl <| la rfl <| en ?_
 refine cdh rfl h (fun c3 h => ?_) (fun c3 h => ?_)
 ·refine sr <| lf Fld_30_2 rfl rfl rfl <| lo T1_9 0 rfl ?_
  obtain ⟨x2, hx2, h⟩ := bs h
  refine lp (p_call Fun_86 rfl (fun w1 hw => m_s_l2Plain_ok hw.fro N p0.S hx2)) rfl <| la rfl ?_
  obtain ⟨b2, hb_2, h⟩ := bs h
  refine WL.cutN 4 [(24, .bool b2), (2, .bool false)] ?_ (fun K => ?_)
  rotate_left
  ·refine spl 20 rfl hb_2 (fun c4 hb_2 => ?_) (fun c4 hb_2 => ?_)
   ·refine ly rfl rfl <| lf Fld_30_1 rfl rfl rfl <| ly rfl rfl <| lo T1_3 0 rfl <| ly rfl rfl <| la rfl <| la rfl ?_
    cases hb_2
    exact kk K ⟨rfl, rfl, trivial⟩
   ·refine la rfl <| la rfl <| la rfl <| la rfl ?_
    cases hb_2
    exact kk K ⟨rfl, rfl, trivial⟩
  refine la rfl <| en ?_
  refine WT.ret Tryd.func75 (resOk.one rfl) (fun w1 hw => ?_)
  cases h
  exact post_of_St hw
 refine WT.skip <| ib <| sr <| la rfl <| en ?_
 refine WT.ret Tryd.func75 (resOk.one rfl) (fun w1 hw => ?_)
 cases h
 exact post_of_St hw
theorem m_s_ArgOk_ok {Φ : Hp} {w : World} (hΦ : In Φ w) (N : Nat) (p0 : TArg)   {r : Bool} (h : m_s_ArgOk N p0 = some r) :
  Calls Tryd.prog 58 [.agg [.int .i64 p0.K, .string p0.S, .int .i64 p0.V.K, .int .i64 p0.V.N, .string p0.V.S].toArray].toArray w (Post (.bool r) w) := by
 refine enter Tryd.func58 rfl Tryd.ntmps58 rfl (St.start0 hΦ) ?_
 unfold m_s_ArgOk at h
 refine sr ?_
 refine ln (nb rfl) rfl (fun b_1 => ?_)
 refine la rfl <| en <| sr <| lf Fld_32_2 rfl rfl rfl <| ld3 Tn_30 0 rfl <| lq (q_build (vs := []) (C := #[.int .i64 0, .int .i64 0, .string (⟨#[]⟩ : ByteArray)]) Pl_30 Zr_30 rfl (fill_nil)) rfl <| lq (q_eqA EqT_30 rfl rfl rfl (r := eqT_TVal p0.V (⟨0, 0, (⟨#[]⟩ : ByteArray)⟩ : TVal)) rfl) rfl <| la rfl <| en <| sq <| sr <| lf Fld_32_0 rfl rfl rfl <| lo T1_3 0 rfl <| en <| blk <| sr <| la rfl <| la rfl <| en ?_
 refine cdh rfl h (fun c1 h => ?_) (fun c1 h => ?_)
 ·refine sr <| lf Fld_32_1 rfl rfl rfl <| lo T1_9 0 rfl ?_
  obtain ⟨x1, hx1, h⟩ := bs h
  refine lp (p_call Fun_74 rfl (fun w1 hw => m_s_l5VarOk_ok hw.fro N p0.S hx1)) rfl <| la rfl ?_
  obtain ⟨b1, hb_1, h⟩ := bs h
  refine WL.cutN 2 [(17, .bool b1), (2, .bool false)] ?_ (fun K => ?_)
  rotate_left
  ·refine spl 15 rfl hb_1 (fun c2 hb_1 => ?_) (fun c2 hb_1 => ?_)
   ·refine ly rfl rfl <| la rfl <| la rfl ?_
    cases hb_1
    exact kk K ⟨rfl, rfl, trivial⟩
   ·refine la rfl <| la rfl ?_
    cases hb_1
    exact kk K ⟨rfl, rfl, trivial⟩
  refine la rfl <| en ?_
  refine WT.ret Tryd.func58 (resOk.one rfl) (fun w1 hw => ?_)
  cases h
  exact post_of_St hw
 refine sr <| la rfl <| la rfl <| en ?_
 refine cdh rfl h (fun c3 h => ?_) (fun c3 h => ?_)
 ·refine sr <| lf Fld_32_2 rfl rfl rfl <| ld3 Tn_30 0 rfl ?_
  obtain ⟨x2, hx2, h⟩ := bs h
  refine lp (p_call Fun_75 rfl (fun w1 hw => m_s_ValOk_ok hw.fro N p0.V hx2)) rfl <| la rfl ?_
  obtain ⟨b2, hb_2, h⟩ := bs h
  refine WL.cutN 4 [(27, .bool b2), (2, .bool false)] ?_ (fun K => ?_)
  rotate_left
  ·refine spl 23 rfl hb_2 (fun c4 hb_2 => ?_) (fun c4 hb_2 => ?_)
   ·refine ly rfl rfl <| lf Fld_32_1 rfl rfl rfl <| ly rfl rfl <| lo T1_9 0 rfl <| ly rfl rfl <| la rfl <| la rfl ?_
    cases hb_2
    exact kk K ⟨rfl, rfl, trivial⟩
   ·refine la rfl <| la rfl <| la rfl <| la rfl ?_
    cases hb_2
    exact kk K ⟨rfl, rfl, trivial⟩
  refine la rfl <| en ?_
  refine WT.ret Tryd.func58 (resOk.one rfl) (fun w1 hw => ?_)
  cases h
  exact post_of_St hw
 refine sr <| la rfl <| la rfl <| en ?_
 refine cdh rfl h (fun c5 h => ?_) (fun c5 h => ?_)
 ·refine sr <| lf Fld_32_1 rfl rfl rfl <| lo T1_9 0 rfl <| la rfl <| la rfl ?_
  obtain ⟨b3, hb_3, h⟩ := bs h
  refine WL.cutN 2 [(35, .bool b3), (2, .bool false)] ?_ (fun K => ?_)
  rotate_left
  ·refine spl 33 rfl hb_3 (fun c6 hb_3 => ?_) (fun c6 hb_3 => ?_)
   ·refine ly rfl rfl <| la rfl <| la rfl ?_
    cases hb_3
    exact kk K ⟨rfl, rfl, trivial⟩
   ·refine la rfl <| la rfl ?_
    cases hb_3
    exact kk K ⟨rfl, rfl, trivial⟩
  refine la rfl <| en ?_
  refine WT.ret Tryd.func58 (resOk.one rfl) (fun w1 hw => ?_)
  cases h
  exact post_of_St hw
 refine WT.skip <| ib <| sr <| la rfl <| en ?_
 refine WT.ret Tryd.func58 (resOk.one rfl) (fun w1 hw => ?_)
 cases h
 exact post_of_St hw
theorem m_s_l8Given_ok {Φ : Hp} {w : World} (hΦ : In Φ w) (N : Nat) (p0 : TArg)   {r : Bool} (h : m_s_l8Given N p0 = some r) :
  Calls Tryd.prog 39 [.agg [.int .i64 p0.K, .string p0.S, .int .i64 p0.V.K, .int .i64 p0.V.N, .string p0.V.S].toArray].toArray w (Post (.bool r) w) := by
 refine enter Tryd.func39 rfl Tryd.ntmps39 rfl (St.start0 hΦ) ?_
 unfold m_s_l8Given at h
 refine sr ?_
 refine ln (nb rfl) rfl (fun b_1 => ?_)
 refine la rfl <| en <| sr <| ld5 Tn_32 0 rfl ?_
 obtain ⟨x1, hx1, h⟩ := bs h
 refine lp (p_call Fun_58 rfl (fun w1 hw => m_s_ArgOk_ok hw.fro N p0 hx1)) rfl <| la rfl ?_
 obtain ⟨b1, hb_1, h⟩ := bs h
 refine WL.cutN 4 [(9, .bool b1), (2, .bool false)] ?_ (fun K => ?_)
 rotate_left
 ·refine spl 5 rfl hb_1 (fun c1 hb_1 => ?_) (fun c1 hb_1 => ?_)
  ·refine ly rfl rfl <| lf Fld_32_0 rfl rfl rfl <| ly rfl rfl <| lo T1_3 0 rfl <| ly rfl rfl <| la rfl <| la rfl ?_
   cases hb_1
   exact kk K ⟨rfl, rfl, trivial⟩
  ·refine la rfl <| la rfl <| la rfl <| la rfl ?_
   cases hb_1
   exact kk K ⟨rfl, rfl, trivial⟩
 refine la rfl <| en ?_
 refine WT.ret Tryd.func39 (resOk.one rfl) (fun w1 hw => ?_)
 cases h
 exact post_of_St hw
theorem m_s_ExprOk_ok {Φ : Hp} {w : World} (hΦ : In Φ w) (N : Nat) (p0 : TExpr)   {r : Bool} (h : m_s_ExprOk N p0 = some r) :
  Calls Tryd.prog 17 [.agg [.string p0.Op, .int .i64 p0.L.K, .string p0.L.S, .int .i64 p0.L.V.K, .int .i64 p0.L.V.N, .string p0.L.V.S, .int .i64 p0.R.K, .string p0.R.S, .int .i64 p0.R.V.K, .int .i64 p0.R.V.N, .string p0.R.V.S].toArray].toArray w (Post (.bool r) w) := by
 refine enter Tryd.func17 rfl Tryd.ntmps17 rfl (St.start0 hΦ) ?_
 generalize hb0 : (⟨w, [], Φ⟩ : Base) = w0
 unfold m_s_ExprOk at h
 refine sr ?_
 refine ln (nb rfl) rfl (fun b_1 => ?_)
 refine la rfl <| en <| sq <| sr <| lf Fld_34_0 rfl rfl rfl <| lo T1_9 0 rfl <| en <| blk <| sr <| la rfl <| la rfl <| en ?_
 refine cdh rfl h (fun c1 h => ?_) (fun c1 h => ?_)
 ·refine sr <| lf Fld_34_1 rfl rfl rfl <| ld5 Tn_32 0 rfl ?_
  obtain ⟨x1, hx1, h⟩ := bs h
  refine lp (p_call Fun_39 rfl (fun w1 hw => m_s_l8Given_ok hw.fro N p0.L hx1)) rfl <| la rfl ?_
  obtain ⟨b1, hb_1, h⟩ := bs h
  refine WL.cutN 5 [(15, .bool b1), (2, .bool false)] ?_ (fun K => ?_)
  rotate_left
  ·refine spl 10 rfl hb_1 (fun c2 hb_1 => ?_) (fun c2 hb_1 => ?_)
   ·refine ly rfl rfl <| lf Fld_34_2 rfl rfl rfl <| ly rfl rfl <| ld5 Tn_32 0 rfl <| ly rfl rfl <| lq (q_build (vs := []) (C := #[.int .i64 0, .string (⟨#[]⟩ : ByteArray), .int .i64 0, .int .i64 0, .string (⟨#[]⟩ : ByteArray)]) Pl_32 Zr_32 rfl (fill_nil)) rfl <| ly rfl rfl <| lq (q_eqA EqT_32 rfl rfl rfl (r := eqT_TArg p0.R (⟨0, (⟨#[]⟩ : ByteArray), (⟨0, 0, (⟨#[]⟩ : ByteArray)⟩ : TVal)⟩ : TArg)) rfl) rfl <| la rfl ?_
    cases hb_1
    exact kk K ⟨rfl, rfl, trivial⟩
   ·refine la rfl <| la rfl <| la rfl <| la rfl <| la rfl ?_
    cases hb_1
    exact kk K ⟨rfl, rfl, trivial⟩
  refine la rfl <| en ?_
  refine WT.ret Tryd.func17 (resOk.one rfl) (fun w1 hw => ?_)
  subst hb0
  cases h
  exact post_of_St hw
 refine sq <| sr <| la rfl <| la rfl <| en ?_
 refine cut (σ := Bool) (fun s => [(1, .pointer (some ⟨b_1, 0, none⟩)), (16, .bool s)]) (fun s => St w0 Φ [(b_1, .cells #[.string p0.Op, .int .i64 p0.L.K, .string p0.L.S, .int .i64 p0.L.V.K, .int .i64 p0.L.V.N, .string p0.L.V.S, .int .i64 p0.R.K, .string p0.R.S, .int .i64 p0.R.V.K, .int .i64 p0.R.V.N, .string p0.R.V.S] 34 (0, 0))] []) (fun s => m_s_ExprOk_j1 N p0 s = some r) (fun s hm => ?_) (fun K => ?_)
 ·clear h
  revert hm; revert s; intro s1 hm
  have h : m_s_ExprOk_j1 N p0 s1 = some r := hm
  show WT _ _ [(1, .pointer (some ⟨b_1, 0, none⟩)), (16, .bool s1)] (St w0 Φ [(b_1, .cells #[.string p0.Op, .int .i64 p0.L.K, .string p0.L.S, .int .i64 p0.L.V.K, .int .i64 p0.L.V.N, .string p0.L.V.S, .int .i64 p0.R.K, .string p0.R.S, .int .i64 p0.R.V.K, .int .i64 p0.R.V.N, .string p0.R.V.S] 34 (0, 0))] [])
  unfold m_s_ExprOk_j1 at h
  refine cdh rfl h (fun c3 h => ?_) (fun c3 h => ?_)
  ·refine sr <| lf Fld_34_1 rfl rfl rfl <| ld5 Tn_32 0 rfl ?_
   obtain ⟨x2, hx2, h⟩ := bs h
   refine lp (p_call Fun_39 rfl (fun w1 hw => m_s_l8Given_ok hw.fro N p0.L hx2)) rfl <| la rfl ?_
   obtain ⟨b2, hb_2, h⟩ := bs h
   refine WL.cutN 4 [(26, .bool b2)] ?_ (fun K => ?_)
   rotate_left
   ·refine spl 22 rfl hb_2 (fun c4 hb_2 => ?_) (fun c4 hb_2 => ?_)
    ·refine ly rfl rfl <| lf Fld_34_2 rfl rfl rfl <| ly rfl rfl <| ld5 Tn_32 0 rfl <| ly rfl rfl ?_
     obtain ⟨x3, hx3, hb_2⟩ := bs hb_2
     refine lp (p_call Fun_39 rfl (fun w1 hw => m_s_l8Given_ok hw.fro N p0.R hx3)) rfl <| la rfl ?_
     cases hb_2
     exact kk K ⟨rfl, trivial⟩
    ·refine la rfl <| la rfl <| la rfl <| la rfl ?_
     cases hb_2
     exact kk K ⟨rfl, trivial⟩
   refine la rfl <| en ?_
   refine WT.ret Tryd.func17 (resOk.one rfl) (fun w1 hw => ?_)
   subst hb0
   cases h
   exact post_of_St hw
  refine WT.skip <| ib <| sr <| la rfl <| en ?_
  refine WT.ret Tryd.func17 (resOk.one rfl) (fun w1 hw => ?_)
  subst hb0
  cases h
  exact post_of_St hw
 refine cdh rfl h (fun c5 h => ?_) (fun c5 h => ?_)
 ·refine WT.skip ?_
  exact wto (K (seq p0.Op (⟨#[43]⟩ : ByteArray)) h) ⟨rfl, rfl, trivial⟩ (fun w1 hw => (hw.sel (js := []) rfl).selO (js := [0]) rfl)
 refine rgn <| la rfl <| la rfl <| en ?_
 exact wto (K (seq p0.Op (⟨#[45]⟩ : ByteArray)) h) ⟨rfl, rfl, trivial⟩ (fun w1 hw => (hw.sel (js := []) rfl).selO (js := [0]) rfl)
theorem m_s_l8Args_ok {Φ : Hp} {w : World} (hΦ : In Φ w) (N : Nat) (p0 : (List TExpr)) {pv0 : Value} {pG0 : List Nat} (ph0 : RSl RTExpr 11 Φ pG0 pv0 p0) {r : Bool} (h : m_s_l8Args N p0 = some r) :
  Calls Tryd.prog 35 [pv0].toArray w (Post (.bool r) w) := by
 refine enter Tryd.func35 rfl Tryd.ntmps35 rfl (St.start0 hΦ) ?_
 generalize hb0 : (⟨w, [], Φ⟩ : Base) = w0
 unfold m_s_l8Args at h
 refine sr <| la rfl <| en <| sq <| sr <| la rfl <| en <| blk ?_
 refine loop_in (σ := Int) (fun s => [(0, pv0), (3, .int .i64 s)]) (fun s => St w0 Φ [] []) (fun m s => m_s_l8Args_l1 N p0 m s = some r) (0) N h ⟨rfl, rfl, trivial⟩ (fun w1 hw => (hw.sel (js := []) rfl).selO (js := []) rfl) (fun s hm => none_ne hm) (fun n1 ih1 s hm => ?_)
 revert hm; revert s; intro s1 hm
 have h : m_s_l8Args_l1 N p0 (n1 + 1) s1 = some r := hm
 show WT _ _ [(0, pv0), (3, .int .i64 s1)] (St w0 Φ [] [])
 unfold m_s_l8Args_l1 at h
 refine sq <| sr <| la rfl <| la rfl <| lq (q_lenR Sl_39 rfl rfl ph0) rfl <| la rfl <| en ?_
 refine cdh rfl h (fun c1 h => ?_) (fun c1 h => ?_)
 ·refine WT.skip <| sq <| blk <| sr <| la rfl <| la rfl ?_
  obtain ⟨x1, hx1, h⟩ := bs h
  obtain ⟨cs1, F1, -, g1, hb1, hs1, r1⟩ := ph0.el (idx_some hx1).2.2
  obtain ⟨rfl, -⟩ := r1
  refine lq (q_indexAddr Sl_39 rfl rfl ph0 hx1) rfl <| lg11 0 Tn_34 g1 rfl rfl ?_
  obtain ⟨x2, hx2, h⟩ := bs h
  refine lp (p_call Fun_17 rfl (fun w1 hw => m_s_ExprOk_ok hw.fro N x1 hx2)) rfl <| la rfl <| en ?_
  refine cdh rfl h (fun c2 h => ?_) (fun c2 h => ?_)
  ·refine sr <| la rfl <| en ?_
   refine WT.ret Tryd.func35 (resOk.one rfl) (fun w1 hw => ?_)
   subst hb0
   cases h
   exact post_of_St hw
  refine WT.skip <| ib <| rgn <| la rfl <| la rfl <| la rfl <| en ?_
  exact lback (ih1 (IntKind.i64.wrap (s1 + 1)) h) ⟨rfl, rfl, trivial⟩ (fun w1 hw => (hw.sel (js := []) rfl).selO (js := []) rfl)
 refine xt rfl <| sr <| la rfl <| lq (q_lenR Sl_39 rfl rfl ph0) rfl <| la rfl <| la rfl <| en ?_
 refine WT.ret Tryd.func35 (resOk.one rfl) (fun w1 hw => ?_)
 subst hb0
 cases h
 exact post_of_St hw
theorem m_s_ActOk_ok {Φ : Hp} {w : World} (hΦ : In Φ w) (N : Nat) (p0 : TAct) {pv0_0 : Value} {pG0_0 : List Nat} (ph0_0 : RSl RTExpr 11 Φ pG0_0 pv0_0 p0.Args) {r : Bool} (h : m_s_ActOk N p0 = some r) :
  Calls Tryd.prog 15 [.agg [.int .i64 p0.Kind, .string p0.Name, pv0_0, .int .i64 p0.N, .string p0.Undo].toArray].toArray w (Post (.bool r) w) := by
 refine enter Tryd.func15 rfl Tryd.ntmps15 rfl (St.start0 hΦ) ?_
 generalize hb0 : (⟨w, [], Φ⟩ : Base) = w0
 unfold m_s_ActOk at h
 refine sr ?_
 refine ln (nb rfl) rfl (fun b_1 => ?_)
 refine la rfl <| en <| sr <| lf Fld_41_1 rfl rfl rfl <| lo T1_9 0 rfl <| la rfl <| la rfl ?_
 obtain ⟨b1, hb_1, h⟩ := bs h
 refine WL.cutN 5 [(12, .bool b1), (1, .pointer (some ⟨b_1, 0, none⟩))] ?_ (fun K => ?_)
 rotate_left
 ·refine spl 7 rfl hb_1 (fun c1 hb_1 => ?_) (fun c1 hb_1 => ?_)
  ·refine ly rfl rfl <| lf Fld_41_2 rfl rfl rfl <| ly rfl rfl <| lo T1_39 0 rfl <| ly rfl rfl <| lq (q_lenR Sl_39 rfl rfl ph0_0) rfl <| ly rfl rfl <| la rfl <| la rfl ?_
   cases hb_1
   exact kk K ⟨rfl, rfl, trivial⟩
  ·refine la rfl <| la rfl <| la rfl <| la rfl <| la rfl ?_
   cases hb_1
   exact kk K ⟨rfl, rfl, trivial⟩
 refine la rfl ?_
 obtain ⟨b2, hb_2, h⟩ := bs h
 refine WL.cutN 4 [(17, .bool b2), (1, .pointer (some ⟨b_1, 0, none⟩))] ?_ (fun K => ?_)
 rotate_left
 ·refine spl 13 rfl hb_2 (fun c2 hb_2 => ?_) (fun c2 hb_2 => ?_)
  ·refine ly rfl rfl <| lf Fld_41_4 rfl rfl rfl <| ly rfl rfl <| lo T1_9 0 rfl <| ly rfl rfl <| la rfl <| la rfl ?_
   cases hb_2
   exact kk K ⟨rfl, rfl, trivial⟩
  ·refine la rfl <| la rfl <| la rfl <| la rfl ?_
   cases hb_2
   exact kk K ⟨rfl, rfl, trivial⟩
 refine la rfl <| en <| sq <| sr <| lf Fld_41_0 rfl rfl rfl <| lo T1_3 0 rfl <| en <| blk <| sr <| la rfl <| la rfl <| en ?_
 refine cdh rfl h (fun c3 h => ?_) (fun c3 h => ?_)
 ·refine sr <| lf Fld_41_1 rfl rfl rfl <| lo T1_9 0 rfl ?_
  obtain ⟨x1, hx1, h⟩ := bs h
  refine lp (p_call Fun_34 rfl (fun w1 hw => m_s_NameOk_ok hw.fro N p0.Name hx1)) rfl <| la rfl ?_
  obtain ⟨b3, hb_3, h⟩ := bs h
  refine WL.cutN 4 [(29, .bool b3), (1, .pointer (some ⟨b_1, 0, none⟩))] ?_ (fun K => ?_)
  rotate_left
  ·refine spl 25 rfl hb_3 (fun c4 hb_3 => ?_) (fun c4 hb_3 => ?_)
   ·refine ly rfl rfl <| lf Fld_41_2 rfl rfl rfl <| ly rfl rfl <| lo T1_39 0 rfl <| ly rfl rfl ?_
    obtain ⟨x2, hx2, hb_3⟩ := bs hb_3
    refine lp (p_call Fun_35 rfl (fun w1 hw => m_s_l8Args_ok hw.fro N p0.Args ph0_0 hx2)) rfl <| la rfl ?_
    cases hb_3
    exact kk K ⟨rfl, rfl, trivial⟩
   ·refine la rfl <| la rfl <| la rfl <| la rfl ?_
    cases hb_3
    exact kk K ⟨rfl, rfl, trivial⟩
  refine la rfl ?_
  obtain ⟨b4, hb_4, h⟩ := bs h
  refine WL.cutN 4 [(34, .bool b4), (1, .pointer (some ⟨b_1, 0, none⟩))] ?_ (fun K => ?_)
  rotate_left
  ·refine spl 30 rfl hb_4 (fun c5 hb_4 => ?_) (fun c5 hb_4 => ?_)
   ·refine ly rfl rfl <| lf Fld_41_3 rfl rfl rfl <| ly rfl rfl <| lo T1_3 0 rfl <| ly rfl rfl <| la rfl <| la rfl ?_
    cases hb_4
    exact kk K ⟨rfl, rfl, trivial⟩
   ·refine la rfl <| la rfl <| la rfl <| la rfl ?_
    cases hb_4
    exact kk K ⟨rfl, rfl, trivial⟩
  refine la rfl ?_
  obtain ⟨b5, hb_5, h⟩ := bs h
  refine WL.cutN 4 [(39, .bool b5)] ?_ (fun K => ?_)
  rotate_left
  ·refine spl 35 rfl hb_5 (fun c6 hb_5 => ?_) (fun c6 hb_5 => ?_)
   ·refine ly rfl rfl <| lf Fld_41_4 rfl rfl rfl <| ly rfl rfl <| lo T1_9 0 rfl <| ly rfl rfl <| la rfl <| la rfl ?_
    cases hb_5
    exact kk K ⟨rfl, trivial⟩
   ·refine la rfl <| la rfl <| la rfl <| la rfl ?_
    cases hb_5
    exact kk K ⟨rfl, trivial⟩
  refine la rfl <| en ?_
  refine WT.ret Tryd.func15 (resOk.one rfl) (fun w1 hw => ?_)
  subst hb0
  cases h
  exact post_of_St hw
 refine sr <| la rfl <| la rfl <| en ?_
 refine cdh rfl h (fun c7 h => ?_) (fun c7 h => ?_)
 ·refine sr <| lf Fld_41_1 rfl rfl rfl <| lo T1_9 0 rfl ?_
  obtain ⟨x3, hx3, h⟩ := bs h
  refine lp (p_call Fun_34 rfl (fun w1 hw => m_s_NameOk_ok hw.fro N p0.Name hx3)) rfl <| la rfl ?_
  obtain ⟨b6, hb_6, h⟩ := bs h
  refine WL.cutN 4 [(49, .bool b6), (1, .pointer (some ⟨b_1, 0, none⟩))] ?_ (fun K => ?_)
  rotate_left
  ·refine spl 45 rfl hb_6 (fun c8 hb_6 => ?_) (fun c8 hb_6 => ?_)
   ·refine ly rfl rfl <| lf Fld_41_2 rfl rfl rfl <| ly rfl rfl <| lo T1_39 0 rfl <| ly rfl rfl ?_
    obtain ⟨x4, hx4, hb_6⟩ := bs hb_6
    refine lp (p_call Fun_35 rfl (fun w1 hw => m_s_l8Args_ok hw.fro N p0.Args ph0_0 hx4)) rfl <| la rfl ?_
    cases hb_6
    exact kk K ⟨rfl, rfl, trivial⟩
   ·refine la rfl <| la rfl <| la rfl <| la rfl ?_
    cases hb_6
    exact kk K ⟨rfl, rfl, trivial⟩
  refine la rfl ?_
  obtain ⟨b7, hb_7, h⟩ := bs h
  refine WL.cutN 4 [(54, .bool b7), (1, .pointer (some ⟨b_1, 0, none⟩))] ?_ (fun K => ?_)
  rotate_left
  ·refine spl 50 rfl hb_7 (fun c9 hb_7 => ?_) (fun c9 hb_7 => ?_)
   ·refine ly rfl rfl <| lf Fld_41_3 rfl rfl rfl <| ly rfl rfl <| lo T1_3 0 rfl <| ly rfl rfl <| la rfl <| la rfl ?_
    cases hb_7
    exact kk K ⟨rfl, rfl, trivial⟩
   ·refine la rfl <| la rfl <| la rfl <| la rfl ?_
    cases hb_7
    exact kk K ⟨rfl, rfl, trivial⟩
  refine la rfl ?_
  obtain ⟨b8, hb_8, h⟩ := bs h
  refine WL.cutN 9 [(64, .bool b8)] ?_ (fun K => ?_)
  rotate_left
  ·refine spl 55 rfl hb_8 (fun c10 hb_8 => ?_) (fun c10 hb_8 => ?_)
   ·refine ly rfl rfl <| lf Fld_41_4 rfl rfl rfl <| ly rfl rfl <| lo T1_9 0 rfl <| ly rfl rfl <| la rfl <| ly rfl rfl <| la rfl ?_
    obtain ⟨b9, hb_9, hb_8⟩ := bs hb_8
    refine WL.cutN 4 [(63, .bool b9), (55, .bool true)] ?_ (fun K => ?_)
    rotate_left
    ·refine spl 59 rfl hb_9 (fun c11 hb_9 => ?_) (fun c11 hb_9 => ?_)
     ·refine la rfl <| la rfl <| la rfl <| ly rfl rfl <| la rfl ?_
      cases hb_9
      exact kk K ⟨rfl, rfl, trivial⟩
     ·refine ly rfl rfl <| lf Fld_41_4 rfl rfl rfl <| ly rfl rfl <| lo T1_9 0 rfl <| ly rfl rfl ?_
      obtain ⟨x5, hx5, hb_9⟩ := bs hb_9
      refine lp (p_call Fun_34 rfl (fun w1 hw => m_s_NameOk_ok hw.fro N p0.Undo hx5)) rfl <| ly rfl rfl <| la rfl ?_
      cases hb_9
      exact kk K ⟨rfl, rfl, trivial⟩
    refine la rfl ?_
    cases hb_8
    exact kk K ⟨rfl, trivial⟩
   ·refine la rfl <| la rfl <| la rfl <| la rfl <| WL.nox rfl rfl rfl rfl <| WL.nox rfl rfl rfl rfl <| WL.nox rfl rfl rfl rfl <| la rfl <| la rfl ?_
    cases hb_8
    exact kk K ⟨rfl, trivial⟩
  refine la rfl <| en ?_
  refine WT.ret Tryd.func15 (resOk.one rfl) (fun w1 hw => ?_)
  subst hb0
  cases h
  exact post_of_St hw
 refine sr <| la rfl <| la rfl <| en ?_
 refine cdh rfl h (fun c12 h => ?_) (fun c12 h => ?_)
 ·refine sr <| lf Fld_41_1 rfl rfl rfl <| lo T1_9 0 rfl ?_
  obtain ⟨x6, hx6, h⟩ := bs h
  refine lp (p_call Fun_34 rfl (fun w1 hw => m_s_NameOk_ok hw.fro N p0.Name hx6)) rfl <| la rfl ?_
  obtain ⟨b10, hb_10, h⟩ := bs h
  refine WL.cutN 4 [(74, .bool b10), (1, .pointer (some ⟨b_1, 0, none⟩))] ?_ (fun K => ?_)
  rotate_left
  ·refine spl 70 rfl hb_10 (fun c13 hb_10 => ?_) (fun c13 hb_10 => ?_)
   ·refine ly rfl rfl <| lf Fld_41_2 rfl rfl rfl <| ly rfl rfl <| lo T1_39 0 rfl <| ly rfl rfl ?_
    obtain ⟨x7, hx7, hb_10⟩ := bs hb_10
    refine lp (p_call Fun_35 rfl (fun w1 hw => m_s_l8Args_ok hw.fro N p0.Args ph0_0 hx7)) rfl <| la rfl ?_
    cases hb_10
    exact kk K ⟨rfl, rfl, trivial⟩
   ·refine la rfl <| la rfl <| la rfl <| la rfl ?_
    cases hb_10
    exact kk K ⟨rfl, rfl, trivial⟩
  refine la rfl ?_
  obtain ⟨b11, hb_11, h⟩ := bs h
  refine WL.cutN 4 [(79, .bool b11), (1, .pointer (some ⟨b_1, 0, none⟩))] ?_ (fun K => ?_)
  rotate_left
  ·refine spl 75 rfl hb_11 (fun c14 hb_11 => ?_) (fun c14 hb_11 => ?_)
   ·refine ly rfl rfl <| lf Fld_41_3 rfl rfl rfl <| ly rfl rfl <| lo T1_3 0 rfl <| ly rfl rfl ?_
    obtain ⟨x8, hx8, hb_11⟩ := bs hb_11
    refine lp (p_call Fun_36 rfl (fun w1 hw => m_s_l1In_ok hw.fro N p0.N 0 100000 hx8)) rfl <| la rfl ?_
    cases hb_11
    exact kk K ⟨rfl, rfl, trivial⟩
   ·refine la rfl <| la rfl <| la rfl <| la rfl ?_
    cases hb_11
    exact kk K ⟨rfl, rfl, trivial⟩
  refine la rfl ?_
  obtain ⟨b12, hb_12, h⟩ := bs h
  refine WL.cutN 4 [(84, .bool b12)] ?_ (fun K => ?_)
  rotate_left
  ·refine spl 80 rfl hb_12 (fun c15 hb_12 => ?_) (fun c15 hb_12 => ?_)
   ·refine ly rfl rfl <| lf Fld_41_4 rfl rfl rfl <| ly rfl rfl <| lo T1_9 0 rfl <| ly rfl rfl <| la rfl <| la rfl ?_
    cases hb_12
    exact kk K ⟨rfl, trivial⟩
   ·refine la rfl <| la rfl <| la rfl <| la rfl ?_
    cases hb_12
    exact kk K ⟨rfl, trivial⟩
  refine la rfl <| en ?_
  refine WT.ret Tryd.func15 (resOk.one rfl) (fun w1 hw => ?_)
  subst hb0
  cases h
  exact post_of_St hw
 refine sr <| la rfl <| la rfl <| en ?_
 refine cdh rfl h (fun c16 h => ?_) (fun c16 h => ?_)
 ·refine sr <| la rfl <| la rfl ?_
  obtain ⟨b13, hb_13, h⟩ := bs h
  refine WL.cutN 4 [(92, .bool b13)] ?_ (fun K => ?_)
  rotate_left
  ·refine spl 88 rfl hb_13 (fun c17 hb_13 => ?_) (fun c17 hb_13 => ?_)
   ·refine ly rfl rfl <| lf Fld_41_3 rfl rfl rfl <| ly rfl rfl <| lo T1_3 0 rfl <| ly rfl rfl ?_
    obtain ⟨x9, hx9, hb_13⟩ := bs hb_13
    refine lp (p_call Fun_36 rfl (fun w1 hw => m_s_l1In_ok hw.fro N p0.N 0 7 hx9)) rfl <| la rfl ?_
    cases hb_13
    exact kk K ⟨rfl, trivial⟩
   ·refine la rfl <| la rfl <| la rfl <| la rfl ?_
    cases hb_13
    exact kk K ⟨rfl, trivial⟩
  refine la rfl <| en ?_
  refine WT.ret Tryd.func15 (resOk.one rfl) (fun w1 hw => ?_)
  subst hb0
  cases h
  exact post_of_St hw
 refine sq <| sr <| la rfl <| la rfl <| en ?_
 refine cut (σ := Bool) (fun s => [(1, .pointer (some ⟨b_1, 0, none⟩)), (3, .bool b2), (93, .bool s)]) (fun s => St w0 Φ [(b_1, .cells #[.int .i64 p0.Kind, .string p0.Name, pv0_0, .int .i64 p0.N, .string p0.Undo] 41 (0, 0))] []) (fun s => m_s_ActOk_j1 N p0 b2 s = some r) (fun s hm => ?_) (fun K => ?_)
 ·clear h
  revert hm; revert s; intro s1 hm
  have h : m_s_ActOk_j1 N p0 b2 s1 = some r := hm
  show WT _ _ [(1, .pointer (some ⟨b_1, 0, none⟩)), (3, .bool b2), (93, .bool s1)] (St w0 Φ [(b_1, .cells #[.int .i64 p0.Kind, .string p0.Name, pv0_0, .int .i64 p0.N, .string p0.Undo] 41 (0, 0))] [])
  unfold m_s_ActOk_j1 at h
  refine cdh rfl h (fun c18 h => ?_) (fun c18 h => ?_)
  ·refine sr <| la rfl <| la rfl ?_
   obtain ⟨b14, hb_14, h⟩ := bs h
   refine WL.cutN 4 [(101, .bool b14)] ?_ (fun K => ?_)
   rotate_left
   ·refine spl 97 rfl hb_14 (fun c19 hb_14 => ?_) (fun c19 hb_14 => ?_)
    ·refine ly rfl rfl <| lf Fld_41_3 rfl rfl rfl <| ly rfl rfl <| lo T1_3 0 rfl <| ly rfl rfl <| la rfl <| la rfl ?_
     cases hb_14
     exact kk K ⟨rfl, trivial⟩
    ·refine la rfl <| la rfl <| la rfl <| la rfl ?_
     cases hb_14
     exact kk K ⟨rfl, trivial⟩
   refine la rfl <| en ?_
   refine WT.ret Tryd.func15 (resOk.one rfl) (fun w1 hw => ?_)
   subst hb0
   cases h
   exact post_of_St hw
  refine WT.skip <| ib <| sr <| la rfl <| en ?_
  refine WT.ret Tryd.func15 (resOk.one rfl) (fun w1 hw => ?_)
  subst hb0
  cases h
  exact post_of_St hw
 refine cdh rfl h (fun c20 h => ?_) (fun c20 h => ?_)
 ·refine WT.skip ?_
  exact wto (K (decide (p0.Kind = 5)) h) ⟨rfl, rfl, rfl, trivial⟩ (fun w1 hw => (hw.sel (js := []) rfl).selO (js := [0]) rfl)
 refine rgn <| la rfl <| la rfl <| en ?_
 exact wto (K (decide (p0.Kind = 6)) h) ⟨rfl, rfl, rfl, trivial⟩ (fun w1 hw => (hw.sel (js := []) rfl).selO (js := [0]) rfl)
theorem m_s_l2Num_ok (N : Nat) : ∀ {Φ : Hp} {w : World} (hΦ : In Φ w) (p0 : Int)   {r : ByteArray} (h : m_s_l2Num N p0 = some r),
  Calls Tryd.prog 38 [.int .i64 p0].toArray w (Post (.string r) w) := by
 induction N with
 | zero => intros; rename_i h; simp [m_s_l2Num] at h
 | succ N ih =>
 intro Φ w hΦ p0 r h
 refine enter Tryd.func38 rfl Tryd.ntmps38 rfl (St.start0 hΦ) ?_
 generalize hb0 : (⟨w, [], Φ⟩ : Base) = w0
 unfold m_s_l2Num at h
 refine sr <| la rfl <| en <| sq <| blk <| sr <| la rfl <| la rfl <| la rfl <| en ?_
 refine cdh rfl h (fun c1 h => ?_) (fun c1 h => ?_)
 ·refine sr <| la rfl <| lq (q_neg rfl) rfl ?_
  obtain ⟨x1, hx1, h⟩ := bs h
  refine lp (p_call Fun_38 rfl (fun w1 hw => ih hw.fro (IntKind.i64.wrap (0 - p0)) hx1)) rfl ?_
  obtain ⟨z1, hz1, h⟩ := bs h
  refine lq (q_cat rfl rfl hz1) rfl <| la rfl <| en ?_
  refine WT.ret Tryd.func38 (resOk.one rfl) (fun w1 hw => ?_)
  subst hb0
  cases h
  exact post_of_St hw
 refine sr <| la rfl <| la rfl <| la rfl <| en ?_
 refine cdh rfl h (fun c2 h => ?_) (fun c2 h => ?_)
 ·refine sr <| la rfl <| la rfl <| lq (q_convI Ik_3 Ik_5 rfl) rfl ?_
  have rc1 : RC (RI .u8) 1 Φ ([[]] : List (List Nat)) [.int .u8 (IntKind.u8.wrap (IntKind.i64.wrap (48 + p0)))] ([(IntKind.u8.wrap (IntKind.i64.wrap (48 + p0)))] : List Int) := RC.cons (c := [.int .u8 (IntKind.u8.wrap (IntKind.i64.wrap (48 + p0)))]) (cells := []) ⟨rfl, rfl⟩ rfl (RC.nil _ _ _)
  refine le' (e_lit (vs := [(0, .int .u8 (IntKind.u8.wrap (IntKind.i64.wrap (48 + p0))))]) (C := #[.int .u8 (IntKind.u8.wrap (IntKind.i64.wrap (48 + p0)))]) RI.lasts Sl_37 Zr_5 rfl rfl rfl rfl (fill_made MC_5_1 (fill_cons (C' := [.int .u8 (IntKind.u8.wrap (IntKind.i64.wrap (48 + p0)))]) rfl rfl rfl rfl rfl (fill_nil))) rfl rc1 rfl (by simpa using Kw.nil)) rfl (fun v1 Φ_1 D1 q1 => ?_)
  obtain ⟨fr1, h1⟩ := q1
  replace h1 : OSl (RI .u8) 5 1 Φ_1 [] v1 ([(IntKind.u8.wrap (IntKind.i64.wrap (48 + p0)))] : List Int) := by simpa using h1
  refine lq (q_convB Sl_37 Ik_5 Str_9 rfl h1.rsl) rfl <| la rfl <| en ?_
  refine WT.ret Tryd.func38 (resOk.one rfl) (fun w1 hw => ?_)
  subst hb0
  cases h
  exact post_of_St hw
 refine WT.skip <| ib <| sq ?_
 refine cut (σ := Hp × ByteArray) (fun s => [(2, .string s.2)]) (fun s => St w0 s.1 [] []) (fun s => m_s_l2Num_j1 N s.2 = some r) (fun s hm => ?_) (fun K => ?_)
 ·clear h
  obtain ⟨Φ_3, s1⟩ := s
  have h : m_s_l2Num_j1 N s1 = some r := hm
  show WT _ _ [(2, .string s1)] (St w0 Φ_3 [] [])
  unfold m_s_l2Num_j1 at h
  refine WT.ret Tryd.func38 (resOk.one rfl) (fun w1 hw => ?_)
  subst hb0
  cases h
  exact post_of_St hw
 refine WT.mix (Kn Φ [] []) (fun _ => true) mixed (fun _ h => h.drew) <| ma 0 rfl (by kernel_rfl) (kn Kf.nil aN) rfl <| mq 1 rfl (by kernel_rfl) (kn Kf.nil aN) (q_quo rfl rfl (by decide)) rfl <| ma 3 rfl (by kernel_rfl) (kn Kf.nil aN) rfl <| mq 4 rfl (by kernel_rfl) (kn Kf.nil aN) (q_rem rfl rfl (by decide)) rfl <| ma 5 rfl (by kernel_rfl) (kn Kf.nil aN) rfl <| mq 6 rfl (by kernel_rfl) (kn Kf.nil aN) (q_convI Ik_3 Ik_5 rfl) rfl ?_
 refine WM.two 2 7 (by kernel_rfl) ?_ ?_
 ·obtain ⟨x3, hx3, h⟩ := bs h
  refine mp rfl (fun _ w1 hw => Kn.of Kf.nil aN hw) (p_call Fun_38 rfl (fun w1 hw => ih hw.fro (IntKind.i64.wrap (p0.tdiv 10)) hx3)) rfl ?_
  have rc3 : RC (RI .u8) 1 Φ ([[]] : List (List Nat)) [.int .u8 (IntKind.u8.wrap (IntKind.i64.wrap (48 + (p0.tmod 10))))] ([(IntKind.u8.wrap (IntKind.i64.wrap (48 + (p0.tmod 10))))] : List Int) := RC.cons (c := [.int .u8 (IntKind.u8.wrap (IntKind.i64.wrap (48 + (p0.tmod 10))))]) (cells := []) ⟨rfl, rfl⟩ rfl (RC.nil _ _ _)
  refine WM.one 7 (by kernel_rfl) (me rfl (fun _ v Φx D w1 hq hw => Kn.of Kf.nil aN hw) (e_lit (vs := [(0, .int .u8 (IntKind.u8.wrap (IntKind.i64.wrap (48 + (p0.tmod 10)))))]) (C := #[.int .u8 (IntKind.u8.wrap (IntKind.i64.wrap (48 + (p0.tmod 10))))]) RI.lasts Sl_37 Zr_5 rfl rfl rfl rfl (fill_made MC_5_1 (fill_cons (C' := [.int .u8 (IntKind.u8.wrap (IntKind.i64.wrap (48 + (p0.tmod 10))))]) rfl rfl rfl rfl rfl (fill_nil))) rfl rc3 rfl (by simpa using Kw.nil)) rfl (fun v3 Φ_4 D3 q3 => ?_))
  obtain ⟨fr3, h3⟩ := q3
  replace h3 : OSl (RI .u8) 5 1 Φ_4 [] v3 ([(IntKind.u8.wrap (IntKind.i64.wrap (48 + (p0.tmod 10))))] : List Int) := by simpa using h3
  refine WM.one 8 (by kernel_rfl) (mv rfl (fun _ w1 hw => Kn.of Kf.nil aN hw) (q_convB Sl_37 Ik_5 Str_9 rfl h3.rsl) rfl ?_)
  obtain ⟨z3, hz3, h⟩ := bs h
  refine mq 9 rfl (by kernel_rfl) (kn Kf.nil aN) (q_cat rfl rfl hz3) rfl <| ma 10 rfl (by kernel_rfl) (kn Kf.nil aN) rfl <| WM.nil (by kernel_rfl) ?_
  exact wto (K (Φ_4, z3) h) ⟨rfl, trivial⟩ (fun w1 hw => (hw.sel (js := []) rfl).selO (js := []) rfl)
 have rc4 : RC (RI .u8) 1 Φ ([[]] : List (List Nat)) [.int .u8 (IntKind.u8.wrap (IntKind.i64.wrap (48 + (p0.tmod 10))))] ([(IntKind.u8.wrap (IntKind.i64.wrap (48 + (p0.tmod 10))))] : List Int) := RC.cons (c := [.int .u8 (IntKind.u8.wrap (IntKind.i64.wrap (48 + (p0.tmod 10))))]) (cells := []) ⟨rfl, rfl⟩ rfl (RC.nil _ _ _)
 refine me rfl (fun _ v Φx D w1 hq hw => Kn.of Kf.nil aN hw) (e_lit (vs := [(0, .int .u8 (IntKind.u8.wrap (IntKind.i64.wrap (48 + (p0.tmod 10)))))]) (C := #[.int .u8 (IntKind.u8.wrap (IntKind.i64.wrap (48 + (p0.tmod 10))))]) RI.lasts Sl_37 Zr_5 rfl rfl rfl rfl (fill_made MC_5_1 (fill_cons (C' := [.int .u8 (IntKind.u8.wrap (IntKind.i64.wrap (48 + (p0.tmod 10))))]) rfl rfl rfl rfl rfl (fill_nil))) rfl rc4 rfl (by simpa using Kw.nil)) rfl (fun v4 Φ_5 D4 q4 => ?_)
 obtain ⟨fr4, h4⟩ := q4
 replace h4 : OSl (RI .u8) 5 1 Φ_5 [] v4 ([(IntKind.u8.wrap (IntKind.i64.wrap (48 + (p0.tmod 10))))] : List Int) := by simpa using h4
 refine WM.two 2 8 (by kernel_rfl) ?_ ?_
 ·obtain ⟨x4, hx4, h⟩ := bs h
  refine mp rfl (fun _ w1 hw => Kn.of Kf.nil aN hw) (p_call Fun_38 rfl (fun w1 hw => ih hw.fro (IntKind.i64.wrap (p0.tdiv 10)) hx4)) rfl ?_
  refine WM.one 8 (by kernel_rfl) (mv rfl (fun _ w1 hw => Kn.of Kf.nil aN hw) (q_convB Sl_37 Ik_5 Str_9 rfl h4.rsl) rfl ?_)
  obtain ⟨z4, hz4, h⟩ := bs h
  refine mq 9 rfl (by kernel_rfl) (kn Kf.nil aN) (q_cat rfl rfl hz4) rfl <| ma 10 rfl (by kernel_rfl) (kn Kf.nil aN) rfl <| WM.nil (by kernel_rfl) ?_
  exact wto (K (Φ_5, z4) h) ⟨rfl, trivial⟩ (fun w1 hw => (hw.sel (js := []) rfl).selO (js := []) rfl)
 refine mv rfl (fun _ w1 hw => Kn.of Kf.nil aN hw) (q_convB Sl_37 Ik_5 Str_9 rfl h4.rsl) rfl ?_
 obtain ⟨x5, hx5, h⟩ := bs h
 refine WM.one 2 (by kernel_rfl) (mp rfl (fun _ w1 hw => Kn.of Kf.nil aN hw) (p_call Fun_38 rfl (fun w1 hw => ih hw.fro (IntKind.i64.wrap (p0.tdiv 10)) hx5)) rfl ?_)
 obtain ⟨z5, hz5, h⟩ := bs h
 refine mq 9 rfl (by kernel_rfl) (kn Kf.nil aN) (q_cat rfl rfl hz5) rfl <| ma 10 rfl (by kernel_rfl) (kn Kf.nil aN) rfl <| WM.nil (by kernel_rfl) ?_
 exact wto (K (Φ_5, z5) h) ⟨rfl, trivial⟩ (fun w1 hw => (hw.sel (js := []) rfl).selO (js := []) rfl)
theorem m_s_l2Text_ok {Φ : Hp} {w : World} (hΦ : In Φ w) (N : Nat) (p0 : TVal)   {r : ByteArray} (h : m_s_l2Text N p0 = some r) :
  Calls Tryd.prog 44 [.agg [.int .i64 p0.K, .int .i64 p0.N, .string p0.S].toArray].toArray w (Post (.string r) w) := by
 refine enter Tryd.func44 rfl Tryd.ntmps44 rfl (St.start0 hΦ) ?_
 unfold m_s_l2Text at h
 refine sr ?_
 refine ln (nb rfl) rfl (fun b_1 => ?_)
 refine la rfl <| en <| sq <| sr <| lf Fld_30_0 rfl rfl rfl <| lo T1_3 0 rfl <| la rfl <| en ?_
 refine cdh rfl h (fun c1 h => ?_) (fun c1 h => ?_)
 ·refine sr <| lf Fld_30_1 rfl rfl rfl <| lo T1_3 0 rfl ?_
  obtain ⟨x1, hx1, h⟩ := bs h
  refine lp (p_call Fun_38 rfl (fun w1 hw => m_s_l2Num_ok N hw.fro p0.N hx1)) rfl <| la rfl <| en ?_
  refine WT.ret Tryd.func44 (resOk.one rfl) (fun w1 hw => ?_)
  cases h
  exact post_of_St hw
 refine WT.skip <| sr <| lf Fld_30_2 rfl rfl rfl <| lo T1_9 0 rfl ?_
 obtain ⟨z1, hz1, h⟩ := bs h
 refine lq (q_cat rfl rfl hz1) rfl ?_
 obtain ⟨z2, hz2, h⟩ := bs h
 refine lq (q_cat rfl rfl hz2) rfl <| la rfl <| en ?_
 refine WT.ret Tryd.func44 (resOk.one rfl) (fun w1 hw => ?_)
 cases h
 exact post_of_St hw
theorem m_s_l6ArgText_ok {Φ : Hp} {w : World} (hΦ : In Φ w) (N : Nat) (p0 : TArg)   {r : ByteArray} (h : m_s_l6ArgText N p0 = some r) :
  Calls Tryd.prog 22 [.agg [.int .i64 p0.K, .string p0.S, .int .i64 p0.V.K, .int .i64 p0.V.N, .string p0.V.S].toArray].toArray w (Post (.string r) w) := by
 refine enter Tryd.func22 rfl Tryd.ntmps22 rfl (St.start0 hΦ) ?_
 unfold m_s_l6ArgText at h
 refine sr ?_
 refine ln (nb rfl) rfl (fun b_1 => ?_)
 refine la rfl <| en <| sq <| sr <| lf Fld_32_0 rfl rfl rfl <| lo T1_3 0 rfl <| en <| blk <| sr <| la rfl <| la rfl <| en ?_
 refine cdh rfl h (fun c1 h => ?_) (fun c1 h => ?_)
 ·refine sr <| lf Fld_32_1 rfl rfl rfl <| lo T1_9 0 rfl <| la rfl <| en ?_
  refine WT.ret Tryd.func22 (resOk.one rfl) (fun w1 hw => ?_)
  cases h
  exact post_of_St hw
 refine sr <| la rfl <| la rfl <| en ?_
 refine cdh rfl h (fun c2 h => ?_) (fun c2 h => ?_)
 ·refine sr <| lf Fld_32_2 rfl rfl rfl <| ld3 Tn_30 0 rfl ?_
  obtain ⟨x1, hx1, h⟩ := bs h
  refine lp (p_call Fun_44 rfl (fun w1 hw => m_s_l2Text_ok hw.fro N p0.V hx1)) rfl <| la rfl <| en ?_
  refine WT.ret Tryd.func22 (resOk.one rfl) (fun w1 hw => ?_)
  cases h
  exact post_of_St hw
 refine WT.skip <| ib <| sr <| la rfl <| en ?_
 refine WT.ret Tryd.func22 (resOk.one rfl) (fun w1 hw => ?_)
 cases h
 exact post_of_St hw
theorem m_s_ExprText_ok {Φ : Hp} {w : World} (hΦ : In Φ w) (N : Nat) (p0 : TExpr)   {r : ByteArray} (h : m_s_ExprText N p0 = some r) :
  Calls Tryd.prog 7 [.agg [.string p0.Op, .int .i64 p0.L.K, .string p0.L.S, .int .i64 p0.L.V.K, .int .i64 p0.L.V.N, .string p0.L.V.S, .int .i64 p0.R.K, .string p0.R.S, .int .i64 p0.R.V.K, .int .i64 p0.R.V.N, .string p0.R.V.S].toArray].toArray w (Post (.string r) w) := by
 refine enter Tryd.func7 rfl Tryd.ntmps7 rfl (St.start0 hΦ) ?_
 unfold m_s_ExprText at h
 refine sr ?_
 refine ln (nb rfl) rfl (fun b_1 => ?_)
 refine la rfl <| en <| sq <| sr <| ld11 Tn_34 0 rfl ?_
 obtain ⟨x1, hx1, h⟩ := bs h
 refine lp (p_call Fun_17 rfl (fun w1 hw => m_s_ExprOk_ok hw.fro N p0 hx1)) rfl <| la rfl <| en ?_
 refine cdh rfl h (fun c1 h => ?_) (fun c1 h => ?_)
 ·refine sr <| la rfl <| en ?_
  refine WT.ret Tryd.func7 (resOk.one rfl) (fun w1 hw => ?_)
  cases h
  exact post_of_St hw
 refine WT.skip <| sq <| sr <| lf Fld_34_0 rfl rfl rfl <| lo T1_9 0 rfl <| la rfl <| en ?_
 refine cdh rfl h (fun c2 h => ?_) (fun c2 h => ?_)
 ·refine sr <| lf Fld_34_1 rfl rfl rfl <| ld5 Tn_32 0 rfl ?_
  obtain ⟨x2, hx2, h⟩ := bs h
  refine lp (p_call Fun_22 rfl (fun w1 hw => m_s_l6ArgText_ok hw.fro N p0.L hx2)) rfl <| la rfl <| en ?_
  refine WT.ret Tryd.func7 (resOk.one rfl) (fun w1 hw => ?_)
  cases h
  exact post_of_St hw
 refine WT.skip <| sq <| WT.draw mixed (by kernel_rfl) (fun _ h => h.drew) <| qq (q_fieldAddr Fld_34_1 rfl) rfl <| qq (q_loadN Tn_32 rfl (fun w1 hw => hw.rgO (i := 0) rfl 1 5 [.int .i64 p0.L.K, .string p0.L.S, .int .i64 p0.L.V.K, .int .i64 p0.L.V.N, .string p0.L.V.S] rfl) rfl) rfl ?_
 obtain ⟨x3, hx3, h⟩ := bs h
 refine qp (p_call Fun_22 rfl (fun w1 hw => m_s_l6ArgText_ok hw.fro N p0.L hx3)) rfl ?_
 obtain ⟨z1, hz1, h⟩ := bs h
 refine qq (q_cat rfl rfl hz1) rfl <| qq (q_fieldAddr Fld_34_0 rfl) rfl <| qq (q_load1 T1_9 rfl (fun w1 hw => hw.rgO (i := 0) rfl 0 1 [.string p0.Op] rfl)) rfl ?_
 obtain ⟨z2, hz2, h⟩ := bs h
 refine qq (q_cat rfl rfl hz2) rfl ?_
 obtain ⟨z3, hz3, h⟩ := bs h
 refine qq (q_cat rfl rfl hz3) rfl <| qq (q_fieldAddr Fld_34_2 rfl) rfl <| qq (q_loadN Tn_32 rfl (fun w1 hw => hw.rgO (i := 0) rfl 6 5 [.int .i64 p0.R.K, .string p0.R.S, .int .i64 p0.R.V.K, .int .i64 p0.R.V.N, .string p0.R.V.S] rfl) rfl) rfl ?_
 obtain ⟨x4, hx4, h⟩ := bs h
 refine qp (p_call Fun_22 rfl (fun w1 hw => m_s_l6ArgText_ok hw.fro N p0.R hx4)) rfl ?_
 obtain ⟨z4, hz4, h⟩ := bs h
 refine qq (q_cat rfl rfl hz4) rfl <| qq (q_assign rfl) rfl <| WQ.nil ?_
 refine WT.ret Tryd.func7 (resOk.one rfl) (fun w1 hw => ?_)
 cases h
 exact post_of_St hw
theorem m_s_l8ArgsText_ok {Φ : Hp} {w : World} (hΦ : In Φ w) (N : Nat) (p0 : TAct) {pv0_0 : Value} {pG0_0 : List Nat} (ph0_0 : RSl RTExpr 11 Φ pG0_0 pv0_0 p0.Args) {r : ByteArray} (h : m_s_l8ArgsText N p0 = some r) :
  Calls Tryd.prog 37 [.agg [.int .i64 p0.Kind, .string p0.Name, pv0_0, .int .i64 p0.N, .string p0.Undo].toArray].toArray w (Post (.string r) w) := by
 refine enter Tryd.func37 rfl Tryd.ntmps37 rfl (St.start0 hΦ) ?_
 generalize hb0 : (⟨w, [], Φ⟩ : Base) = w0
 unfold m_s_l8ArgsText at h
 refine sr ?_
 refine ln (nb rfl) rfl (fun b_1 => ?_)
 refine la rfl <| en <| sr <| lf Fld_41_1 rfl rfl rfl <| lo T1_9 0 rfl ?_
 obtain ⟨z1, hz1, h⟩ := bs h
 refine lq (q_cat rfl rfl hz1) rfl <| la rfl <| en <| sq <| sr <| la rfl <| en <| blk ?_
 refine loop_in (σ := ByteArray × Int) (fun s => [(1, .pointer (some ⟨b_1, 0, none⟩)), (3, .string s.1), (4, .int .i64 s.2)]) (fun s => St w0 Φ [(b_1, .cells #[.int .i64 p0.Kind, .string p0.Name, pv0_0, .int .i64 p0.N, .string p0.Undo] 41 (0, 0))] []) (fun m s => m_s_l8ArgsText_l1 N p0 m s.1 s.2 = some r) (z1, 0) N h ⟨rfl, rfl, rfl, trivial⟩ (fun w1 hw => (hw.sel (js := []) rfl).selO (js := [0]) rfl) (fun s hm => none_ne hm) (fun n1 ih1 s hm => ?_)
 obtain ⟨s1, s2⟩ := s
 have h : m_s_l8ArgsText_l1 N p0 (n1 + 1) s1 s2 = some r := hm
 show WT _ _ [(1, .pointer (some ⟨b_1, 0, none⟩)), (3, .string s1), (4, .int .i64 s2)] (St w0 Φ [(b_1, .cells #[.int .i64 p0.Kind, .string p0.Name, pv0_0, .int .i64 p0.N, .string p0.Undo] 41 (0, 0))] [])
 unfold m_s_l8ArgsText_l1 at h
 refine sq <| sr <| la rfl <| lf Fld_41_2 rfl rfl rfl <| lo T1_39 0 rfl <| lq (q_lenR Sl_39 rfl rfl ph0_0) rfl <| la rfl <| en ?_
 refine cdh rfl h (fun c1 h => ?_) (fun c1 h => ?_)
 ·refine WT.skip <| sq <| blk <| sq <| sr <| la rfl <| la rfl <| en ?_
  refine cut (σ := ByteArray) (fun s => [(1, .pointer (some ⟨b_1, 0, none⟩)), (3, .string s), (4, .int .i64 s2)]) (fun s => St w0 Φ [(b_1, .cells #[.int .i64 p0.Kind, .string p0.Name, pv0_0, .int .i64 p0.N, .string p0.Undo] 41 (0, 0))] []) (fun s => m_s_l8ArgsText_j2 N p0 s2 (m_s_l8ArgsText_l1 N p0 n1) s = some r) (fun s hm => ?_) (fun K => ?_)
  ·clear h
   revert hm; revert s; intro s3 hm
   have h : m_s_l8ArgsText_j2 N p0 s2 (m_s_l8ArgsText_l1 N p0 n1) s3 = some r := hm
   show WT _ _ [(1, .pointer (some ⟨b_1, 0, none⟩)), (3, .string s3), (4, .int .i64 s2)] (St w0 Φ [(b_1, .cells #[.int .i64 p0.Kind, .string p0.Name, pv0_0, .int .i64 p0.N, .string p0.Undo] 41 (0, 0))] [])
   unfold m_s_l8ArgsText_j2 at h
   refine rgn <| la rfl <| lf Fld_41_2 rfl rfl rfl <| lo T1_39 0 rfl <| la rfl ?_
   obtain ⟨x1, hx1, h⟩ := bs h
   obtain ⟨cs1, F1, -, g1, hb1, hs1, r1⟩ := ph0_0.el (idx_some hx1).2.2
   obtain ⟨rfl, -⟩ := r1
   refine lq (q_indexAddr Sl_39 rfl rfl ph0_0 hx1) rfl <| lg11 0 Tn_34 g1 rfl rfl ?_
   obtain ⟨x2, hx2, h⟩ := bs h
   refine lp (p_call Fun_7 rfl (fun w1 hw => m_s_ExprText_ok hw.fro N x1 hx2)) rfl ?_
   obtain ⟨z2, hz2, h⟩ := bs h
   refine lq (q_cat rfl rfl hz2) rfl <| la rfl <| en <| ib <| rgn <| la rfl <| la rfl <| la rfl <| en ?_
   exact lback (ih1 (z2, IntKind.i64.wrap (s2 + 1)) h) ⟨rfl, rfl, rfl, trivial⟩ (fun w1 hw => (hw.sel (js := []) rfl).selO (js := [0]) rfl)
  refine cdh rfl h (fun c2 h => ?_) (fun c2 h => ?_)
  ·refine rgn <| la rfl ?_
   obtain ⟨z3, hz3, h⟩ := bs h
   refine lq (q_cat rfl rfl hz3) rfl <| la rfl <| en ?_
   exact wto (K (z3) h) ⟨rfl, rfl, rfl, trivial⟩ (fun w1 hw => (hw.sel (js := []) rfl).selO (js := [0]) rfl)
  refine WT.skip ?_
  exact wto (K (s1) h) ⟨rfl, rfl, rfl, trivial⟩ (fun w1 hw => (hw.sel (js := []) rfl).selO (js := [0]) rfl)
 refine xt rfl <| sr <| la rfl ?_
 obtain ⟨z4, hz4, h⟩ := bs h
 refine lq (q_cat rfl rfl hz4) rfl <| la rfl <| en ?_
 refine WT.ret Tryd.func37 (resOk.one rfl) (fun w1 hw => ?_)
 subst hb0
 cases h
 exact post_of_St hw
theorem m_s_ActText_ok {Φ : Hp} {w : World} (hΦ : In Φ w) (N : Nat) (p0 : TAct) {pv0_0 : Value} {pG0_0 : List Nat} (ph0_0 : RSl RTExpr 11 Φ pG0_0 pv0_0 p0.Args) {r : ByteArray} (h : m_s_ActText N p0 = some r) :
  Calls Tryd.prog 16 [.agg [.int .i64 p0.Kind, .string p0.Name, pv0_0, .int .i64 p0.N, .string p0.Undo].toArray].toArray w (Post (.string r) w) := by
 refine enter Tryd.func16 rfl Tryd.ntmps16 rfl (St.start0 hΦ) ?_
 unfold m_s_ActText at h
 refine sr ?_
 refine ln (nb rfl) rfl (fun b_1 => ?_)
 refine la rfl <| en <| sq <| sr <| ld5 Tn_41 0 rfl ?_
 obtain ⟨x1, hx1, h⟩ := bs h
 refine lp (p_call Fun_15 rfl (fun w1 hw => m_s_ActOk_ok hw.fro N p0 ph0_0 hx1)) rfl <| la rfl <| en ?_
 refine cdh rfl h (fun c1 h => ?_) (fun c1 h => ?_)
 ·refine sr <| la rfl <| en ?_
  refine WT.ret Tryd.func16 (resOk.one rfl) (fun w1 hw => ?_)
  cases h
  exact post_of_St hw
 refine WT.skip <| sq <| sr <| lf Fld_41_0 rfl rfl rfl <| lo T1_3 0 rfl <| en <| blk <| sr <| la rfl <| la rfl <| en ?_
 refine cdh rfl h (fun c2 h => ?_) (fun c2 h => ?_)
 ·refine sr <| ld5 Tn_41 0 rfl ?_
  obtain ⟨x2, hx2, h⟩ := bs h
  refine lp (p_call Fun_37 rfl (fun w1 hw => m_s_l8ArgsText_ok hw.fro N p0 ph0_0 hx2)) rfl ?_
  obtain ⟨z1, hz1, h⟩ := bs h
  refine lq (q_cat rfl rfl hz1) rfl <| la rfl <| en ?_
  refine WT.ret Tryd.func16 (resOk.one rfl) (fun w1 hw => ?_)
  cases h
  exact post_of_St hw
 refine sr <| la rfl <| la rfl <| en ?_
 refine cdh rfl h (fun c3 h => ?_) (fun c3 h => ?_)
 ·refine sr <| lf Fld_41_3 rfl rfl rfl <| lo T1_3 0 rfl ?_
  obtain ⟨x3, hx3, h⟩ := bs h
  refine lp (p_call Fun_38 rfl (fun w1 hw => m_s_l2Num_ok N hw.fro p0.N hx3)) rfl ?_
  obtain ⟨z2, hz2, h⟩ := bs h
  refine lq (q_cat rfl rfl hz2) rfl <| la rfl <| en ?_
  refine WT.ret Tryd.func16 (resOk.one rfl) (fun w1 hw => ?_)
  cases h
  exact post_of_St hw
 refine sr <| la rfl <| la rfl <| en ?_
 refine cdh rfl h (fun c4 h => ?_) (fun c4 h => ?_)
 ·refine sq <| WT.draw mixed (by kernel_rfl) (fun _ h => h.drew) <| qq (q_fieldAddr Fld_41_3 rfl) rfl <| qq (q_load1 T1_3 rfl (fun w1 hw => hw.rgO (i := 0) rfl 3 1 [.int .i64 p0.N] rfl)) rfl ?_
  obtain ⟨x4, hx4, h⟩ := bs h
  refine qp (p_call Fun_38 rfl (fun w1 hw => m_s_l2Num_ok N hw.fro p0.N hx4)) rfl ?_
  obtain ⟨z3, hz3, h⟩ := bs h
  refine qq (q_cat rfl rfl hz3) rfl ?_
  obtain ⟨z4, hz4, h⟩ := bs h
  refine qq (q_cat rfl rfl hz4) rfl <| qq (q_loadN Tn_41 rfl (fun w1 hw => hw.rgO (i := 0) rfl 0 5 [.int .i64 p0.Kind, .string p0.Name, pv0_0, .int .i64 p0.N, .string p0.Undo] rfl) rfl) rfl ?_
  obtain ⟨x5, hx5, h⟩ := bs h
  refine qp (p_call Fun_37 rfl (fun w1 hw => m_s_l8ArgsText_ok hw.fro N p0 ph0_0 hx5)) rfl ?_
  obtain ⟨z5, hz5, h⟩ := bs h
  refine qq (q_cat rfl rfl hz5) rfl <| qq (q_assign rfl) rfl <| WQ.nil ?_
  refine WT.ret Tryd.func16 (resOk.one rfl) (fun w1 hw => ?_)
  cases h
  exact post_of_St hw
 refine sr <| la rfl <| la rfl <| en ?_
 refine cdh rfl h (fun c5 h => ?_) (fun c5 h => ?_)
 ·refine sr <| la rfl <| en ?_
  refine WT.ret Tryd.func16 (resOk.one rfl) (fun w1 hw => ?_)
  cases h
  exact post_of_St hw
 refine sr <| la rfl <| la rfl <| en ?_
 refine cdh rfl h (fun c6 h => ?_) (fun c6 h => ?_)
 ·refine sr <| la rfl <| en ?_
  refine WT.ret Tryd.func16 (resOk.one rfl) (fun w1 hw => ?_)
  cases h
  exact post_of_St hw
 refine WT.skip <| ib <| sq <| sr <| lf Fld_41_4 rfl rfl rfl <| lo T1_9 0 rfl <| la rfl <| en ?_
 refine cdh rfl h (fun c7 h => ?_) (fun c7 h => ?_)
 ·refine sr <| ld5 Tn_41 0 rfl ?_
  obtain ⟨x6, hx6, h⟩ := bs h
  refine lp (p_call Fun_37 rfl (fun w1 hw => m_s_l8ArgsText_ok hw.fro N p0 ph0_0 hx6)) rfl ?_
  obtain ⟨z6, hz6, h⟩ := bs h
  refine lq (q_cat rfl rfl hz6) rfl <| la rfl <| en ?_
  refine WT.ret Tryd.func16 (resOk.one rfl) (fun w1 hw => ?_)
  cases h
  exact post_of_St hw
 refine WT.skip <| sq <| WT.draw mixed (by kernel_rfl) (fun _ h => h.drew) <| qq (q_loadN Tn_41 rfl (fun w1 hw => hw.rgO (i := 0) rfl 0 5 [.int .i64 p0.Kind, .string p0.Name, pv0_0, .int .i64 p0.N, .string p0.Undo] rfl) rfl) rfl ?_
 obtain ⟨x7, hx7, h⟩ := bs h
 refine qp (p_call Fun_37 rfl (fun w1 hw => m_s_l8ArgsText_ok hw.fro N p0 ph0_0 hx7)) rfl ?_
 obtain ⟨z7, hz7, h⟩ := bs h
 refine qq (q_cat rfl rfl hz7) rfl ?_
 obtain ⟨z8, hz8, h⟩ := bs h
 refine qq (q_cat rfl rfl hz8) rfl <| qq (q_fieldAddr Fld_41_4 rfl) rfl <| qq (q_load1 T1_9 rfl (fun w1 hw => hw.rgO (i := 0) rfl 4 1 [.string p0.Undo] rfl)) rfl ?_
 obtain ⟨z9, hz9, h⟩ := bs h
 refine qq (q_cat rfl rfl hz9) rfl <| qq (q_assign rfl) rfl <| WQ.nil ?_
 refine WT.ret Tryd.func16 (resOk.one rfl) (fun w1 hw => ?_)
 cases h
 exact post_of_St hw
theorem m_l_FnActs_ok {Φ : Hp} {w : World} (hΦ : In Φ w) (N : Nat) (p0 : (List Int)) {pv0 : Value} {pG0 : List Nat} (hT : Tab Φ) (ph0 : RSl (RI .u8) 1 Φ pG0 pv0 p0) {r : Bool} (h : m_l_FnActs N p0 = some r) :
  Calls Tryd.prog 4 [pv0].toArray w (Post (.bool r) w) := by
 refine enter Tryd.func4 rfl Tryd.ntmps4 rfl (St.start0 hΦ) ?_
 have pa0 := Old.mk hΦ ph0.kn (Dj.empty _)
 revert pa0
 generalize hb0 : (⟨w, [], Φ⟩ : Base) = w0
 intro pa0
 unfold m_l_FnActs at h
 refine sr <| la rfl <| en <| sq <| sr <| la rfl ?_
 obtain ⟨x1, hx1, h⟩ := bs h
 refine lp (p_call Fun_10 rfl (fun w1 hw => m_l_big_ok hw.fro N p0 ph0 hx1)) rfl <| en ?_
 refine cdh rfl h (fun c1 h => ?_) (fun c1 h => ?_)
 ·refine sr <| la rfl <| en ?_
  refine WT.ret Tryd.func4 (resOk.one rfl) (fun w1 hw => ?_)
  subst hb0
  cases h
  exact post_of_St hw
 refine WT.skip <| sr <| la rfl ?_
 obtain ⟨x2, hx2, h⟩ := bs h
 refine lc (k_call (js := []) (R := []) Fun_11 rfl rfl (fun w1 hw ap hl => m_s_DrawActOk_ok hw.fro N p0 ph0  hx2)) rfl (fun v1 Φ_1 F1 q1 => ?_)
 obtain ⟨ap1, fr1, v2, rfl, rfl, h1⟩ := q1
 replace ph0 := ph0.frame RI.lasts fr1 (ap1.o pa0)
 refine ln (nz Zr_41) rfl (fun b_1 => ?_)
 refine soN 0 Sz_41 rfl ⟨rfl, rfl, h1.one, rfl, rfl, trivial⟩ rfl ?_
 refine en <| sr <| la rfl ?_
 obtain ⟨x3, hx3, h⟩ := bs h
 refine lp (p_call Fun_12 rfl (fun w1 hw => m_s_DrawExprText_ok hw.fro N p0 ph0 hx3)) rfl ?_
 refine ln (nz Zr_34) rfl (fun b_2 => ?_)
 refine soN 0 Sz_34 rfl ⟨rfl, rfl, rfl, rfl, rfl, rfl, rfl, rfl, rfl, rfl, rfl, trivial⟩ rfl ?_
 refine en <| sr <| ld5 Tn_41 1 rfl ?_
 obtain ⟨x4, hx4, h⟩ := bs h
 refine lp (p_call Fun_13 rfl (fun w1 hw => m_i_ActText_ok hw.fro N x2 (hT.fr (by subst hb0; exact hw.frB hΦ)) h1.rsl hx4)) rfl <| la rfl <| en <| sq <| WT.draw mixed (by kernel_rfl) (fun _ h => h.drew) <| qq (q_loadN Tn_41 rfl (fun w1 hw => hw.rgO (i := 1) rfl 0 5 [.int .i64 x2.Kind, .string x2.Name, v2, .int .i64 x2.N, .string x2.Undo] rfl) rfl) rfl ?_
 obtain ⟨x5, hx5, h⟩ := bs h
 refine qp (p_call Fun_14 rfl (fun w1 hw => m_i_ActOk_ok hw.fro N x2 h1.rsl hx5)) rfl <| qq (q_loadN Tn_41 rfl (fun w1 hw => hw.rgO (i := 1) rfl 0 5 [.int .i64 x2.Kind, .string x2.Name, v2, .int .i64 x2.N, .string x2.Undo] rfl) rfl) rfl ?_
 obtain ⟨x6, hx6, h⟩ := bs h
 refine qp (p_call Fun_15 rfl (fun w1 hw => m_s_ActOk_ok hw.fro N x2 h1.rsl hx6)) rfl <| qq (q_beq Bo_4 rfl rfl) rfl <| qq (q_move rfl) rfl ?_
 obtain ⟨b1, hb_1, h⟩ := bs h
 refine WQ.cutN 6 [(25, .bool b1), (3, .pointer (some ⟨b_1, 0, none⟩)), (4, .pointer (some ⟨b_2, 0, none⟩)), (5, .string x4)] ?_ (fun K => ?_)
 rotate_left
 ·refine WQ.split (d := 19) rfl (fun c2 => ?_) (fun c2 => ?_)
  ·replace hb_1 := ite_t hb_1 c2
   refine WQ.yes rfl rfl <| qq (q_move rfl) rfl <| WQ.yes rfl rfl <| qq (q_sne rfl rfl) rfl <| WQ.yes rfl rfl <| qq (q_loadN Tn_41 rfl (fun w1 hw => hw.rgO (i := 1) rfl 0 5 [.int .i64 x2.Kind, .string x2.Name, v2, .int .i64 x2.N, .string x2.Undo] rfl) rfl) rfl <| WQ.yes rfl rfl ?_
   obtain ⟨x7, hx7, hb_1⟩ := bs hb_1
   refine qp (p_call Fun_15 rfl (fun w1 hw => m_s_ActOk_ok hw.fro N x2 h1.rsl hx7)) rfl <| WQ.yes rfl rfl <| qq (q_beq Bo_4 rfl rfl) rfl <| WQ.q (q_pick1 rfl rfl) rfl rfl rfl ?_
   cases hb_1
   exact WQ.keep (by exact ⟨rfl, rfl, rfl, rfl, trivial⟩) K
  ·replace hb_1 := ite_f hb_1 c2
   refine WQ.no rfl rfl rfl rfl <| WQ.no rfl rfl rfl rfl <| WQ.no rfl rfl rfl rfl <| WQ.no rfl rfl rfl rfl <| WQ.no rfl rfl rfl rfl <| WQ.q (q_pick0 rfl rfl) rfl rfl rfl ?_
   cases hb_1
   exact WQ.keep (by exact ⟨rfl, rfl, rfl, rfl, trivial⟩) K
 refine qq (q_move rfl) rfl ?_
 obtain ⟨b2, hb_2, h⟩ := bs h
 refine WQ.cutN 5 [(31, .bool b2), (4, .pointer (some ⟨b_2, 0, none⟩))] ?_ (fun K => ?_)
 rotate_left
 ·refine WQ.split (d := 26) rfl (fun c3 => ?_) (fun c3 => ?_)
  ·replace hb_2 := ite_t hb_2 c3
   refine WQ.yes rfl rfl <| qq (q_move rfl) rfl <| WQ.yes rfl rfl <| qq (q_loadN Tn_41 rfl (fun w1 hw => hw.rgO (i := 1) rfl 0 5 [.int .i64 x2.Kind, .string x2.Name, v2, .int .i64 x2.N, .string x2.Undo] rfl) rfl) rfl <| WQ.yes rfl rfl ?_
   obtain ⟨x8, hx8, hb_2⟩ := bs hb_2
   refine qp (p_call Fun_16 rfl (fun w1 hw => m_s_ActText_ok hw.fro N x2 h1.rsl hx8)) rfl <| WQ.yes rfl rfl <| qq (q_seq rfl rfl) rfl <| WQ.q (q_pick1 rfl rfl) rfl rfl rfl ?_
   cases hb_2
   exact WQ.keep (by exact ⟨rfl, rfl, trivial⟩) K
  ·replace hb_2 := ite_f hb_2 c3
   refine WQ.no rfl rfl rfl rfl <| WQ.no rfl rfl rfl rfl <| WQ.no rfl rfl rfl rfl <| WQ.no rfl rfl rfl rfl <| WQ.q (q_pick0 rfl rfl) rfl rfl rfl ?_
   cases hb_2
   exact WQ.keep (by exact ⟨rfl, rfl, trivial⟩) K
 refine qq (q_move rfl) rfl ?_
 obtain ⟨b3, hb_3, h⟩ := bs h
 refine WQ.cutN 7 [(39, .bool b3)] ?_ (fun K => ?_)
 rotate_left
 ·refine WQ.split (d := 32) rfl (fun c4 => ?_) (fun c4 => ?_)
  ·replace hb_3 := ite_t hb_3 c4
   refine WQ.yes rfl rfl <| qq (q_loadN Tn_34 rfl (fun w1 hw => hw.rgO (i := 0) rfl 0 11 [.string x3.Op, .int .i64 x3.L.K, .string x3.L.S, .int .i64 x3.L.V.K, .int .i64 x3.L.V.N, .string x3.L.V.S, .int .i64 x3.R.K, .string x3.R.S, .int .i64 x3.R.V.K, .int .i64 x3.R.V.N, .string x3.R.V.S] rfl) rfl) rfl <| WQ.yes rfl rfl ?_
   obtain ⟨x9, hx9, hb_3⟩ := bs hb_3
   refine qp (p_call Fun_9 rfl (fun w1 hw => m_i_ExprText_ok hw.fro N x3 (hT.fr (by subst hb0; exact hw.frB hΦ)) hx9)) rfl <| WQ.yes rfl rfl <| qq (q_sne rfl rfl) rfl <| WQ.yes rfl rfl <| qq (q_loadN Tn_34 rfl (fun w1 hw => hw.rgO (i := 0) rfl 0 11 [.string x3.Op, .int .i64 x3.L.K, .string x3.L.S, .int .i64 x3.L.V.K, .int .i64 x3.L.V.N, .string x3.L.V.S, .int .i64 x3.R.K, .string x3.R.S, .int .i64 x3.R.V.K, .int .i64 x3.R.V.N, .string x3.R.V.S] rfl) rfl) rfl ?_
   refine WQ.yes rfl rfl ?_
   obtain ⟨x10, hx10, hb_3⟩ := bs hb_3
   refine qp (p_call Fun_17 rfl (fun w1 hw => m_s_ExprOk_ok hw.fro N x3 hx10)) rfl <| WQ.yes rfl rfl <| qq (q_beq Bo_4 rfl rfl) rfl <| WQ.q (q_pick1 rfl rfl) rfl rfl rfl ?_
   cases hb_3
   exact WQ.keep (by exact ⟨rfl, trivial⟩) K
  ·replace hb_3 := ite_f hb_3 c4
   refine WQ.no rfl rfl rfl rfl <| WQ.no rfl rfl rfl rfl <| WQ.no rfl rfl rfl rfl <| WQ.no rfl rfl rfl rfl <| WQ.no rfl rfl rfl rfl <| WQ.no rfl rfl rfl rfl <| WQ.q (q_pick0 rfl rfl) rfl rfl rfl ?_
   cases hb_3
   exact WQ.keep (by exact ⟨rfl, trivial⟩) K
 refine qq (q_assign rfl) rfl <| WQ.nil ?_
 refine WT.ret Tryd.func4 (resOk.one rfl) (fun w1 hw => ?_)
 subst hb0
 cases h
 exact post_of_St hw
end Go.Proofs.YtlfpehhlkccdiaaDoor
