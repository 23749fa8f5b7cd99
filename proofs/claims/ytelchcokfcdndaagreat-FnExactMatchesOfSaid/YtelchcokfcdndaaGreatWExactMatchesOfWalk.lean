/- Printed by a program of ours: each Go function computes its Lean function. -/
import Derived.Test.YtelchcokfcdndaaGreatProg
import Derived.Test.YtelchcokfcdndaaGreatWExactMatchesOfWalk4
namespace Go.Proofs.YtelchcokfcdndaaGreat
open Eng
open Go.RowKit (Below)
set_option linter.unusedVariables false
set_option linter.unusedSimpArgs false

set_option maxRecDepth 100000
set_option maxHeartbeats 1000000
theorem m_l_eqAct_ok {Φ : Hp} {w : World} (hΦ : In Φ w) (N : Nat) (p0 : TAct) (p1 : TAct) {pv0_0 pv1_0 : Value} {pG0_0 pG1_0 : List Nat} (ph0_0 : RSl RTExpr 11 Φ pG0_0 pv0_0 p0.Args) (ph1_0 : RSl RTExpr 11 Φ pG1_0 pv1_0 p1.Args) {r : Bool} (h : m_l_eqAct N p0 p1 = some r) :
  Calls Tryz.prog 114 [.agg [.int .i64 p0.Kind, .string p0.Name, pv0_0, .int .i64 p0.N, .string p0.Undo].toArray, .agg [.int .i64 p1.Kind, .string p1.Name, pv1_0, .int .i64 p1.N, .string p1.Undo].toArray].toArray w (Post (.bool r) w) := by
 refine enter Tryz.func114 rfl Tryz.ntmps114 rfl (St.start0 hΦ) ?_
 unfold m_l_eqAct at h
 refine sr ?_
 refine ln (nb rfl) rfl (fun b_1 => ?_)
 refine ln (nb rfl) rfl (fun b_2 => ?_)
 refine la rfl <| en <| sq <| sr <| lf Fld_143_0 rfl rfl rfl <| lo T1_3 1 rfl <| lf Fld_143_0 rfl rfl rfl <| lo T1_3 0 rfl <| la rfl <| en ?_
 refine cdh rfl h (fun c1 h => ?_) (fun c1 h => ?_)
 ·refine sr <| la rfl <| en ?_
  refine WT.ret Tryz.func114 (resOk.one rfl) (fun w1 hw => ?_)
  cases h
  exact post_of_St hw
 refine WT.skip <| sq <| sr <| lf Fld_143_1 rfl rfl rfl <| lo T1_9 1 rfl <| lf Fld_143_1 rfl rfl rfl <| lo T1_9 0 rfl <| la rfl <| en ?_
 refine cdh rfl h (fun c2 h => ?_) (fun c2 h => ?_)
 ·refine sr <| la rfl <| en ?_
  refine WT.ret Tryz.func114 (resOk.one rfl) (fun w1 hw => ?_)
  cases h
  exact post_of_St hw
 refine WT.skip <| sq <| sr <| lf Fld_143_2 rfl rfl rfl <| lo T1_141 1 rfl <| lf Fld_143_2 rfl rfl rfl <| lo T1_141 0 rfl ?_
 obtain ⟨x1, hx1, h⟩ := bs h
 refine lp (p_call Fun_171 rfl (fun w1 hw => m_l_eqExprS_ok hw.fro N p0.Args p1.Args ph0_0 ph1_0 hx1)) rfl <| la rfl <| en ?_
 refine cdh rfl h (fun c3 h => ?_) (fun c3 h => ?_)
 ·refine sr <| la rfl <| en ?_
  refine WT.ret Tryz.func114 (resOk.one rfl) (fun w1 hw => ?_)
  cases h
  exact post_of_St hw
 refine WT.skip <| sq <| sr <| lf Fld_143_3 rfl rfl rfl <| lo T1_3 1 rfl <| lf Fld_143_3 rfl rfl rfl <| lo T1_3 0 rfl <| la rfl <| en ?_
 refine cdh rfl h (fun c4 h => ?_) (fun c4 h => ?_)
 ·refine sr <| la rfl <| en ?_
  refine WT.ret Tryz.func114 (resOk.one rfl) (fun w1 hw => ?_)
  cases h
  exact post_of_St hw
 refine WT.skip <| sq <| sr <| lf Fld_143_4 rfl rfl rfl <| lo T1_9 1 rfl <| lf Fld_143_4 rfl rfl rfl <| lo T1_9 0 rfl <| la rfl <| en ?_
 refine cdh rfl h (fun c5 h => ?_) (fun c5 h => ?_)
 ·refine sr <| la rfl <| en ?_
  refine WT.ret Tryz.func114 (resOk.one rfl) (fun w1 hw => ?_)
  cases h
  exact post_of_St hw
 refine WT.skip <| sr <| la rfl <| en ?_
 refine WT.ret Tryz.func114 (resOk.one rfl) (fun w1 hw => ?_)
 cases h
 exact post_of_St hw
theorem m_l_eqActS_ok {Φ : Hp} {w : World} (hΦ : In Φ w) (N : Nat) (p0 : (List TAct)) (p1 : (List TAct)) {pv0 pv1 : Value} {pG0 pG1 : List Nat} (ph0 : RSl RTAct 5 Φ pG0 pv0 p0) (ph1 : RSl RTAct 5 Φ pG1 pv1 p1) {r : Bool} (h : m_l_eqActS N p0 p1 = some r) :
  Calls Tryz.prog 58 [pv0, pv1].toArray w (Post (.bool r) w) := by
 refine enter Tryz.func58 rfl Tryz.ntmps58 rfl (St.start0 hΦ) ?_
 generalize hb0 : (⟨w, [], Φ⟩ : Base) = w0
 unfold m_l_eqActS at h
 refine sr <| la rfl <| en <| sq <| sr <| la rfl <| lq (q_lenR Sl_38 rfl rfl ph0) rfl <| la rfl <| lq (q_lenR Sl_38 rfl rfl ph1) rfl <| la rfl <| en ?_
 refine cdh rfl h (fun c1 h => ?_) (fun c1 h => ?_)
 ·refine sr <| la rfl <| en ?_
  refine WT.ret Tryz.func58 (resOk.one rfl) (fun w1 hw => ?_)
  subst hb0
  cases h
  exact post_of_St hw
 refine WT.skip <| sq <| sr <| la rfl <| en <| blk ?_
 refine loop_in (σ := Int) (fun s => [(0, pv0), (1, pv1), (5, .int .i64 s)]) (fun s => St w0 Φ [] []) (fun m s => m_l_eqActS_l1 N p0 p1 m s = some r) (0) N h ⟨rfl, rfl, rfl, trivial⟩ (fun w1 hw => (hw.sel (js := []) rfl).selO (js := []) rfl) (fun s hm => none_ne hm) (fun n1 ih1 s hm => ?_)
 revert hm; revert s; intro s1 hm
 have h : m_l_eqActS_l1 N p0 p1 (n1 + 1) s1 = some r := hm
 show WT _ _ [(0, pv0), (1, pv1), (5, .int .i64 s1)] (St w0 Φ [] [])
 unfold m_l_eqActS_l1 at h
 refine sq <| sr <| la rfl <| la rfl <| lq (q_lenR Sl_38 rfl rfl ph0) rfl <| la rfl <| en ?_
 refine cdh rfl h (fun c2 h => ?_) (fun c2 h => ?_)
 ·refine WT.skip <| sq <| blk <| sq <| WT.draw mixed (by kernel_rfl) (fun _ h => h.drew) <| qq (q_move rfl) rfl <| qq (q_move rfl) rfl ?_
  obtain ⟨x1, hx1, h⟩ := bs h
  obtain ⟨cs1, F1, -, g1, hb1, hs1, r1⟩ := ph0.el (idx_some hx1).2.2
  obtain ⟨v1, G1, rfl, hq1, h1⟩ := r1
  obtain rfl := hq1.symm
  refine qq (q_indexAddr Sl_38 rfl rfl ph0 hx1) rfl <| qq (q_loadN Tn_143 rfl (fun w1 hw => (g1.of_eq 0 5 rfl rfl : rg _ _ _ [.int .i64 x1.Kind, .string x1.Name, v1, .int .i64 x1.N, .string x1.Undo]).rangeAt hw.fro) rfl) rfl <| qq (q_move rfl) rfl <| qq (q_move rfl) rfl ?_
  obtain ⟨x2, hx2, h⟩ := bs h
  obtain ⟨cs2, F2, -, g2, hb2, hs2, r2⟩ := ph1.el (idx_some hx2).2.2
  obtain ⟨v2, G2, rfl, hq2, h2⟩ := r2
  obtain rfl := hq2.symm
  refine qq (q_indexAddr Sl_38 rfl rfl ph1 hx2) rfl <| qq (q_loadN Tn_143 rfl (fun w1 hw => (g2.of_eq 0 5 rfl rfl : rg _ _ _ [.int .i64 x2.Kind, .string x2.Name, v2, .int .i64 x2.N, .string x2.Undo]).rangeAt hw.fro) rfl) rfl ?_
  obtain ⟨x3, hx3, h⟩ := bs h
  refine qp (p_call Fun_114 rfl (fun w1 hw => m_l_eqAct_ok hw.fro N x1 x2 h1 h2 hx3)) rfl <| qq (q_not rfl) rfl <| WQ.nil ?_
  refine cdh rfl h (fun c3 h => ?_) (fun c3 h => ?_)
  ·refine sr <| la rfl <| en ?_
   refine WT.ret Tryz.func58 (resOk.one rfl) (fun w1 hw => ?_)
   subst hb0
   cases h
   exact post_of_St hw
  refine WT.skip <| ib <| rgn <| la rfl <| la rfl <| la rfl <| en ?_
  exact lback (ih1 (IntKind.i64.wrap (s1 + 1)) h) ⟨rfl, rfl, rfl, trivial⟩ (fun w1 hw => (hw.sel (js := []) rfl).selO (js := []) rfl)
 refine xt rfl <| sr <| la rfl <| en ?_
 refine WT.ret Tryz.func58 (resOk.one rfl) (fun w1 hw => ?_)
 subst hb0
 cases h
 exact post_of_St hw
theorem m_l_eqRule_ok {Φ : Hp} {w : World} (hΦ : In Φ w) (N : Nat) (p0 : TRule) (p1 : TRule) {pv0_0 pv0_1 pv0_2 pv1_0 pv1_1 pv1_2 : Value} {pG0_0 pG0_1 pG0_2 pG1_0 pG1_1 pG1_2 : List Nat} (ph0_0 : RSl RTPat 3 Φ pG0_0 pv0_0 p0.Pats) (ph0_1 : RSl RTCond 11 Φ pG0_1 pv0_1 p0.Conds) (ph0_2 : RSl RTAct 5 Φ pG0_2 pv0_2 p0.Acts) (ph1_0 : RSl RTPat 3 Φ pG1_0 pv1_0 p1.Pats) (ph1_1 : RSl RTCond 11 Φ pG1_1 pv1_1 p1.Conds) (ph1_2 : RSl RTAct 5 Φ pG1_2 pv1_2 p1.Acts) {r : Bool} (h : m_l_eqRule N p0 p1 = some r) :
  Calls Tryz.prog 20 [.agg [.string p0.Name, .int .i64 p0.Sal, pv0_0, pv0_1, pv0_2].toArray, .agg [.string p1.Name, .int .i64 p1.Sal, pv1_0, pv1_1, pv1_2].toArray].toArray w (Post (.bool r) w) := by
 refine enter Tryz.func20 rfl Tryz.ntmps20 rfl (St.start0 hΦ) ?_
 unfold m_l_eqRule at h
 refine sr ?_
 refine ln (nb rfl) rfl (fun b_1 => ?_)
 refine ln (nb rfl) rfl (fun b_2 => ?_)
 refine la rfl <| en <| sq <| sr <| lf Fld_40_0 rfl rfl rfl <| lo T1_9 1 rfl <| lf Fld_40_0 rfl rfl rfl <| lo T1_9 0 rfl <| la rfl <| en ?_
 refine cdh rfl h (fun c1 h => ?_) (fun c1 h => ?_)
 ·refine sr <| la rfl <| en ?_
  refine WT.ret Tryz.func20 (resOk.one rfl) (fun w1 hw => ?_)
  cases h
  exact post_of_St hw
 refine WT.skip <| sq <| sr <| lf Fld_40_1 rfl rfl rfl <| lo T1_3 1 rfl <| lf Fld_40_1 rfl rfl rfl <| lo T1_3 0 rfl <| la rfl <| en ?_
 refine cdh rfl h (fun c2 h => ?_) (fun c2 h => ?_)
 ·refine sr <| la rfl <| en ?_
  refine WT.ret Tryz.func20 (resOk.one rfl) (fun w1 hw => ?_)
  cases h
  exact post_of_St hw
 refine WT.skip <| sq <| sr <| lf Fld_40_2 rfl rfl rfl <| lo T1_36 1 rfl <| lf Fld_40_2 rfl rfl rfl <| lo T1_36 0 rfl ?_
 obtain ⟨x1, hx1, h⟩ := bs h
 refine lp (p_call Fun_56 rfl (fun w1 hw => m_l_eqPatS_ok hw.fro N p0.Pats p1.Pats ph0_0 ph1_0 hx1)) rfl <| la rfl <| en ?_
 refine cdh rfl h (fun c3 h => ?_) (fun c3 h => ?_)
 ·refine sr <| la rfl <| en ?_
  refine WT.ret Tryz.func20 (resOk.one rfl) (fun w1 hw => ?_)
  cases h
  exact post_of_St hw
 refine WT.skip <| sq <| sr <| lf Fld_40_3 rfl rfl rfl <| lo T1_37 1 rfl <| lf Fld_40_3 rfl rfl rfl <| lo T1_37 0 rfl ?_
 obtain ⟨x2, hx2, h⟩ := bs h
 refine lp (p_call Fun_57 rfl (fun w1 hw => m_l_eqCondS_ok hw.fro N p0.Conds p1.Conds ph0_1 ph1_1 hx2)) rfl <| la rfl <| en ?_
 refine cdh rfl h (fun c4 h => ?_) (fun c4 h => ?_)
 ·refine sr <| la rfl <| en ?_
  refine WT.ret Tryz.func20 (resOk.one rfl) (fun w1 hw => ?_)
  cases h
  exact post_of_St hw
 refine WT.skip <| sq <| sr <| lf Fld_40_4 rfl rfl rfl <| lo T1_38 1 rfl <| lf Fld_40_4 rfl rfl rfl <| lo T1_38 0 rfl ?_
 obtain ⟨x3, hx3, h⟩ := bs h
 refine lp (p_call Fun_58 rfl (fun w1 hw => m_l_eqActS_ok hw.fro N p0.Acts p1.Acts ph0_2 ph1_2 hx3)) rfl <| la rfl <| en ?_
 refine cdh rfl h (fun c5 h => ?_) (fun c5 h => ?_)
 ·refine sr <| la rfl <| en ?_
  refine WT.ret Tryz.func20 (resOk.one rfl) (fun w1 hw => ?_)
  cases h
  exact post_of_St hw
 refine WT.skip <| sr <| la rfl <| en ?_
 refine WT.ret Tryz.func20 (resOk.one rfl) (fun w1 hw => ?_)
 cases h
 exact post_of_St hw
theorem m_l_eqValS_ok {Φ : Hp} {w : World} (hΦ : In Φ w) (N : Nat) (p0 : (List TVal)) (p1 : (List TVal)) {pv0 pv1 : Value} {pG0 pG1 : List Nat} (ph0 : RSl RTVal 3 Φ pG0 pv0 p0) (ph1 : RSl RTVal 3 Φ pG1 pv1 p1) {r : Bool} (h : m_l_eqValS N p0 p1 = some r) :
  Calls Tryz.prog 199 [pv0, pv1].toArray w (Post (.bool r) w) := by
 refine enter Tryz.func199 rfl Tryz.ntmps199 rfl (St.start0 hΦ) ?_
 generalize hb0 : (⟨w, [], Φ⟩ : Base) = w0
 unfold m_l_eqValS at h
 refine sr <| la rfl <| en <| sq <| sr <| la rfl <| lq (q_lenR Sl_121 rfl rfl ph0) rfl <| la rfl <| lq (q_lenR Sl_121 rfl rfl ph1) rfl <| la rfl <| en ?_
 refine cdh rfl h (fun c1 h => ?_) (fun c1 h => ?_)
 ·refine sr <| la rfl <| en ?_
  refine WT.ret Tryz.func199 (resOk.one rfl) (fun w1 hw => ?_)
  subst hb0
  cases h
  exact post_of_St hw
 refine WT.skip <| sq <| sr <| la rfl <| en <| blk ?_
 refine loop_in (σ := Int) (fun s => [(0, pv0), (1, pv1), (5, .int .i64 s)]) (fun s => St w0 Φ [] []) (fun m s => m_l_eqValS_l1 N p0 p1 m s = some r) (0) N h ⟨rfl, rfl, rfl, trivial⟩ (fun w1 hw => (hw.sel (js := []) rfl).selO (js := []) rfl) (fun s hm => none_ne hm) (fun n1 ih1 s hm => ?_)
 revert hm; revert s; intro s1 hm
 have h : m_l_eqValS_l1 N p0 p1 (n1 + 1) s1 = some r := hm
 show WT _ _ [(0, pv0), (1, pv1), (5, .int .i64 s1)] (St w0 Φ [] [])
 unfold m_l_eqValS_l1 at h
 refine sq <| sr <| la rfl <| la rfl <| lq (q_lenR Sl_121 rfl rfl ph0) rfl <| la rfl <| en ?_
 refine cdh rfl h (fun c2 h => ?_) (fun c2 h => ?_)
 ·refine WT.skip <| sq <| blk <| sq <| WT.draw mixed (by kernel_rfl) (fun _ h => h.drew) <| qq (q_move rfl) rfl <| qq (q_move rfl) rfl ?_
  obtain ⟨x1, hx1, h⟩ := bs h
  obtain ⟨cs1, F1, -, g1, hb1, hs1, r1⟩ := ph0.el (idx_some hx1).2.2
  obtain ⟨rfl, -⟩ := r1
  refine qq (q_indexAddr Sl_121 rfl rfl ph0 hx1) rfl <| qq (q_loadN Tn_85 rfl (fun w1 hw => (g1.of_eq 0 3 rfl rfl : rg _ _ _ [.int .i64 x1.K, .int .i64 x1.N, .string x1.S]).rangeAt hw.fro) rfl) rfl <| qq (q_move rfl) rfl <| qq (q_move rfl) rfl ?_
  obtain ⟨x2, hx2, h⟩ := bs h
  obtain ⟨cs2, F2, -, g2, hb2, hs2, r2⟩ := ph1.el (idx_some hx2).2.2
  obtain ⟨rfl, -⟩ := r2
  refine qq (q_indexAddr Sl_121 rfl rfl ph1 hx2) rfl <| qq (q_loadN Tn_85 rfl (fun w1 hw => (g2.of_eq 0 3 rfl rfl : rg _ _ _ [.int .i64 x2.K, .int .i64 x2.N, .string x2.S]).rangeAt hw.fro) rfl) rfl ?_
  obtain ⟨x3, hx3, h⟩ := bs h
  refine qp (p_call Fun_197 rfl (fun w1 hw => m_l_eqVal_ok hw.fro N x1 x2 hx3)) rfl <| qq (q_not rfl) rfl <| WQ.nil ?_
  refine cdh rfl h (fun c3 h => ?_) (fun c3 h => ?_)
  ·refine sr <| la rfl <| en ?_
   refine WT.ret Tryz.func199 (resOk.one rfl) (fun w1 hw => ?_)
   subst hb0
   cases h
   exact post_of_St hw
  refine WT.skip <| ib <| rgn <| la rfl <| la rfl <| la rfl <| en ?_
  exact lback (ih1 (IntKind.i64.wrap (s1 + 1)) h) ⟨rfl, rfl, rfl, trivial⟩ (fun w1 hw => (hw.sel (js := []) rfl).selO (js := []) rfl)
 refine xt rfl <| sr <| la rfl <| en ?_
 refine WT.ret Tryz.func199 (resOk.one rfl) (fun w1 hw => ?_)
 subst hb0
 cases h
 exact post_of_St hw
theorem m_l_eqFact_ok {Φ : Hp} {w : World} (hΦ : In Φ w) (N : Nat) (p0 : TFact) (p1 : TFact) {pv0_0 pv1_0 : Value} {pG0_0 pG1_0 : List Nat} (ph0_0 : RSl RTVal 3 Φ pG0_0 pv0_0 p0.Fields) (ph1_0 : RSl RTVal 3 Φ pG1_0 pv1_0 p1.Fields) {r : Bool} (h : m_l_eqFact N p0 p1 = some r) :
  Calls Tryz.prog 172 [.agg [.string p0.Kind, pv0_0].toArray, .agg [.string p1.Kind, pv1_0].toArray].toArray w (Post (.bool r) w) := by
 refine enter Tryz.func172 rfl Tryz.ntmps172 rfl (St.start0 hΦ) ?_
 unfold m_l_eqFact at h
 refine sr ?_
 refine ln (nb rfl) rfl (fun b_1 => ?_)
 refine ln (nb rfl) rfl (fun b_2 => ?_)
 refine la rfl <| en <| sq <| sr <| lf Fld_123_0 rfl rfl rfl <| lo T1_9 1 rfl <| lf Fld_123_0 rfl rfl rfl <| lo T1_9 0 rfl <| la rfl <| en ?_
 refine cdh rfl h (fun c1 h => ?_) (fun c1 h => ?_)
 ·refine sr <| la rfl <| en ?_
  refine WT.ret Tryz.func172 (resOk.one rfl) (fun w1 hw => ?_)
  cases h
  exact post_of_St hw
 refine WT.skip <| sq <| sr <| lf Fld_123_1 rfl rfl rfl <| lo T1_121 1 rfl <| lf Fld_123_1 rfl rfl rfl <| lo T1_121 0 rfl ?_
 obtain ⟨x1, hx1, h⟩ := bs h
 refine lp (p_call Fun_199 rfl (fun w1 hw => m_l_eqValS_ok hw.fro N p0.Fields p1.Fields ph0_0 ph1_0 hx1)) rfl <| la rfl <| en ?_
 refine cdh rfl h (fun c2 h => ?_) (fun c2 h => ?_)
 ·refine sr <| la rfl <| en ?_
  refine WT.ret Tryz.func172 (resOk.one rfl) (fun w1 hw => ?_)
  cases h
  exact post_of_St hw
 refine WT.skip <| sr <| la rfl <| en ?_
 refine WT.ret Tryz.func172 (resOk.one rfl) (fun w1 hw => ?_)
 cases h
 exact post_of_St hw
theorem m_l_eqItem_ok {Φ : Hp} {w : World} (hΦ : In Φ w) (N : Nat) (p0 : TItem) (p1 : TItem) {pv0_0 pv1_0 : Value} {pG0_0 pG1_0 : List Nat} (ph0_0 : RSl RTVal 3 Φ pG0_0 pv0_0 p0.F.Fields) (ph1_0 : RSl RTVal 3 Φ pG1_0 pv1_0 p1.F.Fields) {r : Bool} (h : m_l_eqItem N p0 p1 = some r) :
  Calls Tryz.prog 115 [.agg [.int .i64 p0.Id, .string p0.F.Kind, pv0_0].toArray, .agg [.int .i64 p1.Id, .string p1.F.Kind, pv1_0].toArray].toArray w (Post (.bool r) w) := by
 refine enter Tryz.func115 rfl Tryz.ntmps115 rfl (St.start0 hΦ) ?_
 unfold m_l_eqItem at h
 refine sr ?_
 refine ln (nb rfl) rfl (fun b_1 => ?_)
 refine ln (nb rfl) rfl (fun b_2 => ?_)
 refine la rfl <| en <| sq <| sr <| lf Fld_125_0 rfl rfl rfl <| lo T1_3 1 rfl <| lf Fld_125_0 rfl rfl rfl <| lo T1_3 0 rfl <| la rfl <| en ?_
 refine cdh rfl h (fun c1 h => ?_) (fun c1 h => ?_)
 ·refine sr <| la rfl <| en ?_
  refine WT.ret Tryz.func115 (resOk.one rfl) (fun w1 hw => ?_)
  cases h
  exact post_of_St hw
 refine WT.skip <| sq <| sr <| lf Fld_125_1 rfl rfl rfl <| ld2 Tn_123 1 rfl <| lf Fld_125_1 rfl rfl rfl <| ld2 Tn_123 0 rfl ?_
 obtain ⟨x1, hx1, h⟩ := bs h
 refine lp (p_call Fun_172 rfl (fun w1 hw => m_l_eqFact_ok hw.fro N p0.F p1.F ph0_0 ph1_0 hx1)) rfl <| la rfl <| en ?_
 refine cdh rfl h (fun c2 h => ?_) (fun c2 h => ?_)
 ·refine sr <| la rfl <| en ?_
  refine WT.ret Tryz.func115 (resOk.one rfl) (fun w1 hw => ?_)
  cases h
  exact post_of_St hw
 refine WT.skip <| sr <| la rfl <| en ?_
 refine WT.ret Tryz.func115 (resOk.one rfl) (fun w1 hw => ?_)
 cases h
 exact post_of_St hw
theorem m_l_eqItemS_ok {Φ : Hp} {w : World} (hΦ : In Φ w) (N : Nat) (p0 : (List TItem)) (p1 : (List TItem)) {pv0 pv1 : Value} {pG0 pG1 : List Nat} (ph0 : RSl RTItem 3 Φ pG0 pv0 p0) (ph1 : RSl RTItem 3 Φ pG1 pv1 p1) {r : Bool} (h : m_l_eqItemS N p0 p1 = some r) :
  Calls Tryz.prog 59 [pv0, pv1].toArray w (Post (.bool r) w) := by
 refine enter Tryz.func59 rfl Tryz.ntmps59 rfl (St.start0 hΦ) ?_
 generalize hb0 : (⟨w, [], Φ⟩ : Base) = w0
 unfold m_l_eqItemS at h
 refine sr <| la rfl <| en <| sq <| sr <| la rfl <| lq (q_lenR Sl_27 rfl rfl ph0) rfl <| la rfl <| lq (q_lenR Sl_27 rfl rfl ph1) rfl <| la rfl <| en ?_
 refine cdh rfl h (fun c1 h => ?_) (fun c1 h => ?_)
 ·refine sr <| la rfl <| en ?_
  refine WT.ret Tryz.func59 (resOk.one rfl) (fun w1 hw => ?_)
  subst hb0
  cases h
  exact post_of_St hw
 refine WT.skip <| sq <| sr <| la rfl <| en <| blk ?_
 refine loop_in (σ := Int) (fun s => [(0, pv0), (1, pv1), (5, .int .i64 s)]) (fun s => St w0 Φ [] []) (fun m s => m_l_eqItemS_l1 N p0 p1 m s = some r) (0) N h ⟨rfl, rfl, rfl, trivial⟩ (fun w1 hw => (hw.sel (js := []) rfl).selO (js := []) rfl) (fun s hm => none_ne hm) (fun n1 ih1 s hm => ?_)
 revert hm; revert s; intro s1 hm
 have h : m_l_eqItemS_l1 N p0 p1 (n1 + 1) s1 = some r := hm
 show WT _ _ [(0, pv0), (1, pv1), (5, .int .i64 s1)] (St w0 Φ [] [])
 unfold m_l_eqItemS_l1 at h
 refine sq <| sr <| la rfl <| la rfl <| lq (q_lenR Sl_27 rfl rfl ph0) rfl <| la rfl <| en ?_
 refine cdh rfl h (fun c2 h => ?_) (fun c2 h => ?_)
 ·refine WT.skip <| sq <| blk <| sq <| WT.draw mixed (by kernel_rfl) (fun _ h => h.drew) <| qq (q_move rfl) rfl <| qq (q_move rfl) rfl ?_
  obtain ⟨x1, hx1, h⟩ := bs h
  obtain ⟨cs1, F1, -, g1, hb1, hs1, r1⟩ := ph0.el (idx_some hx1).2.2
  obtain ⟨v1, G1, rfl, hq1, h1⟩ := r1
  obtain rfl := hq1.symm
  refine qq (q_indexAddr Sl_27 rfl rfl ph0 hx1) rfl <| qq (q_loadN Tn_125 rfl (fun w1 hw => (g1.of_eq 0 3 rfl rfl : rg _ _ _ [.int .i64 x1.Id, .string x1.F.Kind, v1]).rangeAt hw.fro) rfl) rfl <| qq (q_move rfl) rfl <| qq (q_move rfl) rfl ?_
  obtain ⟨x2, hx2, h⟩ := bs h
  obtain ⟨cs2, F2, -, g2, hb2, hs2, r2⟩ := ph1.el (idx_some hx2).2.2
  obtain ⟨v2, G2, rfl, hq2, h2⟩ := r2
  obtain rfl := hq2.symm
  refine qq (q_indexAddr Sl_27 rfl rfl ph1 hx2) rfl <| qq (q_loadN Tn_125 rfl (fun w1 hw => (g2.of_eq 0 3 rfl rfl : rg _ _ _ [.int .i64 x2.Id, .string x2.F.Kind, v2]).rangeAt hw.fro) rfl) rfl ?_
  obtain ⟨x3, hx3, h⟩ := bs h
  refine qp (p_call Fun_115 rfl (fun w1 hw => m_l_eqItem_ok hw.fro N x1 x2 h1 h2 hx3)) rfl <| qq (q_not rfl) rfl <| WQ.nil ?_
  refine cdh rfl h (fun c3 h => ?_) (fun c3 h => ?_)
  ·refine sr <| la rfl <| en ?_
   refine WT.ret Tryz.func59 (resOk.one rfl) (fun w1 hw => ?_)
   subst hb0
   cases h
   exact post_of_St hw
  refine WT.skip <| ib <| rgn <| la rfl <| la rfl <| la rfl <| en ?_
  exact lback (ih1 (IntKind.i64.wrap (s1 + 1)) h) ⟨rfl, rfl, rfl, trivial⟩ (fun w1 hw => (hw.sel (js := []) rfl).selO (js := []) rfl)
 refine xt rfl <| sr <| la rfl <| en ?_
 refine WT.ret Tryz.func59 (resOk.one rfl) (fun w1 hw => ?_)
 subst hb0
 cases h
 exact post_of_St hw
theorem m_l_eqStore_ok {Φ : Hp} {w : World} (hΦ : In Φ w) (N : Nat) (p0 : TStore) (p1 : TStore) {pv0_0 pv1_0 : Value} {pG0_0 pG1_0 : List Nat} (ph0_0 : RSl RTItem 3 Φ pG0_0 pv0_0 p0.Items) (ph1_0 : RSl RTItem 3 Φ pG1_0 pv1_0 p1.Items) {r : Bool} (h : m_l_eqStore N p0 p1 = some r) :
  Calls Tryz.prog 21 [.agg [pv0_0, .int .i64 p0.Next].toArray, .agg [pv1_0, .int .i64 p1.Next].toArray].toArray w (Post (.bool r) w) := by
 refine enter Tryz.func21 rfl Tryz.ntmps21 rfl (St.start0 hΦ) ?_
 unfold m_l_eqStore at h
 refine sr ?_
 refine ln (nb rfl) rfl (fun b_1 => ?_)
 refine ln (nb rfl) rfl (fun b_2 => ?_)
 refine la rfl <| en <| sq <| sr <| lf Fld_29_0 rfl rfl rfl <| lo T1_27 1 rfl <| lf Fld_29_0 rfl rfl rfl <| lo T1_27 0 rfl ?_
 obtain ⟨x1, hx1, h⟩ := bs h
 refine lp (p_call Fun_59 rfl (fun w1 hw => m_l_eqItemS_ok hw.fro N p0.Items p1.Items ph0_0 ph1_0 hx1)) rfl <| la rfl <| en ?_
 refine cdh rfl h (fun c1 h => ?_) (fun c1 h => ?_)
 ·refine sr <| la rfl <| en ?_
  refine WT.ret Tryz.func21 (resOk.one rfl) (fun w1 hw => ?_)
  cases h
  exact post_of_St hw
 refine WT.skip <| sq <| sr <| lf Fld_29_1 rfl rfl rfl <| lo T1_3 1 rfl <| lf Fld_29_1 rfl rfl rfl <| lo T1_3 0 rfl <| la rfl <| en ?_
 refine cdh rfl h (fun c2 h => ?_) (fun c2 h => ?_)
 ·refine sr <| la rfl <| en ?_
  refine WT.ret Tryz.func21 (resOk.one rfl) (fun w1 hw => ?_)
  cases h
  exact post_of_St hw
 refine WT.skip <| sr <| la rfl <| en ?_
 refine WT.ret Tryz.func21 (resOk.one rfl) (fun w1 hw => ?_)
 cases h
 exact post_of_St hw
theorem m_l_markText_ok {Φ : Hp} {w : World} (hΦ : In Φ w) (N : Nat) (p0 : Int)   {r : ByteArray} (h : m_l_markText N p0 = some r) :
  Calls Tryz.prog 116 [.int .i64 p0].toArray w (Post (.string r) w) := by
 refine enter Tryz.func116 rfl Tryz.ntmps116 rfl (St.start0 hΦ) ?_
 generalize hb0 : (⟨w, [], Φ⟩ : Base) = w0
 unfold m_l_markText at h
 refine sr <| la rfl <| en <| sq <| sr <| la rfl <| la rfl <| en ?_
 refine cdh rfl h (fun c1 h => ?_) (fun c1 h => ?_)
 ·refine sr <| la rfl <| en ?_
  refine WT.ret Tryz.func116 (resOk.one rfl) (fun w1 hw => ?_)
  subst hb0
  cases h
  exact post_of_St hw
 refine WT.skip <| sr <| la rfl <| en <| sq <| blk ?_
 refine loop_in (σ := Hp × Int × ByteArray) (fun s => [(0, .int .i64 s.2.1), (3, .string s.2.2)]) (fun s => St w0 s.1 [] []) (fun m s => m_l_markText_l1 N m s.2.1 s.2.2 = some r) (Φ, p0, (⟨#[]⟩ : ByteArray)) N h ⟨rfl, rfl, trivial⟩ (fun w1 hw => (hw.sel (js := []) rfl).selO (js := []) rfl) (fun s hm => none_ne hm) (fun n1 ih1 s hm => ?_)
 obtain ⟨Φ_1, s1, s2⟩ := s
 have h : m_l_markText_l1 N (n1 + 1) s1 s2 = some r := hm
 show WT _ _ [(0, .int .i64 s1), (3, .string s2)] (St w0 Φ_1 [] [])
 unfold m_l_markText_l1 at h
 refine sq <| sr <| la rfl <| la rfl <| en ?_
 refine cdh rfl h (fun c2 h => ?_) (fun c2 h => ?_)
 ·refine WT.skip <| blk <| sr <| la rfl <| lq (q_rem rfl rfl (by decide)) rfl <| la rfl <| lq (q_convI Ik_3 Ik_5 rfl) rfl ?_
  have rc1 : RC (RI .u8) 1 Φ_1 ([[]] : List (List Nat)) [.int .u8 (IntKind.u8.wrap (IntKind.i64.wrap (48 + (s1.tmod 10))))] ([(IntKind.u8.wrap (IntKind.i64.wrap (48 + (s1.tmod 10))))] : List Int) := RC.cons (c := [.int .u8 (IntKind.u8.wrap (IntKind.i64.wrap (48 + (s1.tmod 10))))]) (cells := []) ⟨rfl, rfl⟩ rfl (RC.nil _ _ _)
  refine le' (e_lit (vs := [(0, .int .u8 (IntKind.u8.wrap (IntKind.i64.wrap (48 + (s1.tmod 10)))))]) (C := #[.int .u8 (IntKind.u8.wrap (IntKind.i64.wrap (48 + (s1.tmod 10))))]) RI.lasts Sl_22 Zr_5 rfl rfl rfl rfl (fill_made MC_5_1 (fill_cons (C' := [.int .u8 (IntKind.u8.wrap (IntKind.i64.wrap (48 + (s1.tmod 10))))]) rfl rfl rfl rfl rfl (fill_nil))) rfl rc1 rfl (by simpa using Kw.nil)) rfl (fun v1 Φ_2 D1 q1 => ?_)
  obtain ⟨fr1, h1⟩ := q1
  replace h1 : OSl (RI .u8) 5 1 Φ_2 [] v1 ([(IntKind.u8.wrap (IntKind.i64.wrap (48 + (s1.tmod 10))))] : List Int) := by simpa using h1
  refine lq (q_convB Sl_22 Ik_5 Str_9 rfl h1.rsl) rfl <| la rfl ?_
  obtain ⟨z1, hz1, h⟩ := bs h
  refine lq (q_cat rfl rfl hz1) rfl <| la rfl <| en <| rgn <| la rfl <| lq (q_quo rfl rfl (by decide)) rfl <| la rfl <| en <| ib ?_
  exact lback (ih1 (Φ_2, (IntKind.i64.wrap (s1.tdiv 10)), z1) h) ⟨rfl, rfl, trivial⟩ (fun w1 hw => (hw.sel (js := []) rfl).selO (js := []) rfl)
 refine xt rfl <| sr <| la rfl ?_
 obtain ⟨z2, hz2, h⟩ := bs h
 refine lq (q_cat rfl rfl hz2) rfl <| la rfl <| en ?_
 refine WT.ret Tryz.func116 (resOk.one rfl) (fun w1 hw => ?_)
 subst hb0
 cases h
 exact post_of_St hw
theorem m_l_markArgS_ok {Φ : Hp} {w : World} (hΦ : In Φ w) (N : Nat) (p0 : (List TArg)) (p1 : Int) {pv0 : Value} (ph0 : OSl RTArg 137 5 Φ [] pv0 p0) (hB : [ob pv0].flatten.Nodup) (hlt : ∀ k ∈ [ob pv0].flatten, k < w.heap.size) {r : Int × (List TArg)} (h : m_l_markArgS N p0 p1 = some r) :
  Calls Tryz.prog 117 [pv0, .int .i64 p1].toArray w (PostG Φ w [ob pv0].flatten (fun Φ' Fs v => v = .int .i64 r.1 ∧ Fs = [ob pv0] ∧ OSl RTArg 137 5 Φ' [] pv0 r.2)) := by
 refine enter Tryz.func117 rfl Tryz.ntmps117 rfl (St.start hΦ [ob pv0] hB hlt) ?_
 generalize hb0 : (⟨w, [ob pv0].flatten, Φ⟩ : Base) = w0
 unfold m_l_markArgS at h
 refine sr <| la rfl <| en <| sq <| sr <| la rfl <| en <| blk ?_
 refine loop_in (σ := Hp × (List TArg) × Int × Int) (fun s => [(0, pv0), (1, .int .i64 s.2.2.1), (5, .int .i64 s.2.2.2)]) (fun s => St w0 s.1 [] [ob pv0]) (fun m s => m_l_markArgS_l1 N m s.2.1 s.2.2.1 s.2.2.2 = some r ∧ (OSl RTArg 137 5 s.1 [] pv0 s.2.1)) (Φ, p0, p1, 0) N ⟨h, ph0⟩ ⟨rfl, rfl, rfl, trivial⟩ (fun w1 hw => (hw.sel (js := [0]) rfl).selO (js := []) rfl) (fun s hm => none_ne hm.1) (fun n1 ih1 s hm => ?_)
 obtain ⟨Φ_1, s1, s2, s3⟩ := s
 obtain ⟨h, k1⟩ := hm
 dsimp only at h k1 ⊢
 unfold m_l_markArgS_l1 at h
 refine sq <| sr <| la rfl <| la rfl <| lq (q_lenR Sl_169 rfl rfl k1.rsl) rfl <| la rfl <| en ?_
 refine cdh rfl h (fun c1 h => ?_) (fun c1 h => ?_)
 ·refine WT.skip <| sq <| blk <| sr <| la rfl <| la rfl <| la rfl ?_
  obtain ⟨x1, hx1, h⟩ := bs h
  obtain ⟨cs1, F1, h1, r1⟩ := k1.focusF RTArg.flat hx1
  obtain ⟨rfl, -⟩ := r1
  refine lq (q_indexAddrH Sl_169 rfl rfl h1 hx1) rfl <| lf Fld_137_0 rfl rfl rfl ?_
  refine lu (u_setH (js := [0]) (Rr := []) (o := 0) (vs := [.int .i64 s2]) (cs' := [.int .i64 s2, .string x1.S, .int .i64 x1.V.K, .int .i64 x1.V.N, .string x1.V.S]) RTArg.lasts Sz_3 rfl rfl rfl rfl ⟨rfl, trivial⟩ rfl h1 rfl rfl (fun ap => (Dj.nil _))) rfl (fun Φ_2 D2 q1 => ?_)
  obtain ⟨⟨ap1, fr1⟩, h2⟩ := q1
  refine en <| sr <| la rfl <| la rfl <| la rfl <| en <| sr <| la rfl <| la rfl <| la rfl ?_
  obtain ⟨x2, hx2, h⟩ := bs h
  refine lp (p_call Fun_116 rfl (fun w1 hw => m_l_markText_ok hw.fro N (IntKind.i64.wrap (s2 + 1)) hx2)) rfl <| lq (q_indexAddrH Sl_169 rfl rfl h2 hx1) rfl <| lf Fld_137_1 rfl rfl rfl ?_
  refine lu (u_setH (js := [0]) (Rr := []) (o := 1) (vs := [.string x2]) (cs' := [.int .i64 s2, .string x2, .int .i64 x1.V.K, .int .i64 x1.V.N, .string x1.V.S]) RTArg.lasts Sz_9 rfl rfl rfl rfl ⟨rfl, trivial⟩ rfl h2 rfl rfl (fun ap => (Dj.nil _))) rfl (fun Φ_3 D3 q2 => ?_)
  obtain ⟨⟨ap2, fr2⟩, h3⟩ := q2
  refine en <| sr <| la rfl <| la rfl <| la rfl <| en <| sr <| la rfl <| la rfl <| la rfl <| lq (q_indexAddrH Sl_169 rfl rfl h3 hx1) rfl <| lf Fld_137_2 rfl rfl rfl <| lf Fld_85_0 rfl rfl rfl ?_
  refine lu (u_setH (js := [0]) (Rr := []) (o := 2) (vs := [.int .i64 (IntKind.i64.wrap ((IntKind.i64.wrap (s2 + 1)) + 1))]) (cs' := [.int .i64 s2, .string x2, .int .i64 (IntKind.i64.wrap ((IntKind.i64.wrap (s2 + 1)) + 1)), .int .i64 x1.V.N, .string x1.V.S]) RTArg.lasts Sz_3 rfl rfl rfl rfl ⟨rfl, trivial⟩ rfl h3 rfl rfl (fun ap => (Dj.nil _))) rfl (fun Φ_4 D4 q3 => ?_)
  obtain ⟨⟨ap3, fr3⟩, h4⟩ := q3
  refine en <| sr <| la rfl <| la rfl <| la rfl <| en <| sr <| la rfl <| la rfl <| la rfl <| lq (q_indexAddrH Sl_169 rfl rfl h4 hx1) rfl <| lf Fld_137_2 rfl rfl rfl <| lf Fld_85_1 rfl rfl rfl ?_
  refine lu (u_setH (js := [0]) (Rr := []) (o := 3) (vs := [.int .i64 (IntKind.i64.wrap ((IntKind.i64.wrap ((IntKind.i64.wrap (s2 + 1)) + 1)) + 1))]) (cs' := [.int .i64 s2, .string x2, .int .i64 (IntKind.i64.wrap ((IntKind.i64.wrap (s2 + 1)) + 1)), .int .i64 (IntKind.i64.wrap ((IntKind.i64.wrap ((IntKind.i64.wrap (s2 + 1)) + 1)) + 1)), .string x1.V.S]) RTArg.lasts Sz_3 rfl rfl rfl rfl ⟨rfl, trivial⟩ rfl h4 rfl rfl (fun ap => (Dj.nil _))) rfl (fun Φ_5 D5 q4 => ?_)
  obtain ⟨⟨ap4, fr4⟩, h5⟩ := q4
  refine en <| sr <| la rfl <| la rfl <| la rfl <| en <| sr <| la rfl <| la rfl <| la rfl ?_
  obtain ⟨x3, hx3, h⟩ := bs h
  refine lp (p_call Fun_116 rfl (fun w1 hw => m_l_markText_ok hw.fro N (IntKind.i64.wrap ((IntKind.i64.wrap ((IntKind.i64.wrap ((IntKind.i64.wrap (s2 + 1)) + 1)) + 1)) + 1)) hx3)) rfl <| lq (q_indexAddrH Sl_169 rfl rfl h5 hx1) rfl <| lf Fld_137_2 rfl rfl rfl <| lf Fld_85_2 rfl rfl rfl ?_
  refine lu (u_setH (js := [0]) (Rr := []) (o := 4) (vs := [.string x3]) (cs' := [.int .i64 s2, .string x2, .int .i64 (IntKind.i64.wrap ((IntKind.i64.wrap (s2 + 1)) + 1)), .int .i64 (IntKind.i64.wrap ((IntKind.i64.wrap ((IntKind.i64.wrap (s2 + 1)) + 1)) + 1)), .string x3]) RTArg.lasts Sz_9 rfl rfl rfl rfl ⟨rfl, trivial⟩ rfl h5 rfl rfl (fun ap => (Dj.nil _))) rfl (fun Φ_6 D6 q5 => ?_)
  obtain ⟨⟨ap5, fr5⟩, h6⟩ := q5
  refine en <| rgn <| la rfl <| la rfl <| la rfl <| en <| ib <| rgn <| la rfl <| la rfl <| la rfl <| en ?_
  have h7 := h6.unfocusF RTArg.flat (cs := [.int .i64 s2, .string x2, .int .i64 (IntKind.i64.wrap ((IntKind.i64.wrap (s2 + 1)) + 1)), .int .i64 (IntKind.i64.wrap ((IntKind.i64.wrap ((IntKind.i64.wrap (s2 + 1)) + 1)) + 1)), .string x3]) (x' := (⟨s2, x2, (⟨IntKind.i64.wrap ((IntKind.i64.wrap (s2 + 1)) + 1), IntKind.i64.wrap ((IntKind.i64.wrap ((IntKind.i64.wrap (s2 + 1)) + 1)) + 1), x3⟩ : TVal)⟩ : TArg)) ⟨rfl, rfl⟩
  exact lback (ih1 (Φ_6, (s1.set s3.toNat (⟨s2, x2, (⟨IntKind.i64.wrap ((IntKind.i64.wrap (s2 + 1)) + 1), IntKind.i64.wrap ((IntKind.i64.wrap ((IntKind.i64.wrap (s2 + 1)) + 1)) + 1), x3⟩ : TVal)⟩ : TArg)), IntKind.i64.wrap ((IntKind.i64.wrap ((IntKind.i64.wrap ((IntKind.i64.wrap ((IntKind.i64.wrap (s2 + 1)) + 1)) + 1)) + 1)) + 1), IntKind.i64.wrap (s3 + 1)) ⟨h, h7⟩) ⟨rfl, rfl, rfl, trivial⟩ (fun w1 hw => (hw.sel (js := [0]) rfl).selO (js := []) rfl)
 refine xt rfl <| sr <| la rfl <| la rfl <| en ?_
 refine WT.ret Tryz.func117 (resOk.one rfl) (fun w1 hw => ?_)
 subst hb0
 cases h
 refine postG_of_St (js := [0]) hw rfl ⟨rfl, rfl, k1⟩
theorem m_l_markPatS_ok {Φ : Hp} {w : World} (hΦ : In Φ w) (N : Nat) (p0 : (List TPat)) (p1 : Int) {pv0 : Value} {pD0 : List Nat} (ph0 : OSl OTPat 171 3 Φ pD0 pv0 p0) (hB : [ob pv0, pD0].flatten.Nodup) (hlt : ∀ k ∈ [ob pv0, pD0].flatten, k < w.heap.size) {r : Int × (List TPat)} (h : m_l_markPatS N p0 p1 = some r) :
  Calls Tryz.prog 60 [pv0, .int .i64 p1].toArray w (PostG Φ w [ob pv0, pD0].flatten (fun Φ' Fs v => ∃ (Do_0_0 : List Nat), v = .int .i64 r.1 ∧ Fs = [ob pv0, Do_0_0] ∧ OSl OTPat 171 3 Φ' Do_0_0 pv0 r.2)) := by
 refine enter Tryz.func60 rfl Tryz.ntmps60 rfl (St.start hΦ [ob pv0, pD0] hB hlt) ?_
 generalize hb0 : (⟨w, [ob pv0, pD0].flatten, Φ⟩ : Base) = w0
 unfold m_l_markPatS at h
 refine sr <| la rfl <| en <| sq <| sr <| la rfl <| en <| blk ?_
 refine loop_in (σ := Hp × (List TPat) × List Nat × Int × Int) (fun s => [(0, pv0), (1, .int .i64 s.2.2.2.1), (5, .int .i64 s.2.2.2.2)]) (fun s => St w0 s.1 [] [ob pv0, s.2.2.1]) (fun m s => m_l_markPatS_l1 N m s.2.1 s.2.2.2.1 s.2.2.2.2 = some r ∧ (OSl OTPat 171 3 s.1 s.2.2.1 pv0 s.2.1)) (Φ, p0, pD0, p1, 0) N ⟨h, ph0⟩ ⟨rfl, rfl, rfl, trivial⟩ (fun w1 hw => (hw.sel (js := [0, 0]) rfl).selO (js := []) rfl) (fun s hm => none_ne hm.1) (fun n1 ih1 s hm => ?_)
 obtain ⟨Φ_1, s1, D1, s2, s3⟩ := s
 obtain ⟨h, k1⟩ := hm
 dsimp only at h k1 ⊢
 unfold m_l_markPatS_l1 at h
 refine sq <| sr <| la rfl <| la rfl <| lq (q_lenR Sl_36 rfl rfl (k1.rslG OTPat.gives)) rfl <| la rfl <| en ?_
 refine cdh rfl h (fun c1 h => ?_) (fun c1 h => ?_)
 ·refine WT.skip <| sq <| blk <| sr <| la rfl <| la rfl <| la rfl ?_
  obtain ⟨x1, hx1, h⟩ := bs h
  refine lp (p_call Fun_116 rfl (fun w1 hw => m_l_markText_ok hw.fro N s2 hx1)) rfl ?_
  obtain ⟨x2, hx2, h⟩ := bs h
  obtain ⟨cs1, F1, D2, h1, r1, kf1, sp1⟩ := k1.focus hx2
  obtain ⟨v1, rfl, rfl, h2⟩ := r1
  refine WL.conv (S' := St w0 Φ_1 [] [ob v1, D2, ob pv0]) (fun w1 hw => hw.re (js := [1]) (Bs := [ob v1, D2]) rfl (by simpa [List.append_assoc] using sp1)) <| lq (q_indexAddrH Sl_36 rfl rfl h1 hx2) rfl <| lf Fld_171_0 rfl rfl rfl ?_
  refine lu (u_setH (js := [2]) (Rr := [ob v1, D2]) (o := 0) (vs := [.string x1]) (cs' := [.string x1, v1, .bool x2.Not]) OTPat.lasts Sz_9 rfl rfl rfl rfl ⟨rfl, trivial⟩ rfl h1 rfl rfl (fun ap => (ap.r (i := 1) rfl))) rfl (fun Φ_2 D3 q1 => ?_)
  obtain ⟨⟨ap1, fr1⟩, h3⟩ := q1
  replace h2 := h2.frame RTArg.lasts fr1 (ap1.r (i := 0) rfl) (Dj.nil _)
  refine en <| sr <| la rfl <| la rfl <| la rfl <| en <| sr <| la rfl <| la rfl <| lq (q_indexAddrH Sl_36 rfl rfl h3 hx2) rfl <| lf Fld_171_1 rfl rfl rfl <| lg 1 T1_169 h3.rg rfl rfl <| la rfl ?_
  obtain ⟨x3, hx3, h⟩ := bs h
  refine lc (k_call (js := [1]) (R := [ob pv0, D2]) Fun_117 rfl rfl (fun w1 hw ap hl => m_l_markArgS_ok hw.fro N x2.Args (IntKind.i64.wrap (s2 + 1)) h2 ap.nd hl hx3)) rfl (fun v2 Φ_3 F2 q2 => ?_)
  obtain ⟨ap2, fr2, rfl, rfl, h4⟩ := q2
  replace h3 := h3.frame OTPat.lasts fr2 (ap2.r (i := 0) rfl) (ap2.r (i := 1) rfl)
  refine la rfl <| en <| sr <| la rfl <| la rfl <| la rfl <| lq (q_rem rfl rfl (by decide)) rfl <| la rfl <| lq (q_indexAddrH Sl_36 rfl rfl h3 hx2) rfl <| lf Fld_171_2 rfl rfl rfl ?_
  refine lu (u_setH (js := [1]) (Rr := [ob v1, D2]) (o := 2) (vs := [.bool (decide ((x3.1.tmod 3) = 0))]) (cs' := [.string x1, v1, .bool (decide ((x3.1.tmod 3) = 0))]) OTPat.lasts Sz_4 rfl rfl rfl rfl ⟨rfl, trivial⟩ rfl h3 rfl rfl (fun ap => (ap.r (i := 1) rfl))) rfl (fun Φ_4 D4 q3 => ?_)
  obtain ⟨⟨ap3, fr3⟩, h5⟩ := q3
  replace h4 := h4.frame RTArg.lasts fr3 (ap3.r (i := 0) rfl) (Dj.nil _)
  refine en <| rgn <| la rfl <| la rfl <| la rfl <| en <| ib <| rgn <| la rfl <| la rfl <| la rfl <| en ?_
  have r2 : OTPat Φ_4 _ [.string x1, v1, .bool (decide ((x3.1.tmod 3) = 0))] (⟨x1, x3.2, decide ((x3.1.tmod 3) = 0)⟩ : TPat) := ⟨v1, rfl, rfl, h4⟩
  obtain ⟨D5, h6, sp2⟩ := h5.unfocus r2 (OTPat.knows _ _ _ _ r2)
  refine WT.conv (S' := St w0 Φ_4 [] [D5, ob pv0]) (fun w1 hw => hw.merge (js := [1, 1]) rfl (by simpa [List.append_assoc, ob_nil] using sp2)) ?_
  exact lback (ih1 (Φ_4, (s1.set s3.toNat (⟨x1, x3.2, decide ((x3.1.tmod 3) = 0)⟩ : TPat)), D5, IntKind.i64.wrap (x3.1 + 1), IntKind.i64.wrap (s3 + 1)) ⟨h, h6⟩) ⟨rfl, rfl, rfl, trivial⟩ (fun w1 hw => (hw.sel (js := [1, 0]) rfl).selO (js := []) rfl)
 refine xt rfl <| sr <| la rfl <| la rfl <| en ?_
 refine WT.ret Tryz.func60 (resOk.one rfl) (fun w1 hw => ?_)
 subst hb0
 cases h
 refine postG_of_St (js := [0, 0]) hw rfl ⟨D1, rfl, rfl, k1⟩
theorem m_l_markCondS_ok {Φ : Hp} {w : World} (hΦ : In Φ w) (N : Nat) (p0 : (List TCond)) (p1 : Int) {pv0 : Value} (ph0 : OSl RTCond 139 11 Φ [] pv0 p0) (hB : [ob pv0].flatten.Nodup) (hlt : ∀ k ∈ [ob pv0].flatten, k < w.heap.size) {r : Int × (List TCond)} (h : m_l_markCondS N p0 p1 = some r) :
  Calls Tryz.prog 61 [pv0, .int .i64 p1].toArray w (PostG Φ w [ob pv0].flatten (fun Φ' Fs v => v = .int .i64 r.1 ∧ Fs = [ob pv0] ∧ OSl RTCond 139 11 Φ' [] pv0 r.2)) := by
 refine enter Tryz.func61 rfl Tryz.ntmps61 rfl (St.start hΦ [ob pv0] hB hlt) ?_
 generalize hb0 : (⟨w, [ob pv0].flatten, Φ⟩ : Base) = w0
 unfold m_l_markCondS at h
 refine sr <| la rfl <| en <| sq <| sr <| la rfl <| en <| blk ?_
 refine loop_in (σ := Hp × (List TCond) × Int × Int) (fun s => [(0, pv0), (1, .int .i64 s.2.2.1), (5, .int .i64 s.2.2.2)]) (fun s => St w0 s.1 [] [ob pv0]) (fun m s => m_l_markCondS_l1 N m s.2.1 s.2.2.1 s.2.2.2 = some r ∧ (OSl RTCond 139 11 s.1 [] pv0 s.2.1)) (Φ, p0, p1, 0) N ⟨h, ph0⟩ ⟨rfl, rfl, rfl, trivial⟩ (fun w1 hw => (hw.sel (js := [0]) rfl).selO (js := []) rfl) (fun s hm => none_ne hm.1) (fun n1 ih1 s hm => ?_)
 obtain ⟨Φ_1, s1, s2, s3⟩ := s
 obtain ⟨h, k1⟩ := hm
 dsimp only at h k1 ⊢
 unfold m_l_markCondS_l1 at h
 refine sq <| sr <| la rfl <| la rfl <| lq (q_lenR Sl_37 rfl rfl k1.rsl) rfl <| la rfl <| en ?_
 refine cdh rfl h (fun c1 h => ?_) (fun c1 h => ?_)
 ·refine WT.skip <| sq <| blk <| sr <| la rfl <| la rfl <| la rfl ?_
  obtain ⟨x1, hx1, h⟩ := bs h
  obtain ⟨cs1, F1, h1, r1⟩ := k1.focusF RTCond.flat hx1
  obtain ⟨rfl, -⟩ := r1
  refine lq (q_indexAddrH Sl_37 rfl rfl h1 hx1) rfl <| lf Fld_139_0 rfl rfl rfl ?_
  refine lu (u_setH (js := [0]) (Rr := []) (o := 0) (vs := [.int .i64 s2]) (cs' := [.int .i64 s2, .int .i64 x1.L.K, .string x1.L.S, .int .i64 x1.L.V.K, .int .i64 x1.L.V.N, .string x1.L.V.S, .int .i64 x1.R.K, .string x1.R.S, .int .i64 x1.R.V.K, .int .i64 x1.R.V.N, .string x1.R.V.S]) RTCond.lasts Sz_3 rfl rfl rfl rfl ⟨rfl, trivial⟩ rfl h1 rfl rfl (fun ap => (Dj.nil _))) rfl (fun Φ_2 D2 q1 => ?_)
  obtain ⟨⟨ap1, fr1⟩, h2⟩ := q1
  refine en <| sr <| la rfl <| la rfl <| la rfl <| en <| sr <| la rfl <| la rfl <| la rfl <| lq (q_indexAddrH Sl_37 rfl rfl h2 hx1) rfl <| lf Fld_139_1 rfl rfl rfl <| lf Fld_137_0 rfl rfl rfl ?_
  refine lu (u_setH (js := [0]) (Rr := []) (o := 1) (vs := [.int .i64 (IntKind.i64.wrap (s2 + 1))]) (cs' := [.int .i64 s2, .int .i64 (IntKind.i64.wrap (s2 + 1)), .string x1.L.S, .int .i64 x1.L.V.K, .int .i64 x1.L.V.N, .string x1.L.V.S, .int .i64 x1.R.K, .string x1.R.S, .int .i64 x1.R.V.K, .int .i64 x1.R.V.N, .string x1.R.V.S]) RTCond.lasts Sz_3 rfl rfl rfl rfl ⟨rfl, trivial⟩ rfl h2 rfl rfl (fun ap => (Dj.nil _))) rfl (fun Φ_3 D3 q2 => ?_)
  obtain ⟨⟨ap2, fr2⟩, h3⟩ := q2
  refine en <| sr <| la rfl <| la rfl <| la rfl <| en <| sr <| la rfl <| la rfl <| la rfl ?_
  obtain ⟨x2, hx2, h⟩ := bs h
  refine lp (p_call Fun_116 rfl (fun w1 hw => m_l_markText_ok hw.fro N (IntKind.i64.wrap ((IntKind.i64.wrap (s2 + 1)) + 1)) hx2)) rfl <| lq (q_indexAddrH Sl_37 rfl rfl h3 hx1) rfl <| lf Fld_139_1 rfl rfl rfl <| lf Fld_137_1 rfl rfl rfl ?_
  refine lu (u_setH (js := [0]) (Rr := []) (o := 2) (vs := [.string x2]) (cs' := [.int .i64 s2, .int .i64 (IntKind.i64.wrap (s2 + 1)), .string x2, .int .i64 x1.L.V.K, .int .i64 x1.L.V.N, .string x1.L.V.S, .int .i64 x1.R.K, .string x1.R.S, .int .i64 x1.R.V.K, .int .i64 x1.R.V.N, .string x1.R.V.S]) RTCond.lasts Sz_9 rfl rfl rfl rfl ⟨rfl, trivial⟩ rfl h3 rfl rfl (fun ap => (Dj.nil _))) rfl (fun Φ_4 D4 q3 => ?_)
  obtain ⟨⟨ap3, fr3⟩, h4⟩ := q3
  refine en <| sr <| la rfl <| la rfl <| la rfl <| en <| sr <| la rfl <| la rfl <| la rfl <| lq (q_indexAddrH Sl_37 rfl rfl h4 hx1) rfl <| lf Fld_139_1 rfl rfl rfl <| lf Fld_137_2 rfl rfl rfl <| lf Fld_85_0 rfl rfl rfl ?_
  refine lu (u_setH (js := [0]) (Rr := []) (o := 3) (vs := [.int .i64 (IntKind.i64.wrap ((IntKind.i64.wrap ((IntKind.i64.wrap (s2 + 1)) + 1)) + 1))]) (cs' := [.int .i64 s2, .int .i64 (IntKind.i64.wrap (s2 + 1)), .string x2, .int .i64 (IntKind.i64.wrap ((IntKind.i64.wrap ((IntKind.i64.wrap (s2 + 1)) + 1)) + 1)), .int .i64 x1.L.V.N, .string x1.L.V.S, .int .i64 x1.R.K, .string x1.R.S, .int .i64 x1.R.V.K, .int .i64 x1.R.V.N, .string x1.R.V.S]) RTCond.lasts Sz_3 rfl rfl rfl rfl ⟨rfl, trivial⟩ rfl h4 rfl rfl (fun ap => (Dj.nil _))) rfl (fun Φ_5 D5 q4 => ?_)
  obtain ⟨⟨ap4, fr4⟩, h5⟩ := q4
  refine en <| sr <| la rfl <| la rfl <| la rfl <| en <| sr <| la rfl <| la rfl <| la rfl <| lq (q_indexAddrH Sl_37 rfl rfl h5 hx1) rfl <| lf Fld_139_1 rfl rfl rfl <| lf Fld_137_2 rfl rfl rfl <| lf Fld_85_1 rfl rfl rfl ?_
  refine lu (u_setH (js := [0]) (Rr := []) (o := 4) (vs := [.int .i64 (IntKind.i64.wrap ((IntKind.i64.wrap ((IntKind.i64.wrap ((IntKind.i64.wrap (s2 + 1)) + 1)) + 1)) + 1))]) (cs' := [.int .i64 s2, .int .i64 (IntKind.i64.wrap (s2 + 1)), .string x2, .int .i64 (IntKind.i64.wrap ((IntKind.i64.wrap ((IntKind.i64.wrap (s2 + 1)) + 1)) + 1)), .int .i64 (IntKind.i64.wrap ((IntKind.i64.wrap ((IntKind.i64.wrap ((IntKind.i64.wrap (s2 + 1)) + 1)) + 1)) + 1)), .string x1.L.V.S, .int .i64 x1.R.K, .string x1.R.S, .int .i64 x1.R.V.K, .int .i64 x1.R.V.N, .string x1.R.V.S]) RTCond.lasts Sz_3 rfl rfl rfl rfl ⟨rfl, trivial⟩ rfl h5 rfl rfl (fun ap => (Dj.nil _))) rfl (fun Φ_6 D6 q5 => ?_)
  obtain ⟨⟨ap5, fr5⟩, h6⟩ := q5
  refine en <| sr <| la rfl <| la rfl <| la rfl <| en <| sr <| la rfl <| la rfl <| la rfl ?_
  obtain ⟨x3, hx3, h⟩ := bs h
  refine lp (p_call Fun_116 rfl (fun w1 hw => m_l_markText_ok hw.fro N (IntKind.i64.wrap ((IntKind.i64.wrap ((IntKind.i64.wrap ((IntKind.i64.wrap ((IntKind.i64.wrap (s2 + 1)) + 1)) + 1)) + 1)) + 1)) hx3)) rfl <| lq (q_indexAddrH Sl_37 rfl rfl h6 hx1) rfl <| lf Fld_139_1 rfl rfl rfl <| lf Fld_137_2 rfl rfl rfl <| lf Fld_85_2 rfl rfl rfl ?_
  refine lu (u_setH (js := [0]) (Rr := []) (o := 5) (vs := [.string x3]) (cs' := [.int .i64 s2, .int .i64 (IntKind.i64.wrap (s2 + 1)), .string x2, .int .i64 (IntKind.i64.wrap ((IntKind.i64.wrap ((IntKind.i64.wrap (s2 + 1)) + 1)) + 1)), .int .i64 (IntKind.i64.wrap ((IntKind.i64.wrap ((IntKind.i64.wrap ((IntKind.i64.wrap (s2 + 1)) + 1)) + 1)) + 1)), .string x3, .int .i64 x1.R.K, .string x1.R.S, .int .i64 x1.R.V.K, .int .i64 x1.R.V.N, .string x1.R.V.S]) RTCond.lasts Sz_9 rfl rfl rfl rfl ⟨rfl, trivial⟩ rfl h6 rfl rfl (fun ap => (Dj.nil _))) rfl (fun Φ_7 D7 q6 => ?_)
  obtain ⟨⟨ap6, fr6⟩, h7⟩ := q6
  refine en <| sr <| la rfl <| la rfl <| la rfl <| en <| sr <| la rfl <| la rfl <| la rfl <| lq (q_indexAddrH Sl_37 rfl rfl h7 hx1) rfl <| lf Fld_139_2 rfl rfl rfl <| lf Fld_137_0 rfl rfl rfl ?_
  refine lu (u_setH (js := [0]) (Rr := []) (o := 6) (vs := [.int .i64 (IntKind.i64.wrap ((IntKind.i64.wrap ((IntKind.i64.wrap ((IntKind.i64.wrap ((IntKind.i64.wrap ((IntKind.i64.wrap (s2 + 1)) + 1)) + 1)) + 1)) + 1)) + 1))]) (cs' := [.int .i64 s2, .int .i64 (IntKind.i64.wrap (s2 + 1)), .string x2, .int .i64 (IntKind.i64.wrap ((IntKind.i64.wrap ((IntKind.i64.wrap (s2 + 1)) + 1)) + 1)), .int .i64 (IntKind.i64.wrap ((IntKind.i64.wrap ((IntKind.i64.wrap ((IntKind.i64.wrap (s2 + 1)) + 1)) + 1)) + 1)), .string x3, .int .i64 (IntKind.i64.wrap ((IntKind.i64.wrap ((IntKind.i64.wrap ((IntKind.i64.wrap ((IntKind.i64.wrap ((IntKind.i64.wrap (s2 + 1)) + 1)) + 1)) + 1)) + 1)) + 1)), .string x1.R.S, .int .i64 x1.R.V.K, .int .i64 x1.R.V.N, .string x1.R.V.S]) RTCond.lasts Sz_3 rfl rfl rfl rfl ⟨rfl, trivial⟩ rfl h7 rfl rfl (fun ap => (Dj.nil _))) rfl (fun Φ_8 D8 q7 => ?_)
  obtain ⟨⟨ap7, fr7⟩, h8⟩ := q7
  refine en <| sr <| la rfl <| la rfl <| la rfl <| en <| sr <| la rfl <| la rfl <| la rfl ?_
  obtain ⟨x4, hx4, h⟩ := bs h
  refine lp (p_call Fun_116 rfl (fun w1 hw => m_l_markText_ok hw.fro N (IntKind.i64.wrap ((IntKind.i64.wrap ((IntKind.i64.wrap ((IntKind.i64.wrap ((IntKind.i64.wrap ((IntKind.i64.wrap ((IntKind.i64.wrap (s2 + 1)) + 1)) + 1)) + 1)) + 1)) + 1)) + 1)) hx4)) rfl <| lq (q_indexAddrH Sl_37 rfl rfl h8 hx1) rfl <| lf Fld_139_2 rfl rfl rfl <| lf Fld_137_1 rfl rfl rfl ?_
  refine lu (u_setH (js := [0]) (Rr := []) (o := 7) (vs := [.string x4]) (cs' := [.int .i64 s2, .int .i64 (IntKind.i64.wrap (s2 + 1)), .string x2, .int .i64 (IntKind.i64.wrap ((IntKind.i64.wrap ((IntKind.i64.wrap (s2 + 1)) + 1)) + 1)), .int .i64 (IntKind.i64.wrap ((IntKind.i64.wrap ((IntKind.i64.wrap ((IntKind.i64.wrap (s2 + 1)) + 1)) + 1)) + 1)), .string x3, .int .i64 (IntKind.i64.wrap ((IntKind.i64.wrap ((IntKind.i64.wrap ((IntKind.i64.wrap ((IntKind.i64.wrap ((IntKind.i64.wrap (s2 + 1)) + 1)) + 1)) + 1)) + 1)) + 1)), .string x4, .int .i64 x1.R.V.K, .int .i64 x1.R.V.N, .string x1.R.V.S]) RTCond.lasts Sz_9 rfl rfl rfl rfl ⟨rfl, trivial⟩ rfl h8 rfl rfl (fun ap => (Dj.nil _))) rfl (fun Φ_9 D9 q8 => ?_)
  obtain ⟨⟨ap8, fr8⟩, h9⟩ := q8
  refine en <| sr <| la rfl <| la rfl <| la rfl <| en <| sr <| la rfl <| la rfl <| la rfl <| lq (q_indexAddrH Sl_37 rfl rfl h9 hx1) rfl <| lf Fld_139_2 rfl rfl rfl <| lf Fld_137_2 rfl rfl rfl <| lf Fld_85_0 rfl rfl rfl ?_
  refine lu (u_setH (js := [0]) (Rr := []) (o := 8) (vs := [.int .i64 (IntKind.i64.wrap ((IntKind.i64.wrap ((IntKind.i64.wrap ((IntKind.i64.wrap ((IntKind.i64.wrap ((IntKind.i64.wrap ((IntKind.i64.wrap ((IntKind.i64.wrap (s2 + 1)) + 1)) + 1)) + 1)) + 1)) + 1)) + 1)) + 1))]) (cs' := [.int .i64 s2, .int .i64 (IntKind.i64.wrap (s2 + 1)), .string x2, .int .i64 (IntKind.i64.wrap ((IntKind.i64.wrap ((IntKind.i64.wrap (s2 + 1)) + 1)) + 1)), .int .i64 (IntKind.i64.wrap ((IntKind.i64.wrap ((IntKind.i64.wrap ((IntKind.i64.wrap (s2 + 1)) + 1)) + 1)) + 1)), .string x3, .int .i64 (IntKind.i64.wrap ((IntKind.i64.wrap ((IntKind.i64.wrap ((IntKind.i64.wrap ((IntKind.i64.wrap ((IntKind.i64.wrap (s2 + 1)) + 1)) + 1)) + 1)) + 1)) + 1)), .string x4, .int .i64 (IntKind.i64.wrap ((IntKind.i64.wrap ((IntKind.i64.wrap ((IntKind.i64.wrap ((IntKind.i64.wrap ((IntKind.i64.wrap ((IntKind.i64.wrap ((IntKind.i64.wrap (s2 + 1)) + 1)) + 1)) + 1)) + 1)) + 1)) + 1)) + 1)), .int .i64 x1.R.V.N, .string x1.R.V.S]) RTCond.lasts Sz_3 rfl rfl rfl rfl ⟨rfl, trivial⟩ rfl h9 rfl rfl (fun ap => (Dj.nil _))) rfl (fun Φ_10 D10 q9 => ?_)
  obtain ⟨⟨ap9, fr9⟩, h10⟩ := q9
  refine en <| sr <| la rfl <| la rfl <| la rfl <| en <| sr <| la rfl <| la rfl <| la rfl <| lq (q_indexAddrH Sl_37 rfl rfl h10 hx1) rfl <| lf Fld_139_2 rfl rfl rfl <| lf Fld_137_2 rfl rfl rfl <| lf Fld_85_1 rfl rfl rfl ?_
  refine lu (u_setH (js := [0]) (Rr := []) (o := 9) (vs := [.int .i64 (IntKind.i64.wrap ((IntKind.i64.wrap ((IntKind.i64.wrap ((IntKind.i64.wrap ((IntKind.i64.wrap ((IntKind.i64.wrap ((IntKind.i64.wrap ((IntKind.i64.wrap ((IntKind.i64.wrap (s2 + 1)) + 1)) + 1)) + 1)) + 1)) + 1)) + 1)) + 1)) + 1))]) (cs' := [.int .i64 s2, .int .i64 (IntKind.i64.wrap (s2 + 1)), .string x2, .int .i64 (IntKind.i64.wrap ((IntKind.i64.wrap ((IntKind.i64.wrap (s2 + 1)) + 1)) + 1)), .int .i64 (IntKind.i64.wrap ((IntKind.i64.wrap ((IntKind.i64.wrap ((IntKind.i64.wrap (s2 + 1)) + 1)) + 1)) + 1)), .string x3, .int .i64 (IntKind.i64.wrap ((IntKind.i64.wrap ((IntKind.i64.wrap ((IntKind.i64.wrap ((IntKind.i64.wrap ((IntKind.i64.wrap (s2 + 1)) + 1)) + 1)) + 1)) + 1)) + 1)), .string x4, .int .i64 (IntKind.i64.wrap ((IntKind.i64.wrap ((IntKind.i64.wrap ((IntKind.i64.wrap ((IntKind.i64.wrap ((IntKind.i64.wrap ((IntKind.i64.wrap ((IntKind.i64.wrap (s2 + 1)) + 1)) + 1)) + 1)) + 1)) + 1)) + 1)) + 1)), .int .i64 (IntKind.i64.wrap ((IntKind.i64.wrap ((IntKind.i64.wrap ((IntKind.i64.wrap ((IntKind.i64.wrap ((IntKind.i64.wrap ((IntKind.i64.wrap ((IntKind.i64.wrap ((IntKind.i64.wrap (s2 + 1)) + 1)) + 1)) + 1)) + 1)) + 1)) + 1)) + 1)) + 1)), .string x1.R.V.S]) RTCond.lasts Sz_3 rfl rfl rfl rfl ⟨rfl, trivial⟩ rfl h10 rfl rfl (fun ap => (Dj.nil _))) rfl (fun Φ_11 D11 q10 => ?_)
  obtain ⟨⟨ap10, fr10⟩, h11⟩ := q10
  refine en <| sr <| la rfl <| la rfl <| la rfl <| en <| sr <| la rfl <| la rfl <| la rfl ?_
  obtain ⟨x5, hx5, h⟩ := bs h
  refine lp (p_call Fun_116 rfl (fun w1 hw => m_l_markText_ok hw.fro N (IntKind.i64.wrap ((IntKind.i64.wrap ((IntKind.i64.wrap ((IntKind.i64.wrap ((IntKind.i64.wrap ((IntKind.i64.wrap ((IntKind.i64.wrap ((IntKind.i64.wrap ((IntKind.i64.wrap ((IntKind.i64.wrap (s2 + 1)) + 1)) + 1)) + 1)) + 1)) + 1)) + 1)) + 1)) + 1)) + 1)) hx5)) rfl <| lq (q_indexAddrH Sl_37 rfl rfl h11 hx1) rfl <| lf Fld_139_2 rfl rfl rfl <| lf Fld_137_2 rfl rfl rfl ?_
  refine lf Fld_85_2 rfl rfl rfl ?_
  refine lu (u_setH (js := [0]) (Rr := []) (o := 10) (vs := [.string x5]) (cs' := [.int .i64 s2, .int .i64 (IntKind.i64.wrap (s2 + 1)), .string x2, .int .i64 (IntKind.i64.wrap ((IntKind.i64.wrap ((IntKind.i64.wrap (s2 + 1)) + 1)) + 1)), .int .i64 (IntKind.i64.wrap ((IntKind.i64.wrap ((IntKind.i64.wrap ((IntKind.i64.wrap (s2 + 1)) + 1)) + 1)) + 1)), .string x3, .int .i64 (IntKind.i64.wrap ((IntKind.i64.wrap ((IntKind.i64.wrap ((IntKind.i64.wrap ((IntKind.i64.wrap ((IntKind.i64.wrap (s2 + 1)) + 1)) + 1)) + 1)) + 1)) + 1)), .string x4, .int .i64 (IntKind.i64.wrap ((IntKind.i64.wrap ((IntKind.i64.wrap ((IntKind.i64.wrap ((IntKind.i64.wrap ((IntKind.i64.wrap ((IntKind.i64.wrap ((IntKind.i64.wrap (s2 + 1)) + 1)) + 1)) + 1)) + 1)) + 1)) + 1)) + 1)), .int .i64 (IntKind.i64.wrap ((IntKind.i64.wrap ((IntKind.i64.wrap ((IntKind.i64.wrap ((IntKind.i64.wrap ((IntKind.i64.wrap ((IntKind.i64.wrap ((IntKind.i64.wrap ((IntKind.i64.wrap (s2 + 1)) + 1)) + 1)) + 1)) + 1)) + 1)) + 1)) + 1)) + 1)), .string x5]) RTCond.lasts Sz_9 rfl rfl rfl rfl ⟨rfl, trivial⟩ rfl h11 rfl rfl (fun ap => (Dj.nil _))) rfl (fun Φ_12 D12 q11 => ?_)
  obtain ⟨⟨ap11, fr11⟩, h12⟩ := q11
  refine en <| rgn <| la rfl <| la rfl <| la rfl <| en <| ib <| rgn <| la rfl <| la rfl <| la rfl <| en ?_
  have h13 := h12.unfocusF RTCond.flat (cs := [.int .i64 s2, .int .i64 (IntKind.i64.wrap (s2 + 1)), .string x2, .int .i64 (IntKind.i64.wrap ((IntKind.i64.wrap ((IntKind.i64.wrap (s2 + 1)) + 1)) + 1)), .int .i64 (IntKind.i64.wrap ((IntKind.i64.wrap ((IntKind.i64.wrap ((IntKind.i64.wrap (s2 + 1)) + 1)) + 1)) + 1)), .string x3, .int .i64 (IntKind.i64.wrap ((IntKind.i64.wrap ((IntKind.i64.wrap ((IntKind.i64.wrap ((IntKind.i64.wrap ((IntKind.i64.wrap (s2 + 1)) + 1)) + 1)) + 1)) + 1)) + 1)), .string x4, .int .i64 (IntKind.i64.wrap ((IntKind.i64.wrap ((IntKind.i64.wrap ((IntKind.i64.wrap ((IntKind.i64.wrap ((IntKind.i64.wrap ((IntKind.i64.wrap ((IntKind.i64.wrap (s2 + 1)) + 1)) + 1)) + 1)) + 1)) + 1)) + 1)) + 1)), .int .i64 (IntKind.i64.wrap ((IntKind.i64.wrap ((IntKind.i64.wrap ((IntKind.i64.wrap ((IntKind.i64.wrap ((IntKind.i64.wrap ((IntKind.i64.wrap ((IntKind.i64.wrap ((IntKind.i64.wrap (s2 + 1)) + 1)) + 1)) + 1)) + 1)) + 1)) + 1)) + 1)) + 1)), .string x5]) (x' := (⟨s2, (⟨IntKind.i64.wrap (s2 + 1), x2, (⟨IntKind.i64.wrap ((IntKind.i64.wrap ((IntKind.i64.wrap (s2 + 1)) + 1)) + 1), IntKind.i64.wrap ((IntKind.i64.wrap ((IntKind.i64.wrap ((IntKind.i64.wrap (s2 + 1)) + 1)) + 1)) + 1), x3⟩ : TVal)⟩ : TArg), (⟨IntKind.i64.wrap ((IntKind.i64.wrap ((IntKind.i64.wrap ((IntKind.i64.wrap ((IntKind.i64.wrap ((IntKind.i64.wrap (s2 + 1)) + 1)) + 1)) + 1)) + 1)) + 1), x4, (⟨IntKind.i64.wrap ((IntKind.i64.wrap ((IntKind.i64.wrap ((IntKind.i64.wrap ((IntKind.i64.wrap ((IntKind.i64.wrap ((IntKind.i64.wrap ((IntKind.i64.wrap (s2 + 1)) + 1)) + 1)) + 1)) + 1)) + 1)) + 1)) + 1), IntKind.i64.wrap ((IntKind.i64.wrap ((IntKind.i64.wrap ((IntKind.i64.wrap ((IntKind.i64.wrap ((IntKind.i64.wrap ((IntKind.i64.wrap ((IntKind.i64.wrap ((IntKind.i64.wrap (s2 + 1)) + 1)) + 1)) + 1)) + 1)) + 1)) + 1)) + 1)) + 1), x5⟩ : TVal)⟩ : TArg)⟩ : TCond)) ⟨rfl, rfl⟩
  exact lback (ih1 (Φ_12, (s1.set s3.toNat (⟨s2, (⟨IntKind.i64.wrap (s2 + 1), x2, (⟨IntKind.i64.wrap ((IntKind.i64.wrap ((IntKind.i64.wrap (s2 + 1)) + 1)) + 1), IntKind.i64.wrap ((IntKind.i64.wrap ((IntKind.i64.wrap ((IntKind.i64.wrap (s2 + 1)) + 1)) + 1)) + 1), x3⟩ : TVal)⟩ : TArg), (⟨IntKind.i64.wrap ((IntKind.i64.wrap ((IntKind.i64.wrap ((IntKind.i64.wrap ((IntKind.i64.wrap ((IntKind.i64.wrap (s2 + 1)) + 1)) + 1)) + 1)) + 1)) + 1), x4, (⟨IntKind.i64.wrap ((IntKind.i64.wrap ((IntKind.i64.wrap ((IntKind.i64.wrap ((IntKind.i64.wrap ((IntKind.i64.wrap ((IntKind.i64.wrap ((IntKind.i64.wrap (s2 + 1)) + 1)) + 1)) + 1)) + 1)) + 1)) + 1)) + 1), IntKind.i64.wrap ((IntKind.i64.wrap ((IntKind.i64.wrap ((IntKind.i64.wrap ((IntKind.i64.wrap ((IntKind.i64.wrap ((IntKind.i64.wrap ((IntKind.i64.wrap ((IntKind.i64.wrap (s2 + 1)) + 1)) + 1)) + 1)) + 1)) + 1)) + 1)) + 1)) + 1), x5⟩ : TVal)⟩ : TArg)⟩ : TCond)), IntKind.i64.wrap ((IntKind.i64.wrap ((IntKind.i64.wrap ((IntKind.i64.wrap ((IntKind.i64.wrap ((IntKind.i64.wrap ((IntKind.i64.wrap ((IntKind.i64.wrap ((IntKind.i64.wrap ((IntKind.i64.wrap ((IntKind.i64.wrap (s2 + 1)) + 1)) + 1)) + 1)) + 1)) + 1)) + 1)) + 1)) + 1)) + 1)) + 1), IntKind.i64.wrap (s3 + 1)) ⟨h, h13⟩) ⟨rfl, rfl, rfl, trivial⟩ (fun w1 hw => (hw.sel (js := [0]) rfl).selO (js := []) rfl)
 refine xt rfl <| sr <| la rfl <| la rfl <| en ?_
 refine WT.ret Tryz.func61 (resOk.one rfl) (fun w1 hw => ?_)
 subst hb0
 cases h
 refine postG_of_St (js := [0]) hw rfl ⟨rfl, rfl, k1⟩
theorem m_l_markExprS_ok {Φ : Hp} {w : World} (hΦ : In Φ w) (N : Nat) (p0 : (List TExpr)) (p1 : Int) {pv0 : Value} (ph0 : OSl RTExpr 191 11 Φ [] pv0 p0) (hB : [ob pv0].flatten.Nodup) (hlt : ∀ k ∈ [ob pv0].flatten, k < w.heap.size) {r : Int × (List TExpr)} (h : m_l_markExprS N p0 p1 = some r) :
  Calls Tryz.prog 118 [pv0, .int .i64 p1].toArray w (PostG Φ w [ob pv0].flatten (fun Φ' Fs v => v = .int .i64 r.1 ∧ Fs = [ob pv0] ∧ OSl RTExpr 191 11 Φ' [] pv0 r.2)) := by
 refine enter Tryz.func118 rfl Tryz.ntmps118 rfl (St.start hΦ [ob pv0] hB hlt) ?_
 generalize hb0 : (⟨w, [ob pv0].flatten, Φ⟩ : Base) = w0
 unfold m_l_markExprS at h
 refine sr <| la rfl <| en <| sq <| sr <| la rfl <| en <| blk ?_
 refine loop_in (σ := Hp × (List TExpr) × Int × Int) (fun s => [(0, pv0), (1, .int .i64 s.2.2.1), (5, .int .i64 s.2.2.2)]) (fun s => St w0 s.1 [] [ob pv0]) (fun m s => m_l_markExprS_l1 N m s.2.1 s.2.2.1 s.2.2.2 = some r ∧ (OSl RTExpr 191 11 s.1 [] pv0 s.2.1)) (Φ, p0, p1, 0) N ⟨h, ph0⟩ ⟨rfl, rfl, rfl, trivial⟩ (fun w1 hw => (hw.sel (js := [0]) rfl).selO (js := []) rfl) (fun s hm => none_ne hm.1) (fun n1 ih1 s hm => ?_)
 obtain ⟨Φ_1, s1, s2, s3⟩ := s
 obtain ⟨h, k1⟩ := hm
 dsimp only at h k1 ⊢
 unfold m_l_markExprS_l1 at h
 refine sq <| sr <| la rfl <| la rfl <| lq (q_lenR Sl_141 rfl rfl k1.rsl) rfl <| la rfl <| en ?_
 refine cdh rfl h (fun c1 h => ?_) (fun c1 h => ?_)
 ·refine WT.skip <| sq <| blk <| sr <| la rfl <| la rfl <| la rfl ?_
  obtain ⟨x1, hx1, h⟩ := bs h
  refine lp (p_call Fun_116 rfl (fun w1 hw => m_l_markText_ok hw.fro N s2 hx1)) rfl ?_
  obtain ⟨x2, hx2, h⟩ := bs h
  obtain ⟨cs1, F1, h1, r1⟩ := k1.focusF RTExpr.flat hx2
  obtain ⟨rfl, -⟩ := r1
  refine lq (q_indexAddrH Sl_141 rfl rfl h1 hx2) rfl <| lf Fld_191_0 rfl rfl rfl ?_
  refine lu (u_setH (js := [0]) (Rr := []) (o := 0) (vs := [.string x1]) (cs' := [.string x1, .int .i64 x2.L.K, .string x2.L.S, .int .i64 x2.L.V.K, .int .i64 x2.L.V.N, .string x2.L.V.S, .int .i64 x2.R.K, .string x2.R.S, .int .i64 x2.R.V.K, .int .i64 x2.R.V.N, .string x2.R.V.S]) RTExpr.lasts Sz_9 rfl rfl rfl rfl ⟨rfl, trivial⟩ rfl h1 rfl rfl (fun ap => (Dj.nil _))) rfl (fun Φ_2 D2 q1 => ?_)
  obtain ⟨⟨ap1, fr1⟩, h2⟩ := q1
  refine en <| sr <| la rfl <| la rfl <| la rfl <| en <| sr <| la rfl <| la rfl <| la rfl <| lq (q_indexAddrH Sl_141 rfl rfl h2 hx2) rfl <| lf Fld_191_1 rfl rfl rfl <| lf Fld_137_0 rfl rfl rfl ?_
  refine lu (u_setH (js := [0]) (Rr := []) (o := 1) (vs := [.int .i64 (IntKind.i64.wrap (s2 + 1))]) (cs' := [.string x1, .int .i64 (IntKind.i64.wrap (s2 + 1)), .string x2.L.S, .int .i64 x2.L.V.K, .int .i64 x2.L.V.N, .string x2.L.V.S, .int .i64 x2.R.K, .string x2.R.S, .int .i64 x2.R.V.K, .int .i64 x2.R.V.N, .string x2.R.V.S]) RTExpr.lasts Sz_3 rfl rfl rfl rfl ⟨rfl, trivial⟩ rfl h2 rfl rfl (fun ap => (Dj.nil _))) rfl (fun Φ_3 D3 q2 => ?_)
  obtain ⟨⟨ap2, fr2⟩, h3⟩ := q2
  refine en <| sr <| la rfl <| la rfl <| la rfl <| en <| sr <| la rfl <| la rfl <| la rfl ?_
  obtain ⟨x3, hx3, h⟩ := bs h
  refine lp (p_call Fun_116 rfl (fun w1 hw => m_l_markText_ok hw.fro N (IntKind.i64.wrap ((IntKind.i64.wrap (s2 + 1)) + 1)) hx3)) rfl <| lq (q_indexAddrH Sl_141 rfl rfl h3 hx2) rfl <| lf Fld_191_1 rfl rfl rfl <| lf Fld_137_1 rfl rfl rfl ?_
  refine lu (u_setH (js := [0]) (Rr := []) (o := 2) (vs := [.string x3]) (cs' := [.string x1, .int .i64 (IntKind.i64.wrap (s2 + 1)), .string x3, .int .i64 x2.L.V.K, .int .i64 x2.L.V.N, .string x2.L.V.S, .int .i64 x2.R.K, .string x2.R.S, .int .i64 x2.R.V.K, .int .i64 x2.R.V.N, .string x2.R.V.S]) RTExpr.lasts Sz_9 rfl rfl rfl rfl ⟨rfl, trivial⟩ rfl h3 rfl rfl (fun ap => (Dj.nil _))) rfl (fun Φ_4 D4 q3 => ?_)
  obtain ⟨⟨ap3, fr3⟩, h4⟩ := q3
  refine en <| sr <| la rfl <| la rfl <| la rfl <| en <| sr <| la rfl <| la rfl <| la rfl <| lq (q_indexAddrH Sl_141 rfl rfl h4 hx2) rfl <| lf Fld_191_1 rfl rfl rfl <| lf Fld_137_2 rfl rfl rfl <| lf Fld_85_0 rfl rfl rfl ?_
  refine lu (u_setH (js := [0]) (Rr := []) (o := 3) (vs := [.int .i64 (IntKind.i64.wrap ((IntKind.i64.wrap ((IntKind.i64.wrap (s2 + 1)) + 1)) + 1))]) (cs' := [.string x1, .int .i64 (IntKind.i64.wrap (s2 + 1)), .string x3, .int .i64 (IntKind.i64.wrap ((IntKind.i64.wrap ((IntKind.i64.wrap (s2 + 1)) + 1)) + 1)), .int .i64 x2.L.V.N, .string x2.L.V.S, .int .i64 x2.R.K, .string x2.R.S, .int .i64 x2.R.V.K, .int .i64 x2.R.V.N, .string x2.R.V.S]) RTExpr.lasts Sz_3 rfl rfl rfl rfl ⟨rfl, trivial⟩ rfl h4 rfl rfl (fun ap => (Dj.nil _))) rfl (fun Φ_5 D5 q4 => ?_)
  obtain ⟨⟨ap4, fr4⟩, h5⟩ := q4
  refine en <| sr <| la rfl <| la rfl <| la rfl <| en <| sr <| la rfl <| la rfl <| la rfl <| lq (q_indexAddrH Sl_141 rfl rfl h5 hx2) rfl <| lf Fld_191_1 rfl rfl rfl <| lf Fld_137_2 rfl rfl rfl <| lf Fld_85_1 rfl rfl rfl ?_
  refine lu (u_setH (js := [0]) (Rr := []) (o := 4) (vs := [.int .i64 (IntKind.i64.wrap ((IntKind.i64.wrap ((IntKind.i64.wrap ((IntKind.i64.wrap (s2 + 1)) + 1)) + 1)) + 1))]) (cs' := [.string x1, .int .i64 (IntKind.i64.wrap (s2 + 1)), .string x3, .int .i64 (IntKind.i64.wrap ((IntKind.i64.wrap ((IntKind.i64.wrap (s2 + 1)) + 1)) + 1)), .int .i64 (IntKind.i64.wrap ((IntKind.i64.wrap ((IntKind.i64.wrap ((IntKind.i64.wrap (s2 + 1)) + 1)) + 1)) + 1)), .string x2.L.V.S, .int .i64 x2.R.K, .string x2.R.S, .int .i64 x2.R.V.K, .int .i64 x2.R.V.N, .string x2.R.V.S]) RTExpr.lasts Sz_3 rfl rfl rfl rfl ⟨rfl, trivial⟩ rfl h5 rfl rfl (fun ap => (Dj.nil _))) rfl (fun Φ_6 D6 q5 => ?_)
  obtain ⟨⟨ap5, fr5⟩, h6⟩ := q5
  refine en <| sr <| la rfl <| la rfl <| la rfl <| en <| sr <| la rfl <| la rfl <| la rfl ?_
  obtain ⟨x4, hx4, h⟩ := bs h
  refine lp (p_call Fun_116 rfl (fun w1 hw => m_l_markText_ok hw.fro N (IntKind.i64.wrap ((IntKind.i64.wrap ((IntKind.i64.wrap ((IntKind.i64.wrap ((IntKind.i64.wrap (s2 + 1)) + 1)) + 1)) + 1)) + 1)) hx4)) rfl <| lq (q_indexAddrH Sl_141 rfl rfl h6 hx2) rfl <| lf Fld_191_1 rfl rfl rfl <| lf Fld_137_2 rfl rfl rfl <| lf Fld_85_2 rfl rfl rfl ?_
  refine lu (u_setH (js := [0]) (Rr := []) (o := 5) (vs := [.string x4]) (cs' := [.string x1, .int .i64 (IntKind.i64.wrap (s2 + 1)), .string x3, .int .i64 (IntKind.i64.wrap ((IntKind.i64.wrap ((IntKind.i64.wrap (s2 + 1)) + 1)) + 1)), .int .i64 (IntKind.i64.wrap ((IntKind.i64.wrap ((IntKind.i64.wrap ((IntKind.i64.wrap (s2 + 1)) + 1)) + 1)) + 1)), .string x4, .int .i64 x2.R.K, .string x2.R.S, .int .i64 x2.R.V.K, .int .i64 x2.R.V.N, .string x2.R.V.S]) RTExpr.lasts Sz_9 rfl rfl rfl rfl ⟨rfl, trivial⟩ rfl h6 rfl rfl (fun ap => (Dj.nil _))) rfl (fun Φ_7 D7 q6 => ?_)
  obtain ⟨⟨ap6, fr6⟩, h7⟩ := q6
  refine en <| sr <| la rfl <| la rfl <| la rfl <| en <| sr <| la rfl <| la rfl <| la rfl <| lq (q_indexAddrH Sl_141 rfl rfl h7 hx2) rfl <| lf Fld_191_2 rfl rfl rfl <| lf Fld_137_0 rfl rfl rfl ?_
  refine lu (u_setH (js := [0]) (Rr := []) (o := 6) (vs := [.int .i64 (IntKind.i64.wrap ((IntKind.i64.wrap ((IntKind.i64.wrap ((IntKind.i64.wrap ((IntKind.i64.wrap ((IntKind.i64.wrap (s2 + 1)) + 1)) + 1)) + 1)) + 1)) + 1))]) (cs' := [.string x1, .int .i64 (IntKind.i64.wrap (s2 + 1)), .string x3, .int .i64 (IntKind.i64.wrap ((IntKind.i64.wrap ((IntKind.i64.wrap (s2 + 1)) + 1)) + 1)), .int .i64 (IntKind.i64.wrap ((IntKind.i64.wrap ((IntKind.i64.wrap ((IntKind.i64.wrap (s2 + 1)) + 1)) + 1)) + 1)), .string x4, .int .i64 (IntKind.i64.wrap ((IntKind.i64.wrap ((IntKind.i64.wrap ((IntKind.i64.wrap ((IntKind.i64.wrap ((IntKind.i64.wrap (s2 + 1)) + 1)) + 1)) + 1)) + 1)) + 1)), .string x2.R.S, .int .i64 x2.R.V.K, .int .i64 x2.R.V.N, .string x2.R.V.S]) RTExpr.lasts Sz_3 rfl rfl rfl rfl ⟨rfl, trivial⟩ rfl h7 rfl rfl (fun ap => (Dj.nil _))) rfl (fun Φ_8 D8 q7 => ?_)
  obtain ⟨⟨ap7, fr7⟩, h8⟩ := q7
  refine en <| sr <| la rfl <| la rfl <| la rfl <| en <| sr <| la rfl <| la rfl <| la rfl ?_
  obtain ⟨x5, hx5, h⟩ := bs h
  refine lp (p_call Fun_116 rfl (fun w1 hw => m_l_markText_ok hw.fro N (IntKind.i64.wrap ((IntKind.i64.wrap ((IntKind.i64.wrap ((IntKind.i64.wrap ((IntKind.i64.wrap ((IntKind.i64.wrap ((IntKind.i64.wrap (s2 + 1)) + 1)) + 1)) + 1)) + 1)) + 1)) + 1)) hx5)) rfl <| lq (q_indexAddrH Sl_141 rfl rfl h8 hx2) rfl <| lf Fld_191_2 rfl rfl rfl <| lf Fld_137_1 rfl rfl rfl ?_
  refine lu (u_setH (js := [0]) (Rr := []) (o := 7) (vs := [.string x5]) (cs' := [.string x1, .int .i64 (IntKind.i64.wrap (s2 + 1)), .string x3, .int .i64 (IntKind.i64.wrap ((IntKind.i64.wrap ((IntKind.i64.wrap (s2 + 1)) + 1)) + 1)), .int .i64 (IntKind.i64.wrap ((IntKind.i64.wrap ((IntKind.i64.wrap ((IntKind.i64.wrap (s2 + 1)) + 1)) + 1)) + 1)), .string x4, .int .i64 (IntKind.i64.wrap ((IntKind.i64.wrap ((IntKind.i64.wrap ((IntKind.i64.wrap ((IntKind.i64.wrap ((IntKind.i64.wrap (s2 + 1)) + 1)) + 1)) + 1)) + 1)) + 1)), .string x5, .int .i64 x2.R.V.K, .int .i64 x2.R.V.N, .string x2.R.V.S]) RTExpr.lasts Sz_9 rfl rfl rfl rfl ⟨rfl, trivial⟩ rfl h8 rfl rfl (fun ap => (Dj.nil _))) rfl (fun Φ_9 D9 q8 => ?_)
  obtain ⟨⟨ap8, fr8⟩, h9⟩ := q8
  refine en <| sr <| la rfl <| la rfl <| la rfl <| en <| sr <| la rfl <| la rfl <| la rfl <| lq (q_indexAddrH Sl_141 rfl rfl h9 hx2) rfl <| lf Fld_191_2 rfl rfl rfl <| lf Fld_137_2 rfl rfl rfl <| lf Fld_85_0 rfl rfl rfl ?_
  refine lu (u_setH (js := [0]) (Rr := []) (o := 8) (vs := [.int .i64 (IntKind.i64.wrap ((IntKind.i64.wrap ((IntKind.i64.wrap ((IntKind.i64.wrap ((IntKind.i64.wrap ((IntKind.i64.wrap ((IntKind.i64.wrap ((IntKind.i64.wrap (s2 + 1)) + 1)) + 1)) + 1)) + 1)) + 1)) + 1)) + 1))]) (cs' := [.string x1, .int .i64 (IntKind.i64.wrap (s2 + 1)), .string x3, .int .i64 (IntKind.i64.wrap ((IntKind.i64.wrap ((IntKind.i64.wrap (s2 + 1)) + 1)) + 1)), .int .i64 (IntKind.i64.wrap ((IntKind.i64.wrap ((IntKind.i64.wrap ((IntKind.i64.wrap (s2 + 1)) + 1)) + 1)) + 1)), .string x4, .int .i64 (IntKind.i64.wrap ((IntKind.i64.wrap ((IntKind.i64.wrap ((IntKind.i64.wrap ((IntKind.i64.wrap ((IntKind.i64.wrap (s2 + 1)) + 1)) + 1)) + 1)) + 1)) + 1)), .string x5, .int .i64 (IntKind.i64.wrap ((IntKind.i64.wrap ((IntKind.i64.wrap ((IntKind.i64.wrap ((IntKind.i64.wrap ((IntKind.i64.wrap ((IntKind.i64.wrap ((IntKind.i64.wrap (s2 + 1)) + 1)) + 1)) + 1)) + 1)) + 1)) + 1)) + 1)), .int .i64 x2.R.V.N, .string x2.R.V.S]) RTExpr.lasts Sz_3 rfl rfl rfl rfl ⟨rfl, trivial⟩ rfl h9 rfl rfl (fun ap => (Dj.nil _))) rfl (fun Φ_10 D10 q9 => ?_)
  obtain ⟨⟨ap9, fr9⟩, h10⟩ := q9
  refine en <| sr <| la rfl <| la rfl <| la rfl <| en <| sr <| la rfl <| la rfl <| la rfl <| lq (q_indexAddrH Sl_141 rfl rfl h10 hx2) rfl <| lf Fld_191_2 rfl rfl rfl <| lf Fld_137_2 rfl rfl rfl <| lf Fld_85_1 rfl rfl rfl ?_
  refine lu (u_setH (js := [0]) (Rr := []) (o := 9) (vs := [.int .i64 (IntKind.i64.wrap ((IntKind.i64.wrap ((IntKind.i64.wrap ((IntKind.i64.wrap ((IntKind.i64.wrap ((IntKind.i64.wrap ((IntKind.i64.wrap ((IntKind.i64.wrap ((IntKind.i64.wrap (s2 + 1)) + 1)) + 1)) + 1)) + 1)) + 1)) + 1)) + 1)) + 1))]) (cs' := [.string x1, .int .i64 (IntKind.i64.wrap (s2 + 1)), .string x3, .int .i64 (IntKind.i64.wrap ((IntKind.i64.wrap ((IntKind.i64.wrap (s2 + 1)) + 1)) + 1)), .int .i64 (IntKind.i64.wrap ((IntKind.i64.wrap ((IntKind.i64.wrap ((IntKind.i64.wrap (s2 + 1)) + 1)) + 1)) + 1)), .string x4, .int .i64 (IntKind.i64.wrap ((IntKind.i64.wrap ((IntKind.i64.wrap ((IntKind.i64.wrap ((IntKind.i64.wrap ((IntKind.i64.wrap (s2 + 1)) + 1)) + 1)) + 1)) + 1)) + 1)), .string x5, .int .i64 (IntKind.i64.wrap ((IntKind.i64.wrap ((IntKind.i64.wrap ((IntKind.i64.wrap ((IntKind.i64.wrap ((IntKind.i64.wrap ((IntKind.i64.wrap ((IntKind.i64.wrap (s2 + 1)) + 1)) + 1)) + 1)) + 1)) + 1)) + 1)) + 1)), .int .i64 (IntKind.i64.wrap ((IntKind.i64.wrap ((IntKind.i64.wrap ((IntKind.i64.wrap ((IntKind.i64.wrap ((IntKind.i64.wrap ((IntKind.i64.wrap ((IntKind.i64.wrap ((IntKind.i64.wrap (s2 + 1)) + 1)) + 1)) + 1)) + 1)) + 1)) + 1)) + 1)) + 1)), .string x2.R.V.S]) RTExpr.lasts Sz_3 rfl rfl rfl rfl ⟨rfl, trivial⟩ rfl h10 rfl rfl (fun ap => (Dj.nil _))) rfl (fun Φ_11 D11 q10 => ?_)
  obtain ⟨⟨ap10, fr10⟩, h11⟩ := q10
  refine en <| sr <| la rfl <| la rfl <| la rfl <| en <| sr <| la rfl <| la rfl <| la rfl ?_
  obtain ⟨x6, hx6, h⟩ := bs h
  refine lp (p_call Fun_116 rfl (fun w1 hw => m_l_markText_ok hw.fro N (IntKind.i64.wrap ((IntKind.i64.wrap ((IntKind.i64.wrap ((IntKind.i64.wrap ((IntKind.i64.wrap ((IntKind.i64.wrap ((IntKind.i64.wrap ((IntKind.i64.wrap ((IntKind.i64.wrap ((IntKind.i64.wrap (s2 + 1)) + 1)) + 1)) + 1)) + 1)) + 1)) + 1)) + 1)) + 1)) + 1)) hx6)) rfl <| lq (q_indexAddrH Sl_141 rfl rfl h11 hx2) rfl <| lf Fld_191_2 rfl rfl rfl <| lf Fld_137_2 rfl rfl rfl ?_
  refine lf Fld_85_2 rfl rfl rfl ?_
  refine lu (u_setH (js := [0]) (Rr := []) (o := 10) (vs := [.string x6]) (cs' := [.string x1, .int .i64 (IntKind.i64.wrap (s2 + 1)), .string x3, .int .i64 (IntKind.i64.wrap ((IntKind.i64.wrap ((IntKind.i64.wrap (s2 + 1)) + 1)) + 1)), .int .i64 (IntKind.i64.wrap ((IntKind.i64.wrap ((IntKind.i64.wrap ((IntKind.i64.wrap (s2 + 1)) + 1)) + 1)) + 1)), .string x4, .int .i64 (IntKind.i64.wrap ((IntKind.i64.wrap ((IntKind.i64.wrap ((IntKind.i64.wrap ((IntKind.i64.wrap ((IntKind.i64.wrap (s2 + 1)) + 1)) + 1)) + 1)) + 1)) + 1)), .string x5, .int .i64 (IntKind.i64.wrap ((IntKind.i64.wrap ((IntKind.i64.wrap ((IntKind.i64.wrap ((IntKind.i64.wrap ((IntKind.i64.wrap ((IntKind.i64.wrap ((IntKind.i64.wrap (s2 + 1)) + 1)) + 1)) + 1)) + 1)) + 1)) + 1)) + 1)), .int .i64 (IntKind.i64.wrap ((IntKind.i64.wrap ((IntKind.i64.wrap ((IntKind.i64.wrap ((IntKind.i64.wrap ((IntKind.i64.wrap ((IntKind.i64.wrap ((IntKind.i64.wrap ((IntKind.i64.wrap (s2 + 1)) + 1)) + 1)) + 1)) + 1)) + 1)) + 1)) + 1)) + 1)), .string x6]) RTExpr.lasts Sz_9 rfl rfl rfl rfl ⟨rfl, trivial⟩ rfl h11 rfl rfl (fun ap => (Dj.nil _))) rfl (fun Φ_12 D12 q11 => ?_)
  obtain ⟨⟨ap11, fr11⟩, h12⟩ := q11
  refine en <| rgn <| la rfl <| la rfl <| la rfl <| en <| ib <| rgn <| la rfl <| la rfl <| la rfl <| en ?_
  have h13 := h12.unfocusF RTExpr.flat (cs := [.string x1, .int .i64 (IntKind.i64.wrap (s2 + 1)), .string x3, .int .i64 (IntKind.i64.wrap ((IntKind.i64.wrap ((IntKind.i64.wrap (s2 + 1)) + 1)) + 1)), .int .i64 (IntKind.i64.wrap ((IntKind.i64.wrap ((IntKind.i64.wrap ((IntKind.i64.wrap (s2 + 1)) + 1)) + 1)) + 1)), .string x4, .int .i64 (IntKind.i64.wrap ((IntKind.i64.wrap ((IntKind.i64.wrap ((IntKind.i64.wrap ((IntKind.i64.wrap ((IntKind.i64.wrap (s2 + 1)) + 1)) + 1)) + 1)) + 1)) + 1)), .string x5, .int .i64 (IntKind.i64.wrap ((IntKind.i64.wrap ((IntKind.i64.wrap ((IntKind.i64.wrap ((IntKind.i64.wrap ((IntKind.i64.wrap ((IntKind.i64.wrap ((IntKind.i64.wrap (s2 + 1)) + 1)) + 1)) + 1)) + 1)) + 1)) + 1)) + 1)), .int .i64 (IntKind.i64.wrap ((IntKind.i64.wrap ((IntKind.i64.wrap ((IntKind.i64.wrap ((IntKind.i64.wrap ((IntKind.i64.wrap ((IntKind.i64.wrap ((IntKind.i64.wrap ((IntKind.i64.wrap (s2 + 1)) + 1)) + 1)) + 1)) + 1)) + 1)) + 1)) + 1)) + 1)), .string x6]) (x' := (⟨x1, (⟨IntKind.i64.wrap (s2 + 1), x3, (⟨IntKind.i64.wrap ((IntKind.i64.wrap ((IntKind.i64.wrap (s2 + 1)) + 1)) + 1), IntKind.i64.wrap ((IntKind.i64.wrap ((IntKind.i64.wrap ((IntKind.i64.wrap (s2 + 1)) + 1)) + 1)) + 1), x4⟩ : TVal)⟩ : TArg), (⟨IntKind.i64.wrap ((IntKind.i64.wrap ((IntKind.i64.wrap ((IntKind.i64.wrap ((IntKind.i64.wrap ((IntKind.i64.wrap (s2 + 1)) + 1)) + 1)) + 1)) + 1)) + 1), x5, (⟨IntKind.i64.wrap ((IntKind.i64.wrap ((IntKind.i64.wrap ((IntKind.i64.wrap ((IntKind.i64.wrap ((IntKind.i64.wrap ((IntKind.i64.wrap ((IntKind.i64.wrap (s2 + 1)) + 1)) + 1)) + 1)) + 1)) + 1)) + 1)) + 1), IntKind.i64.wrap ((IntKind.i64.wrap ((IntKind.i64.wrap ((IntKind.i64.wrap ((IntKind.i64.wrap ((IntKind.i64.wrap ((IntKind.i64.wrap ((IntKind.i64.wrap ((IntKind.i64.wrap (s2 + 1)) + 1)) + 1)) + 1)) + 1)) + 1)) + 1)) + 1)) + 1), x6⟩ : TVal)⟩ : TArg)⟩ : TExpr)) ⟨rfl, rfl⟩
  exact lback (ih1 (Φ_12, (s1.set s3.toNat (⟨x1, (⟨IntKind.i64.wrap (s2 + 1), x3, (⟨IntKind.i64.wrap ((IntKind.i64.wrap ((IntKind.i64.wrap (s2 + 1)) + 1)) + 1), IntKind.i64.wrap ((IntKind.i64.wrap ((IntKind.i64.wrap ((IntKind.i64.wrap (s2 + 1)) + 1)) + 1)) + 1), x4⟩ : TVal)⟩ : TArg), (⟨IntKind.i64.wrap ((IntKind.i64.wrap ((IntKind.i64.wrap ((IntKind.i64.wrap ((IntKind.i64.wrap ((IntKind.i64.wrap (s2 + 1)) + 1)) + 1)) + 1)) + 1)) + 1), x5, (⟨IntKind.i64.wrap ((IntKind.i64.wrap ((IntKind.i64.wrap ((IntKind.i64.wrap ((IntKind.i64.wrap ((IntKind.i64.wrap ((IntKind.i64.wrap ((IntKind.i64.wrap (s2 + 1)) + 1)) + 1)) + 1)) + 1)) + 1)) + 1)) + 1), IntKind.i64.wrap ((IntKind.i64.wrap ((IntKind.i64.wrap ((IntKind.i64.wrap ((IntKind.i64.wrap ((IntKind.i64.wrap ((IntKind.i64.wrap ((IntKind.i64.wrap ((IntKind.i64.wrap (s2 + 1)) + 1)) + 1)) + 1)) + 1)) + 1)) + 1)) + 1)) + 1), x6⟩ : TVal)⟩ : TArg)⟩ : TExpr)), IntKind.i64.wrap ((IntKind.i64.wrap ((IntKind.i64.wrap ((IntKind.i64.wrap ((IntKind.i64.wrap ((IntKind.i64.wrap ((IntKind.i64.wrap ((IntKind.i64.wrap ((IntKind.i64.wrap ((IntKind.i64.wrap ((IntKind.i64.wrap (s2 + 1)) + 1)) + 1)) + 1)) + 1)) + 1)) + 1)) + 1)) + 1)) + 1)) + 1), IntKind.i64.wrap (s3 + 1)) ⟨h, h13⟩) ⟨rfl, rfl, rfl, trivial⟩ (fun w1 hw => (hw.sel (js := [0]) rfl).selO (js := []) rfl)
 refine xt rfl <| sr <| la rfl <| la rfl <| en ?_
 refine WT.ret Tryz.func118 (resOk.one rfl) (fun w1 hw => ?_)
 subst hb0
 cases h
 refine postG_of_St (js := [0]) hw rfl ⟨rfl, rfl, k1⟩
theorem m_l_markActS_ok {Φ : Hp} {w : World} (hΦ : In Φ w) (N : Nat) (p0 : (List TAct)) (p1 : Int) {pv0 : Value} {pD0 : List Nat} (ph0 : OSl OTAct 143 5 Φ pD0 pv0 p0) (hB : [ob pv0, pD0].flatten.Nodup) (hlt : ∀ k ∈ [ob pv0, pD0].flatten, k < w.heap.size) {r : Int × (List TAct)} (h : m_l_markActS N p0 p1 = some r) :
  Calls Tryz.prog 62 [pv0, .int .i64 p1].toArray w (PostG Φ w [ob pv0, pD0].flatten (fun Φ' Fs v => ∃ (Do_0_0 : List Nat), v = .int .i64 r.1 ∧ Fs = [ob pv0, Do_0_0] ∧ OSl OTAct 143 5 Φ' Do_0_0 pv0 r.2)) := by
 refine enter Tryz.func62 rfl Tryz.ntmps62 rfl (St.start hΦ [ob pv0, pD0] hB hlt) ?_
 generalize hb0 : (⟨w, [ob pv0, pD0].flatten, Φ⟩ : Base) = w0
 unfold m_l_markActS at h
 refine sr <| la rfl <| en <| sq <| sr <| la rfl <| en <| blk ?_
 refine loop_in (σ := Hp × (List TAct) × List Nat × Int × Int) (fun s => [(0, pv0), (1, .int .i64 s.2.2.2.1), (5, .int .i64 s.2.2.2.2)]) (fun s => St w0 s.1 [] [ob pv0, s.2.2.1]) (fun m s => m_l_markActS_l1 N m s.2.1 s.2.2.2.1 s.2.2.2.2 = some r ∧ (OSl OTAct 143 5 s.1 s.2.2.1 pv0 s.2.1)) (Φ, p0, pD0, p1, 0) N ⟨h, ph0⟩ ⟨rfl, rfl, rfl, trivial⟩ (fun w1 hw => (hw.sel (js := [0, 0]) rfl).selO (js := []) rfl) (fun s hm => none_ne hm.1) (fun n1 ih1 s hm => ?_)
 obtain ⟨Φ_1, s1, D1, s2, s3⟩ := s
 obtain ⟨h, k1⟩ := hm
 dsimp only at h k1 ⊢
 unfold m_l_markActS_l1 at h
 refine sq <| sr <| la rfl <| la rfl <| lq (q_lenR Sl_38 rfl rfl (k1.rslG OTAct.gives)) rfl <| la rfl <| en ?_
 refine cdh rfl h (fun c1 h => ?_) (fun c1 h => ?_)
 ·refine WT.skip <| sq <| blk <| sr <| la rfl <| la rfl <| la rfl ?_
  obtain ⟨x1, hx1, h⟩ := bs h
  obtain ⟨cs1, F1, D2, h1, r1, kf1, sp1⟩ := k1.focus hx1
  obtain ⟨v1, rfl, rfl, h2⟩ := r1
  refine WL.conv (S' := St w0 Φ_1 [] [ob v1, D2, ob pv0]) (fun w1 hw => hw.re (js := [1]) (Bs := [ob v1, D2]) rfl (by simpa [List.append_assoc] using sp1)) <| lq (q_indexAddrH Sl_38 rfl rfl h1 hx1) rfl <| lf Fld_143_0 rfl rfl rfl ?_
  refine lu (u_setH (js := [2]) (Rr := [ob v1, D2]) (o := 0) (vs := [.int .i64 s2]) (cs' := [.int .i64 s2, .string x1.Name, v1, .int .i64 x1.N, .string x1.Undo]) OTAct.lasts Sz_3 rfl rfl rfl rfl ⟨rfl, trivial⟩ rfl h1 rfl rfl (fun ap => (ap.r (i := 1) rfl))) rfl (fun Φ_2 D3 q1 => ?_)
  obtain ⟨⟨ap1, fr1⟩, h3⟩ := q1
  replace h2 := h2.frame RTExpr.lasts fr1 (ap1.r (i := 0) rfl) (Dj.nil _)
  refine en <| sr <| la rfl <| la rfl <| la rfl <| en <| sr <| la rfl <| la rfl <| la rfl ?_
  obtain ⟨x2, hx2, h⟩ := bs h
  refine lp (p_call Fun_116 rfl (fun w1 hw => m_l_markText_ok hw.fro N (IntKind.i64.wrap (s2 + 1)) hx2)) rfl <| lq (q_indexAddrH Sl_38 rfl rfl h3 hx1) rfl <| lf Fld_143_1 rfl rfl rfl ?_
  refine lu (u_setH (js := [0]) (Rr := [ob v1, D2]) (o := 1) (vs := [.string x2]) (cs' := [.int .i64 s2, .string x2, v1, .int .i64 x1.N, .string x1.Undo]) OTAct.lasts Sz_9 rfl rfl rfl rfl ⟨rfl, trivial⟩ rfl h3 rfl rfl (fun ap => (ap.r (i := 1) rfl))) rfl (fun Φ_3 D4 q2 => ?_)
  obtain ⟨⟨ap2, fr2⟩, h4⟩ := q2
  replace h2 := h2.frame RTExpr.lasts fr2 (ap2.r (i := 0) rfl) (Dj.nil _)
  refine en <| sr <| la rfl <| la rfl <| la rfl <| en <| sr <| la rfl <| la rfl <| lq (q_indexAddrH Sl_38 rfl rfl h4 hx1) rfl <| lf Fld_143_2 rfl rfl rfl <| lg 2 T1_141 h4.rg rfl rfl <| la rfl ?_
  obtain ⟨x3, hx3, h⟩ := bs h
  refine lc (k_call (js := [1]) (R := [ob pv0, D2]) Fun_118 rfl rfl (fun w1 hw ap hl => m_l_markExprS_ok hw.fro N x1.Args (IntKind.i64.wrap ((IntKind.i64.wrap (s2 + 1)) + 1)) h2 ap.nd hl hx3)) rfl (fun v2 Φ_4 F2 q3 => ?_)
  obtain ⟨ap3, fr3, rfl, rfl, h5⟩ := q3
  replace h4 := h4.frame OTAct.lasts fr3 (ap3.r (i := 0) rfl) (ap3.r (i := 1) rfl)
  refine la rfl <| en <| sr <| la rfl <| la rfl <| la rfl <| lq (q_indexAddrH Sl_38 rfl rfl h4 hx1) rfl <| lf Fld_143_3 rfl rfl rfl ?_
  refine lu (u_setH (js := [1]) (Rr := [ob v1, D2]) (o := 3) (vs := [.int .i64 x3.1]) (cs' := [.int .i64 s2, .string x2, v1, .int .i64 x3.1, .string x1.Undo]) OTAct.lasts Sz_3 rfl rfl rfl rfl ⟨rfl, trivial⟩ rfl h4 rfl rfl (fun ap => (ap.r (i := 1) rfl))) rfl (fun Φ_5 D5 q4 => ?_)
  obtain ⟨⟨ap4, fr4⟩, h6⟩ := q4
  replace h5 := h5.frame RTExpr.lasts fr4 (ap4.r (i := 0) rfl) (Dj.nil _)
  refine en <| sr <| la rfl <| la rfl <| la rfl <| en <| sr <| la rfl <| la rfl <| la rfl ?_
  obtain ⟨x4, hx4, h⟩ := bs h
  refine lp (p_call Fun_116 rfl (fun w1 hw => m_l_markText_ok hw.fro N (IntKind.i64.wrap (x3.1 + 1)) hx4)) rfl <| lq (q_indexAddrH Sl_38 rfl rfl h6 hx1) rfl <| lf Fld_143_4 rfl rfl rfl ?_
  refine lu (u_setH (js := [0]) (Rr := [ob v1, D2]) (o := 4) (vs := [.string x4]) (cs' := [.int .i64 s2, .string x2, v1, .int .i64 x3.1, .string x4]) OTAct.lasts Sz_9 rfl rfl rfl rfl ⟨rfl, trivial⟩ rfl h6 rfl rfl (fun ap => (ap.r (i := 1) rfl))) rfl (fun Φ_6 D6 q5 => ?_)
  obtain ⟨⟨ap5, fr5⟩, h7⟩ := q5
  replace h5 := h5.frame RTExpr.lasts fr5 (ap5.r (i := 0) rfl) (Dj.nil _)
  refine en <| rgn <| la rfl <| la rfl <| la rfl <| en <| ib <| rgn <| la rfl <| la rfl <| la rfl <| en ?_
  have r2 : OTAct Φ_6 _ [.int .i64 s2, .string x2, v1, .int .i64 x3.1, .string x4] (⟨s2, x2, x3.2, x3.1, x4⟩ : TAct) := ⟨v1, rfl, rfl, h5⟩
  obtain ⟨D7, h8, sp2⟩ := h7.unfocus r2 (OTAct.knows _ _ _ _ r2)
  refine WT.conv (S' := St w0 Φ_6 [] [D7, ob pv0]) (fun w1 hw => hw.merge (js := [1, 1]) rfl (by simpa [List.append_assoc, ob_nil] using sp2)) ?_
  exact lback (ih1 (Φ_6, (s1.set s3.toNat (⟨s2, x2, x3.2, x3.1, x4⟩ : TAct)), D7, IntKind.i64.wrap ((IntKind.i64.wrap (x3.1 + 1)) + 1), IntKind.i64.wrap (s3 + 1)) ⟨h, h8⟩) ⟨rfl, rfl, rfl, trivial⟩ (fun w1 hw => (hw.sel (js := [1, 0]) rfl).selO (js := []) rfl)
 refine xt rfl <| sr <| la rfl <| la rfl <| en ?_
 refine WT.ret Tryz.func62 (resOk.one rfl) (fun w1 hw => ?_)
 subst hb0
 cases h
 refine postG_of_St (js := [0, 0]) hw rfl ⟨D1, rfl, rfl, k1⟩
theorem m_l_markRule_ok {Φ : Hp} {w : World} (hΦ : In Φ w) (N : Nat) (p0 : TRule) (p1 : Int) {pv0_0 pv0_1 pv0_2 : Value} {pD0_0 pD0_2 : List Nat} (ph0_0 : OSl OTPat 171 3 Φ pD0_0 pv0_0 p0.Pats) (ph0_1 : OSl RTCond 139 11 Φ [] pv0_1 p0.Conds) (ph0_2 : OSl OTAct 143 5 Φ pD0_2 pv0_2 p0.Acts) (hB : [ob pv0_0, pD0_0, ob pv0_1, ob pv0_2, pD0_2].flatten.Nodup) (hlt : ∀ k ∈ [ob pv0_0, pD0_0, ob pv0_1, ob pv0_2, pD0_2].flatten, k < w.heap.size) {r : Int × (List TPat) × (List TCond) × (List TAct)} (h : m_l_markRule N p0 p1 = some r) :
  Calls Tryz.prog 22 [.agg [.string p0.Name, .int .i64 p0.Sal, pv0_0, pv0_1, pv0_2].toArray, .int .i64 p1].toArray w (PostG Φ w [ob pv0_0, pD0_0, ob pv0_1, ob pv0_2, pD0_2].flatten (fun Φ' Fs v => ∃ (Do_0_0 : List Nat) (Do_2_0 : List Nat), v = .int .i64 r.1 ∧ Fs = [ob pv0_0, Do_0_0, ob pv0_1, ob pv0_2, Do_2_0] ∧ OSl OTPat 171 3 Φ' Do_0_0 pv0_0 r.2.1 ∧ OSl RTCond 139 11 Φ' [] pv0_1 r.2.2.1 ∧ OSl OTAct 143 5 Φ' Do_2_0 pv0_2 r.2.2.2)) := by
 refine enter Tryz.func22 rfl Tryz.ntmps22 rfl (St.start hΦ [ob pv0_0, pD0_0, ob pv0_1, ob pv0_2, pD0_2] hB hlt) ?_
 unfold m_l_markRule at h
 refine sr ?_
 refine ln (nb rfl) rfl (fun b_1 => ?_)
 refine la rfl <| en <| sr <| lf Fld_40_2 rfl rfl rfl <| lo T1_36 0 rfl <| la rfl ?_
 obtain ⟨x1, hx1, h⟩ := bs h
 refine lc (k_call (js := [0, 0]) (R := [ob pv0_1, ob pv0_2, pD0_2]) Fun_60 rfl rfl (fun w1 hw ap hl => m_l_markPatS_ok hw.fro N p0.Pats p1 ph0_0 ap.nd hl hx1)) rfl (fun v1 Φ_1 F1 q1 => ?_)
 obtain ⟨ap1, fr1, D1, rfl, rfl, h1⟩ := q1
 replace ph0_1 := ph0_1.frame RTCond.lasts fr1 (ap1.r (i := 0) rfl) (Dj.nil _)
 replace ph0_2 := ph0_2.frame OTAct.lasts fr1 (ap1.r (i := 1) rfl) (ap1.r (i := 2) rfl)
 refine la rfl <| en <| sr <| lf Fld_40_3 rfl rfl rfl <| lo T1_37 0 rfl <| la rfl ?_
 obtain ⟨x2, hx2, h⟩ := bs h
 refine lc (k_call (js := [2]) (R := [ob pv0_0, D1, ob pv0_2, pD0_2]) Fun_61 rfl rfl (fun w1 hw ap hl => m_l_markCondS_ok hw.fro N p0.Conds x1.1 ph0_1 ap.nd hl hx2)) rfl (fun v2 Φ_2 F2 q2 => ?_)
 obtain ⟨ap2, fr2, rfl, rfl, h2⟩ := q2
 replace h1 := h1.frame OTPat.lasts fr2 (ap2.r (i := 0) rfl) (ap2.r (i := 1) rfl)
 replace ph0_2 := ph0_2.frame OTAct.lasts fr2 (ap2.r (i := 2) rfl) (ap2.r (i := 3) rfl)
 refine la rfl <| en <| sr <| lf Fld_40_4 rfl rfl rfl <| lo T1_38 0 rfl <| la rfl ?_
 obtain ⟨x3, hx3, h⟩ := bs h
 refine lc (k_call (js := [3, 3]) (R := [ob pv0_1, ob pv0_0, D1]) Fun_62 rfl rfl (fun w1 hw ap hl => m_l_markActS_ok hw.fro N p0.Acts x2.1 ph0_2 ap.nd hl hx3)) rfl (fun v3 Φ_3 F3 q3 => ?_)
 obtain ⟨ap3, fr3, D2, rfl, rfl, h3⟩ := q3
 replace h1 := h1.frame OTPat.lasts fr3 (ap3.r (i := 1) rfl) (ap3.r (i := 2) rfl)
 replace h2 := h2.frame RTCond.lasts fr3 (ap3.r (i := 0) rfl) (Dj.nil _)
 refine la rfl <| en <| sr <| la rfl <| la rfl <| en ?_
 refine WT.ret Tryz.func22 (resOk.one rfl) (fun w1 hw => ?_)
 cases h
 refine postG_of_St (js := [3, 3, 2, 0, 0]) hw rfl ⟨D1, D2, rfl, rfl, h1, h2, h3⟩
theorem m_l_markValS_ok {Φ : Hp} {w : World} (hΦ : In Φ w) (N : Nat) (p0 : (List TVal)) (p1 : Int) {pv0 : Value} (ph0 : OSl RTVal 85 3 Φ [] pv0 p0) (hB : [ob pv0].flatten.Nodup) (hlt : ∀ k ∈ [ob pv0].flatten, k < w.heap.size) {r : Int × (List TVal)} (h : m_l_markValS N p0 p1 = some r) :
  Calls Tryz.prog 119 [pv0, .int .i64 p1].toArray w (PostG Φ w [ob pv0].flatten (fun Φ' Fs v => v = .int .i64 r.1 ∧ Fs = [ob pv0] ∧ OSl RTVal 85 3 Φ' [] pv0 r.2)) := by
 refine enter Tryz.func119 rfl Tryz.ntmps119 rfl (St.start hΦ [ob pv0] hB hlt) ?_
 generalize hb0 : (⟨w, [ob pv0].flatten, Φ⟩ : Base) = w0
 unfold m_l_markValS at h
 refine sr <| la rfl <| en <| sq <| sr <| la rfl <| en <| blk ?_
 refine loop_in (σ := Hp × (List TVal) × Int × Int) (fun s => [(0, pv0), (1, .int .i64 s.2.2.1), (5, .int .i64 s.2.2.2)]) (fun s => St w0 s.1 [] [ob pv0]) (fun m s => m_l_markValS_l1 N m s.2.1 s.2.2.1 s.2.2.2 = some r ∧ (OSl RTVal 85 3 s.1 [] pv0 s.2.1)) (Φ, p0, p1, 0) N ⟨h, ph0⟩ ⟨rfl, rfl, rfl, trivial⟩ (fun w1 hw => (hw.sel (js := [0]) rfl).selO (js := []) rfl) (fun s hm => none_ne hm.1) (fun n1 ih1 s hm => ?_)
 obtain ⟨Φ_1, s1, s2, s3⟩ := s
 obtain ⟨h, k1⟩ := hm
 dsimp only at h k1 ⊢
 unfold m_l_markValS_l1 at h
 refine sq <| sr <| la rfl <| la rfl <| lq (q_lenR Sl_121 rfl rfl k1.rsl) rfl <| la rfl <| en ?_
 refine cdh rfl h (fun c1 h => ?_) (fun c1 h => ?_)
 ·refine WT.skip <| sq <| blk <| sr <| la rfl <| la rfl <| la rfl ?_
  obtain ⟨x1, hx1, h⟩ := bs h
  obtain ⟨cs1, F1, h1, r1⟩ := k1.focusF RTVal.flat hx1
  obtain ⟨rfl, -⟩ := r1
  refine lq (q_indexAddrH Sl_121 rfl rfl h1 hx1) rfl <| lf Fld_85_0 rfl rfl rfl ?_
  refine lu (u_setH (js := [0]) (Rr := []) (o := 0) (vs := [.int .i64 s2]) (cs' := [.int .i64 s2, .int .i64 x1.N, .string x1.S]) RTVal.lasts Sz_3 rfl rfl rfl rfl ⟨rfl, trivial⟩ rfl h1 rfl rfl (fun ap => (Dj.nil _))) rfl (fun Φ_2 D2 q1 => ?_)
  obtain ⟨⟨ap1, fr1⟩, h2⟩ := q1
  refine en <| sr <| la rfl <| la rfl <| la rfl <| en <| sr <| la rfl <| la rfl <| la rfl <| lq (q_indexAddrH Sl_121 rfl rfl h2 hx1) rfl <| lf Fld_85_1 rfl rfl rfl ?_
  refine lu (u_setH (js := [0]) (Rr := []) (o := 1) (vs := [.int .i64 (IntKind.i64.wrap (s2 + 1))]) (cs' := [.int .i64 s2, .int .i64 (IntKind.i64.wrap (s2 + 1)), .string x1.S]) RTVal.lasts Sz_3 rfl rfl rfl rfl ⟨rfl, trivial⟩ rfl h2 rfl rfl (fun ap => (Dj.nil _))) rfl (fun Φ_3 D3 q2 => ?_)
  obtain ⟨⟨ap2, fr2⟩, h3⟩ := q2
  refine en <| sr <| la rfl <| la rfl <| la rfl <| en <| sr <| la rfl <| la rfl <| la rfl ?_
  obtain ⟨x2, hx2, h⟩ := bs h
  refine lp (p_call Fun_116 rfl (fun w1 hw => m_l_markText_ok hw.fro N (IntKind.i64.wrap ((IntKind.i64.wrap (s2 + 1)) + 1)) hx2)) rfl <| lq (q_indexAddrH Sl_121 rfl rfl h3 hx1) rfl <| lf Fld_85_2 rfl rfl rfl ?_
  refine lu (u_setH (js := [0]) (Rr := []) (o := 2) (vs := [.string x2]) (cs' := [.int .i64 s2, .int .i64 (IntKind.i64.wrap (s2 + 1)), .string x2]) RTVal.lasts Sz_9 rfl rfl rfl rfl ⟨rfl, trivial⟩ rfl h3 rfl rfl (fun ap => (Dj.nil _))) rfl (fun Φ_4 D4 q3 => ?_)
  obtain ⟨⟨ap3, fr3⟩, h4⟩ := q3
  refine en <| rgn <| la rfl <| la rfl <| la rfl <| en <| ib <| rgn <| la rfl <| la rfl <| la rfl <| en ?_
  have h5 := h4.unfocusF RTVal.flat (cs := [.int .i64 s2, .int .i64 (IntKind.i64.wrap (s2 + 1)), .string x2]) (x' := (⟨s2, IntKind.i64.wrap (s2 + 1), x2⟩ : TVal)) ⟨rfl, rfl⟩
  exact lback (ih1 (Φ_4, (s1.set s3.toNat (⟨s2, IntKind.i64.wrap (s2 + 1), x2⟩ : TVal)), IntKind.i64.wrap ((IntKind.i64.wrap ((IntKind.i64.wrap (s2 + 1)) + 1)) + 1), IntKind.i64.wrap (s3 + 1)) ⟨h, h5⟩) ⟨rfl, rfl, rfl, trivial⟩ (fun w1 hw => (hw.sel (js := [0]) rfl).selO (js := []) rfl)
 refine xt rfl <| sr <| la rfl <| la rfl <| en ?_
 refine WT.ret Tryz.func119 (resOk.one rfl) (fun w1 hw => ?_)
 subst hb0
 cases h
 refine postG_of_St (js := [0]) hw rfl ⟨rfl, rfl, k1⟩
theorem m_l_markItemS_ok {Φ : Hp} {w : World} (hΦ : In Φ w) (N : Nat) (p0 : (List TItem)) (p1 : Int) {pv0 : Value} {pD0 : List Nat} (ph0 : OSl OTItem 125 3 Φ pD0 pv0 p0) (hB : [ob pv0, pD0].flatten.Nodup) (hlt : ∀ k ∈ [ob pv0, pD0].flatten, k < w.heap.size) {r : Int × (List TItem)} (h : m_l_markItemS N p0 p1 = some r) :
  Calls Tryz.prog 63 [pv0, .int .i64 p1].toArray w (PostG Φ w [ob pv0, pD0].flatten (fun Φ' Fs v => ∃ (Do_0_0 : List Nat), v = .int .i64 r.1 ∧ Fs = [ob pv0, Do_0_0] ∧ OSl OTItem 125 3 Φ' Do_0_0 pv0 r.2)) := by
 refine enter Tryz.func63 rfl Tryz.ntmps63 rfl (St.start hΦ [ob pv0, pD0] hB hlt) ?_
 generalize hb0 : (⟨w, [ob pv0, pD0].flatten, Φ⟩ : Base) = w0
 unfold m_l_markItemS at h
 refine sr <| la rfl <| en <| sq <| sr <| la rfl <| en <| blk ?_
 refine loop_in (σ := Hp × (List TItem) × List Nat × Int × Int) (fun s => [(0, pv0), (1, .int .i64 s.2.2.2.1), (5, .int .i64 s.2.2.2.2)]) (fun s => St w0 s.1 [] [ob pv0, s.2.2.1]) (fun m s => m_l_markItemS_l1 N m s.2.1 s.2.2.2.1 s.2.2.2.2 = some r ∧ (OSl OTItem 125 3 s.1 s.2.2.1 pv0 s.2.1)) (Φ, p0, pD0, p1, 0) N ⟨h, ph0⟩ ⟨rfl, rfl, rfl, trivial⟩ (fun w1 hw => (hw.sel (js := [0, 0]) rfl).selO (js := []) rfl) (fun s hm => none_ne hm.1) (fun n1 ih1 s hm => ?_)
 obtain ⟨Φ_1, s1, D1, s2, s3⟩ := s
 obtain ⟨h, k1⟩ := hm
 dsimp only at h k1 ⊢
 unfold m_l_markItemS_l1 at h
 refine sq <| sr <| la rfl <| la rfl <| lq (q_lenR Sl_27 rfl rfl (k1.rslG OTItem.gives)) rfl <| la rfl <| en ?_
 refine cdh rfl h (fun c1 h => ?_) (fun c1 h => ?_)
 ·refine WT.skip <| sq <| blk <| sr <| la rfl <| la rfl <| la rfl ?_
  obtain ⟨x1, hx1, h⟩ := bs h
  obtain ⟨cs1, F1, D2, h1, r1, kf1, sp1⟩ := k1.focus hx1
  obtain ⟨v1, rfl, rfl, h2⟩ := r1
  refine WL.conv (S' := St w0 Φ_1 [] [ob v1, D2, ob pv0]) (fun w1 hw => hw.re (js := [1]) (Bs := [ob v1, D2]) rfl (by simpa [List.append_assoc] using sp1)) <| lq (q_indexAddrH Sl_27 rfl rfl h1 hx1) rfl <| lf Fld_125_0 rfl rfl rfl ?_
  refine lu (u_setH (js := [2]) (Rr := [ob v1, D2]) (o := 0) (vs := [.int .i64 s2]) (cs' := [.int .i64 s2, .string x1.F.Kind, v1]) OTItem.lasts Sz_3 rfl rfl rfl rfl ⟨rfl, trivial⟩ rfl h1 rfl rfl (fun ap => (ap.r (i := 1) rfl))) rfl (fun Φ_2 D3 q1 => ?_)
  obtain ⟨⟨ap1, fr1⟩, h3⟩ := q1
  replace h2 := h2.frame RTVal.lasts fr1 (ap1.r (i := 0) rfl) (Dj.nil _)
  refine en <| sr <| la rfl <| la rfl <| la rfl <| en <| sr <| la rfl <| la rfl <| la rfl ?_
  obtain ⟨x2, hx2, h⟩ := bs h
  refine lp (p_call Fun_116 rfl (fun w1 hw => m_l_markText_ok hw.fro N (IntKind.i64.wrap (s2 + 1)) hx2)) rfl <| lq (q_indexAddrH Sl_27 rfl rfl h3 hx1) rfl <| lf Fld_125_1 rfl rfl rfl <| lf Fld_123_0 rfl rfl rfl ?_
  refine lu (u_setH (js := [0]) (Rr := [ob v1, D2]) (o := 1) (vs := [.string x2]) (cs' := [.int .i64 s2, .string x2, v1]) OTItem.lasts Sz_9 rfl rfl rfl rfl ⟨rfl, trivial⟩ rfl h3 rfl rfl (fun ap => (ap.r (i := 1) rfl))) rfl (fun Φ_3 D4 q2 => ?_)
  obtain ⟨⟨ap2, fr2⟩, h4⟩ := q2
  replace h2 := h2.frame RTVal.lasts fr2 (ap2.r (i := 0) rfl) (Dj.nil _)
  refine en <| sr <| la rfl <| la rfl <| la rfl <| en <| rgn <| la rfl <| la rfl <| lq (q_indexAddrH Sl_27 rfl rfl h4 hx1) rfl <| lf Fld_125_1 rfl rfl rfl <| lf Fld_123_1 rfl rfl rfl <| lq (q_load1 T1_121 rfl (fun w1 hw => (h4.rg.of_eq 2 1 (by omega) rfl : rg _ _ _ [v1]).rangeAt hw.fro)) rfl <| la rfl ?_
  obtain ⟨x3, hx3, h⟩ := bs h
  refine lc (k_call (js := [1]) (R := [ob pv0, D2]) Fun_119 rfl rfl (fun w1 hw ap hl => m_l_markValS_ok hw.fro N x1.F.Fields (IntKind.i64.wrap ((IntKind.i64.wrap (s2 + 1)) + 1)) h2 ap.nd hl hx3)) rfl (fun v2 Φ_4 F2 q3 => ?_)
  obtain ⟨ap3, fr3, rfl, rfl, h5⟩ := q3
  replace h4 := h4.frame OTItem.lasts fr3 (ap3.r (i := 0) rfl) (ap3.r (i := 1) rfl)
  refine la rfl <| en <| ib <| rgn <| la rfl <| la rfl <| la rfl <| en ?_
  have r2 : OTItem Φ_4 _ [.int .i64 s2, .string x2, v1] (⟨s2, (⟨x2, x3.2⟩ : TFact)⟩ : TItem) := ⟨v1, rfl, rfl, h5⟩
  obtain ⟨D5, h6, sp2⟩ := h4.unfocus r2 (OTItem.knows _ _ _ _ r2)
  refine WT.conv (S' := St w0 Φ_4 [] [D5, ob pv0]) (fun w1 hw => hw.merge (js := [0, 1]) rfl (by simpa [List.append_assoc, ob_nil] using sp2)) ?_
  exact lback (ih1 (Φ_4, (s1.set s3.toNat (⟨s2, (⟨x2, x3.2⟩ : TFact)⟩ : TItem)), D5, x3.1, IntKind.i64.wrap (s3 + 1)) ⟨h, h6⟩) ⟨rfl, rfl, rfl, trivial⟩ (fun w1 hw => (hw.sel (js := [1, 0]) rfl).selO (js := []) rfl)
 refine xt rfl <| sr <| la rfl <| la rfl <| en ?_
 refine WT.ret Tryz.func63 (resOk.one rfl) (fun w1 hw => ?_)
 subst hb0
 cases h
 refine postG_of_St (js := [0, 0]) hw rfl ⟨D1, rfl, rfl, k1⟩
theorem m_l_markStore_ok {Φ : Hp} {w : World} (hΦ : In Φ w) (N : Nat) (p0 : TStore) (p1 : Int) {pv0_0 : Value} {pD0_0 : List Nat} (ph0_0 : OSl OTItem 125 3 Φ pD0_0 pv0_0 p0.Items) (hB : [ob pv0_0, pD0_0].flatten.Nodup) (hlt : ∀ k ∈ [ob pv0_0, pD0_0].flatten, k < w.heap.size) {r : Int × (List TItem)} (h : m_l_markStore N p0 p1 = some r) :
  Calls Tryz.prog 23 [.agg [pv0_0, .int .i64 p0.Next].toArray, .int .i64 p1].toArray w (PostG Φ w [ob pv0_0, pD0_0].flatten (fun Φ' Fs v => ∃ (Do_0_0 : List Nat), v = .int .i64 r.1 ∧ Fs = [ob pv0_0, Do_0_0] ∧ OSl OTItem 125 3 Φ' Do_0_0 pv0_0 r.2)) := by
 refine enter Tryz.func23 rfl Tryz.ntmps23 rfl (St.start hΦ [ob pv0_0, pD0_0] hB hlt) ?_
 unfold m_l_markStore at h
 refine sr ?_
 refine ln (nb rfl) rfl (fun b_1 => ?_)
 refine la rfl <| en <| sr <| lf Fld_29_0 rfl rfl rfl <| lo T1_27 0 rfl <| la rfl ?_
 obtain ⟨x1, hx1, h⟩ := bs h
 refine lc (k_call (js := [0, 0]) (R := []) Fun_63 rfl rfl (fun w1 hw ap hl => m_l_markItemS_ok hw.fro N p0.Items p1 ph0_0 ap.nd hl hx1)) rfl (fun v1 Φ_1 F1 q1 => ?_)
 obtain ⟨ap1, fr1, D1, rfl, rfl, h1⟩ := q1
 refine la rfl <| en <| sr <| la rfl <| la rfl <| en ?_
 refine WT.ret Tryz.func23 (resOk.one rfl) (fun w1 hw => ?_)
 cases h
 refine postG_of_St (js := [0, 0]) hw rfl ⟨D1, rfl, rfl, h1⟩
theorem m_l_markIntS_ok {Φ : Hp} {w : World} (hΦ : In Φ w) (N : Nat) (p0 : (List Int)) (p1 : Int) {pv0 : Value} (ph0 : OSl (RI .i64) 3 1 Φ [] pv0 p0) (hB : [ob pv0].flatten.Nodup) (hlt : ∀ k ∈ [ob pv0].flatten, k < w.heap.size) {r : Int × (List Int)} (h : m_l_markIntS N p0 p1 = some r) :
  Calls Tryz.prog 64 [pv0, .int .i64 p1].toArray w (PostG Φ w [ob pv0].flatten (fun Φ' Fs v => v = .int .i64 r.1 ∧ Fs = [ob pv0] ∧ OSl (RI .i64) 3 1 Φ' [] pv0 r.2)) := by
 refine enter Tryz.func64 rfl Tryz.ntmps64 rfl (St.start hΦ [ob pv0] hB hlt) ?_
 generalize hb0 : (⟨w, [ob pv0].flatten, Φ⟩ : Base) = w0
 unfold m_l_markIntS at h
 refine sr <| la rfl <| en <| sq <| sr <| la rfl <| en <| blk ?_
 refine loop_in (σ := Hp × (List Int) × Int × Int) (fun s => [(0, pv0), (1, .int .i64 s.2.2.1), (5, .int .i64 s.2.2.2)]) (fun s => St w0 s.1 [] [ob pv0]) (fun m s => m_l_markIntS_l1 N m s.2.1 s.2.2.1 s.2.2.2 = some r ∧ (OSl (RI .i64) 3 1 s.1 [] pv0 s.2.1)) (Φ, p0, p1, 0) N ⟨h, ph0⟩ ⟨rfl, rfl, rfl, trivial⟩ (fun w1 hw => (hw.sel (js := [0]) rfl).selO (js := []) rfl) (fun s hm => none_ne hm.1) (fun n1 ih1 s hm => ?_)
 obtain ⟨Φ_1, s1, s2, s3⟩ := s
 obtain ⟨h, k1⟩ := hm
 dsimp only at h k1 ⊢
 unfold m_l_markIntS_l1 at h
 refine sq <| sr <| la rfl <| la rfl <| lq (q_lenR Sl_41 rfl rfl k1.rsl) rfl <| la rfl <| en ?_
 refine cdh rfl h (fun c1 h => ?_) (fun c1 h => ?_)
 ·refine WT.skip <| sq <| blk <| sr <| la rfl <| la rfl <| la rfl ?_
  obtain ⟨x1, hx1, h⟩ := bs h
  obtain ⟨cs1, F1, -, g1, hb1, hs1, r1⟩ := k1.elS (idx_some hx1).2.2
  obtain ⟨rfl, -⟩ := r1
  refine lq (q_indexAddr Sl_41 rfl rfl k1.rsl hx1) rfl ?_
  refine lu (u_setF (js := [0]) (Rr := []) (vs := [.int .i64 s2]) (x' := s2) RI.lasts RI.flat Sz_3 rfl rfl rfl rfl ⟨rfl, trivial⟩ rfl k1 (idx_lt hx1) ⟨rfl, rfl⟩) rfl (fun Φ_2 D1 q1 => ?_)
  obtain ⟨⟨ap1, fr1⟩, h1⟩ := q1
  refine en <| rgn <| la rfl <| la rfl <| la rfl <| en <| ib <| rgn <| la rfl <| la rfl <| la rfl <| en ?_
  exact lback (ih1 (Φ_2, (s1.set s3.toNat s2), IntKind.i64.wrap (s2 + 1), IntKind.i64.wrap (s3 + 1)) ⟨h, h1⟩) ⟨rfl, rfl, rfl, trivial⟩ (fun w1 hw => (hw.sel (js := [0]) rfl).selO (js := []) rfl)
 refine xt rfl <| sr <| la rfl <| la rfl <| en ?_
 refine WT.ret Tryz.func64 (resOk.one rfl) (fun w1 hw => ?_)
 subst hb0
 cases h
 refine postG_of_St (js := [0]) hw rfl ⟨rfl, rfl, k1⟩
theorem m_l_markBindS_ok {Φ : Hp} {w : World} (hΦ : In Φ w) (N : Nat) (p0 : (List TBind)) (p1 : Int) {pv0 : Value} (ph0 : OSl RTBind 87 4 Φ [] pv0 p0) (hB : [ob pv0].flatten.Nodup) (hlt : ∀ k ∈ [ob pv0].flatten, k < w.heap.size) {r : Int × (List TBind)} (h : m_l_markBindS N p0 p1 = some r) :
  Calls Tryz.prog 65 [pv0, .int .i64 p1].toArray w (PostG Φ w [ob pv0].flatten (fun Φ' Fs v => v = .int .i64 r.1 ∧ Fs = [ob pv0] ∧ OSl RTBind 87 4 Φ' [] pv0 r.2)) := by
 refine enter Tryz.func65 rfl Tryz.ntmps65 rfl (St.start hΦ [ob pv0] hB hlt) ?_
 generalize hb0 : (⟨w, [ob pv0].flatten, Φ⟩ : Base) = w0
 unfold m_l_markBindS at h
 refine sr <| la rfl <| en <| sq <| sr <| la rfl <| en <| blk ?_
 refine loop_in (σ := Hp × (List TBind) × Int × Int) (fun s => [(0, pv0), (1, .int .i64 s.2.2.1), (5, .int .i64 s.2.2.2)]) (fun s => St w0 s.1 [] [ob pv0]) (fun m s => m_l_markBindS_l1 N m s.2.1 s.2.2.1 s.2.2.2 = some r ∧ (OSl RTBind 87 4 s.1 [] pv0 s.2.1)) (Φ, p0, p1, 0) N ⟨h, ph0⟩ ⟨rfl, rfl, rfl, trivial⟩ (fun w1 hw => (hw.sel (js := [0]) rfl).selO (js := []) rfl) (fun s hm => none_ne hm.1) (fun n1 ih1 s hm => ?_)
 obtain ⟨Φ_1, s1, s2, s3⟩ := s
 obtain ⟨h, k1⟩ := hm
 dsimp only at h k1 ⊢
 unfold m_l_markBindS_l1 at h
 refine sq <| sr <| la rfl <| la rfl <| lq (q_lenR Sl_42 rfl rfl k1.rsl) rfl <| la rfl <| en ?_
 refine cdh rfl h (fun c1 h => ?_) (fun c1 h => ?_)
 ·refine WT.skip <| sq <| blk <| sr <| la rfl <| la rfl <| la rfl ?_
  obtain ⟨x1, hx1, h⟩ := bs h
  refine lp (p_call Fun_116 rfl (fun w1 hw => m_l_markText_ok hw.fro N s2 hx1)) rfl ?_
  obtain ⟨x2, hx2, h⟩ := bs h
  obtain ⟨cs1, F1, h1, r1⟩ := k1.focusF RTBind.flat hx2
  obtain ⟨rfl, -⟩ := r1
  refine lq (q_indexAddrH Sl_42 rfl rfl h1 hx2) rfl <| lf Fld_87_0 rfl rfl rfl ?_
  refine lu (u_setH (js := [0]) (Rr := []) (o := 0) (vs := [.string x1]) (cs' := [.string x1, .int .i64 x2.V.K, .int .i64 x2.V.N, .string x2.V.S]) RTBind.lasts Sz_9 rfl rfl rfl rfl ⟨rfl, trivial⟩ rfl h1 rfl rfl (fun ap => (Dj.nil _))) rfl (fun Φ_2 D2 q1 => ?_)
  obtain ⟨⟨ap1, fr1⟩, h2⟩ := q1
  refine en <| sr <| la rfl <| la rfl <| la rfl <| en <| sr <| la rfl <| la rfl <| la rfl <| lq (q_indexAddrH Sl_42 rfl rfl h2 hx2) rfl <| lf Fld_87_1 rfl rfl rfl <| lf Fld_85_0 rfl rfl rfl ?_
  refine lu (u_setH (js := [0]) (Rr := []) (o := 1) (vs := [.int .i64 (IntKind.i64.wrap (s2 + 1))]) (cs' := [.string x1, .int .i64 (IntKind.i64.wrap (s2 + 1)), .int .i64 x2.V.N, .string x2.V.S]) RTBind.lasts Sz_3 rfl rfl rfl rfl ⟨rfl, trivial⟩ rfl h2 rfl rfl (fun ap => (Dj.nil _))) rfl (fun Φ_3 D3 q2 => ?_)
  obtain ⟨⟨ap2, fr2⟩, h3⟩ := q2
  refine en <| sr <| la rfl <| la rfl <| la rfl <| en <| sr <| la rfl <| la rfl <| la rfl <| lq (q_indexAddrH Sl_42 rfl rfl h3 hx2) rfl <| lf Fld_87_1 rfl rfl rfl <| lf Fld_85_1 rfl rfl rfl ?_
  refine lu (u_setH (js := [0]) (Rr := []) (o := 2) (vs := [.int .i64 (IntKind.i64.wrap ((IntKind.i64.wrap (s2 + 1)) + 1))]) (cs' := [.string x1, .int .i64 (IntKind.i64.wrap (s2 + 1)), .int .i64 (IntKind.i64.wrap ((IntKind.i64.wrap (s2 + 1)) + 1)), .string x2.V.S]) RTBind.lasts Sz_3 rfl rfl rfl rfl ⟨rfl, trivial⟩ rfl h3 rfl rfl (fun ap => (Dj.nil _))) rfl (fun Φ_4 D4 q3 => ?_)
  obtain ⟨⟨ap3, fr3⟩, h4⟩ := q3
  refine en <| sr <| la rfl <| la rfl <| la rfl <| en <| sr <| la rfl <| la rfl <| la rfl ?_
  obtain ⟨x3, hx3, h⟩ := bs h
  refine lp (p_call Fun_116 rfl (fun w1 hw => m_l_markText_ok hw.fro N (IntKind.i64.wrap ((IntKind.i64.wrap ((IntKind.i64.wrap (s2 + 1)) + 1)) + 1)) hx3)) rfl <| lq (q_indexAddrH Sl_42 rfl rfl h4 hx2) rfl <| lf Fld_87_1 rfl rfl rfl <| lf Fld_85_2 rfl rfl rfl ?_
  refine lu (u_setH (js := [0]) (Rr := []) (o := 3) (vs := [.string x3]) (cs' := [.string x1, .int .i64 (IntKind.i64.wrap (s2 + 1)), .int .i64 (IntKind.i64.wrap ((IntKind.i64.wrap (s2 + 1)) + 1)), .string x3]) RTBind.lasts Sz_9 rfl rfl rfl rfl ⟨rfl, trivial⟩ rfl h4 rfl rfl (fun ap => (Dj.nil _))) rfl (fun Φ_5 D5 q4 => ?_)
  obtain ⟨⟨ap4, fr4⟩, h5⟩ := q4
  refine en <| rgn <| la rfl <| la rfl <| la rfl <| en <| ib <| rgn <| la rfl <| la rfl <| la rfl <| en ?_
  have h6 := h5.unfocusF RTBind.flat (cs := [.string x1, .int .i64 (IntKind.i64.wrap (s2 + 1)), .int .i64 (IntKind.i64.wrap ((IntKind.i64.wrap (s2 + 1)) + 1)), .string x3]) (x' := (⟨x1, (⟨IntKind.i64.wrap (s2 + 1), IntKind.i64.wrap ((IntKind.i64.wrap (s2 + 1)) + 1), x3⟩ : TVal)⟩ : TBind)) ⟨rfl, rfl⟩
  exact lback (ih1 (Φ_5, (s1.set s3.toNat (⟨x1, (⟨IntKind.i64.wrap (s2 + 1), IntKind.i64.wrap ((IntKind.i64.wrap (s2 + 1)) + 1), x3⟩ : TVal)⟩ : TBind)), IntKind.i64.wrap ((IntKind.i64.wrap ((IntKind.i64.wrap ((IntKind.i64.wrap (s2 + 1)) + 1)) + 1)) + 1), IntKind.i64.wrap (s3 + 1)) ⟨h, h6⟩) ⟨rfl, rfl, rfl, trivial⟩ (fun w1 hw => (hw.sel (js := [0]) rfl).selO (js := []) rfl)
 refine xt rfl <| sr <| la rfl <| la rfl <| en ?_
 refine WT.ret Tryz.func65 (resOk.one rfl) (fun w1 hw => ?_)
 subst hb0
 cases h
 refine postG_of_St (js := [0]) hw rfl ⟨rfl, rfl, k1⟩
theorem m_l_markMatchS_ok {Φ : Hp} {w : World} (hΦ : In Φ w) (N : Nat) (p0 : (List TMatch)) (p1 : Int) {pv0 : Value} {pD0 : List Nat} (ph0 : OSl OTMatch 44 3 Φ pD0 pv0 p0) (hB : [ob pv0, pD0].flatten.Nodup) (hlt : ∀ k ∈ [ob pv0, pD0].flatten, k < w.heap.size) {r : Int × (List TMatch)} (h : m_l_markMatchS N p0 p1 = some r) :
  Calls Tryz.prog 24 [pv0, .int .i64 p1].toArray w (PostG Φ w [ob pv0, pD0].flatten (fun Φ' Fs v => ∃ (Do_0_0 : List Nat), v = .int .i64 r.1 ∧ Fs = [ob pv0, Do_0_0] ∧ OSl OTMatch 44 3 Φ' Do_0_0 pv0 r.2)) := by
 refine enter Tryz.func24 rfl Tryz.ntmps24 rfl (St.start hΦ [ob pv0, pD0] hB hlt) ?_
 generalize hb0 : (⟨w, [ob pv0, pD0].flatten, Φ⟩ : Base) = w0
 unfold m_l_markMatchS at h
 refine sr <| la rfl <| en <| sq <| sr <| la rfl <| en <| blk ?_
 refine loop_in (σ := Hp × (List TMatch) × List Nat × Int × Int) (fun s => [(0, pv0), (1, .int .i64 s.2.2.2.1), (5, .int .i64 s.2.2.2.2)]) (fun s => St w0 s.1 [] [ob pv0, s.2.2.1]) (fun m s => m_l_markMatchS_l1 N m s.2.1 s.2.2.2.1 s.2.2.2.2 = some r ∧ (OSl OTMatch 44 3 s.1 s.2.2.1 pv0 s.2.1)) (Φ, p0, pD0, p1, 0) N ⟨h, ph0⟩ ⟨rfl, rfl, rfl, trivial⟩ (fun w1 hw => (hw.sel (js := [0, 0]) rfl).selO (js := []) rfl) (fun s hm => none_ne hm.1) (fun n1 ih1 s hm => ?_)
 obtain ⟨Φ_1, s1, D1, s2, s3⟩ := s
 obtain ⟨h, k1⟩ := hm
 dsimp only at h k1 ⊢
 unfold m_l_markMatchS_l1 at h
 refine sq <| sr <| la rfl <| la rfl <| lq (q_lenR Sl_32 rfl rfl (k1.rslG OTMatch.gives)) rfl <| la rfl <| en ?_
 refine cdh rfl h (fun c1 h => ?_) (fun c1 h => ?_)
 ·refine WT.skip <| sq <| blk <| sr <| la rfl <| la rfl <| la rfl ?_
  obtain ⟨x1, hx1, h⟩ := bs h
  obtain ⟨cs1, F1, D2, h1, r1, kf1, sp1⟩ := k1.focus hx1
  obtain ⟨v1, v2, rfl, rfl, h2, h3⟩ := r1
  refine WL.conv (S' := St w0 Φ_1 [] [ob v1, ob v2, D2, ob pv0]) (fun w1 hw => hw.re (js := [1]) (Bs := [ob v1, ob v2, D2]) rfl (by simpa [List.append_assoc] using sp1)) <| lq (q_indexAddrH Sl_32 rfl rfl h1 hx1) rfl <| lf Fld_44_0 rfl rfl rfl ?_
  refine lu (u_setH (js := [3]) (Rr := [ob v1, ob v2, D2]) (o := 0) (vs := [.int .i64 s2]) (cs' := [.int .i64 s2, v1, v2]) OTMatch.lasts Sz_3 rfl rfl rfl rfl ⟨rfl, trivial⟩ rfl h1 rfl rfl (fun ap => (ap.r (i := 2) rfl))) rfl (fun Φ_2 D3 q1 => ?_)
  obtain ⟨⟨ap1, fr1⟩, h4⟩ := q1
  replace h2 := h2.frame RI.lasts fr1 (ap1.r (i := 0) rfl) (Dj.nil _)
  replace h3 := h3.frame RTBind.lasts fr1 (ap1.r (i := 1) rfl) (Dj.nil _)
  refine en <| sr <| la rfl <| la rfl <| la rfl <| en <| sr <| la rfl <| la rfl <| lq (q_indexAddrH Sl_32 rfl rfl h4 hx1) rfl <| lf Fld_44_1 rfl rfl rfl <| lg 1 T1_41 h4.rg rfl rfl <| la rfl ?_
  obtain ⟨x2, hx2, h⟩ := bs h
  refine lc (k_call (js := [1]) (R := [ob pv0, ob v2, D2]) Fun_64 rfl rfl (fun w1 hw ap hl => m_l_markIntS_ok hw.fro N x1.Ids (IntKind.i64.wrap (s2 + 1)) h2 ap.nd hl hx2)) rfl (fun v3 Φ_3 F2 q2 => ?_)
  obtain ⟨ap2, fr2, rfl, rfl, h5⟩ := q2
  replace h4 := h4.frame OTMatch.lasts fr2 (ap2.r (i := 0) rfl) (ap2.r (i := 2) rfl)
  replace h3 := h3.frame RTBind.lasts fr2 (ap2.r (i := 1) rfl) (Dj.nil _)
  refine la rfl <| en <| rgn <| la rfl <| la rfl <| lq (q_indexAddrH Sl_32 rfl rfl h4 hx1) rfl <| lf Fld_44_2 rfl rfl rfl <| lg 2 T1_42 h4.rg rfl rfl <| la rfl ?_
  obtain ⟨x3, hx3, h⟩ := bs h
  refine lc (k_call (js := [2]) (R := [ob v1, ob pv0, D2]) Fun_65 rfl rfl (fun w1 hw ap hl => m_l_markBindS_ok hw.fro N x1.Binds x2.1 h3 ap.nd hl hx3)) rfl (fun v4 Φ_4 F3 q3 => ?_)
  obtain ⟨ap3, fr3, rfl, rfl, h6⟩ := q3
  replace h4 := h4.frame OTMatch.lasts fr3 (ap3.r (i := 1) rfl) (ap3.r (i := 2) rfl)
  replace h5 := h5.frame RI.lasts fr3 (ap3.r (i := 0) rfl) (Dj.nil _)
  refine la rfl <| en <| ib <| rgn <| la rfl <| la rfl <| la rfl <| en ?_
  have r2 : OTMatch Φ_4 _ [.int .i64 s2, v1, v2] (⟨s2, x2.2, x3.2⟩ : TMatch) := ⟨v1, v2, rfl, rfl, h5, h6⟩
  obtain ⟨D4, h7, sp2⟩ := h4.unfocus r2 (OTMatch.knows _ _ _ _ r2)
  refine WT.conv (S' := St w0 Φ_4 [] [D4, ob pv0]) (fun w1 hw => hw.merge (js := [1, 0, 1]) rfl (by simpa [List.append_assoc, ob_nil] using sp2)) ?_
  exact lback (ih1 (Φ_4, (s1.set s3.toNat (⟨s2, x2.2, x3.2⟩ : TMatch)), D4, x3.1, IntKind.i64.wrap (s3 + 1)) ⟨h, h7⟩) ⟨rfl, rfl, rfl, trivial⟩ (fun w1 hw => (hw.sel (js := [1, 0]) rfl).selO (js := []) rfl)
 refine xt rfl <| sr <| la rfl <| la rfl <| en ?_
 refine WT.ret Tryz.func24 (resOk.one rfl) (fun w1 hw => ?_)
 subst hb0
 cases h
 refine postG_of_St (js := [0, 0]) hw rfl ⟨D1, rfl, rfl, k1⟩
theorem m_l_heldIntS_ok {Φ : Hp} {w : World} (hΦ : In Φ w) (N : Nat) (p0 : (List Int)) (p1 : Int) {pv0 : Value} {pG0 : List Nat} (ph0 : RSl (RI .i64) 1 Φ pG0 pv0 p0) {r : Int} (h : m_l_heldIntS N p0 p1 = some r) :
  Calls Tryz.prog 66 [pv0, .int .i64 p1].toArray w (Post (.int .i64 r) w) := by
 refine enter Tryz.func66 rfl Tryz.ntmps66 rfl (St.start0 hΦ) ?_
 generalize hb0 : (⟨w, [], Φ⟩ : Base) = w0
 unfold m_l_heldIntS at h
 refine sr <| la rfl <| en <| sq <| sr <| la rfl <| en <| blk ?_
 refine loop_in (σ := Int × Int) (fun s => [(0, pv0), (1, .int .i64 s.1), (5, .int .i64 s.2)]) (fun s => St w0 Φ [] []) (fun m s => m_l_heldIntS_l1 N p0 m s.1 s.2 = some r) (p1, 0) N h ⟨rfl, rfl, rfl, trivial⟩ (fun w1 hw => (hw.sel (js := []) rfl).selO (js := []) rfl) (fun s hm => none_ne hm) (fun n1 ih1 s hm => ?_)
 obtain ⟨s1, s2⟩ := s
 have h : m_l_heldIntS_l1 N p0 (n1 + 1) s1 s2 = some r := hm
 show WT _ _ [(0, pv0), (1, .int .i64 s1), (5, .int .i64 s2)] (St w0 Φ [] [])
 unfold m_l_heldIntS_l1 at h
 refine sq <| sr <| la rfl <| la rfl <| lq (q_lenR Sl_41 rfl rfl ph0) rfl <| la rfl <| en ?_
 refine cdh rfl h (fun c1 h => ?_) (fun c1 h => ?_)
 ·refine WT.skip <| sq <| blk <| sq <| sr <| la rfl <| la rfl ?_
  obtain ⟨x1, hx1, h⟩ := bs h
  obtain ⟨cs1, F1, -, g1, hb1, hs1, r1⟩ := ph0.el (idx_some hx1).2.2
  obtain ⟨rfl, -⟩ := r1
  refine lq (q_indexAddr Sl_41 rfl rfl ph0 hx1) rfl <| lg 0 T1_3 g1 rfl rfl <| la rfl <| la rfl <| en ?_
  refine cdh rfl h (fun c2 h => ?_) (fun c2 h => ?_)
  ·refine sr <| la rfl <| en ?_
   refine WT.ret Tryz.func66 (resOk.one rfl) (fun w1 hw => ?_)
   subst hb0
   cases h
   exact post_of_St hw
  refine WT.skip <| rgn <| la rfl <| la rfl <| la rfl <| en <| ib <| rgn <| la rfl <| la rfl <| la rfl <| en ?_
  exact lback (ih1 (IntKind.i64.wrap (s1 + 1), IntKind.i64.wrap (s2 + 1)) h) ⟨rfl, rfl, rfl, trivial⟩ (fun w1 hw => (hw.sel (js := []) rfl).selO (js := []) rfl)
 refine xt rfl <| sr <| la rfl <| la rfl <| en ?_
 refine WT.ret Tryz.func66 (resOk.one rfl) (fun w1 hw => ?_)
 subst hb0
 cases h
 exact post_of_St hw
theorem m_l_heldBindS_ok {Φ : Hp} {w : World} (hΦ : In Φ w) (N : Nat) (p0 : (List TBind)) (p1 : Int) {pv0 : Value} {pG0 : List Nat} (ph0 : RSl RTBind 4 Φ pG0 pv0 p0) {r : Int} (h : m_l_heldBindS N p0 p1 = some r) :
  Calls Tryz.prog 67 [pv0, .int .i64 p1].toArray w (Post (.int .i64 r) w) := by
 refine enter Tryz.func67 rfl Tryz.ntmps67 rfl (St.start0 hΦ) ?_
 generalize hb0 : (⟨w, [], Φ⟩ : Base) = w0
 unfold m_l_heldBindS at h
 refine sr <| la rfl <| en <| sq <| sr <| la rfl <| en <| blk ?_
 refine loop_in (σ := Int × Int) (fun s => [(0, pv0), (1, .int .i64 s.1), (5, .int .i64 s.2)]) (fun s => St w0 Φ [] []) (fun m s => m_l_heldBindS_l1 N p0 m s.1 s.2 = some r) (p1, 0) N h ⟨rfl, rfl, rfl, trivial⟩ (fun w1 hw => (hw.sel (js := []) rfl).selO (js := []) rfl) (fun s hm => none_ne hm) (fun n1 ih1 s hm => ?_)
 obtain ⟨s1, s2⟩ := s
 have h : m_l_heldBindS_l1 N p0 (n1 + 1) s1 s2 = some r := hm
 show WT _ _ [(0, pv0), (1, .int .i64 s1), (5, .int .i64 s2)] (St w0 Φ [] [])
 unfold m_l_heldBindS_l1 at h
 refine sq <| sr <| la rfl <| la rfl <| lq (q_lenR Sl_42 rfl rfl ph0) rfl <| la rfl <| en ?_
 refine cdh rfl h (fun c1 h => ?_) (fun c1 h => ?_)
 ·refine WT.skip <| sq <| blk <| sq <| sq <| WT.draw mixed (by kernel_rfl) (fun _ h => h.drew) <| qq (q_move rfl) rfl <| qq (q_move rfl) rfl ?_
  obtain ⟨x1, hx1, h⟩ := bs h
  obtain ⟨cs1, F1, -, g1, hb1, hs1, r1⟩ := ph0.el (idx_some hx1).2.2
  obtain ⟨rfl, -⟩ := r1
  refine qq (q_indexAddr Sl_42 rfl rfl ph0 hx1) rfl <| qq (q_fieldAddr Fld_87_0 rfl) rfl <| qq (q_load1 T1_9 rfl (fun w1 hw => (g1.of_eq 0 1 rfl rfl : rg _ _ _ [.string x1.Name]).rangeAt hw.fro)) rfl <| qq (q_move rfl) rfl ?_
  obtain ⟨x2, hx2, h⟩ := bs h
  refine qp (p_call Fun_116 rfl (fun w1 hw => m_l_markText_ok hw.fro N s1 hx2)) rfl <| qq (q_sne rfl rfl) rfl <| WQ.nil ?_
  refine cdh rfl h (fun c2 h => ?_) (fun c2 h => ?_)
  ·refine sr <| la rfl <| en ?_
   refine WT.ret Tryz.func67 (resOk.one rfl) (fun w1 hw => ?_)
   subst hb0
   cases h
   exact post_of_St hw
  refine WT.skip <| sr <| la rfl <| la rfl <| la rfl <| en <| sq <| sr <| la rfl <| la rfl ?_
  obtain ⟨x3, hx3, h⟩ := bs h
  obtain ⟨cs2, F2, -, g2, hb2, hs2, r2⟩ := ph0.el (idx_some hx3).2.2
  obtain ⟨rfl, -⟩ := r2
  refine lq (q_indexAddr Sl_42 rfl rfl ph0 hx3) rfl <| lf Fld_87_1 rfl rfl rfl <| lf Fld_85_0 rfl rfl rfl <| lq (q_load1 T1_3 rfl (fun w1 hw => (g2.of_eq 1 1 (by omega) rfl : rg _ _ _ [.int .i64 x3.V.K]).rangeAt hw.fro)) rfl <| la rfl <| la rfl <| en ?_
  refine cdh rfl h (fun c3 h => ?_) (fun c3 h => ?_)
  ·refine sr <| la rfl <| en ?_
   refine WT.ret Tryz.func67 (resOk.one rfl) (fun w1 hw => ?_)
   subst hb0
   cases h
   exact post_of_St hw
  refine WT.skip <| sr <| la rfl <| la rfl <| la rfl <| en <| sq <| sr <| la rfl <| la rfl ?_
  obtain ⟨x4, hx4, h⟩ := bs h
  obtain ⟨cs3, F3, -, g3, hb3, hs3, r3⟩ := ph0.el (idx_some hx4).2.2
  obtain ⟨rfl, -⟩ := r3
  refine lq (q_indexAddr Sl_42 rfl rfl ph0 hx4) rfl <| lf Fld_87_1 rfl rfl rfl <| lf Fld_85_1 rfl rfl rfl <| lq (q_load1 T1_3 rfl (fun w1 hw => (g3.of_eq 2 1 (by omega) rfl : rg _ _ _ [.int .i64 x4.V.N]).rangeAt hw.fro)) rfl <| la rfl <| la rfl <| en ?_
  refine cdh rfl h (fun c4 h => ?_) (fun c4 h => ?_)
  ·refine sr <| la rfl <| en ?_
   refine WT.ret Tryz.func67 (resOk.one rfl) (fun w1 hw => ?_)
   subst hb0
   cases h
   exact post_of_St hw
  refine WT.skip <| sr <| la rfl <| la rfl <| la rfl <| en <| sq <| sq <| WT.draw mixed (by kernel_rfl) (fun _ h => h.drew) <| qq (q_move rfl) rfl <| qq (q_move rfl) rfl ?_
  obtain ⟨x5, hx5, h⟩ := bs h
  obtain ⟨cs4, F4, -, g4, hb4, hs4, r4⟩ := ph0.el (idx_some hx5).2.2
  obtain ⟨rfl, -⟩ := r4
  refine qq (q_indexAddr Sl_42 rfl rfl ph0 hx5) rfl <| qq (q_fieldAddr Fld_87_1 rfl) rfl <| qq (q_fieldAddr Fld_85_2 rfl) rfl <| qq (q_load1 T1_9 rfl (fun w1 hw => (g4.of_eq 3 1 (by omega) rfl : rg _ _ _ [.string x5.V.S]).rangeAt hw.fro)) rfl <| qq (q_move rfl) rfl ?_
  obtain ⟨x6, hx6, h⟩ := bs h
  refine qp (p_call Fun_116 rfl (fun w1 hw => m_l_markText_ok hw.fro N (IntKind.i64.wrap ((IntKind.i64.wrap ((IntKind.i64.wrap (s1 + 1)) + 1)) + 1)) hx6)) rfl <| qq (q_sne rfl rfl) rfl <| WQ.nil ?_
  refine cdh rfl h (fun c5 h => ?_) (fun c5 h => ?_)
  ·refine sr <| la rfl <| en ?_
   refine WT.ret Tryz.func67 (resOk.one rfl) (fun w1 hw => ?_)
   subst hb0
   cases h
   exact post_of_St hw
  refine WT.skip <| rgn <| la rfl <| la rfl <| la rfl <| en <| ib <| rgn <| la rfl <| la rfl <| la rfl <| en ?_
  exact lback (ih1 (IntKind.i64.wrap ((IntKind.i64.wrap ((IntKind.i64.wrap ((IntKind.i64.wrap (s1 + 1)) + 1)) + 1)) + 1), IntKind.i64.wrap (s2 + 1)) h) ⟨rfl, rfl, rfl, trivial⟩ (fun w1 hw => (hw.sel (js := []) rfl).selO (js := []) rfl)
 refine xt rfl <| sr <| la rfl <| la rfl <| en ?_
 refine WT.ret Tryz.func67 (resOk.one rfl) (fun w1 hw => ?_)
 subst hb0
 cases h
 exact post_of_St hw
theorem m_l_heldMatchS_ok {Φ : Hp} {w : World} (hΦ : In Φ w) (N : Nat) (p0 : (List TMatch)) (p1 : Int) {pv0 : Value} {pG0 : List Nat} (ph0 : RSl RTMatch 3 Φ pG0 pv0 p0) {r : Int} (h : m_l_heldMatchS N p0 p1 = some r) :
  Calls Tryz.prog 25 [pv0, .int .i64 p1].toArray w (Post (.int .i64 r) w) := by
 refine enter Tryz.func25 rfl Tryz.ntmps25 rfl (St.start0 hΦ) ?_
 generalize hb0 : (⟨w, [], Φ⟩ : Base) = w0
 unfold m_l_heldMatchS at h
 refine sr <| la rfl <| en <| sq <| sr <| la rfl <| en <| blk ?_
 refine loop_in (σ := Int × Int) (fun s => [(0, pv0), (1, .int .i64 s.1), (5, .int .i64 s.2)]) (fun s => St w0 Φ [] []) (fun m s => m_l_heldMatchS_l1 N p0 m s.1 s.2 = some r) (p1, 0) N h ⟨rfl, rfl, rfl, trivial⟩ (fun w1 hw => (hw.sel (js := []) rfl).selO (js := []) rfl) (fun s hm => none_ne hm) (fun n1 ih1 s hm => ?_)
 obtain ⟨s1, s2⟩ := s
 have h : m_l_heldMatchS_l1 N p0 (n1 + 1) s1 s2 = some r := hm
 show WT _ _ [(0, pv0), (1, .int .i64 s1), (5, .int .i64 s2)] (St w0 Φ [] [])
 unfold m_l_heldMatchS_l1 at h
 refine sq <| sr <| la rfl <| la rfl <| lq (q_lenR Sl_32 rfl rfl ph0) rfl <| la rfl <| en ?_
 refine cdh rfl h (fun c1 h => ?_) (fun c1 h => ?_)
 ·refine WT.skip <| sq <| blk <| sq <| sr <| la rfl <| la rfl ?_
  obtain ⟨x1, hx1, h⟩ := bs h
  obtain ⟨cs1, F1, -, g1, hb1, hs1, r1⟩ := ph0.el (idx_some hx1).2.2
  obtain ⟨v1, G1, v2, G2, rfl, rfl, h1, h2⟩ := r1
  refine lq (q_indexAddr Sl_32 rfl rfl ph0 hx1) rfl <| lf Fld_44_0 rfl rfl rfl <| lg 0 T1_3 g1 rfl rfl <| la rfl <| la rfl <| en ?_
  refine cdh rfl h (fun c2 h => ?_) (fun c2 h => ?_)
  ·refine sr <| la rfl <| en ?_
   refine WT.ret Tryz.func25 (resOk.one rfl) (fun w1 hw => ?_)
   subst hb0
   cases h
   exact post_of_St hw
  refine WT.skip <| sr <| la rfl <| la rfl <| la rfl <| en <| sr <| la rfl <| la rfl ?_
  obtain ⟨x2, hx2, h⟩ := bs h
  obtain ⟨cs2, F2, -, g2, hb2, hs2, r2⟩ := ph0.el (idx_some hx2).2.2
  obtain ⟨v3, G3, v4, G4, rfl, rfl, h3, h4⟩ := r2
  refine lq (q_indexAddr Sl_32 rfl rfl ph0 hx2) rfl <| lf Fld_44_1 rfl rfl rfl <| lg 1 T1_41 g2 rfl rfl <| la rfl ?_
  obtain ⟨x3, hx3, h⟩ := bs h
  refine lp (p_call Fun_66 rfl (fun w1 hw => m_l_heldIntS_ok hw.fro N x2.Ids (IntKind.i64.wrap (s1 + 1)) h3 hx3)) rfl <| la rfl <| en <| sq <| sr <| la rfl <| la rfl <| en ?_
  refine cdh rfl h (fun c3 h => ?_) (fun c3 h => ?_)
  ·refine sr <| la rfl <| en ?_
   refine WT.ret Tryz.func25 (resOk.one rfl) (fun w1 hw => ?_)
   subst hb0
   cases h
   exact post_of_St hw
  refine WT.skip <| sr <| la rfl <| la rfl ?_
  obtain ⟨x4, hx4, h⟩ := bs h
  obtain ⟨cs3, F3, -, g3, hb3, hs3, r3⟩ := ph0.el (idx_some hx4).2.2
  obtain ⟨v5, G5, v6, G6, rfl, rfl, h5, h6⟩ := r3
  refine lq (q_indexAddr Sl_32 rfl rfl ph0 hx4) rfl <| lf Fld_44_2 rfl rfl rfl <| lg 2 T1_42 g3 rfl rfl <| la rfl ?_
  obtain ⟨x5, hx5, h⟩ := bs h
  refine lp (p_call Fun_67 rfl (fun w1 hw => m_l_heldBindS_ok hw.fro N x4.Binds x3 h6 hx5)) rfl <| la rfl <| en <| sr <| la rfl <| la rfl <| en ?_
  refine cdh rfl h (fun c4 h => ?_) (fun c4 h => ?_)
  ·refine sr <| la rfl <| en ?_
   refine WT.ret Tryz.func25 (resOk.one rfl) (fun w1 hw => ?_)
   subst hb0
   cases h
   exact post_of_St hw
  refine WT.skip <| ib <| rgn <| la rfl <| la rfl <| la rfl <| en ?_
  exact lback (ih1 (x5, IntKind.i64.wrap (s2 + 1)) h) ⟨rfl, rfl, rfl, trivial⟩ (fun w1 hw => (hw.sel (js := []) rfl).selO (js := []) rfl)
 refine xt rfl <| sr <| la rfl <| la rfl <| en ?_
 refine WT.ret Tryz.func25 (resOk.one rfl) (fun w1 hw => ?_)
 subst hb0
 cases h
 exact post_of_St hw
theorem m_l_FnExactMatchesOf_ok {Φ : Hp} {w : World} (hΦ : In Φ w) (N : Nat) (p0 : TRule) (p1 : TStore) {pv0_0 pv0_1 pv0_2 pv1_0 : Value} {pG0_0 pG0_1 pG0_2 pG1_0 : List Nat} (ph0_0 : RSl RTPat 3 Φ pG0_0 pv0_0 p0.Pats) (ph0_1 : RSl RTCond 11 Φ pG0_1 pv0_1 p0.Conds) (ph0_2 : RSl RTAct 5 Φ pG0_2 pv0_2 p0.Acts) (ph1_0 : RSl RTItem 3 Φ pG1_0 pv1_0 p1.Items) {r : Bool} (h : m_l_FnExactMatchesOf N p0 p1 = some r) :
  Calls Tryz.prog 4 [.agg [.string p0.Name, .int .i64 p0.Sal, pv0_0, pv0_1, pv0_2].toArray, .agg [pv1_0, .int .i64 p1.Next].toArray].toArray w (Post (.bool r) w) := by
 refine enter Tryz.func4 rfl Tryz.ntmps4 rfl (St.start0 hΦ) ?_
 have pa0_0 := Old.mk hΦ ph0_0.kn (Dj.empty _)
 have pa0_1 := Old.mk hΦ ph0_1.kn (Dj.empty _)
 have pa0_2 := Old.mk hΦ ph0_2.kn (Dj.empty _)
 have pa1_0 := Old.mk hΦ ph1_0.kn (Dj.empty _)
 unfold m_l_FnExactMatchesOf at h
 refine sr ?_
 refine ln (nb rfl) rfl (fun b_1 => ?_)
 refine ln (nb rfl) rfl (fun b_2 => ?_)
 refine la rfl <| en <| sr <| la rfl <| en <| sr <| ld5 Tn_51 1 rfl <| la rfl ?_
 obtain ⟨x1, hx1, h⟩ := bs h
 refine lp (p_call Fun_14 rfl (fun w1 hw => m_l_szRule_ok hw.fro N p0 1048576 ph0_0 ph0_1 ph0_2 hx1)) rfl <| la rfl <| en <| sq <| sr <| la rfl <| la rfl <| en ?_
 refine cdh rfl h (fun c1 h => ?_) (fun c1 h => ?_)
 ·refine sr <| la rfl <| en ?_
  refine WT.ret Tryz.func4 (resOk.one rfl) (fun w1 hw => ?_)
  cases h
  exact post_of_St hw
 refine WT.skip <| sr <| ld2 Tn_54 0 rfl <| la rfl ?_
 obtain ⟨x2, hx2, h⟩ := bs h
 refine lp (p_call Fun_15 rfl (fun w1 hw => m_l_szStore_ok hw.fro N p1 x1 ph1_0 hx2)) rfl <| la rfl <| en <| sq <| sr <| la rfl <| la rfl <| en ?_
 refine cdh rfl h (fun c2 h => ?_) (fun c2 h => ?_)
 ·refine sr <| la rfl <| en ?_
  refine WT.ret Tryz.func4 (resOk.one rfl) (fun w1 hw => ?_)
  cases h
  exact post_of_St hw
 refine WT.skip <| sq <| WT.mix (Kn Φ [] [(b_2, .cells #[pv1_0, .int .i64 p1.Next] 54 (0, 0)), (b_1, .cells #[.string p0.Name, .int .i64 p0.Sal, pv0_0, pv0_1, pv0_2] 51 (0, 0))]) (fun _ => true) mixed (fun _ h => h.drew) <| mq 0 rfl (by kernel_rfl) (kn Kf.nil (ai2 0 1 rfl rfl)) (q_loadN Tn_51 rfl (fun w1 hw => hw.rgO (i := 1) rfl 0 5 [.string p0.Name, .int .i64 p0.Sal, pv0_0, pv0_1, pv0_2] rfl) rfl) rfl <| mq 2 rfl (by kernel_rfl) (kn Kf.nil (ai2 0 1 rfl rfl)) (q_loadN Tn_54 rfl (fun w1 hw => hw.rgO (i := 0) rfl 0 2 [pv1_0, .int .i64 p1.Next] rfl) rfl) rfl ?_
 obtain ⟨x3, hx3, h⟩ := bs h
 refine WM.one 1 (by kernel_rfl) (mc rfl (fun _ v Φx D w1 hq hw => Kn.of Kf.nil (ai2 0 1 rfl rfl) hw) (k_call (js := []) (R := []) Fun_17 rfl rfl (fun w1 hw ap hl => m_l_toRule_ok hw.fro N p0 ph0_0 ph0_1 ph0_2  hx3)) rfl (fun v1 Φ_1 F1 q1 => ?_))
 obtain ⟨ap1, fr1, v2, D1, v3, v4, D2, rfl, rfl, h1, h2, h3⟩ := q1
 replace ph0_0 := ph0_0.frame RTPat.lasts fr1 (ap1.o pa0_0)
 replace ph0_1 := ph0_1.frame RTCond.lasts fr1 (ap1.o pa0_1)
 replace ph0_2 := ph0_2.frame RTAct.lasts fr1 (ap1.o pa0_2)
 replace ph1_0 := ph1_0.frame RTItem.lasts fr1 (ap1.o pa1_0)
 obtain ⟨x4, hx4, h⟩ := bs h
 refine WM.one 3 (by kernel_rfl) (mc rfl (fun _ v Φx D w1 hq hw => Kn.of Kf.nil (ai2 0 1 rfl rfl) hw) (k_call (js := []) (R := [ob v2, D1, ob v3, ob v4, D2]) Fun_18 rfl rfl (fun w1 hw ap hl => m_l_toStore_ok hw.fro N p1 ph1_0  hx4)) rfl (fun v5 Φ_2 F2 q2 => ?_))
 obtain ⟨ap2, fr2, v6, D3, rfl, rfl, h4⟩ := q2
 replace ph0_0 := ph0_0.frame RTPat.lasts fr2 (ap2.o pa0_0)
 replace ph0_1 := ph0_1.frame RTCond.lasts fr2 (ap2.o pa0_1)
 replace ph0_2 := ph0_2.frame RTAct.lasts fr2 (ap2.o pa0_2)
 replace ph1_0 := ph1_0.frame RTItem.lasts fr2 (ap2.o pa1_0)
 replace h1 := h1.frame OTPat.lasts fr2 (ap2.r (i := 0) rfl) (ap2.r (i := 1) rfl)
 replace h2 := h2.frame RTCond.lasts fr2 (ap2.r (i := 2) rfl) (Dj.nil _)
 replace h3 := h3.frame OTAct.lasts fr2 (ap2.r (i := 3) rfl) (ap2.r (i := 4) rfl)
 obtain ⟨x5, hx5, h⟩ := bs h
 refine WM.one 4 (by kernel_rfl) (mc rfl (fun _ v Φx D w1 hq hw => Kn.of Kf.nil (ai2 0 1 rfl rfl) hw) (k_call (js := []) (R := [ob v6, D3, ob v2, D1, ob v3, ob v4, D2]) Fun_16 rfl rfl (fun w1 hw ap hl => m_s_MatchesOf_ok hw.fro N x3 x4 (h1.rslG OTPat.gives) h2.rsl (h3.rslG OTAct.gives) (h4.rslG OTItem.gives)  hx5)) rfl (fun v7 Φ_3 F3 q3 => ?_))
 obtain ⟨ap3, fr3, v8, D4, rfl, rfl, h5⟩ := q3
 replace ph0_0 := ph0_0.frame RTPat.lasts fr3 (ap3.o pa0_0)
 replace ph0_1 := ph0_1.frame RTCond.lasts fr3 (ap3.o pa0_1)
 replace ph0_2 := ph0_2.frame RTAct.lasts fr3 (ap3.o pa0_2)
 replace ph1_0 := ph1_0.frame RTItem.lasts fr3 (ap3.o pa1_0)
 refine ma 5 rfl (by kernel_rfl) (kn Kf.nil (ai2 0 1 rfl rfl)) rfl <| WM.nil (by kernel_rfl) <| sr <| ld5 Tn_51 1 rfl ?_
 obtain ⟨x6, hx6, h⟩ := bs h
 refine lc (k_call (js := []) (R := [ob v7, D4, ob v6, D3, ob v2, D1, ob v3, ob v4, D2]) Fun_17 rfl rfl (fun w1 hw ap hl => m_l_toRule_ok hw.fro N p0 ph0_0 ph0_1 ph0_2  hx6)) rfl (fun v9 Φ_4 F4 q4 => ?_)
 obtain ⟨ap4, fr4, v10, D5, v11, v12, D6, rfl, rfl, h6, h7, h8⟩ := q4
 replace ph0_0 := ph0_0.frame RTPat.lasts fr4 (ap4.o pa0_0)
 replace ph0_1 := ph0_1.frame RTCond.lasts fr4 (ap4.o pa0_1)
 replace ph0_2 := ph0_2.frame RTAct.lasts fr4 (ap4.o pa0_2)
 replace ph1_0 := ph1_0.frame RTItem.lasts fr4 (ap4.o pa1_0)
 replace h5 := h5.frame OTMatch.lasts fr4 (ap4.r (i := 0) rfl) (ap4.r (i := 1) rfl)
 refine ln (nz Zr_40) rfl (fun b_3 => ?_)
 refine soN 0 Sz_40 rfl ⟨rfl, rfl, h6.one, h7.one, h8.one, trivial⟩ rfl ?_
 refine en <| sr <| ld2 Tn_54 1 rfl ?_
 obtain ⟨x7, hx7, h⟩ := bs h
 refine lc (k_call (js := []) (R := [ob v10, D5, ob v11, ob v12, D6, ob v7, D4, ob v6, D3, ob v2, D1, ob v3, ob v4, D2]) Fun_18 rfl rfl (fun w1 hw ap hl => m_l_toStore_ok hw.fro N p1 ph1_0  hx7)) rfl (fun v13 Φ_5 F5 q5 => ?_)
 obtain ⟨ap5, fr5, v14, D7, rfl, rfl, h9⟩ := q5
 replace ph0_0 := ph0_0.frame RTPat.lasts fr5 (ap5.o pa0_0)
 replace ph0_1 := ph0_1.frame RTCond.lasts fr5 (ap5.o pa0_1)
 replace ph0_2 := ph0_2.frame RTAct.lasts fr5 (ap5.o pa0_2)
 replace ph1_0 := ph1_0.frame RTItem.lasts fr5 (ap5.o pa1_0)
 replace h5 := h5.frame OTMatch.lasts fr5 (ap5.r (i := 5) rfl) (ap5.r (i := 6) rfl)
 replace h6 := h6.frame OTPat.lasts fr5 (ap5.r (i := 0) rfl) (ap5.r (i := 1) rfl)
 replace h7 := h7.frame RTCond.lasts fr5 (ap5.r (i := 2) rfl) (Dj.nil _)
 replace h8 := h8.frame OTAct.lasts fr5 (ap5.r (i := 3) rfl) (ap5.r (i := 4) rfl)
 refine ln (nz Zr_29) rfl (fun b_4 => ?_)
 refine soN 0 Sz_29 rfl ⟨h9.one, rfl, trivial⟩ rfl ?_
 refine en <| sr <| ld5 Tn_40 1 rfl <| ld2 Tn_29 0 rfl ?_
 obtain ⟨x8, hx8, h⟩ := bs h
 refine lc (k_call (js := []) (R := [ob v14, D7, ob v10, D5, ob v11, ob v12, D6, ob v7, D4, ob v6, D3, ob v2, D1, ob v3, ob v4, D2]) Fun_10 rfl rfl (fun w1 hw ap hl => m_i_MatchesOf_ok hw.fro N x6 x7 (h6.rslG OTPat.gives) h7.rsl (h8.rslG OTAct.gives) (h9.rslG OTItem.gives)  hx8)) rfl (fun v15 Φ_6 F6 q6 => ?_)
 obtain ⟨ap6, fr6, v16, D8, rfl, rfl, h10⟩ := q6
 replace ph0_0 := ph0_0.frame RTPat.lasts fr6 (ap6.o pa0_0)
 replace ph0_1 := ph0_1.frame RTCond.lasts fr6 (ap6.o pa0_1)
 replace ph0_2 := ph0_2.frame RTAct.lasts fr6 (ap6.o pa0_2)
 replace ph1_0 := ph1_0.frame RTItem.lasts fr6 (ap6.o pa1_0)
 replace h5 := h5.frame OTMatch.lasts fr6 (ap6.r (i := 7) rfl) (ap6.r (i := 8) rfl)
 replace h6 := h6.frame OTPat.lasts fr6 (ap6.r (i := 2) rfl) (ap6.r (i := 3) rfl)
 replace h7 := h7.frame RTCond.lasts fr6 (ap6.r (i := 4) rfl) (Dj.nil _)
 replace h8 := h8.frame OTAct.lasts fr6 (ap6.r (i := 5) rfl) (ap6.r (i := 6) rfl)
 replace h9 := h9.frame OTItem.lasts fr6 (ap6.r (i := 0) rfl) (ap6.r (i := 1) rfl)
 refine la rfl <| en <| sq <| sr <| la rfl <| la rfl ?_
 obtain ⟨x9, hx9, h⟩ := bs h
 refine lp (p_call Fun_19 rfl (fun w1 hw => m_l_eqMatchS_ok hw.fro N x8 x5 (h10.rslG OTMatch.gives) (h5.rslG OTMatch.gives) hx9)) rfl <| la rfl <| en ?_
 refine cdh rfl h (fun c3 h => ?_) (fun c3 h => ?_)
 ·refine sr <| la rfl <| en ?_
  refine WT.ret Tryz.func4 (resOk.one rfl) (fun w1 hw => ?_)
  cases h
  exact post_of_St hw
 refine WT.skip <| sq <| sq <| WT.mix (Kn Φ_6 [] [(b_4, .cells #[v14, .int .i64 x7.Next] 29 (0, 0)), (b_3, .cells #[.string x6.Name, .int .i64 x6.Sal, v10, v11, v12] 40 (0, 0)), (b_2, .cells #[pv1_0, .int .i64 p1.Next] 54 (0, 0)), (b_1, .cells #[.string p0.Name, .int .i64 p0.Sal, pv0_0, pv0_1, pv0_2] 51 (0, 0))]) (fun _ => true) mixed (fun _ h => h.drew) <| mq 0 rfl (by kernel_rfl) (kn Kf.nil (AllIn.mem ⟨gM 0 rfl, gM 1 rfl, gM 2 rfl, gM 3 rfl, trivial⟩)) (q_loadN Tn_40 rfl (fun w1 hw => hw.rgO (i := 1) rfl 0 5 [.string x6.Name, .int .i64 x6.Sal, v10, v11, v12] rfl) rfl) rfl ?_
 refine mq 1 rfl (by kernel_rfl) (kn Kf.nil (AllIn.mem ⟨gM 0 rfl, gM 1 rfl, gM 2 rfl, gM 3 rfl, trivial⟩)) (q_loadN Tn_51 rfl (fun w1 hw => hw.rgO (i := 3) rfl 0 5 [.string p0.Name, .int .i64 p0.Sal, pv0_0, pv0_1, pv0_2] rfl) rfl) rfl ?_
 obtain ⟨x10, hx10, h⟩ := bs h
 refine WM.one 2 (by kernel_rfl) (mc rfl (fun _ v Φx D w1 hq hw => Kn.of Kf.nil (AllIn.mem ⟨gM 0 rfl, gM 1 rfl, gM 2 rfl, gM 3 rfl, trivial⟩) hw) (k_call (js := []) (R := [ob v15, D8, ob v14, D7, ob v10, D5, ob v11, ob v12, D6, ob v7, D4, ob v6, D3, ob v2, D1, ob v3, ob v4, D2]) Fun_17 rfl rfl (fun w1 hw ap hl => m_l_toRule_ok hw.fro N p0 ph0_0 ph0_1 ph0_2  hx10)) rfl (fun v17 Φ_7 F7 q7 => ?_))
 obtain ⟨ap7, fr7, v18, D9, v19, v20, D10, rfl, rfl, h11, h12, h13⟩ := q7
 replace ph0_0 := ph0_0.frame RTPat.lasts fr7 (ap7.o pa0_0)
 replace ph0_1 := ph0_1.frame RTCond.lasts fr7 (ap7.o pa0_1)
 replace ph0_2 := ph0_2.frame RTAct.lasts fr7 (ap7.o pa0_2)
 replace ph1_0 := ph1_0.frame RTItem.lasts fr7 (ap7.o pa1_0)
 replace h10 := h10.frame OTMatch.lasts fr7 (ap7.r (i := 0) rfl) (ap7.r (i := 1) rfl)
 replace h5 := h5.frame OTMatch.lasts fr7 (ap7.r (i := 9) rfl) (ap7.r (i := 10) rfl)
 replace h6 := h6.frame OTPat.lasts fr7 (ap7.r (i := 4) rfl) (ap7.r (i := 5) rfl)
 replace h7 := h7.frame RTCond.lasts fr7 (ap7.r (i := 6) rfl) (Dj.nil _)
 replace h8 := h8.frame OTAct.lasts fr7 (ap7.r (i := 7) rfl) (ap7.r (i := 8) rfl)
 replace h9 := h9.frame OTItem.lasts fr7 (ap7.r (i := 2) rfl) (ap7.r (i := 3) rfl)
 obtain ⟨x11, hx11, h⟩ := bs h
 refine WM.one 3 (by kernel_rfl) (mp rfl (fun _ w1 hw => Kn.of Kf.nil (AllIn.mem ⟨gM 0 rfl, gM 1 rfl, gM 2 rfl, gM 3 rfl, trivial⟩) hw) (p_call Fun_20 rfl (fun w1 hw => m_l_eqRule_ok hw.fro N x6 x10 (h6.rslG OTPat.gives) h7.rsl (h8.rslG OTAct.gives) (h11.rslG OTPat.gives) h12.rsl (h13.rslG OTAct.gives) hx11)) rfl ?_)
 refine ma 4 rfl (by kernel_rfl) (kn Kf.nil (AllIn.mem ⟨gM 0 rfl, gM 1 rfl, gM 2 rfl, gM 3 rfl, trivial⟩)) rfl <| WM.nil (by kernel_rfl) ?_
 refine cdh rfl h (fun c4 h => ?_) (fun c4 h => ?_)
 ·refine sr <| la rfl <| en ?_
  refine WT.ret Tryz.func4 (resOk.one rfl) (fun w1 hw => ?_)
  cases h
  exact post_of_St hw
 refine WT.skip <| sq <| sq <| WT.mix (Kn Φ_7 [] [(b_4, .cells #[v14, .int .i64 x7.Next] 29 (0, 0)), (b_3, .cells #[.string x6.Name, .int .i64 x6.Sal, v10, v11, v12] 40 (0, 0)), (b_2, .cells #[pv1_0, .int .i64 p1.Next] 54 (0, 0)), (b_1, .cells #[.string p0.Name, .int .i64 p0.Sal, pv0_0, pv0_1, pv0_2] 51 (0, 0))]) (fun _ => true) mixed (fun _ h => h.drew) <| mq 0 rfl (by kernel_rfl) (kn Kf.nil (AllIn.mem ⟨gM 0 rfl, gM 1 rfl, gM 2 rfl, gM 3 rfl, trivial⟩)) (q_loadN Tn_29 rfl (fun w1 hw => hw.rgO (i := 0) rfl 0 2 [v14, .int .i64 x7.Next] rfl) rfl) rfl ?_
 refine mq 1 rfl (by kernel_rfl) (kn Kf.nil (AllIn.mem ⟨gM 0 rfl, gM 1 rfl, gM 2 rfl, gM 3 rfl, trivial⟩)) (q_loadN Tn_54 rfl (fun w1 hw => hw.rgO (i := 2) rfl 0 2 [pv1_0, .int .i64 p1.Next] rfl) rfl) rfl ?_
 obtain ⟨x12, hx12, h⟩ := bs h
 refine WM.one 2 (by kernel_rfl) (mc rfl (fun _ v Φx D w1 hq hw => Kn.of Kf.nil (AllIn.mem ⟨gM 0 rfl, gM 1 rfl, gM 2 rfl, gM 3 rfl, trivial⟩) hw) (k_call (js := []) (R := [ob v18, D9, ob v19, ob v20, D10, ob v15, D8, ob v14, D7, ob v10, D5, ob v11, ob v12, D6, ob v7, D4, ob v6, D3, ob v2, D1, ob v3, ob v4, D2]) Fun_18 rfl rfl (fun w1 hw ap hl => m_l_toStore_ok hw.fro N p1 ph1_0  hx12)) rfl (fun v21 Φ_8 F8 q8 => ?_))
 obtain ⟨ap8, fr8, v22, D11, rfl, rfl, h14⟩ := q8
 replace ph0_0 := ph0_0.frame RTPat.lasts fr8 (ap8.o pa0_0)
 replace ph0_1 := ph0_1.frame RTCond.lasts fr8 (ap8.o pa0_1)
 replace ph0_2 := ph0_2.frame RTAct.lasts fr8 (ap8.o pa0_2)
 replace ph1_0 := ph1_0.frame RTItem.lasts fr8 (ap8.o pa1_0)
 replace h10 := h10.frame OTMatch.lasts fr8 (ap8.r (i := 5) rfl) (ap8.r (i := 6) rfl)
 replace h5 := h5.frame OTMatch.lasts fr8 (ap8.r (i := 14) rfl) (ap8.r (i := 15) rfl)
 replace h6 := h6.frame OTPat.lasts fr8 (ap8.r (i := 9) rfl) (ap8.r (i := 10) rfl)
 replace h7 := h7.frame RTCond.lasts fr8 (ap8.r (i := 11) rfl) (Dj.nil _)
 replace h8 := h8.frame OTAct.lasts fr8 (ap8.r (i := 12) rfl) (ap8.r (i := 13) rfl)
 replace h9 := h9.frame OTItem.lasts fr8 (ap8.r (i := 7) rfl) (ap8.r (i := 8) rfl)
 obtain ⟨x13, hx13, h⟩ := bs h
 refine WM.one 3 (by kernel_rfl) (mp rfl (fun _ w1 hw => Kn.of Kf.nil (AllIn.mem ⟨gM 0 rfl, gM 1 rfl, gM 2 rfl, gM 3 rfl, trivial⟩) hw) (p_call Fun_21 rfl (fun w1 hw => m_l_eqStore_ok hw.fro N x7 x12 (h9.rslG OTItem.gives) (h14.rslG OTItem.gives) hx13)) rfl ?_)
 refine ma 4 rfl (by kernel_rfl) (kn Kf.nil (AllIn.mem ⟨gM 0 rfl, gM 1 rfl, gM 2 rfl, gM 3 rfl, trivial⟩)) rfl <| WM.nil (by kernel_rfl) ?_
 refine cdh rfl h (fun c5 h => ?_) (fun c5 h => ?_)
 ·refine sr <| la rfl <| en ?_
  refine WT.ret Tryz.func4 (resOk.one rfl) (fun w1 hw => ?_)
  cases h
  exact post_of_St hw
 refine WT.skip <| sr <| la rfl <| en <| sr <| ld5 Tn_40 1 rfl <| la rfl ?_
 obtain ⟨x14, hx14, h⟩ := bs h
 refine lc (k_call (js := [11, 11, 11, 11, 11]) (R := [ob v22, D11, ob v18, D9, ob v19, ob v20, D10, ob v15, D8, ob v14, D7, ob v7, D4, ob v6, D3, ob v2, D1, ob v3, ob v4, D2]) Fun_22 rfl rfl (fun w1 hw ap hl => m_l_markRule_ok hw.fro N x6 1 h6 h7 h8 ap.nd hl hx14)) rfl (fun v23 Φ_9 F9 q9 => ?_)
 obtain ⟨ap9, fr9, D12, D13, rfl, rfl, h15, h16, h17⟩ := q9
 replace ph0_0 := ph0_0.frame RTPat.lasts fr9 (ap9.o pa0_0)
 replace ph0_1 := ph0_1.frame RTCond.lasts fr9 (ap9.o pa0_1)
 replace ph0_2 := ph0_2.frame RTAct.lasts fr9 (ap9.o pa0_2)
 replace ph1_0 := ph1_0.frame RTItem.lasts fr9 (ap9.o pa1_0)
 replace h10 := h10.frame OTMatch.lasts fr9 (ap9.r (i := 7) rfl) (ap9.r (i := 8) rfl)
 replace h5 := h5.frame OTMatch.lasts fr9 (ap9.r (i := 11) rfl) (ap9.r (i := 12) rfl)
 replace h9 := h9.frame OTItem.lasts fr9 (ap9.r (i := 9) rfl) (ap9.r (i := 10) rfl)
 refine la rfl <| en <| sr <| ld2 Tn_29 0 rfl <| la rfl ?_
 obtain ⟨x15, hx15, h⟩ := bs h
 refine lc (k_call (js := [14, 14]) (R := [ob v10, D12, ob v11, ob v12, D13, ob v22, D11, ob v18, D9, ob v19, ob v20, D10, ob v15, D8, ob v7, D4, ob v6, D3, ob v2, D1, ob v3, ob v4, D2]) Fun_23 rfl rfl (fun w1 hw ap hl => m_l_markStore_ok hw.fro N x7 x14.1 h9 ap.nd hl hx15)) rfl (fun v24 Φ_10 F10 q10 => ?_)
 obtain ⟨ap10, fr10, D14, rfl, rfl, h18⟩ := q10
 replace ph0_0 := ph0_0.frame RTPat.lasts fr10 (ap10.o pa0_0)
 replace ph0_1 := ph0_1.frame RTCond.lasts fr10 (ap10.o pa0_1)
 replace ph0_2 := ph0_2.frame RTAct.lasts fr10 (ap10.o pa0_2)
 replace ph1_0 := ph1_0.frame RTItem.lasts fr10 (ap10.o pa1_0)
 replace h10 := h10.frame OTMatch.lasts fr10 (ap10.r (i := 12) rfl) (ap10.r (i := 13) rfl)
 replace h5 := h5.frame OTMatch.lasts fr10 (ap10.r (i := 14) rfl) (ap10.r (i := 15) rfl)
 refine la rfl <| en <| sq <| sr <| la rfl <| la rfl <| la rfl ?_
 obtain ⟨b1, hb_1, h⟩ := bs h
 refine WL.cutN 5 [(63, .bool b1), (2, .pointer (some ⟨b_1, 0, none⟩)), (3, .pointer (some ⟨b_2, 0, none⟩)), (6, v7), (9, v15)] ?_ (fun K => ?_)
 rotate_left
 ·refine spl 58 rfl hb_1 (fun c6 hb_1 => ?_) (fun c6 hb_1 => ?_)
  ·refine la rfl <| la rfl <| la rfl <| la rfl <| la rfl ?_
   cases hb_1
   exact kk K ⟨rfl, rfl, rfl, rfl, rfl, trivial⟩
  ·refine ly rfl rfl <| la rfl <| ly rfl rfl <| la rfl <| ly rfl rfl ?_
   obtain ⟨x16, hx16, hb_1⟩ := bs hb_1
   refine lp (p_call Fun_19 rfl (fun w1 hw => m_l_eqMatchS_ok hw.fro N x8 x5 (h10.rslG OTMatch.gives) (h5.rslG OTMatch.gives) hx16)) rfl <| ly rfl rfl <| la rfl <| la rfl ?_
   cases hb_1
   exact kk K ⟨rfl, rfl, rfl, rfl, rfl, trivial⟩
 refine en ?_
 refine cdh rfl h (fun c7 h => ?_) (fun c7 h => ?_)
 ·refine sr <| la rfl <| en ?_
  refine WT.ret Tryz.func4 (resOk.one rfl) (fun w1 hw => ?_)
  cases h
  exact post_of_St hw
 refine WT.skip <| sr <| la rfl <| en <| sr <| la rfl <| la rfl ?_
 obtain ⟨x17, hx17, h⟩ := bs h
 refine lc (k_call (js := [14, 14]) (R := [ob v14, D14, ob v10, D12, ob v11, ob v12, D13, ob v22, D11, ob v18, D9, ob v19, ob v20, D10, ob v7, D4, ob v6, D3, ob v2, D1, ob v3, ob v4, D2]) Fun_24 rfl rfl (fun w1 hw ap hl => m_l_markMatchS_ok hw.fro N x8 1 h10 ap.nd hl hx17)) rfl (fun v25 Φ_11 F11 q11 => ?_)
 obtain ⟨ap11, fr11, D15, rfl, rfl, h19⟩ := q11
 replace ph0_0 := ph0_0.frame RTPat.lasts fr11 (ap11.o pa0_0)
 replace ph0_1 := ph0_1.frame RTCond.lasts fr11 (ap11.o pa0_1)
 replace ph0_2 := ph0_2.frame RTAct.lasts fr11 (ap11.o pa0_2)
 replace ph1_0 := ph1_0.frame RTItem.lasts fr11 (ap11.o pa1_0)
 replace h5 := h5.frame OTMatch.lasts fr11 (ap11.r (i := 14) rfl) (ap11.r (i := 15) rfl)
 refine la rfl <| en <| sr <| la rfl <| en <| sr <| la rfl <| la rfl ?_
 obtain ⟨x18, hx18, h⟩ := bs h
 refine lp (p_call Fun_25 rfl (fun w1 hw => m_l_heldMatchS_ok hw.fro N x17.2 1 (h19.rslG OTMatch.gives) hx18)) rfl <| la rfl <| en <| sq <| sr <| la rfl <| la rfl <| en ?_
 refine cdh rfl h (fun c8 h => ?_) (fun c8 h => ?_)
 ·refine sr <| la rfl <| en ?_
  refine WT.ret Tryz.func4 (resOk.one rfl) (fun w1 hw => ?_)
  cases h
  exact post_of_St hw
 refine WT.skip <| sq <| sr <| la rfl <| la rfl <| la rfl <| en ?_
 refine cdh rfl h (fun c9 h => ?_) (fun c9 h => ?_)
 ·refine sr <| la rfl <| en ?_
  refine WT.ret Tryz.func4 (resOk.one rfl) (fun w1 hw => ?_)
  cases h
  exact post_of_St hw
 refine WT.skip <| sq <| WT.mix (Kn Φ_11 [] [(b_4, .cells #[v14, .int .i64 x7.Next] 29 (0, 0)), (b_3, .cells #[.string x6.Name, .int .i64 x6.Sal, v10, v11, v12] 40 (0, 0)), (b_2, .cells #[pv1_0, .int .i64 p1.Next] 54 (0, 0)), (b_1, .cells #[.string p0.Name, .int .i64 p0.Sal, pv0_0, pv0_1, pv0_2] 51 (0, 0))]) (fun _ => true) mixed (fun _ h => h.drew) <| mq 0 rfl (by kernel_rfl) (kn Kf.nil (AllIn.mem ⟨gM 0 rfl, gM 1 rfl, gM 2 rfl, gM 3 rfl, trivial⟩)) (q_loadN Tn_51 rfl (fun w1 hw => hw.rgO (i := 3) rfl 0 5 [.string p0.Name, .int .i64 p0.Sal, pv0_0, pv0_1, pv0_2] rfl) rfl) rfl ?_
 refine mq 2 rfl (by kernel_rfl) (kn Kf.nil (AllIn.mem ⟨gM 0 rfl, gM 1 rfl, gM 2 rfl, gM 3 rfl, trivial⟩)) (q_loadN Tn_54 rfl (fun w1 hw => hw.rgO (i := 2) rfl 0 2 [pv1_0, .int .i64 p1.Next] rfl) rfl) rfl ?_
 obtain ⟨x19, hx19, h⟩ := bs h
 refine WM.one 1 (by kernel_rfl) (mc rfl (fun _ v Φx D w1 hq hw => Kn.of Kf.nil (AllIn.mem ⟨gM 0 rfl, gM 1 rfl, gM 2 rfl, gM 3 rfl, trivial⟩) hw) (k_call (js := []) (R := [ob v15, D15, ob v14, D14, ob v10, D12, ob v11, ob v12, D13, ob v22, D11, ob v18, D9, ob v19, ob v20, D10, ob v7, D4, ob v6, D3, ob v2, D1, ob v3, ob v4, D2]) Fun_17 rfl rfl (fun w1 hw ap hl => m_l_toRule_ok hw.fro N p0 ph0_0 ph0_1 ph0_2  hx19)) rfl (fun v26 Φ_12 F12 q12 => ?_))
 obtain ⟨ap12, fr12, v27, D16, v28, v29, D17, rfl, rfl, h20, h21, h22⟩ := q12
 replace ph1_0 := ph1_0.frame RTItem.lasts fr12 (ap12.o pa1_0)
 replace h19 := h19.frame OTMatch.lasts fr12 (ap12.r (i := 0) rfl) (ap12.r (i := 1) rfl)
 replace h5 := h5.frame OTMatch.lasts fr12 (ap12.r (i := 16) rfl) (ap12.r (i := 17) rfl)
 obtain ⟨x20, hx20, h⟩ := bs h
 refine WM.one 3 (by kernel_rfl) (mc rfl (fun _ v Φx D w1 hq hw => Kn.of Kf.nil (AllIn.mem ⟨gM 0 rfl, gM 1 rfl, gM 2 rfl, gM 3 rfl, trivial⟩) hw) (k_call (js := []) (R := [ob v27, D16, ob v28, ob v29, D17, ob v15, D15, ob v14, D14, ob v10, D12, ob v11, ob v12, D13, ob v22, D11, ob v18, D9, ob v19, ob v20, D10, ob v7, D4, ob v6, D3, ob v2, D1, ob v3, ob v4, D2]) Fun_18 rfl rfl (fun w1 hw ap hl => m_l_toStore_ok hw.fro N p1 ph1_0  hx20)) rfl (fun v30 Φ_13 F13 q13 => ?_))
 obtain ⟨ap13, fr13, v31, D18, rfl, rfl, h23⟩ := q13
 replace h19 := h19.frame OTMatch.lasts fr13 (ap13.r (i := 5) rfl) (ap13.r (i := 6) rfl)
 replace h20 := h20.frame OTPat.lasts fr13 (ap13.r (i := 0) rfl) (ap13.r (i := 1) rfl)
 replace h21 := h21.frame RTCond.lasts fr13 (ap13.r (i := 2) rfl) (Dj.nil _)
 replace h22 := h22.frame OTAct.lasts fr13 (ap13.r (i := 3) rfl) (ap13.r (i := 4) rfl)
 replace h5 := h5.frame OTMatch.lasts fr13 (ap13.r (i := 21) rfl) (ap13.r (i := 22) rfl)
 obtain ⟨x21, hx21, h⟩ := bs h
 refine WM.one 4 (by kernel_rfl) (mc rfl (fun _ v Φx D w1 hq hw => Kn.of Kf.nil (AllIn.mem ⟨gM 0 rfl, gM 1 rfl, gM 2 rfl, gM 3 rfl, trivial⟩) hw) (k_call (js := []) (R := [ob v31, D18, ob v27, D16, ob v28, ob v29, D17, ob v15, D15, ob v14, D14, ob v10, D12, ob v11, ob v12, D13, ob v22, D11, ob v18, D9, ob v19, ob v20, D10, ob v7, D4, ob v6, D3, ob v2, D1, ob v3, ob v4, D2]) Fun_10 rfl rfl (fun w1 hw ap hl => m_i_MatchesOf_ok hw.fro N x19 x20 (h20.rslG OTPat.gives) h21.rsl (h22.rslG OTAct.gives) (h23.rslG OTItem.gives)  hx21)) rfl (fun v32 Φ_14 F14 q14 => ?_))
 obtain ⟨ap14, fr14, v33, D19, rfl, rfl, h24⟩ := q14
 replace h19 := h19.frame OTMatch.lasts fr14 (ap14.r (i := 7) rfl) (ap14.r (i := 8) rfl)
 replace h5 := h5.frame OTMatch.lasts fr14 (ap14.r (i := 23) rfl) (ap14.r (i := 24) rfl)
 refine ma 5 rfl (by kernel_rfl) (kn Kf.nil (AllIn.mem ⟨gM 0 rfl, gM 1 rfl, gM 2 rfl, gM 3 rfl, trivial⟩)) rfl <| WM.nil (by kernel_rfl) <| sq <| sr <| la rfl <| la rfl ?_
 obtain ⟨x22, hx22, h⟩ := bs h
 refine lp (p_call Fun_19 rfl (fun w1 hw => m_l_eqMatchS_ok hw.fro N x21 x5 (h24.rslG OTMatch.gives) (h5.rslG OTMatch.gives) hx22)) rfl <| la rfl <| en ?_
 refine cdh rfl h (fun c10 h => ?_) (fun c10 h => ?_)
 ·refine sr <| la rfl <| en ?_
  refine WT.ret Tryz.func4 (resOk.one rfl) (fun w1 hw => ?_)
  cases h
  exact post_of_St hw
 refine WT.skip <| sr <| la rfl <| en <| sr <| la rfl <| la rfl ?_
 obtain ⟨x23, hx23, h⟩ := bs h
 refine lp (p_call Fun_25 rfl (fun w1 hw => m_l_heldMatchS_ok hw.fro N x17.2 1 (h19.rslG OTMatch.gives) hx23)) rfl <| la rfl <| en <| sq <| sr <| la rfl <| la rfl <| en ?_
 refine cdh rfl h (fun c11 h => ?_) (fun c11 h => ?_)
 ·refine sr <| la rfl <| en ?_
  refine WT.ret Tryz.func4 (resOk.one rfl) (fun w1 hw => ?_)
  cases h
  exact post_of_St hw
 refine WT.skip <| sq <| sr <| la rfl <| la rfl <| la rfl <| en ?_
 refine cdh rfl h (fun c12 h => ?_) (fun c12 h => ?_)
 ·refine sr <| la rfl <| en ?_
  refine WT.ret Tryz.func4 (resOk.one rfl) (fun w1 hw => ?_)
  cases h
  exact post_of_St hw
 refine WT.skip <| sr <| la rfl <| en ?_
 refine WT.ret Tryz.func4 (resOk.one rfl) (fun w1 hw => ?_)
 cases h
 exact post_of_St hw
end Go.Proofs.YtelchcokfcdndaaGreat
