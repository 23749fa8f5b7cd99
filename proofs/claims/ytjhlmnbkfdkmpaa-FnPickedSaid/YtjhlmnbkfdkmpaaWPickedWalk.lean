/- Printed by a program of ours: each Go function computes its Lean function. -/
import Derived.Test.YtjhlmnbkfdkmpaaProg
import Derived.Test.YtjhlmnbkfdkmpaaWPickedWalk3
namespace Go.Proofs.Ytjhlmnbkfdkmpaa
open Eng
open Go.RowKit (Below)
set_option linter.unusedVariables false
set_option linter.unusedSimpArgs false

set_option maxRecDepth 100000
set_option maxHeartbeats 1000000
theorem m_i_SameMatch_ok {Φ : Hp} {w : World} (hΦ : In Φ w) (N : Nat) (p0 : TMatch) (p1 : TMatch) {pv0_0 : Value} {pG0_0 : List Nat} {pv0_1 : Value} {pG0_1 : List Nat} {pv1_0 : Value} {pG1_0 : List Nat} {pv1_1 : Value} {pG1_1 : List Nat} (ph0_0 : RSl (RI .i64) 1 Φ pG0_0 pv0_0 p0.Ids) (ph0_1 : RSl RTBind 4 Φ pG0_1 pv0_1 p0.Binds) (ph1_0 : RSl (RI .i64) 1 Φ pG1_0 pv1_0 p1.Ids) (ph1_1 : RSl RTBind 4 Φ pG1_1 pv1_1 p1.Binds) {r : Bool} (h : m_i_SameMatch N p0 p1 = some r) :
  Calls Try.prog 42 [.agg [.int .i64 p0.Rule, pv0_0, pv0_1].toArray, .agg [.int .i64 p1.Rule, pv1_0, pv1_1].toArray].toArray w (Post (.bool r) w) := by
 refine enter Try.func42 rfl Try.ntmps42 rfl (St.start0 hΦ) ?_
 unfold m_i_SameMatch at h
 refine WT.seq <| WT.region ?_
 refine ln (n_box (C := #[.int .i64 p0.Rule, pv0_0, pv0_1]) rfl rfl) rfl (fun b_1 => ?_)
 refine ln (n_box (C := #[.int .i64 p1.Rule, pv1_0, pv1_1]) rfl rfl) rfl (fun b_2 => ?_)
 refine lq (q_assign rfl) rfl <| WL.nil <| WT.seq <| WT.region <| lq (q_fieldAddr Fld_81_0 rfl) rfl <| lq (q_load1 T1_3 rfl (fun w1 hw => hw.rgO (i := 1) rfl 0 1 [.int .i64 p0.Rule] rfl)) rfl <| lq (q_fieldAddr Fld_81_0 rfl) rfl <| lq (q_load1 T1_3 rfl (fun w1 hw => hw.rgO (i := 0) rfl 0 1 [.int .i64 p1.Rule] rfl)) rfl <| lq (q_eql rfl rfl) rfl <| lq (q_move rfl) rfl ?_
 obtain ⟨b1, hb_1, h⟩ := bind_some h
 refine WL.cutN 6 [(16, .bool b1), (4, .bool false)] ?_ (fun K => ?_)
 rotate_left
 ·refine WL.split (d := 10) rfl (fun c1 => ?_) (fun c1 => ?_)
  ·replace hb_1 := ite_t hb_1 c1
   refine WL.yes rfl rfl <| lq (q_fieldAddr Fld_81_1 rfl) rfl <| WL.yes rfl rfl <| lq (q_load1 T1_78 rfl (fun w1 hw => hw.rgO (i := 1) rfl 1 1 [pv0_0] rfl)) rfl <| WL.yes rfl rfl <| lq (q_fieldAddr Fld_81_1 rfl) rfl <| WL.yes rfl rfl <| lq (q_load1 T1_78 rfl (fun w1 hw => hw.rgO (i := 0) rfl 1 1 [pv1_0] rfl)) rfl <| WL.yes rfl rfl ?_
   obtain ⟨x1, hx1, hb_1⟩ := bind_some hb_1
   refine lp (p_call Fun_116 rfl (fun w1 hw => m_sl_Equal_Sint_int_ok hw.fro N p0.Ids p1.Ids ph0_0 ph1_0 hx1)) rfl <| WL.q (q_pick1 rfl rfl) rfl rfl rfl ?_
   cases hb_1
   exact WL.keep (by exact ⟨rfl, rfl, trivial⟩) K
  ·replace hb_1 := ite_f hb_1 c1
   refine WL.no rfl rfl rfl rfl <| WL.no rfl rfl rfl rfl <| WL.no rfl rfl rfl rfl <| WL.no rfl rfl rfl rfl <| WL.no rfl rfl rfl rfl <| WL.q (q_pick0 rfl rfl) rfl rfl rfl ?_
   cases hb_1
   exact WL.keep (by exact ⟨rfl, rfl, trivial⟩) K
 refine lq (q_assign rfl) rfl <| WL.nil ?_
 refine WT.ret Try.func42 (resOk.one rfl) (fun w1 hw => ?_)
 cases h
 exact post_of_St hw
theorem m_i_FiredHas_c1_ok {Φ : Hp} {w : World} (hΦ : In Φ w) (N : Nat) (p0 : TMatch) (c0 : TMatch) {pv0_0 : Value} {pG0_0 : List Nat} {pv0_1 : Value} {pG0_1 : List Nat} {pvc0_0 : Value} {pGc0_0 : List Nat} {pvc0_1 : Value} {pGc0_1 : List Nat} {pbc0 : Nat} (ph0_0 : RSl (RI .i64) 1 Φ pG0_0 pv0_0 p0.Ids) (ph0_1 : RSl RTBind 4 Φ pG0_1 pv0_1 p0.Binds) (phc0_0 : RSl (RI .i64) 1 Φ pGc0_0 pvc0_0 c0.Ids) (phc0_1 : RSl RTBind 4 Φ pGc0_1 pvc0_1 c0.Binds) (ppc0 : Φ pbc0 = some (.cells #[.int .i64 c0.Rule, pvc0_0, pvc0_1] 81 (0, 0))) {r : Bool} (h : m_i_FiredHas_c1 N p0 c0 = some r) :
  Calls Try.prog 118 [.agg [.int .i64 p0.Rule, pv0_0, pv0_1].toArray, .pointer (some ⟨pbc0, 0, none⟩)].toArray w (Post (.bool r) w) := by
 refine enter Try.func118 rfl Try.ntmps118 rfl (St.start0 hΦ) ?_
 unfold m_i_FiredHas_c1 at h
 refine WT.seq <| WT.region ?_
 refine ln (n_box (C := #[.int .i64 p0.Rule, pv0_0, pv0_1]) rfl rfl) rfl (fun b_1 => ?_)
 refine lq (q_assign rfl) rfl <| WL.nil <| WT.seq <| WT.region <| lq (q_loadN Tn_81 rfl (fun w1 hw => hw.rgO (i := 0) rfl 0 3 [.int .i64 p0.Rule, pv0_0, pv0_1] rfl) rfl) rfl <| lq (q_loadN Tn_81 rfl (fun w1 hw => ((rg_cells ppc0).of_eq 0 3 rfl rfl : rg _ _ _ [.int .i64 c0.Rule, pvc0_0, pvc0_1]).rangeAt hw.fro) rfl) rfl ?_
 obtain ⟨x1, hx1, h⟩ := bind_some h
 refine lp (p_call Fun_42 rfl (fun w1 hw => m_i_SameMatch_ok hw.fro N p0 c0 ph0_0 ph0_1 phc0_0 phc0_1 hx1)) rfl <| lq (q_assign rfl) rfl <| WL.nil ?_
 refine WT.ret Try.func118 (resOk.one rfl) (fun w1 hw => ?_)
 cases h
 exact post_of_St hw
theorem m_i_FiredHas_ok {Φ : Hp} {w : World} (hΦ : In Φ w) (N : Nat) (p0 : (List TMatch)) (p1 : TMatch) {pv0 : Value} {pG0 : List Nat} {pv1_0 : Value} {pG1_0 : List Nat} {pv1_1 : Value} {pG1_1 : List Nat} (ph0 : RSl RTMatch 3 Φ pG0 pv0 p0) (ph1_0 : RSl (RI .i64) 1 Φ pG1_0 pv1_0 p1.Ids) (ph1_1 : RSl RTBind 4 Φ pG1_1 pv1_1 p1.Binds) {r : Bool} (h : m_i_FiredHas N p0 p1 = some r) :
  Calls Try.prog 43 [pv0, .agg [.int .i64 p1.Rule, pv1_0, pv1_1].toArray].toArray w (Post (.bool r) w) := by
 refine enter Try.func43 rfl Try.ntmps43 rfl (St.start0 hΦ) ?_
 unfold m_i_FiredHas at h
 refine WT.seq <| WT.region ?_
 refine ln (n_box (C := #[.int .i64 p1.Rule, pv1_0, pv1_1]) rfl rfl) rfl (fun b_1 => ?_)
 refine lq (q_assign rfl) rfl <| WL.nil <| WT.seq <| WT.region <| lq (q_move rfl) rfl ?_
 refine WL.frz (js := [0]) (R := []) rfl (fun Φ_1 fr1 k1 => ?_)
 replace ph1_0 := ph1_0.frame RI.lasts fr1 (Dj.empty _)
 replace ph1_1 := ph1_1.frame RTBind.lasts fr1 (Dj.empty _)
 replace ph0 := ph0.frame RTMatch.lasts fr1 (Dj.empty _)
 refine lq (q_makeFunc rfl) rfl ?_
 obtain ⟨x1, hx1, h⟩ := bind_some h
 refine lp (p_call Fun_117 rfl (fun w1 hw => m_sl_ContainsFunc_Si_Match_i_Match_ok hw.fro N p0 (fun a0 => m_i_FiredHas_c1 N a0 p1) ph0 Fun_118 (fun hle' hin a0 => fun f0 f1 => fun hr => m_i_FiredHas_c1_ok hin N a0 p1 f0 f1 (ph1_0.frame RI.lasts hle' (Dj.empty _)) (ph1_1.frame RTBind.lasts hle' (Dj.empty _)) (hle' _ _ (by simp) k1) hr) hx1)) rfl <| lq (q_assign rfl) rfl <| WL.nil ?_
 refine WT.ret Try.func43 (resOk.one rfl) (fun w1 hw => ?_)
 cases h
 exact post_of_St hw
theorem m_i_hasRule_ok {Φ : Hp} {w : World} (hΦ : In Φ w) (N : Nat) (p0 : TDef) (p1 : TMatch) {pv0_0 : Value} {pG0_0 : List Nat} {pv1_0 : Value} {pG1_0 : List Nat} {pv1_1 : Value} {pG1_1 : List Nat} (ph0_0 : RSl RTRule 5 Φ pG0_0 pv0_0 p0.Rules) (ph1_0 : RSl (RI .i64) 1 Φ pG1_0 pv1_0 p1.Ids) (ph1_1 : RSl RTBind 4 Φ pG1_1 pv1_1 p1.Binds) {r : Bool} (h : m_i_hasRule N p0 p1 = some r) :
  Calls Try.prog 111 [.agg [.string p0.Name, pv0_0].toArray, .agg [.int .i64 p1.Rule, pv1_0, pv1_1].toArray].toArray w (Post (.bool r) w) := by
 refine enter Try.func111 rfl Try.ntmps111 rfl (St.start0 hΦ) ?_
 unfold m_i_hasRule at h
 refine WT.seq <| WT.region ?_
 refine ln (n_box (C := #[.string p0.Name, pv0_0]) rfl rfl) rfl (fun b_1 => ?_)
 refine ln (n_box (C := #[.int .i64 p1.Rule, pv1_0, pv1_1]) rfl rfl) rfl (fun b_2 => ?_)
 refine lq (q_assign rfl) rfl <| WL.nil <| WT.seq <| WT.region <| lq (q_fieldAddr Fld_81_0 rfl) rfl <| lq (q_load1 T1_3 rfl (fun w1 hw => hw.rgO (i := 0) rfl 0 1 [.int .i64 p1.Rule] rfl)) rfl <| lq (q_geq rfl rfl) rfl <| lq (q_move rfl) rfl ?_
 obtain ⟨b1, hb_1, h⟩ := bind_some h
 refine WL.cutN 7 [(15, .bool b1), (4, .bool false)] ?_ (fun K => ?_)
 rotate_left
 ·refine WL.split (d := 8) rfl (fun c1 => ?_) (fun c1 => ?_)
  ·replace hb_1 := ite_t hb_1 c1
   refine WL.yes rfl rfl <| lq (q_fieldAddr Fld_81_0 rfl) rfl <| WL.yes rfl rfl <| lq (q_load1 T1_3 rfl (fun w1 hw => hw.rgO (i := 0) rfl 0 1 [.int .i64 p1.Rule] rfl)) rfl <| WL.yes rfl rfl <| lq (q_fieldAddr Fld_29_1 rfl) rfl <| WL.yes rfl rfl <| lq (q_load1 T1_27 rfl (fun w1 hw => hw.rgO (i := 1) rfl 1 1 [pv0_0] rfl)) rfl <| WL.yes rfl rfl <| lq (q_lenR Sl_27 rfl rfl ph0_0) rfl <| WL.yes rfl rfl <| lq (q_lss rfl rfl) rfl <| WL.q (q_pick1 rfl rfl) rfl rfl rfl ?_
   cases hb_1
   exact WL.keep (by exact ⟨rfl, rfl, trivial⟩) K
  ·replace hb_1 := ite_f hb_1 c1
   refine WL.no rfl rfl rfl rfl <| WL.no rfl rfl rfl rfl <| WL.no rfl rfl rfl rfl <| WL.no rfl rfl rfl rfl <| WL.no rfl rfl rfl rfl <| WL.no rfl rfl rfl rfl <| WL.q (q_pick0 rfl rfl) rfl rfl rfl ?_
   cases hb_1
   exact WL.keep (by exact ⟨rfl, rfl, trivial⟩) K
 refine lq (q_assign rfl) rfl <| WL.nil ?_
 refine WT.ret Try.func111 (resOk.one rfl) (fun w1 hw => ?_)
 cases h
 exact post_of_St hw
theorem m_cmp_Or_int_ok {Φ : Hp} {w : World} (hΦ : In Φ w) (N : Nat) (p0 : (List Int)) {pv0 : Value} {pG0 : List Nat} (ph0 : RSl (RI .i64) 1 Φ pG0 pv0 p0) {r : Int} (h : m_cmp_Or_int N p0 = some r) :
  Calls Try.prog 249 [pv0].toArray w (Post (.int .i64 r) w) := by
 refine enter Try.func249 rfl Try.ntmps249 rfl (St.start0 hΦ) ?_
 generalize hb0 : (⟨w, [], Φ⟩ : Base) = w0
 unfold m_cmp_Or_int at h
 refine WT.seq <| WT.region <| lq (q_assign rfl) rfl <| WL.nil <| WT.seq <| WT.region <| lq (q_assign rfl) rfl <| WL.nil <| WT.seq <| WT.seq <| WT.region <| lq (q_move rfl) rfl <| lq (q_lenR Sl_78 rfl rfl ph0) rfl <| lq (q_move rfl) rfl <| WL.nil <| WT.block <| WT.loop <| WT.mono (l' := [(3, .int .i64 0), (6, pv0), (7, .int .i64 (p0.length : Int)), (8, .int .i64 0)]) (S' := St w0 Φ [] []) ⟨rfl, rfl, rfl, rfl, trivial⟩ (fun w1 hw => (hw.sel (js := []) rfl).selO (js := []) rfl) ?_
 refine loop_ind (σ := Int) (fun s => [(3, .int .i64 0), (6, pv0), (7, .int .i64 (p0.length : Int)), (8, .int .i64 s)]) (fun s => St w0 Φ [] []) (fun m s => m_cmp_Or_int_l1 N p0 m s = some r) (fun s hm => none_ne (show (none : Option (Int)) = some r from hm)) (fun n1 ih1 s hm => ?_) N (0) h
 revert hm; revert s; intro s1 hm
 have h : m_cmp_Or_int_l1 N p0 (n1 + 1) s1 = some r := hm
 show WT _ _ [(3, .int .i64 0), (6, pv0), (7, .int .i64 (p0.length : Int)), (8, .int .i64 s1)] (St w0 Φ [] [])
 unfold m_cmp_Or_int_l1 at h
 refine WT.seq <| WT.region <| lq (q_lss rfl rfl) rfl <| WL.nil <| WT.seq ?_
 refine WT.cond rfl (fun c1 => ?_) (fun c1 => ?_)
 ·replace h := ite_t h c1
  refine WT.skip <| WT.seq <| WT.block <| WT.seq <| WT.region ?_
  obtain ⟨x1, hx1, h⟩ := bind_some h
  obtain ⟨cs1, F1, -, g1, hb1, hs1, r1⟩ := ph0.el (idx_some hx1).2.2
  obtain ⟨rfl, -⟩ := r1
  refine lq (q_indexAddr Sl_78 rfl rfl ph0 hx1) rfl <| lq (q_load1 T1_3 rfl (fun w1 hw => (g1.of_eq 0 1 rfl rfl : rg _ _ _ [.int .i64 x1]).rangeAt hw.fro)) rfl <| lq (q_assign rfl) rfl <| WL.nil <| WT.seq <| WT.region <| lq (q_move rfl) rfl <| lq (q_move rfl) rfl <| lq (q_neq rfl rfl) rfl <| WL.nil ?_
  refine WT.cond rfl (fun c2 => ?_) (fun c2 => ?_)
  ·replace h := ite_t h c2
   refine WT.seq <| WT.region <| lq (q_move rfl) rfl <| lq (q_assign rfl) rfl <| WL.nil ?_
   refine WT.ret Try.func249 (resOk.one rfl) (fun w1 hw => ?_)
   subst hb0
   cases h
   exact post_of_St hw
  replace h := ite_f h c2
  refine WT.skip <| WT.inBlock <| WT.region <| lq (q_add rfl rfl) rfl <| lq (q_move rfl) rfl <| WL.nil ?_
  refine WT.inLoop (WT.mono (l' := [(3, .int .i64 0), (6, pv0), (7, .int .i64 (p0.length : Int)), (8, .int .i64 (IntKind.i64.wrap (s1 + 1)))]) (S' := St w0 Φ [] []) ⟨rfl, rfl, rfl, rfl, trivial⟩ (fun w1 hw => (hw.sel (js := []) rfl).selO (js := []) rfl) ?_)
  exact ih1 (IntKind.i64.wrap (s1 + 1)) h
 replace h := ite_f h c1
 refine WT.exit rfl <| WT.seq <| WT.region <| lq (q_move rfl) rfl <| lq (q_assign rfl) rfl <| WL.nil ?_
 refine WT.ret Try.func249 (resOk.one rfl) (fun w1 hw => ?_)
 subst hb0
 cases h
 exact post_of_St hw
theorem m_cmp_isNaN_int_ok {Φ : Hp} {w : World} (hΦ : In Φ w) (N : Nat) (p0 : Int)   {r : Bool} (h : m_cmp_isNaN_int N p0 = some r) :
  Calls Try.prog 275 [.int .i64 p0].toArray w (Post (.bool r) w) := by
 refine enter Try.func275 rfl Try.ntmps275 rfl (St.start0 hΦ) ?_
 unfold m_cmp_isNaN_int at h
 refine WT.seq <| WT.region <| lq (q_assign rfl) rfl <| WL.nil <| WT.seq <| WT.region <| lq (q_move rfl) rfl <| lq (q_move rfl) rfl <| lq (q_neq rfl rfl) rfl <| lq (q_assign rfl) rfl <| WL.nil ?_
 refine WT.ret Try.func275 (resOk.one rfl) (fun w1 hw => ?_)
 cases h
 exact post_of_St hw
theorem m_cmp_Compare_int_ok {Φ : Hp} {w : World} (hΦ : In Φ w) (N : Nat) (p0 : Int) (p1 : Int)   {r : Int} (h : m_cmp_Compare_int N p0 p1 = some r) :
  Calls Try.prog 250 [.int .i64 p0, .int .i64 p1].toArray w (Post (.int .i64 r) w) := by
 refine enter Try.func250 rfl Try.ntmps250 rfl (St.start0 hΦ) ?_
 unfold m_cmp_Compare_int at h
 refine WT.seq <| WT.region <| lq (q_assign rfl) rfl <| WL.nil <| WT.seq <| WT.region <| lq (q_move rfl) rfl ?_
 obtain ⟨x1, hx1, h⟩ := bind_some h
 refine lp (p_call Fun_275 rfl (fun w1 hw => m_cmp_isNaN_int_ok hw.fro N p0 hx1)) rfl <| lq (q_assign rfl) rfl <| WL.nil <| WT.seq <| WT.region <| lq (q_move rfl) rfl ?_
 obtain ⟨x2, hx2, h⟩ := bind_some h
 refine lp (p_call Fun_275 rfl (fun w1 hw => m_cmp_isNaN_int_ok hw.fro N p1 hx2)) rfl <| lq (q_assign rfl) rfl <| WL.nil <| WT.seq <| WT.seq <| WT.region <| lq (q_move rfl) rfl <| WL.nil ?_
 refine WT.cond rfl (fun c1 => ?_) (fun c1 => ?_)
 ·replace h := ite_t h c1
  refine WT.seq <| WT.seq <| WT.region <| lq (q_move rfl) rfl <| WL.nil ?_
  refine WT.cond rfl (fun c2 => ?_) (fun c2 => ?_)
  ·replace h := ite_t h c2
   refine WT.seq <| WT.region <| lq (q_assign rfl) rfl <| WL.nil ?_
   refine WT.ret Try.func250 (resOk.one rfl) (fun w1 hw => ?_)
   cases h
   exact post_of_St hw
  replace h := ite_f h c2
  refine WT.skip <| WT.seq <| WT.region <| lq (q_assign rfl) rfl <| WL.nil ?_
  refine WT.ret Try.func250 (resOk.one rfl) (fun w1 hw => ?_)
  cases h
  exact post_of_St hw
 replace h := ite_f h c1
 refine WT.skip <| WT.seq <| WT.seq <| WT.region <| lq (q_move rfl) rfl <| WL.nil ?_
 refine WT.cond rfl (fun c3 => ?_) (fun c3 => ?_)
 ·replace h := ite_t h c3
  refine WT.seq <| WT.region <| lq (q_assign rfl) rfl <| WL.nil ?_
  refine WT.ret Try.func250 (resOk.one rfl) (fun w1 hw => ?_)
  cases h
  exact post_of_St hw
 replace h := ite_f h c3
 refine WT.skip <| WT.seq <| WT.seq <| WT.region <| lq (q_move rfl) rfl <| lq (q_move rfl) rfl <| lq (q_lss rfl rfl) rfl <| WL.nil ?_
 refine WT.cond rfl (fun c4 => ?_) (fun c4 => ?_)
 ·replace h := ite_t h c4
  refine WT.seq <| WT.region <| lq (q_assign rfl) rfl <| WL.nil ?_
  refine WT.ret Try.func250 (resOk.one rfl) (fun w1 hw => ?_)
  cases h
  exact post_of_St hw
 replace h := ite_f h c4
 refine WT.skip <| WT.seq <| WT.seq <| WT.region <| lq (q_move rfl) rfl <| lq (q_move rfl) rfl <| lq (q_gtr rfl rfl) rfl <| WL.nil ?_
 refine WT.cond rfl (fun c5 => ?_) (fun c5 => ?_)
 ·replace h := ite_t h c5
  refine WT.seq <| WT.region <| lq (q_assign rfl) rfl <| WL.nil ?_
  refine WT.ret Try.func250 (resOk.one rfl) (fun w1 hw => ?_)
  cases h
  exact post_of_St hw
 replace h := ite_f h c5
 refine WT.skip <| WT.seq <| WT.region <| lq (q_assign rfl) rfl <| WL.nil ?_
 refine WT.ret Try.func250 (resOk.one rfl) (fun w1 hw => ?_)
 cases h
 exact post_of_St hw
theorem m_sl_Compare_Sint_int_ok {Φ : Hp} {w : World} (hΦ : In Φ w) (N : Nat) (p0 : (List Int)) (p1 : (List Int)) {pv0 : Value} {pG0 : List Nat} {pv1 : Value} {pG1 : List Nat} (ph0 : RSl (RI .i64) 1 Φ pG0 pv0 p0) (ph1 : RSl (RI .i64) 1 Φ pG1 pv1 p1) {r : Int} (h : m_sl_Compare_Sint_int N p0 p1 = some r) :
  Calls Try.prog 251 [pv0, pv1].toArray w (Post (.int .i64 r) w) := by
 refine enter Try.func251 rfl Try.ntmps251 rfl (St.start0 hΦ) ?_
 generalize hb0 : (⟨w, [], Φ⟩ : Base) = w0
 unfold m_sl_Compare_Sint_int at h
 refine WT.seq <| WT.region <| lq (q_assign rfl) rfl <| WL.nil <| WT.seq <| WT.seq <| WT.region <| lq (q_move rfl) rfl <| lq (q_lenR Sl_78 rfl rfl ph0) rfl <| lq (q_move rfl) rfl <| WL.nil <| WT.block <| WT.loop <| WT.mono (l' := [(0, pv0), (1, pv1), (9, pv0), (10, .int .i64 (p0.length : Int)), (11, .int .i64 0)]) (S' := St w0 Φ [] []) ⟨rfl, rfl, rfl, rfl, rfl, trivial⟩ (fun w1 hw => (hw.sel (js := []) rfl).selO (js := []) rfl) ?_
 refine loop_ind (σ := Int) (fun s => [(0, pv0), (1, pv1), (9, pv0), (10, .int .i64 (p0.length : Int)), (11, .int .i64 s)]) (fun s => St w0 Φ [] []) (fun m s => m_sl_Compare_Sint_int_l1 N p0 p1 m s = some r) (fun s hm => none_ne (show (none : Option (Int)) = some r from hm)) (fun n1 ih1 s hm => ?_) N (0) h
 revert hm; revert s; intro s1 hm
 have h : m_sl_Compare_Sint_int_l1 N p0 p1 (n1 + 1) s1 = some r := hm
 show WT _ _ [(0, pv0), (1, pv1), (9, pv0), (10, .int .i64 (p0.length : Int)), (11, .int .i64 s1)] (St w0 Φ [] [])
 unfold m_sl_Compare_Sint_int_l1 at h
 refine WT.seq <| WT.region <| lq (q_lss rfl rfl) rfl <| WL.nil <| WT.seq ?_
 refine WT.cond rfl (fun c1 => ?_) (fun c1 => ?_)
 ·replace h := ite_t h c1
  refine WT.skip <| WT.seq <| WT.block <| WT.seq <| WT.region <| lq (q_move rfl) rfl ?_
  obtain ⟨x1, hx1, h⟩ := bind_some h
  obtain ⟨cs1, F1, -, g1, hb1, hs1, r1⟩ := ph0.el (idx_some hx1).2.2
  obtain ⟨rfl, -⟩ := r1
  refine lq (q_indexAddr Sl_78 rfl rfl ph0 hx1) rfl <| lq (q_load1 T1_3 rfl (fun w1 hw => (g1.of_eq 0 1 rfl rfl : rg _ _ _ [.int .i64 x1]).rangeAt hw.fro)) rfl <| lq (q_assign rfl) rfl <| lq (q_assign rfl) rfl <| WL.nil <| WT.seq <| WT.seq <| WT.region <| lq (q_move rfl) rfl <| lq (q_move rfl) rfl <| lq (q_lenR Sl_78 rfl rfl ph1) rfl <| lq (q_geq rfl rfl) rfl <| WL.nil ?_
  refine WT.cond rfl (fun c2 => ?_) (fun c2 => ?_)
  ·replace h := ite_t h c2
   refine WT.seq <| WT.region <| lq (q_assign rfl) rfl <| WL.nil ?_
   refine WT.ret Try.func251 (resOk.one rfl) (fun w1 hw => ?_)
   subst hb0
   cases h
   exact post_of_St hw
  replace h := ite_f h c2
  refine WT.skip <| WT.seq <| WT.region <| lq (q_move rfl) rfl <| lq (q_move rfl) rfl ?_
  obtain ⟨x2, hx2, h⟩ := bind_some h
  obtain ⟨cs2, F2, -, g2, hb2, hs2, r2⟩ := ph1.el (idx_some hx2).2.2
  obtain ⟨rfl, -⟩ := r2
  refine lq (q_indexAddr Sl_78 rfl rfl ph1 hx2) rfl <| lq (q_load1 T1_3 rfl (fun w1 hw => (g2.of_eq 0 1 rfl rfl : rg _ _ _ [.int .i64 x2]).rangeAt hw.fro)) rfl <| lq (q_assign rfl) rfl <| WL.nil <| WT.seq <| WT.region <| lq (q_move rfl) rfl <| lq (q_move rfl) rfl ?_
  obtain ⟨x3, hx3, h⟩ := bind_some h
  refine lp (p_call Fun_250 rfl (fun w1 hw => m_cmp_Compare_int_ok hw.fro N x1 x2 hx3)) rfl <| lq (q_assign rfl) rfl <| WL.nil <| WT.seq <| WT.region <| lq (q_move rfl) rfl <| lq (q_neq rfl rfl) rfl <| WL.nil ?_
  refine WT.cond rfl (fun c3 => ?_) (fun c3 => ?_)
  ·replace h := ite_t h c3
   refine WT.seq <| WT.region <| lq (q_move rfl) rfl <| lq (q_assign rfl) rfl <| WL.nil ?_
   refine WT.ret Try.func251 (resOk.one rfl) (fun w1 hw => ?_)
   subst hb0
   cases h
   exact post_of_St hw
  replace h := ite_f h c3
  refine WT.skip <| WT.inBlock <| WT.region <| lq (q_add rfl rfl) rfl <| lq (q_move rfl) rfl <| WL.nil ?_
  refine WT.inLoop (WT.mono (l' := [(0, pv0), (1, pv1), (9, pv0), (10, .int .i64 (p0.length : Int)), (11, .int .i64 (IntKind.i64.wrap (s1 + 1)))]) (S' := St w0 Φ [] []) ⟨rfl, rfl, rfl, rfl, rfl, trivial⟩ (fun w1 hw => (hw.sel (js := []) rfl).selO (js := []) rfl) ?_)
  exact ih1 (IntKind.i64.wrap (s1 + 1)) h
 replace h := ite_f h c1
 refine WT.exit rfl <| WT.seq <| WT.seq <| WT.region <| lq (q_move rfl) rfl <| lq (q_lenR Sl_78 rfl rfl ph0) rfl <| lq (q_move rfl) rfl <| lq (q_lenR Sl_78 rfl rfl ph1) rfl <| lq (q_lss rfl rfl) rfl <| WL.nil ?_
 refine WT.cond rfl (fun c4 => ?_) (fun c4 => ?_)
 ·replace h := ite_t h c4
  refine WT.seq <| WT.region <| lq (q_assign rfl) rfl <| WL.nil ?_
  refine WT.ret Try.func251 (resOk.one rfl) (fun w1 hw => ?_)
  subst hb0
  cases h
  exact post_of_St hw
 replace h := ite_f h c4
 refine WT.skip <| WT.seq <| WT.region <| lq (q_assign rfl) rfl <| WL.nil ?_
 refine WT.ret Try.func251 (resOk.one rfl) (fun w1 hw => ?_)
 subst hb0
 cases h
 exact post_of_St hw
theorem m_i_compareMatches_ok {Φ : Hp} {w : World} (hΦ : In Φ w) (N : Nat) (p0 : TMatch) (p1 : TMatch) {pv0_0 : Value} {pG0_0 : List Nat} {pv0_1 : Value} {pG0_1 : List Nat} {pv1_0 : Value} {pG1_0 : List Nat} {pv1_1 : Value} {pG1_1 : List Nat} (ph0_0 : RSl (RI .i64) 1 Φ pG0_0 pv0_0 p0.Ids) (ph0_1 : RSl RTBind 4 Φ pG0_1 pv0_1 p0.Binds) (ph1_0 : RSl (RI .i64) 1 Φ pG1_0 pv1_0 p1.Ids) (ph1_1 : RSl RTBind 4 Φ pG1_1 pv1_1 p1.Binds) {r : Int} (h : m_i_compareMatches N p0 p1 = some r) :
  Calls Try.prog 197 [.agg [.int .i64 p0.Rule, pv0_0, pv0_1].toArray, .agg [.int .i64 p1.Rule, pv1_0, pv1_1].toArray].toArray w (Post (.int .i64 r) w) := by
 refine enter Try.func197 rfl Try.ntmps197 rfl (St.start0 hΦ) ?_
 unfold m_i_compareMatches at h
 refine WT.seq <| WT.region ?_
 refine ln (n_box (C := #[.int .i64 p0.Rule, pv0_0, pv0_1]) rfl rfl) rfl (fun b_1 => ?_)
 refine ln (n_box (C := #[.int .i64 p1.Rule, pv1_0, pv1_1]) rfl rfl) rfl (fun b_2 => ?_)
 refine lq (q_assign rfl) rfl <| WL.nil <| WT.seq <| WT.mix (Kn Φ [] [(b_2, .cells #[.int .i64 p1.Rule, pv1_0, pv1_1] 81 (0, 0)), (b_1, .cells #[.int .i64 p0.Rule, pv0_0, pv0_1] 81 (0, 0))]) (fun _ => true) mixed (fun _ h => h.drew) <| mq 0 rfl (by kernel_rfl) (fun w1 hw => Kn.of (fun k hk _ _ => by simp at hk) (AllIn.mem ⟨List.mem_of_getElem? (i := 0) rfl, List.mem_of_getElem? (i := 1) rfl, trivial⟩) hw) (q_fieldAddr Fld_81_0 rfl) rfl ?_
 refine mq 1 rfl (by kernel_rfl) (fun w1 hw => Kn.of (fun k hk _ _ => by simp at hk) (AllIn.mem ⟨List.mem_of_getElem? (i := 0) rfl, List.mem_of_getElem? (i := 1) rfl, trivial⟩) hw) (q_load1 T1_3 rfl (fun w1 hw => hw.rgO (i := 1) rfl 0 1 [.int .i64 p0.Rule] rfl)) rfl <| mq 2 rfl (by kernel_rfl) (fun w1 hw => Kn.of (fun k hk _ _ => by simp at hk) (AllIn.mem ⟨List.mem_of_getElem? (i := 0) rfl, List.mem_of_getElem? (i := 1) rfl, trivial⟩) hw) (q_fieldAddr Fld_81_0 rfl) rfl ?_
 refine mq 3 rfl (by kernel_rfl) (fun w1 hw => Kn.of (fun k hk _ _ => by simp at hk) (AllIn.mem ⟨List.mem_of_getElem? (i := 0) rfl, List.mem_of_getElem? (i := 1) rfl, trivial⟩) hw) (q_load1 T1_3 rfl (fun w1 hw => hw.rgO (i := 0) rfl 0 1 [.int .i64 p1.Rule] rfl)) rfl <| mq 5 rfl (by kernel_rfl) (fun w1 hw => Kn.of (fun k hk _ _ => by simp at hk) (AllIn.mem ⟨List.mem_of_getElem? (i := 0) rfl, List.mem_of_getElem? (i := 1) rfl, trivial⟩) hw) (q_fieldAddr Fld_81_1 rfl) rfl ?_
 refine mq 6 rfl (by kernel_rfl) (fun w1 hw => Kn.of (fun k hk _ _ => by simp at hk) (AllIn.mem ⟨List.mem_of_getElem? (i := 0) rfl, List.mem_of_getElem? (i := 1) rfl, trivial⟩) hw) (q_load1 T1_78 rfl (fun w1 hw => hw.rgO (i := 1) rfl 1 1 [pv0_0] rfl)) rfl <| mq 7 rfl (by kernel_rfl) (fun w1 hw => Kn.of (fun k hk _ _ => by simp at hk) (AllIn.mem ⟨List.mem_of_getElem? (i := 0) rfl, List.mem_of_getElem? (i := 1) rfl, trivial⟩) hw) (q_lenR Sl_78 rfl rfl ph0_0) rfl ?_
 refine mq 8 rfl (by kernel_rfl) (fun w1 hw => Kn.of (fun k hk _ _ => by simp at hk) (AllIn.mem ⟨List.mem_of_getElem? (i := 0) rfl, List.mem_of_getElem? (i := 1) rfl, trivial⟩) hw) (q_fieldAddr Fld_81_1 rfl) rfl <| mq 9 rfl (by kernel_rfl) (fun w1 hw => Kn.of (fun k hk _ _ => by simp at hk) (AllIn.mem ⟨List.mem_of_getElem? (i := 0) rfl, List.mem_of_getElem? (i := 1) rfl, trivial⟩) hw) (q_load1 T1_78 rfl (fun w1 hw => hw.rgO (i := 0) rfl 1 1 [pv1_0] rfl)) rfl ?_
 refine mq 10 rfl (by kernel_rfl) (fun w1 hw => Kn.of (fun k hk _ _ => by simp at hk) (AllIn.mem ⟨List.mem_of_getElem? (i := 0) rfl, List.mem_of_getElem? (i := 1) rfl, trivial⟩) hw) (q_lenR Sl_78 rfl rfl ph1_0) rfl ?_
 obtain ⟨x1, hx1, h⟩ := bind_some h
 refine WM.one 4 (by kernel_rfl) (mp rfl (fun _ w1 hw => Kn.of (fun k hk _ _ => by simp at hk) (AllIn.mem ⟨List.mem_of_getElem? (i := 0) rfl, List.mem_of_getElem? (i := 1) rfl, trivial⟩) hw) (p_call Fun_250 rfl (fun w1 hw => m_cmp_Compare_int_ok hw.fro N p0.Rule p1.Rule hx1)) rfl ?_)
 obtain ⟨x2, hx2, h⟩ := bind_some h
 refine WM.one 11 (by kernel_rfl) (mp rfl (fun _ w1 hw => Kn.of (fun k hk _ _ => by simp at hk) (AllIn.mem ⟨List.mem_of_getElem? (i := 0) rfl, List.mem_of_getElem? (i := 1) rfl, trivial⟩) hw) (p_call Fun_250 rfl (fun w1 hw => m_cmp_Compare_int_ok hw.fro N (p0.Ids.length : Int) (p1.Ids.length : Int) hx2)) rfl ?_)
 have rc1 : RC (RI .i64) 1 Φ ([[], []] : List (List Nat)) [.int .i64 x1, .int .i64 x2] ([x1, x2] : List Int) := RC.cons (c := [.int .i64 x1]) (cells := [.int .i64 x2]) ⟨rfl, rfl⟩ rfl (RC.cons (c := [.int .i64 x2]) (cells := []) ⟨rfl, rfl⟩ rfl (RC.nil _ _ _))
 refine WM.one 12 (by kernel_rfl) (me rfl (fun _ v Φx D w1 hq hw => Kn.of (fun k hk _ _ => by simp at hk) (AllIn.mem ⟨List.mem_of_getElem? (i := 0) rfl, List.mem_of_getElem? (i := 1) rfl, trivial⟩) hw) (e_lit (vs := [(0, .int .i64 x1), (1, .int .i64 x2)]) (C := #[.int .i64 x1, .int .i64 x2]) RI.lasts Sl_78 Zr_3 rfl rfl rfl rfl (fill_made MC_3_2 (fill_cons (cells := [.int .i64 0, .int .i64 0]) (c := [.int .i64 x1]) (C' := [.int .i64 x1, .int .i64 0]) rfl rfl rfl rfl rfl (fill_cons (cells := [.int .i64 x1, .int .i64 0]) (c := [.int .i64 x2]) (C' := [.int .i64 x1, .int .i64 x2]) rfl rfl rfl rfl rfl (fill_nil)))) rfl rc1 rfl (by simpa using Kw.nil)) rfl (fun v1 Φ_1 D1 q1 => ?_))
 obtain ⟨fr1, h1⟩ := q1
 replace h1 : OSl (RI .i64) 3 1 Φ_1 [] v1 ([x1, x2] : List Int) := by simpa using h1
 replace ph0_0 := ph0_0.frame RI.lasts fr1 (Dj.empty _)
 replace ph0_1 := ph0_1.frame RTBind.lasts fr1 (Dj.empty _)
 replace ph1_0 := ph1_0.frame RI.lasts fr1 (Dj.empty _)
 replace ph1_1 := ph1_1.frame RTBind.lasts fr1 (Dj.empty _)
 obtain ⟨x3, hx3, h⟩ := bind_some h
 refine WM.one 13 (by kernel_rfl) (mp rfl (fun _ w1 hw => Kn.of (fun k hk _ _ => by simp at hk) (AllIn.mem ⟨List.mem_of_getElem? (i := 0) rfl, List.mem_of_getElem? (i := 1) rfl, trivial⟩) hw) (p_call Fun_249 rfl (fun w1 hw => m_cmp_Or_int_ok hw.fro N ([x1, x2] : List Int) h1.rsl hx3)) rfl ?_)
 refine mq 14 rfl (by kernel_rfl) (fun w1 hw => Kn.of (fun k hk _ _ => by simp at hk) (AllIn.mem ⟨List.mem_of_getElem? (i := 0) rfl, List.mem_of_getElem? (i := 1) rfl, trivial⟩) hw) (q_assign rfl) rfl <| WM.nil (by kernel_rfl) <| WT.seq <| WT.seq <| WT.region <| lq (q_move rfl) rfl <| lq (q_eql rfl rfl) rfl <| WL.nil ?_
 refine WT.cond rfl (fun c1 => ?_) (fun c1 => ?_)
 ·replace h := ite_t h c1
  refine WT.region <| lq (q_fieldAddr Fld_81_1 rfl) rfl <| lq (q_load1 T1_78 rfl (fun w1 hw => hw.rgO (i := 1) rfl 1 1 [pv0_0] rfl)) rfl <| lq (q_fieldAddr Fld_81_1 rfl) rfl <| lq (q_load1 T1_78 rfl (fun w1 hw => hw.rgO (i := 0) rfl 1 1 [pv1_0] rfl)) rfl ?_
  obtain ⟨x4, hx4, h⟩ := bind_some h
  refine lp (p_call Fun_251 rfl (fun w1 hw => m_sl_Compare_Sint_int_ok hw.fro N p0.Ids p1.Ids ph0_0 ph1_0 hx4)) rfl <| lq (q_assign rfl) rfl <| WL.nil <| WT.seq <| WT.region <| lq (q_move rfl) rfl <| lq (q_assign rfl) rfl <| WL.nil ?_
  refine WT.ret Try.func197 (resOk.one rfl) (fun w1 hw => ?_)
  cases h
  exact post_of_St hw
 replace h := ite_f h c1
 refine WT.skip <| WT.seq <| WT.region <| lq (q_move rfl) rfl <| lq (q_assign rfl) rfl <| WL.nil ?_
 refine WT.ret Try.func197 (resOk.one rfl) (fun w1 hw => ?_)
 cases h
 exact post_of_St hw
theorem m_i_LessMatch_ok {Φ : Hp} {w : World} (hΦ : In Φ w) (N : Nat) (p0 : TMatch) (p1 : TMatch) {pv0_0 : Value} {pG0_0 : List Nat} {pv0_1 : Value} {pG0_1 : List Nat} {pv1_0 : Value} {pG1_0 : List Nat} {pv1_1 : Value} {pG1_1 : List Nat} (ph0_0 : RSl (RI .i64) 1 Φ pG0_0 pv0_0 p0.Ids) (ph0_1 : RSl RTBind 4 Φ pG0_1 pv0_1 p0.Binds) (ph1_0 : RSl (RI .i64) 1 Φ pG1_0 pv1_0 p1.Ids) (ph1_1 : RSl RTBind 4 Φ pG1_1 pv1_1 p1.Binds) {r : Bool} (h : m_i_LessMatch N p0 p1 = some r) :
  Calls Try.prog 119 [.agg [.int .i64 p0.Rule, pv0_0, pv0_1].toArray, .agg [.int .i64 p1.Rule, pv1_0, pv1_1].toArray].toArray w (Post (.bool r) w) := by
 refine enter Try.func119 rfl Try.ntmps119 rfl (St.start0 hΦ) ?_
 unfold m_i_LessMatch at h
 refine WT.seq <| WT.region ?_
 refine ln (n_box (C := #[.int .i64 p0.Rule, pv0_0, pv0_1]) rfl rfl) rfl (fun b_1 => ?_)
 refine ln (n_box (C := #[.int .i64 p1.Rule, pv1_0, pv1_1]) rfl rfl) rfl (fun b_2 => ?_)
 refine lq (q_assign rfl) rfl <| WL.nil <| WT.seq <| WT.region <| lq (q_loadN Tn_81 rfl (fun w1 hw => hw.rgO (i := 1) rfl 0 3 [.int .i64 p0.Rule, pv0_0, pv0_1] rfl) rfl) rfl <| lq (q_loadN Tn_81 rfl (fun w1 hw => hw.rgO (i := 0) rfl 0 3 [.int .i64 p1.Rule, pv1_0, pv1_1] rfl) rfl) rfl ?_
 obtain ⟨x1, hx1, h⟩ := bind_some h
 refine lp (p_call Fun_197 rfl (fun w1 hw => m_i_compareMatches_ok hw.fro N p0 p1 ph0_0 ph0_1 ph1_0 ph1_1 hx1)) rfl <| lq (q_lss rfl rfl) rfl <| lq (q_assign rfl) rfl <| WL.nil ?_
 refine WT.ret Try.func119 (resOk.one rfl) (fun w1 hw => ?_)
 cases h
 exact post_of_St hw
theorem m_i_Urgent_ok {Φ : Hp} {w : World} (hΦ : In Φ w) (N : Nat) (p0 : TDef) (p1 : TMatch) (p2 : TMatch) {pv0_0 : Value} {pG0_0 : List Nat} {pv1_0 : Value} {pG1_0 : List Nat} {pv1_1 : Value} {pG1_1 : List Nat} {pv2_0 : Value} {pG2_0 : List Nat} {pv2_1 : Value} {pG2_1 : List Nat} (ph0_0 : RSl RTRule 5 Φ pG0_0 pv0_0 p0.Rules) (ph1_0 : RSl (RI .i64) 1 Φ pG1_0 pv1_0 p1.Ids) (ph1_1 : RSl RTBind 4 Φ pG1_1 pv1_1 p1.Binds) (ph2_0 : RSl (RI .i64) 1 Φ pG2_0 pv2_0 p2.Ids) (ph2_1 : RSl RTBind 4 Φ pG2_1 pv2_1 p2.Binds) {r : Bool} (h : m_i_Urgent N p0 p1 p2 = some r) :
  Calls Try.prog 44 [.agg [.string p0.Name, pv0_0].toArray, .agg [.int .i64 p1.Rule, pv1_0, pv1_1].toArray, .agg [.int .i64 p2.Rule, pv2_0, pv2_1].toArray].toArray w (Post (.bool r) w) := by
 refine enter Try.func44 rfl Try.ntmps44 rfl (St.start0 hΦ) ?_
 unfold m_i_Urgent at h
 refine WT.seq <| WT.region ?_
 refine ln (n_box (C := #[.string p0.Name, pv0_0]) rfl rfl) rfl (fun b_1 => ?_)
 refine ln (n_box (C := #[.int .i64 p1.Rule, pv1_0, pv1_1]) rfl rfl) rfl (fun b_2 => ?_)
 refine ln (n_box (C := #[.int .i64 p2.Rule, pv2_0, pv2_1]) rfl rfl) rfl (fun b_3 => ?_)
 refine lq (q_assign rfl) rfl <| WL.nil <| WT.seq <| WT.seq <| WT.region <| lq (q_loadN Tn_29 rfl (fun w1 hw => hw.rgO (i := 2) rfl 0 2 [.string p0.Name, pv0_0] rfl) rfl) rfl <| lq (q_loadN Tn_81 rfl (fun w1 hw => hw.rgO (i := 1) rfl 0 3 [.int .i64 p1.Rule, pv1_0, pv1_1] rfl) rfl) rfl ?_
 obtain ⟨x1, hx1, h⟩ := bind_some h
 refine lp (p_call Fun_111 rfl (fun w1 hw => m_i_hasRule_ok hw.fro N p0 p1 ph0_0 ph1_0 ph1_1 hx1)) rfl <| lq (q_not rfl) rfl <| lq (q_move rfl) rfl ?_
 obtain ⟨b1, hb_1, h⟩ := bind_some h
 refine WL.cutN 5 [(18, .bool b1), (3, .pointer (some ⟨b_1, 0, none⟩)), (4, .pointer (some ⟨b_2, 0, none⟩)), (5, .pointer (some ⟨b_3, 0, none⟩))] ?_ (fun K => ?_)
 rotate_left
 ·refine WL.split (d := 13) rfl (fun c1 => ?_) (fun c1 => ?_)
  ·replace hb_1 := ite_t hb_1 c1
   refine WL.no rfl rfl rfl rfl <| WL.no rfl rfl rfl rfl <| WL.no rfl rfl rfl rfl <| WL.no rfl rfl rfl rfl <| WL.q (q_pick1 rfl rfl) rfl rfl rfl ?_
   cases hb_1
   exact WL.keep (by exact ⟨rfl, rfl, rfl, rfl, trivial⟩) K
  ·replace hb_1 := ite_f hb_1 c1
   refine WL.yes rfl rfl <| lq (q_loadN Tn_29 rfl (fun w1 hw => hw.rgO (i := 2) rfl 0 2 [.string p0.Name, pv0_0] rfl) rfl) rfl <| WL.yes rfl rfl <| lq (q_loadN Tn_81 rfl (fun w1 hw => hw.rgO (i := 0) rfl 0 3 [.int .i64 p2.Rule, pv2_0, pv2_1] rfl) rfl) rfl <| WL.yes rfl rfl ?_
   obtain ⟨x2, hx2, hb_1⟩ := bind_some hb_1
   refine lp (p_call Fun_111 rfl (fun w1 hw => m_i_hasRule_ok hw.fro N p0 p2 ph0_0 ph2_0 ph2_1 hx2)) rfl <| WL.yes rfl rfl <| lq (q_not rfl) rfl <| WL.q (q_pick0 rfl rfl) rfl rfl rfl ?_
   cases hb_1
   exact WL.keep (by exact ⟨rfl, rfl, rfl, rfl, trivial⟩) K
 refine WL.nil ?_
 refine WT.cond rfl (fun c2 => ?_) (fun c2 => ?_)
 ·replace h := ite_t h c2
  refine WT.seq <| WT.region <| lq (q_assign rfl) rfl <| WL.nil ?_
  refine WT.ret Try.func44 (resOk.one rfl) (fun w1 hw => ?_)
  cases h
  exact post_of_St hw
 replace h := ite_f h c2
 refine WT.skip <| WT.seq <| WT.draw mixed (by kernel_rfl) (fun _ h => h.drew) <| qq (q_fieldAddr Fld_29_1 rfl) rfl <| qq (q_load1 T1_27 rfl (fun w1 hw => hw.rgO (i := 2) rfl 1 1 [pv0_0] rfl)) rfl <| qq (q_fieldAddr Fld_81_0 rfl) rfl <| qq (q_load1 T1_3 rfl (fun w1 hw => hw.rgO (i := 1) rfl 0 1 [.int .i64 p1.Rule] rfl)) rfl ?_
 obtain ⟨x3, hx3, h⟩ := bind_some h
 obtain ⟨cs1, F1, -, g1, hb1, hs1, r1⟩ := ph0_0.el (idx_some hx3).2.2
 obtain ⟨v1, G1, v2, G2, v3, G3, rfl, rfl, h1, h2, h3⟩ := r1
 refine qq (q_indexAddr Sl_27 rfl rfl ph0_0 hx3) rfl <| qq (q_fieldAddr Fld_66_1 rfl) rfl <| qq (q_load1 T1_3 rfl (fun w1 hw => (g1.of_eq 1 1 rfl rfl : rg _ _ _ [.int .i64 x3.Sal]).rangeAt hw.fro)) rfl <| qq (q_fieldAddr Fld_29_1 rfl) rfl <| qq (q_load1 T1_27 rfl (fun w1 hw => hw.rgO (i := 2) rfl 1 1 [pv0_0] rfl)) rfl <| qq (q_fieldAddr Fld_81_0 rfl) rfl <| qq (q_load1 T1_3 rfl (fun w1 hw => hw.rgO (i := 0) rfl 0 1 [.int .i64 p2.Rule] rfl)) rfl ?_
 obtain ⟨x4, hx4, h⟩ := bind_some h
 obtain ⟨cs2, F2, -, g2, hb2, hs2, r2⟩ := ph0_0.el (idx_some hx4).2.2
 obtain ⟨v4, G4, v5, G5, v6, G6, rfl, rfl, h4, h5, h6⟩ := r2
 refine qq (q_indexAddr Sl_27 rfl rfl ph0_0 hx4) rfl <| qq (q_fieldAddr Fld_66_1 rfl) rfl <| qq (q_load1 T1_3 rfl (fun w1 hw => (g2.of_eq 1 1 rfl rfl : rg _ _ _ [.int .i64 x4.Sal]).rangeAt hw.fro)) rfl <| qq (q_assign rfl) rfl <| qq (q_assign rfl) rfl <| WQ.nil <| WT.seq <| WT.region <| lq (q_move rfl) rfl <| lq (q_move rfl) rfl <| lq (q_gtr rfl rfl) rfl <| lq (q_move rfl) rfl ?_
 obtain ⟨b2, hb_2, h⟩ := bind_some h
 refine WL.cutN 9 [(45, .bool b2)] ?_ (fun K => ?_)
 rotate_left
 ·refine WL.split (d := 36) rfl (fun c3 => ?_) (fun c3 => ?_)
  ·replace hb_2 := ite_t hb_2 c3
   refine WL.no rfl rfl rfl rfl <| WL.no rfl rfl rfl rfl <| WL.no rfl rfl rfl rfl <| WL.no rfl rfl rfl rfl <| WL.nox rfl rfl rfl rfl <| WL.nox rfl rfl rfl rfl <| WL.nox rfl rfl rfl rfl <| WL.no rfl rfl rfl rfl <| WL.q (q_pick1 rfl rfl) rfl rfl rfl ?_
   cases hb_2
   exact WL.keep (by exact ⟨rfl, trivial⟩) K
  ·replace hb_2 := ite_f hb_2 c3
   refine WL.yes rfl rfl <| lq (q_move rfl) rfl <| WL.yes rfl rfl <| lq (q_move rfl) rfl <| WL.yes rfl rfl <| lq (q_eql rfl rfl) rfl <| WL.yes rfl rfl <| lq (q_move rfl) rfl ?_
   obtain ⟨b3, hb_3, hb_2⟩ := bind_some hb_2
   refine WL.cutN 4 [(44, .bool b3), (36, .bool false)] ?_ (fun K => ?_)
   rotate_left
   ·refine WL.split (d := 40) rfl (fun c4 => ?_) (fun c4 => ?_)
    ·replace hb_3 := ite_t hb_3 c4
     refine WL.yes rfl rfl <| lq (q_loadN Tn_81 rfl (fun w1 hw => hw.rgO (i := 1) rfl 0 3 [.int .i64 p1.Rule, pv1_0, pv1_1] rfl) rfl) rfl <| WL.yes rfl rfl <| lq (q_loadN Tn_81 rfl (fun w1 hw => hw.rgO (i := 0) rfl 0 3 [.int .i64 p2.Rule, pv2_0, pv2_1] rfl) rfl) rfl <| WL.yes rfl rfl ?_
     obtain ⟨x5, hx5, hb_3⟩ := bind_some hb_3
     refine lp (p_call Fun_119 rfl (fun w1 hw => m_i_LessMatch_ok hw.fro N p1 p2 ph1_0 ph1_1 ph2_0 ph2_1 hx5)) rfl <| WL.yes rfl rfl <| WL.q (q_pick1 rfl rfl) rfl rfl rfl ?_
     cases hb_3
     exact WL.keep (by exact ⟨rfl, rfl, trivial⟩) K
    ·replace hb_3 := ite_f hb_3 c4
     refine WL.no rfl rfl rfl rfl <| WL.no rfl rfl rfl rfl <| WL.no rfl rfl rfl rfl <| WL.yes rfl rfl <| WL.q (q_pick0 rfl rfl) rfl rfl rfl ?_
     cases hb_3
     exact WL.keep (by exact ⟨rfl, rfl, trivial⟩) K
   refine WL.q (q_pick0 rfl rfl) rfl rfl rfl ?_
   cases hb_2
   exact WL.keep (by exact ⟨rfl, trivial⟩) K
 refine lq (q_assign rfl) rfl <| WL.nil ?_
 refine WT.ret Try.func44 (resOk.one rfl) (fun w1 hw => ?_)
 cases h
 exact post_of_St hw
theorem m_sl_Clone_Sint_int_ok {Φ : Hp} {w : World} (hΦ : In Φ w) (N : Nat) (p0 : (List Int)) {pv0 : Value} {pG0 : List Nat} (ph0 : RSl (RI .i64) 1 Φ pG0 pv0 p0) {r : (List Int)} (h : m_sl_Clone_Sint_int N p0 = some r) :
  Calls Try.prog 193 [pv0].toArray w (PostG Φ w [] (fun Φ' Fs v => ∃ (sr_0_0 : Value), v = sr_0_0 ∧ Fs = [ob sr_0_0] ∧ OSl (RI .i64) 3 1 Φ' [] sr_0_0 r)) := by
 refine enter Try.func193 rfl Try.ntmps193 rfl (St.start0 hΦ) ?_
 unfold m_sl_Clone_Sint_int at h
 refine WT.seq <| WT.region <| lq (q_assign rfl) rfl <| WL.nil <| WT.seq <| WT.seq ?_
 rcases RSl.nilOr ph0 with ⟨hxs1, cc1, hv1⟩ | ⟨a1, cc1, hv1⟩
 ·skip
  replace h : some [] = some r := by simpa [hxs1, app] using h
  refine WT.region <| lq (q_move rfl) rfl <| lq (q_eqNil Sl_78 (congrArg some hv1) rfl) rfl <| WL.nil ?_
  refine WT.cond rfl (fun c => ?_) (fun c => by simp at c)
  refine WT.seq <| WT.region <| lq (q_assign rfl) rfl <| WL.nil ?_
  refine WT.ret Try.func193 (resOk.one rfl) (fun w1 hw => ?_)
  cases h
  replace hw := hw.addNil
  refine postG_of_St (js := [0]) hw rfl ⟨.slice none 0 0, rfl, rfl, OSl.nil _ _ _ _⟩
 refine WT.region <| lq (q_move rfl) rfl <| lq (q_eqNil Sl_78 (congrArg some hv1) rfl) rfl <| WL.nil ?_
 refine WT.cond rfl (fun c => by simp at c) (fun c => ?_)
 refine WT.skip <| WT.seq <| WT.region ?_
 have rc1 : RC (RI .i64) 1 Φ ([] : List (List Nat)) [] ([] : List Int) := RC.nil _ _ _
 refine le' (e_lit (vs := []) (C := #[]) RI.lasts Sl_78 Zr_3 rfl rfl rfl rfl (fill_made MC_3_0 (fill_nil)) rfl rc1 rfl (by simpa using Kw.nil)) rfl (fun v1 Φ_1 D1 q1 => ?_)
 obtain ⟨fr1, h1⟩ := q1
 replace h1 : OSl (RI .i64) 3 1 Φ_1 [] v1 ([] : List Int) := by simpa using h1
 replace ph0 := ph0.frame RI.lasts fr1 (Dj.empty _)
 refine lq (q_move rfl) rfl ?_
 obtain ⟨x1, hx1, h⟩ := bind_some h
 refine le' (e_appF RI.lasts RI.one RI.flat Sl_78 Ei_3 rfl rfl rfl rfl rfl (js := [0]) (Rr := []) rfl h1 ph0 hx1) rfl (fun v2 Φ_2 D2 q2 => ?_)
 obtain ⟨⟨ap1, fr2⟩, h2⟩ := q2
 refine lq (q_assign rfl) rfl <| WL.nil ?_
 refine WT.ret Try.func193 (resOk.one rfl) (fun w1 hw => ?_)
 cases h
 refine postG_of_St (js := [0]) hw rfl ⟨v2, rfl, rfl, h2⟩
theorem m_sl_Clone_Si_Bind_i_Bind_ok {Φ : Hp} {w : World} (hΦ : In Φ w) (N : Nat) (p0 : (List TBind)) {pv0 : Value} {pG0 : List Nat} (ph0 : RSl RTBind 4 Φ pG0 pv0 p0) {r : (List TBind)} (h : m_sl_Clone_Si_Bind_i_Bind N p0 = some r) :
  Calls Try.prog 194 [pv0].toArray w (PostG Φ w [] (fun Φ' Fs v => ∃ (sr_0_0 : Value), v = sr_0_0 ∧ Fs = [ob sr_0_0] ∧ OSl RTBind 194 4 Φ' [] sr_0_0 r)) := by
 refine enter Try.func194 rfl Try.ntmps194 rfl (St.start0 hΦ) ?_
 unfold m_sl_Clone_Si_Bind_i_Bind at h
 refine WT.seq <| WT.region <| lq (q_assign rfl) rfl <| WL.nil <| WT.seq <| WT.seq ?_
 rcases RSl.nilOr ph0 with ⟨hxs1, cc1, hv1⟩ | ⟨a1, cc1, hv1⟩
 ·skip
  replace h : some [] = some r := by simpa [hxs1, app] using h
  refine WT.region <| lq (q_move rfl) rfl <| lq (q_eqNil Sl_79 (congrArg some hv1) rfl) rfl <| WL.nil ?_
  refine WT.cond rfl (fun c => ?_) (fun c => by simp at c)
  refine WT.seq <| WT.region <| lq (q_assign rfl) rfl <| WL.nil ?_
  refine WT.ret Try.func194 (resOk.one rfl) (fun w1 hw => ?_)
  cases h
  replace hw := hw.addNil
  refine postG_of_St (js := [0]) hw rfl ⟨.slice none 0 0, rfl, rfl, OSl.nil _ _ _ _⟩
 refine WT.region <| lq (q_move rfl) rfl <| lq (q_eqNil Sl_79 (congrArg some hv1) rfl) rfl <| WL.nil ?_
 refine WT.cond rfl (fun c => by simp at c) (fun c => ?_)
 refine WT.skip <| WT.seq <| WT.region ?_
 have rc1 : RC RTBind 4 Φ ([] : List (List Nat)) [] ([] : List TBind) := RC.nil _ _ _
 refine le' (e_lit (vs := []) (C := #[]) RTBind.lasts Sl_79 Zr_194 rfl rfl rfl rfl (fill_made MC_194_0 (fill_nil)) rfl rc1 rfl (by simpa using Kw.nil)) rfl (fun v1 Φ_1 D1 q1 => ?_)
 obtain ⟨fr1, h1⟩ := q1
 replace h1 : OSl RTBind 194 4 Φ_1 [] v1 ([] : List TBind) := by simpa using h1
 replace ph0 := ph0.frame RTBind.lasts fr1 (Dj.empty _)
 refine lq (q_move rfl) rfl ?_
 obtain ⟨x1, hx1, h⟩ := bind_some h
 refine le' (e_appF RTBind.lasts RTBind.one RTBind.flat Sl_79 Ei_194 rfl rfl rfl rfl rfl (js := [0]) (Rr := []) rfl h1 ph0 hx1) rfl (fun v2 Φ_2 D2 q2 => ?_)
 obtain ⟨⟨ap1, fr2⟩, h2⟩ := q2
 refine lq (q_assign rfl) rfl <| WL.nil ?_
 refine WT.ret Try.func194 (resOk.one rfl) (fun w1 hw => ?_)
 cases h
 refine postG_of_St (js := [0]) hw rfl ⟨v2, rfl, rfl, h2⟩
theorem m_i_copyMatch_ok {Φ : Hp} {w : World} (hΦ : In Φ w) (N : Nat) (p0 : TMatch) {pv0_0 : Value} {pG0_0 : List Nat} {pv0_1 : Value} {pG0_1 : List Nat} (ph0_0 : RSl (RI .i64) 1 Φ pG0_0 pv0_0 p0.Ids) (ph0_1 : RSl RTBind 4 Φ pG0_1 pv0_1 p0.Binds) {r : TMatch} (h : m_i_copyMatch N p0 = some r) :
  Calls Try.prog 112 [.agg [.int .i64 p0.Rule, pv0_0, pv0_1].toArray].toArray w (PostG Φ w [] (fun Φ' Fs v => ∃ (sr_0_0 : Value) (sr_0_1 : Value), v = .agg [.int .i64 r.Rule, sr_0_0, sr_0_1].toArray ∧ Fs = [ob sr_0_0, ob sr_0_1] ∧ OSl (RI .i64) 3 1 Φ' [] sr_0_0 r.Ids ∧ OSl RTBind 194 4 Φ' [] sr_0_1 r.Binds)) := by
 refine enter Try.func112 rfl Try.ntmps112 rfl (St.start0 hΦ) ?_
 have pa0_1 : Old ⟨w, [], Φ⟩ pG0_1 := Old.mk hΦ ph0_1.kn (Dj.empty _)
 unfold m_i_copyMatch at h
 refine WT.seq <| WT.region ?_
 refine ln (n_box (C := #[.int .i64 p0.Rule, pv0_0, pv0_1]) rfl rfl) rfl (fun b_1 => ?_)
 refine ln (n_alloc (C := #[.int .i64 0, .slice none 0 0, .slice none 0 0]) Zr_81 rfl) rfl (fun b_2 => ?_)
 refine WL.nil <| WT.seq <| WT.mix (Kn Φ [] [(b_2, .cells #[.int .i64 0, .slice none 0 0, .slice none 0 0] 81 (0, 0)), (b_1, .cells #[.int .i64 p0.Rule, pv0_0, pv0_1] 81 (0, 0))]) (fun i => match i with | 9 => false | _ => true) mixed (fun _ h => h.drew) <| mq 0 rfl (by kernel_rfl) (fun w1 hw => Kn.of (fun k hk _ _ => by simp at hk) (AllIn.mem ⟨List.mem_of_getElem? (i := 0) rfl, List.mem_of_getElem? (i := 1) rfl, trivial⟩) hw) (q_fieldAddr Fld_81_0 rfl) rfl ?_
 refine mq 1 rfl (by kernel_rfl) (fun w1 hw => Kn.of (fun k hk _ _ => by simp at hk) (AllIn.mem ⟨List.mem_of_getElem? (i := 0) rfl, List.mem_of_getElem? (i := 1) rfl, trivial⟩) hw) (q_load1 T1_3 rfl (fun w1 hw => hw.rgO (i := 1) rfl 0 1 [.int .i64 p0.Rule] rfl)) rfl <| mq 2 rfl (by kernel_rfl) (fun w1 hw => Kn.of (fun k hk _ _ => by simp at hk) (AllIn.mem ⟨List.mem_of_getElem? (i := 0) rfl, List.mem_of_getElem? (i := 1) rfl, trivial⟩) hw) (q_fieldAddr Fld_81_1 rfl) rfl ?_
 refine mq 3 rfl (by kernel_rfl) (fun w1 hw => Kn.of (fun k hk _ _ => by simp at hk) (AllIn.mem ⟨List.mem_of_getElem? (i := 0) rfl, List.mem_of_getElem? (i := 1) rfl, trivial⟩) hw) (q_load1 T1_78 rfl (fun w1 hw => hw.rgO (i := 1) rfl 1 1 [pv0_0] rfl)) rfl <| mq 5 rfl (by kernel_rfl) (fun w1 hw => Kn.of (fun k hk _ _ => by simp at hk) (AllIn.mem ⟨List.mem_of_getElem? (i := 0) rfl, List.mem_of_getElem? (i := 1) rfl, trivial⟩) hw) (q_fieldAddr Fld_81_2 rfl) rfl ?_
 refine mq 6 rfl (by kernel_rfl) (fun w1 hw => Kn.of (fun k hk _ _ => by simp at hk) (AllIn.mem ⟨List.mem_of_getElem? (i := 0) rfl, List.mem_of_getElem? (i := 1) rfl, trivial⟩) hw) (q_load1 T1_79 rfl (fun w1 hw => hw.rgO (i := 1) rfl 2 1 [pv0_1] rfl)) rfl ?_
 obtain ⟨x1, hx1, h⟩ := bind_some h
 refine WM.one 4 (by kernel_rfl) (mc rfl (fun _ v Φx D w1 hq hw => Kn.of (fun k hk _ _ => by simp at hk) (AllIn.mem ⟨List.mem_of_getElem? (i := 0) rfl, List.mem_of_getElem? (i := 1) rfl, trivial⟩) hw) (k_call (js := []) (R := []) Fun_193 rfl rfl (fun w1 hw ap hl => m_sl_Clone_Sint_int_ok hw.fro N p0.Ids ph0_0  hx1)) rfl (fun v1 Φ_1 F1 q1 => ?_))
 obtain ⟨ap1, fr1, v2, rfl, rfl, h1⟩ := q1
 replace ph0_1 := ph0_1.frame RTBind.lasts fr1 (ap1.o pa0_1)
 obtain ⟨x2, hx2, h⟩ := bind_some h
 refine WM.one 7 (by kernel_rfl) (mc rfl (fun _ v Φx D w1 hq hw => Kn.of (fun k hk _ _ => by simp at hk) (AllIn.mem ⟨List.mem_of_getElem? (i := 0) rfl, List.mem_of_getElem? (i := 1) rfl, trivial⟩) hw) (k_call (js := []) (R := [ob v1]) Fun_194 rfl rfl (fun w1 hw ap hl => m_sl_Clone_Si_Bind_i_Bind_ok hw.fro N p0.Binds ph0_1  hx2)) rfl (fun v3 Φ_2 F2 q2 => ?_))
 obtain ⟨ap2, fr2, v4, rfl, rfl, h2⟩ := q2
 replace h1 := h1.frame RI.lasts fr2 (ap2.r (i := 0) rfl) (Dj.nil _)
 refine mq 8 rfl (by kernel_rfl) (fun w1 hw => Kn.of (fun k hk _ _ => by simp at hk) (AllIn.mem ⟨List.mem_of_getElem? (i := 0) rfl, List.mem_of_getElem? (i := 1) rfl, trivial⟩) hw) (q_build (vs := [(0, .int .i64 p0.Rule), (1, v1), (2, v3)]) (C := #[.int .i64 p0.Rule, v1, v3]) Pl_81 Zr_81 rfl (fill_cons (cells := [.int .i64 0, .slice none 0 0, .slice none 0 0]) (c := [.int .i64 p0.Rule]) (C' := [.int .i64 p0.Rule, .slice none 0 0, .slice none 0 0]) rfl rfl rfl rfl rfl (fill_cons (cells := [.int .i64 p0.Rule, .slice none 0 0, .slice none 0 0]) (c := [v1]) (C' := [.int .i64 p0.Rule, v1, .slice none 0 0]) rfl (one_cells h1.one) rfl rfl rfl (fill_cons (cells := [.int .i64 p0.Rule, v1, .slice none 0 0]) (c := [v3]) (C' := [.int .i64 p0.Rule, v1, v3]) rfl (one_cells h2.one) rfl rfl rfl (fill_nil))))) rfl ?_
 refine WM.one 9 (by kernel_rfl) (ms rfl (fun hc => by cases hc) (s_store (i := 0) (vs := [.int .i64 p0.Rule, v1, v3]) (C' := [.int .i64 p0.Rule, v1, v3]) (O' := [(b_2, .cells #[.int .i64 p0.Rule, v1, v3] 81 (0, 0)), (b_1, .cells #[.int .i64 p0.Rule, pv0_0, pv0_1] 81 (0, 0))]) Sz_81 rfl rfl rfl rfl rfl rfl ⟨rfl, h1.one, h2.one, trivial⟩ rfl rfl) rfl ?_)
 refine WM.nil (by kernel_rfl) ?_
 refine WT.ret Try.func112 (resOk.one (rv_cell Tn_81 rfl (fun w1 hw => hw.rgO (i := 0) rfl 0 3 [.int .i64 p0.Rule, v1, v3] rfl) rfl)) (fun w1 hw => ?_)
 cases h
 refine postG_of_St (js := [1, 0]) hw rfl ⟨v1, v3, rfl, rfl, h1, h2⟩
theorem m_i_PickMatch_ok {Φ : Hp} {w : World} (hΦ : In Φ w) (N : Nat) (p0 : TDef) (p1 : (List TMatch)) (p2 : (List TMatch)) {pv0_0 : Value} {pG0_0 : List Nat} {pv1 : Value} {pG1 : List Nat} {pv2 : Value} {pG2 : List Nat} (ph0_0 : RSl RTRule 5 Φ pG0_0 pv0_0 p0.Rules) (ph1 : RSl RTMatch 3 Φ pG1 pv1 p1) (ph2 : RSl RTMatch 3 Φ pG2 pv2 p2) {r : TMatch × Bool} (h : m_i_PickMatch N p0 p1 p2 = some r) :
  Calls Try.prog 40 [.agg [.string p0.Name, pv0_0].toArray, pv1, pv2].toArray w (PostG Φ w [] (fun Φ' Fs v => ∃ (sr_0_0 : Value) (sr_0_1 : Value), v = .tuple #[.agg [.int .i64 r.1.Rule, sr_0_0, sr_0_1].toArray, .bool r.2] ∧ Fs = [ob sr_0_0, ob sr_0_1] ∧ OSl (RI .i64) 3 1 Φ' [] sr_0_0 r.1.Ids ∧ OSl RTBind 194 4 Φ' [] sr_0_1 r.1.Binds)) := by
 refine enter Try.func40 rfl Try.ntmps40 rfl (St.start0 hΦ) ?_
 generalize hb0 : (⟨w, [], Φ⟩ : Base) = w0
 unfold m_i_PickMatch at h
 refine WT.seq <| WT.region ?_
 refine ln (n_box (C := #[.string p0.Name, pv0_0]) rfl rfl) rfl (fun b_1 => ?_)
 refine ln (n_alloc (C := #[.int .i64 0, .slice none 0 0, .slice none 0 0]) Zr_81 rfl) rfl (fun b_2 => ?_)
 refine lq (q_assign rfl) rfl <| WL.nil <| WT.seq <| WT.region ?_
 refine ln (n_alloc (C := #[.int .i64 0, .slice none 0 0, .slice none 0 0]) Zr_81 rfl) rfl (fun b_3 => ?_)
 refine WL.nil <| WT.seq <| WT.region <| lq (q_assign rfl) rfl <| WL.nil <| WT.seq <| WT.seq <| WT.region <| lq (q_move rfl) rfl <| lq (q_lenR Sl_75 rfl rfl ph1) rfl <| lq (q_move rfl) rfl <| WL.nil <| WT.block <| WT.loop <| WT.mono (l' := [(2, pv2), (3, .pointer (some ⟨b_1, 0, none⟩)), (6, .pointer (some ⟨b_2, 0, none⟩)), (8, .pointer (some ⟨b_3, 0, none⟩)), (9, .bool false), (12, pv1), (13, .int .i64 (p1.length : Int)), (14, .int .i64 0)]) (S' := St w0 Φ [(b_3, .cells #[.int .i64 0, .slice none 0 0, .slice none 0 0] 81 (0, 0)), (b_2, .cells #[.int .i64 0, .slice none 0 0, .slice none 0 0] 81 (0, 0)), (b_1, .cells #[.string p0.Name, pv0_0] 29 (0, 0))] []) ⟨rfl, rfl, rfl, rfl, rfl, rfl, rfl, rfl, trivial⟩ (fun w1 hw => (hw.sel (js := []) rfl).selO (js := [0, 0, 0]) rfl) ?_
 refine loop_ind (σ := Bool × Int × Int × (List Int) × Value × List Nat × (List TBind) × Value × List Nat) (fun s => [(2, pv2), (3, .pointer (some ⟨b_1, 0, none⟩)), (6, .pointer (some ⟨b_2, 0, none⟩)), (8, .pointer (some ⟨b_3, 0, none⟩)), (9, .bool s.1), (12, pv1), (13, .int .i64 (p1.length : Int)), (14, .int .i64 s.2.1)]) (fun s => St w0 Φ [(b_3, .cells #[.int .i64 s.2.2.1, s.2.2.2.2.1, s.2.2.2.2.2.2.2.1] 81 (0, 0)), (b_2, .cells #[.int .i64 0, .slice none 0 0, .slice none 0 0] 81 (0, 0)), (b_1, .cells #[.string p0.Name, pv0_0] 29 (0, 0))] []) (fun m s => m_i_PickMatch_l1 N p0 p1 p2 m s.1 s.2.1 s.2.2.1 s.2.2.2.1 s.2.2.2.2.2.2.1 = some r ∧ (RSl (RI .i64) 1 Φ s.2.2.2.2.2.1 s.2.2.2.2.1 s.2.2.2.1) ∧ (∀ k ∈ s.2.2.2.2.2.1, k ∈ pG1) ∧ (RSl RTBind 4 Φ s.2.2.2.2.2.2.2.2 s.2.2.2.2.2.2.2.1 s.2.2.2.2.2.2.1) ∧ (∀ k ∈ s.2.2.2.2.2.2.2.2, k ∈ pG1)) (fun s hm => none_ne (show (none : Option (TMatch × Bool)) = some r from hm.1)) (fun n1 ih1 s hm => ?_) N (false, 0, 0, [], .slice none 0 0, [], [], .slice none 0 0, []) ⟨h, RSl.nil _ _ _, (by simp), RSl.nil _ _ _, (by simp)⟩
 obtain ⟨s1, s2, s3, s4, u1, H1, s5, u2, H2⟩ := s
 obtain ⟨h, k1, i1, k2, i2⟩ := hm
 replace h : m_i_PickMatch_l1 N p0 p1 p2 (n1 + 1) s1 s2 s3 s4 s5 = some r := h
 replace k1 : RSl (RI .i64) 1 Φ H1 u1 s4 := k1
 replace i1 : ∀ k ∈ H1, k ∈ pG1 := i1
 replace k2 : RSl RTBind 4 Φ H2 u2 s5 := k2
 replace i2 : ∀ k ∈ H2, k ∈ pG1 := i2
 show WT _ _ [(2, pv2), (3, .pointer (some ⟨b_1, 0, none⟩)), (6, .pointer (some ⟨b_2, 0, none⟩)), (8, .pointer (some ⟨b_3, 0, none⟩)), (9, .bool s1), (12, pv1), (13, .int .i64 (p1.length : Int)), (14, .int .i64 s2)] (St w0 Φ [(b_3, .cells #[.int .i64 s3, u1, u2] 81 (0, 0)), (b_2, .cells #[.int .i64 0, .slice none 0 0, .slice none 0 0] 81 (0, 0)), (b_1, .cells #[.string p0.Name, pv0_0] 29 (0, 0))] [])
 unfold m_i_PickMatch_l1 at h
 refine WT.seq <| WT.region <| lq (q_lss rfl rfl) rfl <| WL.nil <| WT.seq ?_
 refine WT.cond rfl (fun c1 => ?_) (fun c1 => ?_)
 ·replace h := ite_t h c1
  refine WT.skip <| WT.seq <| WT.block <| WT.seq <| WT.region ?_
  obtain ⟨x1, hx1, h⟩ := bind_some h
  obtain ⟨cs1, F1, -, g1, hb1, hs1, r1⟩ := ph1.el (idx_some hx1).2.2
  obtain ⟨v1, G1, v2, G2, rfl, rfl, h1, h2⟩ := r1
  refine lq (q_indexAddr Sl_75 rfl rfl ph1 hx1) rfl <| lq (q_loadN Tn_81 rfl (fun w1 hw => (g1.of_eq 0 3 rfl rfl : rg _ _ _ [.int .i64 x1.Rule, v1, v2]).rangeAt hw.fro) rfl) rfl ?_
  refine ln (n_alloc (C := #[.int .i64 0, .slice none 0 0, .slice none 0 0]) Zr_81 rfl) rfl (fun b_4 => ?_)
  refine ls (s_store (i := 0) (vs := [.int .i64 x1.Rule, v1, v2]) (C' := [.int .i64 x1.Rule, v1, v2]) (O' := [(b_4, .cells #[.int .i64 x1.Rule, v1, v2] 81 (0, 0)), (b_3, .cells #[.int .i64 s3, u1, u2] 81 (0, 0)), (b_2, .cells #[.int .i64 0, .slice none 0 0, .slice none 0 0] 81 (0, 0)), (b_1, .cells #[.string p0.Name, pv0_0] 29 (0, 0))]) Sz_81 rfl rfl rfl rfl rfl rfl ⟨rfl, h1.one, h2.one, trivial⟩ rfl rfl) rfl ?_
  refine WL.nil <| WT.seq <| WT.seq <| WT.region <| lq (q_loadN Tn_29 rfl (fun w1 hw => hw.rgO (i := 3) rfl 0 2 [.string p0.Name, pv0_0] rfl) rfl) rfl <| lq (q_loadN Tn_81 rfl (fun w1 hw => hw.rgO (i := 0) rfl 0 3 [.int .i64 x1.Rule, v1, v2] rfl) rfl) rfl ?_
  obtain ⟨x2, hx2, h⟩ := bind_some h
  refine lp (p_call Fun_111 rfl (fun w1 hw => m_i_hasRule_ok hw.fro N p0 x1 ph0_0 h1 h2 hx2)) rfl <| lq (q_not rfl) rfl <| lq (q_move rfl) rfl ?_
  obtain ⟨b1, hb_1, h⟩ := bind_some h
  refine WL.cutN 4 [(26, .bool b1), (2, pv2), (3, .pointer (some ⟨b_1, 0, none⟩)), (6, .pointer (some ⟨b_2, 0, none⟩)), (8, .pointer (some ⟨b_3, 0, none⟩)), (9, .bool s1), (11, .pointer (some ⟨b_4, 0, none⟩)), (12, pv1), (13, .int .i64 (p1.length : Int)), (14, .int .i64 s2)] ?_ (fun K => ?_)
  rotate_left
  ·refine WL.split (d := 22) rfl (fun c2 => ?_) (fun c2 => ?_)
   ·replace hb_1 := ite_t hb_1 c2
    refine WL.no rfl rfl rfl rfl <| WL.no rfl rfl rfl rfl <| WL.no rfl rfl rfl rfl <| WL.q (q_pick1 rfl rfl) rfl rfl rfl ?_
    cases hb_1
    exact WL.keep (by exact ⟨rfl, rfl, rfl, rfl, rfl, rfl, rfl, rfl, rfl, rfl, trivial⟩) K
   ·replace hb_1 := ite_f hb_1 c2
    refine WL.yes rfl rfl <| lq (q_move rfl) rfl <| WL.yes rfl rfl <| lq (q_loadN Tn_81 rfl (fun w1 hw => hw.rgO (i := 0) rfl 0 3 [.int .i64 x1.Rule, v1, v2] rfl) rfl) rfl <| WL.yes rfl rfl ?_
    obtain ⟨x3, hx3, hb_1⟩ := bind_some hb_1
    refine lp (p_call Fun_43 rfl (fun w1 hw => m_i_FiredHas_ok hw.fro N p2 x1 ph2 h1 h2 hx3)) rfl <| WL.q (q_pick0 rfl rfl) rfl rfl rfl ?_
    cases hb_1
    exact WL.keep (by exact ⟨rfl, rfl, rfl, rfl, rfl, rfl, rfl, rfl, rfl, rfl, trivial⟩) K
  refine WL.nil ?_
  refine WT.cond rfl (fun c3 => ?_) (fun c3 => ?_)
  ·replace h := ite_t h c3
   refine WT.exit rfl <| WT.region <| lq (q_add rfl rfl) rfl <| lq (q_move rfl) rfl <| WL.nil ?_
   refine WT.inLoop (WT.mono (l' := [(2, pv2), (3, .pointer (some ⟨b_1, 0, none⟩)), (6, .pointer (some ⟨b_2, 0, none⟩)), (8, .pointer (some ⟨b_3, 0, none⟩)), (9, .bool s1), (12, pv1), (13, .int .i64 (p1.length : Int)), (14, .int .i64 (IntKind.i64.wrap (s2 + 1)))]) (S' := St w0 Φ [(b_3, .cells #[.int .i64 s3, u1, u2] 81 (0, 0)), (b_2, .cells #[.int .i64 0, .slice none 0 0, .slice none 0 0] 81 (0, 0)), (b_1, .cells #[.string p0.Name, pv0_0] 29 (0, 0))] []) ⟨rfl, rfl, rfl, rfl, rfl, rfl, rfl, rfl, trivial⟩ (fun w1 hw => (hw.sel (js := []) rfl).selO (js := [1, 1, 1]) rfl) ?_)
   exact ih1 (s1, IntKind.i64.wrap (s2 + 1), s3, s4, u1, H1, s5, u2, H2) ⟨h, k1, (fun k hk => (i1 k hk)), k2, (fun k hk => (i2 k hk))⟩
  replace h := ite_f h c3
  refine WT.skip <| WT.seq <| WT.region <| lq (q_move rfl) rfl <| lq (q_not rfl) rfl <| lq (q_move rfl) rfl ?_
  obtain ⟨b2, hb_2, h⟩ := bind_some h
  refine WL.cutN 5 [(34, .bool b2), (2, pv2), (3, .pointer (some ⟨b_1, 0, none⟩)), (6, .pointer (some ⟨b_2, 0, none⟩)), (8, .pointer (some ⟨b_3, 0, none⟩)), (9, .bool s1), (11, .pointer (some ⟨b_4, 0, none⟩)), (12, pv1), (13, .int .i64 (p1.length : Int)), (14, .int .i64 s2)] ?_ (fun K => ?_)
  rotate_left
  ·refine WL.split (d := 29) rfl (fun c4 => ?_) (fun c4 => ?_)
   ·replace hb_2 := ite_t hb_2 c4
    refine WL.no rfl rfl rfl rfl <| WL.no rfl rfl rfl rfl <| WL.no rfl rfl rfl rfl <| WL.no rfl rfl rfl rfl <| WL.q (q_pick1 rfl rfl) rfl rfl rfl ?_
    cases hb_2
    exact WL.keep (by exact ⟨rfl, rfl, rfl, rfl, rfl, rfl, rfl, rfl, rfl, rfl, trivial⟩) K
   ·replace hb_2 := ite_f hb_2 c4
    refine WL.yes rfl rfl <| lq (q_loadN Tn_29 rfl (fun w1 hw => hw.rgO (i := 3) rfl 0 2 [.string p0.Name, pv0_0] rfl) rfl) rfl <| WL.yes rfl rfl <| lq (q_loadN Tn_81 rfl (fun w1 hw => hw.rgO (i := 0) rfl 0 3 [.int .i64 x1.Rule, v1, v2] rfl) rfl) rfl <| WL.yes rfl rfl <| lq (q_loadN Tn_81 rfl (fun w1 hw => hw.rgO (i := 1) rfl 0 3 [.int .i64 s3, u1, u2] rfl) rfl) rfl <| WL.yes rfl rfl ?_
    obtain ⟨x4, hx4, hb_2⟩ := bind_some hb_2
    refine lp (p_call Fun_44 rfl (fun w1 hw => m_i_Urgent_ok hw.fro N p0 x1 (⟨s3, s4, s5⟩ : TMatch) ph0_0 h1 h2 k1 k2 hx4)) rfl <| WL.q (q_pick0 rfl rfl) rfl rfl rfl ?_
    cases hb_2
    exact WL.keep (by exact ⟨rfl, rfl, rfl, rfl, rfl, rfl, rfl, rfl, rfl, rfl, trivial⟩) K
  refine WL.nil ?_
  refine WT.cond rfl (fun c5 => ?_) (fun c5 => ?_)
  ·replace h := ite_t h c5
   refine WT.region <| lq (q_loadN Tn_81 rfl (fun w1 hw => hw.rgO (i := 0) rfl 0 3 [.int .i64 x1.Rule, v1, v2] rfl) rfl) rfl <| ls (s_store (i := 1) (vs := [.int .i64 x1.Rule, v1, v2]) (C' := [.int .i64 x1.Rule, v1, v2]) (O' := [(b_4, .cells #[.int .i64 x1.Rule, v1, v2] 81 (0, 0)), (b_3, .cells #[.int .i64 x1.Rule, v1, v2] 81 (0, 0)), (b_2, .cells #[.int .i64 0, .slice none 0 0, .slice none 0 0] 81 (0, 0)), (b_1, .cells #[.string p0.Name, pv0_0] 29 (0, 0))]) Sz_81 rfl rfl rfl rfl rfl rfl ⟨rfl, h1.one, h2.one, trivial⟩ rfl rfl) rfl ?_
   refine lq (q_assign rfl) rfl <| WL.nil <| WT.inBlock <| WT.region <| lq (q_add rfl rfl) rfl <| lq (q_move rfl) rfl <| WL.nil ?_
   refine WT.inLoop (WT.mono (l' := [(2, pv2), (3, .pointer (some ⟨b_1, 0, none⟩)), (6, .pointer (some ⟨b_2, 0, none⟩)), (8, .pointer (some ⟨b_3, 0, none⟩)), (9, .bool true), (12, pv1), (13, .int .i64 (p1.length : Int)), (14, .int .i64 (IntKind.i64.wrap (s2 + 1)))]) (S' := St w0 Φ [(b_3, .cells #[.int .i64 x1.Rule, v1, v2] 81 (0, 0)), (b_2, .cells #[.int .i64 0, .slice none 0 0, .slice none 0 0] 81 (0, 0)), (b_1, .cells #[.string p0.Name, pv0_0] 29 (0, 0))] []) ⟨rfl, rfl, rfl, rfl, rfl, rfl, rfl, rfl, trivial⟩ (fun w1 hw => (hw.sel (js := []) rfl).selO (js := [1, 1, 1]) rfl) ?_)
   exact ih1 (true, IntKind.i64.wrap (s2 + 1), x1.Rule, x1.Ids, v1, G1, x1.Binds, v2, G2) ⟨h, h1, (fun k hk => ((fun k h => hs1 k (List.mem_append.2 (.inl h))) k hk)), h2, (fun k hk => ((fun k h => hs1 k (List.mem_append.2 (.inr h))) k hk))⟩
  replace h := ite_f h c5
  refine WT.skip <| WT.inBlock <| WT.region <| lq (q_add rfl rfl) rfl <| lq (q_move rfl) rfl <| WL.nil ?_
  refine WT.inLoop (WT.mono (l' := [(2, pv2), (3, .pointer (some ⟨b_1, 0, none⟩)), (6, .pointer (some ⟨b_2, 0, none⟩)), (8, .pointer (some ⟨b_3, 0, none⟩)), (9, .bool s1), (12, pv1), (13, .int .i64 (p1.length : Int)), (14, .int .i64 (IntKind.i64.wrap (s2 + 1)))]) (S' := St w0 Φ [(b_3, .cells #[.int .i64 s3, u1, u2] 81 (0, 0)), (b_2, .cells #[.int .i64 0, .slice none 0 0, .slice none 0 0] 81 (0, 0)), (b_1, .cells #[.string p0.Name, pv0_0] 29 (0, 0))] []) ⟨rfl, rfl, rfl, rfl, rfl, rfl, rfl, rfl, trivial⟩ (fun w1 hw => (hw.sel (js := []) rfl).selO (js := [1, 1, 1]) rfl) ?_)
  exact ih1 (s1, IntKind.i64.wrap (s2 + 1), s3, s4, u1, H1, s5, u2, H2) ⟨h, k1, (fun k hk => (i1 k hk)), k2, (fun k hk => (i2 k hk))⟩
 replace h := ite_f h c1
 refine WT.exit rfl <| WT.seq <| WT.region <| lq (q_loadN Tn_81 rfl (fun w1 hw => hw.rgO (i := 0) rfl 0 3 [.int .i64 s3, u1, u2] rfl) rfl) rfl ?_
 obtain ⟨x5, hx5, h⟩ := bind_some h
 refine lc (k_call (js := []) (R := []) Fun_112 rfl rfl (fun w1 hw ap hl => m_i_copyMatch_ok hw.fro N (⟨s3, s4, s5⟩ : TMatch) k1 k2  hx5)) rfl (fun v3 Φ_1 F2 q1 => ?_)
 obtain ⟨ap1, fr1, v4, v5, rfl, rfl, h3, h4⟩ := q1
 refine lq (q_move rfl) rfl <| ls (s_store (i := 1) (vs := [.int .i64 x5.Rule, v4, v5]) (C' := [.int .i64 x5.Rule, v4, v5]) (O' := [(b_3, .cells #[.int .i64 s3, u1, u2] 81 (0, 0)), (b_2, .cells #[.int .i64 x5.Rule, v4, v5] 81 (0, 0)), (b_1, .cells #[.string p0.Name, pv0_0] 29 (0, 0))]) Sz_81 rfl rfl rfl rfl rfl rfl ⟨rfl, h3.one, h4.one, trivial⟩ rfl rfl) rfl <| lq (q_assign rfl) rfl <| WL.nil ?_
 refine WT.ret Try.func40 (resOk.two (rv_cell Tn_81 rfl (fun w1 hw => hw.rgO (i := 1) rfl 0 3 [.int .i64 x5.Rule, v4, v5] rfl) rfl) rfl) (fun w1 hw => ?_)
 subst hb0
 cases h
 refine postG_of_St (js := [0, 0]) hw rfl ⟨v4, v5, rfl, rfl, h3, h4⟩
theorem m_s_l15Rule_ok {Φ : Hp} {w : World} (hΦ : In Φ w) (N : Nat) (p0 : TDef) (p1 : TMatch) {pv0_0 : Value} {pG0_0 : List Nat} {pv1_0 : Value} {pG1_0 : List Nat} {pv1_1 : Value} {pG1_1 : List Nat} (ph0_0 : RSl RTRule 5 Φ pG0_0 pv0_0 p0.Rules) (ph1_0 : RSl (RI .i64) 1 Φ pG1_0 pv1_0 p1.Ids) (ph1_1 : RSl RTBind 4 Φ pG1_1 pv1_1 p1.Binds) {r : Bool} (h : m_s_l15Rule N p0 p1 = some r) :
  Calls Try.prog 113 [.agg [.string p0.Name, pv0_0].toArray, .agg [.int .i64 p1.Rule, pv1_0, pv1_1].toArray].toArray w (Post (.bool r) w) := by
 refine enter Try.func113 rfl Try.ntmps113 rfl (St.start0 hΦ) ?_
 unfold m_s_l15Rule at h
 refine WT.seq <| WT.region ?_
 refine ln (n_box (C := #[.string p0.Name, pv0_0]) rfl rfl) rfl (fun b_1 => ?_)
 refine ln (n_box (C := #[.int .i64 p1.Rule, pv1_0, pv1_1]) rfl rfl) rfl (fun b_2 => ?_)
 refine lq (q_assign rfl) rfl <| WL.nil <| WT.seq <| WT.region <| lq (q_fieldAddr Fld_81_0 rfl) rfl <| lq (q_load1 T1_3 rfl (fun w1 hw => hw.rgO (i := 0) rfl 0 1 [.int .i64 p1.Rule] rfl)) rfl <| lq (q_geq rfl rfl) rfl <| lq (q_move rfl) rfl ?_
 obtain ⟨b1, hb_1, h⟩ := bind_some h
 refine WL.cutN 7 [(15, .bool b1), (4, .bool false)] ?_ (fun K => ?_)
 rotate_left
 ·refine WL.split (d := 8) rfl (fun c1 => ?_) (fun c1 => ?_)
  ·replace hb_1 := ite_t hb_1 c1
   refine WL.yes rfl rfl <| lq (q_fieldAddr Fld_81_0 rfl) rfl <| WL.yes rfl rfl <| lq (q_load1 T1_3 rfl (fun w1 hw => hw.rgO (i := 0) rfl 0 1 [.int .i64 p1.Rule] rfl)) rfl <| WL.yes rfl rfl <| lq (q_fieldAddr Fld_29_1 rfl) rfl <| WL.yes rfl rfl <| lq (q_load1 T1_27 rfl (fun w1 hw => hw.rgO (i := 1) rfl 1 1 [pv0_0] rfl)) rfl <| WL.yes rfl rfl <| lq (q_lenR Sl_27 rfl rfl ph0_0) rfl <| WL.yes rfl rfl <| lq (q_lss rfl rfl) rfl <| WL.q (q_pick1 rfl rfl) rfl rfl rfl ?_
   cases hb_1
   exact WL.keep (by exact ⟨rfl, rfl, trivial⟩) K
  ·replace hb_1 := ite_f hb_1 c1
   refine WL.no rfl rfl rfl rfl <| WL.no rfl rfl rfl rfl <| WL.no rfl rfl rfl rfl <| WL.no rfl rfl rfl rfl <| WL.no rfl rfl rfl rfl <| WL.no rfl rfl rfl rfl <| WL.q (q_pick0 rfl rfl) rfl rfl rfl ?_
   cases hb_1
   exact WL.keep (by exact ⟨rfl, rfl, trivial⟩) K
 refine lq (q_assign rfl) rfl <| WL.nil ?_
 refine WT.ret Try.func113 (resOk.one rfl) (fun w1 hw => ?_)
 cases h
 exact post_of_St hw
theorem m_s_LessMatch_ok {Φ : Hp} {w : World} (hΦ : In Φ w) (N : Nat) (p0 : TMatch) (p1 : TMatch) {pv0_0 : Value} {pG0_0 : List Nat} {pv0_1 : Value} {pG0_1 : List Nat} {pv1_0 : Value} {pG1_0 : List Nat} {pv1_1 : Value} {pG1_1 : List Nat} (ph0_0 : RSl (RI .i64) 1 Φ pG0_0 pv0_0 p0.Ids) (ph0_1 : RSl RTBind 4 Φ pG0_1 pv0_1 p0.Binds) (ph1_0 : RSl (RI .i64) 1 Φ pG1_0 pv1_0 p1.Ids) (ph1_1 : RSl RTBind 4 Φ pG1_1 pv1_1 p1.Binds) {r : Bool} (h : m_s_LessMatch N p0 p1 = some r) :
  Calls Try.prog 123 [.agg [.int .i64 p0.Rule, pv0_0, pv0_1].toArray, .agg [.int .i64 p1.Rule, pv1_0, pv1_1].toArray].toArray w (Post (.bool r) w) := by
 refine enter Try.func123 rfl Try.ntmps123 rfl (St.start0 hΦ) ?_
 generalize hb0 : (⟨w, [], Φ⟩ : Base) = w0
 unfold m_s_LessMatch at h
 refine WT.seq <| WT.region ?_
 refine ln (n_box (C := #[.int .i64 p0.Rule, pv0_0, pv0_1]) rfl rfl) rfl (fun b_1 => ?_)
 refine ln (n_box (C := #[.int .i64 p1.Rule, pv1_0, pv1_1]) rfl rfl) rfl (fun b_2 => ?_)
 refine lq (q_assign rfl) rfl <| WL.nil <| WT.seq <| WT.block <| WT.seq <| WT.region <| lq (q_fieldAddr Fld_81_0 rfl) rfl <| lq (q_load1 T1_3 rfl (fun w1 hw => hw.rgO (i := 1) rfl 0 1 [.int .i64 p0.Rule] rfl)) rfl <| lq (q_fieldAddr Fld_81_0 rfl) rfl <| lq (q_load1 T1_3 rfl (fun w1 hw => hw.rgO (i := 0) rfl 0 1 [.int .i64 p1.Rule] rfl)) rfl <| lq (q_neq rfl rfl) rfl <| lq (q_assign rfl) rfl <| WL.nil ?_
 refine WT.cond rfl (fun c1 => ?_) (fun c1 => ?_)
 ·replace h := ite_t h c1
  refine WT.seq <| WT.region <| lq (q_fieldAddr Fld_81_0 rfl) rfl <| lq (q_load1 T1_3 rfl (fun w1 hw => hw.rgO (i := 1) rfl 0 1 [.int .i64 p0.Rule] rfl)) rfl <| lq (q_fieldAddr Fld_81_0 rfl) rfl <| lq (q_load1 T1_3 rfl (fun w1 hw => hw.rgO (i := 0) rfl 0 1 [.int .i64 p1.Rule] rfl)) rfl <| lq (q_lss rfl rfl) rfl <| lq (q_assign rfl) rfl <| WL.nil ?_
  refine WT.ret Try.func123 (resOk.one rfl) (fun w1 hw => ?_)
  subst hb0
  cases h
  exact post_of_St hw
 replace h := ite_f h c1
 refine WT.seq <| WT.region <| lq (q_fieldAddr Fld_81_1 rfl) rfl <| lq (q_load1 T1_78 rfl (fun w1 hw => hw.rgO (i := 1) rfl 1 1 [pv0_0] rfl)) rfl <| lq (q_lenR Sl_78 rfl rfl ph0_0) rfl <| lq (q_fieldAddr Fld_81_1 rfl) rfl <| lq (q_load1 T1_78 rfl (fun w1 hw => hw.rgO (i := 0) rfl 1 1 [pv1_0] rfl)) rfl <| lq (q_lenR Sl_78 rfl rfl ph1_0) rfl <| lq (q_neq rfl rfl) rfl <| lq (q_assign rfl) rfl <| WL.nil ?_
 refine WT.cond rfl (fun c2 => ?_) (fun c2 => ?_)
 ·replace h := ite_t h c2
  refine WT.seq <| WT.region <| lq (q_fieldAddr Fld_81_1 rfl) rfl <| lq (q_load1 T1_78 rfl (fun w1 hw => hw.rgO (i := 1) rfl 1 1 [pv0_0] rfl)) rfl <| lq (q_lenR Sl_78 rfl rfl ph0_0) rfl <| lq (q_fieldAddr Fld_81_1 rfl) rfl <| lq (q_load1 T1_78 rfl (fun w1 hw => hw.rgO (i := 0) rfl 1 1 [pv1_0] rfl)) rfl <| lq (q_lenR Sl_78 rfl rfl ph1_0) rfl <| lq (q_lss rfl rfl) rfl <| lq (q_assign rfl) rfl <| WL.nil ?_
  refine WT.ret Try.func123 (resOk.one rfl) (fun w1 hw => ?_)
  subst hb0
  cases h
  exact post_of_St hw
 replace h := ite_f h c2
 refine WT.skip <| WT.inBlock <| WT.seq <| WT.seq <| WT.region <| lq (q_assign rfl) rfl <| WL.nil <| WT.block <| WT.loop <| WT.mono (l' := [(2, .pointer (some ⟨b_1, 0, none⟩)), (3, .pointer (some ⟨b_2, 0, none⟩)), (5, .int .i64 0)]) (S' := St w0 Φ [(b_2, .cells #[.int .i64 p1.Rule, pv1_0, pv1_1] 81 (0, 0)), (b_1, .cells #[.int .i64 p0.Rule, pv0_0, pv0_1] 81 (0, 0))] []) ⟨rfl, rfl, rfl, trivial⟩ (fun w1 hw => (hw.sel (js := []) rfl).selO (js := [0, 0]) rfl) ?_
 refine loop_ind (σ := Int) (fun s => [(2, .pointer (some ⟨b_1, 0, none⟩)), (3, .pointer (some ⟨b_2, 0, none⟩)), (5, .int .i64 s)]) (fun s => St w0 Φ [(b_2, .cells #[.int .i64 p1.Rule, pv1_0, pv1_1] 81 (0, 0)), (b_1, .cells #[.int .i64 p0.Rule, pv0_0, pv0_1] 81 (0, 0))] []) (fun m s => m_s_LessMatch_l1 N p0 p1 m s = some r) (fun s hm => none_ne (show (none : Option (Bool)) = some r from hm)) (fun n1 ih1 s hm => ?_) N (0) h
 revert hm; revert s; intro s1 hm
 have h : m_s_LessMatch_l1 N p0 p1 (n1 + 1) s1 = some r := hm
 show WT _ _ [(2, .pointer (some ⟨b_1, 0, none⟩)), (3, .pointer (some ⟨b_2, 0, none⟩)), (5, .int .i64 s1)] (St w0 Φ [(b_2, .cells #[.int .i64 p1.Rule, pv1_0, pv1_1] 81 (0, 0)), (b_1, .cells #[.int .i64 p0.Rule, pv0_0, pv0_1] 81 (0, 0))] [])
 unfold m_s_LessMatch_l1 at h
 refine WT.seq <| WT.seq <| WT.region <| lq (q_move rfl) rfl <| lq (q_fieldAddr Fld_81_1 rfl) rfl <| lq (q_load1 T1_78 rfl (fun w1 hw => hw.rgO (i := 1) rfl 1 1 [pv0_0] rfl)) rfl <| lq (q_lenR Sl_78 rfl rfl ph0_0) rfl <| lq (q_lss rfl rfl) rfl <| WL.nil ?_
 refine WT.cond rfl (fun c3 => ?_) (fun c3 => ?_)
 ·replace h := ite_t h c3
  refine WT.skip <| WT.seq <| WT.block <| WT.seq <| WT.draw mixed (by kernel_rfl) (fun _ h => h.drew) <| qq (q_fieldAddr Fld_81_1 rfl) rfl <| qq (q_load1 T1_78 rfl (fun w1 hw => hw.rgO (i := 1) rfl 1 1 [pv0_0] rfl)) rfl <| qq (q_move rfl) rfl ?_
  obtain ⟨x1, hx1, h⟩ := bind_some h
  obtain ⟨cs1, F1, -, g1, hb1, hs1, r1⟩ := ph0_0.el (idx_some hx1).2.2
  obtain ⟨rfl, -⟩ := r1
  refine qq (q_indexAddr Sl_78 rfl rfl ph0_0 hx1) rfl <| qq (q_load1 T1_3 rfl (fun w1 hw => (g1.of_eq 0 1 rfl rfl : rg _ _ _ [.int .i64 x1]).rangeAt hw.fro)) rfl <| qq (q_fieldAddr Fld_81_1 rfl) rfl <| qq (q_load1 T1_78 rfl (fun w1 hw => hw.rgO (i := 0) rfl 1 1 [pv1_0] rfl)) rfl <| qq (q_move rfl) rfl ?_
  obtain ⟨x2, hx2, h⟩ := bind_some h
  obtain ⟨cs2, F2, -, g2, hb2, hs2, r2⟩ := ph1_0.el (idx_some hx2).2.2
  obtain ⟨rfl, -⟩ := r2
  refine qq (q_indexAddr Sl_78 rfl rfl ph1_0 hx2) rfl <| qq (q_load1 T1_3 rfl (fun w1 hw => (g2.of_eq 0 1 rfl rfl : rg _ _ _ [.int .i64 x2]).rangeAt hw.fro)) rfl <| qq (q_neq rfl rfl) rfl <| WQ.nil ?_
  refine WT.cond rfl (fun c4 => ?_) (fun c4 => ?_)
  ·replace h := ite_t h c4
   refine WT.seq <| WT.draw mixed (by kernel_rfl) (fun _ h => h.drew) <| qq (q_fieldAddr Fld_81_1 rfl) rfl <| qq (q_load1 T1_78 rfl (fun w1 hw => hw.rgO (i := 1) rfl 1 1 [pv0_0] rfl)) rfl <| qq (q_move rfl) rfl ?_
   obtain ⟨x3, hx3, h⟩ := bind_some h
   obtain ⟨cs3, F3, -, g3, hb3, hs3, r3⟩ := ph0_0.el (idx_some hx3).2.2
   obtain ⟨rfl, -⟩ := r3
   refine qq (q_indexAddr Sl_78 rfl rfl ph0_0 hx3) rfl <| qq (q_load1 T1_3 rfl (fun w1 hw => (g3.of_eq 0 1 rfl rfl : rg _ _ _ [.int .i64 x3]).rangeAt hw.fro)) rfl <| qq (q_fieldAddr Fld_81_1 rfl) rfl <| qq (q_load1 T1_78 rfl (fun w1 hw => hw.rgO (i := 0) rfl 1 1 [pv1_0] rfl)) rfl <| qq (q_move rfl) rfl ?_
   obtain ⟨x4, hx4, h⟩ := bind_some h
   obtain ⟨cs4, F4, -, g4, hb4, hs4, r4⟩ := ph1_0.el (idx_some hx4).2.2
   obtain ⟨rfl, -⟩ := r4
   refine qq (q_indexAddr Sl_78 rfl rfl ph1_0 hx4) rfl <| qq (q_load1 T1_3 rfl (fun w1 hw => (g4.of_eq 0 1 rfl rfl : rg _ _ _ [.int .i64 x4]).rangeAt hw.fro)) rfl <| qq (q_lss rfl rfl) rfl <| qq (q_assign rfl) rfl <| WQ.nil ?_
   refine WT.ret Try.func123 (resOk.one rfl) (fun w1 hw => ?_)
   subst hb0
   cases h
   exact post_of_St hw
  replace h := ite_f h c4
  refine WT.skip <| WT.inBlock <| WT.region <| lq (q_move rfl) rfl <| lq (q_add rfl rfl) rfl <| lq (q_assign rfl) rfl <| WL.nil ?_
  refine WT.inLoop (WT.mono (l' := [(2, .pointer (some ⟨b_1, 0, none⟩)), (3, .pointer (some ⟨b_2, 0, none⟩)), (5, .int .i64 (IntKind.i64.wrap (s1 + 1)))]) (S' := St w0 Φ [(b_2, .cells #[.int .i64 p1.Rule, pv1_0, pv1_1] 81 (0, 0)), (b_1, .cells #[.int .i64 p0.Rule, pv0_0, pv0_1] 81 (0, 0))] []) ⟨rfl, rfl, rfl, trivial⟩ (fun w1 hw => (hw.sel (js := []) rfl).selO (js := [0, 0]) rfl) ?_)
  exact ih1 (IntKind.i64.wrap (s1 + 1)) h
 replace h := ite_f h c3
 refine WT.exit rfl <| WT.seq <| WT.region <| lq (q_assign rfl) rfl <| WL.nil ?_
 refine WT.ret Try.func123 (resOk.one rfl) (fun w1 hw => ?_)
 subst hb0
 cases h
 exact post_of_St hw
theorem m_s_Urgent_ok {Φ : Hp} {w : World} (hΦ : In Φ w) (N : Nat) (p0 : TDef) (p1 : TMatch) (p2 : TMatch) {pv0_0 : Value} {pG0_0 : List Nat} {pv1_0 : Value} {pG1_0 : List Nat} {pv1_1 : Value} {pG1_1 : List Nat} {pv2_0 : Value} {pG2_0 : List Nat} {pv2_1 : Value} {pG2_1 : List Nat} (ph0_0 : RSl RTRule 5 Φ pG0_0 pv0_0 p0.Rules) (ph1_0 : RSl (RI .i64) 1 Φ pG1_0 pv1_0 p1.Ids) (ph1_1 : RSl RTBind 4 Φ pG1_1 pv1_1 p1.Binds) (ph2_0 : RSl (RI .i64) 1 Φ pG2_0 pv2_0 p2.Ids) (ph2_1 : RSl RTBind 4 Φ pG2_1 pv2_1 p2.Binds) {r : Bool} (h : m_s_Urgent N p0 p1 p2 = some r) :
  Calls Try.prog 48 [.agg [.string p0.Name, pv0_0].toArray, .agg [.int .i64 p1.Rule, pv1_0, pv1_1].toArray, .agg [.int .i64 p2.Rule, pv2_0, pv2_1].toArray].toArray w (Post (.bool r) w) := by
 refine enter Try.func48 rfl Try.ntmps48 rfl (St.start0 hΦ) ?_
 unfold m_s_Urgent at h
 refine WT.seq <| WT.region ?_
 refine ln (n_box (C := #[.string p0.Name, pv0_0]) rfl rfl) rfl (fun b_1 => ?_)
 refine ln (n_box (C := #[.int .i64 p1.Rule, pv1_0, pv1_1]) rfl rfl) rfl (fun b_2 => ?_)
 refine ln (n_box (C := #[.int .i64 p2.Rule, pv2_0, pv2_1]) rfl rfl) rfl (fun b_3 => ?_)
 refine lq (q_assign rfl) rfl <| WL.nil <| WT.seq <| WT.seq <| WT.region <| lq (q_loadN Tn_29 rfl (fun w1 hw => hw.rgO (i := 2) rfl 0 2 [.string p0.Name, pv0_0] rfl) rfl) rfl <| lq (q_loadN Tn_81 rfl (fun w1 hw => hw.rgO (i := 1) rfl 0 3 [.int .i64 p1.Rule, pv1_0, pv1_1] rfl) rfl) rfl ?_
 obtain ⟨x1, hx1, h⟩ := bind_some h
 refine lp (p_call Fun_113 rfl (fun w1 hw => m_s_l15Rule_ok hw.fro N p0 p1 ph0_0 ph1_0 ph1_1 hx1)) rfl <| lq (q_not rfl) rfl <| lq (q_move rfl) rfl ?_
 obtain ⟨b1, hb_1, h⟩ := bind_some h
 refine WL.cutN 5 [(18, .bool b1), (3, .pointer (some ⟨b_1, 0, none⟩)), (4, .pointer (some ⟨b_2, 0, none⟩)), (5, .pointer (some ⟨b_3, 0, none⟩))] ?_ (fun K => ?_)
 rotate_left
 ·refine WL.split (d := 13) rfl (fun c1 => ?_) (fun c1 => ?_)
  ·replace hb_1 := ite_t hb_1 c1
   refine WL.no rfl rfl rfl rfl <| WL.no rfl rfl rfl rfl <| WL.no rfl rfl rfl rfl <| WL.no rfl rfl rfl rfl <| WL.q (q_pick1 rfl rfl) rfl rfl rfl ?_
   cases hb_1
   exact WL.keep (by exact ⟨rfl, rfl, rfl, rfl, trivial⟩) K
  ·replace hb_1 := ite_f hb_1 c1
   refine WL.yes rfl rfl <| lq (q_loadN Tn_29 rfl (fun w1 hw => hw.rgO (i := 2) rfl 0 2 [.string p0.Name, pv0_0] rfl) rfl) rfl <| WL.yes rfl rfl <| lq (q_loadN Tn_81 rfl (fun w1 hw => hw.rgO (i := 0) rfl 0 3 [.int .i64 p2.Rule, pv2_0, pv2_1] rfl) rfl) rfl <| WL.yes rfl rfl ?_
   obtain ⟨x2, hx2, hb_1⟩ := bind_some hb_1
   refine lp (p_call Fun_113 rfl (fun w1 hw => m_s_l15Rule_ok hw.fro N p0 p2 ph0_0 ph2_0 ph2_1 hx2)) rfl <| WL.yes rfl rfl <| lq (q_not rfl) rfl <| WL.q (q_pick0 rfl rfl) rfl rfl rfl ?_
   cases hb_1
   exact WL.keep (by exact ⟨rfl, rfl, rfl, rfl, trivial⟩) K
 refine WL.nil ?_
 refine WT.cond rfl (fun c2 => ?_) (fun c2 => ?_)
 ·replace h := ite_t h c2
  refine WT.seq <| WT.region <| lq (q_assign rfl) rfl <| WL.nil ?_
  refine WT.ret Try.func48 (resOk.one rfl) (fun w1 hw => ?_)
  cases h
  exact post_of_St hw
 replace h := ite_f h c2
 refine WT.skip <| WT.seq <| WT.region <| lq (q_fieldAddr Fld_29_1 rfl) rfl <| lq (q_load1 T1_27 rfl (fun w1 hw => hw.rgO (i := 2) rfl 1 1 [pv0_0] rfl)) rfl <| lq (q_fieldAddr Fld_81_0 rfl) rfl <| lq (q_load1 T1_3 rfl (fun w1 hw => hw.rgO (i := 1) rfl 0 1 [.int .i64 p1.Rule] rfl)) rfl ?_
 obtain ⟨x3, hx3, h⟩ := bind_some h
 obtain ⟨cs1, F1, -, g1, hb1, hs1, r1⟩ := ph0_0.el (idx_some hx3).2.2
 obtain ⟨v1, G1, v2, G2, v3, G3, rfl, rfl, h1, h2, h3⟩ := r1
 refine lq (q_indexAddr Sl_27 rfl rfl ph0_0 hx3) rfl <| lq (q_fieldAddr Fld_66_1 rfl) rfl <| lq (q_load1 T1_3 rfl (fun w1 hw => (g1.of_eq 1 1 rfl rfl : rg _ _ _ [.int .i64 x3.Sal]).rangeAt hw.fro)) rfl <| lq (q_assign rfl) rfl <| WL.nil <| WT.seq <| WT.region <| lq (q_fieldAddr Fld_29_1 rfl) rfl <| lq (q_load1 T1_27 rfl (fun w1 hw => hw.rgO (i := 2) rfl 1 1 [pv0_0] rfl)) rfl <| lq (q_fieldAddr Fld_81_0 rfl) rfl <| lq (q_load1 T1_3 rfl (fun w1 hw => hw.rgO (i := 0) rfl 0 1 [.int .i64 p2.Rule] rfl)) rfl ?_
 obtain ⟨x4, hx4, h⟩ := bind_some h
 obtain ⟨cs2, F2, -, g2, hb2, hs2, r2⟩ := ph0_0.el (idx_some hx4).2.2
 obtain ⟨v4, G4, v5, G5, v6, G6, rfl, rfl, h4, h5, h6⟩ := r2
 refine lq (q_indexAddr Sl_27 rfl rfl ph0_0 hx4) rfl <| lq (q_fieldAddr Fld_66_1 rfl) rfl <| lq (q_load1 T1_3 rfl (fun w1 hw => (g2.of_eq 1 1 rfl rfl : rg _ _ _ [.int .i64 x4.Sal]).rangeAt hw.fro)) rfl <| lq (q_assign rfl) rfl <| WL.nil <| WT.seq <| WT.region <| lq (q_move rfl) rfl <| lq (q_move rfl) rfl <| lq (q_gtr rfl rfl) rfl <| lq (q_move rfl) rfl ?_
 obtain ⟨b2, hb_2, h⟩ := bind_some h
 refine WL.cutN 9 [(45, .bool b2)] ?_ (fun K => ?_)
 rotate_left
 ·refine WL.split (d := 36) rfl (fun c3 => ?_) (fun c3 => ?_)
  ·replace hb_2 := ite_t hb_2 c3
   refine WL.no rfl rfl rfl rfl <| WL.no rfl rfl rfl rfl <| WL.no rfl rfl rfl rfl <| WL.no rfl rfl rfl rfl <| WL.nox rfl rfl rfl rfl <| WL.nox rfl rfl rfl rfl <| WL.nox rfl rfl rfl rfl <| WL.no rfl rfl rfl rfl <| WL.q (q_pick1 rfl rfl) rfl rfl rfl ?_
   cases hb_2
   exact WL.keep (by exact ⟨rfl, trivial⟩) K
  ·replace hb_2 := ite_f hb_2 c3
   refine WL.yes rfl rfl <| lq (q_move rfl) rfl <| WL.yes rfl rfl <| lq (q_move rfl) rfl <| WL.yes rfl rfl <| lq (q_eql rfl rfl) rfl <| WL.yes rfl rfl <| lq (q_move rfl) rfl ?_
   obtain ⟨b3, hb_3, hb_2⟩ := bind_some hb_2
   refine WL.cutN 4 [(44, .bool b3), (36, .bool false)] ?_ (fun K => ?_)
   rotate_left
   ·refine WL.split (d := 40) rfl (fun c4 => ?_) (fun c4 => ?_)
    ·replace hb_3 := ite_t hb_3 c4
     refine WL.yes rfl rfl <| lq (q_loadN Tn_81 rfl (fun w1 hw => hw.rgO (i := 1) rfl 0 3 [.int .i64 p1.Rule, pv1_0, pv1_1] rfl) rfl) rfl <| WL.yes rfl rfl <| lq (q_loadN Tn_81 rfl (fun w1 hw => hw.rgO (i := 0) rfl 0 3 [.int .i64 p2.Rule, pv2_0, pv2_1] rfl) rfl) rfl <| WL.yes rfl rfl ?_
     obtain ⟨x5, hx5, hb_3⟩ := bind_some hb_3
     refine lp (p_call Fun_123 rfl (fun w1 hw => m_s_LessMatch_ok hw.fro N p1 p2 ph1_0 ph1_1 ph2_0 ph2_1 hx5)) rfl <| WL.yes rfl rfl <| WL.q (q_pick1 rfl rfl) rfl rfl rfl ?_
     cases hb_3
     exact WL.keep (by exact ⟨rfl, rfl, trivial⟩) K
    ·replace hb_3 := ite_f hb_3 c4
     refine WL.no rfl rfl rfl rfl <| WL.no rfl rfl rfl rfl <| WL.no rfl rfl rfl rfl <| WL.yes rfl rfl <| WL.q (q_pick0 rfl rfl) rfl rfl rfl ?_
     cases hb_3
     exact WL.keep (by exact ⟨rfl, rfl, trivial⟩) K
   refine WL.q (q_pick0 rfl rfl) rfl rfl rfl ?_
   cases hb_2
   exact WL.keep (by exact ⟨rfl, trivial⟩) K
 refine lq (q_assign rfl) rfl <| WL.nil ?_
 refine WT.ret Try.func48 (resOk.one rfl) (fun w1 hw => ?_)
 cases h
 exact post_of_St hw
theorem m_s_l11Same_ok {Φ : Hp} {w : World} (hΦ : In Φ w) (N : Nat) (p0 : (List Int)) (p1 : (List Int)) {pv0 : Value} {pG0 : List Nat} {pv1 : Value} {pG1 : List Nat} (ph0 : RSl (RI .i64) 1 Φ pG0 pv0 p0) (ph1 : RSl (RI .i64) 1 Φ pG1 pv1 p1) {r : Bool} (h : m_s_l11Same N p0 p1 = some r) :
  Calls Try.prog 248 [pv0, pv1].toArray w (Post (.bool r) w) := by
 refine enter Try.func248 rfl Try.ntmps248 rfl (St.start0 hΦ) ?_
 generalize hb0 : (⟨w, [], Φ⟩ : Base) = w0
 unfold m_s_l11Same at h
 refine WT.seq <| WT.region <| lq (q_assign rfl) rfl <| WL.nil <| WT.seq <| WT.seq <| WT.region <| lq (q_move rfl) rfl <| lq (q_lenR Sl_78 rfl rfl ph0) rfl <| lq (q_move rfl) rfl <| lq (q_lenR Sl_78 rfl rfl ph1) rfl <| lq (q_neq rfl rfl) rfl <| WL.nil ?_
 refine WT.cond rfl (fun c1 => ?_) (fun c1 => ?_)
 ·replace h := ite_t h c1
  refine WT.seq <| WT.region <| lq (q_assign rfl) rfl <| WL.nil ?_
  refine WT.ret Try.func248 (resOk.one rfl) (fun w1 hw => ?_)
  subst hb0
  cases h
  exact post_of_St hw
 replace h := ite_f h c1
 refine WT.skip <| WT.seq <| WT.seq <| WT.region <| lq (q_assign rfl) rfl <| WL.nil <| WT.block <| WT.loop <| WT.mono (l' := [(0, pv0), (1, pv1), (5, .int .i64 0)]) (S' := St w0 Φ [] []) ⟨rfl, rfl, rfl, trivial⟩ (fun w1 hw => (hw.sel (js := []) rfl).selO (js := []) rfl) ?_
 refine loop_ind (σ := Int) (fun s => [(0, pv0), (1, pv1), (5, .int .i64 s)]) (fun s => St w0 Φ [] []) (fun m s => m_s_l11Same_l1 N p0 p1 m s = some r) (fun s hm => none_ne (show (none : Option (Bool)) = some r from hm)) (fun n1 ih1 s hm => ?_) N (0) h
 revert hm; revert s; intro s1 hm
 have h : m_s_l11Same_l1 N p0 p1 (n1 + 1) s1 = some r := hm
 show WT _ _ [(0, pv0), (1, pv1), (5, .int .i64 s1)] (St w0 Φ [] [])
 unfold m_s_l11Same_l1 at h
 refine WT.seq <| WT.seq <| WT.region <| lq (q_move rfl) rfl <| lq (q_move rfl) rfl <| lq (q_lenR Sl_78 rfl rfl ph0) rfl <| lq (q_lss rfl rfl) rfl <| WL.nil ?_
 refine WT.cond rfl (fun c2 => ?_) (fun c2 => ?_)
 ·replace h := ite_t h c2
  refine WT.skip <| WT.seq <| WT.block <| WT.seq <| WT.draw mixed (by kernel_rfl) (fun _ h => h.drew) <| qq (q_move rfl) rfl <| qq (q_move rfl) rfl ?_
  obtain ⟨x1, hx1, h⟩ := bind_some h
  obtain ⟨cs1, F1, -, g1, hb1, hs1, r1⟩ := ph0.el (idx_some hx1).2.2
  obtain ⟨rfl, -⟩ := r1
  refine qq (q_indexAddr Sl_78 rfl rfl ph0 hx1) rfl <| qq (q_load1 T1_3 rfl (fun w1 hw => (g1.of_eq 0 1 rfl rfl : rg _ _ _ [.int .i64 x1]).rangeAt hw.fro)) rfl <| qq (q_move rfl) rfl <| qq (q_move rfl) rfl ?_
  obtain ⟨x2, hx2, h⟩ := bind_some h
  obtain ⟨cs2, F2, -, g2, hb2, hs2, r2⟩ := ph1.el (idx_some hx2).2.2
  obtain ⟨rfl, -⟩ := r2
  refine qq (q_indexAddr Sl_78 rfl rfl ph1 hx2) rfl <| qq (q_load1 T1_3 rfl (fun w1 hw => (g2.of_eq 0 1 rfl rfl : rg _ _ _ [.int .i64 x2]).rangeAt hw.fro)) rfl <| qq (q_neq rfl rfl) rfl <| WQ.nil ?_
  refine WT.cond rfl (fun c3 => ?_) (fun c3 => ?_)
  ·replace h := ite_t h c3
   refine WT.seq <| WT.region <| lq (q_assign rfl) rfl <| WL.nil ?_
   refine WT.ret Try.func248 (resOk.one rfl) (fun w1 hw => ?_)
   subst hb0
   cases h
   exact post_of_St hw
  replace h := ite_f h c3
  refine WT.skip <| WT.inBlock <| WT.region <| lq (q_move rfl) rfl <| lq (q_add rfl rfl) rfl <| lq (q_assign rfl) rfl <| WL.nil ?_
  refine WT.inLoop (WT.mono (l' := [(0, pv0), (1, pv1), (5, .int .i64 (IntKind.i64.wrap (s1 + 1)))]) (S' := St w0 Φ [] []) ⟨rfl, rfl, rfl, trivial⟩ (fun w1 hw => (hw.sel (js := []) rfl).selO (js := []) rfl) ?_)
  exact ih1 (IntKind.i64.wrap (s1 + 1)) h
 replace h := ite_f h c2
 refine WT.exit rfl <| WT.seq <| WT.region <| lq (q_assign rfl) rfl <| WL.nil ?_
 refine WT.ret Try.func248 (resOk.one rfl) (fun w1 hw => ?_)
 subst hb0
 cases h
 exact post_of_St hw
theorem m_s_SameMatch_ok {Φ : Hp} {w : World} (hΦ : In Φ w) (N : Nat) (p0 : TMatch) (p1 : TMatch) {pv0_0 : Value} {pG0_0 : List Nat} {pv0_1 : Value} {pG0_1 : List Nat} {pv1_0 : Value} {pG1_0 : List Nat} {pv1_1 : Value} {pG1_1 : List Nat} (ph0_0 : RSl (RI .i64) 1 Φ pG0_0 pv0_0 p0.Ids) (ph0_1 : RSl RTBind 4 Φ pG0_1 pv0_1 p0.Binds) (ph1_0 : RSl (RI .i64) 1 Φ pG1_0 pv1_0 p1.Ids) (ph1_1 : RSl RTBind 4 Φ pG1_1 pv1_1 p1.Binds) {r : Bool} (h : m_s_SameMatch N p0 p1 = some r) :
  Calls Try.prog 195 [.agg [.int .i64 p0.Rule, pv0_0, pv0_1].toArray, .agg [.int .i64 p1.Rule, pv1_0, pv1_1].toArray].toArray w (Post (.bool r) w) := by
 refine enter Try.func195 rfl Try.ntmps195 rfl (St.start0 hΦ) ?_
 unfold m_s_SameMatch at h
 refine WT.seq <| WT.region ?_
 refine ln (n_box (C := #[.int .i64 p0.Rule, pv0_0, pv0_1]) rfl rfl) rfl (fun b_1 => ?_)
 refine ln (n_box (C := #[.int .i64 p1.Rule, pv1_0, pv1_1]) rfl rfl) rfl (fun b_2 => ?_)
 refine lq (q_assign rfl) rfl <| WL.nil <| WT.seq <| WT.region <| lq (q_fieldAddr Fld_81_0 rfl) rfl <| lq (q_load1 T1_3 rfl (fun w1 hw => hw.rgO (i := 1) rfl 0 1 [.int .i64 p0.Rule] rfl)) rfl <| lq (q_fieldAddr Fld_81_0 rfl) rfl <| lq (q_load1 T1_3 rfl (fun w1 hw => hw.rgO (i := 0) rfl 0 1 [.int .i64 p1.Rule] rfl)) rfl <| lq (q_eql rfl rfl) rfl <| lq (q_move rfl) rfl ?_
 obtain ⟨b1, hb_1, h⟩ := bind_some h
 refine WL.cutN 6 [(16, .bool b1), (4, .bool false)] ?_ (fun K => ?_)
 rotate_left
 ·refine WL.split (d := 10) rfl (fun c1 => ?_) (fun c1 => ?_)
  ·replace hb_1 := ite_t hb_1 c1
   refine WL.yes rfl rfl <| lq (q_fieldAddr Fld_81_1 rfl) rfl <| WL.yes rfl rfl <| lq (q_load1 T1_78 rfl (fun w1 hw => hw.rgO (i := 1) rfl 1 1 [pv0_0] rfl)) rfl <| WL.yes rfl rfl <| lq (q_fieldAddr Fld_81_1 rfl) rfl <| WL.yes rfl rfl <| lq (q_load1 T1_78 rfl (fun w1 hw => hw.rgO (i := 0) rfl 1 1 [pv1_0] rfl)) rfl <| WL.yes rfl rfl ?_
   obtain ⟨x1, hx1, hb_1⟩ := bind_some hb_1
   refine lp (p_call Fun_248 rfl (fun w1 hw => m_s_l11Same_ok hw.fro N p0.Ids p1.Ids ph0_0 ph1_0 hx1)) rfl <| WL.q (q_pick1 rfl rfl) rfl rfl rfl ?_
   cases hb_1
   exact WL.keep (by exact ⟨rfl, rfl, trivial⟩) K
  ·replace hb_1 := ite_f hb_1 c1
   refine WL.no rfl rfl rfl rfl <| WL.no rfl rfl rfl rfl <| WL.no rfl rfl rfl rfl <| WL.no rfl rfl rfl rfl <| WL.no rfl rfl rfl rfl <| WL.q (q_pick0 rfl rfl) rfl rfl rfl ?_
   cases hb_1
   exact WL.keep (by exact ⟨rfl, rfl, trivial⟩) K
 refine lq (q_assign rfl) rfl <| WL.nil ?_
 refine WT.ret Try.func195 (resOk.one rfl) (fun w1 hw => ?_)
 cases h
 exact post_of_St hw
theorem m_s_FiredHas_ok {Φ : Hp} {w : World} (hΦ : In Φ w) (N : Nat) (p0 : (List TMatch)) (p1 : TMatch) {pv0 : Value} {pG0 : List Nat} {pv1_0 : Value} {pG1_0 : List Nat} {pv1_1 : Value} {pG1_1 : List Nat} (ph0 : RSl RTMatch 3 Φ pG0 pv0 p0) (ph1_0 : RSl (RI .i64) 1 Φ pG1_0 pv1_0 p1.Ids) (ph1_1 : RSl RTBind 4 Φ pG1_1 pv1_1 p1.Binds) {r : Bool} (h : m_s_FiredHas N p0 p1 = some r) :
  Calls Try.prog 114 [pv0, .agg [.int .i64 p1.Rule, pv1_0, pv1_1].toArray].toArray w (Post (.bool r) w) := by
 refine enter Try.func114 rfl Try.ntmps114 rfl (St.start0 hΦ) ?_
 generalize hb0 : (⟨w, [], Φ⟩ : Base) = w0
 unfold m_s_FiredHas at h
 refine WT.seq <| WT.region ?_
 refine ln (n_box (C := #[.int .i64 p1.Rule, pv1_0, pv1_1]) rfl rfl) rfl (fun b_1 => ?_)
 refine lq (q_assign rfl) rfl <| WL.nil <| WT.seq <| WT.seq <| WT.region <| lq (q_assign rfl) rfl <| WL.nil <| WT.block <| WT.loop <| WT.mono (l' := [(0, pv0), (3, .pointer (some ⟨b_1, 0, none⟩)), (5, .int .i64 0)]) (S' := St w0 Φ [(b_1, .cells #[.int .i64 p1.Rule, pv1_0, pv1_1] 81 (0, 0))] []) ⟨rfl, rfl, rfl, trivial⟩ (fun w1 hw => (hw.sel (js := []) rfl).selO (js := [0]) rfl) ?_
 refine loop_ind (σ := Int) (fun s => [(0, pv0), (3, .pointer (some ⟨b_1, 0, none⟩)), (5, .int .i64 s)]) (fun s => St w0 Φ [(b_1, .cells #[.int .i64 p1.Rule, pv1_0, pv1_1] 81 (0, 0))] []) (fun m s => m_s_FiredHas_l1 N p0 p1 m s = some r) (fun s hm => none_ne (show (none : Option (Bool)) = some r from hm)) (fun n1 ih1 s hm => ?_) N (0) h
 revert hm; revert s; intro s1 hm
 have h : m_s_FiredHas_l1 N p0 p1 (n1 + 1) s1 = some r := hm
 show WT _ _ [(0, pv0), (3, .pointer (some ⟨b_1, 0, none⟩)), (5, .int .i64 s1)] (St w0 Φ [(b_1, .cells #[.int .i64 p1.Rule, pv1_0, pv1_1] 81 (0, 0))] [])
 unfold m_s_FiredHas_l1 at h
 refine WT.seq <| WT.seq <| WT.region <| lq (q_move rfl) rfl <| lq (q_move rfl) rfl <| lq (q_lenR Sl_75 rfl rfl ph0) rfl <| lq (q_lss rfl rfl) rfl <| WL.nil ?_
 refine WT.cond rfl (fun c1 => ?_) (fun c1 => ?_)
 ·replace h := ite_t h c1
  refine WT.skip <| WT.seq <| WT.block <| WT.seq <| WT.draw mixed (by kernel_rfl) (fun _ h => h.drew) <| qq (q_move rfl) rfl <| qq (q_move rfl) rfl ?_
  obtain ⟨x1, hx1, h⟩ := bind_some h
  obtain ⟨cs1, F1, -, g1, hb1, hs1, r1⟩ := ph0.el (idx_some hx1).2.2
  obtain ⟨v1, G1, v2, G2, rfl, rfl, h1, h2⟩ := r1
  refine qq (q_indexAddr Sl_75 rfl rfl ph0 hx1) rfl <| qq (q_loadN Tn_81 rfl (fun w1 hw => (g1.of_eq 0 3 rfl rfl : rg _ _ _ [.int .i64 x1.Rule, v1, v2]).rangeAt hw.fro) rfl) rfl <| qq (q_loadN Tn_81 rfl (fun w1 hw => hw.rgO (i := 0) rfl 0 3 [.int .i64 p1.Rule, pv1_0, pv1_1] rfl) rfl) rfl ?_
  obtain ⟨x2, hx2, h⟩ := bind_some h
  refine qp (p_call Fun_195 rfl (fun w1 hw => m_s_SameMatch_ok hw.fro N x1 p1 h1 h2 ph1_0 ph1_1 hx2)) rfl <| WQ.nil ?_
  refine WT.cond rfl (fun c2 => ?_) (fun c2 => ?_)
  ·replace h := ite_t h c2
   refine WT.seq <| WT.region <| lq (q_assign rfl) rfl <| WL.nil ?_
   refine WT.ret Try.func114 (resOk.one rfl) (fun w1 hw => ?_)
   subst hb0
   cases h
   exact post_of_St hw
  replace h := ite_f h c2
  refine WT.skip <| WT.inBlock <| WT.region <| lq (q_move rfl) rfl <| lq (q_add rfl rfl) rfl <| lq (q_assign rfl) rfl <| WL.nil ?_
  refine WT.inLoop (WT.mono (l' := [(0, pv0), (3, .pointer (some ⟨b_1, 0, none⟩)), (5, .int .i64 (IntKind.i64.wrap (s1 + 1)))]) (S' := St w0 Φ [(b_1, .cells #[.int .i64 p1.Rule, pv1_0, pv1_1] 81 (0, 0))] []) ⟨rfl, rfl, rfl, trivial⟩ (fun w1 hw => (hw.sel (js := []) rfl).selO (js := [0]) rfl) ?_)
  exact ih1 (IntKind.i64.wrap (s1 + 1)) h
 replace h := ite_f h c1
 refine WT.exit rfl <| WT.seq <| WT.region <| lq (q_assign rfl) rfl <| WL.nil ?_
 refine WT.ret Try.func114 (resOk.one rfl) (fun w1 hw => ?_)
 subst hb0
 cases h
 exact post_of_St hw
theorem m_s_l15CopyMatch_ok {Φ : Hp} {w : World} (hΦ : In Φ w) (N : Nat) (p0 : TMatch) {pv0_0 : Value} {pG0_0 : List Nat} {pv0_1 : Value} {pG0_1 : List Nat} (ph0_0 : RSl (RI .i64) 1 Φ pG0_0 pv0_0 p0.Ids) (ph0_1 : RSl RTBind 4 Φ pG0_1 pv0_1 p0.Binds) {r : TMatch} (h : m_s_l15CopyMatch N p0 = some r) :
  Calls Try.prog 115 [.agg [.int .i64 p0.Rule, pv0_0, pv0_1].toArray].toArray w (PostG Φ w [] (fun Φ' Fs v => ∃ (sr_0_0 : Value) (sr_0_1 : Value), v = .agg [.int .i64 r.Rule, sr_0_0, sr_0_1].toArray ∧ Fs = [ob sr_0_0, ob sr_0_1] ∧ OSl (RI .i64) 3 1 Φ' [] sr_0_0 r.Ids ∧ OSl RTBind 194 4 Φ' [] sr_0_1 r.Binds)) := by
 refine enter Try.func115 rfl Try.ntmps115 rfl (St.start0 hΦ) ?_
 have pa0_1 : Old ⟨w, [], Φ⟩ pG0_1 := Old.mk hΦ ph0_1.kn (Dj.empty _)
 revert pa0_1
 generalize hb0 : (⟨w, [], Φ⟩ : Base) = w0
 intro pa0_1
 unfold m_s_l15CopyMatch at h
 refine WT.seq <| WT.region ?_
 refine ln (n_box (C := #[.int .i64 p0.Rule, pv0_0, pv0_1]) rfl rfl) rfl (fun b_1 => ?_)
 refine ln (n_alloc (C := #[.int .i64 0, .slice none 0 0, .slice none 0 0]) Zr_81 rfl) rfl (fun b_2 => ?_)
 refine WL.nil <| WT.seq ?_
 refine cut (σ := Hp × (List Int) × Value × (List TBind) × Value × Int) (fun s => [(2, .pointer (some ⟨b_2, 0, none⟩))]) (fun s => St w0 s.1 [(b_2, .cells #[.int .i64 s.2.2.2.2.2, s.2.2.1, s.2.2.2.2.1] 81 (0, 0))] [ob s.2.2.2.2.1, ob s.2.2.1]) (fun s => m_s_l15CopyMatch_j1 N s.2.1 s.2.2.2.1 s.2.2.2.2.2 = some r ∧ (OSl (RI .i64) 3 1 s.1 [] s.2.2.1 s.2.1) ∧ (OSl RTBind 194 4 s.1 [] s.2.2.2.2.1 s.2.2.2.1)) (fun s hm => ?_) (fun K => ?_)
 ·clear h
  obtain ⟨Φ_5, s1, u1, s2, u2, s3⟩ := s
  obtain ⟨h, k1, k2⟩ := hm
  replace h : m_s_l15CopyMatch_j1 N s1 s2 s3 = some r := h
  replace k1 : OSl (RI .i64) 3 1 Φ_5 [] u1 s1 := k1
  replace k2 : OSl RTBind 194 4 Φ_5 [] u2 s2 := k2
  show WT _ _ [(2, .pointer (some ⟨b_2, 0, none⟩))] (St w0 Φ_5 [(b_2, .cells #[.int .i64 s3, u1, u2] 81 (0, 0))] [ob u2, ob u1])
  unfold m_s_l15CopyMatch_j1 at h
  refine WT.ret Try.func115 (resOk.one (rv_cell Tn_81 rfl (fun w1 hw => hw.rgO (i := 0) rfl 0 3 [.int .i64 s3, u1, u2] rfl) rfl)) (fun w1 hw => ?_)
  subst hb0
  cases h
  refine postG_of_St (js := [1, 0]) hw rfl ⟨u1, u2, rfl, rfl, k1, k2⟩
 refine WT.mix (Kn Φ [] [(b_2, .cells #[.int .i64 0, .slice none 0 0, .slice none 0 0] 81 (0, 0)), (b_1, .cells #[.int .i64 p0.Rule, pv0_0, pv0_1] 81 (0, 0))]) (fun i => match i with | 11 => false | _ => true) mixed (fun _ h => h.drew) <| mq 0 rfl (by kernel_rfl) (fun w1 hw => Kn.of (fun k hk _ _ => by simp at hk) (AllIn.mem ⟨List.mem_of_getElem? (i := 0) rfl, List.mem_of_getElem? (i := 1) rfl, trivial⟩) hw) (q_fieldAddr Fld_81_0 rfl) rfl ?_
 refine mq 1 rfl (by kernel_rfl) (fun w1 hw => Kn.of (fun k hk _ _ => by simp at hk) (AllIn.mem ⟨List.mem_of_getElem? (i := 0) rfl, List.mem_of_getElem? (i := 1) rfl, trivial⟩) hw) (q_load1 T1_3 rfl (fun w1 hw => hw.rgO (i := 1) rfl 0 1 [.int .i64 p0.Rule] rfl)) rfl <| mq 3 rfl (by kernel_rfl) (fun w1 hw => Kn.of (fun k hk _ _ => by simp at hk) (AllIn.mem ⟨List.mem_of_getElem? (i := 0) rfl, List.mem_of_getElem? (i := 1) rfl, trivial⟩) hw) (q_fieldAddr Fld_81_1 rfl) rfl ?_
 refine mq 4 rfl (by kernel_rfl) (fun w1 hw => Kn.of (fun k hk _ _ => by simp at hk) (AllIn.mem ⟨List.mem_of_getElem? (i := 0) rfl, List.mem_of_getElem? (i := 1) rfl, trivial⟩) hw) (q_load1 T1_78 rfl (fun w1 hw => hw.rgO (i := 1) rfl 1 1 [pv0_0] rfl)) rfl <| mq 7 rfl (by kernel_rfl) (fun w1 hw => Kn.of (fun k hk _ _ => by simp at hk) (AllIn.mem ⟨List.mem_of_getElem? (i := 0) rfl, List.mem_of_getElem? (i := 1) rfl, trivial⟩) hw) (q_fieldAddr Fld_81_2 rfl) rfl ?_
 refine mq 8 rfl (by kernel_rfl) (fun w1 hw => Kn.of (fun k hk _ _ => by simp at hk) (AllIn.mem ⟨List.mem_of_getElem? (i := 0) rfl, List.mem_of_getElem? (i := 1) rfl, trivial⟩) hw) (q_load1 T1_79 rfl (fun w1 hw => hw.rgO (i := 1) rfl 2 1 [pv0_1] rfl)) rfl ?_
 refine WM.two 2 6 (by kernel_rfl) ?_ ?_
 ·skip
  have rc3 : RC (RI .i64) 1 Φ ([] : List (List Nat)) [] ([] : List Int) := RC.nil _ _ _
  refine me rfl (fun _ v Φx D w1 hq hw => Kn.of (fun k hk _ _ => by simp at hk) (AllIn.mem ⟨List.mem_of_getElem? (i := 0) rfl, List.mem_of_getElem? (i := 1) rfl, trivial⟩) hw) (e_lit (vs := []) (C := #[]) RI.lasts Sl_78 Zr_3 rfl rfl rfl rfl (fill_made MC_3_0 (fill_nil)) rfl rc3 rfl (by simpa using Kw.nil)) rfl (fun v5 Φ_6 D5 q5 => ?_)
  obtain ⟨fr5, h5⟩ := q5
  replace h5 : OSl (RI .i64) 3 1 Φ_6 [] v5 ([] : List Int) := by simpa using h5
  replace ph0_0 := ph0_0.frame RI.lasts fr5 (Dj.empty _)
  replace ph0_1 := ph0_1.frame RTBind.lasts fr5 (Dj.empty _)
  refine WM.two 5 6 (by kernel_rfl) ?_ ?_
  ·skip
   obtain ⟨x3, hx3, h⟩ := bind_some h
   refine me rfl (fun _ v Φx D w1 hq hw => Kn.of (fun k hk _ _ => by simp at hk) (AllIn.mem ⟨List.mem_of_getElem? (i := 0) rfl, List.mem_of_getElem? (i := 1) rfl, trivial⟩) hw) (e_appF RI.lasts RI.one RI.flat Sl_78 Ei_3 rfl rfl rfl rfl rfl (js := [0]) (Rr := []) rfl h5 ph0_0 hx3) rfl (fun v6 Φ_7 D6 q6 => ?_)
   obtain ⟨⟨ap3, fr6⟩, h6⟩ := q6
   replace ph0_1 := ph0_1.frame RTBind.lasts fr6 (ap3.o pa0_1)
   have rc4 : RC RTBind 4 Φ_7 ([] : List (List Nat)) [] ([] : List TBind) := RC.nil _ _ _
   refine WM.one 6 (by kernel_rfl) (me rfl (fun _ v Φx D w1 hq hw => Kn.of (fun k hk _ _ => by simp at hk) (AllIn.mem ⟨List.mem_of_getElem? (i := 0) rfl, List.mem_of_getElem? (i := 1) rfl, trivial⟩) hw) (e_lit (vs := []) (C := #[]) RTBind.lasts Sl_79 Zr_194 rfl rfl rfl rfl (fill_made MC_194_0 (fill_nil)) rfl rc4 rfl (by simpa using Kw.nil)) rfl (fun v7 Φ_8 D7 q7 => ?_))
   obtain ⟨fr7, h7⟩ := q7
   replace h7 : OSl RTBind 194 4 Φ_8 [] v7 ([] : List TBind) := by simpa using h7
   replace ph0_1 := ph0_1.frame RTBind.lasts fr7 (Dj.empty _)
   replace h6 := h6.frame RI.lasts fr7 (Dj.empty _) (Dj.empty _)
   obtain ⟨x4, hx4, h⟩ := bind_some h
   refine WM.one 9 (by kernel_rfl) (me rfl (fun _ v Φx D w1 hq hw => Kn.of (fun k hk _ _ => by simp at hk) (AllIn.mem ⟨List.mem_of_getElem? (i := 0) rfl, List.mem_of_getElem? (i := 1) rfl, trivial⟩) hw) (e_appF RTBind.lasts RTBind.one RTBind.flat Sl_79 Ei_194 rfl rfl rfl rfl rfl (js := [0]) (Rr := [ob v6]) rfl h7 ph0_1 hx4) rfl (fun v8 Φ_9 D8 q8 => ?_))
   obtain ⟨⟨ap4, fr8⟩, h8⟩ := q8
   replace h6 := h6.frame RI.lasts fr8 (ap4.r (i := 0) rfl) (Dj.nil _)
   refine mq 10 rfl (by kernel_rfl) (fun w1 hw => Kn.of (fun k hk _ _ => by simp at hk) (AllIn.mem ⟨List.mem_of_getElem? (i := 0) rfl, List.mem_of_getElem? (i := 1) rfl, trivial⟩) hw) (q_build (vs := [(0, .int .i64 p0.Rule), (1, v6), (2, v8)]) (C := #[.int .i64 p0.Rule, v6, v8]) Pl_81 Zr_81 rfl (fill_cons (cells := [.int .i64 0, .slice none 0 0, .slice none 0 0]) (c := [.int .i64 p0.Rule]) (C' := [.int .i64 p0.Rule, .slice none 0 0, .slice none 0 0]) rfl rfl rfl rfl rfl (fill_cons (cells := [.int .i64 p0.Rule, .slice none 0 0, .slice none 0 0]) (c := [v6]) (C' := [.int .i64 p0.Rule, v6, .slice none 0 0]) rfl (one_cells h6.one) rfl rfl rfl (fill_cons (cells := [.int .i64 p0.Rule, v6, .slice none 0 0]) (c := [v8]) (C' := [.int .i64 p0.Rule, v6, v8]) rfl (one_cells h8.one) rfl rfl rfl (fill_nil))))) rfl ?_
   refine WM.one 11 (by kernel_rfl) (ms rfl (fun hc => by cases hc) (s_store (i := 0) (vs := [.int .i64 p0.Rule, v6, v8]) (C' := [.int .i64 p0.Rule, v6, v8]) (O' := [(b_2, .cells #[.int .i64 p0.Rule, v6, v8] 81 (0, 0)), (b_1, .cells #[.int .i64 p0.Rule, pv0_0, pv0_1] 81 (0, 0))]) Sz_81 rfl rfl rfl rfl rfl rfl ⟨rfl, h6.one, h8.one, trivial⟩ rfl rfl) rfl ?_)
   refine WM.nil (by kernel_rfl) <| WT.mono (l' := [(2, .pointer (some ⟨b_2, 0, none⟩))]) (S' := St w0 Φ_9 [(b_2, .cells #[.int .i64 p0.Rule, v6, v8] 81 (0, 0))] [ob v8, ob v6]) ⟨rfl, trivial⟩ (fun w1 hw => (hw.sel (js := [0, 0]) rfl).selO (js := [0]) rfl) ?_
   exact K (Φ_9, x3, v6, x4, v8, p0.Rule) ⟨h, h6, h8⟩
  have rc5 : RC RTBind 4 Φ_6 ([] : List (List Nat)) [] ([] : List TBind) := RC.nil _ _ _
  refine me rfl (fun _ v Φx D w1 hq hw => Kn.of (fun k hk _ _ => by simp at hk) (AllIn.mem ⟨List.mem_of_getElem? (i := 0) rfl, List.mem_of_getElem? (i := 1) rfl, trivial⟩) hw) (e_lit (vs := []) (C := #[]) RTBind.lasts Sl_79 Zr_194 rfl rfl rfl rfl (fill_made MC_194_0 (fill_nil)) rfl rc5 rfl (by simpa using Kw.nil)) rfl (fun v9 Φ_10 D9 q9 => ?_)
  obtain ⟨fr9, h9⟩ := q9
  replace h9 : OSl RTBind 194 4 Φ_10 [] v9 ([] : List TBind) := by simpa using h9
  replace ph0_0 := ph0_0.frame RI.lasts fr9 (Dj.empty _)
  replace ph0_1 := ph0_1.frame RTBind.lasts fr9 (Dj.empty _)
  replace h5 := h5.frame RI.lasts fr9 (Dj.empty _) (Dj.empty _)
  obtain ⟨x5, hx5, h⟩ := bind_some h
  refine WM.one 5 (by kernel_rfl) (me rfl (fun _ v Φx D w1 hq hw => Kn.of (fun k hk _ _ => by simp at hk) (AllIn.mem ⟨List.mem_of_getElem? (i := 0) rfl, List.mem_of_getElem? (i := 1) rfl, trivial⟩) hw) (e_appF RI.lasts RI.one RI.flat Sl_78 Ei_3 rfl rfl rfl rfl rfl (js := [1]) (Rr := [ob v9]) rfl h5 ph0_0 hx5) rfl (fun v10 Φ_11 D10 q10 => ?_))
  obtain ⟨⟨ap5, fr10⟩, h10⟩ := q10
  replace ph0_1 := ph0_1.frame RTBind.lasts fr10 (ap5.o pa0_1)
  replace h9 := h9.frame RTBind.lasts fr10 (ap5.r (i := 0) rfl) (Dj.nil _)
  obtain ⟨x6, hx6, h⟩ := bind_some h
  refine WM.one 9 (by kernel_rfl) (me rfl (fun _ v Φx D w1 hq hw => Kn.of (fun k hk _ _ => by simp at hk) (AllIn.mem ⟨List.mem_of_getElem? (i := 0) rfl, List.mem_of_getElem? (i := 1) rfl, trivial⟩) hw) (e_appF RTBind.lasts RTBind.one RTBind.flat Sl_79 Ei_194 rfl rfl rfl rfl rfl (js := [1]) (Rr := [ob v10]) rfl h9 ph0_1 hx6) rfl (fun v11 Φ_12 D11 q11 => ?_))
  obtain ⟨⟨ap6, fr11⟩, h11⟩ := q11
  replace h10 := h10.frame RI.lasts fr11 (ap6.r (i := 0) rfl) (Dj.nil _)
  refine mq 10 rfl (by kernel_rfl) (fun w1 hw => Kn.of (fun k hk _ _ => by simp at hk) (AllIn.mem ⟨List.mem_of_getElem? (i := 0) rfl, List.mem_of_getElem? (i := 1) rfl, trivial⟩) hw) (q_build (vs := [(0, .int .i64 p0.Rule), (1, v10), (2, v11)]) (C := #[.int .i64 p0.Rule, v10, v11]) Pl_81 Zr_81 rfl (fill_cons (cells := [.int .i64 0, .slice none 0 0, .slice none 0 0]) (c := [.int .i64 p0.Rule]) (C' := [.int .i64 p0.Rule, .slice none 0 0, .slice none 0 0]) rfl rfl rfl rfl rfl (fill_cons (cells := [.int .i64 p0.Rule, .slice none 0 0, .slice none 0 0]) (c := [v10]) (C' := [.int .i64 p0.Rule, v10, .slice none 0 0]) rfl (one_cells h10.one) rfl rfl rfl (fill_cons (cells := [.int .i64 p0.Rule, v10, .slice none 0 0]) (c := [v11]) (C' := [.int .i64 p0.Rule, v10, v11]) rfl (one_cells h11.one) rfl rfl rfl (fill_nil))))) rfl ?_
  refine WM.one 11 (by kernel_rfl) (ms rfl (fun hc => by cases hc) (s_store (i := 0) (vs := [.int .i64 p0.Rule, v10, v11]) (C' := [.int .i64 p0.Rule, v10, v11]) (O' := [(b_2, .cells #[.int .i64 p0.Rule, v10, v11] 81 (0, 0)), (b_1, .cells #[.int .i64 p0.Rule, pv0_0, pv0_1] 81 (0, 0))]) Sz_81 rfl rfl rfl rfl rfl rfl ⟨rfl, h10.one, h11.one, trivial⟩ rfl rfl) rfl ?_)
  refine WM.nil (by kernel_rfl) <| WT.mono (l' := [(2, .pointer (some ⟨b_2, 0, none⟩))]) (S' := St w0 Φ_12 [(b_2, .cells #[.int .i64 p0.Rule, v10, v11] 81 (0, 0))] [ob v11, ob v10]) ⟨rfl, trivial⟩ (fun w1 hw => (hw.sel (js := [0, 0]) rfl).selO (js := [0]) rfl) ?_
  exact K (Φ_12, x5, v10, x6, v11, p0.Rule) ⟨h, h10, h11⟩
 have rc6 : RC RTBind 4 Φ ([] : List (List Nat)) [] ([] : List TBind) := RC.nil _ _ _
 refine me rfl (fun _ v Φx D w1 hq hw => Kn.of (fun k hk _ _ => by simp at hk) (AllIn.mem ⟨List.mem_of_getElem? (i := 0) rfl, List.mem_of_getElem? (i := 1) rfl, trivial⟩) hw) (e_lit (vs := []) (C := #[]) RTBind.lasts Sl_79 Zr_194 rfl rfl rfl rfl (fill_made MC_194_0 (fill_nil)) rfl rc6 rfl (by simpa using Kw.nil)) rfl (fun v12 Φ_13 D12 q12 => ?_)
 obtain ⟨fr12, h12⟩ := q12
 replace h12 : OSl RTBind 194 4 Φ_13 [] v12 ([] : List TBind) := by simpa using h12
 replace ph0_0 := ph0_0.frame RI.lasts fr12 (Dj.empty _)
 replace ph0_1 := ph0_1.frame RTBind.lasts fr12 (Dj.empty _)
 have rc7 : RC (RI .i64) 1 Φ_13 ([] : List (List Nat)) [] ([] : List Int) := RC.nil _ _ _
 refine WM.one 2 (by kernel_rfl) (me rfl (fun _ v Φx D w1 hq hw => Kn.of (fun k hk _ _ => by simp at hk) (AllIn.mem ⟨List.mem_of_getElem? (i := 0) rfl, List.mem_of_getElem? (i := 1) rfl, trivial⟩) hw) (e_lit (vs := []) (C := #[]) RI.lasts Sl_78 Zr_3 rfl rfl rfl rfl (fill_made MC_3_0 (fill_nil)) rfl rc7 rfl (by simpa using Kw.nil)) rfl (fun v13 Φ_14 D13 q13 => ?_))
 obtain ⟨fr13, h13⟩ := q13
 replace h13 : OSl (RI .i64) 3 1 Φ_14 [] v13 ([] : List Int) := by simpa using h13
 replace ph0_0 := ph0_0.frame RI.lasts fr13 (Dj.empty _)
 replace ph0_1 := ph0_1.frame RTBind.lasts fr13 (Dj.empty _)
 replace h12 := h12.frame RTBind.lasts fr13 (Dj.empty _) (Dj.empty _)
 obtain ⟨x7, hx7, h⟩ := bind_some h
 refine WM.one 5 (by kernel_rfl) (me rfl (fun _ v Φx D w1 hq hw => Kn.of (fun k hk _ _ => by simp at hk) (AllIn.mem ⟨List.mem_of_getElem? (i := 0) rfl, List.mem_of_getElem? (i := 1) rfl, trivial⟩) hw) (e_appF RI.lasts RI.one RI.flat Sl_78 Ei_3 rfl rfl rfl rfl rfl (js := [0]) (Rr := [ob v12]) rfl h13 ph0_0 hx7) rfl (fun v14 Φ_15 D14 q14 => ?_))
 obtain ⟨⟨ap7, fr14⟩, h14⟩ := q14
 replace ph0_1 := ph0_1.frame RTBind.lasts fr14 (ap7.o pa0_1)
 replace h12 := h12.frame RTBind.lasts fr14 (ap7.r (i := 0) rfl) (Dj.nil _)
 obtain ⟨x8, hx8, h⟩ := bind_some h
 refine WM.one 9 (by kernel_rfl) (me rfl (fun _ v Φx D w1 hq hw => Kn.of (fun k hk _ _ => by simp at hk) (AllIn.mem ⟨List.mem_of_getElem? (i := 0) rfl, List.mem_of_getElem? (i := 1) rfl, trivial⟩) hw) (e_appF RTBind.lasts RTBind.one RTBind.flat Sl_79 Ei_194 rfl rfl rfl rfl rfl (js := [1]) (Rr := [ob v14]) rfl h12 ph0_1 hx8) rfl (fun v15 Φ_16 D15 q15 => ?_))
 obtain ⟨⟨ap8, fr15⟩, h15⟩ := q15
 replace h14 := h14.frame RI.lasts fr15 (ap8.r (i := 0) rfl) (Dj.nil _)
 refine mq 10 rfl (by kernel_rfl) (fun w1 hw => Kn.of (fun k hk _ _ => by simp at hk) (AllIn.mem ⟨List.mem_of_getElem? (i := 0) rfl, List.mem_of_getElem? (i := 1) rfl, trivial⟩) hw) (q_build (vs := [(0, .int .i64 p0.Rule), (1, v14), (2, v15)]) (C := #[.int .i64 p0.Rule, v14, v15]) Pl_81 Zr_81 rfl (fill_cons (cells := [.int .i64 0, .slice none 0 0, .slice none 0 0]) (c := [.int .i64 p0.Rule]) (C' := [.int .i64 p0.Rule, .slice none 0 0, .slice none 0 0]) rfl rfl rfl rfl rfl (fill_cons (cells := [.int .i64 p0.Rule, .slice none 0 0, .slice none 0 0]) (c := [v14]) (C' := [.int .i64 p0.Rule, v14, .slice none 0 0]) rfl (one_cells h14.one) rfl rfl rfl (fill_cons (cells := [.int .i64 p0.Rule, v14, .slice none 0 0]) (c := [v15]) (C' := [.int .i64 p0.Rule, v14, v15]) rfl (one_cells h15.one) rfl rfl rfl (fill_nil))))) rfl ?_
 refine WM.one 11 (by kernel_rfl) (ms rfl (fun hc => by cases hc) (s_store (i := 0) (vs := [.int .i64 p0.Rule, v14, v15]) (C' := [.int .i64 p0.Rule, v14, v15]) (O' := [(b_2, .cells #[.int .i64 p0.Rule, v14, v15] 81 (0, 0)), (b_1, .cells #[.int .i64 p0.Rule, pv0_0, pv0_1] 81 (0, 0))]) Sz_81 rfl rfl rfl rfl rfl rfl ⟨rfl, h14.one, h15.one, trivial⟩ rfl rfl) rfl ?_)
 refine WM.nil (by kernel_rfl) <| WT.mono (l' := [(2, .pointer (some ⟨b_2, 0, none⟩))]) (S' := St w0 Φ_16 [(b_2, .cells #[.int .i64 p0.Rule, v14, v15] 81 (0, 0))] [ob v15, ob v14]) ⟨rfl, trivial⟩ (fun w1 hw => (hw.sel (js := [0, 0]) rfl).selO (js := [0]) rfl) ?_
 exact K (Φ_16, x7, v14, x8, v15, p0.Rule) ⟨h, h14, h15⟩
theorem m_s_PickMatch_ok {Φ : Hp} {w : World} (hΦ : In Φ w) (N : Nat) (p0 : TDef) (p1 : (List TMatch)) (p2 : (List TMatch)) {pv0_0 : Value} {pG0_0 : List Nat} {pv1 : Value} {pG1 : List Nat} {pv2 : Value} {pG2 : List Nat} (ph0_0 : RSl RTRule 5 Φ pG0_0 pv0_0 p0.Rules) (ph1 : RSl RTMatch 3 Φ pG1 pv1 p1) (ph2 : RSl RTMatch 3 Φ pG2 pv2 p2) {r : TMatch × Bool} (h : m_s_PickMatch N p0 p1 p2 = some r) :
  Calls Try.prog 41 [.agg [.string p0.Name, pv0_0].toArray, pv1, pv2].toArray w (PostG Φ w [] (fun Φ' Fs v => ∃ (sr_0_0 : Value) (sr_0_1 : Value), v = .tuple #[.agg [.int .i64 r.1.Rule, sr_0_0, sr_0_1].toArray, .bool r.2] ∧ Fs = [ob sr_0_0, ob sr_0_1] ∧ OSl (RI .i64) 3 1 Φ' [] sr_0_0 r.1.Ids ∧ OSl RTBind 194 4 Φ' [] sr_0_1 r.1.Binds)) := by
 refine enter Try.func41 rfl Try.ntmps41 rfl (St.start0 hΦ) ?_
 generalize hb0 : (⟨w, [], Φ⟩ : Base) = w0
 unfold m_s_PickMatch at h
 refine WT.seq <| WT.region ?_
 refine ln (n_box (C := #[.string p0.Name, pv0_0]) rfl rfl) rfl (fun b_1 => ?_)
 refine ln (n_alloc (C := #[.int .i64 0, .slice none 0 0, .slice none 0 0]) Zr_81 rfl) rfl (fun b_2 => ?_)
 refine lq (q_assign rfl) rfl <| WL.nil <| WT.seq <| WT.region <| lq (q_assign rfl) rfl <| WL.nil <| WT.seq <| WT.seq <| WT.region <| lq (q_assign rfl) rfl <| WL.nil <| WT.block <| WT.loop <| WT.mono (l' := [(1, pv1), (2, pv2), (3, .pointer (some ⟨b_1, 0, none⟩)), (6, .pointer (some ⟨b_2, 0, none⟩)), (8, .int .i64 (-1)), (9, .int .i64 0)]) (S' := St w0 Φ [(b_2, .cells #[.int .i64 0, .slice none 0 0, .slice none 0 0] 81 (0, 0)), (b_1, .cells #[.string p0.Name, pv0_0] 29 (0, 0))] []) ⟨rfl, rfl, rfl, rfl, rfl, rfl, trivial⟩ (fun w1 hw => (hw.sel (js := []) rfl).selO (js := [0, 0]) rfl) ?_
 refine loop_ind (σ := Int × Int) (fun s => [(1, pv1), (2, pv2), (3, .pointer (some ⟨b_1, 0, none⟩)), (6, .pointer (some ⟨b_2, 0, none⟩)), (8, .int .i64 s.1), (9, .int .i64 s.2)]) (fun s => St w0 Φ [(b_2, .cells #[.int .i64 0, .slice none 0 0, .slice none 0 0] 81 (0, 0)), (b_1, .cells #[.string p0.Name, pv0_0] 29 (0, 0))] []) (fun m s => m_s_PickMatch_l1 N p0 p1 p2 m s.1 s.2 = some r) (fun s hm => none_ne (show (none : Option (TMatch × Bool)) = some r from hm)) (fun n1 ih1 s hm => ?_) N ((-1), 0) h
 obtain ⟨s1, s2⟩ := s
 have h : m_s_PickMatch_l1 N p0 p1 p2 (n1 + 1) s1 s2 = some r := hm
 show WT _ _ [(1, pv1), (2, pv2), (3, .pointer (some ⟨b_1, 0, none⟩)), (6, .pointer (some ⟨b_2, 0, none⟩)), (8, .int .i64 s1), (9, .int .i64 s2)] (St w0 Φ [(b_2, .cells #[.int .i64 0, .slice none 0 0, .slice none 0 0] 81 (0, 0)), (b_1, .cells #[.string p0.Name, pv0_0] 29 (0, 0))] [])
 unfold m_s_PickMatch_l1 at h
 refine WT.seq <| WT.seq <| WT.region <| lq (q_move rfl) rfl <| lq (q_move rfl) rfl <| lq (q_lenR Sl_75 rfl rfl ph1) rfl <| lq (q_lss rfl rfl) rfl <| WL.nil ?_
 refine WT.cond rfl (fun c1 => ?_) (fun c1 => ?_)
 ·replace h := ite_t h c1
  refine WT.skip <| WT.seq <| WT.block <| WT.seq <| WT.draw mixed (by kernel_rfl) (fun _ h => h.drew) <| qq (q_loadN Tn_29 rfl (fun w1 hw => hw.rgO (i := 1) rfl 0 2 [.string p0.Name, pv0_0] rfl) rfl) rfl <| qq (q_move rfl) rfl <| qq (q_move rfl) rfl ?_
  obtain ⟨x1, hx1, h⟩ := bind_some h
  obtain ⟨cs1, F1, -, g1, hb1, hs1, r1⟩ := ph1.el (idx_some hx1).2.2
  obtain ⟨v1, G1, v2, G2, rfl, rfl, h1, h2⟩ := r1
  refine qq (q_indexAddr Sl_75 rfl rfl ph1 hx1) rfl <| qq (q_loadN Tn_81 rfl (fun w1 hw => (g1.of_eq 0 3 rfl rfl : rg _ _ _ [.int .i64 x1.Rule, v1, v2]).rangeAt hw.fro) rfl) rfl ?_
  obtain ⟨x2, hx2, h⟩ := bind_some h
  refine qp (p_call Fun_113 rfl (fun w1 hw => m_s_l15Rule_ok hw.fro N p0 x1 ph0_0 h1 h2 hx2)) rfl <| qq (q_move rfl) rfl ?_
  obtain ⟨b1, hb_1, h⟩ := bind_some h
  refine WQ.cutN 8 [(30, .bool b1), (1, pv1), (2, pv2), (3, .pointer (some ⟨b_1, 0, none⟩)), (6, .pointer (some ⟨b_2, 0, none⟩)), (8, .int .i64 s1), (9, .int .i64 s2)] ?_ (fun K => ?_)
  rotate_left
  ·refine WQ.split (d := 22) rfl (fun c2 => ?_) (fun c2 => ?_)
   ·replace hb_1 := ite_t hb_1 c2
    refine WQ.yes rfl rfl <| qq (q_move rfl) rfl <| WQ.yes rfl rfl <| qq (q_move rfl) rfl <| WQ.yes rfl rfl <| qq (q_move rfl) rfl <| WQ.yes rfl rfl ?_
    obtain ⟨x3, hx3, hb_1⟩ := bind_some hb_1
    obtain ⟨cs2, F2, -, g2, hb2, hs2, r2⟩ := ph1.el (idx_some hx3).2.2
    obtain ⟨v3, G3, v4, G4, rfl, rfl, h3, h4⟩ := r2
    refine qq (q_indexAddr Sl_75 rfl rfl ph1 hx3) rfl <| WQ.yes rfl rfl <| qq (q_loadN Tn_81 rfl (fun w1 hw => (g2.of_eq 0 3 rfl rfl : rg _ _ _ [.int .i64 x3.Rule, v3, v4]).rangeAt hw.fro) rfl) rfl <| WQ.yes rfl rfl ?_
    obtain ⟨x4, hx4, hb_1⟩ := bind_some hb_1
    refine qp (p_call Fun_114 rfl (fun w1 hw => m_s_FiredHas_ok hw.fro N p2 x3 ph2 h3 h4 hx4)) rfl <| WQ.yes rfl rfl <| qq (q_not rfl) rfl <| WQ.q (q_pick1 rfl rfl) rfl rfl rfl ?_
    cases hb_1
    exact WQ.keep (by exact ⟨rfl, rfl, rfl, rfl, rfl, rfl, rfl, trivial⟩) K
   ·replace hb_1 := ite_f hb_1 c2
    refine WQ.no rfl rfl rfl rfl <| WQ.no rfl rfl rfl rfl <| WQ.no rfl rfl rfl rfl <| WQ.no rfl rfl rfl rfl <| WQ.no rfl rfl rfl rfl <| WQ.no rfl rfl rfl rfl <| WQ.no rfl rfl rfl rfl <| WQ.q (q_pick0 rfl rfl) rfl rfl rfl ?_
    cases hb_1
    exact WQ.keep (by exact ⟨rfl, rfl, rfl, rfl, rfl, rfl, rfl, trivial⟩) K
  refine qq (q_move rfl) rfl ?_
  obtain ⟨b2, hb_2, h⟩ := bind_some h
  refine WQ.cutN 15 [(46, .bool b2), (1, pv1), (2, pv2), (3, .pointer (some ⟨b_1, 0, none⟩)), (6, .pointer (some ⟨b_2, 0, none⟩)), (8, .int .i64 s1), (9, .int .i64 s2)] ?_ (fun K => ?_)
  rotate_left
  ·refine WQ.split (d := 31) rfl (fun c3 => ?_) (fun c3 => ?_)
   ·replace hb_2 := ite_t hb_2 c3
    refine WQ.yes rfl rfl <| qq (q_move rfl) rfl <| WQ.yes rfl rfl <| qq (q_lss rfl rfl) rfl <| WQ.yes rfl rfl <| qq (q_move rfl) rfl ?_
    obtain ⟨b3, hb_3, hb_2⟩ := bind_some hb_2
    refine WQ.cutN 11 [(45, .bool b3), (1, pv1), (2, pv2), (3, .pointer (some ⟨b_1, 0, none⟩)), (6, .pointer (some ⟨b_2, 0, none⟩)), (8, .int .i64 s1), (9, .int .i64 s2), (31, .bool true)] ?_ (fun K => ?_)
    rotate_left
    ·refine WQ.split (d := 34) rfl (fun c4 => ?_) (fun c4 => ?_)
     ·replace hb_3 := ite_t hb_3 c4
      refine WQ.no rfl rfl rfl rfl <| WQ.no rfl rfl rfl rfl <| WQ.no rfl rfl rfl rfl <| WQ.no rfl rfl rfl rfl <| WQ.no rfl rfl rfl rfl <| WQ.no rfl rfl rfl rfl <| WQ.no rfl rfl rfl rfl <| WQ.no rfl rfl rfl rfl <| WQ.no rfl rfl rfl rfl <| WQ.no rfl rfl rfl rfl <| WQ.yes rfl rfl <| WQ.q (q_pick1 rfl rfl) rfl rfl rfl ?_
      cases hb_3
      exact WQ.keep (by exact ⟨rfl, rfl, rfl, rfl, rfl, rfl, rfl, rfl, trivial⟩) K
     ·replace hb_3 := ite_f hb_3 c4
      refine WQ.yes rfl rfl <| qq (q_loadN Tn_29 rfl (fun w1 hw => hw.rgO (i := 1) rfl 0 2 [.string p0.Name, pv0_0] rfl) rfl) rfl <| WQ.yes rfl rfl <| qq (q_move rfl) rfl <| WQ.yes rfl rfl <| qq (q_move rfl) rfl <| WQ.yes rfl rfl ?_
      obtain ⟨x5, hx5, hb_3⟩ := bind_some hb_3
      obtain ⟨cs3, F3, -, g3, hb3, hs3, r3⟩ := ph1.el (idx_some hx5).2.2
      obtain ⟨v5, G5, v6, G6, rfl, rfl, h5, h6⟩ := r3
      refine qq (q_indexAddr Sl_75 rfl rfl ph1 hx5) rfl <| WQ.yes rfl rfl <| qq (q_loadN Tn_81 rfl (fun w1 hw => (g3.of_eq 0 3 rfl rfl : rg _ _ _ [.int .i64 x5.Rule, v5, v6]).rangeAt hw.fro) rfl) rfl <| WQ.yes rfl rfl <| qq (q_move rfl) rfl <| WQ.yes rfl rfl <| qq (q_move rfl) rfl <| WQ.yes rfl rfl ?_
      obtain ⟨x6, hx6, hb_3⟩ := bind_some hb_3
      obtain ⟨cs4, F4, -, g4, hb4, hs4, r4⟩ := ph1.el (idx_some hx6).2.2
      obtain ⟨v7, G7, v8, G8, rfl, rfl, h7, h8⟩ := r4
      refine qq (q_indexAddr Sl_75 rfl rfl ph1 hx6) rfl <| WQ.yes rfl rfl <| qq (q_loadN Tn_81 rfl (fun w1 hw => (g4.of_eq 0 3 rfl rfl : rg _ _ _ [.int .i64 x6.Rule, v7, v8]).rangeAt hw.fro) rfl) rfl <| WQ.yes rfl rfl ?_
      obtain ⟨x7, hx7, hb_3⟩ := bind_some hb_3
      refine qp (p_call Fun_48 rfl (fun w1 hw => m_s_Urgent_ok hw.fro N p0 x5 x6 ph0_0 h5 h6 h7 h8 hx7)) rfl <| WQ.yes rfl rfl <| WQ.q (q_pick0 rfl rfl) rfl rfl rfl ?_
      cases hb_3
      exact WQ.keep (by exact ⟨rfl, rfl, rfl, rfl, rfl, rfl, rfl, rfl, trivial⟩) K
    refine WQ.q (q_pick1 rfl rfl) rfl rfl rfl ?_
    cases hb_2
    exact WQ.keep (by exact ⟨rfl, rfl, rfl, rfl, rfl, rfl, rfl, trivial⟩) K
   ·replace hb_2 := ite_f hb_2 c3
    refine WQ.no rfl rfl rfl rfl <| WQ.no rfl rfl rfl rfl <| WQ.no rfl rfl rfl rfl <| WQ.nox rfl rfl rfl rfl <| WQ.nox rfl rfl rfl rfl <| WQ.nox rfl rfl rfl rfl <| WQ.nox rfl rfl rfl rfl <| WQ.nox rfl rfl rfl rfl <| WQ.nox rfl rfl rfl rfl <| WQ.nox rfl rfl rfl rfl <| WQ.nox rfl rfl rfl rfl <| WQ.nox rfl rfl rfl rfl <| WQ.nox rfl rfl rfl rfl <| WQ.no rfl rfl rfl rfl <| WQ.q (q_pick0 rfl rfl) rfl rfl rfl ?_
    cases hb_2
    exact WQ.keep (by exact ⟨rfl, rfl, rfl, rfl, rfl, rfl, rfl, trivial⟩) K
  refine WQ.nil ?_
  refine WT.cond rfl (fun c5 => ?_) (fun c5 => ?_)
  ·replace h := ite_t h c5
   refine WT.region <| lq (q_move rfl) rfl <| lq (q_assign rfl) rfl <| WL.nil <| WT.inBlock <| WT.region <| lq (q_move rfl) rfl <| lq (q_add rfl rfl) rfl <| lq (q_assign rfl) rfl <| WL.nil ?_
   refine WT.inLoop (WT.mono (l' := [(1, pv1), (2, pv2), (3, .pointer (some ⟨b_1, 0, none⟩)), (6, .pointer (some ⟨b_2, 0, none⟩)), (8, .int .i64 s2), (9, .int .i64 (IntKind.i64.wrap (s2 + 1)))]) (S' := St w0 Φ [(b_2, .cells #[.int .i64 0, .slice none 0 0, .slice none 0 0] 81 (0, 0)), (b_1, .cells #[.string p0.Name, pv0_0] 29 (0, 0))] []) ⟨rfl, rfl, rfl, rfl, rfl, rfl, trivial⟩ (fun w1 hw => (hw.sel (js := []) rfl).selO (js := [0, 0]) rfl) ?_)
   exact ih1 (s2, IntKind.i64.wrap (s2 + 1)) h
  replace h := ite_f h c5
  refine WT.skip <| WT.inBlock <| WT.region <| lq (q_move rfl) rfl <| lq (q_add rfl rfl) rfl <| lq (q_assign rfl) rfl <| WL.nil ?_
  refine WT.inLoop (WT.mono (l' := [(1, pv1), (2, pv2), (3, .pointer (some ⟨b_1, 0, none⟩)), (6, .pointer (some ⟨b_2, 0, none⟩)), (8, .int .i64 s1), (9, .int .i64 (IntKind.i64.wrap (s2 + 1)))]) (S' := St w0 Φ [(b_2, .cells #[.int .i64 0, .slice none 0 0, .slice none 0 0] 81 (0, 0)), (b_1, .cells #[.string p0.Name, pv0_0] 29 (0, 0))] []) ⟨rfl, rfl, rfl, rfl, rfl, rfl, trivial⟩ (fun w1 hw => (hw.sel (js := []) rfl).selO (js := [0, 0]) rfl) ?_)
  exact ih1 (s1, IntKind.i64.wrap (s2 + 1)) h
 replace h := ite_f h c1
 refine WT.exit rfl <| WT.seq <| WT.seq <| WT.region <| lq (q_move rfl) rfl <| lq (q_lss rfl rfl) rfl <| WL.nil ?_
 refine WT.cond rfl (fun c6 => ?_) (fun c6 => ?_)
 ·replace h := ite_t h c6
  refine WT.seq <| WT.region <| lq (q_build (vs := []) (C := #[.int .i64 0, .slice none 0 0, .slice none 0 0]) Pl_81 Zr_81 rfl (fill_nil)) rfl <| ls (s_store (i := 0) (vs := [.int .i64 0, .slice none 0 0, .slice none 0 0]) (C' := [.int .i64 0, .slice none 0 0, .slice none 0 0]) (O' := [(b_2, .cells #[.int .i64 0, .slice none 0 0, .slice none 0 0] 81 (0, 0)), (b_1, .cells #[.string p0.Name, pv0_0] 29 (0, 0))]) Sz_81 rfl rfl rfl rfl rfl rfl ⟨rfl, rfl, rfl, trivial⟩ rfl rfl) rfl ?_
  refine lq (q_assign rfl) rfl <| WL.nil ?_
  refine WT.ret Try.func41 (resOk.two (rv_cell Tn_81 rfl (fun w1 hw => hw.rgO (i := 0) rfl 0 3 [.int .i64 0, .slice none 0 0, .slice none 0 0] rfl) rfl) rfl) (fun w1 hw => ?_)
  subst hb0
  cases h
  replace hw := hw.addNil
  replace hw := hw.addNil
  refine postG_of_St (js := [1, 0]) hw rfl ⟨.slice none 0 0, .slice none 0 0, rfl, rfl, OSl.nil _ _ _ _, OSl.nil _ _ _ _⟩
 replace h := ite_f h c6
 refine WT.skip <| WT.seq <| WT.region <| lq (q_move rfl) rfl <| lq (q_move rfl) rfl ?_
 obtain ⟨x8, hx8, h⟩ := bind_some h
 obtain ⟨cs5, F5, -, g5, hb5, hs5, r5⟩ := ph1.el (idx_some hx8).2.2
 obtain ⟨v9, G9, v10, G10, rfl, rfl, h9, h10⟩ := r5
 refine lq (q_indexAddr Sl_75 rfl rfl ph1 hx8) rfl <| lq (q_loadN Tn_81 rfl (fun w1 hw => (g5.of_eq 0 3 rfl rfl : rg _ _ _ [.int .i64 x8.Rule, v9, v10]).rangeAt hw.fro) rfl) rfl ?_
 obtain ⟨x9, hx9, h⟩ := bind_some h
 refine lc (k_call (js := []) (R := []) Fun_115 rfl rfl (fun w1 hw ap hl => m_s_l15CopyMatch_ok hw.fro N x8 h9 h10  hx9)) rfl (fun v11 Φ_1 F6 q1 => ?_)
 obtain ⟨ap1, fr1, v12, v13, rfl, rfl, h11, h12⟩ := q1
 refine ls (s_store (i := 0) (vs := [.int .i64 x9.Rule, v12, v13]) (C' := [.int .i64 x9.Rule, v12, v13]) (O' := [(b_2, .cells #[.int .i64 x9.Rule, v12, v13] 81 (0, 0)), (b_1, .cells #[.string p0.Name, pv0_0] 29 (0, 0))]) Sz_81 rfl rfl rfl rfl rfl rfl ⟨rfl, h11.one, h12.one, trivial⟩ rfl rfl) rfl <| lq (q_assign rfl) rfl <| WL.nil ?_
 refine WT.ret Try.func41 (resOk.two (rv_cell Tn_81 rfl (fun w1 hw => hw.rgO (i := 0) rfl 0 3 [.int .i64 x9.Rule, v12, v13] rfl) rfl) rfl) (fun w1 hw => ?_)
 subst hb0
 cases h
 refine postG_of_St (js := [0, 0]) hw rfl ⟨v12, v13, rfl, rfl, h11, h12⟩
theorem m_l_FnPicked_ok {Φ : Hp} {w : World} (hΦ : In Φ w) (N : Nat) (p0 : (List Int)) {pv0 : Value} {pG0 : List Nat} (ph0 : RSl (RI .u8) 1 Φ pG0 pv0 p0) {r : Bool} (h : m_l_FnPicked N p0 = some r) :
  Calls Try.prog 7 [pv0].toArray w (Post (.bool r) w) := by
 refine enter Try.func7 rfl Try.ntmps7 rfl (St.start0 hΦ) ?_
 generalize hb0 : (⟨w, [], Φ⟩ : Base) = w0
 unfold m_l_FnPicked at h
 refine WT.seq <| WT.region <| lq (q_assign rfl) rfl <| WL.nil <| WT.seq <| WT.seq <| WT.region <| lq (q_move rfl) rfl ?_
 obtain ⟨x1, hx1, h⟩ := bind_some h
 refine lp (p_call Fun_38 rfl (fun w1 hw => m_l_big_ok hw.fro N p0 ph0 hx1)) rfl <| WL.nil ?_
 refine WT.cond rfl (fun c1 => ?_) (fun c1 => ?_)
 ·replace h := ite_t h c1
  refine WT.seq <| WT.region <| lq (q_assign rfl) rfl <| WL.nil ?_
  refine WT.ret Try.func7 (resOk.one rfl) (fun w1 hw => ?_)
  subst hb0
  cases h
  exact post_of_St hw
 replace h := ite_f h c1
 refine WT.skip <| WT.seq <| WT.region <| lq (q_move rfl) rfl ?_
 obtain ⟨x2, hx2, h⟩ := bind_some h
 refine lc (k_call (js := []) (R := []) Fun_39 rfl rfl (fun w1 hw ap hl => m_s_DrawPickMatch_ok hw.fro N p0 ph0  hx2)) rfl (fun v1 Φ_1 F1 q1 => ?_)
 obtain ⟨ap1, fr1, v2, D1, v3, D2, v4, D3, X1, rfl, rfl, h1, h2, i1, h3, i2⟩ := q1
 refine lq (q_move rfl) rfl <| lq (q_extract rfl rfl) rfl <| lq (q_extract rfl rfl) rfl <| lq (q_extract rfl rfl) rfl ?_
 refine ln (n_alloc (C := #[.string (⟨#[]⟩ : ByteArray), .slice none 0 0]) Zr_29 rfl) rfl (fun b_1 => ?_)
 refine ls (s_store (i := 0) (vs := [.string x2.1.Name, v2]) (C' := [.string x2.1.Name, v2]) (O' := [(b_1, .cells #[.string x2.1.Name, v2] 29 (0, 0))]) Sz_29 rfl rfl rfl rfl rfl rfl ⟨rfl, h1.one, trivial⟩ rfl rfl) rfl <| lq (q_assign rfl) rfl <| lq (q_assign rfl) rfl <| WL.nil <| WT.seq <| WT.region <| lq (q_loadN Tn_29 rfl (fun w1 hw => hw.rgO (i := 0) rfl 0 2 [.string x2.1.Name, v2] rfl) rfl) rfl <| lq (q_move rfl) rfl <| lq (q_move rfl) rfl ?_
 obtain ⟨x4, hx3, h⟩ := bind_some h
 refine lc (k_call (js := []) (R := [ob v2, D1, ob v3, ob v4, X1]) Fun_40 rfl rfl (fun w1 hw ap hl => m_i_PickMatch_ok hw.fro N x2.1 x2.2.1 x2.2.2 (h1.rslG OTRule.gives) h2.rsl h3.rsl  hx3)) rfl (fun v5 Φ_2 F2 q2 => ?_)
 obtain ⟨ap2, fr2, v6, v7, rfl, rfl, h4, h5⟩ := q2
 replace h1 := h1.frame OTRule.lasts fr2 (ap2.r (i := 0) rfl) (ap2.r (i := 1) rfl)
 replace h2 := h2.frame RTMatch.lasts fr2 (ap2.r (i := 2) rfl) (Dj.sub (ap2.r (i := 4) rfl) i1)
 replace h3 := h3.frame RTMatch.lasts fr2 (ap2.r (i := 3) rfl) (Dj.sub (ap2.r (i := 4) rfl) i2)
 refine lq (q_move rfl) rfl <| lq (q_extract rfl rfl) rfl <| lq (q_extract rfl rfl) rfl ?_
 refine ln (n_alloc (C := #[.int .i64 0, .slice none 0 0, .slice none 0 0]) Zr_81 rfl) rfl (fun b_2 => ?_)
 refine ls (s_store (i := 0) (vs := [.int .i64 x4.1.Rule, v6, v7]) (C' := [.int .i64 x4.1.Rule, v6, v7]) (O' := [(b_2, .cells #[.int .i64 x4.1.Rule, v6, v7] 81 (0, 0)), (b_1, .cells #[.string x2.1.Name, v2] 29 (0, 0))]) Sz_81 rfl rfl rfl rfl rfl rfl ⟨rfl, h4.one, h5.one, trivial⟩ rfl rfl) rfl <| lq (q_assign rfl) rfl <| WL.nil <| WT.seq <| WT.region <| lq (q_loadN Tn_29 rfl (fun w1 hw => hw.rgO (i := 1) rfl 0 2 [.string x2.1.Name, v2] rfl) rfl) rfl ?_
 refine lq (q_move rfl) rfl <| lq (q_move rfl) rfl ?_
 obtain ⟨x5, hx4, h⟩ := bind_some h
 refine lc (k_call (js := []) (R := [ob v6, ob v7, ob v2, D1, ob v3, ob v4, X1]) Fun_41 rfl rfl (fun w1 hw ap hl => m_s_PickMatch_ok hw.fro N x2.1 x2.2.1 x2.2.2 (h1.rslG OTRule.gives) h2.rsl h3.rsl  hx4)) rfl (fun v8 Φ_3 F3 q3 => ?_)
 obtain ⟨ap3, fr3, v9, v10, rfl, rfl, h6, h7⟩ := q3
 replace h1 := h1.frame OTRule.lasts fr3 (ap3.r (i := 2) rfl) (ap3.r (i := 3) rfl)
 replace h2 := h2.frame RTMatch.lasts fr3 (ap3.r (i := 4) rfl) (Dj.sub (ap3.r (i := 6) rfl) i1)
 replace h3 := h3.frame RTMatch.lasts fr3 (ap3.r (i := 5) rfl) (Dj.sub (ap3.r (i := 6) rfl) i2)
 replace h4 := h4.frame RI.lasts fr3 (ap3.r (i := 0) rfl) (Dj.nil _)
 replace h5 := h5.frame RTBind.lasts fr3 (ap3.r (i := 1) rfl) (Dj.nil _)
 refine lq (q_move rfl) rfl <| lq (q_extract rfl rfl) rfl <| lq (q_extract rfl rfl) rfl ?_
 refine ln (n_alloc (C := #[.int .i64 0, .slice none 0 0, .slice none 0 0]) Zr_81 rfl) rfl (fun b_3 => ?_)
 refine ls (s_store (i := 0) (vs := [.int .i64 x5.1.Rule, v9, v10]) (C' := [.int .i64 x5.1.Rule, v9, v10]) (O' := [(b_3, .cells #[.int .i64 x5.1.Rule, v9, v10] 81 (0, 0)), (b_2, .cells #[.int .i64 x4.1.Rule, v6, v7] 81 (0, 0)), (b_1, .cells #[.string x2.1.Name, v2] 29 (0, 0))]) Sz_81 rfl rfl rfl rfl rfl rfl ⟨rfl, h6.one, h7.one, trivial⟩ rfl rfl) rfl <| lq (q_assign rfl) rfl <| WL.nil <| WT.seq <| WT.seq <| WT.region <| lq (q_move rfl) rfl ?_
 refine lq (q_move rfl) rfl <| lq (q_bne Bo_4 rfl rfl) rfl <| lq (q_move rfl) rfl ?_
 obtain ⟨b1, hb_1, h⟩ := bind_some h
 refine WL.cutN 3 [(40, .bool b1), (3, .pointer (some ⟨b_1, 0, none⟩)), (4, v3), (5, v4), (6, .pointer (some ⟨b_2, 0, none⟩)), (7, .bool x4.2), (9, .bool x5.2)] ?_ (fun K => ?_)
 rotate_left
 ·refine WL.split (d := 37) rfl (fun c2 => ?_) (fun c2 => ?_)
  ·replace hb_1 := ite_t hb_1 c2
   refine WL.no rfl rfl rfl rfl <| WL.no rfl rfl rfl rfl <| WL.q (q_pick1 rfl rfl) rfl rfl rfl ?_
   cases hb_1
   exact WL.keep (by exact ⟨rfl, rfl, rfl, rfl, rfl, rfl, rfl, trivial⟩) K
  ·replace hb_1 := ite_f hb_1 c2
   refine WL.yes rfl rfl <| lq (q_move rfl) rfl <| WL.yes rfl rfl <| lq (q_not rfl) rfl <| WL.q (q_pick0 rfl rfl) rfl rfl rfl ?_
   cases hb_1
   exact WL.keep (by exact ⟨rfl, rfl, rfl, rfl, rfl, rfl, rfl, trivial⟩) K
 refine WL.nil ?_
 refine WT.cond rfl (fun c3 => ?_) (fun c3 => ?_)
 ·replace h := ite_t h c3
  refine WT.seq <| WT.region <| lq (q_move rfl) rfl <| lq (q_move rfl) rfl <| lq (q_beq Bo_4 rfl rfl) rfl <| lq (q_move rfl) rfl ?_
  obtain ⟨b2, hb_2, h⟩ := bind_some h
  refine WL.cutN 5 [(49, .bool b2)] ?_ (fun K => ?_)
  rotate_left
  ·refine WL.split (d := 44) rfl (fun c4 => ?_) (fun c4 => ?_)
   ·replace hb_2 := ite_t hb_2 c4
    refine WL.yes rfl rfl <| lq (q_fieldAddr Fld_81_1 rfl) rfl <| WL.yes rfl rfl <| lq (q_load1 T1_78 rfl (fun w1 hw => hw.rgO (i := 1) rfl 1 1 [v6] rfl)) rfl <| WL.yes rfl rfl <| lq (q_lenR Sl_78 rfl rfl h4.rsl) rfl <| WL.yes rfl rfl <| lq (q_eql rfl rfl) rfl <| WL.q (q_pick1 rfl rfl) rfl rfl rfl ?_
    cases hb_2
    exact WL.keep (by exact ⟨rfl, trivial⟩) K
   ·replace hb_2 := ite_f hb_2 c4
    refine WL.no rfl rfl rfl rfl <| WL.no rfl rfl rfl rfl <| WL.no rfl rfl rfl rfl <| WL.no rfl rfl rfl rfl <| WL.q (q_pick0 rfl rfl) rfl rfl rfl ?_
    cases hb_2
    exact WL.keep (by exact ⟨rfl, trivial⟩) K
  refine lq (q_assign rfl) rfl <| WL.nil ?_
  refine WT.ret Try.func7 (resOk.one rfl) (fun w1 hw => ?_)
  subst hb0
  cases h
  exact post_of_St hw
 replace h := ite_f h c3
 refine WT.skip <| WT.seq <| WT.region <| lq (q_assign rfl) rfl <| WL.nil <| WT.seq <| WT.seq <| WT.region <| lq (q_assign rfl) rfl <| WL.nil <| WT.block <| WT.loop <| WT.mono (l' := [(3, .pointer (some ⟨b_1, 0, none⟩)), (4, v3), (5, v4), (6, .pointer (some ⟨b_2, 0, none⟩)), (10, .bool false), (11, .int .i64 0)]) (S' := St w0 Φ_3 [(b_2, .cells #[.int .i64 x4.1.Rule, v6, v7] 81 (0, 0)), (b_1, .cells #[.string x2.1.Name, v2] 29 (0, 0))] [ob v6, ob v7, ob v2, D1, ob v3, ob v4, X1]) ⟨rfl, rfl, rfl, rfl, rfl, rfl, trivial⟩ (fun w1 hw => (hw.sel (js := [2, 2, 2, 2, 2, 2, 2]) rfl).selO (js := [1, 1]) rfl) ?_
 refine loop_ind (σ := Bool × Int) (fun s => [(3, .pointer (some ⟨b_1, 0, none⟩)), (4, v3), (5, v4), (6, .pointer (some ⟨b_2, 0, none⟩)), (10, .bool s.1), (11, .int .i64 s.2)]) (fun s => St w0 Φ_3 [(b_2, .cells #[.int .i64 x4.1.Rule, v6, v7] 81 (0, 0)), (b_1, .cells #[.string x2.1.Name, v2] 29 (0, 0))] [ob v6, ob v7, ob v2, D1, ob v3, ob v4, X1]) (fun m s => m_l_FnPicked_l1 N x2 x4 m s.1 s.2 = some r) (fun s hm => none_ne (show (none : Option (Bool)) = some r from hm)) (fun n1 ih1 s hm => ?_) N (false, 0) h
 obtain ⟨s1, s2⟩ := s
 have h : m_l_FnPicked_l1 N x2 x4 (n1 + 1) s1 s2 = some r := hm
 show WT _ _ [(3, .pointer (some ⟨b_1, 0, none⟩)), (4, v3), (5, v4), (6, .pointer (some ⟨b_2, 0, none⟩)), (10, .bool s1), (11, .int .i64 s2)] (St w0 Φ_3 [(b_2, .cells #[.int .i64 x4.1.Rule, v6, v7] 81 (0, 0)), (b_1, .cells #[.string x2.1.Name, v2] 29 (0, 0))] [ob v6, ob v7, ob v2, D1, ob v3, ob v4, X1])
 unfold m_l_FnPicked_l1 at h
 refine WT.seq <| WT.seq <| WT.region <| lq (q_move rfl) rfl <| lq (q_move rfl) rfl <| lq (q_lenR Sl_75 rfl rfl h2.rsl) rfl <| lq (q_lss rfl rfl) rfl <| WL.nil ?_
 refine WT.cond rfl (fun c5 => ?_) (fun c5 => ?_)
 ·replace h := ite_t h c5
  refine WT.skip <| WT.seq <| WT.block <| WT.seq <| WT.draw mixed (by kernel_rfl) (fun _ h => h.drew) <| qq (q_move rfl) rfl <| qq (q_move rfl) rfl ?_
  obtain ⟨b3, hb_3, h⟩ := bind_some h
  refine WQ.cutN 7 [(64, .bool b3), (3, .pointer (some ⟨b_1, 0, none⟩)), (4, v3), (5, v4), (6, .pointer (some ⟨b_2, 0, none⟩)), (10, .bool s1), (11, .int .i64 s2)] ?_ (fun K => ?_)
  rotate_left
  ·refine WQ.split (d := 57) rfl (fun c6 => ?_) (fun c6 => ?_)
   ·replace hb_3 := ite_t hb_3 c6
    refine WQ.no rfl rfl rfl rfl <| WQ.no rfl rfl rfl rfl <| WQ.no rfl rfl rfl rfl <| WQ.no rfl rfl rfl rfl <| WQ.no rfl rfl rfl rfl <| WQ.no rfl rfl rfl rfl <| WQ.q (q_pick1 rfl rfl) rfl rfl rfl ?_
    cases hb_3
    exact WQ.keep (by exact ⟨rfl, rfl, rfl, rfl, rfl, rfl, rfl, trivial⟩) K
   ·replace hb_3 := ite_f hb_3 c6
    refine WQ.yes rfl rfl <| qq (q_move rfl) rfl <| WQ.yes rfl rfl <| qq (q_move rfl) rfl <| WQ.yes rfl rfl ?_
    obtain ⟨x6, hx5, hb_3⟩ := bind_some hb_3
    obtain ⟨cs1, F4, -, g1, hb1, hs1, r1⟩ := h2.elS (idx_some hx5).2.2
    obtain ⟨v11, G1, v12, G2, rfl, rfl, h8, h9⟩ := r1
    refine qq (q_indexAddr Sl_75 rfl rfl h2.rsl hx5) rfl <| WQ.yes rfl rfl <| qq (q_loadN Tn_81 rfl (fun w1 hw => (g1.of_eq 0 3 rfl rfl : rg _ _ _ [.int .i64 x6.Rule, v11, v12]).rangeAt hw.fro) rfl) rfl <| WQ.yes rfl rfl <| qq (q_loadN Tn_81 rfl (fun w1 hw => hw.rgO (i := 0) rfl 0 3 [.int .i64 x4.1.Rule, v6, v7] rfl) rfl) rfl <| WQ.yes rfl rfl ?_
    obtain ⟨x7, hx6, hb_3⟩ := bind_some hb_3
    refine qp (p_call Fun_42 rfl (fun w1 hw => m_i_SameMatch_ok hw.fro N x6 x4.1 h8 h9 h4.rsl h5.rsl hx6)) rfl <| WQ.q (q_pick0 rfl rfl) rfl rfl rfl ?_
    cases hb_3
    exact WQ.keep (by exact ⟨rfl, rfl, rfl, rfl, rfl, rfl, rfl, trivial⟩) K
  refine qq (q_assign rfl) rfl <| WQ.nil <| WT.seq <| WT.draw mixed (by kernel_rfl) (fun _ h => h.drew) <| qq (q_move rfl) rfl <| qq (q_move rfl) rfl <| qq (q_move rfl) rfl ?_
  obtain ⟨x8, hx7, h⟩ := bind_some h
  obtain ⟨cs2, F5, -, g2, hb2, hs2, r2⟩ := h2.elS (idx_some hx7).2.2
  obtain ⟨v13, G3, v14, G4, rfl, rfl, h10, h11⟩ := r2
  refine qq (q_indexAddr Sl_75 rfl rfl h2.rsl hx7) rfl <| qq (q_loadN Tn_81 rfl (fun w1 hw => (g2.of_eq 0 3 rfl rfl : rg _ _ _ [.int .i64 x8.Rule, v13, v14]).rangeAt hw.fro) rfl) rfl ?_
  obtain ⟨x9, hx8, h⟩ := bind_some h
  refine qp (p_call Fun_43 rfl (fun w1 hw => m_i_FiredHas_ok hw.fro N x2.2.2 x8 h3.rsl h10 h11 hx8)) rfl <| qq (q_not rfl) rfl <| qq (q_move rfl) rfl ?_
  obtain ⟨b4, hb_4, h⟩ := bind_some h
  refine WQ.cutN 8 [(80, .bool b4), (3, .pointer (some ⟨b_1, 0, none⟩)), (4, v3), (5, v4), (6, .pointer (some ⟨b_2, 0, none⟩)), (10, .bool b3), (11, .int .i64 s2)] ?_ (fun K => ?_)
  rotate_left
  ·refine WQ.split (d := 72) rfl (fun c7 => ?_) (fun c7 => ?_)
   ·replace hb_4 := ite_t hb_4 c7
    refine WQ.yes rfl rfl <| qq (q_loadN Tn_29 rfl (fun w1 hw => hw.rgO (i := 1) rfl 0 2 [.string x2.1.Name, v2] rfl) rfl) rfl <| WQ.yes rfl rfl <| qq (q_move rfl) rfl <| WQ.yes rfl rfl <| qq (q_move rfl) rfl <| WQ.yes rfl rfl ?_
    obtain ⟨x10, hx9, hb_4⟩ := bind_some hb_4
    obtain ⟨cs3, F6, -, g3, hb3, hs3, r3⟩ := h2.elS (idx_some hx9).2.2
    obtain ⟨v15, G5, v16, G6, rfl, rfl, h12, h13⟩ := r3
    refine qq (q_indexAddr Sl_75 rfl rfl h2.rsl hx9) rfl <| WQ.yes rfl rfl <| qq (q_loadN Tn_81 rfl (fun w1 hw => (g3.of_eq 0 3 rfl rfl : rg _ _ _ [.int .i64 x10.Rule, v15, v16]).rangeAt hw.fro) rfl) rfl <| WQ.yes rfl rfl <| qq (q_loadN Tn_81 rfl (fun w1 hw => hw.rgO (i := 0) rfl 0 3 [.int .i64 x4.1.Rule, v6, v7] rfl) rfl) rfl <| WQ.yes rfl rfl ?_
    obtain ⟨x11, hx10, hb_4⟩ := bind_some hb_4
    refine qp (p_call Fun_44 rfl (fun w1 hw => m_i_Urgent_ok hw.fro N x2.1 x10 x4.1 (h1.rslG OTRule.gives) h12 h13 h4.rsl h5.rsl hx10)) rfl <| WQ.q (q_pick1 rfl rfl) rfl rfl rfl ?_
    cases hb_4
    exact WQ.keep (by exact ⟨rfl, rfl, rfl, rfl, rfl, rfl, rfl, trivial⟩) K
   ·replace hb_4 := ite_f hb_4 c7
    refine WQ.no rfl rfl rfl rfl <| WQ.no rfl rfl rfl rfl <| WQ.no rfl rfl rfl rfl <| WQ.no rfl rfl rfl rfl <| WQ.no rfl rfl rfl rfl <| WQ.no rfl rfl rfl rfl <| WQ.no rfl rfl rfl rfl <| WQ.q (q_pick0 rfl rfl) rfl rfl rfl ?_
    cases hb_4
    exact WQ.keep (by exact ⟨rfl, rfl, rfl, rfl, rfl, rfl, rfl, trivial⟩) K
  refine WQ.nil ?_
  refine WT.cond rfl (fun c8 => ?_) (fun c8 => ?_)
  ·replace h := ite_t h c8
   refine WT.seq <| WT.region <| lq (q_assign rfl) rfl <| WL.nil ?_
   refine WT.ret Try.func7 (resOk.one rfl) (fun w1 hw => ?_)
   subst hb0
   cases h
   exact post_of_St hw
  replace h := ite_f h c8
  refine WT.skip <| WT.inBlock <| WT.region <| lq (q_move rfl) rfl <| lq (q_add rfl rfl) rfl <| lq (q_assign rfl) rfl <| WL.nil ?_
  refine WT.inLoop (WT.mono (l' := [(3, .pointer (some ⟨b_1, 0, none⟩)), (4, v3), (5, v4), (6, .pointer (some ⟨b_2, 0, none⟩)), (10, .bool b3), (11, .int .i64 (IntKind.i64.wrap (s2 + 1)))]) (S' := St w0 Φ_3 [(b_2, .cells #[.int .i64 x4.1.Rule, v6, v7] 81 (0, 0)), (b_1, .cells #[.string x2.1.Name, v2] 29 (0, 0))] [ob v6, ob v7, ob v2, D1, ob v3, ob v4, X1]) ⟨rfl, rfl, rfl, rfl, rfl, rfl, trivial⟩ (fun w1 hw => (hw.sel (js := [0, 0, 0, 0, 0, 0, 0]) rfl).selO (js := [0, 0]) rfl) ?_)
  exact ih1 (b3, IntKind.i64.wrap (s2 + 1)) h
 replace h := ite_f h c5
 refine WT.exit rfl <| WT.seq <| WT.region <| lq (q_move rfl) rfl <| lq (q_move rfl) rfl ?_
 obtain ⟨b5, hb_5, h⟩ := bind_some h
 refine WL.cutN 5 [(87, .bool b5)] ?_ (fun K => ?_)
 rotate_left
 ·refine WL.split (d := 82) rfl (fun c9 => ?_) (fun c9 => ?_)
  ·replace hb_5 := ite_t hb_5 c9
   refine WL.yes rfl rfl <| lq (q_move rfl) rfl <| WL.yes rfl rfl <| lq (q_loadN Tn_81 rfl (fun w1 hw => hw.rgO (i := 0) rfl 0 3 [.int .i64 x4.1.Rule, v6, v7] rfl) rfl) rfl <| WL.yes rfl rfl ?_
   obtain ⟨x12, hx11, hb_5⟩ := bind_some hb_5
   refine lp (p_call Fun_43 rfl (fun w1 hw => m_i_FiredHas_ok hw.fro N x2.2.2 x4.1 h3.rsl h4.rsl h5.rsl hx11)) rfl <| WL.yes rfl rfl <| lq (q_not rfl) rfl <| WL.q (q_pick1 rfl rfl) rfl rfl rfl ?_
   cases hb_5
   exact WL.keep (by exact ⟨rfl, trivial⟩) K
  ·replace hb_5 := ite_f hb_5 c9
   refine WL.no rfl rfl rfl rfl <| WL.no rfl rfl rfl rfl <| WL.no rfl rfl rfl rfl <| WL.no rfl rfl rfl rfl <| WL.q (q_pick0 rfl rfl) rfl rfl rfl ?_
   cases hb_5
   exact WL.keep (by exact ⟨rfl, trivial⟩) K
 refine lq (q_assign rfl) rfl <| WL.nil ?_
 refine WT.ret Try.func7 (resOk.one rfl) (fun w1 hw => ?_)
 subst hb0
 cases h
 exact post_of_St hw
end Go.Proofs.Ytjhlmnbkfdkmpaa
