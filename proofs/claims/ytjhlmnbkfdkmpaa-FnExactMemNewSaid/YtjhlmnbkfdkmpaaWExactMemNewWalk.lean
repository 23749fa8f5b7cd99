/- Printed by a program of ours: each Go function computes its Lean function. -/
import Derived.Test.YtjhlmnbkfdkmpaaProg
import Derived.Test.YtjhlmnbkfdkmpaaWExactMemNewWalk1
namespace Go.Proofs.Ytjhlmnbkfdkmpaa
open Eng
open Go.RowKit (Below)
set_option linter.unusedVariables false
set_option linter.unusedSimpArgs false

set_option maxRecDepth 100000
set_option maxHeartbeats 1000000
theorem m_l_heldIdsS_ok {Φ : Hp} {w : World} (hΦ : In Φ w) (N : Nat) (p0 : (List TIds)) (p1 : Int) {pv0 : Value} {pG0 : List Nat} (ph0 : RSl RTIds 1 Φ pG0 pv0 p0) {r : Int} (h : m_l_heldIdsS N p0 p1 = some r) :
    Calls Try.prog 85 [pv0, .int .i64 p1].toArray w (Post (.int .i64 r) w) := by
  refine enter Try.func85 rfl Try.ntmps85 rfl (St.start0 hΦ) ?_
  generalize hb0 : (⟨w, [], Φ⟩ : Base) = w0
  unfold m_l_heldIdsS at h
  refine WT.seq ?_
  refine WT.region ?_
  refine lq (q_assign rfl) rfl ?_
  refine WL.nil ?_
  refine WT.seq ?_
  refine WT.seq ?_
  refine WT.region ?_
  refine lq (q_assign rfl) rfl ?_
  refine WL.nil ?_
  refine WT.block ?_
  refine WT.loop ?_
  refine WT.mono (l' := [(0, pv0), (1, .int .i64 p1), (5, .int .i64 0)]) (S' := St w0 Φ [] []) ⟨rfl, rfl, rfl, trivial⟩ (fun w1 hw => (hw.sel (js := []) rfl).selO (js := []) rfl) ?_
  refine loop_ind (σ := Int × Int) (fun s => [(0, pv0), (1, .int .i64 s.1), (5, .int .i64 s.2)]) (fun s => St w0 Φ [] []) (fun m s => m_l_heldIdsS_l1 N p0 m s.1 s.2 = some r) (fun s hm => none_ne (show (none : Option (Int)) = some r from hm)) (fun n1 ih1 s hm => ?_) N (p1, 0) h
  obtain ⟨s1, s2⟩ := s
  have h : m_l_heldIdsS_l1 N p0 (n1 + 1) s1 s2 = some r := hm
  show WT _ _ [(0, pv0), (1, .int .i64 s1), (5, .int .i64 s2)] (St w0 Φ [] [])
  unfold m_l_heldIdsS_l1 at h
  refine WT.seq ?_
  refine WT.seq ?_
  refine WT.region ?_
  refine lq (q_move rfl) rfl ?_
  refine lq (q_move rfl) rfl ?_
  refine lq (q_lenR Sl_38 rfl rfl ph0) rfl ?_
  refine lq (q_lss rfl rfl) rfl ?_
  refine WL.nil ?_
  refine WT.cond rfl (fun c1 => ?_) (fun c1 => ?_)
  · replace h := ite_t h c1
    refine WT.skip ?_
    refine WT.seq ?_
    refine WT.block ?_
    refine WT.seq ?_
    refine WT.region ?_
    refine lq (q_move rfl) rfl ?_
    refine lq (q_move rfl) rfl ?_
    obtain ⟨x1, hx1, h⟩ := bind_some h
    obtain ⟨cs1, F1, -, g1, hb1, hs1, r1⟩ := ph0.el (idx_some hx1).2.2
    obtain ⟨v1, G1, rfl, rfl, h1⟩ := r1
    refine lq (q_indexAddr Sl_38 rfl rfl ph0 hx1) rfl ?_
    refine lq (q_fieldAddr Fld_130_0 rfl) rfl ?_
    refine lq (q_load1 T1_78 rfl (fun w1 hw => (g1.of_eq 0 1 rfl rfl : rg _ _ _ [v1]).rangeAt hw.fro)) rfl ?_
    refine lq (q_move rfl) rfl ?_
    obtain ⟨x2, hx2, h⟩ := bind_some h
    refine lp (p_call Fun_165 rfl (fun w1 hw => m_l_heldIntS_ok hw.fro N x1.L s1 h1 hx2)) rfl ?_
    refine lq (q_assign rfl) rfl ?_
    refine WL.nil ?_
    refine WT.seq ?_
    refine WT.region ?_
    refine lq (q_move rfl) rfl ?_
    refine lq (q_lss rfl rfl) rfl ?_
    refine WL.nil ?_
    refine WT.cond rfl (fun c2 => ?_) (fun c2 => ?_)
    · replace h := ite_t h c2
      refine WT.seq ?_
      refine WT.region ?_
      refine lq (q_assign rfl) rfl ?_
      refine WL.nil ?_
      refine WT.ret Try.func85 (resOk.one rfl) (fun w1 hw => ?_)
      subst hb0
      cases h
      exact post_of_St hw
    replace h := ite_f h c2
    refine WT.skip ?_
    refine WT.inBlock ?_
    refine WT.region ?_
    refine lq (q_move rfl) rfl ?_
    refine lq (q_add rfl rfl) rfl ?_
    refine lq (q_assign rfl) rfl ?_
    refine WL.nil ?_
    refine WT.inLoop (WT.mono (l' := [(0, pv0), (1, .int .i64 x2), (5, .int .i64 (IntKind.i64.wrap (s2 + 1)))]) (S' := St w0 Φ [] []) ⟨rfl, rfl, rfl, trivial⟩ (fun w1 hw => (hw.sel (js := []) rfl).selO (js := []) rfl) ?_)
    exact ih1 (x2, IntKind.i64.wrap (s2 + 1)) h
  replace h := ite_f h c1
  refine WT.exit rfl ?_
  refine WT.seq ?_
  refine WT.region ?_
  refine lq (q_move rfl) rfl ?_
  refine lq (q_assign rfl) rfl ?_
  refine WL.nil ?_
  refine WT.ret Try.func85 (resOk.one rfl) (fun w1 hw => ?_)
  subst hb0
  cases h
  exact post_of_St hw
theorem m_l_heldTokS_ok {Φ : Hp} {w : World} (hΦ : In Φ w) (N : Nat) (p0 : (List TTok)) (p1 : Int) {pv0 : Value} {pG0 : List Nat} (ph0 : RSl RTTok 2 Φ pG0 pv0 p0) {r : Int} (h : m_l_heldTokS N p0 p1 = some r) :
    Calls Try.prog 226 [pv0, .int .i64 p1].toArray w (Post (.int .i64 r) w) := by
  refine enter Try.func226 rfl Try.ntmps226 rfl (St.start0 hΦ) ?_
  generalize hb0 : (⟨w, [], Φ⟩ : Base) = w0
  unfold m_l_heldTokS at h
  refine WT.seq ?_
  refine WT.region ?_
  refine lq (q_assign rfl) rfl ?_
  refine WL.nil ?_
  refine WT.seq ?_
  refine WT.seq ?_
  refine WT.region ?_
  refine lq (q_assign rfl) rfl ?_
  refine WL.nil ?_
  refine WT.block ?_
  refine WT.loop ?_
  refine WT.mono (l' := [(0, pv0), (1, .int .i64 p1), (5, .int .i64 0)]) (S' := St w0 Φ [] []) ⟨rfl, rfl, rfl, trivial⟩ (fun w1 hw => (hw.sel (js := []) rfl).selO (js := []) rfl) ?_
  refine loop_ind (σ := Int × Int) (fun s => [(0, pv0), (1, .int .i64 s.1), (5, .int .i64 s.2)]) (fun s => St w0 Φ [] []) (fun m s => m_l_heldTokS_l1 N p0 m s.1 s.2 = some r) (fun s hm => none_ne (show (none : Option (Int)) = some r from hm)) (fun n1 ih1 s hm => ?_) N (p1, 0) h
  obtain ⟨s1, s2⟩ := s
  have h : m_l_heldTokS_l1 N p0 (n1 + 1) s1 s2 = some r := hm
  show WT _ _ [(0, pv0), (1, .int .i64 s1), (5, .int .i64 s2)] (St w0 Φ [] [])
  unfold m_l_heldTokS_l1 at h
  refine WT.seq ?_
  refine WT.seq ?_
  refine WT.region ?_
  refine lq (q_move rfl) rfl ?_
  refine lq (q_move rfl) rfl ?_
  refine lq (q_lenR Sl_134 rfl rfl ph0) rfl ?_
  refine lq (q_lss rfl rfl) rfl ?_
  refine WL.nil ?_
  refine WT.cond rfl (fun c1 => ?_) (fun c1 => ?_)
  · replace h := ite_t h c1
    refine WT.skip ?_
    refine WT.seq ?_
    refine WT.block ?_
    refine WT.seq ?_
    refine WT.region ?_
    refine lq (q_move rfl) rfl ?_
    refine lq (q_move rfl) rfl ?_
    obtain ⟨x1, hx1, h⟩ := bind_some h
    obtain ⟨cs1, F1, -, g1, hb1, hs1, r1⟩ := ph0.el (idx_some hx1).2.2
    obtain ⟨v1, G1, v2, G2, rfl, rfl, h1, h2⟩ := r1
    refine lq (q_indexAddr Sl_134 rfl rfl ph0 hx1) rfl ?_
    refine lq (q_fieldAddr Fld_326_0 rfl) rfl ?_
    refine lq (q_load1 T1_78 rfl (fun w1 hw => (g1.of_eq 0 1 rfl rfl : rg _ _ _ [v1]).rangeAt hw.fro)) rfl ?_
    refine lq (q_move rfl) rfl ?_
    obtain ⟨x2, hx2, h⟩ := bind_some h
    refine lp (p_call Fun_165 rfl (fun w1 hw => m_l_heldIntS_ok hw.fro N x1.Ids s1 h1 hx2)) rfl ?_
    refine lq (q_assign rfl) rfl ?_
    refine WL.nil ?_
    refine WT.seq ?_
    refine WT.seq ?_
    refine WT.region ?_
    refine lq (q_move rfl) rfl ?_
    refine lq (q_lss rfl rfl) rfl ?_
    refine WL.nil ?_
    refine WT.cond rfl (fun c2 => ?_) (fun c2 => ?_)
    · replace h := ite_t h c2
      refine WT.seq ?_
      refine WT.region ?_
      refine lq (q_assign rfl) rfl ?_
      refine WL.nil ?_
      refine WT.ret Try.func226 (resOk.one rfl) (fun w1 hw => ?_)
      subst hb0
      cases h
      exact post_of_St hw
    replace h := ite_f h c2
    refine WT.skip ?_
    refine WT.seq ?_
    refine WT.region ?_
    refine lq (q_move rfl) rfl ?_
    refine lq (q_move rfl) rfl ?_
    obtain ⟨x3, hx3, h⟩ := bind_some h
    obtain ⟨cs2, F2, -, g2, hb2, hs2, r2⟩ := ph0.el (idx_some hx3).2.2
    obtain ⟨v3, G3, v4, G4, rfl, rfl, h3, h4⟩ := r2
    refine lq (q_indexAddr Sl_134 rfl rfl ph0 hx3) rfl ?_
    refine lq (q_fieldAddr Fld_326_1 rfl) rfl ?_
    refine lq (q_load1 T1_78 rfl (fun w1 hw => (g2.of_eq 1 1 rfl rfl : rg _ _ _ [v4]).rangeAt hw.fro)) rfl ?_
    refine lq (q_move rfl) rfl ?_
    obtain ⟨x4, hx4, h⟩ := bind_some h
    refine lp (p_call Fun_165 rfl (fun w1 hw => m_l_heldIntS_ok hw.fro N x3.Hits x2 h4 hx4)) rfl ?_
    refine lq (q_assign rfl) rfl ?_
    refine WL.nil ?_
    refine WT.seq ?_
    refine WT.region ?_
    refine lq (q_move rfl) rfl ?_
    refine lq (q_lss rfl rfl) rfl ?_
    refine WL.nil ?_
    refine WT.cond rfl (fun c3 => ?_) (fun c3 => ?_)
    · replace h := ite_t h c3
      refine WT.seq ?_
      refine WT.region ?_
      refine lq (q_assign rfl) rfl ?_
      refine WL.nil ?_
      refine WT.ret Try.func226 (resOk.one rfl) (fun w1 hw => ?_)
      subst hb0
      cases h
      exact post_of_St hw
    replace h := ite_f h c3
    refine WT.skip ?_
    refine WT.inBlock ?_
    refine WT.region ?_
    refine lq (q_move rfl) rfl ?_
    refine lq (q_add rfl rfl) rfl ?_
    refine lq (q_assign rfl) rfl ?_
    refine WL.nil ?_
    refine WT.inLoop (WT.mono (l' := [(0, pv0), (1, .int .i64 x4), (5, .int .i64 (IntKind.i64.wrap (s2 + 1)))]) (S' := St w0 Φ [] []) ⟨rfl, rfl, rfl, trivial⟩ (fun w1 hw => (hw.sel (js := []) rfl).selO (js := []) rfl) ?_)
    exact ih1 (x4, IntKind.i64.wrap (s2 + 1)) h
  replace h := ite_f h c1
  refine WT.exit rfl ?_
  refine WT.seq ?_
  refine WT.region ?_
  refine lq (q_move rfl) rfl ?_
  refine lq (q_assign rfl) rfl ?_
  refine WL.nil ?_
  refine WT.ret Try.func226 (resOk.one rfl) (fun w1 hw => ?_)
  subst hb0
  cases h
  exact post_of_St hw
theorem m_l_heldLevelS_ok {Φ : Hp} {w : World} (hΦ : In Φ w) (N : Nat) (p0 : (List TLevel)) (p1 : Int) {pv0 : Value} {pG0 : List Nat} (ph0 : RSl RTLevel 1 Φ pG0 pv0 p0) {r : Int} (h : m_l_heldLevelS N p0 p1 = some r) :
    Calls Try.prog 166 [pv0, .int .i64 p1].toArray w (Post (.int .i64 r) w) := by
  refine enter Try.func166 rfl Try.ntmps166 rfl (St.start0 hΦ) ?_
  generalize hb0 : (⟨w, [], Φ⟩ : Base) = w0
  unfold m_l_heldLevelS at h
  refine WT.seq ?_
  refine WT.region ?_
  refine lq (q_assign rfl) rfl ?_
  refine WL.nil ?_
  refine WT.seq ?_
  refine WT.seq ?_
  refine WT.region ?_
  refine lq (q_assign rfl) rfl ?_
  refine WL.nil ?_
  refine WT.block ?_
  refine WT.loop ?_
  refine WT.mono (l' := [(0, pv0), (1, .int .i64 p1), (5, .int .i64 0)]) (S' := St w0 Φ [] []) ⟨rfl, rfl, rfl, trivial⟩ (fun w1 hw => (hw.sel (js := []) rfl).selO (js := []) rfl) ?_
  refine loop_ind (σ := Int × Int) (fun s => [(0, pv0), (1, .int .i64 s.1), (5, .int .i64 s.2)]) (fun s => St w0 Φ [] []) (fun m s => m_l_heldLevelS_l1 N p0 m s.1 s.2 = some r) (fun s hm => none_ne (show (none : Option (Int)) = some r from hm)) (fun n1 ih1 s hm => ?_) N (p1, 0) h
  obtain ⟨s1, s2⟩ := s
  have h : m_l_heldLevelS_l1 N p0 (n1 + 1) s1 s2 = some r := hm
  show WT _ _ [(0, pv0), (1, .int .i64 s1), (5, .int .i64 s2)] (St w0 Φ [] [])
  unfold m_l_heldLevelS_l1 at h
  refine WT.seq ?_
  refine WT.seq ?_
  refine WT.region ?_
  refine lq (q_move rfl) rfl ?_
  refine lq (q_move rfl) rfl ?_
  refine lq (q_lenR Sl_131 rfl rfl ph0) rfl ?_
  refine lq (q_lss rfl rfl) rfl ?_
  refine WL.nil ?_
  refine WT.cond rfl (fun c1 => ?_) (fun c1 => ?_)
  · replace h := ite_t h c1
    refine WT.skip ?_
    refine WT.seq ?_
    refine WT.block ?_
    refine WT.seq ?_
    refine WT.region ?_
    refine lq (q_move rfl) rfl ?_
    refine lq (q_move rfl) rfl ?_
    obtain ⟨x1, hx1, h⟩ := bind_some h
    obtain ⟨cs1, F1, -, g1, hb1, hs1, r1⟩ := ph0.el (idx_some hx1).2.2
    obtain ⟨v1, G1, rfl, rfl, h1⟩ := r1
    refine lq (q_indexAddr Sl_131 rfl rfl ph0 hx1) rfl ?_
    refine lq (q_fieldAddr Fld_136_0 rfl) rfl ?_
    refine lq (q_load1 T1_134 rfl (fun w1 hw => (g1.of_eq 0 1 rfl rfl : rg _ _ _ [v1]).rangeAt hw.fro)) rfl ?_
    refine lq (q_move rfl) rfl ?_
    obtain ⟨x2, hx2, h⟩ := bind_some h
    refine lp (p_call Fun_226 rfl (fun w1 hw => m_l_heldTokS_ok hw.fro N x1.Toks s1 h1 hx2)) rfl ?_
    refine lq (q_assign rfl) rfl ?_
    refine WL.nil ?_
    refine WT.seq ?_
    refine WT.region ?_
    refine lq (q_move rfl) rfl ?_
    refine lq (q_lss rfl rfl) rfl ?_
    refine WL.nil ?_
    refine WT.cond rfl (fun c2 => ?_) (fun c2 => ?_)
    · replace h := ite_t h c2
      refine WT.seq ?_
      refine WT.region ?_
      refine lq (q_assign rfl) rfl ?_
      refine WL.nil ?_
      refine WT.ret Try.func166 (resOk.one rfl) (fun w1 hw => ?_)
      subst hb0
      cases h
      exact post_of_St hw
    replace h := ite_f h c2
    refine WT.skip ?_
    refine WT.inBlock ?_
    refine WT.region ?_
    refine lq (q_move rfl) rfl ?_
    refine lq (q_add rfl rfl) rfl ?_
    refine lq (q_assign rfl) rfl ?_
    refine WL.nil ?_
    refine WT.inLoop (WT.mono (l' := [(0, pv0), (1, .int .i64 x2), (5, .int .i64 (IntKind.i64.wrap (s2 + 1)))]) (S' := St w0 Φ [] []) ⟨rfl, rfl, rfl, trivial⟩ (fun w1 hw => (hw.sel (js := []) rfl).selO (js := []) rfl) ?_)
    exact ih1 (x2, IntKind.i64.wrap (s2 + 1)) h
  replace h := ite_f h c1
  refine WT.exit rfl ?_
  refine WT.seq ?_
  refine WT.region ?_
  refine lq (q_move rfl) rfl ?_
  refine lq (q_assign rfl) rfl ?_
  refine WL.nil ?_
  refine WT.ret Try.func166 (resOk.one rfl) (fun w1 hw => ?_)
  subst hb0
  cases h
  exact post_of_St hw
theorem m_l_heldRowS_ok {Φ : Hp} {w : World} (hΦ : In Φ w) (N : Nat) (p0 : (List TRow)) (p1 : Int) {pv0 : Value} {pG0 : List Nat} (ph0 : RSl RTRow 1 Φ pG0 pv0 p0) {r : Int} (h : m_l_heldRowS N p0 p1 = some r) :
    Calls Try.prog 86 [pv0, .int .i64 p1].toArray w (Post (.int .i64 r) w) := by
  refine enter Try.func86 rfl Try.ntmps86 rfl (St.start0 hΦ) ?_
  generalize hb0 : (⟨w, [], Φ⟩ : Base) = w0
  unfold m_l_heldRowS at h
  refine WT.seq ?_
  refine WT.region ?_
  refine lq (q_assign rfl) rfl ?_
  refine WL.nil ?_
  refine WT.seq ?_
  refine WT.seq ?_
  refine WT.region ?_
  refine lq (q_assign rfl) rfl ?_
  refine WL.nil ?_
  refine WT.block ?_
  refine WT.loop ?_
  refine WT.mono (l' := [(0, pv0), (1, .int .i64 p1), (5, .int .i64 0)]) (S' := St w0 Φ [] []) ⟨rfl, rfl, rfl, trivial⟩ (fun w1 hw => (hw.sel (js := []) rfl).selO (js := []) rfl) ?_
  refine loop_ind (σ := Int × Int) (fun s => [(0, pv0), (1, .int .i64 s.1), (5, .int .i64 s.2)]) (fun s => St w0 Φ [] []) (fun m s => m_l_heldRowS_l1 N p0 m s.1 s.2 = some r) (fun s hm => none_ne (show (none : Option (Int)) = some r from hm)) (fun n1 ih1 s hm => ?_) N (p1, 0) h
  obtain ⟨s1, s2⟩ := s
  have h : m_l_heldRowS_l1 N p0 (n1 + 1) s1 s2 = some r := hm
  show WT _ _ [(0, pv0), (1, .int .i64 s1), (5, .int .i64 s2)] (St w0 Φ [] [])
  unfold m_l_heldRowS_l1 at h
  refine WT.seq ?_
  refine WT.seq ?_
  refine WT.region ?_
  refine lq (q_move rfl) rfl ?_
  refine lq (q_move rfl) rfl ?_
  refine lq (q_lenR Sl_39 rfl rfl ph0) rfl ?_
  refine lq (q_lss rfl rfl) rfl ?_
  refine WL.nil ?_
  refine WT.cond rfl (fun c1 => ?_) (fun c1 => ?_)
  · replace h := ite_t h c1
    refine WT.skip ?_
    refine WT.seq ?_
    refine WT.block ?_
    refine WT.seq ?_
    refine WT.region ?_
    refine lq (q_move rfl) rfl ?_
    refine lq (q_move rfl) rfl ?_
    obtain ⟨x1, hx1, h⟩ := bind_some h
    obtain ⟨cs1, F1, -, g1, hb1, hs1, r1⟩ := ph0.el (idx_some hx1).2.2
    obtain ⟨v1, G1, rfl, rfl, h1⟩ := r1
    refine lq (q_indexAddr Sl_39 rfl rfl ph0 hx1) rfl ?_
    refine lq (q_fieldAddr Fld_133_0 rfl) rfl ?_
    refine lq (q_load1 T1_131 rfl (fun w1 hw => (g1.of_eq 0 1 rfl rfl : rg _ _ _ [v1]).rangeAt hw.fro)) rfl ?_
    refine lq (q_move rfl) rfl ?_
    obtain ⟨x2, hx2, h⟩ := bind_some h
    refine lp (p_call Fun_166 rfl (fun w1 hw => m_l_heldLevelS_ok hw.fro N x1.Levels s1 h1 hx2)) rfl ?_
    refine lq (q_assign rfl) rfl ?_
    refine WL.nil ?_
    refine WT.seq ?_
    refine WT.region ?_
    refine lq (q_move rfl) rfl ?_
    refine lq (q_lss rfl rfl) rfl ?_
    refine WL.nil ?_
    refine WT.cond rfl (fun c2 => ?_) (fun c2 => ?_)
    · replace h := ite_t h c2
      refine WT.seq ?_
      refine WT.region ?_
      refine lq (q_assign rfl) rfl ?_
      refine WL.nil ?_
      refine WT.ret Try.func86 (resOk.one rfl) (fun w1 hw => ?_)
      subst hb0
      cases h
      exact post_of_St hw
    replace h := ite_f h c2
    refine WT.skip ?_
    refine WT.inBlock ?_
    refine WT.region ?_
    refine lq (q_move rfl) rfl ?_
    refine lq (q_add rfl rfl) rfl ?_
    refine lq (q_assign rfl) rfl ?_
    refine WL.nil ?_
    refine WT.inLoop (WT.mono (l' := [(0, pv0), (1, .int .i64 x2), (5, .int .i64 (IntKind.i64.wrap (s2 + 1)))]) (S' := St w0 Φ [] []) ⟨rfl, rfl, rfl, trivial⟩ (fun w1 hw => (hw.sel (js := []) rfl).selO (js := []) rfl) ?_)
    exact ih1 (x2, IntKind.i64.wrap (s2 + 1)) h
  replace h := ite_f h c1
  refine WT.exit rfl ?_
  refine WT.seq ?_
  refine WT.region ?_
  refine lq (q_move rfl) rfl ?_
  refine lq (q_assign rfl) rfl ?_
  refine WL.nil ?_
  refine WT.ret Try.func86 (resOk.one rfl) (fun w1 hw => ?_)
  subst hb0
  cases h
  exact post_of_St hw
theorem m_l_heldMem_ok {Φ : Hp} {w : World} (hΦ : In Φ w) (N : Nat) (p0 : TMem) (p1 : Int) {pv0_0 : Value} {pG0_0 : List Nat} {pv0_1 : Value} {pG0_1 : List Nat} (ph0_0 : RSl RTIds 1 Φ pG0_0 pv0_0 p0.Alphas) (ph0_1 : RSl RTRow 1 Φ pG0_1 pv0_1 p0.Rules) {r : Int} (h : m_l_heldMem N p0 p1 = some r) :
    Calls Try.prog 26 [.agg [pv0_0, pv0_1].toArray, .int .i64 p1].toArray w (Post (.int .i64 r) w) := by
  refine enter Try.func26 rfl Try.ntmps26 rfl (St.start0 hΦ) ?_
  unfold m_l_heldMem at h
  refine WT.seq ?_
  refine WT.region ?_
  refine ln (n_box (C := #[pv0_0, pv0_1]) rfl rfl) rfl (fun b_1 => ?_)
  refine lq (q_assign rfl) rfl ?_
  refine WL.nil ?_
  refine WT.seq ?_
  refine WT.region ?_
  refine lq (q_fieldAddr Fld_41_0 rfl) rfl ?_
  refine lq (q_load1 T1_38 rfl (fun w1 hw => hw.rgO (i := 0) rfl 0 1 [pv0_0] rfl)) rfl ?_
  refine lq (q_move rfl) rfl ?_
  obtain ⟨x1, hx1, h⟩ := bind_some h
  refine lp (p_call Fun_85 rfl (fun w1 hw => m_l_heldIdsS_ok hw.fro N p0.Alphas p1 ph0_0 hx1)) rfl ?_
  refine lq (q_assign rfl) rfl ?_
  refine WL.nil ?_
  refine WT.seq ?_
  refine WT.seq ?_
  refine WT.region ?_
  refine lq (q_move rfl) rfl ?_
  refine lq (q_lss rfl rfl) rfl ?_
  refine WL.nil ?_
  refine WT.cond rfl (fun c1 => ?_) (fun c1 => ?_)
  · replace h := ite_t h c1
    refine WT.seq ?_
    refine WT.region ?_
    refine lq (q_assign rfl) rfl ?_
    refine WL.nil ?_
    refine WT.ret Try.func26 (resOk.one rfl) (fun w1 hw => ?_)
    cases h
    exact post_of_St hw
  replace h := ite_f h c1
  refine WT.skip ?_
  refine WT.seq ?_
  refine WT.region ?_
  refine lq (q_fieldAddr Fld_41_1 rfl) rfl ?_
  refine lq (q_load1 T1_39 rfl (fun w1 hw => hw.rgO (i := 0) rfl 1 1 [pv0_1] rfl)) rfl ?_
  refine lq (q_move rfl) rfl ?_
  obtain ⟨x2, hx2, h⟩ := bind_some h
  refine lp (p_call Fun_86 rfl (fun w1 hw => m_l_heldRowS_ok hw.fro N p0.Rules x1 ph0_1 hx2)) rfl ?_
  refine lq (q_assign rfl) rfl ?_
  refine WL.nil ?_
  refine WT.seq ?_
  refine WT.seq ?_
  refine WT.region ?_
  refine lq (q_move rfl) rfl ?_
  refine lq (q_lss rfl rfl) rfl ?_
  refine WL.nil ?_
  refine WT.cond rfl (fun c2 => ?_) (fun c2 => ?_)
  · replace h := ite_t h c2
    refine WT.seq ?_
    refine WT.region ?_
    refine lq (q_assign rfl) rfl ?_
    refine WL.nil ?_
    refine WT.ret Try.func26 (resOk.one rfl) (fun w1 hw => ?_)
    cases h
    exact post_of_St hw
  replace h := ite_f h c2
  refine WT.skip ?_
  refine WT.seq ?_
  refine WT.region ?_
  refine lq (q_move rfl) rfl ?_
  refine lq (q_assign rfl) rfl ?_
  refine WL.nil ?_
  refine WT.ret Try.func26 (resOk.one rfl) (fun w1 hw => ?_)
  cases h
  exact post_of_St hw
theorem m_l_FnExactMemNew_ok {Φ : Hp} {w : World} (hΦ : In Φ w) (N : Nat) (p0 : TNet) {pv0_0 : Value} {pG0_0 : List Nat} {pv0_1 : Value} {pG0_1 : List Nat} (ph0_0 : RSl RTAlpha 4 Φ pG0_0 pv0_0 p0.Alphas) (ph0_1 : RSl RTChain 2 Φ pG0_1 pv0_1 p0.Chains) {r : Bool} (h : m_l_FnExactMemNew N p0 = some r) :
    Calls Try.prog 4 [.agg [pv0_0, pv0_1].toArray].toArray w (Post (.bool r) w) := by
  refine enter Try.func4 rfl Try.ntmps4 rfl (St.start0 hΦ) ?_
  have pa0_0 : Old ⟨w, [], Φ⟩ pG0_0 := Old.mk hΦ ph0_0.kn (Dj.empty _)
  have pa0_1 : Old ⟨w, [], Φ⟩ pG0_1 := Old.mk hΦ ph0_1.kn (Dj.empty _)
  unfold m_l_FnExactMemNew at h
  refine WT.seq ?_
  refine WT.region ?_
  refine ln (n_box (C := #[pv0_0, pv0_1]) rfl rfl) rfl (fun b_1 => ?_)
  refine lq (q_assign rfl) rfl ?_
  refine WL.nil ?_
  refine WT.seq ?_
  refine WT.region ?_
  refine lq (q_assign rfl) rfl ?_
  refine WL.nil ?_
  refine WT.seq ?_
  refine WT.region ?_
  refine lq (q_loadN Tn_36 rfl (fun w1 hw => hw.rgO (i := 0) rfl 0 2 [pv0_0, pv0_1] rfl) rfl) rfl ?_
  refine lq (q_move rfl) rfl ?_
  obtain ⟨x1, hx1, h⟩ := bind_some h
  refine lp (p_call Fun_18 rfl (fun w1 hw => m_l_szNet_ok hw.fro N p0 1048576 ph0_0 ph0_1 hx1)) rfl ?_
  refine lq (q_assign rfl) rfl ?_
  refine WL.nil ?_
  refine WT.seq ?_
  refine WT.seq ?_
  refine WT.region ?_
  refine lq (q_move rfl) rfl ?_
  refine lq (q_lss rfl rfl) rfl ?_
  refine WL.nil ?_
  refine WT.cond rfl (fun c1 => ?_) (fun c1 => ?_)
  · replace h := ite_t h c1
    refine WT.seq ?_
    refine WT.region ?_
    refine lq (q_assign rfl) rfl ?_
    refine WL.nil ?_
    refine WT.ret Try.func4 (resOk.one rfl) (fun w1 hw => ?_)
    cases h
    exact post_of_St hw
  replace h := ite_f h c1
  refine WT.skip ?_
  refine WT.seq ?_
  refine WT.region ?_
  refine lq (q_loadN Tn_36 rfl (fun w1 hw => hw.rgO (i := 0) rfl 0 2 [pv0_0, pv0_1] rfl) rfl) rfl ?_
  obtain ⟨x2, hx2, h⟩ := bind_some h
  refine lc (k_call (js := []) (R := []) Fun_20 rfl rfl (fun w1 hw ap hl => m_l_toNet_ok hw.fro N p0 ph0_0 ph0_1  hx2)) rfl (fun v1 Φ_1 F1 q1 => ?_)
  obtain ⟨ap1, fr1, v2, D1, v3, D2, rfl, rfl, h1, h2⟩ := q1
  replace ph0_0 := ph0_0.frame RTAlpha.lasts fr1 (ap1.o pa0_0)
  replace ph0_1 := ph0_1.frame RTChain.lasts fr1 (ap1.o pa0_1)
  obtain ⟨x3, hx3, h⟩ := bind_some h
  refine lc (k_call (js := []) (R := [ob v2, D1, ob v3, D2]) Fun_19 rfl rfl (fun w1 hw ap hl => m_s_MemNew_ok hw.fro N x2 (h1.rslG OTAlpha.gives) (h2.rslG OTChain.gives)  hx3)) rfl (fun v4 Φ_2 F2 q2 => ?_)
  obtain ⟨ap2, fr2, v5, D3, v6, D4, rfl, rfl, h3, h4⟩ := q2
  replace ph0_0 := ph0_0.frame RTAlpha.lasts fr2 (ap2.o pa0_0)
  replace ph0_1 := ph0_1.frame RTChain.lasts fr2 (ap2.o pa0_1)
  refine ln (n_alloc (C := #[.slice none 0 0, .slice none 0 0]) Zr_41 rfl) rfl (fun b_2 => ?_)
  refine ls (s_store (i := 0) (vs := [v5, v6]) (C' := [v5, v6]) (O' := [(b_2, .cells #[v5, v6] 41 (0, 0)), (b_1, .cells #[pv0_0, pv0_1] 36 (0, 0))]) Sz_41 rfl rfl rfl rfl rfl rfl ⟨h3.one, h4.one, trivial⟩ rfl rfl) rfl ?_
  refine WL.nil ?_
  refine WT.seq ?_
  refine WT.region ?_
  refine lq (q_loadN Tn_36 rfl (fun w1 hw => hw.rgO (i := 1) rfl 0 2 [pv0_0, pv0_1] rfl) rfl) rfl ?_
  obtain ⟨x4, hx4, h⟩ := bind_some h
  refine lc (k_call (js := []) (R := [ob v5, D3, ob v6, D4, ob v2, D1, ob v3, D2]) Fun_20 rfl rfl (fun w1 hw ap hl => m_l_toNet_ok hw.fro N p0 ph0_0 ph0_1  hx4)) rfl (fun v7 Φ_3 F3 q3 => ?_)
  obtain ⟨ap3, fr3, v8, D5, v9, D6, rfl, rfl, h5, h6⟩ := q3
  replace ph0_0 := ph0_0.frame RTAlpha.lasts fr3 (ap3.o pa0_0)
  replace ph0_1 := ph0_1.frame RTChain.lasts fr3 (ap3.o pa0_1)
  replace h3 := h3.frame OTIds.lasts fr3 (ap3.r (i := 0) rfl) (ap3.r (i := 1) rfl)
  replace h4 := h4.frame OTRow.lasts fr3 (ap3.r (i := 2) rfl) (ap3.r (i := 3) rfl)
  refine ln (n_alloc (C := #[.slice none 0 0, .slice none 0 0]) Zr_46 rfl) rfl (fun b_3 => ?_)
  refine ls (s_store (i := 0) (vs := [v8, v9]) (C' := [v8, v9]) (O' := [(b_3, .cells #[v8, v9] 46 (0, 0)), (b_2, .cells #[v5, v6] 41 (0, 0)), (b_1, .cells #[pv0_0, pv0_1] 36 (0, 0))]) Sz_46 rfl rfl rfl rfl rfl rfl ⟨h5.one, h6.one, trivial⟩ rfl rfl) rfl ?_
  refine WL.nil ?_
  refine WT.seq ?_
  refine WT.region ?_
  refine lq (q_loadN Tn_46 rfl (fun w1 hw => hw.rgO (i := 0) rfl 0 2 [v8, v9] rfl) rfl) rfl ?_
  obtain ⟨x5, hx5, h⟩ := bind_some h
  refine lc (k_call (js := []) (R := [ob v8, D5, ob v9, D6, ob v5, D3, ob v6, D4, ob v2, D1, ob v3, D2]) Fun_21 rfl rfl (fun w1 hw ap hl => m_i_MemNew_ok hw.fro N x4 (h5.rslG OTAlpha.gives) (h6.rslG OTChain.gives)  hx5)) rfl (fun v10 Φ_4 F4 q4 => ?_)
  obtain ⟨ap4, fr4, v11, D7, v12, D8, rfl, rfl, h7, h8⟩ := q4
  replace ph0_0 := ph0_0.frame RTAlpha.lasts fr4 (ap4.o pa0_0)
  replace ph0_1 := ph0_1.frame RTChain.lasts fr4 (ap4.o pa0_1)
  replace h3 := h3.frame OTIds.lasts fr4 (ap4.r (i := 4) rfl) (ap4.r (i := 5) rfl)
  replace h4 := h4.frame OTRow.lasts fr4 (ap4.r (i := 6) rfl) (ap4.r (i := 7) rfl)
  replace h5 := h5.frame OTAlpha.lasts fr4 (ap4.r (i := 0) rfl) (ap4.r (i := 1) rfl)
  replace h6 := h6.frame OTChain.lasts fr4 (ap4.r (i := 2) rfl) (ap4.r (i := 3) rfl)
  refine ln (n_alloc (C := #[.slice none 0 0, .slice none 0 0]) Zr_41 rfl) rfl (fun b_4 => ?_)
  refine ls (s_store (i := 0) (vs := [v11, v12]) (C' := [v11, v12]) (O' := [(b_4, .cells #[v11, v12] 41 (0, 0)), (b_3, .cells #[v8, v9] 46 (0, 0)), (b_2, .cells #[v5, v6] 41 (0, 0)), (b_1, .cells #[pv0_0, pv0_1] 36 (0, 0))]) Sz_41 rfl rfl rfl rfl rfl rfl ⟨h7.one, h8.one, trivial⟩ rfl rfl) rfl ?_
  refine WL.nil ?_
  refine WT.seq ?_
  refine WT.seq ?_
  refine WT.region ?_
  refine lq (q_loadN Tn_41 rfl (fun w1 hw => hw.rgO (i := 0) rfl 0 2 [v11, v12] rfl) rfl) rfl ?_
  refine lq (q_loadN Tn_41 rfl (fun w1 hw => hw.rgO (i := 2) rfl 0 2 [v5, v6] rfl) rfl) rfl ?_
  obtain ⟨x6, hx6, h⟩ := bind_some h
  refine lp (p_call Fun_22 rfl (fun w1 hw => m_l_eqMem_ok hw.fro N x5 x3 (h7.rslG OTIds.gives) (h8.rslG OTRow.gives) (h3.rslG OTIds.gives) (h4.rslG OTRow.gives) hx6)) rfl ?_
  refine lq (q_not rfl) rfl ?_
  refine WL.nil ?_
  refine WT.cond rfl (fun c2 => ?_) (fun c2 => ?_)
  · replace h := ite_t h c2
    refine WT.seq ?_
    refine WT.region ?_
    refine lq (q_assign rfl) rfl ?_
    refine WL.nil ?_
    refine WT.ret Try.func4 (resOk.one rfl) (fun w1 hw => ?_)
    cases h
    exact post_of_St hw
  replace h := ite_f h c2
  refine WT.skip ?_
  refine WT.seq ?_
  refine WT.seq ?_
  refine WT.mix (Kn Φ_4 [] [(b_4, .cells #[v11, v12] 41 (0, 0)), (b_3, .cells #[v8, v9] 46 (0, 0)), (b_2, .cells #[v5, v6] 41 (0, 0)), (b_1, .cells #[pv0_0, pv0_1] 36 (0, 0))]) (fun _ => true) mixed (fun _ h => h.drew) ?_
  refine mq 0 rfl (by kernel_rfl) (fun w1 hw => Kn.of (fun k hk _ _ => by simp at hk) (AllIn.mem ⟨List.mem_of_getElem? (i := 0) rfl, List.mem_of_getElem? (i := 1) rfl, List.mem_of_getElem? (i := 2) rfl, List.mem_of_getElem? (i := 3) rfl, trivial⟩) hw) (q_loadN Tn_46 rfl (fun w1 hw => hw.rgO (i := 1) rfl 0 2 [v8, v9] rfl) rfl) rfl ?_
  refine mq 1 rfl (by kernel_rfl) (fun w1 hw => Kn.of (fun k hk _ _ => by simp at hk) (AllIn.mem ⟨List.mem_of_getElem? (i := 0) rfl, List.mem_of_getElem? (i := 1) rfl, List.mem_of_getElem? (i := 2) rfl, List.mem_of_getElem? (i := 3) rfl, trivial⟩) hw) (q_loadN Tn_36 rfl (fun w1 hw => hw.rgO (i := 3) rfl 0 2 [pv0_0, pv0_1] rfl) rfl) rfl ?_
  obtain ⟨x7, hx7, h⟩ := bind_some h
  refine WM.one 2 (by kernel_rfl) (mc rfl (fun _ v Φx D w1 hq hw => Kn.of (fun k hk _ _ => by simp at hk) (AllIn.mem ⟨List.mem_of_getElem? (i := 0) rfl, List.mem_of_getElem? (i := 1) rfl, List.mem_of_getElem? (i := 2) rfl, List.mem_of_getElem? (i := 3) rfl, trivial⟩) hw) (k_call (js := []) (R := [ob v11, D7, ob v12, D8, ob v8, D5, ob v9, D6, ob v5, D3, ob v6, D4, ob v2, D1, ob v3, D2]) Fun_20 rfl rfl (fun w1 hw ap hl => m_l_toNet_ok hw.fro N p0 ph0_0 ph0_1  hx7)) rfl (fun v13 Φ_5 F5 q5 => ?_))
  obtain ⟨ap5, fr5, v14, D9, v15, D10, rfl, rfl, h9, h10⟩ := q5
  replace ph0_0 := ph0_0.frame RTAlpha.lasts fr5 (ap5.o pa0_0)
  replace ph0_1 := ph0_1.frame RTChain.lasts fr5 (ap5.o pa0_1)
  replace h3 := h3.frame OTIds.lasts fr5 (ap5.r (i := 8) rfl) (ap5.r (i := 9) rfl)
  replace h4 := h4.frame OTRow.lasts fr5 (ap5.r (i := 10) rfl) (ap5.r (i := 11) rfl)
  replace h5 := h5.frame OTAlpha.lasts fr5 (ap5.r (i := 4) rfl) (ap5.r (i := 5) rfl)
  replace h6 := h6.frame OTChain.lasts fr5 (ap5.r (i := 6) rfl) (ap5.r (i := 7) rfl)
  replace h7 := h7.frame OTIds.lasts fr5 (ap5.r (i := 0) rfl) (ap5.r (i := 1) rfl)
  replace h8 := h8.frame OTRow.lasts fr5 (ap5.r (i := 2) rfl) (ap5.r (i := 3) rfl)
  obtain ⟨x8, hx8, h⟩ := bind_some h
  refine WM.one 3 (by kernel_rfl) (mp rfl (fun _ w1 hw => Kn.of (fun k hk _ _ => by simp at hk) (AllIn.mem ⟨List.mem_of_getElem? (i := 0) rfl, List.mem_of_getElem? (i := 1) rfl, List.mem_of_getElem? (i := 2) rfl, List.mem_of_getElem? (i := 3) rfl, trivial⟩) hw) (p_call Fun_23 rfl (fun w1 hw => m_l_eqNet_ok hw.fro N x4 x7 (h5.rslG OTAlpha.gives) (h6.rslG OTChain.gives) (h9.rslG OTAlpha.gives) (h10.rslG OTChain.gives) hx8)) rfl ?_)
  refine mq 4 rfl (by kernel_rfl) (fun w1 hw => Kn.of (fun k hk _ _ => by simp at hk) (AllIn.mem ⟨List.mem_of_getElem? (i := 0) rfl, List.mem_of_getElem? (i := 1) rfl, List.mem_of_getElem? (i := 2) rfl, List.mem_of_getElem? (i := 3) rfl, trivial⟩) hw) (q_not rfl) rfl ?_
  refine WM.nil (by kernel_rfl) ?_
  refine WT.cond rfl (fun c3 => ?_) (fun c3 => ?_)
  · replace h := ite_t h c3
    refine WT.seq ?_
    refine WT.region ?_
    refine lq (q_assign rfl) rfl ?_
    refine WL.nil ?_
    refine WT.ret Try.func4 (resOk.one rfl) (fun w1 hw => ?_)
    cases h
    exact post_of_St hw
  replace h := ite_f h c3
  refine WT.skip ?_
  refine WT.seq ?_
  refine WT.region ?_
  refine lq (q_assign rfl) rfl ?_
  refine WL.nil ?_
  refine WT.seq ?_
  refine WT.region ?_
  refine lq (q_loadN Tn_46 rfl (fun w1 hw => hw.rgO (i := 1) rfl 0 2 [v8, v9] rfl) rfl) rfl ?_
  refine lq (q_move rfl) rfl ?_
  obtain ⟨x9, hx9, h⟩ := bind_some h
  refine lc (k_call (js := [8, 8, 8, 8]) (R := [ob v14, D9, ob v15, D10, ob v11, D7, ob v12, D8, ob v5, D3, ob v6, D4, ob v2, D1, ob v3, D2]) Fun_24 rfl rfl (fun w1 hw ap hl => m_l_markNet_ok hw.fro N x4 1 h5 h6 ap.nd hl hx9)) rfl (fun v16 Φ_6 F6 q6 => ?_)
  obtain ⟨ap6, fr6, D11, D12, rfl, rfl, h11, h12⟩ := q6
  replace ph0_0 := ph0_0.frame RTAlpha.lasts fr6 (ap6.o pa0_0)
  replace ph0_1 := ph0_1.frame RTChain.lasts fr6 (ap6.o pa0_1)
  replace h3 := h3.frame OTIds.lasts fr6 (ap6.r (i := 8) rfl) (ap6.r (i := 9) rfl)
  replace h4 := h4.frame OTRow.lasts fr6 (ap6.r (i := 10) rfl) (ap6.r (i := 11) rfl)
  replace h7 := h7.frame OTIds.lasts fr6 (ap6.r (i := 4) rfl) (ap6.r (i := 5) rfl)
  replace h8 := h8.frame OTRow.lasts fr6 (ap6.r (i := 6) rfl) (ap6.r (i := 7) rfl)
  refine lq (q_assign rfl) rfl ?_
  refine WL.nil ?_
  refine WT.seq ?_
  refine WT.seq ?_
  refine WT.region ?_
  refine lq (q_move rfl) rfl ?_
  refine lq (q_lss rfl rfl) rfl ?_
  refine lq (q_move rfl) rfl ?_
  obtain ⟨b1, hb_1, h⟩ := bind_some h
  refine WL.cutN 5 [(42, .bool b1), (1, .pointer (some ⟨b_1, 0, none⟩)), (4, .pointer (some ⟨b_2, 0, none⟩)), (6, .pointer (some ⟨b_4, 0, none⟩))] ?_ (fun K => ?_)
  rotate_left
  · refine WL.split (d := 37) rfl (fun c4 => ?_) (fun c4 => ?_)
    · replace hb_1 := ite_t hb_1 c4
      refine WL.no rfl rfl rfl rfl ?_
      refine WL.no rfl rfl rfl rfl ?_
      refine WL.no rfl rfl rfl rfl ?_
      refine WL.no rfl rfl rfl rfl ?_
      refine WL.q (q_pick1 rfl rfl) rfl rfl rfl ?_
      cases hb_1
      exact WL.keep (by exact ⟨rfl, rfl, rfl, rfl, trivial⟩) K
    · replace hb_1 := ite_f hb_1 c4
      refine WL.yes rfl rfl ?_
      refine lq (q_loadN Tn_41 rfl (fun w1 hw => hw.rgO (i := 0) rfl 0 2 [v11, v12] rfl) rfl) rfl ?_
      refine WL.yes rfl rfl ?_
      refine lq (q_loadN Tn_41 rfl (fun w1 hw => hw.rgO (i := 2) rfl 0 2 [v5, v6] rfl) rfl) rfl ?_
      refine WL.yes rfl rfl ?_
      obtain ⟨x10, hx10, hb_1⟩ := bind_some hb_1
      refine lp (p_call Fun_22 rfl (fun w1 hw => m_l_eqMem_ok hw.fro N x5 x3 (h7.rslG OTIds.gives) (h8.rslG OTRow.gives) (h3.rslG OTIds.gives) (h4.rslG OTRow.gives) hx10)) rfl ?_
      refine WL.yes rfl rfl ?_
      refine lq (q_not rfl) rfl ?_
      refine WL.q (q_pick0 rfl rfl) rfl rfl rfl ?_
      cases hb_1
      exact WL.keep (by exact ⟨rfl, rfl, rfl, rfl, trivial⟩) K
  refine WL.nil ?_
  refine WT.cond rfl (fun c5 => ?_) (fun c5 => ?_)
  · replace h := ite_t h c5
    refine WT.seq ?_
    refine WT.region ?_
    refine lq (q_assign rfl) rfl ?_
    refine WL.nil ?_
    refine WT.ret Try.func4 (resOk.one rfl) (fun w1 hw => ?_)
    cases h
    exact post_of_St hw
  replace h := ite_f h c5
  refine WT.skip ?_
  refine WT.seq ?_
  refine WT.region ?_
  refine lq (q_assign rfl) rfl ?_
  refine WL.nil ?_
  refine WT.seq ?_
  refine WT.region ?_
  refine lq (q_loadN Tn_41 rfl (fun w1 hw => hw.rgO (i := 0) rfl 0 2 [v11, v12] rfl) rfl) rfl ?_
  refine lq (q_move rfl) rfl ?_
  obtain ⟨x11, hx11, h⟩ := bind_some h
  refine lc (k_call (js := [8, 8, 8, 8]) (R := [ob v8, D11, ob v9, D12, ob v14, D9, ob v15, D10, ob v5, D3, ob v6, D4, ob v2, D1, ob v3, D2]) Fun_25 rfl rfl (fun w1 hw ap hl => m_l_markMem_ok hw.fro N x5 1 h7 h8 ap.nd hl hx11)) rfl (fun v17 Φ_7 F7 q7 => ?_)
  obtain ⟨ap7, fr7, D13, D14, rfl, rfl, h13, h14⟩ := q7
  replace ph0_0 := ph0_0.frame RTAlpha.lasts fr7 (ap7.o pa0_0)
  replace ph0_1 := ph0_1.frame RTChain.lasts fr7 (ap7.o pa0_1)
  replace h3 := h3.frame OTIds.lasts fr7 (ap7.r (i := 8) rfl) (ap7.r (i := 9) rfl)
  replace h4 := h4.frame OTRow.lasts fr7 (ap7.r (i := 10) rfl) (ap7.r (i := 11) rfl)
  refine lq (q_assign rfl) rfl ?_
  refine WL.nil ?_
  refine WT.seq ?_
  refine WT.region ?_
  refine lq (q_assign rfl) rfl ?_
  refine WL.nil ?_
  refine WT.seq ?_
  refine WT.region ?_
  refine lq (q_loadN Tn_41 rfl (fun w1 hw => hw.rgO (i := 0) rfl 0 2 [v11, v12] rfl) rfl) rfl ?_
  refine lq (q_move rfl) rfl ?_
  obtain ⟨x12, hx12, h⟩ := bind_some h
  refine lp (p_call Fun_26 rfl (fun w1 hw => m_l_heldMem_ok hw.fro N (⟨x11.2.1, x11.2.2⟩ : TMem) 1 (h13.rslG OTIds.gives) (h14.rslG OTRow.gives) hx12)) rfl ?_
  refine lq (q_assign rfl) rfl ?_
  refine WL.nil ?_
  refine WT.seq ?_
  refine WT.seq ?_
  refine WT.region ?_
  refine lq (q_move rfl) rfl ?_
  refine lq (q_lss rfl rfl) rfl ?_
  refine WL.nil ?_
  refine WT.cond rfl (fun c6 => ?_) (fun c6 => ?_)
  · replace h := ite_t h c6
    refine WT.seq ?_
    refine WT.region ?_
    refine lq (q_assign rfl) rfl ?_
    refine WL.nil ?_
    refine WT.ret Try.func4 (resOk.one rfl) (fun w1 hw => ?_)
    cases h
    exact post_of_St hw
  replace h := ite_f h c6
  refine WT.skip ?_
  refine WT.seq ?_
  refine WT.seq ?_
  refine WT.region ?_
  refine lq (q_move rfl) rfl ?_
  refine lq (q_move rfl) rfl ?_
  refine lq (q_neq rfl rfl) rfl ?_
  refine WL.nil ?_
  refine WT.cond rfl (fun c7 => ?_) (fun c7 => ?_)
  · replace h := ite_t h c7
    refine WT.seq ?_
    refine WT.region ?_
    refine lq (q_assign rfl) rfl ?_
    refine WL.nil ?_
    refine WT.ret Try.func4 (resOk.one rfl) (fun w1 hw => ?_)
    cases h
    exact post_of_St hw
  replace h := ite_f h c7
  refine WT.skip ?_
  refine WT.seq ?_
  refine WT.region ?_
  refine lq (q_loadN Tn_36 rfl (fun w1 hw => hw.rgO (i := 3) rfl 0 2 [pv0_0, pv0_1] rfl) rfl) rfl ?_
  obtain ⟨x13, hx13, h⟩ := bind_some h
  refine lc (k_call (js := []) (R := [ob v11, D13, ob v12, D14, ob v8, D11, ob v9, D12, ob v14, D9, ob v15, D10, ob v5, D3, ob v6, D4, ob v2, D1, ob v3, D2]) Fun_20 rfl rfl (fun w1 hw ap hl => m_l_toNet_ok hw.fro N p0 ph0_0 ph0_1  hx13)) rfl (fun v18 Φ_8 F8 q8 => ?_)
  obtain ⟨ap8, fr8, v19, D15, v20, D16, rfl, rfl, h15, h16⟩ := q8
  replace h3 := h3.frame OTIds.lasts fr8 (ap8.r (i := 12) rfl) (ap8.r (i := 13) rfl)
  replace h4 := h4.frame OTRow.lasts fr8 (ap8.r (i := 14) rfl) (ap8.r (i := 15) rfl)
  replace h13 := h13.frame OTIds.lasts fr8 (ap8.r (i := 0) rfl) (ap8.r (i := 1) rfl)
  replace h14 := h14.frame OTRow.lasts fr8 (ap8.r (i := 2) rfl) (ap8.r (i := 3) rfl)
  obtain ⟨x14, hx14, h⟩ := bind_some h
  refine lc (k_call (js := []) (R := [ob v19, D15, ob v20, D16, ob v11, D13, ob v12, D14, ob v8, D11, ob v9, D12, ob v14, D9, ob v15, D10, ob v5, D3, ob v6, D4, ob v2, D1, ob v3, D2]) Fun_21 rfl rfl (fun w1 hw ap hl => m_i_MemNew_ok hw.fro N x13 (h15.rslG OTAlpha.gives) (h16.rslG OTChain.gives)  hx14)) rfl (fun v21 Φ_9 F9 q9 => ?_)
  obtain ⟨ap9, fr9, v22, D17, v23, D18, rfl, rfl, h17, h18⟩ := q9
  replace h3 := h3.frame OTIds.lasts fr9 (ap9.r (i := 16) rfl) (ap9.r (i := 17) rfl)
  replace h4 := h4.frame OTRow.lasts fr9 (ap9.r (i := 18) rfl) (ap9.r (i := 19) rfl)
  replace h13 := h13.frame OTIds.lasts fr9 (ap9.r (i := 4) rfl) (ap9.r (i := 5) rfl)
  replace h14 := h14.frame OTRow.lasts fr9 (ap9.r (i := 6) rfl) (ap9.r (i := 7) rfl)
  refine ln (n_alloc (C := #[.slice none 0 0, .slice none 0 0]) Zr_41 rfl) rfl (fun b_5 => ?_)
  refine ls (s_store (i := 0) (vs := [v22, v23]) (C' := [v22, v23]) (O' := [(b_5, .cells #[v22, v23] 41 (0, 0)), (b_4, .cells #[v11, v12] 41 (0, 0)), (b_3, .cells #[v8, v9] 46 (0, 0)), (b_2, .cells #[v5, v6] 41 (0, 0)), (b_1, .cells #[pv0_0, pv0_1] 36 (0, 0))]) Sz_41 rfl rfl rfl rfl rfl rfl ⟨h17.one, h18.one, trivial⟩ rfl rfl) rfl ?_
  refine WL.nil ?_
  refine WT.seq ?_
  refine WT.seq ?_
  refine WT.region ?_
  refine lq (q_loadN Tn_41 rfl (fun w1 hw => hw.rgO (i := 0) rfl 0 2 [v22, v23] rfl) rfl) rfl ?_
  refine lq (q_loadN Tn_41 rfl (fun w1 hw => hw.rgO (i := 3) rfl 0 2 [v5, v6] rfl) rfl) rfl ?_
  obtain ⟨x15, hx15, h⟩ := bind_some h
  refine lp (p_call Fun_22 rfl (fun w1 hw => m_l_eqMem_ok hw.fro N x14 x3 (h17.rslG OTIds.gives) (h18.rslG OTRow.gives) (h3.rslG OTIds.gives) (h4.rslG OTRow.gives) hx15)) rfl ?_
  refine lq (q_not rfl) rfl ?_
  refine WL.nil ?_
  refine WT.cond rfl (fun c8 => ?_) (fun c8 => ?_)
  · replace h := ite_t h c8
    refine WT.seq ?_
    refine WT.region ?_
    refine lq (q_assign rfl) rfl ?_
    refine WL.nil ?_
    refine WT.ret Try.func4 (resOk.one rfl) (fun w1 hw => ?_)
    cases h
    exact post_of_St hw
  replace h := ite_f h c8
  refine WT.skip ?_
  refine WT.seq ?_
  refine WT.region ?_
  refine lq (q_assign rfl) rfl ?_
  refine WL.nil ?_
  refine WT.seq ?_
  refine WT.region ?_
  refine lq (q_loadN Tn_41 rfl (fun w1 hw => hw.rgO (i := 1) rfl 0 2 [v11, v12] rfl) rfl) rfl ?_
  refine lq (q_move rfl) rfl ?_
  obtain ⟨x16, hx16, h⟩ := bind_some h
  refine lp (p_call Fun_26 rfl (fun w1 hw => m_l_heldMem_ok hw.fro N (⟨x11.2.1, x11.2.2⟩ : TMem) 1 (h13.rslG OTIds.gives) (h14.rslG OTRow.gives) hx16)) rfl ?_
  refine lq (q_assign rfl) rfl ?_
  refine WL.nil ?_
  refine WT.seq ?_
  refine WT.seq ?_
  refine WT.region ?_
  refine lq (q_move rfl) rfl ?_
  refine lq (q_lss rfl rfl) rfl ?_
  refine WL.nil ?_
  refine WT.cond rfl (fun c9 => ?_) (fun c9 => ?_)
  · replace h := ite_t h c9
    refine WT.seq ?_
    refine WT.region ?_
    refine lq (q_assign rfl) rfl ?_
    refine WL.nil ?_
    refine WT.ret Try.func4 (resOk.one rfl) (fun w1 hw => ?_)
    cases h
    exact post_of_St hw
  replace h := ite_f h c9
  refine WT.skip ?_
  refine WT.seq ?_
  refine WT.seq ?_
  refine WT.region ?_
  refine lq (q_move rfl) rfl ?_
  refine lq (q_move rfl) rfl ?_
  refine lq (q_neq rfl rfl) rfl ?_
  refine WL.nil ?_
  refine WT.cond rfl (fun c10 => ?_) (fun c10 => ?_)
  · replace h := ite_t h c10
    refine WT.seq ?_
    refine WT.region ?_
    refine lq (q_assign rfl) rfl ?_
    refine WL.nil ?_
    refine WT.ret Try.func4 (resOk.one rfl) (fun w1 hw => ?_)
    cases h
    exact post_of_St hw
  replace h := ite_f h c10
  refine WT.skip ?_
  refine WT.seq ?_
  refine WT.region ?_
  refine lq (q_assign rfl) rfl ?_
  refine WL.nil ?_
  refine WT.ret Try.func4 (resOk.one rfl) (fun w1 hw => ?_)
  cases h
  exact post_of_St hw
end Go.Proofs.Ytjhlmnbkfdkmpaa
