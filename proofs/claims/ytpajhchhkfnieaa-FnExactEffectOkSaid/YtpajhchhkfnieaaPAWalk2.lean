/- Printed by a program of ours: each Go function computes its Lean function. -/
import Derived.Test.YtpajhchhkfnieaaProg
import Derived.Test.YtpajhchhkfnieaaPAWalk1
namespace Go.Proofs.Ytpajhchhkfnieaa
open Eng
open Go.RowKit (Below)
set_option linter.unusedVariables false
set_option linter.unusedSimpArgs false

set_option maxRecDepth 100000
set_option maxHeartbeats 1000000
theorem m_i_EffectOk_ok {Φ : Hp} {w : World} (hΦ : In Φ w) (N : Nat) (p0 : TEffect) {pv0_0 : Value} {pG0_0 : List Nat} (ph0_0 : RSl RTVal 3 Φ pG0_0 pv0_0 p0.F.Fields) {r : Bool} (h : m_i_EffectOk N p0 = some r) :
    Calls Try.prog 47 [.agg [.int .i64 p0.Kind, .string p0.F.Kind, pv0_0, .int .i64 p0.Id, .int .i64 p0.N, .string p0.Undo].toArray].toArray w (Post (.bool r) w) := by
  refine enter Try.func47 rfl Try.ntmps47 rfl (St.start hΦ) ?_
  unfold m_i_EffectOk at h
  refine WT.seq ?_
  refine WT.region ?_
  refine WL.box (C := #[.int .i64 p0.Kind, .string p0.F.Kind, pv0_0, .int .i64 p0.Id, .int .i64 p0.N, .string p0.Undo]) rfl rfl rfl rfl rfl rfl (fun b_1 => ?_)
  refine WL.q (q_assign rfl) rfl rfl rfl ?_
  refine WL.nil ?_
  refine WT.seq ?_
  refine WT.region ?_
  refine WL.q (q_fieldAddr Fld_75_1 rfl) rfl rfl rfl ?_
  refine WL.q (q_fieldAddr Fld_60_0 rfl) rfl rfl rfl ?_
  refine WL.q (q_load1 T1_9 rfl (fun w1 hw => hw.rgL (i := 0) rfl 1 1 [.string p0.F.Kind] rfl)) rfl rfl rfl ?_
  refine WL.q (q_seq rfl rfl) rfl rfl rfl ?_
  refine WL.q (q_move rfl) rfl rfl rfl ?_
  obtain ⟨b1, hb_1, h⟩ := bind_some h
  refine WL.cutN 6 [(14, .bool b1), (1, .pointer (some ⟨b_1, 0, none⟩)), (2, .bool false)] ?_ (fun K => ?_)
  rotate_left
  · refine WL.split (d := 8) rfl (fun c1 => ?_) (fun c1 => ?_)
    · replace hb_1 := ite_t hb_1 c1
      refine WL.yes rfl rfl ?_
      refine WL.q (q_fieldAddr Fld_75_1 rfl) rfl rfl rfl ?_
      refine WL.yes rfl rfl ?_
      refine WL.q (q_fieldAddr Fld_60_1 rfl) rfl rfl rfl ?_
      refine WL.yes rfl rfl ?_
      refine WL.q (q_load1 T1_44 rfl (fun w1 hw => hw.rgL (i := 0) rfl 2 1 [pv0_0] rfl)) rfl rfl rfl ?_
      refine WL.yes rfl rfl ?_
      refine WL.q (q_lenR Sl_44 rfl rfl ph0_0) rfl rfl rfl ?_
      refine WL.yes rfl rfl ?_
      refine WL.q (q_eql rfl rfl) rfl rfl rfl ?_
      refine WL.q (q_pick1 rfl rfl) rfl rfl rfl ?_
      cases hb_1
      exact WL.keep (by exact ⟨rfl, rfl, rfl, trivial⟩) K
    · replace hb_1 := ite_f hb_1 c1
      refine WL.no rfl rfl rfl rfl ?_
      refine WL.no rfl rfl rfl rfl ?_
      refine WL.no rfl rfl rfl rfl ?_
      refine WL.no rfl rfl rfl rfl ?_
      refine WL.no rfl rfl rfl rfl ?_
      refine WL.q (q_pick0 rfl rfl) rfl rfl rfl ?_
      cases hb_1
      exact WL.keep (by exact ⟨rfl, rfl, rfl, trivial⟩) K
  refine WL.q (q_assign rfl) rfl rfl rfl ?_
  refine WL.nil ?_
  refine WT.seq ?_
  refine WT.seq ?_
  refine WT.region ?_
  refine WL.q (q_fieldAddr Fld_75_0 rfl) rfl rfl rfl ?_
  refine WL.q (q_load1 T1_3 rfl (fun w1 hw => hw.rgL (i := 0) rfl 0 1 [.int .i64 p0.Kind] rfl)) rfl rfl rfl ?_
  refine WL.nil ?_
  refine WT.block ?_
  refine WT.seq ?_
  refine WT.region ?_
  refine WL.q (q_eql rfl rfl) rfl rfl rfl ?_
  refine WL.q (q_assign rfl) rfl rfl rfl ?_
  refine WL.nil ?_
  refine WT.cond rfl (fun c2 => ?_) (fun c2 => ?_)
  · replace h := ite_t h c2
    refine WT.seq ?_
    refine WT.region ?_
    refine WL.q (q_fieldAddr Fld_75_1 rfl) rfl rfl rfl ?_
    refine WL.q (q_loadN Tn_60 rfl (fun w1 hw => hw.rgL (i := 0) rfl 1 2 [.string p0.F.Kind, pv0_0] rfl) rfl) rfl rfl rfl ?_
    obtain ⟨x1, hx1, h⟩ := bind_some h
    refine WL.call (c_pure Fun_92 rfl (fun w1 hw => m_i_FactOk_ok hw.fro N p0.F ph0_0 hx1)) rfl rfl rfl (fun _ => ?_)
    refine WL.q (q_move rfl) rfl rfl rfl ?_
    obtain ⟨b2, hb_2, h⟩ := bind_some h
    refine WL.cutN 4 [(26, .bool b2), (1, .pointer (some ⟨b_1, 0, none⟩)), (2, .bool false)] ?_ (fun K => ?_)
    rotate_left
    · refine WL.split (d := 22) rfl (fun c3 => ?_) (fun c3 => ?_)
      · replace hb_2 := ite_t hb_2 c3
        refine WL.yes rfl rfl ?_
        refine WL.q (q_fieldAddr Fld_75_2 rfl) rfl rfl rfl ?_
        refine WL.yes rfl rfl ?_
        refine WL.q (q_load1 T1_3 rfl (fun w1 hw => hw.rgL (i := 0) rfl 3 1 [.int .i64 p0.Id] rfl)) rfl rfl rfl ?_
        refine WL.yes rfl rfl ?_
        refine WL.q (q_eql rfl rfl) rfl rfl rfl ?_
        refine WL.q (q_pick1 rfl rfl) rfl rfl rfl ?_
        cases hb_2
        exact WL.keep (by exact ⟨rfl, rfl, rfl, trivial⟩) K
      · replace hb_2 := ite_f hb_2 c3
        refine WL.no rfl rfl rfl rfl ?_
        refine WL.no rfl rfl rfl rfl ?_
        refine WL.no rfl rfl rfl rfl ?_
        refine WL.q (q_pick0 rfl rfl) rfl rfl rfl ?_
        cases hb_2
        exact WL.keep (by exact ⟨rfl, rfl, rfl, trivial⟩) K
    refine WL.q (q_move rfl) rfl rfl rfl ?_
    obtain ⟨b3, hb_3, h⟩ := bind_some h
    refine WL.cutN 4 [(31, .bool b3), (1, .pointer (some ⟨b_1, 0, none⟩)), (2, .bool false)] ?_ (fun K => ?_)
    rotate_left
    · refine WL.split (d := 27) rfl (fun c4 => ?_) (fun c4 => ?_)
      · replace hb_3 := ite_t hb_3 c4
        refine WL.yes rfl rfl ?_
        refine WL.q (q_fieldAddr Fld_75_3 rfl) rfl rfl rfl ?_
        refine WL.yes rfl rfl ?_
        refine WL.q (q_load1 T1_3 rfl (fun w1 hw => hw.rgL (i := 0) rfl 4 1 [.int .i64 p0.N] rfl)) rfl rfl rfl ?_
        refine WL.yes rfl rfl ?_
        refine WL.q (q_eql rfl rfl) rfl rfl rfl ?_
        refine WL.q (q_pick1 rfl rfl) rfl rfl rfl ?_
        cases hb_3
        exact WL.keep (by exact ⟨rfl, rfl, rfl, trivial⟩) K
      · replace hb_3 := ite_f hb_3 c4
        refine WL.no rfl rfl rfl rfl ?_
        refine WL.no rfl rfl rfl rfl ?_
        refine WL.no rfl rfl rfl rfl ?_
        refine WL.q (q_pick0 rfl rfl) rfl rfl rfl ?_
        cases hb_3
        exact WL.keep (by exact ⟨rfl, rfl, rfl, trivial⟩) K
    refine WL.q (q_move rfl) rfl rfl rfl ?_
    obtain ⟨b4, hb_4, h⟩ := bind_some h
    refine WL.cutN 4 [(36, .bool b4), (2, .bool false)] ?_ (fun K => ?_)
    rotate_left
    · refine WL.split (d := 32) rfl (fun c5 => ?_) (fun c5 => ?_)
      · replace hb_4 := ite_t hb_4 c5
        refine WL.yes rfl rfl ?_
        refine WL.q (q_fieldAddr Fld_75_4 rfl) rfl rfl rfl ?_
        refine WL.yes rfl rfl ?_
        refine WL.q (q_load1 T1_9 rfl (fun w1 hw => hw.rgL (i := 0) rfl 5 1 [.string p0.Undo] rfl)) rfl rfl rfl ?_
        refine WL.yes rfl rfl ?_
        refine WL.q (q_seq rfl rfl) rfl rfl rfl ?_
        refine WL.q (q_pick1 rfl rfl) rfl rfl rfl ?_
        cases hb_4
        exact WL.keep (by exact ⟨rfl, rfl, trivial⟩) K
      · replace hb_4 := ite_f hb_4 c5
        refine WL.no rfl rfl rfl rfl ?_
        refine WL.no rfl rfl rfl rfl ?_
        refine WL.no rfl rfl rfl rfl ?_
        refine WL.q (q_pick0 rfl rfl) rfl rfl rfl ?_
        cases hb_4
        exact WL.keep (by exact ⟨rfl, rfl, trivial⟩) K
    refine WL.q (q_assign rfl) rfl rfl rfl ?_
    refine WL.nil ?_
    refine WT.ret Try.func47 (resOk.one rfl) (fun w1 hw => ?_)
    cases h
    exact post_of_St hw
  · replace h := ite_f h c2
    refine WT.seq ?_
    refine WT.region ?_
    refine WL.q (q_eql rfl rfl) rfl rfl rfl ?_
    refine WL.q (q_assign rfl) rfl rfl rfl ?_
    refine WL.nil ?_
    refine WT.cond rfl (fun c6 => ?_) (fun c6 => ?_)
    · replace h := ite_t h c6
      refine WT.seq ?_
      refine WT.region ?_
      refine WL.q (q_move rfl) rfl rfl rfl ?_
      refine WL.q (q_move rfl) rfl rfl rfl ?_
      obtain ⟨b5, hb_5, h⟩ := bind_some h
      refine WL.cutN 4 [(44, .bool b5), (1, .pointer (some ⟨b_1, 0, none⟩)), (2, .bool false)] ?_ (fun K => ?_)
      rotate_left
      · refine WL.split (d := 40) rfl (fun c7 => ?_) (fun c7 => ?_)
        · replace hb_5 := ite_t hb_5 c7
          refine WL.yes rfl rfl ?_
          refine WL.q (q_fieldAddr Fld_75_2 rfl) rfl rfl rfl ?_
          refine WL.yes rfl rfl ?_
          refine WL.q (q_load1 T1_3 rfl (fun w1 hw => hw.rgL (i := 0) rfl 3 1 [.int .i64 p0.Id] rfl)) rfl rfl rfl ?_
          refine WL.yes rfl rfl ?_
          refine WL.q (q_geq rfl rfl) rfl rfl rfl ?_
          refine WL.q (q_pick1 rfl rfl) rfl rfl rfl ?_
          cases hb_5
          exact WL.keep (by exact ⟨rfl, rfl, rfl, trivial⟩) K
        · replace hb_5 := ite_f hb_5 c7
          refine WL.no rfl rfl rfl rfl ?_
          refine WL.no rfl rfl rfl rfl ?_
          refine WL.no rfl rfl rfl rfl ?_
          refine WL.q (q_pick0 rfl rfl) rfl rfl rfl ?_
          cases hb_5
          exact WL.keep (by exact ⟨rfl, rfl, rfl, trivial⟩) K
      refine WL.q (q_move rfl) rfl rfl rfl ?_
      obtain ⟨b6, hb_6, h⟩ := bind_some h
      refine WL.cutN 4 [(49, .bool b6), (1, .pointer (some ⟨b_1, 0, none⟩)), (2, .bool false)] ?_ (fun K => ?_)
      rotate_left
      · refine WL.split (d := 45) rfl (fun c8 => ?_) (fun c8 => ?_)
        · replace hb_6 := ite_t hb_6 c8
          refine WL.yes rfl rfl ?_
          refine WL.q (q_fieldAddr Fld_75_3 rfl) rfl rfl rfl ?_
          refine WL.yes rfl rfl ?_
          refine WL.q (q_load1 T1_3 rfl (fun w1 hw => hw.rgL (i := 0) rfl 4 1 [.int .i64 p0.N] rfl)) rfl rfl rfl ?_
          refine WL.yes rfl rfl ?_
          refine WL.q (q_eql rfl rfl) rfl rfl rfl ?_
          refine WL.q (q_pick1 rfl rfl) rfl rfl rfl ?_
          cases hb_6
          exact WL.keep (by exact ⟨rfl, rfl, rfl, trivial⟩) K
        · replace hb_6 := ite_f hb_6 c8
          refine WL.no rfl rfl rfl rfl ?_
          refine WL.no rfl rfl rfl rfl ?_
          refine WL.no rfl rfl rfl rfl ?_
          refine WL.q (q_pick0 rfl rfl) rfl rfl rfl ?_
          cases hb_6
          exact WL.keep (by exact ⟨rfl, rfl, rfl, trivial⟩) K
      refine WL.q (q_move rfl) rfl rfl rfl ?_
      obtain ⟨b7, hb_7, h⟩ := bind_some h
      refine WL.cutN 4 [(54, .bool b7), (2, .bool false)] ?_ (fun K => ?_)
      rotate_left
      · refine WL.split (d := 50) rfl (fun c9 => ?_) (fun c9 => ?_)
        · replace hb_7 := ite_t hb_7 c9
          refine WL.yes rfl rfl ?_
          refine WL.q (q_fieldAddr Fld_75_4 rfl) rfl rfl rfl ?_
          refine WL.yes rfl rfl ?_
          refine WL.q (q_load1 T1_9 rfl (fun w1 hw => hw.rgL (i := 0) rfl 5 1 [.string p0.Undo] rfl)) rfl rfl rfl ?_
          refine WL.yes rfl rfl ?_
          refine WL.q (q_seq rfl rfl) rfl rfl rfl ?_
          refine WL.q (q_pick1 rfl rfl) rfl rfl rfl ?_
          cases hb_7
          exact WL.keep (by exact ⟨rfl, rfl, trivial⟩) K
        · replace hb_7 := ite_f hb_7 c9
          refine WL.no rfl rfl rfl rfl ?_
          refine WL.no rfl rfl rfl rfl ?_
          refine WL.no rfl rfl rfl rfl ?_
          refine WL.q (q_pick0 rfl rfl) rfl rfl rfl ?_
          cases hb_7
          exact WL.keep (by exact ⟨rfl, rfl, trivial⟩) K
      refine WL.q (q_assign rfl) rfl rfl rfl ?_
      refine WL.nil ?_
      refine WT.ret Try.func47 (resOk.one rfl) (fun w1 hw => ?_)
      cases h
      exact post_of_St hw
    · replace h := ite_f h c6
      refine WT.seq ?_
      refine WT.region ?_
      refine WL.q (q_eql rfl rfl) rfl rfl rfl ?_
      refine WL.q (q_assign rfl) rfl rfl rfl ?_
      refine WL.nil ?_
      refine WT.cond rfl (fun c10 => ?_) (fun c10 => ?_)
      · replace h := ite_t h c10
        refine WT.seq ?_
        refine WT.region ?_
        refine WL.q (q_fieldAddr Fld_75_1 rfl) rfl rfl rfl ?_
        refine WL.q (q_loadN Tn_60 rfl (fun w1 hw => hw.rgL (i := 0) rfl 1 2 [.string p0.F.Kind, pv0_0] rfl) rfl) rfl rfl rfl ?_
        obtain ⟨x2, hx2, h⟩ := bind_some h
        refine WL.call (c_pure Fun_92 rfl (fun w1 hw => m_i_FactOk_ok hw.fro N p0.F ph0_0 hx2)) rfl rfl rfl (fun _ => ?_)
        refine WL.q (q_move rfl) rfl rfl rfl ?_
        obtain ⟨b8, hb_8, h⟩ := bind_some h
        refine WL.cutN 4 [(64, .bool b8), (1, .pointer (some ⟨b_1, 0, none⟩)), (2, .bool false)] ?_ (fun K => ?_)
        rotate_left
        · refine WL.split (d := 60) rfl (fun c11 => ?_) (fun c11 => ?_)
          · replace hb_8 := ite_t hb_8 c11
            refine WL.yes rfl rfl ?_
            refine WL.q (q_fieldAddr Fld_75_2 rfl) rfl rfl rfl ?_
            refine WL.yes rfl rfl ?_
            refine WL.q (q_load1 T1_3 rfl (fun w1 hw => hw.rgL (i := 0) rfl 3 1 [.int .i64 p0.Id] rfl)) rfl rfl rfl ?_
            refine WL.yes rfl rfl ?_
            refine WL.q (q_eql rfl rfl) rfl rfl rfl ?_
            refine WL.q (q_pick1 rfl rfl) rfl rfl rfl ?_
            cases hb_8
            exact WL.keep (by exact ⟨rfl, rfl, rfl, trivial⟩) K
          · replace hb_8 := ite_f hb_8 c11
            refine WL.no rfl rfl rfl rfl ?_
            refine WL.no rfl rfl rfl rfl ?_
            refine WL.no rfl rfl rfl rfl ?_
            refine WL.q (q_pick0 rfl rfl) rfl rfl rfl ?_
            cases hb_8
            exact WL.keep (by exact ⟨rfl, rfl, rfl, trivial⟩) K
        refine WL.q (q_move rfl) rfl rfl rfl ?_
        obtain ⟨b9, hb_9, h⟩ := bind_some h
        refine WL.cutN 4 [(69, .bool b9), (1, .pointer (some ⟨b_1, 0, none⟩)), (2, .bool false)] ?_ (fun K => ?_)
        rotate_left
        · refine WL.split (d := 65) rfl (fun c12 => ?_) (fun c12 => ?_)
          · replace hb_9 := ite_t hb_9 c12
            refine WL.yes rfl rfl ?_
            refine WL.q (q_fieldAddr Fld_75_3 rfl) rfl rfl rfl ?_
            refine WL.yes rfl rfl ?_
            refine WL.q (q_load1 T1_3 rfl (fun w1 hw => hw.rgL (i := 0) rfl 4 1 [.int .i64 p0.N] rfl)) rfl rfl rfl ?_
            refine WL.yes rfl rfl ?_
            refine WL.q (q_eql rfl rfl) rfl rfl rfl ?_
            refine WL.q (q_pick1 rfl rfl) rfl rfl rfl ?_
            cases hb_9
            exact WL.keep (by exact ⟨rfl, rfl, rfl, trivial⟩) K
          · replace hb_9 := ite_f hb_9 c12
            refine WL.no rfl rfl rfl rfl ?_
            refine WL.no rfl rfl rfl rfl ?_
            refine WL.no rfl rfl rfl rfl ?_
            refine WL.q (q_pick0 rfl rfl) rfl rfl rfl ?_
            cases hb_9
            exact WL.keep (by exact ⟨rfl, rfl, rfl, trivial⟩) K
        refine WL.q (q_move rfl) rfl rfl rfl ?_
        obtain ⟨b10, hb_10, h⟩ := bind_some h
        refine WL.cutN 4 [(74, .bool b10), (2, .bool false)] ?_ (fun K => ?_)
        rotate_left
        · refine WL.split (d := 70) rfl (fun c13 => ?_) (fun c13 => ?_)
          · replace hb_10 := ite_t hb_10 c13
            refine WL.yes rfl rfl ?_
            refine WL.q (q_fieldAddr Fld_75_4 rfl) rfl rfl rfl ?_
            refine WL.yes rfl rfl ?_
            refine WL.q (q_load1 T1_9 rfl (fun w1 hw => hw.rgL (i := 0) rfl 5 1 [.string p0.Undo] rfl)) rfl rfl rfl ?_
            refine WL.yes rfl rfl ?_
            obtain ⟨x3, hx3, hb_10⟩ := bind_some hb_10
            refine WL.call (c_pure Fun_93 rfl (fun w1 hw => m_i_isUndo_ok hw.fro N p0.Undo hx3)) rfl rfl rfl (fun _ => ?_)
            refine WL.q (q_pick1 rfl rfl) rfl rfl rfl ?_
            cases hb_10
            exact WL.keep (by exact ⟨rfl, rfl, trivial⟩) K
          · replace hb_10 := ite_f hb_10 c13
            refine WL.no rfl rfl rfl rfl ?_
            refine WL.no rfl rfl rfl rfl ?_
            refine WL.no rfl rfl rfl rfl ?_
            refine WL.q (q_pick0 rfl rfl) rfl rfl rfl ?_
            cases hb_10
            exact WL.keep (by exact ⟨rfl, rfl, trivial⟩) K
        refine WL.q (q_assign rfl) rfl rfl rfl ?_
        refine WL.nil ?_
        refine WT.ret Try.func47 (resOk.one rfl) (fun w1 hw => ?_)
        cases h
        exact post_of_St hw
      · replace h := ite_f h c10
        refine WT.seq ?_
        refine WT.region ?_
        refine WL.q (q_eql rfl rfl) rfl rfl rfl ?_
        refine WL.q (q_assign rfl) rfl rfl rfl ?_
        refine WL.nil ?_
        refine WT.cond rfl (fun c14 => ?_) (fun c14 => ?_)
        · replace h := ite_t h c14
          refine WT.seq ?_
          refine WT.region ?_
          refine WL.q (q_fieldAddr Fld_75_1 rfl) rfl rfl rfl ?_
          refine WL.q (q_loadN Tn_60 rfl (fun w1 hw => hw.rgL (i := 0) rfl 1 2 [.string p0.F.Kind, pv0_0] rfl) rfl) rfl rfl rfl ?_
          obtain ⟨x4, hx4, h⟩ := bind_some h
          refine WL.call (c_pure Fun_92 rfl (fun w1 hw => m_i_FactOk_ok hw.fro N p0.F ph0_0 hx4)) rfl rfl rfl (fun _ => ?_)
          refine WL.q (q_move rfl) rfl rfl rfl ?_
          obtain ⟨b11, hb_11, h⟩ := bind_some h
          refine WL.cutN 4 [(84, .bool b11), (1, .pointer (some ⟨b_1, 0, none⟩)), (2, .bool false)] ?_ (fun K => ?_)
          rotate_left
          · refine WL.split (d := 80) rfl (fun c15 => ?_) (fun c15 => ?_)
            · replace hb_11 := ite_t hb_11 c15
              refine WL.yes rfl rfl ?_
              refine WL.q (q_fieldAddr Fld_75_2 rfl) rfl rfl rfl ?_
              refine WL.yes rfl rfl ?_
              refine WL.q (q_load1 T1_3 rfl (fun w1 hw => hw.rgL (i := 0) rfl 3 1 [.int .i64 p0.Id] rfl)) rfl rfl rfl ?_
              refine WL.yes rfl rfl ?_
              refine WL.q (q_eql rfl rfl) rfl rfl rfl ?_
              refine WL.q (q_pick1 rfl rfl) rfl rfl rfl ?_
              cases hb_11
              exact WL.keep (by exact ⟨rfl, rfl, rfl, trivial⟩) K
            · replace hb_11 := ite_f hb_11 c15
              refine WL.no rfl rfl rfl rfl ?_
              refine WL.no rfl rfl rfl rfl ?_
              refine WL.no rfl rfl rfl rfl ?_
              refine WL.q (q_pick0 rfl rfl) rfl rfl rfl ?_
              cases hb_11
              exact WL.keep (by exact ⟨rfl, rfl, rfl, trivial⟩) K
          refine WL.q (q_move rfl) rfl rfl rfl ?_
          obtain ⟨b12, hb_12, h⟩ := bind_some h
          refine WL.cutN 4 [(89, .bool b12), (1, .pointer (some ⟨b_1, 0, none⟩)), (2, .bool false)] ?_ (fun K => ?_)
          rotate_left
          · refine WL.split (d := 85) rfl (fun c16 => ?_) (fun c16 => ?_)
            · replace hb_12 := ite_t hb_12 c16
              refine WL.yes rfl rfl ?_
              refine WL.q (q_fieldAddr Fld_75_3 rfl) rfl rfl rfl ?_
              refine WL.yes rfl rfl ?_
              refine WL.q (q_load1 T1_3 rfl (fun w1 hw => hw.rgL (i := 0) rfl 4 1 [.int .i64 p0.N] rfl)) rfl rfl rfl ?_
              refine WL.yes rfl rfl ?_
              obtain ⟨x5, hx5, hb_12⟩ := bind_some hb_12
              refine WL.call (c_pure Fun_94 rfl (fun w1 hw => m_i_inRange_ok hw.fro N p0.N 0 100000 hx5)) rfl rfl rfl (fun _ => ?_)
              refine WL.q (q_pick1 rfl rfl) rfl rfl rfl ?_
              cases hb_12
              exact WL.keep (by exact ⟨rfl, rfl, rfl, trivial⟩) K
            · replace hb_12 := ite_f hb_12 c16
              refine WL.no rfl rfl rfl rfl ?_
              refine WL.no rfl rfl rfl rfl ?_
              refine WL.no rfl rfl rfl rfl ?_
              refine WL.q (q_pick0 rfl rfl) rfl rfl rfl ?_
              cases hb_12
              exact WL.keep (by exact ⟨rfl, rfl, rfl, trivial⟩) K
          refine WL.q (q_move rfl) rfl rfl rfl ?_
          obtain ⟨b13, hb_13, h⟩ := bind_some h
          refine WL.cutN 4 [(94, .bool b13), (2, .bool false)] ?_ (fun K => ?_)
          rotate_left
          · refine WL.split (d := 90) rfl (fun c17 => ?_) (fun c17 => ?_)
            · replace hb_13 := ite_t hb_13 c17
              refine WL.yes rfl rfl ?_
              refine WL.q (q_fieldAddr Fld_75_4 rfl) rfl rfl rfl ?_
              refine WL.yes rfl rfl ?_
              refine WL.q (q_load1 T1_9 rfl (fun w1 hw => hw.rgL (i := 0) rfl 5 1 [.string p0.Undo] rfl)) rfl rfl rfl ?_
              refine WL.yes rfl rfl ?_
              refine WL.q (q_seq rfl rfl) rfl rfl rfl ?_
              refine WL.q (q_pick1 rfl rfl) rfl rfl rfl ?_
              cases hb_13
              exact WL.keep (by exact ⟨rfl, rfl, trivial⟩) K
            · replace hb_13 := ite_f hb_13 c17
              refine WL.no rfl rfl rfl rfl ?_
              refine WL.no rfl rfl rfl rfl ?_
              refine WL.no rfl rfl rfl rfl ?_
              refine WL.q (q_pick0 rfl rfl) rfl rfl rfl ?_
              cases hb_13
              exact WL.keep (by exact ⟨rfl, rfl, trivial⟩) K
          refine WL.q (q_assign rfl) rfl rfl rfl ?_
          refine WL.nil ?_
          refine WT.ret Try.func47 (resOk.one rfl) (fun w1 hw => ?_)
          cases h
          exact post_of_St hw
        · replace h := ite_f h c14
          refine WT.seq ?_
          refine WT.seq ?_
          refine WT.region ?_
          refine WL.q (q_eql rfl rfl) rfl rfl rfl ?_
          refine WL.q (q_assign rfl) rfl rfl rfl ?_
          refine WL.nil ?_
          refine cut (σ := Bool) (fun s => [(1, .pointer (some ⟨b_1, 0, none⟩)), (2, .bool false), (3, .bool b1), (95, .bool s)]) (fun s => St w Φ [Ent.obj b_1 (.cells #[.int .i64 p0.Kind, .string p0.F.Kind, pv0_0, .int .i64 p0.Id, .int .i64 p0.N, .string p0.Undo] 75 (0, 0))]) (fun s => m_i_EffectOk_j1 N p0 b1 s = some r) (fun s hm => ?_) (fun K => ?_)
          · clear h
            revert hm; revert s; intro s1 hm
            have h : m_i_EffectOk_j1 N p0 b1 s1 = some r := hm
            show WT _ _ [(1, .pointer (some ⟨b_1, 0, none⟩)), (2, .bool false), (3, .bool b1), (95, .bool s1)] (St w Φ [Ent.obj b_1 (.cells #[.int .i64 p0.Kind, .string p0.F.Kind, pv0_0, .int .i64 p0.Id, .int .i64 p0.N, .string p0.Undo] 75 (0, 0))])
            unfold m_i_EffectOk_j1 at h
            refine WT.cond rfl (fun c18 => ?_) (fun c18 => ?_)
            · replace h := ite_t h c18
              refine WT.seq ?_
              refine WT.region ?_
              refine WL.q (q_move rfl) rfl rfl rfl ?_
              refine WL.q (q_move rfl) rfl rfl rfl ?_
              obtain ⟨b14, hb_14, h⟩ := bind_some h
              refine WL.cutN 4 [(103, .bool b14), (1, .pointer (some ⟨b_1, 0, none⟩)), (2, .bool false)] ?_ (fun K => ?_)
              rotate_left
              · refine WL.split (d := 99) rfl (fun c19 => ?_) (fun c19 => ?_)
                · replace hb_14 := ite_t hb_14 c19
                  refine WL.yes rfl rfl ?_
                  refine WL.q (q_fieldAddr Fld_75_2 rfl) rfl rfl rfl ?_
                  refine WL.yes rfl rfl ?_
                  refine WL.q (q_load1 T1_3 rfl (fun w1 hw => hw.rgL (i := 0) rfl 3 1 [.int .i64 p0.Id] rfl)) rfl rfl rfl ?_
                  refine WL.yes rfl rfl ?_
                  refine WL.q (q_eql rfl rfl) rfl rfl rfl ?_
                  refine WL.q (q_pick1 rfl rfl) rfl rfl rfl ?_
                  cases hb_14
                  exact WL.keep (by exact ⟨rfl, rfl, rfl, trivial⟩) K
                · replace hb_14 := ite_f hb_14 c19
                  refine WL.no rfl rfl rfl rfl ?_
                  refine WL.no rfl rfl rfl rfl ?_
                  refine WL.no rfl rfl rfl rfl ?_
                  refine WL.q (q_pick0 rfl rfl) rfl rfl rfl ?_
                  cases hb_14
                  exact WL.keep (by exact ⟨rfl, rfl, rfl, trivial⟩) K
              refine WL.q (q_move rfl) rfl rfl rfl ?_
              obtain ⟨b15, hb_15, h⟩ := bind_some h
              refine WL.cutN 4 [(108, .bool b15), (1, .pointer (some ⟨b_1, 0, none⟩)), (2, .bool false)] ?_ (fun K => ?_)
              rotate_left
              · refine WL.split (d := 104) rfl (fun c20 => ?_) (fun c20 => ?_)
                · replace hb_15 := ite_t hb_15 c20
                  refine WL.yes rfl rfl ?_
                  refine WL.q (q_fieldAddr Fld_75_3 rfl) rfl rfl rfl ?_
                  refine WL.yes rfl rfl ?_
                  refine WL.q (q_load1 T1_3 rfl (fun w1 hw => hw.rgL (i := 0) rfl 4 1 [.int .i64 p0.N] rfl)) rfl rfl rfl ?_
                  refine WL.yes rfl rfl ?_
                  refine WL.q (q_eql rfl rfl) rfl rfl rfl ?_
                  refine WL.q (q_pick1 rfl rfl) rfl rfl rfl ?_
                  cases hb_15
                  exact WL.keep (by exact ⟨rfl, rfl, rfl, trivial⟩) K
                · replace hb_15 := ite_f hb_15 c20
                  refine WL.no rfl rfl rfl rfl ?_
                  refine WL.no rfl rfl rfl rfl ?_
                  refine WL.no rfl rfl rfl rfl ?_
                  refine WL.q (q_pick0 rfl rfl) rfl rfl rfl ?_
                  cases hb_15
                  exact WL.keep (by exact ⟨rfl, rfl, rfl, trivial⟩) K
              refine WL.q (q_move rfl) rfl rfl rfl ?_
              obtain ⟨b16, hb_16, h⟩ := bind_some h
              refine WL.cutN 4 [(113, .bool b16), (2, .bool false)] ?_ (fun K => ?_)
              rotate_left
              · refine WL.split (d := 109) rfl (fun c21 => ?_) (fun c21 => ?_)
                · replace hb_16 := ite_t hb_16 c21
                  refine WL.yes rfl rfl ?_
                  refine WL.q (q_fieldAddr Fld_75_4 rfl) rfl rfl rfl ?_
                  refine WL.yes rfl rfl ?_
                  refine WL.q (q_load1 T1_9 rfl (fun w1 hw => hw.rgL (i := 0) rfl 5 1 [.string p0.Undo] rfl)) rfl rfl rfl ?_
                  refine WL.yes rfl rfl ?_
                  refine WL.q (q_seq rfl rfl) rfl rfl rfl ?_
                  refine WL.q (q_pick1 rfl rfl) rfl rfl rfl ?_
                  cases hb_16
                  exact WL.keep (by exact ⟨rfl, rfl, trivial⟩) K
                · replace hb_16 := ite_f hb_16 c21
                  refine WL.no rfl rfl rfl rfl ?_
                  refine WL.no rfl rfl rfl rfl ?_
                  refine WL.no rfl rfl rfl rfl ?_
                  refine WL.q (q_pick0 rfl rfl) rfl rfl rfl ?_
                  cases hb_16
                  exact WL.keep (by exact ⟨rfl, rfl, trivial⟩) K
              refine WL.q (q_assign rfl) rfl rfl rfl ?_
              refine WL.nil ?_
              refine WT.ret Try.func47 (resOk.one rfl) (fun w1 hw => ?_)
              cases h
              exact post_of_St hw
            · replace h := ite_f h c18
              refine WT.skip ?_
              refine WT.inBlock ?_
              refine WT.seq ?_
              refine WT.region ?_
              refine WL.q (q_assign rfl) rfl rfl rfl ?_
              refine WL.nil ?_
              refine WT.ret Try.func47 (resOk.one rfl) (fun w1 hw => ?_)
              cases h
              exact post_of_St hw
          · skip
            refine WT.cond rfl (fun c22 => ?_) (fun c22 => ?_)
            · replace h := ite_t h c22
              refine WT.skip ?_
              refine WT.mono (l' := [(1, .pointer (some ⟨b_1, 0, none⟩)), (2, .bool false), (3, .bool b1), (95, .bool (decide (p0.Kind = 5)))]) (S' := St w Φ [Ent.obj b_1 (.cells #[.int .i64 p0.Kind, .string p0.F.Kind, pv0_0, .int .i64 p0.Id, .int .i64 p0.N, .string p0.Undo] 75 (0, 0))]) ⟨rfl, rfl, rfl, rfl, trivial⟩ (fun w1 hw => hw.drop 0) ?_
              exact K (decide (p0.Kind = 5)) h
            · replace h := ite_f h c22
              refine WT.region ?_
              refine WL.q (q_eql rfl rfl) rfl rfl rfl ?_
              refine WL.q (q_assign rfl) rfl rfl rfl ?_
              refine WL.nil ?_
              refine WT.mono (l' := [(1, .pointer (some ⟨b_1, 0, none⟩)), (2, .bool false), (3, .bool b1), (95, .bool (decide (p0.Kind = 6)))]) (S' := St w Φ [Ent.obj b_1 (.cells #[.int .i64 p0.Kind, .string p0.F.Kind, pv0_0, .int .i64 p0.Id, .int .i64 p0.N, .string p0.Undo] 75 (0, 0))]) ⟨rfl, rfl, rfl, rfl, trivial⟩ (fun w1 hw => hw.drop 0) ?_
              exact K (decide (p0.Kind = 6)) h
theorem m_l_eqEffect_ok {Φ : Hp} {w : World} (hΦ : In Φ w) (N : Nat) (p0 : TEffect) (p1 : TEffect) {pv0_0 : Value} {pG0_0 : List Nat} {pv1_0 : Value} {pG1_0 : List Nat} (ph0_0 : RSl RTVal 3 Φ pG0_0 pv0_0 p0.F.Fields) (ph1_0 : RSl RTVal 3 Φ pG1_0 pv1_0 p1.F.Fields) {r : Bool} (h : m_l_eqEffect N p0 p1 = some r) :
    Calls Try.prog 48 [.agg [.int .i64 p0.Kind, .string p0.F.Kind, pv0_0, .int .i64 p0.Id, .int .i64 p0.N, .string p0.Undo].toArray, .agg [.int .i64 p1.Kind, .string p1.F.Kind, pv1_0, .int .i64 p1.Id, .int .i64 p1.N, .string p1.Undo].toArray].toArray w (Post (.bool r) w) := by
  refine enter Try.func48 rfl Try.ntmps48 rfl (St.start hΦ) ?_
  unfold m_l_eqEffect at h
  refine WT.seq ?_
  refine WT.region ?_
  refine WL.box (C := #[.int .i64 p0.Kind, .string p0.F.Kind, pv0_0, .int .i64 p0.Id, .int .i64 p0.N, .string p0.Undo]) rfl rfl rfl rfl rfl rfl (fun b_1 => ?_)
  refine WL.box (C := #[.int .i64 p1.Kind, .string p1.F.Kind, pv1_0, .int .i64 p1.Id, .int .i64 p1.N, .string p1.Undo]) rfl rfl rfl rfl rfl rfl (fun b_2 => ?_)
  refine WL.q (q_assign rfl) rfl rfl rfl ?_
  refine WL.nil ?_
  refine WT.seq ?_
  refine WT.seq ?_
  refine WT.region ?_
  refine WL.q (q_fieldAddr Fld_75_0 rfl) rfl rfl rfl ?_
  refine WL.q (q_load1 T1_3 rfl (fun w1 hw => hw.rgL (i := 1) rfl 0 1 [.int .i64 p0.Kind] rfl)) rfl rfl rfl ?_
  refine WL.q (q_fieldAddr Fld_75_0 rfl) rfl rfl rfl ?_
  refine WL.q (q_load1 T1_3 rfl (fun w1 hw => hw.rgL (i := 0) rfl 0 1 [.int .i64 p1.Kind] rfl)) rfl rfl rfl ?_
  refine WL.q (q_neq rfl rfl) rfl rfl rfl ?_
  refine WL.nil ?_
  refine WT.cond rfl (fun c1 => ?_) (fun c1 => ?_)
  · replace h := ite_t h c1
    refine WT.seq ?_
    refine WT.region ?_
    refine WL.q (q_assign rfl) rfl rfl rfl ?_
    refine WL.nil ?_
    refine WT.ret Try.func48 (resOk.one rfl) (fun w1 hw => ?_)
    cases h
    exact post_of_St hw
  · replace h := ite_f h c1
    refine WT.skip ?_
    refine WT.seq ?_
    refine WT.seq ?_
    refine WT.region ?_
    refine WL.q (q_fieldAddr Fld_75_1 rfl) rfl rfl rfl ?_
    refine WL.q (q_loadN Tn_60 rfl (fun w1 hw => hw.rgL (i := 1) rfl 1 2 [.string p0.F.Kind, pv0_0] rfl) rfl) rfl rfl rfl ?_
    refine WL.q (q_fieldAddr Fld_75_1 rfl) rfl rfl rfl ?_
    refine WL.q (q_loadN Tn_60 rfl (fun w1 hw => hw.rgL (i := 0) rfl 1 2 [.string p1.F.Kind, pv1_0] rfl) rfl) rfl rfl rfl ?_
    obtain ⟨x1, hx1, h⟩ := bind_some h
    refine WL.call (c_pure Fun_37 rfl (fun w1 hw => m_l_eqFact_ok hw.fro N p0.F p1.F ph0_0 ph1_0 hx1)) rfl rfl rfl (fun _ => ?_)
    refine WL.q (q_not rfl) rfl rfl rfl ?_
    refine WL.nil ?_
    refine WT.cond rfl (fun c2 => ?_) (fun c2 => ?_)
    · replace h := ite_t h c2
      refine WT.seq ?_
      refine WT.region ?_
      refine WL.q (q_assign rfl) rfl rfl rfl ?_
      refine WL.nil ?_
      refine WT.ret Try.func48 (resOk.one rfl) (fun w1 hw => ?_)
      cases h
      exact post_of_St hw
    · replace h := ite_f h c2
      refine WT.skip ?_
      refine WT.seq ?_
      refine WT.seq ?_
      refine WT.region ?_
      refine WL.q (q_fieldAddr Fld_75_2 rfl) rfl rfl rfl ?_
      refine WL.q (q_load1 T1_3 rfl (fun w1 hw => hw.rgL (i := 1) rfl 3 1 [.int .i64 p0.Id] rfl)) rfl rfl rfl ?_
      refine WL.q (q_fieldAddr Fld_75_2 rfl) rfl rfl rfl ?_
      refine WL.q (q_load1 T1_3 rfl (fun w1 hw => hw.rgL (i := 0) rfl 3 1 [.int .i64 p1.Id] rfl)) rfl rfl rfl ?_
      refine WL.q (q_neq rfl rfl) rfl rfl rfl ?_
      refine WL.nil ?_
      refine WT.cond rfl (fun c3 => ?_) (fun c3 => ?_)
      · replace h := ite_t h c3
        refine WT.seq ?_
        refine WT.region ?_
        refine WL.q (q_assign rfl) rfl rfl rfl ?_
        refine WL.nil ?_
        refine WT.ret Try.func48 (resOk.one rfl) (fun w1 hw => ?_)
        cases h
        exact post_of_St hw
      · replace h := ite_f h c3
        refine WT.skip ?_
        refine WT.seq ?_
        refine WT.seq ?_
        refine WT.region ?_
        refine WL.q (q_fieldAddr Fld_75_3 rfl) rfl rfl rfl ?_
        refine WL.q (q_load1 T1_3 rfl (fun w1 hw => hw.rgL (i := 1) rfl 4 1 [.int .i64 p0.N] rfl)) rfl rfl rfl ?_
        refine WL.q (q_fieldAddr Fld_75_3 rfl) rfl rfl rfl ?_
        refine WL.q (q_load1 T1_3 rfl (fun w1 hw => hw.rgL (i := 0) rfl 4 1 [.int .i64 p1.N] rfl)) rfl rfl rfl ?_
        refine WL.q (q_neq rfl rfl) rfl rfl rfl ?_
        refine WL.nil ?_
        refine WT.cond rfl (fun c4 => ?_) (fun c4 => ?_)
        · replace h := ite_t h c4
          refine WT.seq ?_
          refine WT.region ?_
          refine WL.q (q_assign rfl) rfl rfl rfl ?_
          refine WL.nil ?_
          refine WT.ret Try.func48 (resOk.one rfl) (fun w1 hw => ?_)
          cases h
          exact post_of_St hw
        · replace h := ite_f h c4
          refine WT.skip ?_
          refine WT.seq ?_
          refine WT.seq ?_
          refine WT.region ?_
          refine WL.q (q_fieldAddr Fld_75_4 rfl) rfl rfl rfl ?_
          refine WL.q (q_load1 T1_9 rfl (fun w1 hw => hw.rgL (i := 1) rfl 5 1 [.string p0.Undo] rfl)) rfl rfl rfl ?_
          refine WL.q (q_fieldAddr Fld_75_4 rfl) rfl rfl rfl ?_
          refine WL.q (q_load1 T1_9 rfl (fun w1 hw => hw.rgL (i := 0) rfl 5 1 [.string p1.Undo] rfl)) rfl rfl rfl ?_
          refine WL.q (q_sne rfl rfl) rfl rfl rfl ?_
          refine WL.nil ?_
          refine WT.cond rfl (fun c5 => ?_) (fun c5 => ?_)
          · replace h := ite_t h c5
            refine WT.seq ?_
            refine WT.region ?_
            refine WL.q (q_assign rfl) rfl rfl rfl ?_
            refine WL.nil ?_
            refine WT.ret Try.func48 (resOk.one rfl) (fun w1 hw => ?_)
            cases h
            exact post_of_St hw
          · replace h := ite_f h c5
            refine WT.skip ?_
            refine WT.seq ?_
            refine WT.region ?_
            refine WL.q (q_assign rfl) rfl rfl rfl ?_
            refine WL.nil ?_
            refine WT.ret Try.func48 (resOk.one rfl) (fun w1 hw => ?_)
            cases h
            exact post_of_St hw
theorem m_l_FnExactEffectOk_ok {Φ : Hp} {w : World} (hΦ : In Φ w) (N : Nat) (p0 : TEffect) {pv0_0 : Value} {pG0_0 : List Nat} (ph0_0 : RSl RTVal 3 Φ pG0_0 pv0_0 p0.F.Fields) {r : Bool} (h : m_l_FnExactEffectOk N p0 = some r) :
    Calls Try.prog 11 [.agg [.int .i64 p0.Kind, .string p0.F.Kind, pv0_0, .int .i64 p0.Id, .int .i64 p0.N, .string p0.Undo].toArray].toArray w (Post (.bool r) w) := by
  refine enter Try.func11 rfl Try.ntmps11 rfl (St.start hΦ) ?_
  unfold m_l_FnExactEffectOk at h
  have hle := Hle.refl Φ
  refine WT.seq ?_
  refine WT.region ?_
  refine WL.box (C := #[.int .i64 p0.Kind, .string p0.F.Kind, pv0_0, .int .i64 p0.Id, .int .i64 p0.N, .string p0.Undo]) rfl rfl rfl rfl rfl rfl (fun b_1 => ?_)
  refine WL.q (q_assign rfl) rfl rfl rfl ?_
  refine WL.nil ?_
  refine WT.seq ?_
  refine WT.region ?_
  refine WL.q (q_assign rfl) rfl rfl rfl ?_
  refine WL.nil ?_
  refine WT.seq ?_
  refine WT.region ?_
  refine WL.q (q_loadN Tn_71 rfl (fun w1 hw => hw.rgL (i := 0) rfl 0 6 [.int .i64 p0.Kind, .string p0.F.Kind, pv0_0, .int .i64 p0.Id, .int .i64 p0.N, .string p0.Undo] rfl) rfl) rfl rfl rfl ?_
  refine WL.q (q_move rfl) rfl rfl rfl ?_
  obtain ⟨x1, hx1, h⟩ := bind_some h
  refine WL.call (c_pure Fun_44 rfl (fun w1 hw => m_l_szEffect_ok hw.fro N p0 1048576 ph0_0 hx1)) rfl rfl rfl (fun _ => ?_)
  refine WL.q (q_assign rfl) rfl rfl rfl ?_
  refine WL.nil ?_
  refine WT.seq ?_
  refine WT.seq ?_
  refine WT.region ?_
  refine WL.q (q_move rfl) rfl rfl rfl ?_
  refine WL.q (q_lss rfl rfl) rfl rfl rfl ?_
  refine WL.nil ?_
  refine WT.cond rfl (fun c1 => ?_) (fun c1 => ?_)
  · replace h := ite_t h c1
    refine WT.seq ?_
    refine WT.region ?_
    refine WL.q (q_assign rfl) rfl rfl rfl ?_
    refine WL.nil ?_
    refine WT.ret Try.func11 (resOk.one rfl) (fun w1 hw => ?_)
    cases h
    exact post_of_St hw
  · replace h := ite_f h c1
    refine WT.skip ?_
    refine WT.seq ?_
    refine WT.region ?_
    refine WL.q (q_loadN Tn_71 rfl (fun w1 hw => hw.rgL (i := 0) rfl 0 6 [.int .i64 p0.Kind, .string p0.F.Kind, pv0_0, .int .i64 p0.Id, .int .i64 p0.N, .string p0.Undo] rfl) rfl) rfl rfl rfl ?_
    obtain ⟨x2, hx2, h⟩ := bind_some h
    refine WL.callL rfl rfl rfl rfl Fun_46 rfl (fun w1 hw => m_l_toEffect_ok hw.fro N p0 ph0_0 hx2) (fun v1 Φ_1 D1 le1 ho1 qq1 => ?_)
    replace ph0_0 := RSl.mono RTVal.mono le1 ph0_0
    replace hle := hle.trans le1
    obtain ⟨cs1, G1, rfl, rfl, h1⟩ := qq1
    obtain ⟨v2, G2, rfl, rfl, h2⟩ := h1
    obtain ⟨x3, hx3, h⟩ := bind_some h
    refine WL.call (c_pure Fun_45 rfl (fun w1 hw => m_s_EffectOk_ok hw.fro N x2 h2 hx3)) rfl rfl rfl (fun _ => ?_)
    refine WL.q (q_assign rfl) rfl rfl rfl ?_
    refine WL.nil ?_
    refine WT.seq ?_
    refine WT.region ?_
    refine WL.q (q_loadN Tn_71 rfl (fun w1 hw => hw.rgL (i := 1) rfl 0 6 [.int .i64 p0.Kind, .string p0.F.Kind, pv0_0, .int .i64 p0.Id, .int .i64 p0.N, .string p0.Undo] rfl) rfl) rfl rfl rfl ?_
    obtain ⟨x4, hx4, h⟩ := bind_some h
    refine WL.callL rfl rfl rfl rfl Fun_46 rfl (fun w1 hw => m_l_toEffect_ok hw.fro N p0 ph0_0 hx4) (fun v3 Φ_2 D2 le2 ho2 qq2 => ?_)
    replace ph0_0 := RSl.mono RTVal.mono le2 ph0_0
    replace h2 := RSl.mono RTVal.mono le2 h2
    replace hle := hle.trans le2
    obtain ⟨cs2, G3, rfl, rfl, h3⟩ := qq2
    obtain ⟨v4, G4, rfl, rfl, h4⟩ := h3
    refine WL.alloc (C := #[.int .i64 0, .string (⟨#[]⟩ : ByteArray), .slice none 0 0, .int .i64 0, .int .i64 0, .string (⟨#[]⟩ : ByteArray)]) rfl rfl rfl rfl Zr_75 rfl (fun b_2 => ?_)
    refine WL.store (i := 0) (vs := [.int .i64 x4.Kind, .string x4.F.Kind, v4, .int .i64 x4.Id, .int .i64 x4.N, .string x4.Undo]) (C' := [.int .i64 x4.Kind, .string x4.F.Kind, v4, .int .i64 x4.Id, .int .i64 x4.N, .string x4.Undo]) rfl rfl rfl Sz_75 rfl rfl rfl rfl rfl rfl ⟨rfl, rfl, RSl.one h4, rfl, rfl, rfl, trivial⟩ rfl ?_
    refine WL.nil ?_
    refine WT.seq ?_
    refine WT.region ?_
    refine WL.q (q_loadN Tn_75 rfl (fun w1 hw => hw.rgL (i := 0) rfl 0 6 [.int .i64 x4.Kind, .string x4.F.Kind, v4, .int .i64 x4.Id, .int .i64 x4.N, .string x4.Undo] rfl) rfl) rfl rfl rfl ?_
    obtain ⟨x5, hx5, h⟩ := bind_some h
    refine WL.call (c_pure Fun_47 rfl (fun w1 hw => m_i_EffectOk_ok hw.fro N x4 h4 hx5)) rfl rfl rfl (fun _ => ?_)
    refine WL.q (q_assign rfl) rfl rfl rfl ?_
    refine WL.nil ?_
    refine WT.seq ?_
    refine WT.seq ?_
    refine WT.region ?_
    refine WL.q (q_move rfl) rfl rfl rfl ?_
    refine WL.q (q_move rfl) rfl rfl rfl ?_
    refine WL.q (q_bne Bo_4 rfl rfl) rfl rfl rfl ?_
    refine WL.nil ?_
    refine WT.cond rfl (fun c2 => ?_) (fun c2 => ?_)
    · replace h := ite_t h c2
      refine WT.seq ?_
      refine WT.region ?_
      refine WL.q (q_assign rfl) rfl rfl rfl ?_
      refine WL.nil ?_
      refine WT.ret Try.func11 (resOk.one rfl) (fun w1 hw => ?_)
      cases h
      exact post_of_St hw
    · replace h := ite_f h c2
      refine WT.skip ?_
      refine WT.seq ?_
      refine WT.seq ?_
      refine WT.mix (Kn Φ_2 [Ent.obj b_2 (.cells #[.int .i64 x4.Kind, .string x4.F.Kind, v4, .int .i64 x4.Id, .int .i64 x4.N, .string x4.Undo] 75 (0, 0)), Ent.obj b_1 (.cells #[.int .i64 p0.Kind, .string p0.F.Kind, pv0_0, .int .i64 p0.Id, .int .i64 p0.N, .string p0.Undo] 71 (0, 0))]) (fun _ => true) mixed (fun _ h => h.drew) ?_
      refine WM.q 0 rfl (by kernel_rfl) (fun w1 hw => Kn.of_St (Hle.refl _) (AllIn.mem ⟨List.mem_of_getElem? (i := 0) rfl, List.mem_of_getElem? (i := 3) rfl, trivial⟩) hw) (q_loadN Tn_75 rfl (fun w1 hw => hw.rgL (i := 0) rfl 0 6 [.int .i64 x4.Kind, .string x4.F.Kind, v4, .int .i64 x4.Id, .int .i64 x4.N, .string x4.Undo] rfl) rfl) rfl rfl rfl ?_
      refine WM.q 1 rfl (by kernel_rfl) (fun w1 hw => Kn.of_St (Hle.refl _) (AllIn.mem ⟨List.mem_of_getElem? (i := 0) rfl, List.mem_of_getElem? (i := 3) rfl, trivial⟩) hw) (q_loadN Tn_71 rfl (fun w1 hw => hw.rgL (i := 1) rfl 0 6 [.int .i64 p0.Kind, .string p0.F.Kind, pv0_0, .int .i64 p0.Id, .int .i64 p0.N, .string p0.Undo] rfl) rfl) rfl rfl rfl ?_
      obtain ⟨x6, hx6, h⟩ := bind_some h
      refine WM.callL 2 rfl (by kernel_rfl) rfl rfl rfl rfl Fun_46 rfl (fun Φx F w1 hlx hw => Kn.of_St (Hle.trans (Hle.refl _) hlx) (AllIn.mem ⟨List.mem_of_getElem? (i := 1) rfl, List.mem_of_getElem? (i := 4) rfl, trivial⟩) hw) (fun w1 hw => m_l_toEffect_ok hw.fro N p0 ph0_0 hx6) (fun v5 Φ_3 D3 le3 ho3 qq3 => ?_)
      replace ph0_0 := RSl.mono RTVal.mono le3 ph0_0
      replace h2 := RSl.mono RTVal.mono le3 h2
      replace h4 := RSl.mono RTVal.mono le3 h4
      replace hle := hle.trans le3
      obtain ⟨cs3, G5, rfl, rfl, h5⟩ := qq3
      obtain ⟨v6, G6, rfl, rfl, h6⟩ := h5
      obtain ⟨x7, hx7, h⟩ := bind_some h
      refine WM.call 3 rfl (by kernel_rfl) (fun _ _ w1 hw => Kn.of_St (Hle.trans (Hle.refl _) le3) (AllIn.mem ⟨List.mem_of_getElem? (i := 1) rfl, List.mem_of_getElem? (i := 4) rfl, trivial⟩) hw) (c_pure Fun_48 rfl (fun w1 hw => m_l_eqEffect_ok hw.fro N x4 x6 h4 h6 hx7)) rfl rfl rfl (fun _ => ?_)
      refine WM.q 4 rfl (by kernel_rfl) (fun w1 hw => Kn.of_St (Hle.trans (Hle.refl _) le3) (AllIn.mem ⟨List.mem_of_getElem? (i := 1) rfl, List.mem_of_getElem? (i := 4) rfl, trivial⟩) hw) (q_not rfl) rfl rfl rfl ?_
      refine WM.nil (by kernel_rfl) ?_
      refine WT.cond rfl (fun c3 => ?_) (fun c3 => ?_)
      · replace h := ite_t h c3
        refine WT.seq ?_
        refine WT.region ?_
        refine WL.q (q_assign rfl) rfl rfl rfl ?_
        refine WL.nil ?_
        refine WT.ret Try.func11 (resOk.one rfl) (fun w1 hw => ?_)
        cases h
        exact post_of_St hw
      · replace h := ite_f h c3
        refine WT.skip ?_
        refine WT.seq ?_
        refine WT.region ?_
        refine WL.q (q_assign rfl) rfl rfl rfl ?_
        refine WL.nil ?_
        refine WT.ret Try.func11 (resOk.one rfl) (fun w1 hw => ?_)
        cases h
        exact post_of_St hw
theorem m_l_szArg_ok {Φ : Hp} {w : World} (hΦ : In Φ w) (N : Nat) (p0 : TArg) (p1 : Int)   {r : Int} (h : m_l_szArg N p0 p1 = some r) :
    Calls Try.prog 103 [.agg [.int .i64 p0.K, .string p0.S, .int .i64 p0.V.K, .int .i64 p0.V.N, .string p0.V.S].toArray, .int .i64 p1].toArray w (Post (.int .i64 r) w) := by
  refine enter Try.func103 rfl Try.ntmps103 rfl (St.start hΦ) ?_
  unfold m_l_szArg at h
  refine WT.seq ?_
  refine WT.region ?_
  refine WL.box (C := #[.int .i64 p0.K, .string p0.S, .int .i64 p0.V.K, .int .i64 p0.V.N, .string p0.V.S]) rfl rfl rfl rfl rfl rfl (fun b_1 => ?_)
  refine WL.q (q_assign rfl) rfl rfl rfl ?_
  refine WL.nil ?_
  refine WT.seq ?_
  refine WT.region ?_
  refine WL.q (q_move rfl) rfl rfl rfl ?_
  refine WL.q (q_fieldAddr Fld_95_1 rfl) rfl rfl rfl ?_
  refine WL.q (q_load1 T1_9 rfl (fun w1 hw => hw.rgL (i := 0) rfl 1 1 [.string p0.S] rfl)) rfl rfl rfl ?_
  refine WL.q (q_lenS Str_9 rfl rfl) rfl rfl rfl ?_
  refine WL.q (q_sub rfl rfl) rfl rfl rfl ?_
  refine WL.q (q_assign rfl) rfl rfl rfl ?_
  refine WL.nil ?_
  refine WT.seq ?_
  refine WT.seq ?_
  refine WT.region ?_
  refine WL.q (q_move rfl) rfl rfl rfl ?_
  refine WL.q (q_lss rfl rfl) rfl rfl rfl ?_
  refine WL.nil ?_
  refine WT.cond rfl (fun c1 => ?_) (fun c1 => ?_)
  · replace h := ite_t h c1
    refine WT.seq ?_
    refine WT.region ?_
    refine WL.q (q_assign rfl) rfl rfl rfl ?_
    refine WL.nil ?_
    refine WT.ret Try.func103 (resOk.one rfl) (fun w1 hw => ?_)
    cases h
    exact post_of_St hw
  · replace h := ite_f h c1
    refine WT.skip ?_
    refine WT.seq ?_
    refine WT.region ?_
    refine WL.q (q_fieldAddr Fld_95_2 rfl) rfl rfl rfl ?_
    refine WL.q (q_loadN Tn_93 rfl (fun w1 hw => hw.rgL (i := 0) rfl 2 3 [.int .i64 p0.V.K, .int .i64 p0.V.N, .string p0.V.S] rfl) rfl) rfl rfl rfl ?_
    refine WL.q (q_move rfl) rfl rfl rfl ?_
    obtain ⟨x1, hx1, h⟩ := bind_some h
    refine WL.call (c_pure Fun_122 rfl (fun w1 hw => m_l_szVal_ok hw.fro N p0.V (IntKind.i64.wrap (p1 - (p0.S.size : Int))) hx1)) rfl rfl rfl (fun _ => ?_)
    refine WL.q (q_assign rfl) rfl rfl rfl ?_
    refine WL.nil ?_
    refine WT.seq ?_
    refine WT.seq ?_
    refine WT.region ?_
    refine WL.q (q_move rfl) rfl rfl rfl ?_
    refine WL.q (q_lss rfl rfl) rfl rfl rfl ?_
    refine WL.nil ?_
    refine WT.cond rfl (fun c2 => ?_) (fun c2 => ?_)
    · replace h := ite_t h c2
      refine WT.seq ?_
      refine WT.region ?_
      refine WL.q (q_assign rfl) rfl rfl rfl ?_
      refine WL.nil ?_
      refine WT.ret Try.func103 (resOk.one rfl) (fun w1 hw => ?_)
      cases h
      exact post_of_St hw
    · replace h := ite_f h c2
      refine WT.skip ?_
      refine WT.seq ?_
      refine WT.region ?_
      refine WL.q (q_move rfl) rfl rfl rfl ?_
      refine WL.q (q_assign rfl) rfl rfl rfl ?_
      refine WL.nil ?_
      refine WT.ret Try.func103 (resOk.one rfl) (fun w1 hw => ?_)
      cases h
      exact post_of_St hw
theorem m_l_szExpr_ok {Φ : Hp} {w : World} (hΦ : In Φ w) (N : Nat) (p0 : TExpr) (p1 : Int)   {r : Int} (h : m_l_szExpr N p0 p1 = some r) :
    Calls Try.prog 57 [.agg [.string p0.Op, .int .i64 p0.L.K, .string p0.L.S, .int .i64 p0.L.V.K, .int .i64 p0.L.V.N, .string p0.L.V.S, .int .i64 p0.R.K, .string p0.R.S, .int .i64 p0.R.V.K, .int .i64 p0.R.V.N, .string p0.R.V.S].toArray, .int .i64 p1].toArray w (Post (.int .i64 r) w) := by
  refine enter Try.func57 rfl Try.ntmps57 rfl (St.start hΦ) ?_
  unfold m_l_szExpr at h
  refine WT.seq ?_
  refine WT.region ?_
  refine WL.box (C := #[.string p0.Op, .int .i64 p0.L.K, .string p0.L.S, .int .i64 p0.L.V.K, .int .i64 p0.L.V.N, .string p0.L.V.S, .int .i64 p0.R.K, .string p0.R.S, .int .i64 p0.R.V.K, .int .i64 p0.R.V.N, .string p0.R.V.S]) rfl rfl rfl rfl rfl rfl (fun b_1 => ?_)
  refine WL.q (q_assign rfl) rfl rfl rfl ?_
  refine WL.nil ?_
  refine WT.seq ?_
  refine WT.region ?_
  refine WL.q (q_move rfl) rfl rfl rfl ?_
  refine WL.q (q_fieldAddr Fld_97_0 rfl) rfl rfl rfl ?_
  refine WL.q (q_load1 T1_9 rfl (fun w1 hw => hw.rgL (i := 0) rfl 0 1 [.string p0.Op] rfl)) rfl rfl rfl ?_
  refine WL.q (q_lenS Str_9 rfl rfl) rfl rfl rfl ?_
  refine WL.q (q_sub rfl rfl) rfl rfl rfl ?_
  refine WL.q (q_assign rfl) rfl rfl rfl ?_
  refine WL.nil ?_
  refine WT.seq ?_
  refine WT.seq ?_
  refine WT.region ?_
  refine WL.q (q_move rfl) rfl rfl rfl ?_
  refine WL.q (q_lss rfl rfl) rfl rfl rfl ?_
  refine WL.nil ?_
  refine WT.cond rfl (fun c1 => ?_) (fun c1 => ?_)
  · replace h := ite_t h c1
    refine WT.seq ?_
    refine WT.region ?_
    refine WL.q (q_assign rfl) rfl rfl rfl ?_
    refine WL.nil ?_
    refine WT.ret Try.func57 (resOk.one rfl) (fun w1 hw => ?_)
    cases h
    exact post_of_St hw
  · replace h := ite_f h c1
    refine WT.skip ?_
    refine WT.seq ?_
    refine WT.region ?_
    refine WL.q (q_fieldAddr Fld_97_1 rfl) rfl rfl rfl ?_
    refine WL.q (q_loadN Tn_95 rfl (fun w1 hw => hw.rgL (i := 0) rfl 1 5 [.int .i64 p0.L.K, .string p0.L.S, .int .i64 p0.L.V.K, .int .i64 p0.L.V.N, .string p0.L.V.S] rfl) rfl) rfl rfl rfl ?_
    refine WL.q (q_move rfl) rfl rfl rfl ?_
    obtain ⟨x1, hx1, h⟩ := bind_some h
    refine WL.call (c_pure Fun_103 rfl (fun w1 hw => m_l_szArg_ok hw.fro N p0.L (IntKind.i64.wrap (p1 - (p0.Op.size : Int))) hx1)) rfl rfl rfl (fun _ => ?_)
    refine WL.q (q_assign rfl) rfl rfl rfl ?_
    refine WL.nil ?_
    refine WT.seq ?_
    refine WT.seq ?_
    refine WT.region ?_
    refine WL.q (q_move rfl) rfl rfl rfl ?_
    refine WL.q (q_lss rfl rfl) rfl rfl rfl ?_
    refine WL.nil ?_
    refine WT.cond rfl (fun c2 => ?_) (fun c2 => ?_)
    · replace h := ite_t h c2
      refine WT.seq ?_
      refine WT.region ?_
      refine WL.q (q_assign rfl) rfl rfl rfl ?_
      refine WL.nil ?_
      refine WT.ret Try.func57 (resOk.one rfl) (fun w1 hw => ?_)
      cases h
      exact post_of_St hw
    · replace h := ite_f h c2
      refine WT.skip ?_
      refine WT.seq ?_
      refine WT.region ?_
      refine WL.q (q_fieldAddr Fld_97_2 rfl) rfl rfl rfl ?_
      refine WL.q (q_loadN Tn_95 rfl (fun w1 hw => hw.rgL (i := 0) rfl 6 5 [.int .i64 p0.R.K, .string p0.R.S, .int .i64 p0.R.V.K, .int .i64 p0.R.V.N, .string p0.R.V.S] rfl) rfl) rfl rfl rfl ?_
      refine WL.q (q_move rfl) rfl rfl rfl ?_
      obtain ⟨x2, hx2, h⟩ := bind_some h
      refine WL.call (c_pure Fun_103 rfl (fun w1 hw => m_l_szArg_ok hw.fro N p0.R x1 hx2)) rfl rfl rfl (fun _ => ?_)
      refine WL.q (q_assign rfl) rfl rfl rfl ?_
      refine WL.nil ?_
      refine WT.seq ?_
      refine WT.seq ?_
      refine WT.region ?_
      refine WL.q (q_move rfl) rfl rfl rfl ?_
      refine WL.q (q_lss rfl rfl) rfl rfl rfl ?_
      refine WL.nil ?_
      refine WT.cond rfl (fun c3 => ?_) (fun c3 => ?_)
      · replace h := ite_t h c3
        refine WT.seq ?_
        refine WT.region ?_
        refine WL.q (q_assign rfl) rfl rfl rfl ?_
        refine WL.nil ?_
        refine WT.ret Try.func57 (resOk.one rfl) (fun w1 hw => ?_)
        cases h
        exact post_of_St hw
      · replace h := ite_f h c3
        refine WT.skip ?_
        refine WT.seq ?_
        refine WT.region ?_
        refine WL.q (q_move rfl) rfl rfl rfl ?_
        refine WL.q (q_assign rfl) rfl rfl rfl ?_
        refine WL.nil ?_
        refine WT.ret Try.func57 (resOk.one rfl) (fun w1 hw => ?_)
        cases h
        exact post_of_St hw
theorem m_l_szBind_ok {Φ : Hp} {w : World} (hΦ : In Φ w) (N : Nat) (p0 : TBind) (p1 : Int)   {r : Int} (h : m_l_szBind N p0 p1 = some r) :
    Calls Try.prog 104 [.agg [.string p0.Name, .int .i64 p0.V.K, .int .i64 p0.V.N, .string p0.V.S].toArray, .int .i64 p1].toArray w (Post (.int .i64 r) w) := by
  refine enter Try.func104 rfl Try.ntmps104 rfl (St.start hΦ) ?_
  unfold m_l_szBind at h
  refine WT.seq ?_
  refine WT.region ?_
  refine WL.box (C := #[.string p0.Name, .int .i64 p0.V.K, .int .i64 p0.V.N, .string p0.V.S]) rfl rfl rfl rfl rfl rfl (fun b_1 => ?_)
  refine WL.q (q_assign rfl) rfl rfl rfl ?_
  refine WL.nil ?_
  refine WT.seq ?_
  refine WT.region ?_
  refine WL.q (q_move rfl) rfl rfl rfl ?_
  refine WL.q (q_fieldAddr Fld_142_0 rfl) rfl rfl rfl ?_
  refine WL.q (q_load1 T1_9 rfl (fun w1 hw => hw.rgL (i := 0) rfl 0 1 [.string p0.Name] rfl)) rfl rfl rfl ?_
  refine WL.q (q_lenS Str_9 rfl rfl) rfl rfl rfl ?_
  refine WL.q (q_sub rfl rfl) rfl rfl rfl ?_
  refine WL.q (q_assign rfl) rfl rfl rfl ?_
  refine WL.nil ?_
  refine WT.seq ?_
  refine WT.seq ?_
  refine WT.region ?_
  refine WL.q (q_move rfl) rfl rfl rfl ?_
  refine WL.q (q_lss rfl rfl) rfl rfl rfl ?_
  refine WL.nil ?_
  refine WT.cond rfl (fun c1 => ?_) (fun c1 => ?_)
  · replace h := ite_t h c1
    refine WT.seq ?_
    refine WT.region ?_
    refine WL.q (q_assign rfl) rfl rfl rfl ?_
    refine WL.nil ?_
    refine WT.ret Try.func104 (resOk.one rfl) (fun w1 hw => ?_)
    cases h
    exact post_of_St hw
  · replace h := ite_f h c1
    refine WT.skip ?_
    refine WT.seq ?_
    refine WT.region ?_
    refine WL.q (q_fieldAddr Fld_142_1 rfl) rfl rfl rfl ?_
    refine WL.q (q_loadN Tn_93 rfl (fun w1 hw => hw.rgL (i := 0) rfl 1 3 [.int .i64 p0.V.K, .int .i64 p0.V.N, .string p0.V.S] rfl) rfl) rfl rfl rfl ?_
    refine WL.q (q_move rfl) rfl rfl rfl ?_
    obtain ⟨x1, hx1, h⟩ := bind_some h
    refine WL.call (c_pure Fun_122 rfl (fun w1 hw => m_l_szVal_ok hw.fro N p0.V (IntKind.i64.wrap (p1 - (p0.Name.size : Int))) hx1)) rfl rfl rfl (fun _ => ?_)
    refine WL.q (q_assign rfl) rfl rfl rfl ?_
    refine WL.nil ?_
    refine WT.seq ?_
    refine WT.seq ?_
    refine WT.region ?_
    refine WL.q (q_move rfl) rfl rfl rfl ?_
    refine WL.q (q_lss rfl rfl) rfl rfl rfl ?_
    refine WL.nil ?_
    refine WT.cond rfl (fun c2 => ?_) (fun c2 => ?_)
    · replace h := ite_t h c2
      refine WT.seq ?_
      refine WT.region ?_
      refine WL.q (q_assign rfl) rfl rfl rfl ?_
      refine WL.nil ?_
      refine WT.ret Try.func104 (resOk.one rfl) (fun w1 hw => ?_)
      cases h
      exact post_of_St hw
    · replace h := ite_f h c2
      refine WT.skip ?_
      refine WT.seq ?_
      refine WT.region ?_
      refine WL.q (q_move rfl) rfl rfl rfl ?_
      refine WL.q (q_assign rfl) rfl rfl rfl ?_
      refine WL.nil ?_
      refine WT.ret Try.func104 (resOk.one rfl) (fun w1 hw => ?_)
      cases h
      exact post_of_St hw
theorem m_l_szBindS_ok {Φ : Hp} {w : World} (hΦ : In Φ w) (N : Nat) (p0 : (List TBind)) (p1 : Int) {pv0 : Value} {pG0 : List Nat} (ph0 : RSl RTBind 4 Φ pG0 pv0 p0) {r : Int} (h : m_l_szBindS N p0 p1 = some r) :
    Calls Try.prog 58 [pv0, .int .i64 p1].toArray w (Post (.int .i64 r) w) := by
  refine enter Try.func58 rfl Try.ntmps58 rfl (St.start hΦ) ?_
  unfold m_l_szBindS at h
  refine WT.seq ?_
  refine WT.region ?_
  refine WL.q (q_assign rfl) rfl rfl rfl ?_
  refine WL.nil ?_
  refine WT.seq ?_
  refine WT.region ?_
  refine WL.q (q_move rfl) rfl rfl rfl ?_
  refine WL.q (q_move rfl) rfl rfl rfl ?_
  refine WL.q (q_lenR Sl_49 rfl rfl ph0) rfl rfl rfl ?_
  refine WL.q (q_sub rfl rfl) rfl rfl rfl ?_
  refine WL.q (q_assign rfl) rfl rfl rfl ?_
  refine WL.nil ?_
  refine WT.seq ?_
  refine WT.seq ?_
  refine WT.region ?_
  refine WL.q (q_move rfl) rfl rfl rfl ?_
  refine WL.q (q_lss rfl rfl) rfl rfl rfl ?_
  refine WL.nil ?_
  refine WT.cond rfl (fun c1 => ?_) (fun c1 => ?_)
  · replace h := ite_t h c1
    refine WT.seq ?_
    refine WT.region ?_
    refine WL.q (q_assign rfl) rfl rfl rfl ?_
    refine WL.nil ?_
    refine WT.ret Try.func58 (resOk.one rfl) (fun w1 hw => ?_)
    cases h
    exact post_of_St hw
  · replace h := ite_f h c1
    refine WT.skip ?_
    refine WT.seq ?_
    refine WT.seq ?_
    refine WT.region ?_
    refine WL.q (q_assign rfl) rfl rfl rfl ?_
    refine WL.nil ?_
    refine WT.block ?_
    refine WT.loop ?_
    refine WT.keep [(0, pv0), (1, .int .i64 (IntKind.i64.wrap (p1 - (p0.length : Int)))), (4, .int .i64 0), (5, .int .i64 0)] ⟨rfl, rfl, rfl, rfl, trivial⟩ ?_
    refine loop_ind (σ := Int × Int) (fun s => [(0, pv0), (1, .int .i64 s.1), (4, .int .i64 0), (5, .int .i64 s.2)]) (fun s => St w Φ []) (fun m s => m_l_szBindS_l1 N p0 m s.1 s.2 = some r) (fun s hm => none_ne (show (none : Option (Int)) = some r from hm)) (fun k ih s hm => ?_) N (IntKind.i64.wrap (p1 - (p0.length : Int)), 0) h
    obtain ⟨s1, s2⟩ := s
    have h : m_l_szBindS_l1 N p0 (k + 1) s1 s2 = some r := hm
    show WT _ _ [(0, pv0), (1, .int .i64 s1), (4, .int .i64 0), (5, .int .i64 s2)] (St w Φ [])
    unfold m_l_szBindS_l1 at h
    refine WT.seq ?_
    refine WT.seq ?_
    refine WT.region ?_
    refine WL.q (q_move rfl) rfl rfl rfl ?_
    refine WL.q (q_move rfl) rfl rfl rfl ?_
    refine WL.q (q_lenR Sl_49 rfl rfl ph0) rfl rfl rfl ?_
    refine WL.q (q_lss rfl rfl) rfl rfl rfl ?_
    refine WL.nil ?_
    refine WT.cond rfl (fun c2 => ?_) (fun c2 => ?_)
    · replace h := ite_t h c2
      refine WT.skip ?_
      refine WT.seq ?_
      refine WT.block ?_
      refine WT.seq ?_
      refine WT.region ?_
      refine WL.q (q_move rfl) rfl rfl rfl ?_
      refine WL.q (q_move rfl) rfl rfl rfl ?_
      obtain ⟨x1, hx1, h⟩ := bind_some h
      obtain ⟨cs1, F1, -, g1, r1⟩ := ph0.el (idx_some hx1).2.2
      obtain ⟨rfl, -⟩ := r1
      refine WL.q (q_indexAddr Sl_49 rfl rfl ph0 hx1) rfl rfl rfl ?_
      refine WL.q (q_loadN Tn_142 rfl (fun w1 hw => (g1.of_eq 0 4 rfl rfl : rg _ _ _ [.string x1.Name, .int .i64 x1.V.K, .int .i64 x1.V.N, .string x1.V.S]).rangeAt hw.fro) rfl) rfl rfl rfl ?_
      refine WL.q (q_move rfl) rfl rfl rfl ?_
      obtain ⟨x2, hx2, h⟩ := bind_some h
      refine WL.call (c_pure Fun_104 rfl (fun w1 hw => m_l_szBind_ok hw.fro N x1 s1 hx2)) rfl rfl rfl (fun _ => ?_)
      refine WL.q (q_assign rfl) rfl rfl rfl ?_
      refine WL.nil ?_
      refine WT.seq ?_
      refine WT.region ?_
      refine WL.q (q_move rfl) rfl rfl rfl ?_
      refine WL.q (q_lss rfl rfl) rfl rfl rfl ?_
      refine WL.nil ?_
      refine WT.cond rfl (fun c3 => ?_) (fun c3 => ?_)
      · replace h := ite_t h c3
        refine WT.seq ?_
        refine WT.region ?_
        refine WL.q (q_assign rfl) rfl rfl rfl ?_
        refine WL.nil ?_
        refine WT.ret Try.func58 (resOk.one rfl) (fun w1 hw => ?_)
        cases h
        exact post_of_St hw
      · replace h := ite_f h c3
        refine WT.skip ?_
        refine WT.inBlock ?_
        refine WT.region ?_
        refine WL.q (q_move rfl) rfl rfl rfl ?_
        refine WL.q (q_add rfl rfl) rfl rfl rfl ?_
        refine WL.q (q_assign rfl) rfl rfl rfl ?_
        refine WL.nil ?_
        refine WT.inLoop (WT.mono (l' := [(0, pv0), (1, .int .i64 x2), (4, .int .i64 0), (5, .int .i64 (IntKind.i64.wrap (s2 + 1)))]) (S' := St w Φ []) ⟨rfl, rfl, rfl, rfl, trivial⟩ (fun w1 hw => hw.drop 0) ?_)
        exact ih (x2, IntKind.i64.wrap (s2 + 1)) h
    · replace h := ite_f h c2
      refine WT.exit rfl ?_
      refine WT.seq ?_
      refine WT.region ?_
      refine WL.q (q_move rfl) rfl rfl rfl ?_
      refine WL.q (q_assign rfl) rfl rfl rfl ?_
      refine WL.nil ?_
      refine WT.ret Try.func58 (resOk.one rfl) (fun w1 hw => ?_)
      cases h
      exact post_of_St hw
theorem m_s_BindOf_ok {Φ : Hp} {w : World} (hΦ : In Φ w) (N : Nat) (p0 : (List TBind)) (p1 : ByteArray) {pv0 : Value} {pG0 : List Nat} (ph0 : RSl RTBind 4 Φ pG0 pv0 p0) {r : TVal × Bool} (h : m_s_BindOf N p0 p1 = some r) :
    Calls Try.prog 130 [pv0, .string p1].toArray w (Post (.tuple #[.agg [.int .i64 r.1.K, .int .i64 r.1.N, .string r.1.S].toArray, .bool r.2]) w) := by
  refine enter Try.func130 rfl Try.ntmps130 rfl (St.start hΦ) ?_
  unfold m_s_BindOf at h
  refine WT.seq ?_
  refine WT.region ?_
  refine WL.alloc (C := #[.int .i64 0, .int .i64 0, .string (⟨#[]⟩ : ByteArray)]) rfl rfl rfl rfl Zr_100 rfl (fun b_1 => ?_)
  refine WL.q (q_assign rfl) rfl rfl rfl ?_
  refine WL.nil ?_
  refine WT.seq ?_
  refine WT.seq ?_
  refine WT.region ?_
  refine WL.q (q_assign rfl) rfl rfl rfl ?_
  refine WL.nil ?_
  refine WT.block ?_
  refine WT.loop ?_
  refine WT.keep [(0, pv0), (1, .string p1), (4, .pointer (some ⟨b_1, 0, none⟩)), (5, .bool false), (6, .int .i64 0)] ⟨rfl, rfl, rfl, rfl, rfl, trivial⟩ ?_
  refine loop_ind (σ := Int) (fun s => [(0, pv0), (1, .string p1), (4, .pointer (some ⟨b_1, 0, none⟩)), (5, .bool false), (6, .int .i64 s)]) (fun s => St w Φ [Ent.obj b_1 (.cells #[.int .i64 0, .int .i64 0, .string (⟨#[]⟩ : ByteArray)] 100 (0, 0))]) (fun m s => m_s_BindOf_l1 N p0 p1 m s = some r) (fun s hm => none_ne (show (none : Option (TVal × Bool)) = some r from hm)) (fun k ih s hm => ?_) N (0) h
  revert hm; revert s; intro s1 hm
  have h : m_s_BindOf_l1 N p0 p1 (k + 1) s1 = some r := hm
  show WT _ _ [(0, pv0), (1, .string p1), (4, .pointer (some ⟨b_1, 0, none⟩)), (5, .bool false), (6, .int .i64 s1)] (St w Φ [Ent.obj b_1 (.cells #[.int .i64 0, .int .i64 0, .string (⟨#[]⟩ : ByteArray)] 100 (0, 0))])
  unfold m_s_BindOf_l1 at h
  refine WT.seq ?_
  refine WT.seq ?_
  refine WT.region ?_
  refine WL.q (q_move rfl) rfl rfl rfl ?_
  refine WL.q (q_move rfl) rfl rfl rfl ?_
  refine WL.q (q_lenR Sl_30 rfl rfl ph0) rfl rfl rfl ?_
  refine WL.q (q_lss rfl rfl) rfl rfl rfl ?_
  refine WL.nil ?_
  refine WT.cond rfl (fun c1 => ?_) (fun c1 => ?_)
  · replace h := ite_t h c1
    refine WT.skip ?_
    refine WT.seq ?_
    refine WT.block ?_
    refine WT.seq ?_
    refine WT.region ?_
    refine WL.q (q_move rfl) rfl rfl rfl ?_
    refine WL.q (q_move rfl) rfl rfl rfl ?_
    obtain ⟨x1, hx1, h⟩ := bind_some h
    obtain ⟨cs1, F1, -, g1, r1⟩ := ph0.el (idx_some hx1).2.2
    obtain ⟨rfl, -⟩ := r1
    refine WL.q (q_indexAddr Sl_30 rfl rfl ph0 hx1) rfl rfl rfl ?_
    refine WL.q (q_fieldAddr Fld_130_0 rfl) rfl rfl rfl ?_
    refine WL.q (q_load1 T1_9 rfl (fun w1 hw => (g1.of_eq 0 1 rfl rfl : rg _ _ _ [.string x1.Name]).rangeAt hw.fro)) rfl rfl rfl ?_
    refine WL.q (q_move rfl) rfl rfl rfl ?_
    refine WL.q (q_seq rfl rfl) rfl rfl rfl ?_
    refine WL.nil ?_
    refine WT.cond rfl (fun c2 => ?_) (fun c2 => ?_)
    · replace h := ite_t h c2
      refine WT.seq ?_
      refine WT.region ?_
      refine WL.q (q_move rfl) rfl rfl rfl ?_
      refine WL.q (q_move rfl) rfl rfl rfl ?_
      obtain ⟨x2, hx2, h⟩ := bind_some h
      obtain ⟨cs2, F2, -, g2, r2⟩ := ph0.el (idx_some hx2).2.2
      obtain ⟨rfl, -⟩ := r2
      refine WL.q (q_indexAddr Sl_30 rfl rfl ph0 hx2) rfl rfl rfl ?_
      refine WL.q (q_fieldAddr Fld_130_1 rfl) rfl rfl rfl ?_
      refine WL.q (q_loadN Tn_100 rfl (fun w1 hw => (g2.of_eq 1 3 rfl rfl : rg _ _ _ [.int .i64 x2.V.K, .int .i64 x2.V.N, .string x2.V.S]).rangeAt hw.fro) rfl) rfl rfl rfl ?_
      refine WL.store (i := 0) (vs := [.int .i64 x2.V.K, .int .i64 x2.V.N, .string x2.V.S]) (C' := [.int .i64 x2.V.K, .int .i64 x2.V.N, .string x2.V.S]) rfl rfl rfl Sz_100 rfl rfl rfl rfl rfl rfl ⟨rfl, rfl, rfl, trivial⟩ rfl ?_
      refine WL.q (q_assign rfl) rfl rfl rfl ?_
      refine WL.nil ?_
      refine WT.ret Try.func130 (resOk.two (rv_cell Tn_100 rfl (fun w1 hw => hw.rgL (i := 0) rfl 0 3 [.int .i64 x2.V.K, .int .i64 x2.V.N, .string x2.V.S] rfl) rfl) rfl) (fun w1 hw => ?_)
      cases h
      exact post_of_St hw
    · replace h := ite_f h c2
      refine WT.skip ?_
      refine WT.inBlock ?_
      refine WT.region ?_
      refine WL.q (q_move rfl) rfl rfl rfl ?_
      refine WL.q (q_add rfl rfl) rfl rfl rfl ?_
      refine WL.q (q_assign rfl) rfl rfl rfl ?_
      refine WL.nil ?_
      refine WT.inLoop (WT.mono (l' := [(0, pv0), (1, .string p1), (4, .pointer (some ⟨b_1, 0, none⟩)), (5, .bool false), (6, .int .i64 (IntKind.i64.wrap (s1 + 1)))]) (S' := St w Φ [Ent.obj b_1 (.cells #[.int .i64 0, .int .i64 0, .string (⟨#[]⟩ : ByteArray)] 100 (0, 0))]) ⟨rfl, rfl, rfl, rfl, rfl, trivial⟩ (fun w1 hw => hw.drop 0) ?_)
      exact ih (IntKind.i64.wrap (s1 + 1)) h
  · replace h := ite_f h c1
    refine WT.exit rfl ?_
    refine WT.seq ?_
    refine WT.region ?_
    refine WL.q (q_build (vs := []) (C := #[.int .i64 0, .int .i64 0, .string (⟨#[]⟩ : ByteArray)]) Pl_100 Zr_100 rfl rfl) rfl rfl rfl ?_
    refine WL.store (i := 0) (vs := [.int .i64 0, .int .i64 0, .string (⟨#[]⟩ : ByteArray)]) (C' := [.int .i64 0, .int .i64 0, .string (⟨#[]⟩ : ByteArray)]) rfl rfl rfl Sz_100 rfl rfl rfl rfl rfl rfl ⟨rfl, rfl, rfl, trivial⟩ rfl ?_
    refine WL.q (q_assign rfl) rfl rfl rfl ?_
    refine WL.nil ?_
    refine WT.ret Try.func130 (resOk.two (rv_cell Tn_100 rfl (fun w1 hw => hw.rgL (i := 0) rfl 0 3 [.int .i64 0, .int .i64 0, .string (⟨#[]⟩ : ByteArray)] rfl) rfl) rfl) (fun w1 hw => ?_)
    cases h
    exact post_of_St hw
theorem m_s_ArgVal_ok {Φ : Hp} {w : World} (hΦ : In Φ w) (N : Nat) (p0 : TArg) (p1 : (List TBind)) {pv1 : Value} {pG1 : List Nat} (ph1 : RSl RTBind 4 Φ pG1 pv1 p1) {r : TVal × Bool} (h : m_s_ArgVal N p0 p1 = some r) :
    Calls Try.prog 105 [.agg [.int .i64 p0.K, .string p0.S, .int .i64 p0.V.K, .int .i64 p0.V.N, .string p0.V.S].toArray, pv1].toArray w (Post (.tuple #[.agg [.int .i64 r.1.K, .int .i64 r.1.N, .string r.1.S].toArray, .bool r.2]) w) := by
  refine enter Try.func105 rfl Try.ntmps105 rfl (St.start hΦ) ?_
  unfold m_s_ArgVal at h
  refine WT.seq ?_
  refine WT.region ?_
  refine WL.box (C := #[.int .i64 p0.K, .string p0.S, .int .i64 p0.V.K, .int .i64 p0.V.N, .string p0.V.S]) rfl rfl rfl rfl rfl rfl (fun b_1 => ?_)
  refine WL.alloc (C := #[.int .i64 0, .int .i64 0, .string (⟨#[]⟩ : ByteArray)]) rfl rfl rfl rfl Zr_100 rfl (fun b_2 => ?_)
  refine WL.q (q_assign rfl) rfl rfl rfl ?_
  refine WL.nil ?_
  refine WT.seq ?_
  refine WT.seq ?_
  refine WT.region ?_
  refine WL.q (q_fieldAddr Fld_104_0 rfl) rfl rfl rfl ?_
  refine WL.q (q_load1 T1_3 rfl (fun w1 hw => hw.rgL (i := 1) rfl 0 1 [.int .i64 p0.K] rfl)) rfl rfl rfl ?_
  refine WL.nil ?_
  refine WT.block ?_
  refine WT.seq ?_
  refine WT.region ?_
  refine WL.q (q_eql rfl rfl) rfl rfl rfl ?_
  refine WL.q (q_assign rfl) rfl rfl rfl ?_
  refine WL.nil ?_
  refine WT.cond rfl (fun c1 => ?_) (fun c1 => ?_)
  · replace h := ite_t h c1
    refine WT.seq ?_
    refine WT.region ?_
    refine WL.q (q_fieldAddr Fld_104_2 rfl) rfl rfl rfl ?_
    refine WL.q (q_loadN Tn_100 rfl (fun w1 hw => hw.rgL (i := 1) rfl 2 3 [.int .i64 p0.V.K, .int .i64 p0.V.N, .string p0.V.S] rfl) rfl) rfl rfl rfl ?_
    refine WL.store (i := 0) (vs := [.int .i64 p0.V.K, .int .i64 p0.V.N, .string p0.V.S]) (C' := [.int .i64 p0.V.K, .int .i64 p0.V.N, .string p0.V.S]) rfl rfl rfl Sz_100 rfl rfl rfl rfl rfl rfl ⟨rfl, rfl, rfl, trivial⟩ rfl ?_
    refine WL.q (q_assign rfl) rfl rfl rfl ?_
    refine WL.nil ?_
    refine WT.ret Try.func105 (resOk.two (rv_cell Tn_100 rfl (fun w1 hw => hw.rgL (i := 0) rfl 0 3 [.int .i64 p0.V.K, .int .i64 p0.V.N, .string p0.V.S] rfl) rfl) rfl) (fun w1 hw => ?_)
    cases h
    exact post_of_St hw
  · replace h := ite_f h c1
    refine WT.seq ?_
    refine WT.region ?_
    refine WL.q (q_eql rfl rfl) rfl rfl rfl ?_
    refine WL.q (q_assign rfl) rfl rfl rfl ?_
    refine WL.nil ?_
    refine WT.cond rfl (fun c2 => ?_) (fun c2 => ?_)
    · replace h := ite_t h c2
      refine WT.seq ?_
      refine WT.region ?_
      refine WL.q (q_move rfl) rfl rfl rfl ?_
      refine WL.q (q_fieldAddr Fld_104_1 rfl) rfl rfl rfl ?_
      refine WL.q (q_load1 T1_9 rfl (fun w1 hw => hw.rgL (i := 1) rfl 1 1 [.string p0.S] rfl)) rfl rfl rfl ?_
      obtain ⟨x1, hx1, h⟩ := bind_some h
      refine WL.call (c_pure Fun_130 rfl (fun w1 hw => m_s_BindOf_ok hw.fro N p1 p0.S ph1 hx1)) rfl rfl rfl (fun _ => ?_)
      refine WL.q (q_extract rfl rfl) rfl rfl rfl ?_
      refine WL.q (q_extract rfl rfl) rfl rfl rfl ?_
      refine WL.store (i := 0) (vs := [.int .i64 x1.1.K, .int .i64 x1.1.N, .string x1.1.S]) (C' := [.int .i64 x1.1.K, .int .i64 x1.1.N, .string x1.1.S]) rfl rfl rfl Sz_100 rfl rfl rfl rfl rfl rfl ⟨rfl, rfl, rfl, trivial⟩ rfl ?_
      refine WL.q (q_assign rfl) rfl rfl rfl ?_
      refine WL.nil ?_
      refine WT.ret Try.func105 (resOk.two (rv_cell Tn_100 rfl (fun w1 hw => hw.rgL (i := 0) rfl 0 3 [.int .i64 x1.1.K, .int .i64 x1.1.N, .string x1.1.S] rfl) rfl) rfl) (fun w1 hw => ?_)
      cases h
      exact post_of_St hw
    · replace h := ite_f h c2
      refine WT.skip ?_
      refine WT.inBlock ?_
      refine WT.seq ?_
      refine WT.region ?_
      refine WL.q (q_build (vs := []) (C := #[.int .i64 0, .int .i64 0, .string (⟨#[]⟩ : ByteArray)]) Pl_100 Zr_100 rfl rfl) rfl rfl rfl ?_
      refine WL.store (i := 0) (vs := [.int .i64 0, .int .i64 0, .string (⟨#[]⟩ : ByteArray)]) (C' := [.int .i64 0, .int .i64 0, .string (⟨#[]⟩ : ByteArray)]) rfl rfl rfl Sz_100 rfl rfl rfl rfl rfl rfl ⟨rfl, rfl, rfl, trivial⟩ rfl ?_
      refine WL.q (q_assign rfl) rfl rfl rfl ?_
      refine WL.nil ?_
      refine WT.ret Try.func105 (resOk.two (rv_cell Tn_100 rfl (fun w1 hw => hw.rgL (i := 0) rfl 0 3 [.int .i64 0, .int .i64 0, .string (⟨#[]⟩ : ByteArray)] rfl) rfl) rfl) (fun w1 hw => ?_)
      cases h
      exact post_of_St hw
theorem m_s_l2Sum_ok {Φ : Hp} {w : World} (hΦ : In Φ w) (N : Nat) (p0 : TVal) (p1 : TVal) (p2 : Int)   {r : TVal × Bool} (h : m_s_l2Sum N p0 p1 p2 = some r) :
    Calls Try.prog 131 [.agg [.int .i64 p0.K, .int .i64 p0.N, .string p0.S].toArray, .agg [.int .i64 p1.K, .int .i64 p1.N, .string p1.S].toArray, .int .i64 p2].toArray w (Post (.tuple #[.agg [.int .i64 r.1.K, .int .i64 r.1.N, .string r.1.S].toArray, .bool r.2]) w) := by
  refine enter Try.func131 rfl Try.ntmps131 rfl (St.start hΦ) ?_
  unfold m_s_l2Sum at h
  refine WT.seq ?_
  refine WT.region ?_
  refine WL.box (C := #[.int .i64 p0.K, .int .i64 p0.N, .string p0.S]) rfl rfl rfl rfl rfl rfl (fun b_1 => ?_)
  refine WL.box (C := #[.int .i64 p1.K, .int .i64 p1.N, .string p1.S]) rfl rfl rfl rfl rfl rfl (fun b_2 => ?_)
  refine WL.alloc (C := #[.int .i64 0, .int .i64 0, .string (⟨#[]⟩ : ByteArray)]) rfl rfl rfl rfl Zr_100 rfl (fun b_3 => ?_)
  refine WL.q (q_assign rfl) rfl rfl rfl ?_
  refine WL.nil ?_
  refine WT.seq ?_
  refine WT.region ?_
  refine WL.q (q_move rfl) rfl rfl rfl ?_
  refine WL.q (q_build (vs := [(0, .int .i64 1), (1, .int .i64 p2)]) (C := #[.int .i64 1, .int .i64 p2, .string (⟨#[]⟩ : ByteArray)]) Pl_100 Zr_100 rfl rfl) rfl rfl rfl ?_
  refine WL.alloc (C := #[.int .i64 0, .int .i64 0, .string (⟨#[]⟩ : ByteArray)]) rfl rfl rfl rfl Zr_100 rfl (fun b_4 => ?_)
  refine WL.store (i := 0) (vs := [.int .i64 1, .int .i64 p2, .string (⟨#[]⟩ : ByteArray)]) (C' := [.int .i64 1, .int .i64 p2, .string (⟨#[]⟩ : ByteArray)]) rfl rfl rfl Sz_100 rfl rfl rfl rfl rfl rfl ⟨rfl, rfl, rfl, trivial⟩ rfl ?_
  refine WL.nil ?_
  refine WT.seq ?_
  refine WT.seq ?_
  refine WT.region ?_
  refine WL.q (q_fieldAddr Fld_100_0 rfl) rfl rfl rfl ?_
  refine WL.q (q_load1 T1_3 rfl (fun w1 hw => hw.rgL (i := 3) rfl 0 1 [.int .i64 p0.K] rfl)) rfl rfl rfl ?_
  refine WL.q (q_neq rfl rfl) rfl rfl rfl ?_
  refine WL.q (q_move rfl) rfl rfl rfl ?_
  obtain ⟨b1, hb_1, h⟩ := bind_some h
  refine WL.cutN 4 [(18, .bool b1), (3, .pointer (some ⟨b_1, 0, none⟩)), (4, .pointer (some ⟨b_2, 0, none⟩)), (6, .pointer (some ⟨b_3, 0, none⟩)), (7, .bool false), (8, .pointer (some ⟨b_4, 0, none⟩))] ?_ (fun K => ?_)
  rotate_left
  · refine WL.split (d := 14) rfl (fun c1 => ?_) (fun c1 => ?_)
    · replace hb_1 := ite_t hb_1 c1
      refine WL.no rfl rfl rfl rfl ?_
      refine WL.no rfl rfl rfl rfl ?_
      refine WL.no rfl rfl rfl rfl ?_
      refine WL.q (q_pick1 rfl rfl) rfl rfl rfl ?_
      cases hb_1
      exact WL.keep (by exact ⟨rfl, rfl, rfl, rfl, rfl, rfl, trivial⟩) K
    · replace hb_1 := ite_f hb_1 c1
      refine WL.yes rfl rfl ?_
      refine WL.q (q_fieldAddr Fld_100_0 rfl) rfl rfl rfl ?_
      refine WL.yes rfl rfl ?_
      refine WL.q (q_load1 T1_3 rfl (fun w1 hw => hw.rgL (i := 2) rfl 0 1 [.int .i64 p1.K] rfl)) rfl rfl rfl ?_
      refine WL.yes rfl rfl ?_
      refine WL.q (q_neq rfl rfl) rfl rfl rfl ?_
      refine WL.q (q_pick0 rfl rfl) rfl rfl rfl ?_
      cases hb_1
      exact WL.keep (by exact ⟨rfl, rfl, rfl, rfl, rfl, rfl, trivial⟩) K
  refine WL.q (q_move rfl) rfl rfl rfl ?_
  obtain ⟨b2, hb_2, h⟩ := bind_some h
  refine WL.cutN 4 [(23, .bool b2), (4, .pointer (some ⟨b_2, 0, none⟩)), (6, .pointer (some ⟨b_3, 0, none⟩)), (7, .bool false), (8, .pointer (some ⟨b_4, 0, none⟩))] ?_ (fun K => ?_)
  rotate_left
  · refine WL.split (d := 19) rfl (fun c2 => ?_) (fun c2 => ?_)
    · replace hb_2 := ite_t hb_2 c2
      refine WL.no rfl rfl rfl rfl ?_
      refine WL.no rfl rfl rfl rfl ?_
      refine WL.no rfl rfl rfl rfl ?_
      refine WL.q (q_pick1 rfl rfl) rfl rfl rfl ?_
      cases hb_2
      exact WL.keep (by exact ⟨rfl, rfl, rfl, rfl, rfl, trivial⟩) K
    · replace hb_2 := ite_f hb_2 c2
      refine WL.yes rfl rfl ?_
      refine WL.q (q_loadN Tn_100 rfl (fun w1 hw => hw.rgL (i := 3) rfl 0 3 [.int .i64 p0.K, .int .i64 p0.N, .string p0.S] rfl) rfl) rfl rfl rfl ?_
      refine WL.yes rfl rfl ?_
      obtain ⟨x1, hx1, hb_2⟩ := bind_some hb_2
      refine WL.call (c_pure Fun_136 rfl (fun w1 hw => m_s_ValOk_ok hw.fro N p0 hx1)) rfl rfl rfl (fun _ => ?_)
      refine WL.yes rfl rfl ?_
      refine WL.q (q_not rfl) rfl rfl rfl ?_
      refine WL.q (q_pick0 rfl rfl) rfl rfl rfl ?_
      cases hb_2
      exact WL.keep (by exact ⟨rfl, rfl, rfl, rfl, rfl, trivial⟩) K
  refine WL.q (q_move rfl) rfl rfl rfl ?_
  obtain ⟨b3, hb_3, h⟩ := bind_some h
  refine WL.cutN 4 [(28, .bool b3), (6, .pointer (some ⟨b_3, 0, none⟩)), (7, .bool false), (8, .pointer (some ⟨b_4, 0, none⟩))] ?_ (fun K => ?_)
  rotate_left
  · refine WL.split (d := 24) rfl (fun c3 => ?_) (fun c3 => ?_)
    · replace hb_3 := ite_t hb_3 c3
      refine WL.no rfl rfl rfl rfl ?_
      refine WL.no rfl rfl rfl rfl ?_
      refine WL.no rfl rfl rfl rfl ?_
      refine WL.q (q_pick1 rfl rfl) rfl rfl rfl ?_
      cases hb_3
      exact WL.keep (by exact ⟨rfl, rfl, rfl, rfl, trivial⟩) K
    · replace hb_3 := ite_f hb_3 c3
      refine WL.yes rfl rfl ?_
      refine WL.q (q_loadN Tn_100 rfl (fun w1 hw => hw.rgL (i := 2) rfl 0 3 [.int .i64 p1.K, .int .i64 p1.N, .string p1.S] rfl) rfl) rfl rfl rfl ?_
      refine WL.yes rfl rfl ?_
      obtain ⟨x2, hx2, hb_3⟩ := bind_some hb_3
      refine WL.call (c_pure Fun_136 rfl (fun w1 hw => m_s_ValOk_ok hw.fro N p1 hx2)) rfl rfl rfl (fun _ => ?_)
      refine WL.yes rfl rfl ?_
      refine WL.q (q_not rfl) rfl rfl rfl ?_
      refine WL.q (q_pick0 rfl rfl) rfl rfl rfl ?_
      cases hb_3
      exact WL.keep (by exact ⟨rfl, rfl, rfl, rfl, trivial⟩) K
  refine WL.q (q_move rfl) rfl rfl rfl ?_
  obtain ⟨b4, hb_4, h⟩ := bind_some h
  refine WL.cutN 4 [(33, .bool b4), (6, .pointer (some ⟨b_3, 0, none⟩)), (7, .bool false), (8, .pointer (some ⟨b_4, 0, none⟩))] ?_ (fun K => ?_)
  rotate_left
  · refine WL.split (d := 29) rfl (fun c4 => ?_) (fun c4 => ?_)
    · replace hb_4 := ite_t hb_4 c4
      refine WL.no rfl rfl rfl rfl ?_
      refine WL.no rfl rfl rfl rfl ?_
      refine WL.no rfl rfl rfl rfl ?_
      refine WL.q (q_pick1 rfl rfl) rfl rfl rfl ?_
      cases hb_4
      exact WL.keep (by exact ⟨rfl, rfl, rfl, rfl, trivial⟩) K
    · replace hb_4 := ite_f hb_4 c4
      refine WL.yes rfl rfl ?_
      refine WL.q (q_loadN Tn_100 rfl (fun w1 hw => hw.rgL (i := 0) rfl 0 3 [.int .i64 1, .int .i64 p2, .string (⟨#[]⟩ : ByteArray)] rfl) rfl) rfl rfl rfl ?_
      refine WL.yes rfl rfl ?_
      obtain ⟨x3, hx3, hb_4⟩ := bind_some hb_4
      refine WL.call (c_pure Fun_136 rfl (fun w1 hw => m_s_ValOk_ok hw.fro N (⟨1, p2, (⟨#[]⟩ : ByteArray)⟩ : TVal) hx3)) rfl rfl rfl (fun _ => ?_)
      refine WL.yes rfl rfl ?_
      refine WL.q (q_not rfl) rfl rfl rfl ?_
      refine WL.q (q_pick0 rfl rfl) rfl rfl rfl ?_
      cases hb_4
      exact WL.keep (by exact ⟨rfl, rfl, rfl, rfl, trivial⟩) K
  refine WL.nil ?_
  refine WT.cond rfl (fun c5 => ?_) (fun c5 => ?_)
  · replace h := ite_t h c5
    refine WT.seq ?_
    refine WT.region ?_
    refine WL.q (q_build (vs := []) (C := #[.int .i64 0, .int .i64 0, .string (⟨#[]⟩ : ByteArray)]) Pl_100 Zr_100 rfl rfl) rfl rfl rfl ?_
    refine WL.store (i := 1) (vs := [.int .i64 0, .int .i64 0, .string (⟨#[]⟩ : ByteArray)]) (C' := [.int .i64 0, .int .i64 0, .string (⟨#[]⟩ : ByteArray)]) rfl rfl rfl Sz_100 rfl rfl rfl rfl rfl rfl ⟨rfl, rfl, rfl, trivial⟩ rfl ?_
    refine WL.q (q_assign rfl) rfl rfl rfl ?_
    refine WL.nil ?_
    refine WT.ret Try.func131 (resOk.two (rv_cell Tn_100 rfl (fun w1 hw => hw.rgL (i := 1) rfl 0 3 [.int .i64 0, .int .i64 0, .string (⟨#[]⟩ : ByteArray)] rfl) rfl) rfl) (fun w1 hw => ?_)
    cases h
    exact post_of_St hw
  · replace h := ite_f h c5
    refine WT.skip ?_
    refine WT.seq ?_
    refine WT.region ?_
    refine WL.q (q_loadN Tn_100 rfl (fun w1 hw => hw.rgL (i := 0) rfl 0 3 [.int .i64 1, .int .i64 p2, .string (⟨#[]⟩ : ByteArray)] rfl) rfl) rfl rfl rfl ?_
    refine WL.store (i := 1) (vs := [.int .i64 1, .int .i64 p2, .string (⟨#[]⟩ : ByteArray)]) (C' := [.int .i64 1, .int .i64 p2, .string (⟨#[]⟩ : ByteArray)]) rfl rfl rfl Sz_100 rfl rfl rfl rfl rfl rfl ⟨rfl, rfl, rfl, trivial⟩ rfl ?_
    refine WL.q (q_assign rfl) rfl rfl rfl ?_
    refine WL.nil ?_
    refine WT.ret Try.func131 (resOk.two (rv_cell Tn_100 rfl (fun w1 hw => hw.rgL (i := 1) rfl 0 3 [.int .i64 1, .int .i64 p2, .string (⟨#[]⟩ : ByteArray)] rfl) rfl) rfl) (fun w1 hw => ?_)
    cases h
    exact post_of_St hw
theorem m_s_AddVals_ok {Φ : Hp} {w : World} (hΦ : In Φ w) (N : Nat) (p0 : TVal) (p1 : TVal)   {r : TVal × Bool} (h : m_s_AddVals N p0 p1 = some r) :
    Calls Try.prog 106 [.agg [.int .i64 p0.K, .int .i64 p0.N, .string p0.S].toArray, .agg [.int .i64 p1.K, .int .i64 p1.N, .string p1.S].toArray].toArray w (Post (.tuple #[.agg [.int .i64 r.1.K, .int .i64 r.1.N, .string r.1.S].toArray, .bool r.2]) w) := by
  refine enter Try.func106 rfl Try.ntmps106 rfl (St.start hΦ) ?_
  unfold m_s_AddVals at h
  refine WT.seq ?_
  refine WT.region ?_
  refine WL.box (C := #[.int .i64 p0.K, .int .i64 p0.N, .string p0.S]) rfl rfl rfl rfl rfl rfl (fun b_1 => ?_)
  refine WL.box (C := #[.int .i64 p1.K, .int .i64 p1.N, .string p1.S]) rfl rfl rfl rfl rfl rfl (fun b_2 => ?_)
  refine WL.alloc (C := #[.int .i64 0, .int .i64 0, .string (⟨#[]⟩ : ByteArray)]) rfl rfl rfl rfl Zr_100 rfl (fun b_3 => ?_)
  refine WL.q (q_assign rfl) rfl rfl rfl ?_
  refine WL.nil ?_
  refine WT.seq ?_
  refine WT.region ?_
  refine WL.q (q_loadN Tn_100 rfl (fun w1 hw => hw.rgL (i := 2) rfl 0 3 [.int .i64 p0.K, .int .i64 p0.N, .string p0.S] rfl) rfl) rfl rfl rfl ?_
  refine WL.q (q_loadN Tn_100 rfl (fun w1 hw => hw.rgL (i := 1) rfl 0 3 [.int .i64 p1.K, .int .i64 p1.N, .string p1.S] rfl) rfl) rfl rfl rfl ?_
  refine WL.q (q_fieldAddr Fld_100_1 rfl) rfl rfl rfl ?_
  refine WL.q (q_load1 T1_3 rfl (fun w1 hw => hw.rgL (i := 2) rfl 1 1 [.int .i64 p0.N] rfl)) rfl rfl rfl ?_
  refine WL.q (q_fieldAddr Fld_100_1 rfl) rfl rfl rfl ?_
  refine WL.q (q_load1 T1_3 rfl (fun w1 hw => hw.rgL (i := 1) rfl 1 1 [.int .i64 p1.N] rfl)) rfl rfl rfl ?_
  refine WL.q (q_add rfl rfl) rfl rfl rfl ?_
  obtain ⟨x1, hx1, h⟩ := bind_some h
  refine WL.call (c_pure Fun_131 rfl (fun w1 hw => m_s_l2Sum_ok hw.fro N p0 p1 (IntKind.i64.wrap (p0.N + p1.N)) hx1)) rfl rfl rfl (fun _ => ?_)
  refine WL.q (q_extract rfl rfl) rfl rfl rfl ?_
  refine WL.q (q_extract rfl rfl) rfl rfl rfl ?_
  refine WL.store (i := 0) (vs := [.int .i64 x1.1.K, .int .i64 x1.1.N, .string x1.1.S]) (C' := [.int .i64 x1.1.K, .int .i64 x1.1.N, .string x1.1.S]) rfl rfl rfl Sz_100 rfl rfl rfl rfl rfl rfl ⟨rfl, rfl, rfl, trivial⟩ rfl ?_
  refine WL.q (q_assign rfl) rfl rfl rfl ?_
  refine WL.nil ?_
  refine WT.ret Try.func106 (resOk.two (rv_cell Tn_100 rfl (fun w1 hw => hw.rgL (i := 0) rfl 0 3 [.int .i64 x1.1.K, .int .i64 x1.1.N, .string x1.1.S] rfl) rfl) rfl) (fun w1 hw => ?_)
  cases h
  exact post_of_St hw
theorem m_s_SubVals_ok {Φ : Hp} {w : World} (hΦ : In Φ w) (N : Nat) (p0 : TVal) (p1 : TVal)   {r : TVal × Bool} (h : m_s_SubVals N p0 p1 = some r) :
    Calls Try.prog 107 [.agg [.int .i64 p0.K, .int .i64 p0.N, .string p0.S].toArray, .agg [.int .i64 p1.K, .int .i64 p1.N, .string p1.S].toArray].toArray w (Post (.tuple #[.agg [.int .i64 r.1.K, .int .i64 r.1.N, .string r.1.S].toArray, .bool r.2]) w) := by
  refine enter Try.func107 rfl Try.ntmps107 rfl (St.start hΦ) ?_
  unfold m_s_SubVals at h
  refine WT.seq ?_
  refine WT.region ?_
  refine WL.box (C := #[.int .i64 p0.K, .int .i64 p0.N, .string p0.S]) rfl rfl rfl rfl rfl rfl (fun b_1 => ?_)
  refine WL.box (C := #[.int .i64 p1.K, .int .i64 p1.N, .string p1.S]) rfl rfl rfl rfl rfl rfl (fun b_2 => ?_)
  refine WL.alloc (C := #[.int .i64 0, .int .i64 0, .string (⟨#[]⟩ : ByteArray)]) rfl rfl rfl rfl Zr_100 rfl (fun b_3 => ?_)
  refine WL.q (q_assign rfl) rfl rfl rfl ?_
  refine WL.nil ?_
  refine WT.seq ?_
  refine WT.region ?_
  refine WL.q (q_loadN Tn_100 rfl (fun w1 hw => hw.rgL (i := 2) rfl 0 3 [.int .i64 p0.K, .int .i64 p0.N, .string p0.S] rfl) rfl) rfl rfl rfl ?_
  refine WL.q (q_loadN Tn_100 rfl (fun w1 hw => hw.rgL (i := 1) rfl 0 3 [.int .i64 p1.K, .int .i64 p1.N, .string p1.S] rfl) rfl) rfl rfl rfl ?_
  refine WL.q (q_fieldAddr Fld_100_1 rfl) rfl rfl rfl ?_
  refine WL.q (q_load1 T1_3 rfl (fun w1 hw => hw.rgL (i := 2) rfl 1 1 [.int .i64 p0.N] rfl)) rfl rfl rfl ?_
  refine WL.q (q_fieldAddr Fld_100_1 rfl) rfl rfl rfl ?_
  refine WL.q (q_load1 T1_3 rfl (fun w1 hw => hw.rgL (i := 1) rfl 1 1 [.int .i64 p1.N] rfl)) rfl rfl rfl ?_
  refine WL.q (q_sub rfl rfl) rfl rfl rfl ?_
  obtain ⟨x1, hx1, h⟩ := bind_some h
  refine WL.call (c_pure Fun_131 rfl (fun w1 hw => m_s_l2Sum_ok hw.fro N p0 p1 (IntKind.i64.wrap (p0.N - p1.N)) hx1)) rfl rfl rfl (fun _ => ?_)
  refine WL.q (q_extract rfl rfl) rfl rfl rfl ?_
  refine WL.q (q_extract rfl rfl) rfl rfl rfl ?_
  refine WL.store (i := 0) (vs := [.int .i64 x1.1.K, .int .i64 x1.1.N, .string x1.1.S]) (C' := [.int .i64 x1.1.K, .int .i64 x1.1.N, .string x1.1.S]) rfl rfl rfl Sz_100 rfl rfl rfl rfl rfl rfl ⟨rfl, rfl, rfl, trivial⟩ rfl ?_
  refine WL.q (q_assign rfl) rfl rfl rfl ?_
  refine WL.nil ?_
  refine WT.ret Try.func107 (resOk.two (rv_cell Tn_100 rfl (fun w1 hw => hw.rgL (i := 0) rfl 0 3 [.int .i64 x1.1.K, .int .i64 x1.1.N, .string x1.1.S] rfl) rfl) rfl) (fun w1 hw => ?_)
  cases h
  exact post_of_St hw
theorem m_s_Compute_ok {Φ : Hp} {w : World} (hΦ : In Φ w) (N : Nat) (p0 : TExpr) (p1 : (List TBind)) {pv1 : Value} {pG1 : List Nat} (ph1 : RSl RTBind 4 Φ pG1 pv1 p1) {r : TVal × Bool} (h : m_s_Compute N p0 p1 = some r) :
    Calls Try.prog 59 [.agg [.string p0.Op, .int .i64 p0.L.K, .string p0.L.S, .int .i64 p0.L.V.K, .int .i64 p0.L.V.N, .string p0.L.V.S, .int .i64 p0.R.K, .string p0.R.S, .int .i64 p0.R.V.K, .int .i64 p0.R.V.N, .string p0.R.V.S].toArray, pv1].toArray w (Post (.tuple #[.agg [.int .i64 r.1.K, .int .i64 r.1.N, .string r.1.S].toArray, .bool r.2]) w) := by
  refine enter Try.func59 rfl Try.ntmps59 rfl (St.start hΦ) ?_
  unfold m_s_Compute at h
  refine WT.seq ?_
  refine WT.region ?_
  refine WL.box (C := #[.string p0.Op, .int .i64 p0.L.K, .string p0.L.S, .int .i64 p0.L.V.K, .int .i64 p0.L.V.N, .string p0.L.V.S, .int .i64 p0.R.K, .string p0.R.S, .int .i64 p0.R.V.K, .int .i64 p0.R.V.N, .string p0.R.V.S]) rfl rfl rfl rfl rfl rfl (fun b_1 => ?_)
  refine WL.alloc (C := #[.int .i64 0, .int .i64 0, .string (⟨#[]⟩ : ByteArray)]) rfl rfl rfl rfl Zr_100 rfl (fun b_2 => ?_)
  refine WL.q (q_assign rfl) rfl rfl rfl ?_
  refine WL.nil ?_
  refine WT.seq ?_
  refine WT.region ?_
  refine WL.q (q_fieldAddr Fld_106_1 rfl) rfl rfl rfl ?_
  refine WL.q (q_loadN Tn_104 rfl (fun w1 hw => hw.rgL (i := 1) rfl 1 5 [.int .i64 p0.L.K, .string p0.L.S, .int .i64 p0.L.V.K, .int .i64 p0.L.V.N, .string p0.L.V.S] rfl) rfl) rfl rfl rfl ?_
  refine WL.q (q_move rfl) rfl rfl rfl ?_
  obtain ⟨x1, hx1, h⟩ := bind_some h
  refine WL.call (c_pure Fun_105 rfl (fun w1 hw => m_s_ArgVal_ok hw.fro N p0.L p1 ph1 hx1)) rfl rfl rfl (fun _ => ?_)
  refine WL.q (q_move rfl) rfl rfl rfl ?_
  refine WL.q (q_extract rfl rfl) rfl rfl rfl ?_
  refine WL.q (q_extract rfl rfl) rfl rfl rfl ?_
  refine WL.alloc (C := #[.int .i64 0, .int .i64 0, .string (⟨#[]⟩ : ByteArray)]) rfl rfl rfl rfl Zr_100 rfl (fun b_3 => ?_)
  refine WL.store (i := 0) (vs := [.int .i64 x1.1.K, .int .i64 x1.1.N, .string x1.1.S]) (C' := [.int .i64 x1.1.K, .int .i64 x1.1.N, .string x1.1.S]) rfl rfl rfl Sz_100 rfl rfl rfl rfl rfl rfl ⟨rfl, rfl, rfl, trivial⟩ rfl ?_
  refine WL.q (q_assign rfl) rfl rfl rfl ?_
  refine WL.nil ?_
  refine WT.seq ?_
  refine WT.region ?_
  refine WL.q (q_fieldAddr Fld_106_2 rfl) rfl rfl rfl ?_
  refine WL.q (q_loadN Tn_104 rfl (fun w1 hw => hw.rgL (i := 2) rfl 6 5 [.int .i64 p0.R.K, .string p0.R.S, .int .i64 p0.R.V.K, .int .i64 p0.R.V.N, .string p0.R.V.S] rfl) rfl) rfl rfl rfl ?_
  refine WL.q (q_move rfl) rfl rfl rfl ?_
  obtain ⟨x2, hx2, h⟩ := bind_some h
  refine WL.call (c_pure Fun_105 rfl (fun w1 hw => m_s_ArgVal_ok hw.fro N p0.R p1 ph1 hx2)) rfl rfl rfl (fun _ => ?_)
  refine WL.q (q_move rfl) rfl rfl rfl ?_
  refine WL.q (q_extract rfl rfl) rfl rfl rfl ?_
  refine WL.q (q_extract rfl rfl) rfl rfl rfl ?_
  refine WL.alloc (C := #[.int .i64 0, .int .i64 0, .string (⟨#[]⟩ : ByteArray)]) rfl rfl rfl rfl Zr_100 rfl (fun b_4 => ?_)
  refine WL.store (i := 0) (vs := [.int .i64 x2.1.K, .int .i64 x2.1.N, .string x2.1.S]) (C' := [.int .i64 x2.1.K, .int .i64 x2.1.N, .string x2.1.S]) rfl rfl rfl Sz_100 rfl rfl rfl rfl rfl rfl ⟨rfl, rfl, rfl, trivial⟩ rfl ?_
  refine WL.q (q_assign rfl) rfl rfl rfl ?_
  refine WL.nil ?_
  refine WT.seq ?_
  refine WT.block ?_
  refine WT.seq ?_
  refine WT.region ?_
  refine WL.q (q_move rfl) rfl rfl rfl ?_
  refine WL.q (q_not rfl) rfl rfl rfl ?_
  refine WL.q (q_assign rfl) rfl rfl rfl ?_
  refine WL.nil ?_
  refine WT.cond rfl (fun c1 => ?_) (fun c1 => ?_)
  · replace h := ite_t h c1
    refine WT.seq ?_
    refine WT.region ?_
    refine WL.q (q_build (vs := []) (C := #[.int .i64 0, .int .i64 0, .string (⟨#[]⟩ : ByteArray)]) Pl_100 Zr_100 rfl rfl) rfl rfl rfl ?_
    refine WL.store (i := 2) (vs := [.int .i64 0, .int .i64 0, .string (⟨#[]⟩ : ByteArray)]) (C' := [.int .i64 0, .int .i64 0, .string (⟨#[]⟩ : ByteArray)]) rfl rfl rfl Sz_100 rfl rfl rfl rfl rfl rfl ⟨rfl, rfl, rfl, trivial⟩ rfl ?_
    refine WL.q (q_assign rfl) rfl rfl rfl ?_
    refine WL.nil ?_
    refine WT.ret Try.func59 (resOk.two (rv_cell Tn_100 rfl (fun w1 hw => hw.rgL (i := 2) rfl 0 3 [.int .i64 0, .int .i64 0, .string (⟨#[]⟩ : ByteArray)] rfl) rfl) rfl) (fun w1 hw => ?_)
    cases h
    exact post_of_St hw
  · replace h := ite_f h c1
    refine WT.seq ?_
    refine WT.region ?_
    refine WL.q (q_fieldAddr Fld_106_0 rfl) rfl rfl rfl ?_
    refine WL.q (q_load1 T1_9 rfl (fun w1 hw => hw.rgL (i := 3) rfl 0 1 [.string p0.Op] rfl)) rfl rfl rfl ?_
    refine WL.q (q_seq rfl rfl) rfl rfl rfl ?_
    refine WL.q (q_assign rfl) rfl rfl rfl ?_
    refine WL.nil ?_
    refine WT.cond rfl (fun c2 => ?_) (fun c2 => ?_)
    · replace h := ite_t h c2
      refine WT.seq ?_
      refine WT.region ?_
      refine WL.q (q_loadN Tn_100 rfl (fun w1 hw => hw.rgL (i := 1) rfl 0 3 [.int .i64 x1.1.K, .int .i64 x1.1.N, .string x1.1.S] rfl) rfl) rfl rfl rfl ?_
      refine WL.store (i := 2) (vs := [.int .i64 x1.1.K, .int .i64 x1.1.N, .string x1.1.S]) (C' := [.int .i64 x1.1.K, .int .i64 x1.1.N, .string x1.1.S]) rfl rfl rfl Sz_100 rfl rfl rfl rfl rfl rfl ⟨rfl, rfl, rfl, trivial⟩ rfl ?_
      refine WL.q (q_assign rfl) rfl rfl rfl ?_
      refine WL.nil ?_
      refine WT.ret Try.func59 (resOk.two (rv_cell Tn_100 rfl (fun w1 hw => hw.rgL (i := 2) rfl 0 3 [.int .i64 x1.1.K, .int .i64 x1.1.N, .string x1.1.S] rfl) rfl) rfl) (fun w1 hw => ?_)
      cases h
      exact post_of_St hw
    · replace h := ite_f h c2
      refine WT.seq ?_
      refine WT.region ?_
      refine WL.q (q_move rfl) rfl rfl rfl ?_
      refine WL.q (q_not rfl) rfl rfl rfl ?_
      refine WL.q (q_assign rfl) rfl rfl rfl ?_
      refine WL.nil ?_
      refine WT.cond rfl (fun c3 => ?_) (fun c3 => ?_)
      · replace h := ite_t h c3
        refine WT.seq ?_
        refine WT.region ?_
        refine WL.q (q_build (vs := []) (C := #[.int .i64 0, .int .i64 0, .string (⟨#[]⟩ : ByteArray)]) Pl_100 Zr_100 rfl rfl) rfl rfl rfl ?_
        refine WL.store (i := 2) (vs := [.int .i64 0, .int .i64 0, .string (⟨#[]⟩ : ByteArray)]) (C' := [.int .i64 0, .int .i64 0, .string (⟨#[]⟩ : ByteArray)]) rfl rfl rfl Sz_100 rfl rfl rfl rfl rfl rfl ⟨rfl, rfl, rfl, trivial⟩ rfl ?_
        refine WL.q (q_assign rfl) rfl rfl rfl ?_
        refine WL.nil ?_
        refine WT.ret Try.func59 (resOk.two (rv_cell Tn_100 rfl (fun w1 hw => hw.rgL (i := 2) rfl 0 3 [.int .i64 0, .int .i64 0, .string (⟨#[]⟩ : ByteArray)] rfl) rfl) rfl) (fun w1 hw => ?_)
        cases h
        exact post_of_St hw
      · replace h := ite_f h c3
        refine WT.seq ?_
        refine WT.region ?_
        refine WL.q (q_fieldAddr Fld_106_0 rfl) rfl rfl rfl ?_
        refine WL.q (q_load1 T1_9 rfl (fun w1 hw => hw.rgL (i := 3) rfl 0 1 [.string p0.Op] rfl)) rfl rfl rfl ?_
        refine WL.q (q_seq rfl rfl) rfl rfl rfl ?_
        refine WL.q (q_assign rfl) rfl rfl rfl ?_
        refine WL.nil ?_
        refine WT.cond rfl (fun c4 => ?_) (fun c4 => ?_)
        · replace h := ite_t h c4
          refine WT.seq ?_
          refine WT.region ?_
          refine WL.q (q_loadN Tn_100 rfl (fun w1 hw => hw.rgL (i := 1) rfl 0 3 [.int .i64 x1.1.K, .int .i64 x1.1.N, .string x1.1.S] rfl) rfl) rfl rfl rfl ?_
          refine WL.q (q_loadN Tn_100 rfl (fun w1 hw => hw.rgL (i := 0) rfl 0 3 [.int .i64 x2.1.K, .int .i64 x2.1.N, .string x2.1.S] rfl) rfl) rfl rfl rfl ?_
          obtain ⟨x3, hx3, h⟩ := bind_some h
          refine WL.call (c_pure Fun_106 rfl (fun w1 hw => m_s_AddVals_ok hw.fro N x1.1 x2.1 hx3)) rfl rfl rfl (fun _ => ?_)
          refine WL.q (q_extract rfl rfl) rfl rfl rfl ?_
          refine WL.q (q_extract rfl rfl) rfl rfl rfl ?_
          refine WL.store (i := 2) (vs := [.int .i64 x3.1.K, .int .i64 x3.1.N, .string x3.1.S]) (C' := [.int .i64 x3.1.K, .int .i64 x3.1.N, .string x3.1.S]) rfl rfl rfl Sz_100 rfl rfl rfl rfl rfl rfl ⟨rfl, rfl, rfl, trivial⟩ rfl ?_
          refine WL.q (q_assign rfl) rfl rfl rfl ?_
          refine WL.nil ?_
          refine WT.ret Try.func59 (resOk.two (rv_cell Tn_100 rfl (fun w1 hw => hw.rgL (i := 2) rfl 0 3 [.int .i64 x3.1.K, .int .i64 x3.1.N, .string x3.1.S] rfl) rfl) rfl) (fun w1 hw => ?_)
          cases h
          exact post_of_St hw
        · replace h := ite_f h c4
          refine WT.seq ?_
          refine WT.region ?_
          refine WL.q (q_fieldAddr Fld_106_0 rfl) rfl rfl rfl ?_
          refine WL.q (q_load1 T1_9 rfl (fun w1 hw => hw.rgL (i := 3) rfl 0 1 [.string p0.Op] rfl)) rfl rfl rfl ?_
          refine WL.q (q_seq rfl rfl) rfl rfl rfl ?_
          refine WL.q (q_assign rfl) rfl rfl rfl ?_
          refine WL.nil ?_
          refine WT.cond rfl (fun c5 => ?_) (fun c5 => ?_)
          · replace h := ite_t h c5
            refine WT.seq ?_
            refine WT.region ?_
            refine WL.q (q_loadN Tn_100 rfl (fun w1 hw => hw.rgL (i := 1) rfl 0 3 [.int .i64 x1.1.K, .int .i64 x1.1.N, .string x1.1.S] rfl) rfl) rfl rfl rfl ?_
            refine WL.q (q_loadN Tn_100 rfl (fun w1 hw => hw.rgL (i := 0) rfl 0 3 [.int .i64 x2.1.K, .int .i64 x2.1.N, .string x2.1.S] rfl) rfl) rfl rfl rfl ?_
            obtain ⟨x4, hx4, h⟩ := bind_some h
            refine WL.call (c_pure Fun_107 rfl (fun w1 hw => m_s_SubVals_ok hw.fro N x1.1 x2.1 hx4)) rfl rfl rfl (fun _ => ?_)
            refine WL.q (q_extract rfl rfl) rfl rfl rfl ?_
            refine WL.q (q_extract rfl rfl) rfl rfl rfl ?_
            refine WL.store (i := 2) (vs := [.int .i64 x4.1.K, .int .i64 x4.1.N, .string x4.1.S]) (C' := [.int .i64 x4.1.K, .int .i64 x4.1.N, .string x4.1.S]) rfl rfl rfl Sz_100 rfl rfl rfl rfl rfl rfl ⟨rfl, rfl, rfl, trivial⟩ rfl ?_
            refine WL.q (q_assign rfl) rfl rfl rfl ?_
            refine WL.nil ?_
            refine WT.ret Try.func59 (resOk.two (rv_cell Tn_100 rfl (fun w1 hw => hw.rgL (i := 2) rfl 0 3 [.int .i64 x4.1.K, .int .i64 x4.1.N, .string x4.1.S] rfl) rfl) rfl) (fun w1 hw => ?_)
            cases h
            exact post_of_St hw
          · replace h := ite_f h c5
            refine WT.skip ?_
            refine WT.inBlock ?_
            refine WT.seq ?_
            refine WT.region ?_
            refine WL.q (q_build (vs := []) (C := #[.int .i64 0, .int .i64 0, .string (⟨#[]⟩ : ByteArray)]) Pl_100 Zr_100 rfl rfl) rfl rfl rfl ?_
            refine WL.store (i := 2) (vs := [.int .i64 0, .int .i64 0, .string (⟨#[]⟩ : ByteArray)]) (C' := [.int .i64 0, .int .i64 0, .string (⟨#[]⟩ : ByteArray)]) rfl rfl rfl Sz_100 rfl rfl rfl rfl rfl rfl ⟨rfl, rfl, rfl, trivial⟩ rfl ?_
            refine WL.q (q_assign rfl) rfl rfl rfl ?_
            refine WL.nil ?_
            refine WT.ret Try.func59 (resOk.two (rv_cell Tn_100 rfl (fun w1 hw => hw.rgL (i := 2) rfl 0 3 [.int .i64 0, .int .i64 0, .string (⟨#[]⟩ : ByteArray)] rfl) rfl) rfl) (fun w1 hw => ?_)
            cases h
            exact post_of_St hw
theorem m_l_toArg_ok {Φ : Hp} {w : World} (hΦ : In Φ w) (N : Nat) (p0 : TArg)   {r : TArg} (h : m_l_toArg N p0 = some r) :
    Calls Try.prog 108 [.agg [.int .i64 p0.K, .string p0.S, .int .i64 p0.V.K, .int .i64 p0.V.N, .string p0.V.S].toArray].toArray w (Post (.agg [.int .i64 r.K, .string r.S, .int .i64 r.V.K, .int .i64 r.V.N, .string r.V.S].toArray) w) := by
  refine enter Try.func108 rfl Try.ntmps108 rfl (St.start hΦ) ?_
  unfold m_l_toArg at h
  refine WT.seq ?_
  refine WT.region ?_
  refine WL.box (C := #[.int .i64 p0.K, .string p0.S, .int .i64 p0.V.K, .int .i64 p0.V.N, .string p0.V.S]) rfl rfl rfl rfl rfl rfl (fun b_1 => ?_)
  refine WL.alloc (C := #[.int .i64 0, .string (⟨#[]⟩ : ByteArray), .int .i64 0, .int .i64 0, .string (⟨#[]⟩ : ByteArray)]) rfl rfl rfl rfl Zr_104 rfl (fun b_2 => ?_)
  refine WL.nil ?_
  refine WT.seq ?_
  refine WT.region ?_
  refine WL.alloc (C := #[.int .i64 0, .string (⟨#[]⟩ : ByteArray), .int .i64 0, .int .i64 0, .string (⟨#[]⟩ : ByteArray)]) rfl rfl rfl rfl Zr_104 rfl (fun b_3 => ?_)
  refine WL.nil ?_
  refine WT.seq ?_
  refine WT.region ?_
  refine WL.q (q_fieldAddr Fld_95_0 rfl) rfl rfl rfl ?_
  refine WL.q (q_load1 T1_3 rfl (fun w1 hw => hw.rgL (i := 2) rfl 0 1 [.int .i64 p0.K] rfl)) rfl rfl rfl ?_
  refine WL.q (q_fieldAddr Fld_104_0 rfl) rfl rfl rfl ?_
  refine WL.store (i := 0) (vs := [.int .i64 p0.K]) (C' := [.int .i64 p0.K, .string (⟨#[]⟩ : ByteArray), .int .i64 0, .int .i64 0, .string (⟨#[]⟩ : ByteArray)]) rfl rfl rfl Sz_3 rfl rfl rfl rfl rfl rfl ⟨rfl, trivial⟩ rfl ?_
  refine WL.nil ?_
  refine WT.seq ?_
  refine WT.region ?_
  refine WL.q (q_fieldAddr Fld_95_1 rfl) rfl rfl rfl ?_
  refine WL.q (q_load1 T1_9 rfl (fun w1 hw => hw.rgL (i := 2) rfl 1 1 [.string p0.S] rfl)) rfl rfl rfl ?_
  refine WL.q (q_fieldAddr Fld_104_1 rfl) rfl rfl rfl ?_
  refine WL.store (i := 0) (vs := [.string p0.S]) (C' := [.int .i64 p0.K, .string p0.S, .int .i64 0, .int .i64 0, .string (⟨#[]⟩ : ByteArray)]) rfl rfl rfl Sz_9 rfl rfl rfl rfl rfl rfl ⟨rfl, trivial⟩ rfl ?_
  refine WL.nil ?_
  refine WT.seq ?_
  refine WT.region ?_
  refine WL.q (q_fieldAddr Fld_95_2 rfl) rfl rfl rfl ?_
  refine WL.q (q_loadN Tn_93 rfl (fun w1 hw => hw.rgL (i := 2) rfl 2 3 [.int .i64 p0.V.K, .int .i64 p0.V.N, .string p0.V.S] rfl) rfl) rfl rfl rfl ?_
  obtain ⟨x1, hx1, h⟩ := bind_some h
  refine WL.call (c_pure Fun_123 rfl (fun w1 hw => m_l_toVal_ok hw.fro N p0.V hx1)) rfl rfl rfl (fun _ => ?_)
  refine WL.q (q_fieldAddr Fld_104_2 rfl) rfl rfl rfl ?_
  refine WL.store (i := 0) (vs := [.int .i64 x1.K, .int .i64 x1.N, .string x1.S]) (C' := [.int .i64 p0.K, .string p0.S, .int .i64 x1.K, .int .i64 x1.N, .string x1.S]) rfl rfl rfl Sz_100 rfl rfl rfl rfl rfl rfl ⟨rfl, rfl, rfl, trivial⟩ rfl ?_
  refine WL.nil ?_
  refine WT.seq ?_
  refine WT.region ?_
  refine WL.q (q_loadN Tn_104 rfl (fun w1 hw => hw.rgL (i := 0) rfl 0 5 [.int .i64 p0.K, .string p0.S, .int .i64 x1.K, .int .i64 x1.N, .string x1.S] rfl) rfl) rfl rfl rfl ?_
  refine WL.store (i := 1) (vs := [.int .i64 p0.K, .string p0.S, .int .i64 x1.K, .int .i64 x1.N, .string x1.S]) (C' := [.int .i64 p0.K, .string p0.S, .int .i64 x1.K, .int .i64 x1.N, .string x1.S]) rfl rfl rfl Sz_104 rfl rfl rfl rfl rfl rfl ⟨rfl, rfl, rfl, rfl, rfl, trivial⟩ rfl ?_
  refine WL.nil ?_
  refine WT.ret Try.func108 (resOk.one (rv_cell Tn_104 rfl (fun w1 hw => hw.rgL (i := 1) rfl 0 5 [.int .i64 p0.K, .string p0.S, .int .i64 x1.K, .int .i64 x1.N, .string x1.S] rfl) rfl)) (fun w1 hw => ?_)
  cases h
  exact post_of_St hw
theorem m_l_toExpr_ok {Φ : Hp} {w : World} (hΦ : In Φ w) (N : Nat) (p0 : TExpr)   {r : TExpr} (h : m_l_toExpr N p0 = some r) :
    Calls Try.prog 60 [.agg [.string p0.Op, .int .i64 p0.L.K, .string p0.L.S, .int .i64 p0.L.V.K, .int .i64 p0.L.V.N, .string p0.L.V.S, .int .i64 p0.R.K, .string p0.R.S, .int .i64 p0.R.V.K, .int .i64 p0.R.V.N, .string p0.R.V.S].toArray].toArray w (Post (.agg [.string r.Op, .int .i64 r.L.K, .string r.L.S, .int .i64 r.L.V.K, .int .i64 r.L.V.N, .string r.L.V.S, .int .i64 r.R.K, .string r.R.S, .int .i64 r.R.V.K, .int .i64 r.R.V.N, .string r.R.V.S].toArray) w) := by
  refine enter Try.func60 rfl Try.ntmps60 rfl (St.start hΦ) ?_
  unfold m_l_toExpr at h
  refine WT.seq ?_
  refine WT.region ?_
  refine WL.box (C := #[.string p0.Op, .int .i64 p0.L.K, .string p0.L.S, .int .i64 p0.L.V.K, .int .i64 p0.L.V.N, .string p0.L.V.S, .int .i64 p0.R.K, .string p0.R.S, .int .i64 p0.R.V.K, .int .i64 p0.R.V.N, .string p0.R.V.S]) rfl rfl rfl rfl rfl rfl (fun b_1 => ?_)
  refine WL.alloc (C := #[.string (⟨#[]⟩ : ByteArray), .int .i64 0, .string (⟨#[]⟩ : ByteArray), .int .i64 0, .int .i64 0, .string (⟨#[]⟩ : ByteArray), .int .i64 0, .string (⟨#[]⟩ : ByteArray), .int .i64 0, .int .i64 0, .string (⟨#[]⟩ : ByteArray)]) rfl rfl rfl rfl Zr_106 rfl (fun b_2 => ?_)
  refine WL.nil ?_
  refine WT.seq ?_
  refine WT.region ?_
  refine WL.alloc (C := #[.string (⟨#[]⟩ : ByteArray), .int .i64 0, .string (⟨#[]⟩ : ByteArray), .int .i64 0, .int .i64 0, .string (⟨#[]⟩ : ByteArray), .int .i64 0, .string (⟨#[]⟩ : ByteArray), .int .i64 0, .int .i64 0, .string (⟨#[]⟩ : ByteArray)]) rfl rfl rfl rfl Zr_106 rfl (fun b_3 => ?_)
  refine WL.nil ?_
  refine WT.seq ?_
  refine WT.region ?_
  refine WL.q (q_fieldAddr Fld_97_0 rfl) rfl rfl rfl ?_
  refine WL.q (q_load1 T1_9 rfl (fun w1 hw => hw.rgL (i := 2) rfl 0 1 [.string p0.Op] rfl)) rfl rfl rfl ?_
  refine WL.q (q_fieldAddr Fld_106_0 rfl) rfl rfl rfl ?_
  refine WL.store (i := 0) (vs := [.string p0.Op]) (C' := [.string p0.Op, .int .i64 0, .string (⟨#[]⟩ : ByteArray), .int .i64 0, .int .i64 0, .string (⟨#[]⟩ : ByteArray), .int .i64 0, .string (⟨#[]⟩ : ByteArray), .int .i64 0, .int .i64 0, .string (⟨#[]⟩ : ByteArray)]) rfl rfl rfl Sz_9 rfl rfl rfl rfl rfl rfl ⟨rfl, trivial⟩ rfl ?_
  refine WL.nil ?_
  refine WT.seq ?_
  refine WT.region ?_
  refine WL.q (q_fieldAddr Fld_97_1 rfl) rfl rfl rfl ?_
  refine WL.q (q_loadN Tn_95 rfl (fun w1 hw => hw.rgL (i := 2) rfl 1 5 [.int .i64 p0.L.K, .string p0.L.S, .int .i64 p0.L.V.K, .int .i64 p0.L.V.N, .string p0.L.V.S] rfl) rfl) rfl rfl rfl ?_
  obtain ⟨x1, hx1, h⟩ := bind_some h
  refine WL.call (c_pure Fun_108 rfl (fun w1 hw => m_l_toArg_ok hw.fro N p0.L hx1)) rfl rfl rfl (fun _ => ?_)
  refine WL.q (q_fieldAddr Fld_106_1 rfl) rfl rfl rfl ?_
  refine WL.store (i := 0) (vs := [.int .i64 x1.K, .string x1.S, .int .i64 x1.V.K, .int .i64 x1.V.N, .string x1.V.S]) (C' := [.string p0.Op, .int .i64 x1.K, .string x1.S, .int .i64 x1.V.K, .int .i64 x1.V.N, .string x1.V.S, .int .i64 0, .string (⟨#[]⟩ : ByteArray), .int .i64 0, .int .i64 0, .string (⟨#[]⟩ : ByteArray)]) rfl rfl rfl Sz_104 rfl rfl rfl rfl rfl rfl ⟨rfl, rfl, rfl, rfl, rfl, trivial⟩ rfl ?_
  refine WL.nil ?_
  refine WT.seq ?_
  refine WT.region ?_
  refine WL.q (q_fieldAddr Fld_97_2 rfl) rfl rfl rfl ?_
  refine WL.q (q_loadN Tn_95 rfl (fun w1 hw => hw.rgL (i := 2) rfl 6 5 [.int .i64 p0.R.K, .string p0.R.S, .int .i64 p0.R.V.K, .int .i64 p0.R.V.N, .string p0.R.V.S] rfl) rfl) rfl rfl rfl ?_
  obtain ⟨x2, hx2, h⟩ := bind_some h
  refine WL.call (c_pure Fun_108 rfl (fun w1 hw => m_l_toArg_ok hw.fro N p0.R hx2)) rfl rfl rfl (fun _ => ?_)
  refine WL.q (q_fieldAddr Fld_106_2 rfl) rfl rfl rfl ?_
  refine WL.store (i := 0) (vs := [.int .i64 x2.K, .string x2.S, .int .i64 x2.V.K, .int .i64 x2.V.N, .string x2.V.S]) (C' := [.string p0.Op, .int .i64 x1.K, .string x1.S, .int .i64 x1.V.K, .int .i64 x1.V.N, .string x1.V.S, .int .i64 x2.K, .string x2.S, .int .i64 x2.V.K, .int .i64 x2.V.N, .string x2.V.S]) rfl rfl rfl Sz_104 rfl rfl rfl rfl rfl rfl ⟨rfl, rfl, rfl, rfl, rfl, trivial⟩ rfl ?_
  refine WL.nil ?_
  refine WT.seq ?_
  refine WT.region ?_
  refine WL.q (q_loadN Tn_106 rfl (fun w1 hw => hw.rgL (i := 0) rfl 0 11 [.string p0.Op, .int .i64 x1.K, .string x1.S, .int .i64 x1.V.K, .int .i64 x1.V.N, .string x1.V.S, .int .i64 x2.K, .string x2.S, .int .i64 x2.V.K, .int .i64 x2.V.N, .string x2.V.S] rfl) rfl) rfl rfl rfl ?_
  refine WL.store (i := 1) (vs := [.string p0.Op, .int .i64 x1.K, .string x1.S, .int .i64 x1.V.K, .int .i64 x1.V.N, .string x1.V.S, .int .i64 x2.K, .string x2.S, .int .i64 x2.V.K, .int .i64 x2.V.N, .string x2.V.S]) (C' := [.string p0.Op, .int .i64 x1.K, .string x1.S, .int .i64 x1.V.K, .int .i64 x1.V.N, .string x1.V.S, .int .i64 x2.K, .string x2.S, .int .i64 x2.V.K, .int .i64 x2.V.N, .string x2.V.S]) rfl rfl rfl Sz_106 rfl rfl rfl rfl rfl rfl ⟨rfl, rfl, rfl, rfl, rfl, rfl, rfl, rfl, rfl, rfl, rfl, trivial⟩ rfl ?_
  refine WL.nil ?_
  refine WT.ret Try.func60 (resOk.one (rv_cell Tn_106 rfl (fun w1 hw => hw.rgL (i := 1) rfl 0 11 [.string p0.Op, .int .i64 x1.K, .string x1.S, .int .i64 x1.V.K, .int .i64 x1.V.N, .string x1.V.S, .int .i64 x2.K, .string x2.S, .int .i64 x2.V.K, .int .i64 x2.V.N, .string x2.V.S] rfl) rfl)) (fun w1 hw => ?_)
  cases h
  exact post_of_St hw
theorem m_l_toBind_ok {Φ : Hp} {w : World} (hΦ : In Φ w) (N : Nat) (p0 : TBind)   {r : TBind} (h : m_l_toBind N p0 = some r) :
    Calls Try.prog 109 [.agg [.string p0.Name, .int .i64 p0.V.K, .int .i64 p0.V.N, .string p0.V.S].toArray].toArray w (Post (.agg [.string r.Name, .int .i64 r.V.K, .int .i64 r.V.N, .string r.V.S].toArray) w) := by
  refine enter Try.func109 rfl Try.ntmps109 rfl (St.start hΦ) ?_
  unfold m_l_toBind at h
  refine WT.seq ?_
  refine WT.region ?_
  refine WL.box (C := #[.string p0.Name, .int .i64 p0.V.K, .int .i64 p0.V.N, .string p0.V.S]) rfl rfl rfl rfl rfl rfl (fun b_1 => ?_)
  refine WL.alloc (C := #[.string (⟨#[]⟩ : ByteArray), .int .i64 0, .int .i64 0, .string (⟨#[]⟩ : ByteArray)]) rfl rfl rfl rfl Zr_130 rfl (fun b_2 => ?_)
  refine WL.nil ?_
  refine WT.seq ?_
  refine WT.region ?_
  refine WL.alloc (C := #[.string (⟨#[]⟩ : ByteArray), .int .i64 0, .int .i64 0, .string (⟨#[]⟩ : ByteArray)]) rfl rfl rfl rfl Zr_130 rfl (fun b_3 => ?_)
  refine WL.nil ?_
  refine WT.seq ?_
  refine WT.region ?_
  refine WL.q (q_fieldAddr Fld_142_0 rfl) rfl rfl rfl ?_
  refine WL.q (q_load1 T1_9 rfl (fun w1 hw => hw.rgL (i := 2) rfl 0 1 [.string p0.Name] rfl)) rfl rfl rfl ?_
  refine WL.q (q_fieldAddr Fld_130_0 rfl) rfl rfl rfl ?_
  refine WL.store (i := 0) (vs := [.string p0.Name]) (C' := [.string p0.Name, .int .i64 0, .int .i64 0, .string (⟨#[]⟩ : ByteArray)]) rfl rfl rfl Sz_9 rfl rfl rfl rfl rfl rfl ⟨rfl, trivial⟩ rfl ?_
  refine WL.nil ?_
  refine WT.seq ?_
  refine WT.region ?_
  refine WL.q (q_fieldAddr Fld_142_1 rfl) rfl rfl rfl ?_
  refine WL.q (q_loadN Tn_93 rfl (fun w1 hw => hw.rgL (i := 2) rfl 1 3 [.int .i64 p0.V.K, .int .i64 p0.V.N, .string p0.V.S] rfl) rfl) rfl rfl rfl ?_
  obtain ⟨x1, hx1, h⟩ := bind_some h
  refine WL.call (c_pure Fun_123 rfl (fun w1 hw => m_l_toVal_ok hw.fro N p0.V hx1)) rfl rfl rfl (fun _ => ?_)
  refine WL.q (q_fieldAddr Fld_130_1 rfl) rfl rfl rfl ?_
  refine WL.store (i := 0) (vs := [.int .i64 x1.K, .int .i64 x1.N, .string x1.S]) (C' := [.string p0.Name, .int .i64 x1.K, .int .i64 x1.N, .string x1.S]) rfl rfl rfl Sz_100 rfl rfl rfl rfl rfl rfl ⟨rfl, rfl, rfl, trivial⟩ rfl ?_
  refine WL.nil ?_
  refine WT.seq ?_
  refine WT.region ?_
  refine WL.q (q_loadN Tn_130 rfl (fun w1 hw => hw.rgL (i := 0) rfl 0 4 [.string p0.Name, .int .i64 x1.K, .int .i64 x1.N, .string x1.S] rfl) rfl) rfl rfl rfl ?_
  refine WL.store (i := 1) (vs := [.string p0.Name, .int .i64 x1.K, .int .i64 x1.N, .string x1.S]) (C' := [.string p0.Name, .int .i64 x1.K, .int .i64 x1.N, .string x1.S]) rfl rfl rfl Sz_130 rfl rfl rfl rfl rfl rfl ⟨rfl, rfl, rfl, rfl, trivial⟩ rfl ?_
  refine WL.nil ?_
  refine WT.ret Try.func109 (resOk.one (rv_cell Tn_130 rfl (fun w1 hw => hw.rgL (i := 1) rfl 0 4 [.string p0.Name, .int .i64 x1.K, .int .i64 x1.N, .string x1.S] rfl) rfl)) (fun w1 hw => ?_)
  cases h
  exact post_of_St hw
theorem m_l_toBindS_ok {Φ : Hp} {w : World} (hΦ : In Φ w) (N : Nat) (p0 : (List TBind)) {pv0 : Value} {pG0 : List Nat} (ph0 : RSl RTBind 4 Φ pG0 pv0 p0) {r : (List TBind)} (h : m_l_toBindS N p0 = some r) :
    Calls Try.prog 61 [pv0].toArray w (PostL Φ w (fun Φ' F v => ∃ (s0 : Value) (F0 : List Nat), v = s0 ∧ F = F0 ∧ RSl RTBind 4 Φ' F0 s0 r)) := by
  refine enter Try.func61 rfl Try.ntmps61 rfl (St.start hΦ) ?_
  unfold m_l_toBindS at h
  have hle := Hle.refl Φ
  have hold : ∀ x, x < w.heap.size → Φ x = Φ x := fun _ _ => rfl
  refine WT.seq ?_
  refine WT.region ?_
  refine WL.q (q_assign rfl) rfl rfl rfl ?_
  refine WL.nil ?_
  refine WT.seq ?_
  refine WT.region ?_
  refine WL.q (q_move rfl) rfl rfl rfl ?_
  refine WL.q (q_lenR Sl_49 rfl rfl ph0) rfl rfl rfl ?_
  obtain ⟨x1, hx1, h⟩ := bind_some h
  refine WL.make (R := RTBind) rfl rfl rfl rfl Sl_30 Zr_130 By_130 rfl rfl rfl ⟨rfl, rfl⟩ rfl rfl hx1 (fun b_1 cl1 fs1 k1 q1 => ?_)
  refine WL.q (q_assign rfl) rfl rfl rfl ?_
  refine WL.nil ?_
  refine WT.seq ?_
  refine WT.seq ?_
  refine WT.region ?_
  refine WL.q (q_assign rfl) rfl rfl rfl ?_
  refine WL.nil ?_
  refine WT.block ?_
  refine WT.loop ?_
  refine WT.keep [(0, pv0), (2, .slice none 0 0), (3, (.slice (some ⟨b_1, 0, none⟩) x1.length x1.length)), (4, .int .i64 0)] ⟨rfl, rfl, rfl, rfl, trivial⟩ ?_
  refine loop_ind (σ := Int × (List TBind) × Value × List Value × List (List Nat)) (fun s => [(0, pv0), (2, .slice none 0 0), (3, s.2.2.1), (4, .int .i64 s.1)]) (fun s => St w Φ [Ent.row 130 4 s.2.2.1 s.2.1.length s.2.2.2.1]) (fun m s => m_l_toBindS_l1 N p0 m s.1 s.2.1 = some r ∧ RC RTBind 4 Φ s.2.2.2.2 s.2.2.2.1 s.2.1 ∧ SP s.2.2.2.2.flatten []) (fun s hm => none_ne (show (none : Option ((List TBind))) = some r from hm.1)) (fun k ih s hm => ?_) N (0, x1, (.slice (some ⟨b_1, 0, none⟩) x1.length x1.length), cl1, fs1) ⟨h, k1, q1⟩
  obtain ⟨s1, s2, u1, cl2, fs2⟩ := s
  obtain ⟨h, k2, q2⟩ := hm
  replace h : m_l_toBindS_l1 N p0 (k + 1) s1 s2 = some r := h
  replace k2 : RC RTBind 4 Φ fs2 cl2 s2 := k2
  replace q2 : SP fs2.flatten [] := q2
  show WT _ _ [(0, pv0), (2, .slice none 0 0), (3, u1), (4, .int .i64 s1)] (St w Φ [Ent.row 130 4 u1 s2.length cl2])
  unfold m_l_toBindS_l1 at h
  refine WT.seq ?_
  refine WT.seq ?_
  refine WT.region ?_
  refine WL.q (q_move rfl) rfl rfl rfl ?_
  refine WL.q (q_move rfl) rfl rfl rfl ?_
  refine WL.q (q_lenR Sl_49 rfl rfl ph0) rfl rfl rfl ?_
  refine WL.q (q_lss rfl rfl) rfl rfl rfl ?_
  refine WL.nil ?_
  refine WT.cond rfl (fun c1 => ?_) (fun c1 => ?_)
  · replace h := ite_t h c1
    refine WT.skip ?_
    refine WT.seq ?_
    refine WT.block ?_
    refine WT.region ?_
    refine WL.q (q_move rfl) rfl rfl rfl ?_
    refine WL.q (q_move rfl) rfl rfl rfl ?_
    refine WL.q (q_move rfl) rfl rfl rfl ?_
    refine WL.q (q_move rfl) rfl rfl rfl ?_
    obtain ⟨x2, hx2, h⟩ := bind_some h
    obtain ⟨cs1, F1, -, g1, r1⟩ := ph0.el (idx_some hx2).2.2
    obtain ⟨rfl, -⟩ := r1
    refine WL.q (q_indexAddr Sl_49 rfl rfl ph0 hx2) rfl rfl rfl ?_
    refine WL.q (q_loadN Tn_142 rfl (fun w1 hw => (g1.of_eq 0 4 rfl rfl : rg _ _ _ [.string x2.Name, .int .i64 x2.V.K, .int .i64 x2.V.N, .string x2.V.S]).rangeAt hw.fro) rfl) rfl rfl rfl ?_
    obtain ⟨x3, hx3, h⟩ := bind_some h
    refine WL.call (c_pure Fun_109 rfl (fun w1 hw => m_l_toBind_ok hw.fro N x2 hx3)) rfl rfl rfl (fun _ => ?_)
    obtain ⟨x4, hx4, h⟩ := bind_some h
    refine WL.q (q_indexAddrRow Sl_30 rfl rfl (j := 0) rfl hx4) rfl rfl rfl ?_
    refine WL.storeRow (j := 0) (cs := [.string x3.Name, .int .i64 x3.V.K, .int .i64 x3.V.N, .string x3.V.S]) (x' := x3) (F := []) rfl rfl rfl Sz_130 rfl rfl rfl (idx_lt hx4) rfl rfl ⟨rfl, rfl, rfl, rfl, trivial⟩ k2 ⟨rfl, rfl⟩ (fun cl3 k3 => ?_)
    have q3 : SP ((fs2.set s1.toNat [])).flatten [] := by simpa using SP.set (F := []) q2 (s1.toNat)
    refine WL.nil ?_
    refine WT.inBlock ?_
    refine WT.region ?_
    refine WL.q (q_move rfl) rfl rfl rfl ?_
    refine WL.q (q_add rfl rfl) rfl rfl rfl ?_
    refine WL.q (q_assign rfl) rfl rfl rfl ?_
    refine WL.nil ?_
    refine WT.inLoop (WT.mono (l' := [(0, pv0), (2, .slice none 0 0), (3, u1), (4, .int .i64 (IntKind.i64.wrap (s1 + 1)))]) (S' := St w Φ [Ent.row 130 4 u1 (s2.set s1.toNat x3).length cl3]) ⟨rfl, rfl, rfl, rfl, trivial⟩ (fun w1 hw => hw.drop 0) ?_)
    exact ih (IntKind.i64.wrap (s1 + 1), (s2.set s1.toNat x3), u1, cl3, (fs2.set s1.toNat [])) ⟨h, k3, q3⟩
  · replace h := ite_f h c1
    refine WT.exit rfl ?_
    refine WT.seq ?_
    refine WT.region ?_
    refine WL.q (q_move rfl) rfl rfl rfl ?_
    refine WL.q (q_assign rfl) rfl rfl rfl ?_
    refine WL.nil ?_
    refine WT.ret Try.func61 (resOk.one rfl) (fun w1 hw => ?_)
    cases h
    obtain ⟨Φ_1, le1, ho1, hw, k4⟩ := hw.freezeRow RTBind.mono (i := 0) rfl k2
    replace ph0 := RSl.mono RTBind.mono le1 ph0
    replace k2 := RC.mono RTBind.mono le1 k2
    replace hle := hle.trans le1
    replace hold : ∀ x, x < w.heap.size → Φ_1 x = Φ x := fun x hx => (ho1 x hx).trans (hold x hx)
    replace hw := hw.front (i := 0) rfl
    replace hw : St w Φ_1 [Ent.dat u1.ownBlock.toList] w1 := hw
    refine postL_of_St (F := (u1.ownBlock.toList ++ fs2.flatten)) hw hle hold ?_ ⟨u1, (u1.ownBlock.toList ++ fs2.flatten), rfl, rfl, k4⟩
    have hfin := ((SP.append (SP.refl u1.ownBlock.toList) q2)).trans (SP.left _ (blksOf []))
    simpa only [blksOf, List.flatMap_cons, Ent.dat, List.append_assoc, List.nil_append, List.append_nil] using hfin
theorem m_i_BindOf_ok {Φ : Hp} {w : World} (hΦ : In Φ w) (N : Nat) (p0 : (List TBind)) (p1 : ByteArray) {pv0 : Value} {pG0 : List Nat} (ph0 : RSl RTBind 4 Φ pG0 pv0 p0) {r : TVal × Bool} (h : m_i_BindOf N p0 p1 = some r) :
    Calls Try.prog 132 [pv0, .string p1].toArray w (Post (.tuple #[.agg [.int .i64 r.1.K, .int .i64 r.1.N, .string r.1.S].toArray, .bool r.2]) w) := by
  refine enter Try.func132 rfl Try.ntmps132 rfl (St.start hΦ) ?_
  unfold m_i_BindOf at h
  refine WT.seq ?_
  refine WT.region ?_
  refine WL.alloc (C := #[.int .i64 0, .int .i64 0, .string (⟨#[]⟩ : ByteArray)]) rfl rfl rfl rfl Zr_100 rfl (fun b_1 => ?_)
  refine WL.q (q_assign rfl) rfl rfl rfl ?_
  refine WL.nil ?_
  refine WT.seq ?_
  refine WT.seq ?_
  refine WT.region ?_
  refine WL.q (q_move rfl) rfl rfl rfl ?_
  refine WL.q (q_lenR Sl_30 rfl rfl ph0) rfl rfl rfl ?_
  refine WL.q (q_move rfl) rfl rfl rfl ?_
  refine WL.nil ?_
  refine WT.block ?_
  refine WT.loop ?_
  refine WT.keep [(1, .string p1), (4, .pointer (some ⟨b_1, 0, none⟩)), (5, .bool false), (8, pv0), (9, .int .i64 (p0.length : Int)), (10, .int .i64 0)] ⟨rfl, rfl, rfl, rfl, rfl, rfl, trivial⟩ ?_
  refine loop_ind (σ := Int) (fun s => [(1, .string p1), (4, .pointer (some ⟨b_1, 0, none⟩)), (5, .bool false), (8, pv0), (9, .int .i64 (p0.length : Int)), (10, .int .i64 s)]) (fun s => St w Φ [Ent.obj b_1 (.cells #[.int .i64 0, .int .i64 0, .string (⟨#[]⟩ : ByteArray)] 100 (0, 0))]) (fun m s => m_i_BindOf_l1 N p0 p1 m s = some r) (fun s hm => none_ne (show (none : Option (TVal × Bool)) = some r from hm)) (fun k ih s hm => ?_) N (0) h
  revert hm; revert s; intro s1 hm
  have h : m_i_BindOf_l1 N p0 p1 (k + 1) s1 = some r := hm
  show WT _ _ [(1, .string p1), (4, .pointer (some ⟨b_1, 0, none⟩)), (5, .bool false), (8, pv0), (9, .int .i64 (p0.length : Int)), (10, .int .i64 s1)] (St w Φ [Ent.obj b_1 (.cells #[.int .i64 0, .int .i64 0, .string (⟨#[]⟩ : ByteArray)] 100 (0, 0))])
  unfold m_i_BindOf_l1 at h
  refine WT.seq ?_
  refine WT.region ?_
  refine WL.q (q_lss rfl rfl) rfl rfl rfl ?_
  refine WL.nil ?_
  refine WT.seq ?_
  refine WT.cond rfl (fun c1 => ?_) (fun c1 => ?_)
  · replace h := ite_t h c1
    refine WT.skip ?_
    refine WT.seq ?_
    refine WT.block ?_
    refine WT.seq ?_
    refine WT.region ?_
    obtain ⟨x1, hx1, h⟩ := bind_some h
    obtain ⟨cs1, F1, -, g1, r1⟩ := ph0.el (idx_some hx1).2.2
    obtain ⟨rfl, -⟩ := r1
    refine WL.q (q_indexAddr Sl_30 rfl rfl ph0 hx1) rfl rfl rfl ?_
    refine WL.q (q_loadN Tn_130 rfl (fun w1 hw => (g1.of_eq 0 4 rfl rfl : rg _ _ _ [.string x1.Name, .int .i64 x1.V.K, .int .i64 x1.V.N, .string x1.V.S]).rangeAt hw.fro) rfl) rfl rfl rfl ?_
    refine WL.alloc (C := #[.string (⟨#[]⟩ : ByteArray), .int .i64 0, .int .i64 0, .string (⟨#[]⟩ : ByteArray)]) rfl rfl rfl rfl Zr_130 rfl (fun b_2 => ?_)
    refine WL.store (i := 0) (vs := [.string x1.Name, .int .i64 x1.V.K, .int .i64 x1.V.N, .string x1.V.S]) (C' := [.string x1.Name, .int .i64 x1.V.K, .int .i64 x1.V.N, .string x1.V.S]) rfl rfl rfl Sz_130 rfl rfl rfl rfl rfl rfl ⟨rfl, rfl, rfl, rfl, trivial⟩ rfl ?_
    refine WL.nil ?_
    refine WT.seq ?_
    refine WT.region ?_
    refine WL.q (q_fieldAddr Fld_130_0 rfl) rfl rfl rfl ?_
    refine WL.q (q_load1 T1_9 rfl (fun w1 hw => hw.rgL (i := 0) rfl 0 1 [.string x1.Name] rfl)) rfl rfl rfl ?_
    refine WL.q (q_move rfl) rfl rfl rfl ?_
    refine WL.q (q_seq rfl rfl) rfl rfl rfl ?_
    refine WL.nil ?_
    refine WT.cond rfl (fun c2 => ?_) (fun c2 => ?_)
    · replace h := ite_t h c2
      refine WT.seq ?_
      refine WT.region ?_
      refine WL.q (q_fieldAddr Fld_130_1 rfl) rfl rfl rfl ?_
      refine WL.q (q_loadN Tn_100 rfl (fun w1 hw => hw.rgL (i := 0) rfl 1 3 [.int .i64 x1.V.K, .int .i64 x1.V.N, .string x1.V.S] rfl) rfl) rfl rfl rfl ?_
      refine WL.store (i := 1) (vs := [.int .i64 x1.V.K, .int .i64 x1.V.N, .string x1.V.S]) (C' := [.int .i64 x1.V.K, .int .i64 x1.V.N, .string x1.V.S]) rfl rfl rfl Sz_100 rfl rfl rfl rfl rfl rfl ⟨rfl, rfl, rfl, trivial⟩ rfl ?_
      refine WL.q (q_assign rfl) rfl rfl rfl ?_
      refine WL.nil ?_
      refine WT.ret Try.func132 (resOk.two (rv_cell Tn_100 rfl (fun w1 hw => hw.rgL (i := 1) rfl 0 3 [.int .i64 x1.V.K, .int .i64 x1.V.N, .string x1.V.S] rfl) rfl) rfl) (fun w1 hw => ?_)
      cases h
      exact post_of_St hw
    · replace h := ite_f h c2
      refine WT.skip ?_
      refine WT.inBlock ?_
      refine WT.region ?_
      refine WL.q (q_add rfl rfl) rfl rfl rfl ?_
      refine WL.q (q_move rfl) rfl rfl rfl ?_
      refine WL.nil ?_
      refine WT.inLoop (WT.mono (l' := [(1, .string p1), (4, .pointer (some ⟨b_1, 0, none⟩)), (5, .bool false), (8, pv0), (9, .int .i64 (p0.length : Int)), (10, .int .i64 (IntKind.i64.wrap (s1 + 1)))]) (S' := St w Φ [Ent.obj b_1 (.cells #[.int .i64 0, .int .i64 0, .string (⟨#[]⟩ : ByteArray)] 100 (0, 0))]) ⟨rfl, rfl, rfl, rfl, rfl, rfl, trivial⟩ (fun w1 hw => hw.drop 1) ?_)
      exact ih (IntKind.i64.wrap (s1 + 1)) h
  · replace h := ite_f h c1
    refine WT.exit rfl ?_
    refine WT.seq ?_
    refine WT.region ?_
    refine WL.q (q_build (vs := []) (C := #[.int .i64 0, .int .i64 0, .string (⟨#[]⟩ : ByteArray)]) Pl_100 Zr_100 rfl rfl) rfl rfl rfl ?_
    refine WL.store (i := 0) (vs := [.int .i64 0, .int .i64 0, .string (⟨#[]⟩ : ByteArray)]) (C' := [.int .i64 0, .int .i64 0, .string (⟨#[]⟩ : ByteArray)]) rfl rfl rfl Sz_100 rfl rfl rfl rfl rfl rfl ⟨rfl, rfl, rfl, trivial⟩ rfl ?_
    refine WL.q (q_assign rfl) rfl rfl rfl ?_
    refine WL.nil ?_
    refine WT.ret Try.func132 (resOk.two (rv_cell Tn_100 rfl (fun w1 hw => hw.rgL (i := 0) rfl 0 3 [.int .i64 0, .int .i64 0, .string (⟨#[]⟩ : ByteArray)] rfl) rfl) rfl) (fun w1 hw => ?_)
    cases h
    exact post_of_St hw
theorem m_i_ArgVal_ok {Φ : Hp} {w : World} (hΦ : In Φ w) (N : Nat) (p0 : TArg) (p1 : (List TBind)) {pv1 : Value} {pG1 : List Nat} (ph1 : RSl RTBind 4 Φ pG1 pv1 p1) {r : TVal × Bool} (h : m_i_ArgVal N p0 p1 = some r) :
    Calls Try.prog 110 [.agg [.int .i64 p0.K, .string p0.S, .int .i64 p0.V.K, .int .i64 p0.V.N, .string p0.V.S].toArray, pv1].toArray w (Post (.tuple #[.agg [.int .i64 r.1.K, .int .i64 r.1.N, .string r.1.S].toArray, .bool r.2]) w) := by
  refine enter Try.func110 rfl Try.ntmps110 rfl (St.start hΦ) ?_
  unfold m_i_ArgVal at h
  refine WT.seq ?_
  refine WT.region ?_
  refine WL.box (C := #[.int .i64 p0.K, .string p0.S, .int .i64 p0.V.K, .int .i64 p0.V.N, .string p0.V.S]) rfl rfl rfl rfl rfl rfl (fun b_1 => ?_)
  refine WL.alloc (C := #[.int .i64 0, .int .i64 0, .string (⟨#[]⟩ : ByteArray)]) rfl rfl rfl rfl Zr_100 rfl (fun b_2 => ?_)
  refine WL.q (q_assign rfl) rfl rfl rfl ?_
  refine WL.nil ?_
  refine WT.seq ?_
  refine WT.seq ?_
  refine WT.region ?_
  refine WL.q (q_fieldAddr Fld_104_0 rfl) rfl rfl rfl ?_
  refine WL.q (q_load1 T1_3 rfl (fun w1 hw => hw.rgL (i := 1) rfl 0 1 [.int .i64 p0.K] rfl)) rfl rfl rfl ?_
  refine WL.nil ?_
  refine WT.block ?_
  refine WT.seq ?_
  refine WT.region ?_
  refine WL.q (q_eql rfl rfl) rfl rfl rfl ?_
  refine WL.q (q_assign rfl) rfl rfl rfl ?_
  refine WL.nil ?_
  refine WT.cond rfl (fun c1 => ?_) (fun c1 => ?_)
  · replace h := ite_t h c1
    refine WT.seq ?_
    refine WT.region ?_
    refine WL.q (q_fieldAddr Fld_104_2 rfl) rfl rfl rfl ?_
    refine WL.q (q_loadN Tn_100 rfl (fun w1 hw => hw.rgL (i := 1) rfl 2 3 [.int .i64 p0.V.K, .int .i64 p0.V.N, .string p0.V.S] rfl) rfl) rfl rfl rfl ?_
    refine WL.store (i := 0) (vs := [.int .i64 p0.V.K, .int .i64 p0.V.N, .string p0.V.S]) (C' := [.int .i64 p0.V.K, .int .i64 p0.V.N, .string p0.V.S]) rfl rfl rfl Sz_100 rfl rfl rfl rfl rfl rfl ⟨rfl, rfl, rfl, trivial⟩ rfl ?_
    refine WL.q (q_assign rfl) rfl rfl rfl ?_
    refine WL.nil ?_
    refine WT.ret Try.func110 (resOk.two (rv_cell Tn_100 rfl (fun w1 hw => hw.rgL (i := 0) rfl 0 3 [.int .i64 p0.V.K, .int .i64 p0.V.N, .string p0.V.S] rfl) rfl) rfl) (fun w1 hw => ?_)
    cases h
    exact post_of_St hw
  · replace h := ite_f h c1
    refine WT.seq ?_
    refine WT.region ?_
    refine WL.q (q_eql rfl rfl) rfl rfl rfl ?_
    refine WL.q (q_assign rfl) rfl rfl rfl ?_
    refine WL.nil ?_
    refine WT.cond rfl (fun c2 => ?_) (fun c2 => ?_)
    · replace h := ite_t h c2
      refine WT.seq ?_
      refine WT.region ?_
      refine WL.q (q_move rfl) rfl rfl rfl ?_
      refine WL.q (q_fieldAddr Fld_104_1 rfl) rfl rfl rfl ?_
      refine WL.q (q_load1 T1_9 rfl (fun w1 hw => hw.rgL (i := 1) rfl 1 1 [.string p0.S] rfl)) rfl rfl rfl ?_
      obtain ⟨x1, hx1, h⟩ := bind_some h
      refine WL.call (c_pure Fun_132 rfl (fun w1 hw => m_i_BindOf_ok hw.fro N p1 p0.S ph1 hx1)) rfl rfl rfl (fun _ => ?_)
      refine WL.q (q_extract rfl rfl) rfl rfl rfl ?_
      refine WL.q (q_extract rfl rfl) rfl rfl rfl ?_
      refine WL.store (i := 0) (vs := [.int .i64 x1.1.K, .int .i64 x1.1.N, .string x1.1.S]) (C' := [.int .i64 x1.1.K, .int .i64 x1.1.N, .string x1.1.S]) rfl rfl rfl Sz_100 rfl rfl rfl rfl rfl rfl ⟨rfl, rfl, rfl, trivial⟩ rfl ?_
      refine WL.q (q_assign rfl) rfl rfl rfl ?_
      refine WL.nil ?_
      refine WT.ret Try.func110 (resOk.two (rv_cell Tn_100 rfl (fun w1 hw => hw.rgL (i := 0) rfl 0 3 [.int .i64 x1.1.K, .int .i64 x1.1.N, .string x1.1.S] rfl) rfl) rfl) (fun w1 hw => ?_)
      cases h
      exact post_of_St hw
    · replace h := ite_f h c2
      refine WT.skip ?_
      refine WT.inBlock ?_
      refine WT.seq ?_
      refine WT.region ?_
      refine WL.q (q_build (vs := []) (C := #[.int .i64 0, .int .i64 0, .string (⟨#[]⟩ : ByteArray)]) Pl_100 Zr_100 rfl rfl) rfl rfl rfl ?_
      refine WL.store (i := 0) (vs := [.int .i64 0, .int .i64 0, .string (⟨#[]⟩ : ByteArray)]) (C' := [.int .i64 0, .int .i64 0, .string (⟨#[]⟩ : ByteArray)]) rfl rfl rfl Sz_100 rfl rfl rfl rfl rfl rfl ⟨rfl, rfl, rfl, trivial⟩ rfl ?_
      refine WL.q (q_assign rfl) rfl rfl rfl ?_
      refine WL.nil ?_
      refine WT.ret Try.func110 (resOk.two (rv_cell Tn_100 rfl (fun w1 hw => hw.rgL (i := 0) rfl 0 3 [.int .i64 0, .int .i64 0, .string (⟨#[]⟩ : ByteArray)] rfl) rfl) rfl) (fun w1 hw => ?_)
      cases h
      exact post_of_St hw
theorem m_i_areInts_ok {Φ : Hp} {w : World} (hΦ : In Φ w) (N : Nat) (p0 : TVal) (p1 : TVal)   {r : Bool} (h : m_i_areInts N p0 p1 = some r) :
    Calls Try.prog 133 [.agg [.int .i64 p0.K, .int .i64 p0.N, .string p0.S].toArray, .agg [.int .i64 p1.K, .int .i64 p1.N, .string p1.S].toArray].toArray w (Post (.bool r) w) := by
  refine enter Try.func133 rfl Try.ntmps133 rfl (St.start hΦ) ?_
  unfold m_i_areInts at h
  refine WT.seq ?_
  refine WT.region ?_
  refine WL.box (C := #[.int .i64 p0.K, .int .i64 p0.N, .string p0.S]) rfl rfl rfl rfl rfl rfl (fun b_1 => ?_)
  refine WL.box (C := #[.int .i64 p1.K, .int .i64 p1.N, .string p1.S]) rfl rfl rfl rfl rfl rfl (fun b_2 => ?_)
  refine WL.q (q_assign rfl) rfl rfl rfl ?_
  refine WL.nil ?_
  refine WT.seq ?_
  refine WT.region ?_
  refine WL.q (q_fieldAddr Fld_100_0 rfl) rfl rfl rfl ?_
  refine WL.q (q_load1 T1_3 rfl (fun w1 hw => hw.rgL (i := 1) rfl 0 1 [.int .i64 p0.K] rfl)) rfl rfl rfl ?_
  refine WL.q (q_eql rfl rfl) rfl rfl rfl ?_
  refine WL.q (q_move rfl) rfl rfl rfl ?_
  obtain ⟨b1, hb_1, h⟩ := bind_some h
  refine WL.cutN 4 [(12, .bool b1), (2, .pointer (some ⟨b_1, 0, none⟩)), (3, .pointer (some ⟨b_2, 0, none⟩)), (4, .bool false)] ?_ (fun K => ?_)
  rotate_left
  · refine WL.split (d := 8) rfl (fun c1 => ?_) (fun c1 => ?_)
    · replace hb_1 := ite_t hb_1 c1
      refine WL.yes rfl rfl ?_
      refine WL.q (q_fieldAddr Fld_100_0 rfl) rfl rfl rfl ?_
      refine WL.yes rfl rfl ?_
      refine WL.q (q_load1 T1_3 rfl (fun w1 hw => hw.rgL (i := 0) rfl 0 1 [.int .i64 p1.K] rfl)) rfl rfl rfl ?_
      refine WL.yes rfl rfl ?_
      refine WL.q (q_eql rfl rfl) rfl rfl rfl ?_
      refine WL.q (q_pick1 rfl rfl) rfl rfl rfl ?_
      cases hb_1
      exact WL.keep (by exact ⟨rfl, rfl, rfl, rfl, trivial⟩) K
    · replace hb_1 := ite_f hb_1 c1
      refine WL.no rfl rfl rfl rfl ?_
      refine WL.no rfl rfl rfl rfl ?_
      refine WL.no rfl rfl rfl rfl ?_
      refine WL.q (q_pick0 rfl rfl) rfl rfl rfl ?_
      cases hb_1
      exact WL.keep (by exact ⟨rfl, rfl, rfl, rfl, trivial⟩) K
  refine WL.q (q_move rfl) rfl rfl rfl ?_
  obtain ⟨b2, hb_2, h⟩ := bind_some h
  refine WL.cutN 3 [(16, .bool b2), (3, .pointer (some ⟨b_2, 0, none⟩)), (4, .bool false)] ?_ (fun K => ?_)
  rotate_left
  · refine WL.split (d := 13) rfl (fun c2 => ?_) (fun c2 => ?_)
    · replace hb_2 := ite_t hb_2 c2
      refine WL.yes rfl rfl ?_
      refine WL.q (q_loadN Tn_100 rfl (fun w1 hw => hw.rgL (i := 1) rfl 0 3 [.int .i64 p0.K, .int .i64 p0.N, .string p0.S] rfl) rfl) rfl rfl rfl ?_
      refine WL.yes rfl rfl ?_
      obtain ⟨x1, hx1, hb_2⟩ := bind_some hb_2
      refine WL.call (c_pure Fun_127 rfl (fun w1 hw => m_i_ValOk_ok hw.fro N p0 hx1)) rfl rfl rfl (fun _ => ?_)
      refine WL.q (q_pick1 rfl rfl) rfl rfl rfl ?_
      cases hb_2
      exact WL.keep (by exact ⟨rfl, rfl, rfl, trivial⟩) K
    · replace hb_2 := ite_f hb_2 c2
      refine WL.no rfl rfl rfl rfl ?_
      refine WL.no rfl rfl rfl rfl ?_
      refine WL.q (q_pick0 rfl rfl) rfl rfl rfl ?_
      cases hb_2
      exact WL.keep (by exact ⟨rfl, rfl, rfl, trivial⟩) K
  refine WL.q (q_move rfl) rfl rfl rfl ?_
  obtain ⟨b3, hb_3, h⟩ := bind_some h
  refine WL.cutN 3 [(20, .bool b3), (4, .bool false)] ?_ (fun K => ?_)
  rotate_left
  · refine WL.split (d := 17) rfl (fun c3 => ?_) (fun c3 => ?_)
    · replace hb_3 := ite_t hb_3 c3
      refine WL.yes rfl rfl ?_
      refine WL.q (q_loadN Tn_100 rfl (fun w1 hw => hw.rgL (i := 0) rfl 0 3 [.int .i64 p1.K, .int .i64 p1.N, .string p1.S] rfl) rfl) rfl rfl rfl ?_
      refine WL.yes rfl rfl ?_
      obtain ⟨x2, hx2, hb_3⟩ := bind_some hb_3
      refine WL.call (c_pure Fun_127 rfl (fun w1 hw => m_i_ValOk_ok hw.fro N p1 hx2)) rfl rfl rfl (fun _ => ?_)
      refine WL.q (q_pick1 rfl rfl) rfl rfl rfl ?_
      cases hb_3
      exact WL.keep (by exact ⟨rfl, rfl, trivial⟩) K
    · replace hb_3 := ite_f hb_3 c3
      refine WL.no rfl rfl rfl rfl ?_
      refine WL.no rfl rfl rfl rfl ?_
      refine WL.q (q_pick0 rfl rfl) rfl rfl rfl ?_
      cases hb_3
      exact WL.keep (by exact ⟨rfl, rfl, trivial⟩) K
  refine WL.q (q_assign rfl) rfl rfl rfl ?_
  refine WL.nil ?_
  refine WT.ret Try.func133 (resOk.one rfl) (fun w1 hw => ?_)
  cases h
  exact post_of_St hw
theorem m_i_intVal_ok {Φ : Hp} {w : World} (hΦ : In Φ w) (N : Nat) (p0 : Int)   {r : TVal × Bool} (h : m_i_intVal N p0 = some r) :
    Calls Try.prog 134 [.int .i64 p0].toArray w (Post (.tuple #[.agg [.int .i64 r.1.K, .int .i64 r.1.N, .string r.1.S].toArray, .bool r.2]) w) := by
  refine enter Try.func134 rfl Try.ntmps134 rfl (St.start hΦ) ?_
  unfold m_i_intVal at h
  refine WT.seq ?_
  refine WT.region ?_
  refine WL.alloc (C := #[.int .i64 0, .int .i64 0, .string (⟨#[]⟩ : ByteArray)]) rfl rfl rfl rfl Zr_100 rfl (fun b_1 => ?_)
  refine WL.q (q_assign rfl) rfl rfl rfl ?_
  refine WL.nil ?_
  refine WT.seq ?_
  refine WT.region ?_
  refine WL.q (q_move rfl) rfl rfl rfl ?_
  refine WL.q (q_build (vs := [(0, .int .i64 1), (1, .int .i64 p0)]) (C := #[.int .i64 1, .int .i64 p0, .string (⟨#[]⟩ : ByteArray)]) Pl_100 Zr_100 rfl rfl) rfl rfl rfl ?_
  refine WL.alloc (C := #[.int .i64 0, .int .i64 0, .string (⟨#[]⟩ : ByteArray)]) rfl rfl rfl rfl Zr_100 rfl (fun b_2 => ?_)
  refine WL.store (i := 0) (vs := [.int .i64 1, .int .i64 p0, .string (⟨#[]⟩ : ByteArray)]) (C' := [.int .i64 1, .int .i64 p0, .string (⟨#[]⟩ : ByteArray)]) rfl rfl rfl Sz_100 rfl rfl rfl rfl rfl rfl ⟨rfl, rfl, rfl, trivial⟩ rfl ?_
  refine WL.nil ?_
  refine WT.seq ?_
  refine WT.seq ?_
  refine WT.region ?_
  refine WL.q (q_loadN Tn_100 rfl (fun w1 hw => hw.rgL (i := 0) rfl 0 3 [.int .i64 1, .int .i64 p0, .string (⟨#[]⟩ : ByteArray)] rfl) rfl) rfl rfl rfl ?_
  obtain ⟨x1, hx1, h⟩ := bind_some h
  refine WL.call (c_pure Fun_127 rfl (fun w1 hw => m_i_ValOk_ok hw.fro N (⟨1, p0, (⟨#[]⟩ : ByteArray)⟩ : TVal) hx1)) rfl rfl rfl (fun _ => ?_)
  refine WL.q (q_not rfl) rfl rfl rfl ?_
  refine WL.nil ?_
  refine WT.cond rfl (fun c1 => ?_) (fun c1 => ?_)
  · replace h := ite_t h c1
    refine WT.seq ?_
    refine WT.region ?_
    refine WL.q (q_build (vs := []) (C := #[.int .i64 0, .int .i64 0, .string (⟨#[]⟩ : ByteArray)]) Pl_100 Zr_100 rfl rfl) rfl rfl rfl ?_
    refine WL.store (i := 1) (vs := [.int .i64 0, .int .i64 0, .string (⟨#[]⟩ : ByteArray)]) (C' := [.int .i64 0, .int .i64 0, .string (⟨#[]⟩ : ByteArray)]) rfl rfl rfl Sz_100 rfl rfl rfl rfl rfl rfl ⟨rfl, rfl, rfl, trivial⟩ rfl ?_
    refine WL.q (q_assign rfl) rfl rfl rfl ?_
    refine WL.nil ?_
    refine WT.ret Try.func134 (resOk.two (rv_cell Tn_100 rfl (fun w1 hw => hw.rgL (i := 1) rfl 0 3 [.int .i64 0, .int .i64 0, .string (⟨#[]⟩ : ByteArray)] rfl) rfl) rfl) (fun w1 hw => ?_)
    cases h
    exact post_of_St hw
  · replace h := ite_f h c1
    refine WT.skip ?_
    refine WT.seq ?_
    refine WT.region ?_
    refine WL.q (q_loadN Tn_100 rfl (fun w1 hw => hw.rgL (i := 0) rfl 0 3 [.int .i64 1, .int .i64 p0, .string (⟨#[]⟩ : ByteArray)] rfl) rfl) rfl rfl rfl ?_
    refine WL.store (i := 1) (vs := [.int .i64 1, .int .i64 p0, .string (⟨#[]⟩ : ByteArray)]) (C' := [.int .i64 1, .int .i64 p0, .string (⟨#[]⟩ : ByteArray)]) rfl rfl rfl Sz_100 rfl rfl rfl rfl rfl rfl ⟨rfl, rfl, rfl, trivial⟩ rfl ?_
    refine WL.q (q_assign rfl) rfl rfl rfl ?_
    refine WL.nil ?_
    refine WT.ret Try.func134 (resOk.two (rv_cell Tn_100 rfl (fun w1 hw => hw.rgL (i := 1) rfl 0 3 [.int .i64 1, .int .i64 p0, .string (⟨#[]⟩ : ByteArray)] rfl) rfl) rfl) (fun w1 hw => ?_)
    cases h
    exact post_of_St hw
theorem m_i_AddVals_ok {Φ : Hp} {w : World} (hΦ : In Φ w) (N : Nat) (p0 : TVal) (p1 : TVal)   {r : TVal × Bool} (h : m_i_AddVals N p0 p1 = some r) :
    Calls Try.prog 111 [.agg [.int .i64 p0.K, .int .i64 p0.N, .string p0.S].toArray, .agg [.int .i64 p1.K, .int .i64 p1.N, .string p1.S].toArray].toArray w (Post (.tuple #[.agg [.int .i64 r.1.K, .int .i64 r.1.N, .string r.1.S].toArray, .bool r.2]) w) := by
  refine enter Try.func111 rfl Try.ntmps111 rfl (St.start hΦ) ?_
  unfold m_i_AddVals at h
  refine WT.seq ?_
  refine WT.region ?_
  refine WL.box (C := #[.int .i64 p0.K, .int .i64 p0.N, .string p0.S]) rfl rfl rfl rfl rfl rfl (fun b_1 => ?_)
  refine WL.box (C := #[.int .i64 p1.K, .int .i64 p1.N, .string p1.S]) rfl rfl rfl rfl rfl rfl (fun b_2 => ?_)
  refine WL.alloc (C := #[.int .i64 0, .int .i64 0, .string (⟨#[]⟩ : ByteArray)]) rfl rfl rfl rfl Zr_100 rfl (fun b_3 => ?_)
  refine WL.q (q_assign rfl) rfl rfl rfl ?_
  refine WL.nil ?_
  refine WT.seq ?_
  refine WT.seq ?_
  refine WT.region ?_
  refine WL.q (q_loadN Tn_100 rfl (fun w1 hw => hw.rgL (i := 2) rfl 0 3 [.int .i64 p0.K, .int .i64 p0.N, .string p0.S] rfl) rfl) rfl rfl rfl ?_
  refine WL.q (q_loadN Tn_100 rfl (fun w1 hw => hw.rgL (i := 1) rfl 0 3 [.int .i64 p1.K, .int .i64 p1.N, .string p1.S] rfl) rfl) rfl rfl rfl ?_
  obtain ⟨x1, hx1, h⟩ := bind_some h
  refine WL.call (c_pure Fun_133 rfl (fun w1 hw => m_i_areInts_ok hw.fro N p0 p1 hx1)) rfl rfl rfl (fun _ => ?_)
  refine WL.q (q_not rfl) rfl rfl rfl ?_
  refine WL.nil ?_
  refine WT.cond rfl (fun c1 => ?_) (fun c1 => ?_)
  · replace h := ite_t h c1
    refine WT.seq ?_
    refine WT.region ?_
    refine WL.q (q_build (vs := []) (C := #[.int .i64 0, .int .i64 0, .string (⟨#[]⟩ : ByteArray)]) Pl_100 Zr_100 rfl rfl) rfl rfl rfl ?_
    refine WL.store (i := 0) (vs := [.int .i64 0, .int .i64 0, .string (⟨#[]⟩ : ByteArray)]) (C' := [.int .i64 0, .int .i64 0, .string (⟨#[]⟩ : ByteArray)]) rfl rfl rfl Sz_100 rfl rfl rfl rfl rfl rfl ⟨rfl, rfl, rfl, trivial⟩ rfl ?_
    refine WL.q (q_assign rfl) rfl rfl rfl ?_
    refine WL.nil ?_
    refine WT.ret Try.func111 (resOk.two (rv_cell Tn_100 rfl (fun w1 hw => hw.rgL (i := 0) rfl 0 3 [.int .i64 0, .int .i64 0, .string (⟨#[]⟩ : ByteArray)] rfl) rfl) rfl) (fun w1 hw => ?_)
    cases h
    exact post_of_St hw
  · replace h := ite_f h c1
    refine WT.skip ?_
    refine WT.seq ?_
    refine WT.region ?_
    refine WL.q (q_fieldAddr Fld_100_1 rfl) rfl rfl rfl ?_
    refine WL.q (q_load1 T1_3 rfl (fun w1 hw => hw.rgL (i := 2) rfl 1 1 [.int .i64 p0.N] rfl)) rfl rfl rfl ?_
    refine WL.q (q_fieldAddr Fld_100_1 rfl) rfl rfl rfl ?_
    refine WL.q (q_load1 T1_3 rfl (fun w1 hw => hw.rgL (i := 1) rfl 1 1 [.int .i64 p1.N] rfl)) rfl rfl rfl ?_
    refine WL.q (q_add rfl rfl) rfl rfl rfl ?_
    obtain ⟨x2, hx2, h⟩ := bind_some h
    refine WL.call (c_pure Fun_134 rfl (fun w1 hw => m_i_intVal_ok hw.fro N (IntKind.i64.wrap (p0.N + p1.N)) hx2)) rfl rfl rfl (fun _ => ?_)
    refine WL.q (q_extract rfl rfl) rfl rfl rfl ?_
    refine WL.q (q_extract rfl rfl) rfl rfl rfl ?_
    refine WL.store (i := 0) (vs := [.int .i64 x2.1.K, .int .i64 x2.1.N, .string x2.1.S]) (C' := [.int .i64 x2.1.K, .int .i64 x2.1.N, .string x2.1.S]) rfl rfl rfl Sz_100 rfl rfl rfl rfl rfl rfl ⟨rfl, rfl, rfl, trivial⟩ rfl ?_
    refine WL.q (q_assign rfl) rfl rfl rfl ?_
    refine WL.nil ?_
    refine WT.ret Try.func111 (resOk.two (rv_cell Tn_100 rfl (fun w1 hw => hw.rgL (i := 0) rfl 0 3 [.int .i64 x2.1.K, .int .i64 x2.1.N, .string x2.1.S] rfl) rfl) rfl) (fun w1 hw => ?_)
    cases h
    exact post_of_St hw
theorem m_i_SubVals_ok {Φ : Hp} {w : World} (hΦ : In Φ w) (N : Nat) (p0 : TVal) (p1 : TVal)   {r : TVal × Bool} (h : m_i_SubVals N p0 p1 = some r) :
    Calls Try.prog 112 [.agg [.int .i64 p0.K, .int .i64 p0.N, .string p0.S].toArray, .agg [.int .i64 p1.K, .int .i64 p1.N, .string p1.S].toArray].toArray w (Post (.tuple #[.agg [.int .i64 r.1.K, .int .i64 r.1.N, .string r.1.S].toArray, .bool r.2]) w) := by
  refine enter Try.func112 rfl Try.ntmps112 rfl (St.start hΦ) ?_
  unfold m_i_SubVals at h
  refine WT.seq ?_
  refine WT.region ?_
  refine WL.box (C := #[.int .i64 p0.K, .int .i64 p0.N, .string p0.S]) rfl rfl rfl rfl rfl rfl (fun b_1 => ?_)
  refine WL.box (C := #[.int .i64 p1.K, .int .i64 p1.N, .string p1.S]) rfl rfl rfl rfl rfl rfl (fun b_2 => ?_)
  refine WL.alloc (C := #[.int .i64 0, .int .i64 0, .string (⟨#[]⟩ : ByteArray)]) rfl rfl rfl rfl Zr_100 rfl (fun b_3 => ?_)
  refine WL.q (q_assign rfl) rfl rfl rfl ?_
  refine WL.nil ?_
  refine WT.seq ?_
  refine WT.seq ?_
  refine WT.region ?_
  refine WL.q (q_loadN Tn_100 rfl (fun w1 hw => hw.rgL (i := 2) rfl 0 3 [.int .i64 p0.K, .int .i64 p0.N, .string p0.S] rfl) rfl) rfl rfl rfl ?_
  refine WL.q (q_loadN Tn_100 rfl (fun w1 hw => hw.rgL (i := 1) rfl 0 3 [.int .i64 p1.K, .int .i64 p1.N, .string p1.S] rfl) rfl) rfl rfl rfl ?_
  obtain ⟨x1, hx1, h⟩ := bind_some h
  refine WL.call (c_pure Fun_133 rfl (fun w1 hw => m_i_areInts_ok hw.fro N p0 p1 hx1)) rfl rfl rfl (fun _ => ?_)
  refine WL.q (q_not rfl) rfl rfl rfl ?_
  refine WL.nil ?_
  refine WT.cond rfl (fun c1 => ?_) (fun c1 => ?_)
  · replace h := ite_t h c1
    refine WT.seq ?_
    refine WT.region ?_
    refine WL.q (q_build (vs := []) (C := #[.int .i64 0, .int .i64 0, .string (⟨#[]⟩ : ByteArray)]) Pl_100 Zr_100 rfl rfl) rfl rfl rfl ?_
    refine WL.store (i := 0) (vs := [.int .i64 0, .int .i64 0, .string (⟨#[]⟩ : ByteArray)]) (C' := [.int .i64 0, .int .i64 0, .string (⟨#[]⟩ : ByteArray)]) rfl rfl rfl Sz_100 rfl rfl rfl rfl rfl rfl ⟨rfl, rfl, rfl, trivial⟩ rfl ?_
    refine WL.q (q_assign rfl) rfl rfl rfl ?_
    refine WL.nil ?_
    refine WT.ret Try.func112 (resOk.two (rv_cell Tn_100 rfl (fun w1 hw => hw.rgL (i := 0) rfl 0 3 [.int .i64 0, .int .i64 0, .string (⟨#[]⟩ : ByteArray)] rfl) rfl) rfl) (fun w1 hw => ?_)
    cases h
    exact post_of_St hw
  · replace h := ite_f h c1
    refine WT.skip ?_
    refine WT.seq ?_
    refine WT.region ?_
    refine WL.q (q_fieldAddr Fld_100_1 rfl) rfl rfl rfl ?_
    refine WL.q (q_load1 T1_3 rfl (fun w1 hw => hw.rgL (i := 2) rfl 1 1 [.int .i64 p0.N] rfl)) rfl rfl rfl ?_
    refine WL.q (q_fieldAddr Fld_100_1 rfl) rfl rfl rfl ?_
    refine WL.q (q_load1 T1_3 rfl (fun w1 hw => hw.rgL (i := 1) rfl 1 1 [.int .i64 p1.N] rfl)) rfl rfl rfl ?_
    refine WL.q (q_sub rfl rfl) rfl rfl rfl ?_
    obtain ⟨x2, hx2, h⟩ := bind_some h
    refine WL.call (c_pure Fun_134 rfl (fun w1 hw => m_i_intVal_ok hw.fro N (IntKind.i64.wrap (p0.N - p1.N)) hx2)) rfl rfl rfl (fun _ => ?_)
    refine WL.q (q_extract rfl rfl) rfl rfl rfl ?_
    refine WL.q (q_extract rfl rfl) rfl rfl rfl ?_
    refine WL.store (i := 0) (vs := [.int .i64 x2.1.K, .int .i64 x2.1.N, .string x2.1.S]) (C' := [.int .i64 x2.1.K, .int .i64 x2.1.N, .string x2.1.S]) rfl rfl rfl Sz_100 rfl rfl rfl rfl rfl rfl ⟨rfl, rfl, rfl, trivial⟩ rfl ?_
    refine WL.q (q_assign rfl) rfl rfl rfl ?_
    refine WL.nil ?_
    refine WT.ret Try.func112 (resOk.two (rv_cell Tn_100 rfl (fun w1 hw => hw.rgL (i := 0) rfl 0 3 [.int .i64 x2.1.K, .int .i64 x2.1.N, .string x2.1.S] rfl) rfl) rfl) (fun w1 hw => ?_)
    cases h
    exact post_of_St hw
theorem m_i_Compute_ok {Φ : Hp} {w : World} (hΦ : In Φ w) (N : Nat) (p0 : TExpr) (p1 : (List TBind)) {pv1 : Value} {pG1 : List Nat} (ph1 : RSl RTBind 4 Φ pG1 pv1 p1) {r : TVal × Bool} (h : m_i_Compute N p0 p1 = some r) :
    Calls Try.prog 62 [.agg [.string p0.Op, .int .i64 p0.L.K, .string p0.L.S, .int .i64 p0.L.V.K, .int .i64 p0.L.V.N, .string p0.L.V.S, .int .i64 p0.R.K, .string p0.R.S, .int .i64 p0.R.V.K, .int .i64 p0.R.V.N, .string p0.R.V.S].toArray, pv1].toArray w (Post (.tuple #[.agg [.int .i64 r.1.K, .int .i64 r.1.N, .string r.1.S].toArray, .bool r.2]) w) := by
  refine enter Try.func62 rfl Try.ntmps62 rfl (St.start hΦ) ?_
  unfold m_i_Compute at h
  refine WT.seq ?_
  refine WT.region ?_
  refine WL.box (C := #[.string p0.Op, .int .i64 p0.L.K, .string p0.L.S, .int .i64 p0.L.V.K, .int .i64 p0.L.V.N, .string p0.L.V.S, .int .i64 p0.R.K, .string p0.R.S, .int .i64 p0.R.V.K, .int .i64 p0.R.V.N, .string p0.R.V.S]) rfl rfl rfl rfl rfl rfl (fun b_1 => ?_)
  refine WL.alloc (C := #[.int .i64 0, .int .i64 0, .string (⟨#[]⟩ : ByteArray)]) rfl rfl rfl rfl Zr_100 rfl (fun b_2 => ?_)
  refine WL.q (q_assign rfl) rfl rfl rfl ?_
  refine WL.nil ?_
  refine WT.seq ?_
  refine WT.region ?_
  refine WL.q (q_fieldAddr Fld_106_1 rfl) rfl rfl rfl ?_
  refine WL.q (q_loadN Tn_104 rfl (fun w1 hw => hw.rgL (i := 1) rfl 1 5 [.int .i64 p0.L.K, .string p0.L.S, .int .i64 p0.L.V.K, .int .i64 p0.L.V.N, .string p0.L.V.S] rfl) rfl) rfl rfl rfl ?_
  refine WL.q (q_move rfl) rfl rfl rfl ?_
  obtain ⟨x1, hx1, h⟩ := bind_some h
  refine WL.call (c_pure Fun_110 rfl (fun w1 hw => m_i_ArgVal_ok hw.fro N p0.L p1 ph1 hx1)) rfl rfl rfl (fun _ => ?_)
  refine WL.q (q_move rfl) rfl rfl rfl ?_
  refine WL.q (q_extract rfl rfl) rfl rfl rfl ?_
  refine WL.q (q_extract rfl rfl) rfl rfl rfl ?_
  refine WL.alloc (C := #[.int .i64 0, .int .i64 0, .string (⟨#[]⟩ : ByteArray)]) rfl rfl rfl rfl Zr_100 rfl (fun b_3 => ?_)
  refine WL.store (i := 0) (vs := [.int .i64 x1.1.K, .int .i64 x1.1.N, .string x1.1.S]) (C' := [.int .i64 x1.1.K, .int .i64 x1.1.N, .string x1.1.S]) rfl rfl rfl Sz_100 rfl rfl rfl rfl rfl rfl ⟨rfl, rfl, rfl, trivial⟩ rfl ?_
  refine WL.q (q_assign rfl) rfl rfl rfl ?_
  refine WL.nil ?_
  refine WT.seq ?_
  refine WT.seq ?_
  refine WT.region ?_
  refine WL.q (q_move rfl) rfl rfl rfl ?_
  refine WL.q (q_not rfl) rfl rfl rfl ?_
  refine WL.q (q_move rfl) rfl rfl rfl ?_
  obtain ⟨b1, hb_1, h⟩ := bind_some h
  refine WL.cutN 4 [(22, .bool b1), (1, pv1), (2, .pointer (some ⟨b_1, 0, none⟩)), (4, .pointer (some ⟨b_2, 0, none⟩)), (5, .bool false), (6, .pointer (some ⟨b_3, 0, none⟩)), (7, .bool x1.2)] ?_ (fun K => ?_)
  rotate_left
  · refine WL.split (d := 18) rfl (fun c1 => ?_) (fun c1 => ?_)
    · replace hb_1 := ite_t hb_1 c1
      refine WL.no rfl rfl rfl rfl ?_
      refine WL.no rfl rfl rfl rfl ?_
      refine WL.no rfl rfl rfl rfl ?_
      refine WL.q (q_pick1 rfl rfl) rfl rfl rfl ?_
      cases hb_1
      exact WL.keep (by exact ⟨rfl, rfl, rfl, rfl, rfl, rfl, rfl, trivial⟩) K
    · replace hb_1 := ite_f hb_1 c1
      refine WL.yes rfl rfl ?_
      refine WL.q (q_fieldAddr Fld_106_0 rfl) rfl rfl rfl ?_
      refine WL.yes rfl rfl ?_
      refine WL.q (q_load1 T1_9 rfl (fun w1 hw => hw.rgL (i := 2) rfl 0 1 [.string p0.Op] rfl)) rfl rfl rfl ?_
      refine WL.yes rfl rfl ?_
      refine WL.q (q_seq rfl rfl) rfl rfl rfl ?_
      refine WL.q (q_pick0 rfl rfl) rfl rfl rfl ?_
      cases hb_1
      exact WL.keep (by exact ⟨rfl, rfl, rfl, rfl, rfl, rfl, rfl, trivial⟩) K
  refine WL.nil ?_
  refine WT.cond rfl (fun c2 => ?_) (fun c2 => ?_)
  · replace h := ite_t h c2
    refine WT.seq ?_
    refine WT.region ?_
    refine WL.q (q_loadN Tn_100 rfl (fun w1 hw => hw.rgL (i := 0) rfl 0 3 [.int .i64 x1.1.K, .int .i64 x1.1.N, .string x1.1.S] rfl) rfl) rfl rfl rfl ?_
    refine WL.q (q_move rfl) rfl rfl rfl ?_
    refine WL.store (i := 1) (vs := [.int .i64 x1.1.K, .int .i64 x1.1.N, .string x1.1.S]) (C' := [.int .i64 x1.1.K, .int .i64 x1.1.N, .string x1.1.S]) rfl rfl rfl Sz_100 rfl rfl rfl rfl rfl rfl ⟨rfl, rfl, rfl, trivial⟩ rfl ?_
    refine WL.q (q_assign rfl) rfl rfl rfl ?_
    refine WL.nil ?_
    refine WT.ret Try.func62 (resOk.two (rv_cell Tn_100 rfl (fun w1 hw => hw.rgL (i := 1) rfl 0 3 [.int .i64 x1.1.K, .int .i64 x1.1.N, .string x1.1.S] rfl) rfl) rfl) (fun w1 hw => ?_)
    cases h
    exact post_of_St hw
  · replace h := ite_f h c2
    refine WT.skip ?_
    refine WT.seq ?_
    refine WT.region ?_
    refine WL.q (q_fieldAddr Fld_106_2 rfl) rfl rfl rfl ?_
    refine WL.q (q_loadN Tn_104 rfl (fun w1 hw => hw.rgL (i := 2) rfl 6 5 [.int .i64 p0.R.K, .string p0.R.S, .int .i64 p0.R.V.K, .int .i64 p0.R.V.N, .string p0.R.V.S] rfl) rfl) rfl rfl rfl ?_
    refine WL.q (q_move rfl) rfl rfl rfl ?_
    obtain ⟨x2, hx2, h⟩ := bind_some h
    refine WL.call (c_pure Fun_110 rfl (fun w1 hw => m_i_ArgVal_ok hw.fro N p0.R p1 ph1 hx2)) rfl rfl rfl (fun _ => ?_)
    refine WL.q (q_move rfl) rfl rfl rfl ?_
    refine WL.q (q_extract rfl rfl) rfl rfl rfl ?_
    refine WL.q (q_extract rfl rfl) rfl rfl rfl ?_
    refine WL.alloc (C := #[.int .i64 0, .int .i64 0, .string (⟨#[]⟩ : ByteArray)]) rfl rfl rfl rfl Zr_100 rfl (fun b_4 => ?_)
    refine WL.store (i := 0) (vs := [.int .i64 x2.1.K, .int .i64 x2.1.N, .string x2.1.S]) (C' := [.int .i64 x2.1.K, .int .i64 x2.1.N, .string x2.1.S]) rfl rfl rfl Sz_100 rfl rfl rfl rfl rfl rfl ⟨rfl, rfl, rfl, trivial⟩ rfl ?_
    refine WL.q (q_assign rfl) rfl rfl rfl ?_
    refine WL.nil ?_
    refine WT.seq ?_
    refine WT.seq ?_
    refine WT.region ?_
    refine WL.q (q_move rfl) rfl rfl rfl ?_
    refine WL.q (q_move rfl) rfl rfl rfl ?_
    obtain ⟨b2, hb_2, h⟩ := bind_some h
    refine WL.cutN 4 [(37, .bool b2), (2, .pointer (some ⟨b_1, 0, none⟩)), (4, .pointer (some ⟨b_2, 0, none⟩)), (5, .bool false), (6, .pointer (some ⟨b_3, 0, none⟩)), (7, .bool x2.2), (8, .pointer (some ⟨b_4, 0, none⟩))] ?_ (fun K => ?_)
    rotate_left
    · refine WL.split (d := 33) rfl (fun c3 => ?_) (fun c3 => ?_)
      · replace hb_2 := ite_t hb_2 c3
        refine WL.yes rfl rfl ?_
        refine WL.q (q_fieldAddr Fld_106_0 rfl) rfl rfl rfl ?_
        refine WL.yes rfl rfl ?_
        refine WL.q (q_load1 T1_9 rfl (fun w1 hw => hw.rgL (i := 3) rfl 0 1 [.string p0.Op] rfl)) rfl rfl rfl ?_
        refine WL.yes rfl rfl ?_
        refine WL.q (q_seq rfl rfl) rfl rfl rfl ?_
        refine WL.q (q_pick1 rfl rfl) rfl rfl rfl ?_
        cases hb_2
        exact WL.keep (by exact ⟨rfl, rfl, rfl, rfl, rfl, rfl, rfl, trivial⟩) K
      · replace hb_2 := ite_f hb_2 c3
        refine WL.no rfl rfl rfl rfl ?_
        refine WL.no rfl rfl rfl rfl ?_
        refine WL.no rfl rfl rfl rfl ?_
        refine WL.q (q_pick0 rfl rfl) rfl rfl rfl ?_
        cases hb_2
        exact WL.keep (by exact ⟨rfl, rfl, rfl, rfl, rfl, rfl, rfl, trivial⟩) K
    refine WL.nil ?_
    refine WT.cond rfl (fun c4 => ?_) (fun c4 => ?_)
    · replace h := ite_t h c4
      refine WT.seq ?_
      refine WT.region ?_
      refine WL.q (q_loadN Tn_100 rfl (fun w1 hw => hw.rgL (i := 1) rfl 0 3 [.int .i64 x1.1.K, .int .i64 x1.1.N, .string x1.1.S] rfl) rfl) rfl rfl rfl ?_
      refine WL.q (q_loadN Tn_100 rfl (fun w1 hw => hw.rgL (i := 0) rfl 0 3 [.int .i64 x2.1.K, .int .i64 x2.1.N, .string x2.1.S] rfl) rfl) rfl rfl rfl ?_
      obtain ⟨x3, hx3, h⟩ := bind_some h
      refine WL.call (c_pure Fun_111 rfl (fun w1 hw => m_i_AddVals_ok hw.fro N x1.1 x2.1 hx3)) rfl rfl rfl (fun _ => ?_)
      refine WL.q (q_extract rfl rfl) rfl rfl rfl ?_
      refine WL.q (q_extract rfl rfl) rfl rfl rfl ?_
      refine WL.store (i := 2) (vs := [.int .i64 x3.1.K, .int .i64 x3.1.N, .string x3.1.S]) (C' := [.int .i64 x3.1.K, .int .i64 x3.1.N, .string x3.1.S]) rfl rfl rfl Sz_100 rfl rfl rfl rfl rfl rfl ⟨rfl, rfl, rfl, trivial⟩ rfl ?_
      refine WL.q (q_assign rfl) rfl rfl rfl ?_
      refine WL.nil ?_
      refine WT.ret Try.func62 (resOk.two (rv_cell Tn_100 rfl (fun w1 hw => hw.rgL (i := 2) rfl 0 3 [.int .i64 x3.1.K, .int .i64 x3.1.N, .string x3.1.S] rfl) rfl) rfl) (fun w1 hw => ?_)
      cases h
      exact post_of_St hw
    · replace h := ite_f h c4
      refine WT.skip ?_
      refine WT.seq ?_
      refine WT.seq ?_
      refine WT.region ?_
      refine WL.q (q_move rfl) rfl rfl rfl ?_
      refine WL.q (q_move rfl) rfl rfl rfl ?_
      obtain ⟨b3, hb_3, h⟩ := bind_some h
      refine WL.cutN 4 [(48, .bool b3), (4, .pointer (some ⟨b_2, 0, none⟩)), (5, .bool false), (6, .pointer (some ⟨b_3, 0, none⟩)), (8, .pointer (some ⟨b_4, 0, none⟩))] ?_ (fun K => ?_)
      rotate_left
      · refine WL.split (d := 44) rfl (fun c5 => ?_) (fun c5 => ?_)
        · replace hb_3 := ite_t hb_3 c5
          refine WL.yes rfl rfl ?_
          refine WL.q (q_fieldAddr Fld_106_0 rfl) rfl rfl rfl ?_
          refine WL.yes rfl rfl ?_
          refine WL.q (q_load1 T1_9 rfl (fun w1 hw => hw.rgL (i := 3) rfl 0 1 [.string p0.Op] rfl)) rfl rfl rfl ?_
          refine WL.yes rfl rfl ?_
          refine WL.q (q_seq rfl rfl) rfl rfl rfl ?_
          refine WL.q (q_pick1 rfl rfl) rfl rfl rfl ?_
          cases hb_3
          exact WL.keep (by exact ⟨rfl, rfl, rfl, rfl, rfl, trivial⟩) K
        · replace hb_3 := ite_f hb_3 c5
          refine WL.no rfl rfl rfl rfl ?_
          refine WL.no rfl rfl rfl rfl ?_
          refine WL.no rfl rfl rfl rfl ?_
          refine WL.q (q_pick0 rfl rfl) rfl rfl rfl ?_
          cases hb_3
          exact WL.keep (by exact ⟨rfl, rfl, rfl, rfl, rfl, trivial⟩) K
      refine WL.nil ?_
      refine WT.cond rfl (fun c6 => ?_) (fun c6 => ?_)
      · replace h := ite_t h c6
        refine WT.seq ?_
        refine WT.region ?_
        refine WL.q (q_loadN Tn_100 rfl (fun w1 hw => hw.rgL (i := 1) rfl 0 3 [.int .i64 x1.1.K, .int .i64 x1.1.N, .string x1.1.S] rfl) rfl) rfl rfl rfl ?_
        refine WL.q (q_loadN Tn_100 rfl (fun w1 hw => hw.rgL (i := 0) rfl 0 3 [.int .i64 x2.1.K, .int .i64 x2.1.N, .string x2.1.S] rfl) rfl) rfl rfl rfl ?_
        obtain ⟨x4, hx4, h⟩ := bind_some h
        refine WL.call (c_pure Fun_112 rfl (fun w1 hw => m_i_SubVals_ok hw.fro N x1.1 x2.1 hx4)) rfl rfl rfl (fun _ => ?_)
        refine WL.q (q_extract rfl rfl) rfl rfl rfl ?_
        refine WL.q (q_extract rfl rfl) rfl rfl rfl ?_
        refine WL.store (i := 2) (vs := [.int .i64 x4.1.K, .int .i64 x4.1.N, .string x4.1.S]) (C' := [.int .i64 x4.1.K, .int .i64 x4.1.N, .string x4.1.S]) rfl rfl rfl Sz_100 rfl rfl rfl rfl rfl rfl ⟨rfl, rfl, rfl, trivial⟩ rfl ?_
        refine WL.q (q_assign rfl) rfl rfl rfl ?_
        refine WL.nil ?_
        refine WT.ret Try.func62 (resOk.two (rv_cell Tn_100 rfl (fun w1 hw => hw.rgL (i := 2) rfl 0 3 [.int .i64 x4.1.K, .int .i64 x4.1.N, .string x4.1.S] rfl) rfl) rfl) (fun w1 hw => ?_)
        cases h
        exact post_of_St hw
      · replace h := ite_f h c6
        refine WT.skip ?_
        refine WT.seq ?_
        refine WT.region ?_
        refine WL.q (q_build (vs := []) (C := #[.int .i64 0, .int .i64 0, .string (⟨#[]⟩ : ByteArray)]) Pl_100 Zr_100 rfl rfl) rfl rfl rfl ?_
        refine WL.store (i := 2) (vs := [.int .i64 0, .int .i64 0, .string (⟨#[]⟩ : ByteArray)]) (C' := [.int .i64 0, .int .i64 0, .string (⟨#[]⟩ : ByteArray)]) rfl rfl rfl Sz_100 rfl rfl rfl rfl rfl rfl ⟨rfl, rfl, rfl, trivial⟩ rfl ?_
        refine WL.q (q_assign rfl) rfl rfl rfl ?_
        refine WL.nil ?_
        refine WT.ret Try.func62 (resOk.two (rv_cell Tn_100 rfl (fun w1 hw => hw.rgL (i := 2) rfl 0 3 [.int .i64 0, .int .i64 0, .string (⟨#[]⟩ : ByteArray)] rfl) rfl) rfl) (fun w1 hw => ?_)
        cases h
        exact post_of_St hw
theorem m_l_eqBind_ok {Φ : Hp} {w : World} (hΦ : In Φ w) (N : Nat) (p0 : TBind) (p1 : TBind)   {r : Bool} (h : m_l_eqBind N p0 p1 = some r) :
    Calls Try.prog 113 [.agg [.string p0.Name, .int .i64 p0.V.K, .int .i64 p0.V.N, .string p0.V.S].toArray, .agg [.string p1.Name, .int .i64 p1.V.K, .int .i64 p1.V.N, .string p1.V.S].toArray].toArray w (Post (.bool r) w) := by
  refine enter Try.func113 rfl Try.ntmps113 rfl (St.start hΦ) ?_
  unfold m_l_eqBind at h
  refine WT.seq ?_
  refine WT.region ?_
  refine WL.box (C := #[.string p0.Name, .int .i64 p0.V.K, .int .i64 p0.V.N, .string p0.V.S]) rfl rfl rfl rfl rfl rfl (fun b_1 => ?_)
  refine WL.box (C := #[.string p1.Name, .int .i64 p1.V.K, .int .i64 p1.V.N, .string p1.V.S]) rfl rfl rfl rfl rfl rfl (fun b_2 => ?_)
  refine WL.q (q_assign rfl) rfl rfl rfl ?_
  refine WL.nil ?_
  refine WT.seq ?_
  refine WT.seq ?_
  refine WT.region ?_
  refine WL.q (q_fieldAddr Fld_130_0 rfl) rfl rfl rfl ?_
  refine WL.q (q_load1 T1_9 rfl (fun w1 hw => hw.rgL (i := 1) rfl 0 1 [.string p0.Name] rfl)) rfl rfl rfl ?_
  refine WL.q (q_fieldAddr Fld_130_0 rfl) rfl rfl rfl ?_
  refine WL.q (q_load1 T1_9 rfl (fun w1 hw => hw.rgL (i := 0) rfl 0 1 [.string p1.Name] rfl)) rfl rfl rfl ?_
  refine WL.q (q_sne rfl rfl) rfl rfl rfl ?_
  refine WL.nil ?_
  refine WT.cond rfl (fun c1 => ?_) (fun c1 => ?_)
  · replace h := ite_t h c1
    refine WT.seq ?_
    refine WT.region ?_
    refine WL.q (q_assign rfl) rfl rfl rfl ?_
    refine WL.nil ?_
    refine WT.ret Try.func113 (resOk.one rfl) (fun w1 hw => ?_)
    cases h
    exact post_of_St hw
  · replace h := ite_f h c1
    refine WT.skip ?_
    refine WT.seq ?_
    refine WT.seq ?_
    refine WT.region ?_
    refine WL.q (q_fieldAddr Fld_130_1 rfl) rfl rfl rfl ?_
    refine WL.q (q_loadN Tn_100 rfl (fun w1 hw => hw.rgL (i := 1) rfl 1 3 [.int .i64 p0.V.K, .int .i64 p0.V.N, .string p0.V.S] rfl) rfl) rfl rfl rfl ?_
    refine WL.q (q_fieldAddr Fld_130_1 rfl) rfl rfl rfl ?_
    refine WL.q (q_loadN Tn_100 rfl (fun w1 hw => hw.rgL (i := 0) rfl 1 3 [.int .i64 p1.V.K, .int .i64 p1.V.N, .string p1.V.S] rfl) rfl) rfl rfl rfl ?_
    obtain ⟨x1, hx1, h⟩ := bind_some h
    refine WL.call (c_pure Fun_63 rfl (fun w1 hw => m_l_eqVal_ok hw.fro N p0.V p1.V hx1)) rfl rfl rfl (fun _ => ?_)
    refine WL.q (q_not rfl) rfl rfl rfl ?_
    refine WL.nil ?_
    refine WT.cond rfl (fun c2 => ?_) (fun c2 => ?_)
    · replace h := ite_t h c2
      refine WT.seq ?_
      refine WT.region ?_
      refine WL.q (q_assign rfl) rfl rfl rfl ?_
      refine WL.nil ?_
      refine WT.ret Try.func113 (resOk.one rfl) (fun w1 hw => ?_)
      cases h
      exact post_of_St hw
    · replace h := ite_f h c2
      refine WT.skip ?_
      refine WT.seq ?_
      refine WT.region ?_
      refine WL.q (q_assign rfl) rfl rfl rfl ?_
      refine WL.nil ?_
      refine WT.ret Try.func113 (resOk.one rfl) (fun w1 hw => ?_)
      cases h
      exact post_of_St hw
theorem m_l_eqBindS_ok {Φ : Hp} {w : World} (hΦ : In Φ w) (N : Nat) (p0 : (List TBind)) (p1 : (List TBind)) {pv0 : Value} {pG0 : List Nat} {pv1 : Value} {pG1 : List Nat} (ph0 : RSl RTBind 4 Φ pG0 pv0 p0) (ph1 : RSl RTBind 4 Φ pG1 pv1 p1) {r : Bool} (h : m_l_eqBindS N p0 p1 = some r) :
    Calls Try.prog 64 [pv0, pv1].toArray w (Post (.bool r) w) := by
  refine enter Try.func64 rfl Try.ntmps64 rfl (St.start hΦ) ?_
  unfold m_l_eqBindS at h
  refine WT.seq ?_
  refine WT.region ?_
  refine WL.q (q_assign rfl) rfl rfl rfl ?_
  refine WL.nil ?_
  refine WT.seq ?_
  refine WT.seq ?_
  refine WT.region ?_
  refine WL.q (q_move rfl) rfl rfl rfl ?_
  refine WL.q (q_lenR Sl_30 rfl rfl ph0) rfl rfl rfl ?_
  refine WL.q (q_move rfl) rfl rfl rfl ?_
  refine WL.q (q_lenR Sl_30 rfl rfl ph1) rfl rfl rfl ?_
  refine WL.q (q_neq rfl rfl) rfl rfl rfl ?_
  refine WL.nil ?_
  refine WT.cond rfl (fun c1 => ?_) (fun c1 => ?_)
  · replace h := ite_t h c1
    refine WT.seq ?_
    refine WT.region ?_
    refine WL.q (q_assign rfl) rfl rfl rfl ?_
    refine WL.nil ?_
    refine WT.ret Try.func64 (resOk.one rfl) (fun w1 hw => ?_)
    cases h
    exact post_of_St hw
  · replace h := ite_f h c1
    refine WT.skip ?_
    refine WT.seq ?_
    refine WT.seq ?_
    refine WT.region ?_
    refine WL.q (q_assign rfl) rfl rfl rfl ?_
    refine WL.nil ?_
    refine WT.block ?_
    refine WT.loop ?_
    refine WT.keep [(0, pv0), (1, pv1), (4, .bool false), (5, .int .i64 0)] ⟨rfl, rfl, rfl, rfl, trivial⟩ ?_
    refine loop_ind (σ := Int) (fun s => [(0, pv0), (1, pv1), (4, .bool false), (5, .int .i64 s)]) (fun s => St w Φ []) (fun m s => m_l_eqBindS_l1 N p0 p1 m s = some r) (fun s hm => none_ne (show (none : Option (Bool)) = some r from hm)) (fun k ih s hm => ?_) N (0) h
    revert hm; revert s; intro s1 hm
    have h : m_l_eqBindS_l1 N p0 p1 (k + 1) s1 = some r := hm
    show WT _ _ [(0, pv0), (1, pv1), (4, .bool false), (5, .int .i64 s1)] (St w Φ [])
    unfold m_l_eqBindS_l1 at h
    refine WT.seq ?_
    refine WT.seq ?_
    refine WT.region ?_
    refine WL.q (q_move rfl) rfl rfl rfl ?_
    refine WL.q (q_move rfl) rfl rfl rfl ?_
    refine WL.q (q_lenR Sl_30 rfl rfl ph0) rfl rfl rfl ?_
    refine WL.q (q_lss rfl rfl) rfl rfl rfl ?_
    refine WL.nil ?_
    refine WT.cond rfl (fun c2 => ?_) (fun c2 => ?_)
    · replace h := ite_t h c2
      refine WT.skip ?_
      refine WT.seq ?_
      refine WT.block ?_
      refine WT.seq ?_
      refine WT.draw mixed (by kernel_rfl) (fun _ h => h.drew) ?_
      refine WQ.q (q_move rfl) rfl rfl rfl ?_
      refine WQ.q (q_move rfl) rfl rfl rfl ?_
      obtain ⟨x1, hx1, h⟩ := bind_some h
      obtain ⟨cs1, F1, -, g1, r1⟩ := ph0.el (idx_some hx1).2.2
      obtain ⟨rfl, -⟩ := r1
      refine WQ.q (q_indexAddr Sl_30 rfl rfl ph0 hx1) rfl rfl rfl ?_
      refine WQ.q (q_loadN Tn_130 rfl (fun w1 hw => (g1.of_eq 0 4 rfl rfl : rg _ _ _ [.string x1.Name, .int .i64 x1.V.K, .int .i64 x1.V.N, .string x1.V.S]).rangeAt hw.fro) rfl) rfl rfl rfl ?_
      refine WQ.q (q_move rfl) rfl rfl rfl ?_
      refine WQ.q (q_move rfl) rfl rfl rfl ?_
      obtain ⟨x2, hx2, h⟩ := bind_some h
      obtain ⟨cs2, F2, -, g2, r2⟩ := ph1.el (idx_some hx2).2.2
      obtain ⟨rfl, -⟩ := r2
      refine WQ.q (q_indexAddr Sl_30 rfl rfl ph1 hx2) rfl rfl rfl ?_
      refine WQ.q (q_loadN Tn_130 rfl (fun w1 hw => (g2.of_eq 0 4 rfl rfl : rg _ _ _ [.string x2.Name, .int .i64 x2.V.K, .int .i64 x2.V.N, .string x2.V.S]).rangeAt hw.fro) rfl) rfl rfl rfl ?_
      obtain ⟨x3, hx3, h⟩ := bind_some h
      refine WQ.call (c_pure Fun_113 rfl (fun w1 hw => m_l_eqBind_ok hw.fro N x1 x2 hx3)) rfl rfl rfl ?_
      refine WQ.q (q_not rfl) rfl rfl rfl ?_
      refine WQ.nil ?_
      refine WT.cond rfl (fun c3 => ?_) (fun c3 => ?_)
      · replace h := ite_t h c3
        refine WT.seq ?_
        refine WT.region ?_
        refine WL.q (q_assign rfl) rfl rfl rfl ?_
        refine WL.nil ?_
        refine WT.ret Try.func64 (resOk.one rfl) (fun w1 hw => ?_)
        cases h
        exact post_of_St hw
      · replace h := ite_f h c3
        refine WT.skip ?_
        refine WT.inBlock ?_
        refine WT.region ?_
        refine WL.q (q_move rfl) rfl rfl rfl ?_
        refine WL.q (q_add rfl rfl) rfl rfl rfl ?_
        refine WL.q (q_assign rfl) rfl rfl rfl ?_
        refine WL.nil ?_
        refine WT.inLoop (WT.mono (l' := [(0, pv0), (1, pv1), (4, .bool false), (5, .int .i64 (IntKind.i64.wrap (s1 + 1)))]) (S' := St w Φ []) ⟨rfl, rfl, rfl, rfl, trivial⟩ (fun w1 hw => hw.drop 0) ?_)
        exact ih (IntKind.i64.wrap (s1 + 1)) h
    · replace h := ite_f h c2
      refine WT.exit rfl ?_
      refine WT.seq ?_
      refine WT.region ?_
      refine WL.q (q_assign rfl) rfl rfl rfl ?_
      refine WL.nil ?_
      refine WT.ret Try.func64 (resOk.one rfl) (fun w1 hw => ?_)
      cases h
      exact post_of_St hw
theorem m_l_FnExactCompute_ok {Φ : Hp} {w : World} (hΦ : In Φ w) (N : Nat) (p0 : TExpr) (p1 : (List TBind)) {pv1 : Value} {pG1 : List Nat} (ph1 : RSl RTBind 4 Φ pG1 pv1 p1) {r : Bool} (h : m_l_FnExactCompute N p0 p1 = some r) :
    Calls Try.prog 13 [.agg [.string p0.Op, .int .i64 p0.L.K, .string p0.L.S, .int .i64 p0.L.V.K, .int .i64 p0.L.V.N, .string p0.L.V.S, .int .i64 p0.R.K, .string p0.R.S, .int .i64 p0.R.V.K, .int .i64 p0.R.V.N, .string p0.R.V.S].toArray, pv1].toArray w (Post (.bool r) w) := by
  refine enter Try.func13 rfl Try.ntmps13 rfl (St.start hΦ) ?_
  unfold m_l_FnExactCompute at h
  have hle := Hle.refl Φ
  refine WT.seq ?_
  refine WT.region ?_
  refine WL.box (C := #[.string p0.Op, .int .i64 p0.L.K, .string p0.L.S, .int .i64 p0.L.V.K, .int .i64 p0.L.V.N, .string p0.L.V.S, .int .i64 p0.R.K, .string p0.R.S, .int .i64 p0.R.V.K, .int .i64 p0.R.V.N, .string p0.R.V.S]) rfl rfl rfl rfl rfl rfl (fun b_1 => ?_)
  refine WL.q (q_assign rfl) rfl rfl rfl ?_
  refine WL.nil ?_
  refine WT.seq ?_
  refine WT.region ?_
  refine WL.q (q_assign rfl) rfl rfl rfl ?_
  refine WL.nil ?_
  refine WT.seq ?_
  refine WT.region ?_
  refine WL.q (q_loadN Tn_97 rfl (fun w1 hw => hw.rgL (i := 0) rfl 0 11 [.string p0.Op, .int .i64 p0.L.K, .string p0.L.S, .int .i64 p0.L.V.K, .int .i64 p0.L.V.N, .string p0.L.V.S, .int .i64 p0.R.K, .string p0.R.S, .int .i64 p0.R.V.K, .int .i64 p0.R.V.N, .string p0.R.V.S] rfl) rfl) rfl rfl rfl ?_
  refine WL.q (q_move rfl) rfl rfl rfl ?_
  obtain ⟨x1, hx1, h⟩ := bind_some h
  refine WL.call (c_pure Fun_57 rfl (fun w1 hw => m_l_szExpr_ok hw.fro N p0 1048576 hx1)) rfl rfl rfl (fun _ => ?_)
  refine WL.q (q_assign rfl) rfl rfl rfl ?_
  refine WL.nil ?_
  refine WT.seq ?_
  refine WT.seq ?_
  refine WT.region ?_
  refine WL.q (q_move rfl) rfl rfl rfl ?_
  refine WL.q (q_lss rfl rfl) rfl rfl rfl ?_
  refine WL.nil ?_
  refine WT.cond rfl (fun c1 => ?_) (fun c1 => ?_)
  · replace h := ite_t h c1
    refine WT.seq ?_
    refine WT.region ?_
    refine WL.q (q_assign rfl) rfl rfl rfl ?_
    refine WL.nil ?_
    refine WT.ret Try.func13 (resOk.one rfl) (fun w1 hw => ?_)
    cases h
    exact post_of_St hw
  · replace h := ite_f h c1
    refine WT.skip ?_
    refine WT.seq ?_
    refine WT.region ?_
    refine WL.q (q_move rfl) rfl rfl rfl ?_
    refine WL.q (q_move rfl) rfl rfl rfl ?_
    obtain ⟨x2, hx2, h⟩ := bind_some h
    refine WL.call (c_pure Fun_58 rfl (fun w1 hw => m_l_szBindS_ok hw.fro N p1 x1 ph1 hx2)) rfl rfl rfl (fun _ => ?_)
    refine WL.q (q_assign rfl) rfl rfl rfl ?_
    refine WL.nil ?_
    refine WT.seq ?_
    refine WT.seq ?_
    refine WT.region ?_
    refine WL.q (q_move rfl) rfl rfl rfl ?_
    refine WL.q (q_lss rfl rfl) rfl rfl rfl ?_
    refine WL.nil ?_
    refine WT.cond rfl (fun c2 => ?_) (fun c2 => ?_)
    · replace h := ite_t h c2
      refine WT.seq ?_
      refine WT.region ?_
      refine WL.q (q_assign rfl) rfl rfl rfl ?_
      refine WL.nil ?_
      refine WT.ret Try.func13 (resOk.one rfl) (fun w1 hw => ?_)
      cases h
      exact post_of_St hw
    · replace h := ite_f h c2
      refine WT.skip ?_
      refine WT.seq ?_
      refine WT.region ?_
      refine WL.q (q_loadN Tn_97 rfl (fun w1 hw => hw.rgL (i := 0) rfl 0 11 [.string p0.Op, .int .i64 p0.L.K, .string p0.L.S, .int .i64 p0.L.V.K, .int .i64 p0.L.V.N, .string p0.L.V.S, .int .i64 p0.R.K, .string p0.R.S, .int .i64 p0.R.V.K, .int .i64 p0.R.V.N, .string p0.R.V.S] rfl) rfl) rfl rfl rfl ?_
      obtain ⟨x3, hx3, h⟩ := bind_some h
      refine WL.call (c_pure Fun_60 rfl (fun w1 hw => m_l_toExpr_ok hw.fro N p0 hx3)) rfl rfl rfl (fun _ => ?_)
      refine WL.q (q_move rfl) rfl rfl rfl ?_
      obtain ⟨x4, hx4, h⟩ := bind_some h
      refine WL.callL rfl rfl rfl rfl Fun_61 rfl (fun w1 hw => m_l_toBindS_ok hw.fro N p1 ph1 hx4) (fun v1 Φ_1 D1 le1 ho1 qq1 => ?_)
      replace ph1 := RSl.mono RTBind.mono le1 ph1
      replace hle := hle.trans le1
      obtain ⟨v2, G1, rfl, rfl, h1⟩ := qq1
      obtain ⟨x5, hx5, h⟩ := bind_some h
      refine WL.call (c_pure Fun_59 rfl (fun w1 hw => m_s_Compute_ok hw.fro N x3 x4 h1 hx5)) rfl rfl rfl (fun _ => ?_)
      refine WL.q (q_move rfl) rfl rfl rfl ?_
      refine WL.q (q_extract rfl rfl) rfl rfl rfl ?_
      refine WL.q (q_extract rfl rfl) rfl rfl rfl ?_
      refine WL.alloc (C := #[.int .i64 0, .int .i64 0, .string (⟨#[]⟩ : ByteArray)]) rfl rfl rfl rfl Zr_100 rfl (fun b_2 => ?_)
      refine WL.store (i := 0) (vs := [.int .i64 x5.1.K, .int .i64 x5.1.N, .string x5.1.S]) (C' := [.int .i64 x5.1.K, .int .i64 x5.1.N, .string x5.1.S]) rfl rfl rfl Sz_100 rfl rfl rfl rfl rfl rfl ⟨rfl, rfl, rfl, trivial⟩ rfl ?_
      refine WL.q (q_assign rfl) rfl rfl rfl ?_
      refine WL.nil ?_
      refine WT.seq ?_
      refine WT.region ?_
      refine WL.q (q_move rfl) rfl rfl rfl ?_
      obtain ⟨x6, hx6, h⟩ := bind_some h
      refine WL.callL rfl rfl rfl rfl Fun_61 rfl (fun w1 hw => m_l_toBindS_ok hw.fro N p1 ph1 hx6) (fun v3 Φ_2 D2 le2 ho2 qq2 => ?_)
      replace ph1 := RSl.mono RTBind.mono le2 ph1
      replace h1 := RSl.mono RTBind.mono le2 h1
      replace hle := hle.trans le2
      obtain ⟨v4, G2, rfl, rfl, h2⟩ := qq2
      refine WL.q (q_assign rfl) rfl rfl rfl ?_
      refine WL.nil ?_
      refine WT.seq ?_
      refine WT.region ?_
      refine WL.q (q_loadN Tn_97 rfl (fun w1 hw => hw.rgL (i := 3) rfl 0 11 [.string p0.Op, .int .i64 p0.L.K, .string p0.L.S, .int .i64 p0.L.V.K, .int .i64 p0.L.V.N, .string p0.L.V.S, .int .i64 p0.R.K, .string p0.R.S, .int .i64 p0.R.V.K, .int .i64 p0.R.V.N, .string p0.R.V.S] rfl) rfl) rfl rfl rfl ?_
      obtain ⟨x7, hx7, h⟩ := bind_some h
      refine WL.call (c_pure Fun_60 rfl (fun w1 hw => m_l_toExpr_ok hw.fro N p0 hx7)) rfl rfl rfl (fun _ => ?_)
      refine WL.q (q_move rfl) rfl rfl rfl ?_
      obtain ⟨x8, hx8, h⟩ := bind_some h
      refine WL.call (c_pure Fun_62 rfl (fun w1 hw => m_i_Compute_ok hw.fro N x7 x6 h2 hx8)) rfl rfl rfl (fun _ => ?_)
      refine WL.q (q_move rfl) rfl rfl rfl ?_
      refine WL.q (q_extract rfl rfl) rfl rfl rfl ?_
      refine WL.q (q_extract rfl rfl) rfl rfl rfl ?_
      refine WL.alloc (C := #[.int .i64 0, .int .i64 0, .string (⟨#[]⟩ : ByteArray)]) rfl rfl rfl rfl Zr_100 rfl (fun b_3 => ?_)
      refine WL.store (i := 0) (vs := [.int .i64 x8.1.K, .int .i64 x8.1.N, .string x8.1.S]) (C' := [.int .i64 x8.1.K, .int .i64 x8.1.N, .string x8.1.S]) rfl rfl rfl Sz_100 rfl rfl rfl rfl rfl rfl ⟨rfl, rfl, rfl, trivial⟩ rfl ?_
      refine WL.q (q_assign rfl) rfl rfl rfl ?_
      refine WL.nil ?_
      refine WT.seq ?_
      refine WT.seq ?_
      refine WT.region ?_
      refine WL.q (q_loadN Tn_100 rfl (fun w1 hw => hw.rgL (i := 0) rfl 0 3 [.int .i64 x8.1.K, .int .i64 x8.1.N, .string x8.1.S] rfl) rfl) rfl rfl rfl ?_
      refine WL.q (q_loadN Tn_100 rfl (fun w1 hw => hw.rgL (i := 2) rfl 0 3 [.int .i64 x5.1.K, .int .i64 x5.1.N, .string x5.1.S] rfl) rfl) rfl rfl rfl ?_
      obtain ⟨x9, hx9, h⟩ := bind_some h
      refine WL.call (c_pure Fun_63 rfl (fun w1 hw => m_l_eqVal_ok hw.fro N x8.1 x5.1 hx9)) rfl rfl rfl (fun _ => ?_)
      refine WL.q (q_not rfl) rfl rfl rfl ?_
      refine WL.q (q_move rfl) rfl rfl rfl ?_
      obtain ⟨b1, hb_1, h⟩ := bind_some h
      refine WL.cutN 4 [(46, .bool b1), (1, pv1), (4, .bool false), (8, v3)] ?_ (fun K => ?_)
      rotate_left
      · refine WL.split (d := 42) rfl (fun c3 => ?_) (fun c3 => ?_)
        · replace hb_1 := ite_t hb_1 c3
          refine WL.no rfl rfl rfl rfl ?_
          refine WL.no rfl rfl rfl rfl ?_
          refine WL.no rfl rfl rfl rfl ?_
          refine WL.q (q_pick1 rfl rfl) rfl rfl rfl ?_
          cases hb_1
          exact WL.keep (by exact ⟨rfl, rfl, rfl, rfl, trivial⟩) K
        · replace hb_1 := ite_f hb_1 c3
          refine WL.yes rfl rfl ?_
          refine WL.q (q_move rfl) rfl rfl rfl ?_
          refine WL.yes rfl rfl ?_
          refine WL.q (q_move rfl) rfl rfl rfl ?_
          refine WL.yes rfl rfl ?_
          refine WL.q (q_bne Bo_4 rfl rfl) rfl rfl rfl ?_
          refine WL.q (q_pick0 rfl rfl) rfl rfl rfl ?_
          cases hb_1
          exact WL.keep (by exact ⟨rfl, rfl, rfl, rfl, trivial⟩) K
      refine WL.nil ?_
      refine WT.cond rfl (fun c4 => ?_) (fun c4 => ?_)
      · replace h := ite_t h c4
        refine WT.seq ?_
        refine WT.region ?_
        refine WL.q (q_assign rfl) rfl rfl rfl ?_
        refine WL.nil ?_
        refine WT.ret Try.func13 (resOk.one rfl) (fun w1 hw => ?_)
        cases h
        exact post_of_St hw
      · replace h := ite_f h c4
        refine WT.skip ?_
        refine WT.seq ?_
        refine WT.seq ?_
        refine WT.region ?_
        refine WL.q (q_move rfl) rfl rfl rfl ?_
        refine WL.q (q_move rfl) rfl rfl rfl ?_
        obtain ⟨x10, hx10, h⟩ := bind_some h
        refine WL.callL rfl rfl rfl rfl Fun_61 rfl (fun w1 hw => m_l_toBindS_ok hw.fro N p1 ph1 hx10) (fun v5 Φ_3 D3 le3 ho3 qq3 => ?_)
        replace ph1 := RSl.mono RTBind.mono le3 ph1
        replace h2 := RSl.mono RTBind.mono le3 h2
        replace hle := hle.trans le3
        obtain ⟨v6, G3, rfl, rfl, h3⟩ := qq3
        obtain ⟨x11, hx11, h⟩ := bind_some h
        refine WL.call (c_pure Fun_64 rfl (fun w1 hw => m_l_eqBindS_ok hw.fro N x6 x10 h2 h3 hx11)) rfl rfl rfl (fun _ => ?_)
        refine WL.q (q_not rfl) rfl rfl rfl ?_
        refine WL.nil ?_
        refine WT.cond rfl (fun c5 => ?_) (fun c5 => ?_)
        · replace h := ite_t h c5
          refine WT.seq ?_
          refine WT.region ?_
          refine WL.q (q_assign rfl) rfl rfl rfl ?_
          refine WL.nil ?_
          refine WT.ret Try.func13 (resOk.one rfl) (fun w1 hw => ?_)
          cases h
          exact post_of_St hw
        · replace h := ite_f h c5
          refine WT.skip ?_
          refine WT.seq ?_
          refine WT.region ?_
          refine WL.q (q_assign rfl) rfl rfl rfl ?_
          refine WL.nil ?_
          refine WT.ret Try.func13 (resOk.one rfl) (fun w1 hw => ?_)
          cases h
          exact post_of_St hw
theorem m_s_l11Same_ok {Φ : Hp} {w : World} (hΦ : In Φ w) (N : Nat) (p0 : (List Int)) (p1 : (List Int)) {pv0 : Value} {pG0 : List Nat} {pv1 : Value} {pG1 : List Nat} (ph0 : RSl (RI .i64) 1 Φ pG0 pv0 p0) (ph1 : RSl (RI .i64) 1 Φ pG1 pv1 p1) {r : Bool} (h : m_s_l11Same N p0 p1 = some r) :
    Calls Try.prog 79 [pv0, pv1].toArray w (Post (.bool r) w) := by
  refine enter Try.func79 rfl Try.ntmps79 rfl (St.start hΦ) ?_
  unfold m_s_l11Same at h
  refine WT.seq ?_
  refine WT.region ?_
  refine WL.q (q_assign rfl) rfl rfl rfl ?_
  refine WL.nil ?_
  refine WT.seq ?_
  refine WT.seq ?_
  refine WT.region ?_
  refine WL.q (q_move rfl) rfl rfl rfl ?_
  refine WL.q (q_lenR Sl_29 rfl rfl ph0) rfl rfl rfl ?_
  refine WL.q (q_move rfl) rfl rfl rfl ?_
  refine WL.q (q_lenR Sl_29 rfl rfl ph1) rfl rfl rfl ?_
  refine WL.q (q_neq rfl rfl) rfl rfl rfl ?_
  refine WL.nil ?_
  refine WT.cond rfl (fun c1 => ?_) (fun c1 => ?_)
  · replace h := ite_t h c1
    refine WT.seq ?_
    refine WT.region ?_
    refine WL.q (q_assign rfl) rfl rfl rfl ?_
    refine WL.nil ?_
    refine WT.ret Try.func79 (resOk.one rfl) (fun w1 hw => ?_)
    cases h
    exact post_of_St hw
  · replace h := ite_f h c1
    refine WT.skip ?_
    refine WT.seq ?_
    refine WT.seq ?_
    refine WT.region ?_
    refine WL.q (q_assign rfl) rfl rfl rfl ?_
    refine WL.nil ?_
    refine WT.block ?_
    refine WT.loop ?_
    refine WT.keep [(0, pv0), (1, pv1), (4, .bool false), (5, .int .i64 0)] ⟨rfl, rfl, rfl, rfl, trivial⟩ ?_
    refine loop_ind (σ := Int) (fun s => [(0, pv0), (1, pv1), (4, .bool false), (5, .int .i64 s)]) (fun s => St w Φ []) (fun m s => m_s_l11Same_l1 N p0 p1 m s = some r) (fun s hm => none_ne (show (none : Option (Bool)) = some r from hm)) (fun k ih s hm => ?_) N (0) h
    revert hm; revert s; intro s1 hm
    have h : m_s_l11Same_l1 N p0 p1 (k + 1) s1 = some r := hm
    show WT _ _ [(0, pv0), (1, pv1), (4, .bool false), (5, .int .i64 s1)] (St w Φ [])
    unfold m_s_l11Same_l1 at h
    refine WT.seq ?_
    refine WT.seq ?_
    refine WT.region ?_
    refine WL.q (q_move rfl) rfl rfl rfl ?_
    refine WL.q (q_move rfl) rfl rfl rfl ?_
    refine WL.q (q_lenR Sl_29 rfl rfl ph0) rfl rfl rfl ?_
    refine WL.q (q_lss rfl rfl) rfl rfl rfl ?_
    refine WL.nil ?_
    refine WT.cond rfl (fun c2 => ?_) (fun c2 => ?_)
    · replace h := ite_t h c2
      refine WT.skip ?_
      refine WT.seq ?_
      refine WT.block ?_
      refine WT.seq ?_
      refine WT.draw mixed (by kernel_rfl) (fun _ h => h.drew) ?_
      refine WQ.q (q_move rfl) rfl rfl rfl ?_
      refine WQ.q (q_move rfl) rfl rfl rfl ?_
      obtain ⟨x1, hx1, h⟩ := bind_some h
      obtain ⟨cs1, F1, -, g1, r1⟩ := ph0.el (idx_some hx1).2.2
      obtain ⟨rfl, -⟩ := r1
      refine WQ.q (q_indexAddr Sl_29 rfl rfl ph0 hx1) rfl rfl rfl ?_
      refine WQ.q (q_load1 T1_3 rfl (fun w1 hw => (g1.of_eq 0 1 rfl rfl : rg _ _ _ [.int .i64 x1]).rangeAt hw.fro)) rfl rfl rfl ?_
      refine WQ.q (q_move rfl) rfl rfl rfl ?_
      refine WQ.q (q_move rfl) rfl rfl rfl ?_
      obtain ⟨x2, hx2, h⟩ := bind_some h
      obtain ⟨cs2, F2, -, g2, r2⟩ := ph1.el (idx_some hx2).2.2
      obtain ⟨rfl, -⟩ := r2
      refine WQ.q (q_indexAddr Sl_29 rfl rfl ph1 hx2) rfl rfl rfl ?_
      refine WQ.q (q_load1 T1_3 rfl (fun w1 hw => (g2.of_eq 0 1 rfl rfl : rg _ _ _ [.int .i64 x2]).rangeAt hw.fro)) rfl rfl rfl ?_
      refine WQ.q (q_neq rfl rfl) rfl rfl rfl ?_
      refine WQ.nil ?_
      refine WT.cond rfl (fun c3 => ?_) (fun c3 => ?_)
      · replace h := ite_t h c3
        refine WT.seq ?_
        refine WT.region ?_
        refine WL.q (q_assign rfl) rfl rfl rfl ?_
        refine WL.nil ?_
        refine WT.ret Try.func79 (resOk.one rfl) (fun w1 hw => ?_)
        cases h
        exact post_of_St hw
      · replace h := ite_f h c3
        refine WT.skip ?_
        refine WT.inBlock ?_
        refine WT.region ?_
        refine WL.q (q_move rfl) rfl rfl rfl ?_
        refine WL.q (q_add rfl rfl) rfl rfl rfl ?_
        refine WL.q (q_assign rfl) rfl rfl rfl ?_
        refine WL.nil ?_
        refine WT.inLoop (WT.mono (l' := [(0, pv0), (1, pv1), (4, .bool false), (5, .int .i64 (IntKind.i64.wrap (s1 + 1)))]) (S' := St w Φ []) ⟨rfl, rfl, rfl, rfl, trivial⟩ (fun w1 hw => hw.drop 0) ?_)
        exact ih (IntKind.i64.wrap (s1 + 1)) h
    · replace h := ite_f h c2
      refine WT.exit rfl ?_
      refine WT.seq ?_
      refine WT.region ?_
      refine WL.q (q_assign rfl) rfl rfl rfl ?_
      refine WL.nil ?_
      refine WT.ret Try.func79 (resOk.one rfl) (fun w1 hw => ?_)
      cases h
      exact post_of_St hw
theorem m_s_l3SameVals_ok {Φ : Hp} {w : World} (hΦ : In Φ w) (N : Nat) (p0 : (List TVal)) (p1 : (List TVal)) {pv0 : Value} {pG0 : List Nat} {pv1 : Value} {pG1 : List Nat} (ph0 : RSl RTVal 3 Φ pG0 pv0 p0) (ph1 : RSl RTVal 3 Φ pG1 pv1 p1) {r : Bool} (h : m_s_l3SameVals N p0 p1 = some r) :
    Calls Try.prog 80 [pv0, pv1].toArray w (Post (.bool r) w) := by
  refine enter Try.func80 rfl Try.ntmps80 rfl (St.start hΦ) ?_
  unfold m_s_l3SameVals at h
  refine WT.seq ?_
  refine WT.region ?_
  refine WL.q (q_assign rfl) rfl rfl rfl ?_
  refine WL.nil ?_
  refine WT.seq ?_
  refine WT.seq ?_
  refine WT.region ?_
  refine WL.q (q_move rfl) rfl rfl rfl ?_
  refine WL.q (q_lenR Sl_44 rfl rfl ph0) rfl rfl rfl ?_
  refine WL.q (q_move rfl) rfl rfl rfl ?_
  refine WL.q (q_lenR Sl_44 rfl rfl ph1) rfl rfl rfl ?_
  refine WL.q (q_neq rfl rfl) rfl rfl rfl ?_
  refine WL.nil ?_
  refine WT.cond rfl (fun c1 => ?_) (fun c1 => ?_)
  · replace h := ite_t h c1
    refine WT.seq ?_
    refine WT.region ?_
    refine WL.q (q_assign rfl) rfl rfl rfl ?_
    refine WL.nil ?_
    refine WT.ret Try.func80 (resOk.one rfl) (fun w1 hw => ?_)
    cases h
    exact post_of_St hw
  · replace h := ite_f h c1
    refine WT.skip ?_
    refine WT.seq ?_
    refine WT.seq ?_
    refine WT.region ?_
    refine WL.q (q_assign rfl) rfl rfl rfl ?_
    refine WL.nil ?_
    refine WT.block ?_
    refine WT.loop ?_
    refine WT.keep [(0, pv0), (1, pv1), (4, .bool false), (5, .int .i64 0)] ⟨rfl, rfl, rfl, rfl, trivial⟩ ?_
    refine loop_ind (σ := Int) (fun s => [(0, pv0), (1, pv1), (4, .bool false), (5, .int .i64 s)]) (fun s => St w Φ []) (fun m s => m_s_l3SameVals_l1 N p0 p1 m s = some r) (fun s hm => none_ne (show (none : Option (Bool)) = some r from hm)) (fun k ih s hm => ?_) N (0) h
    revert hm; revert s; intro s1 hm
    have h : m_s_l3SameVals_l1 N p0 p1 (k + 1) s1 = some r := hm
    show WT _ _ [(0, pv0), (1, pv1), (4, .bool false), (5, .int .i64 s1)] (St w Φ [])
    unfold m_s_l3SameVals_l1 at h
    refine WT.seq ?_
    refine WT.seq ?_
    refine WT.region ?_
    refine WL.q (q_move rfl) rfl rfl rfl ?_
    refine WL.q (q_move rfl) rfl rfl rfl ?_
    refine WL.q (q_lenR Sl_44 rfl rfl ph0) rfl rfl rfl ?_
    refine WL.q (q_lss rfl rfl) rfl rfl rfl ?_
    refine WL.nil ?_
    refine WT.cond rfl (fun c2 => ?_) (fun c2 => ?_)
    · replace h := ite_t h c2
      refine WT.skip ?_
      refine WT.seq ?_
      refine WT.block ?_
      refine WT.seq ?_
      refine WT.draw mixed (by kernel_rfl) (fun _ h => h.drew) ?_
      refine WQ.q (q_move rfl) rfl rfl rfl ?_
      refine WQ.q (q_move rfl) rfl rfl rfl ?_
      obtain ⟨x1, hx1, h⟩ := bind_some h
      obtain ⟨cs1, F1, -, g1, r1⟩ := ph0.el (idx_some hx1).2.2
      obtain ⟨rfl, -⟩ := r1
      refine WQ.q (q_indexAddr Sl_44 rfl rfl ph0 hx1) rfl rfl rfl ?_
      refine WQ.q (q_loadN Tn_100 rfl (fun w1 hw => (g1.of_eq 0 3 rfl rfl : rg _ _ _ [.int .i64 x1.K, .int .i64 x1.N, .string x1.S]).rangeAt hw.fro) rfl) rfl rfl rfl ?_
      refine WQ.q (q_move rfl) rfl rfl rfl ?_
      refine WQ.q (q_move rfl) rfl rfl rfl ?_
      obtain ⟨x2, hx2, h⟩ := bind_some h
      obtain ⟨cs2, F2, -, g2, r2⟩ := ph1.el (idx_some hx2).2.2
      obtain ⟨rfl, -⟩ := r2
      refine WQ.q (q_indexAddr Sl_44 rfl rfl ph1 hx2) rfl rfl rfl ?_
      refine WQ.q (q_loadN Tn_100 rfl (fun w1 hw => (g2.of_eq 0 3 rfl rfl : rg _ _ _ [.int .i64 x2.K, .int .i64 x2.N, .string x2.S]).rangeAt hw.fro) rfl) rfl rfl rfl ?_
      refine WQ.q (q_neA EqT_100 rfl rfl rfl (r := eqT_TVal x1 x2) rfl) rfl rfl rfl ?_
      refine WQ.nil ?_
      refine WT.cond rfl (fun c3 => ?_) (fun c3 => ?_)
      · replace h := ite_t h c3
        refine WT.seq ?_
        refine WT.region ?_
        refine WL.q (q_assign rfl) rfl rfl rfl ?_
        refine WL.nil ?_
        refine WT.ret Try.func80 (resOk.one rfl) (fun w1 hw => ?_)
        cases h
        exact post_of_St hw
      · replace h := ite_f h c3
        refine WT.skip ?_
        refine WT.inBlock ?_
        refine WT.region ?_
        refine WL.q (q_move rfl) rfl rfl rfl ?_
        refine WL.q (q_add rfl rfl) rfl rfl rfl ?_
        refine WL.q (q_assign rfl) rfl rfl rfl ?_
        refine WL.nil ?_
        refine WT.inLoop (WT.mono (l' := [(0, pv0), (1, pv1), (4, .bool false), (5, .int .i64 (IntKind.i64.wrap (s1 + 1)))]) (S' := St w Φ []) ⟨rfl, rfl, rfl, rfl, trivial⟩ (fun w1 hw => hw.drop 0) ?_)
        exact ih (IntKind.i64.wrap (s1 + 1)) h
    · replace h := ite_f h c2
      refine WT.exit rfl ?_
      refine WT.seq ?_
      refine WT.region ?_
      refine WL.q (q_assign rfl) rfl rfl rfl ?_
      refine WL.nil ?_
      refine WT.ret Try.func80 (resOk.one rfl) (fun w1 hw => ?_)
      cases h
      exact post_of_St hw
theorem m_s_SameAlpha_ok {Φ : Hp} {w : World} (hΦ : In Φ w) (N : Nat) (p0 : TAlpha) (p1 : TAlpha) {pv0_0 : Value} {pG0_0 : List Nat} {pv0_1 : Value} {pG0_1 : List Nat} {pv1_0 : Value} {pG1_0 : List Nat} {pv1_1 : Value} {pG1_1 : List Nat} (ph0_0 : RSl RTVal 3 Φ pG0_0 pv0_0 p0.Consts) (ph0_1 : RSl (RI .i64) 1 Φ pG0_1 pv0_1 p0.At) (ph1_0 : RSl RTVal 3 Φ pG1_0 pv1_0 p1.Consts) (ph1_1 : RSl (RI .i64) 1 Φ pG1_1 pv1_1 p1.At) {r : Bool} (h : m_s_SameAlpha N p0 p1 = some r) :
    Calls Try.prog 25 [.agg [.string p0.Kind, .int .i64 p0.N, pv0_0, pv0_1].toArray, .agg [.string p1.Kind, .int .i64 p1.N, pv1_0, pv1_1].toArray].toArray w (Post (.bool r) w) := by
  refine enter Try.func25 rfl Try.ntmps25 rfl (St.start hΦ) ?_
  unfold m_s_SameAlpha at h
  refine WT.seq ?_
  refine WT.region ?_
  refine WL.box (C := #[.string p0.Kind, .int .i64 p0.N, pv0_0, pv0_1]) rfl rfl rfl rfl rfl rfl (fun b_1 => ?_)
  refine WL.box (C := #[.string p1.Kind, .int .i64 p1.N, pv1_0, pv1_1]) rfl rfl rfl rfl rfl rfl (fun b_2 => ?_)
  refine WL.q (q_assign rfl) rfl rfl rfl ?_
  refine WL.nil ?_
  refine WT.seq ?_
  refine WT.region ?_
  refine WL.q (q_fieldAddr Fld_46_0 rfl) rfl rfl rfl ?_
  refine WL.q (q_load1 T1_9 rfl (fun w1 hw => hw.rgL (i := 1) rfl 0 1 [.string p0.Kind] rfl)) rfl rfl rfl ?_
  refine WL.q (q_fieldAddr Fld_46_0 rfl) rfl rfl rfl ?_
  refine WL.q (q_load1 T1_9 rfl (fun w1 hw => hw.rgL (i := 0) rfl 0 1 [.string p1.Kind] rfl)) rfl rfl rfl ?_
  refine WL.q (q_seq rfl rfl) rfl rfl rfl ?_
  refine WL.q (q_move rfl) rfl rfl rfl ?_
  obtain ⟨b1, hb_1, h⟩ := bind_some h
  refine WL.cutN 6 [(16, .bool b1), (2, .pointer (some ⟨b_1, 0, none⟩)), (3, .pointer (some ⟨b_2, 0, none⟩)), (4, .bool false)] ?_ (fun K => ?_)
  rotate_left
  · refine WL.split (d := 10) rfl (fun c1 => ?_) (fun c1 => ?_)
    · replace hb_1 := ite_t hb_1 c1
      refine WL.yes rfl rfl ?_
      refine WL.q (q_fieldAddr Fld_46_1 rfl) rfl rfl rfl ?_
      refine WL.yes rfl rfl ?_
      refine WL.q (q_load1 T1_3 rfl (fun w1 hw => hw.rgL (i := 1) rfl 1 1 [.int .i64 p0.N] rfl)) rfl rfl rfl ?_
      refine WL.yes rfl rfl ?_
      refine WL.q (q_fieldAddr Fld_46_1 rfl) rfl rfl rfl ?_
      refine WL.yes rfl rfl ?_
      refine WL.q (q_load1 T1_3 rfl (fun w1 hw => hw.rgL (i := 0) rfl 1 1 [.int .i64 p1.N] rfl)) rfl rfl rfl ?_
      refine WL.yes rfl rfl ?_
      refine WL.q (q_eql rfl rfl) rfl rfl rfl ?_
      refine WL.q (q_pick1 rfl rfl) rfl rfl rfl ?_
      cases hb_1
      exact WL.keep (by exact ⟨rfl, rfl, rfl, rfl, trivial⟩) K
    · replace hb_1 := ite_f hb_1 c1
      refine WL.no rfl rfl rfl rfl ?_
      refine WL.no rfl rfl rfl rfl ?_
      refine WL.no rfl rfl rfl rfl ?_
      refine WL.no rfl rfl rfl rfl ?_
      refine WL.no rfl rfl rfl rfl ?_
      refine WL.q (q_pick0 rfl rfl) rfl rfl rfl ?_
      cases hb_1
      exact WL.keep (by exact ⟨rfl, rfl, rfl, rfl, trivial⟩) K
  refine WL.q (q_move rfl) rfl rfl rfl ?_
  obtain ⟨b2, hb_2, h⟩ := bind_some h
  refine WL.cutN 6 [(23, .bool b2), (2, .pointer (some ⟨b_1, 0, none⟩)), (3, .pointer (some ⟨b_2, 0, none⟩)), (4, .bool false)] ?_ (fun K => ?_)
  rotate_left
  · refine WL.split (d := 17) rfl (fun c2 => ?_) (fun c2 => ?_)
    · replace hb_2 := ite_t hb_2 c2
      refine WL.yes rfl rfl ?_
      refine WL.q (q_fieldAddr Fld_46_3 rfl) rfl rfl rfl ?_
      refine WL.yes rfl rfl ?_
      refine WL.q (q_load1 T1_29 rfl (fun w1 hw => hw.rgL (i := 1) rfl 3 1 [pv0_1] rfl)) rfl rfl rfl ?_
      refine WL.yes rfl rfl ?_
      refine WL.q (q_fieldAddr Fld_46_3 rfl) rfl rfl rfl ?_
      refine WL.yes rfl rfl ?_
      refine WL.q (q_load1 T1_29 rfl (fun w1 hw => hw.rgL (i := 0) rfl 3 1 [pv1_1] rfl)) rfl rfl rfl ?_
      refine WL.yes rfl rfl ?_
      obtain ⟨x1, hx1, hb_2⟩ := bind_some hb_2
      refine WL.call (c_pure Fun_79 rfl (fun w1 hw => m_s_l11Same_ok hw.fro N p0.At p1.At ph0_1 ph1_1 hx1)) rfl rfl rfl (fun _ => ?_)
      refine WL.q (q_pick1 rfl rfl) rfl rfl rfl ?_
      cases hb_2
      exact WL.keep (by exact ⟨rfl, rfl, rfl, rfl, trivial⟩) K
    · replace hb_2 := ite_f hb_2 c2
      refine WL.no rfl rfl rfl rfl ?_
      refine WL.no rfl rfl rfl rfl ?_
      refine WL.no rfl rfl rfl rfl ?_
      refine WL.no rfl rfl rfl rfl ?_
      refine WL.no rfl rfl rfl rfl ?_
      refine WL.q (q_pick0 rfl rfl) rfl rfl rfl ?_
      cases hb_2
      exact WL.keep (by exact ⟨rfl, rfl, rfl, rfl, trivial⟩) K
  refine WL.q (q_move rfl) rfl rfl rfl ?_
  obtain ⟨b3, hb_3, h⟩ := bind_some h
  refine WL.cutN 6 [(30, .bool b3), (4, .bool false)] ?_ (fun K => ?_)
  rotate_left
  · refine WL.split (d := 24) rfl (fun c3 => ?_) (fun c3 => ?_)
    · replace hb_3 := ite_t hb_3 c3
      refine WL.yes rfl rfl ?_
      refine WL.q (q_fieldAddr Fld_46_2 rfl) rfl rfl rfl ?_
      refine WL.yes rfl rfl ?_
      refine WL.q (q_load1 T1_44 rfl (fun w1 hw => hw.rgL (i := 1) rfl 2 1 [pv0_0] rfl)) rfl rfl rfl ?_
      refine WL.yes rfl rfl ?_
      refine WL.q (q_fieldAddr Fld_46_2 rfl) rfl rfl rfl ?_
      refine WL.yes rfl rfl ?_
      refine WL.q (q_load1 T1_44 rfl (fun w1 hw => hw.rgL (i := 0) rfl 2 1 [pv1_0] rfl)) rfl rfl rfl ?_
      refine WL.yes rfl rfl ?_
      obtain ⟨x2, hx2, hb_3⟩ := bind_some hb_3
      refine WL.call (c_pure Fun_80 rfl (fun w1 hw => m_s_l3SameVals_ok hw.fro N p0.Consts p1.Consts ph0_0 ph1_0 hx2)) rfl rfl rfl (fun _ => ?_)
      refine WL.q (q_pick1 rfl rfl) rfl rfl rfl ?_
      cases hb_3
      exact WL.keep (by exact ⟨rfl, rfl, trivial⟩) K
    · replace hb_3 := ite_f hb_3 c3
      refine WL.no rfl rfl rfl rfl ?_
      refine WL.no rfl rfl rfl rfl ?_
      refine WL.no rfl rfl rfl rfl ?_
      refine WL.no rfl rfl rfl rfl ?_
      refine WL.no rfl rfl rfl rfl ?_
      refine WL.q (q_pick0 rfl rfl) rfl rfl rfl ?_
      cases hb_3
      exact WL.keep (by exact ⟨rfl, rfl, trivial⟩) K
  refine WL.q (q_assign rfl) rfl rfl rfl ?_
  refine WL.nil ?_
  refine WT.ret Try.func25 (resOk.one rfl) (fun w1 hw => ?_)
  cases h
  exact post_of_St hw
theorem m_sl_Equal_Sint_int_ok {Φ : Hp} {w : World} (hΦ : In Φ w) (N : Nat) (p0 : (List Int)) (p1 : (List Int)) {pv0 : Value} {pG0 : List Nat} {pv1 : Value} {pG1 : List Nat} (ph0 : RSl (RI .i64) 1 Φ pG0 pv0 p0) (ph1 : RSl (RI .i64) 1 Φ pG1 pv1 p1) {r : Bool} (h : m_sl_Equal_Sint_int N p0 p1 = some r) :
    Calls Try.prog 70 [pv0, pv1].toArray w (Post (.bool r) w) := by
  refine enter Try.func70 rfl Try.ntmps70 rfl (St.start hΦ) ?_
  unfold m_sl_Equal_Sint_int at h
  refine WT.seq ?_
  refine WT.region ?_
  refine WL.q (q_assign rfl) rfl rfl rfl ?_
  refine WL.nil ?_
  refine WT.seq ?_
  refine WT.seq ?_
  refine WT.region ?_
  refine WL.q (q_move rfl) rfl rfl rfl ?_
  refine WL.q (q_lenR Sl_29 rfl rfl ph0) rfl rfl rfl ?_
  refine WL.q (q_move rfl) rfl rfl rfl ?_
  refine WL.q (q_lenR Sl_29 rfl rfl ph1) rfl rfl rfl ?_
  refine WL.q (q_neq rfl rfl) rfl rfl rfl ?_
  refine WL.nil ?_
  refine WT.cond rfl (fun c1 => ?_) (fun c1 => ?_)
  · replace h := ite_t h c1
    refine WT.seq ?_
    refine WT.region ?_
    refine WL.q (q_assign rfl) rfl rfl rfl ?_
    refine WL.nil ?_
    refine WT.ret Try.func70 (resOk.one rfl) (fun w1 hw => ?_)
    cases h
    exact post_of_St hw
  · replace h := ite_f h c1
    refine WT.skip ?_
    refine WT.seq ?_
    refine WT.seq ?_
    refine WT.region ?_
    refine WL.q (q_move rfl) rfl rfl rfl ?_
    refine WL.q (q_lenR Sl_29 rfl rfl ph0) rfl rfl rfl ?_
    refine WL.q (q_move rfl) rfl rfl rfl ?_
    refine WL.nil ?_
    refine WT.block ?_
    refine WT.loop ?_
    refine WT.keep [(0, pv0), (1, pv1), (4, .bool false), (12, .int .i64 (p0.length : Int)), (13, .int .i64 0)] ⟨rfl, rfl, rfl, rfl, rfl, trivial⟩ ?_
    refine loop_ind (σ := Int) (fun s => [(0, pv0), (1, pv1), (4, .bool false), (12, .int .i64 (p0.length : Int)), (13, .int .i64 s)]) (fun s => St w Φ []) (fun m s => m_sl_Equal_Sint_int_l1 N p0 p1 m s = some r) (fun s hm => none_ne (show (none : Option (Bool)) = some r from hm)) (fun k ih s hm => ?_) N (0) h
    revert hm; revert s; intro s1 hm
    have h : m_sl_Equal_Sint_int_l1 N p0 p1 (k + 1) s1 = some r := hm
    show WT _ _ [(0, pv0), (1, pv1), (4, .bool false), (12, .int .i64 (p0.length : Int)), (13, .int .i64 s1)] (St w Φ [])
    unfold m_sl_Equal_Sint_int_l1 at h
    refine WT.seq ?_
    refine WT.region ?_
    refine WL.q (q_lss rfl rfl) rfl rfl rfl ?_
    refine WL.nil ?_
    refine WT.seq ?_
    refine WT.cond rfl (fun c2 => ?_) (fun c2 => ?_)
    · replace h := ite_t h c2
      refine WT.skip ?_
      refine WT.seq ?_
      refine WT.block ?_
      refine WT.seq ?_
      refine WT.region ?_
      refine WL.q (q_move rfl) rfl rfl rfl ?_
      refine WL.q (q_assign rfl) rfl rfl rfl ?_
      refine WL.nil ?_
      refine WT.seq ?_
      refine WT.draw mixed (by kernel_rfl) (fun _ h => h.drew) ?_
      refine WQ.q (q_move rfl) rfl rfl rfl ?_
      refine WQ.q (q_move rfl) rfl rfl rfl ?_
      obtain ⟨x1, hx1, h⟩ := bind_some h
      obtain ⟨cs1, F1, -, g1, r1⟩ := ph0.el (idx_some hx1).2.2
      obtain ⟨rfl, -⟩ := r1
      refine WQ.q (q_indexAddr Sl_29 rfl rfl ph0 hx1) rfl rfl rfl ?_
      refine WQ.q (q_load1 T1_3 rfl (fun w1 hw => (g1.of_eq 0 1 rfl rfl : rg _ _ _ [.int .i64 x1]).rangeAt hw.fro)) rfl rfl rfl ?_
      refine WQ.q (q_move rfl) rfl rfl rfl ?_
      refine WQ.q (q_move rfl) rfl rfl rfl ?_
      obtain ⟨x2, hx2, h⟩ := bind_some h
      obtain ⟨cs2, F2, -, g2, r2⟩ := ph1.el (idx_some hx2).2.2
      obtain ⟨rfl, -⟩ := r2
      refine WQ.q (q_indexAddr Sl_29 rfl rfl ph1 hx2) rfl rfl rfl ?_
      refine WQ.q (q_load1 T1_3 rfl (fun w1 hw => (g2.of_eq 0 1 rfl rfl : rg _ _ _ [.int .i64 x2]).rangeAt hw.fro)) rfl rfl rfl ?_
      refine WQ.q (q_neq rfl rfl) rfl rfl rfl ?_
      refine WQ.nil ?_
      refine WT.cond rfl (fun c3 => ?_) (fun c3 => ?_)
      · replace h := ite_t h c3
        refine WT.seq ?_
        refine WT.region ?_
        refine WL.q (q_assign rfl) rfl rfl rfl ?_
        refine WL.nil ?_
        refine WT.ret Try.func70 (resOk.one rfl) (fun w1 hw => ?_)
        cases h
        exact post_of_St hw
      · replace h := ite_f h c3
        refine WT.skip ?_
        refine WT.inBlock ?_
        refine WT.region ?_
        refine WL.q (q_add rfl rfl) rfl rfl rfl ?_
        refine WL.q (q_move rfl) rfl rfl rfl ?_
        refine WL.nil ?_
        refine WT.inLoop (WT.mono (l' := [(0, pv0), (1, pv1), (4, .bool false), (12, .int .i64 (p0.length : Int)), (13, .int .i64 (IntKind.i64.wrap (s1 + 1)))]) (S' := St w Φ []) ⟨rfl, rfl, rfl, rfl, rfl, trivial⟩ (fun w1 hw => hw.drop 0) ?_)
        exact ih (IntKind.i64.wrap (s1 + 1)) h
    · replace h := ite_f h c2
      refine WT.exit rfl ?_
      refine WT.seq ?_
      refine WT.region ?_
      refine WL.q (q_assign rfl) rfl rfl rfl ?_
      refine WL.nil ?_
      refine WT.ret Try.func70 (resOk.one rfl) (fun w1 hw => ?_)
      cases h
      exact post_of_St hw
theorem m_sl_Equal_Si_Val_i_Val_ok {Φ : Hp} {w : World} (hΦ : In Φ w) (N : Nat) (p0 : (List TVal)) (p1 : (List TVal)) {pv0 : Value} {pG0 : List Nat} {pv1 : Value} {pG1 : List Nat} (ph0 : RSl RTVal 3 Φ pG0 pv0 p0) (ph1 : RSl RTVal 3 Φ pG1 pv1 p1) {r : Bool} (h : m_sl_Equal_Si_Val_i_Val N p0 p1 = some r) :
    Calls Try.prog 83 [pv0, pv1].toArray w (Post (.bool r) w) := by
  refine enter Try.func83 rfl Try.ntmps83 rfl (St.start hΦ) ?_
  unfold m_sl_Equal_Si_Val_i_Val at h
  refine WT.seq ?_
  refine WT.region ?_
  refine WL.q (q_assign rfl) rfl rfl rfl ?_
  refine WL.nil ?_
  refine WT.seq ?_
  refine WT.seq ?_
  refine WT.region ?_
  refine WL.q (q_move rfl) rfl rfl rfl ?_
  refine WL.q (q_lenR Sl_44 rfl rfl ph0) rfl rfl rfl ?_
  refine WL.q (q_move rfl) rfl rfl rfl ?_
  refine WL.q (q_lenR Sl_44 rfl rfl ph1) rfl rfl rfl ?_
  refine WL.q (q_neq rfl rfl) rfl rfl rfl ?_
  refine WL.nil ?_
  refine WT.cond rfl (fun c1 => ?_) (fun c1 => ?_)
  · replace h := ite_t h c1
    refine WT.seq ?_
    refine WT.region ?_
    refine WL.q (q_assign rfl) rfl rfl rfl ?_
    refine WL.nil ?_
    refine WT.ret Try.func83 (resOk.one rfl) (fun w1 hw => ?_)
    cases h
    exact post_of_St hw
  · replace h := ite_f h c1
    refine WT.skip ?_
    refine WT.seq ?_
    refine WT.seq ?_
    refine WT.region ?_
    refine WL.q (q_move rfl) rfl rfl rfl ?_
    refine WL.q (q_lenR Sl_44 rfl rfl ph0) rfl rfl rfl ?_
    refine WL.q (q_move rfl) rfl rfl rfl ?_
    refine WL.nil ?_
    refine WT.block ?_
    refine WT.loop ?_
    refine WT.keep [(0, pv0), (1, pv1), (4, .bool false), (12, .int .i64 (p0.length : Int)), (13, .int .i64 0)] ⟨rfl, rfl, rfl, rfl, rfl, trivial⟩ ?_
    refine loop_ind (σ := Int) (fun s => [(0, pv0), (1, pv1), (4, .bool false), (12, .int .i64 (p0.length : Int)), (13, .int .i64 s)]) (fun s => St w Φ []) (fun m s => m_sl_Equal_Si_Val_i_Val_l1 N p0 p1 m s = some r) (fun s hm => none_ne (show (none : Option (Bool)) = some r from hm)) (fun k ih s hm => ?_) N (0) h
    revert hm; revert s; intro s1 hm
    have h : m_sl_Equal_Si_Val_i_Val_l1 N p0 p1 (k + 1) s1 = some r := hm
    show WT _ _ [(0, pv0), (1, pv1), (4, .bool false), (12, .int .i64 (p0.length : Int)), (13, .int .i64 s1)] (St w Φ [])
    unfold m_sl_Equal_Si_Val_i_Val_l1 at h
    refine WT.seq ?_
    refine WT.region ?_
    refine WL.q (q_lss rfl rfl) rfl rfl rfl ?_
    refine WL.nil ?_
    refine WT.seq ?_
    refine WT.cond rfl (fun c2 => ?_) (fun c2 => ?_)
    · replace h := ite_t h c2
      refine WT.skip ?_
      refine WT.seq ?_
      refine WT.block ?_
      refine WT.seq ?_
      refine WT.region ?_
      refine WL.q (q_move rfl) rfl rfl rfl ?_
      refine WL.q (q_assign rfl) rfl rfl rfl ?_
      refine WL.nil ?_
      refine WT.seq ?_
      refine WT.draw mixed (by kernel_rfl) (fun _ h => h.drew) ?_
      refine WQ.q (q_move rfl) rfl rfl rfl ?_
      refine WQ.q (q_move rfl) rfl rfl rfl ?_
      obtain ⟨x1, hx1, h⟩ := bind_some h
      obtain ⟨cs1, F1, -, g1, r1⟩ := ph0.el (idx_some hx1).2.2
      obtain ⟨rfl, -⟩ := r1
      refine WQ.q (q_indexAddr Sl_44 rfl rfl ph0 hx1) rfl rfl rfl ?_
      refine WQ.q (q_loadN Tn_100 rfl (fun w1 hw => (g1.of_eq 0 3 rfl rfl : rg _ _ _ [.int .i64 x1.K, .int .i64 x1.N, .string x1.S]).rangeAt hw.fro) rfl) rfl rfl rfl ?_
      refine WQ.q (q_move rfl) rfl rfl rfl ?_
      refine WQ.q (q_move rfl) rfl rfl rfl ?_
      obtain ⟨x2, hx2, h⟩ := bind_some h
      obtain ⟨cs2, F2, -, g2, r2⟩ := ph1.el (idx_some hx2).2.2
      obtain ⟨rfl, -⟩ := r2
      refine WQ.q (q_indexAddr Sl_44 rfl rfl ph1 hx2) rfl rfl rfl ?_
      refine WQ.q (q_loadN Tn_100 rfl (fun w1 hw => (g2.of_eq 0 3 rfl rfl : rg _ _ _ [.int .i64 x2.K, .int .i64 x2.N, .string x2.S]).rangeAt hw.fro) rfl) rfl rfl rfl ?_
      refine WQ.q (q_neA EqT_100 rfl rfl rfl (r := eqT_TVal x1 x2) rfl) rfl rfl rfl ?_
      refine WQ.nil ?_
      refine WT.cond rfl (fun c3 => ?_) (fun c3 => ?_)
      · replace h := ite_t h c3
        refine WT.seq ?_
        refine WT.region ?_
        refine WL.q (q_assign rfl) rfl rfl rfl ?_
        refine WL.nil ?_
        refine WT.ret Try.func83 (resOk.one rfl) (fun w1 hw => ?_)
        cases h
        exact post_of_St hw
      · replace h := ite_f h c3
        refine WT.skip ?_
        refine WT.inBlock ?_
        refine WT.region ?_
        refine WL.q (q_add rfl rfl) rfl rfl rfl ?_
        refine WL.q (q_move rfl) rfl rfl rfl ?_
        refine WL.nil ?_
        refine WT.inLoop (WT.mono (l' := [(0, pv0), (1, pv1), (4, .bool false), (12, .int .i64 (p0.length : Int)), (13, .int .i64 (IntKind.i64.wrap (s1 + 1)))]) (S' := St w Φ []) ⟨rfl, rfl, rfl, rfl, rfl, trivial⟩ (fun w1 hw => hw.drop 0) ?_)
        exact ih (IntKind.i64.wrap (s1 + 1)) h
    · replace h := ite_f h c2
      refine WT.exit rfl ?_
      refine WT.seq ?_
      refine WT.region ?_
      refine WL.q (q_assign rfl) rfl rfl rfl ?_
      refine WL.nil ?_
      refine WT.ret Try.func83 (resOk.one rfl) (fun w1 hw => ?_)
      cases h
      exact post_of_St hw
theorem m_i_SameAlpha_ok {Φ : Hp} {w : World} (hΦ : In Φ w) (N : Nat) (p0 : TAlpha) (p1 : TAlpha) {pv0_0 : Value} {pG0_0 : List Nat} {pv0_1 : Value} {pG0_1 : List Nat} {pv1_0 : Value} {pG1_0 : List Nat} {pv1_1 : Value} {pG1_1 : List Nat} (ph0_0 : RSl RTVal 3 Φ pG0_0 pv0_0 p0.Consts) (ph0_1 : RSl (RI .i64) 1 Φ pG0_1 pv0_1 p0.At) (ph1_0 : RSl RTVal 3 Φ pG1_0 pv1_0 p1.Consts) (ph1_1 : RSl (RI .i64) 1 Φ pG1_1 pv1_1 p1.At) {r : Bool} (h : m_i_SameAlpha N p0 p1 = some r) :
    Calls Try.prog 27 [.agg [.string p0.Kind, .int .i64 p0.N, pv0_0, pv0_1].toArray, .agg [.string p1.Kind, .int .i64 p1.N, pv1_0, pv1_1].toArray].toArray w (Post (.bool r) w) := by
  refine enter Try.func27 rfl Try.ntmps27 rfl (St.start hΦ) ?_
  unfold m_i_SameAlpha at h
  refine WT.seq ?_
  refine WT.region ?_
  refine WL.box (C := #[.string p0.Kind, .int .i64 p0.N, pv0_0, pv0_1]) rfl rfl rfl rfl rfl rfl (fun b_1 => ?_)
  refine WL.box (C := #[.string p1.Kind, .int .i64 p1.N, pv1_0, pv1_1]) rfl rfl rfl rfl rfl rfl (fun b_2 => ?_)
  refine WL.q (q_assign rfl) rfl rfl rfl ?_
  refine WL.nil ?_
  refine WT.seq ?_
  refine WT.region ?_
  refine WL.q (q_fieldAddr Fld_46_0 rfl) rfl rfl rfl ?_
  refine WL.q (q_load1 T1_9 rfl (fun w1 hw => hw.rgL (i := 1) rfl 0 1 [.string p0.Kind] rfl)) rfl rfl rfl ?_
  refine WL.q (q_fieldAddr Fld_46_0 rfl) rfl rfl rfl ?_
  refine WL.q (q_load1 T1_9 rfl (fun w1 hw => hw.rgL (i := 0) rfl 0 1 [.string p1.Kind] rfl)) rfl rfl rfl ?_
  refine WL.q (q_seq rfl rfl) rfl rfl rfl ?_
  refine WL.q (q_move rfl) rfl rfl rfl ?_
  obtain ⟨b1, hb_1, h⟩ := bind_some h
  refine WL.cutN 6 [(16, .bool b1), (2, .pointer (some ⟨b_1, 0, none⟩)), (3, .pointer (some ⟨b_2, 0, none⟩)), (4, .bool false)] ?_ (fun K => ?_)
  rotate_left
  · refine WL.split (d := 10) rfl (fun c1 => ?_) (fun c1 => ?_)
    · replace hb_1 := ite_t hb_1 c1
      refine WL.yes rfl rfl ?_
      refine WL.q (q_fieldAddr Fld_46_1 rfl) rfl rfl rfl ?_
      refine WL.yes rfl rfl ?_
      refine WL.q (q_load1 T1_3 rfl (fun w1 hw => hw.rgL (i := 1) rfl 1 1 [.int .i64 p0.N] rfl)) rfl rfl rfl ?_
      refine WL.yes rfl rfl ?_
      refine WL.q (q_fieldAddr Fld_46_1 rfl) rfl rfl rfl ?_
      refine WL.yes rfl rfl ?_
      refine WL.q (q_load1 T1_3 rfl (fun w1 hw => hw.rgL (i := 0) rfl 1 1 [.int .i64 p1.N] rfl)) rfl rfl rfl ?_
      refine WL.yes rfl rfl ?_
      refine WL.q (q_eql rfl rfl) rfl rfl rfl ?_
      refine WL.q (q_pick1 rfl rfl) rfl rfl rfl ?_
      cases hb_1
      exact WL.keep (by exact ⟨rfl, rfl, rfl, rfl, trivial⟩) K
    · replace hb_1 := ite_f hb_1 c1
      refine WL.no rfl rfl rfl rfl ?_
      refine WL.no rfl rfl rfl rfl ?_
      refine WL.no rfl rfl rfl rfl ?_
      refine WL.no rfl rfl rfl rfl ?_
      refine WL.no rfl rfl rfl rfl ?_
      refine WL.q (q_pick0 rfl rfl) rfl rfl rfl ?_
      cases hb_1
      exact WL.keep (by exact ⟨rfl, rfl, rfl, rfl, trivial⟩) K
  refine WL.q (q_move rfl) rfl rfl rfl ?_
  obtain ⟨b2, hb_2, h⟩ := bind_some h
  refine WL.cutN 6 [(23, .bool b2), (2, .pointer (some ⟨b_1, 0, none⟩)), (3, .pointer (some ⟨b_2, 0, none⟩)), (4, .bool false)] ?_ (fun K => ?_)
  rotate_left
  · refine WL.split (d := 17) rfl (fun c2 => ?_) (fun c2 => ?_)
    · replace hb_2 := ite_t hb_2 c2
      refine WL.yes rfl rfl ?_
      refine WL.q (q_fieldAddr Fld_46_2 rfl) rfl rfl rfl ?_
      refine WL.yes rfl rfl ?_
      refine WL.q (q_load1 T1_44 rfl (fun w1 hw => hw.rgL (i := 1) rfl 2 1 [pv0_0] rfl)) rfl rfl rfl ?_
      refine WL.yes rfl rfl ?_
      refine WL.q (q_fieldAddr Fld_46_2 rfl) rfl rfl rfl ?_
      refine WL.yes rfl rfl ?_
      refine WL.q (q_load1 T1_44 rfl (fun w1 hw => hw.rgL (i := 0) rfl 2 1 [pv1_0] rfl)) rfl rfl rfl ?_
      refine WL.yes rfl rfl ?_
      obtain ⟨x1, hx1, hb_2⟩ := bind_some hb_2
      refine WL.call (c_pure Fun_83 rfl (fun w1 hw => m_sl_Equal_Si_Val_i_Val_ok hw.fro N p0.Consts p1.Consts ph0_0 ph1_0 hx1)) rfl rfl rfl (fun _ => ?_)
      refine WL.q (q_pick1 rfl rfl) rfl rfl rfl ?_
      cases hb_2
      exact WL.keep (by exact ⟨rfl, rfl, rfl, rfl, trivial⟩) K
    · replace hb_2 := ite_f hb_2 c2
      refine WL.no rfl rfl rfl rfl ?_
      refine WL.no rfl rfl rfl rfl ?_
      refine WL.no rfl rfl rfl rfl ?_
      refine WL.no rfl rfl rfl rfl ?_
      refine WL.no rfl rfl rfl rfl ?_
      refine WL.q (q_pick0 rfl rfl) rfl rfl rfl ?_
      cases hb_2
      exact WL.keep (by exact ⟨rfl, rfl, rfl, rfl, trivial⟩) K
  refine WL.q (q_move rfl) rfl rfl rfl ?_
  obtain ⟨b3, hb_3, h⟩ := bind_some h
  refine WL.cutN 6 [(30, .bool b3), (4, .bool false)] ?_ (fun K => ?_)
  rotate_left
  · refine WL.split (d := 24) rfl (fun c3 => ?_) (fun c3 => ?_)
    · replace hb_3 := ite_t hb_3 c3
      refine WL.yes rfl rfl ?_
      refine WL.q (q_fieldAddr Fld_46_3 rfl) rfl rfl rfl ?_
      refine WL.yes rfl rfl ?_
      refine WL.q (q_load1 T1_29 rfl (fun w1 hw => hw.rgL (i := 1) rfl 3 1 [pv0_1] rfl)) rfl rfl rfl ?_
      refine WL.yes rfl rfl ?_
      refine WL.q (q_fieldAddr Fld_46_3 rfl) rfl rfl rfl ?_
      refine WL.yes rfl rfl ?_
      refine WL.q (q_load1 T1_29 rfl (fun w1 hw => hw.rgL (i := 0) rfl 3 1 [pv1_1] rfl)) rfl rfl rfl ?_
      refine WL.yes rfl rfl ?_
      obtain ⟨x2, hx2, hb_3⟩ := bind_some hb_3
      refine WL.call (c_pure Fun_70 rfl (fun w1 hw => m_sl_Equal_Sint_int_ok hw.fro N p0.At p1.At ph0_1 ph1_1 hx2)) rfl rfl rfl (fun _ => ?_)
      refine WL.q (q_pick1 rfl rfl) rfl rfl rfl ?_
      cases hb_3
      exact WL.keep (by exact ⟨rfl, rfl, trivial⟩) K
    · replace hb_3 := ite_f hb_3 c3
      refine WL.no rfl rfl rfl rfl ?_
      refine WL.no rfl rfl rfl rfl ?_
      refine WL.no rfl rfl rfl rfl ?_
      refine WL.no rfl rfl rfl rfl ?_
      refine WL.no rfl rfl rfl rfl ?_
      refine WL.q (q_pick0 rfl rfl) rfl rfl rfl ?_
      cases hb_3
      exact WL.keep (by exact ⟨rfl, rfl, trivial⟩) K
  refine WL.q (q_assign rfl) rfl rfl rfl ?_
  refine WL.nil ?_
  refine WT.ret Try.func27 (resOk.one rfl) (fun w1 hw => ?_)
  cases h
  exact post_of_St hw
theorem m_l_FnExactSameAlpha_ok {Φ : Hp} {w : World} (hΦ : In Φ w) (N : Nat) (p0 : TAlpha) (p1 : TAlpha) {pv0_0 : Value} {pG0_0 : List Nat} {pv0_1 : Value} {pG0_1 : List Nat} {pv1_0 : Value} {pG1_0 : List Nat} {pv1_1 : Value} {pG1_1 : List Nat} (ph0_0 : RSl RTVal 3 Φ pG0_0 pv0_0 p0.Consts) (ph0_1 : RSl (RI .i64) 1 Φ pG0_1 pv0_1 p0.At) (ph1_0 : RSl RTVal 3 Φ pG1_0 pv1_0 p1.Consts) (ph1_1 : RSl (RI .i64) 1 Φ pG1_1 pv1_1 p1.At) {r : Bool} (h : m_l_FnExactSameAlpha N p0 p1 = some r) :
    Calls Try.prog 5 [.agg [.string p0.Kind, .int .i64 p0.N, pv0_0, pv0_1].toArray, .agg [.string p1.Kind, .int .i64 p1.N, pv1_0, pv1_1].toArray].toArray w (Post (.bool r) w) := by
  refine enter Try.func5 rfl Try.ntmps5 rfl (St.start hΦ) ?_
  unfold m_l_FnExactSameAlpha at h
  have hle := Hle.refl Φ
  refine WT.seq ?_
  refine WT.region ?_
  refine WL.box (C := #[.string p0.Kind, .int .i64 p0.N, pv0_0, pv0_1]) rfl rfl rfl rfl rfl rfl (fun b_1 => ?_)
  refine WL.box (C := #[.string p1.Kind, .int .i64 p1.N, pv1_0, pv1_1]) rfl rfl rfl rfl rfl rfl (fun b_2 => ?_)
  refine WL.q (q_assign rfl) rfl rfl rfl ?_
  refine WL.nil ?_
  refine WT.seq ?_
  refine WT.region ?_
  refine WL.q (q_assign rfl) rfl rfl rfl ?_
  refine WL.nil ?_
  refine WT.seq ?_
  refine WT.region ?_
  refine WL.q (q_loadN Tn_41 rfl (fun w1 hw => hw.rgL (i := 1) rfl 0 4 [.string p0.Kind, .int .i64 p0.N, pv0_0, pv0_1] rfl) rfl) rfl rfl rfl ?_
  refine WL.q (q_move rfl) rfl rfl rfl ?_
  obtain ⟨x1, hx1, h⟩ := bind_some h
  refine WL.call (c_pure Fun_24 rfl (fun w1 hw => m_l_szAlpha_ok hw.fro N p0 1048576 ph0_0 ph0_1 hx1)) rfl rfl rfl (fun _ => ?_)
  refine WL.q (q_assign rfl) rfl rfl rfl ?_
  refine WL.nil ?_
  refine WT.seq ?_
  refine WT.seq ?_
  refine WT.region ?_
  refine WL.q (q_move rfl) rfl rfl rfl ?_
  refine WL.q (q_lss rfl rfl) rfl rfl rfl ?_
  refine WL.nil ?_
  refine WT.cond rfl (fun c1 => ?_) (fun c1 => ?_)
  · replace h := ite_t h c1
    refine WT.seq ?_
    refine WT.region ?_
    refine WL.q (q_assign rfl) rfl rfl rfl ?_
    refine WL.nil ?_
    refine WT.ret Try.func5 (resOk.one rfl) (fun w1 hw => ?_)
    cases h
    exact post_of_St hw
  · replace h := ite_f h c1
    refine WT.skip ?_
    refine WT.seq ?_
    refine WT.region ?_
    refine WL.q (q_loadN Tn_41 rfl (fun w1 hw => hw.rgL (i := 0) rfl 0 4 [.string p1.Kind, .int .i64 p1.N, pv1_0, pv1_1] rfl) rfl) rfl rfl rfl ?_
    refine WL.q (q_move rfl) rfl rfl rfl ?_
    obtain ⟨x2, hx2, h⟩ := bind_some h
    refine WL.call (c_pure Fun_24 rfl (fun w1 hw => m_l_szAlpha_ok hw.fro N p1 x1 ph1_0 ph1_1 hx2)) rfl rfl rfl (fun _ => ?_)
    refine WL.q (q_assign rfl) rfl rfl rfl ?_
    refine WL.nil ?_
    refine WT.seq ?_
    refine WT.seq ?_
    refine WT.region ?_
    refine WL.q (q_move rfl) rfl rfl rfl ?_
    refine WL.q (q_lss rfl rfl) rfl rfl rfl ?_
    refine WL.nil ?_
    refine WT.cond rfl (fun c2 => ?_) (fun c2 => ?_)
    · replace h := ite_t h c2
      refine WT.seq ?_
      refine WT.region ?_
      refine WL.q (q_assign rfl) rfl rfl rfl ?_
      refine WL.nil ?_
      refine WT.ret Try.func5 (resOk.one rfl) (fun w1 hw => ?_)
      cases h
      exact post_of_St hw
    · replace h := ite_f h c2
      refine WT.skip ?_
      refine WT.seq ?_
      refine WT.mix (Kn Φ [Ent.obj b_2 (.cells #[.string p1.Kind, .int .i64 p1.N, pv1_0, pv1_1] 41 (0, 0)), Ent.obj b_1 (.cells #[.string p0.Kind, .int .i64 p0.N, pv0_0, pv0_1] 41 (0, 0))]) (fun _ => true) mixed (fun _ h => h.drew) ?_
      refine WM.q 0 rfl (by kernel_rfl) (fun w1 hw => Kn.of_St (Hle.refl _) (AllIn.mem ⟨List.mem_of_getElem? (i := 0) rfl, List.mem_of_getElem? (i := 1) rfl, trivial⟩) hw) (q_loadN Tn_41 rfl (fun w1 hw => hw.rgL (i := 1) rfl 0 4 [.string p0.Kind, .int .i64 p0.N, pv0_0, pv0_1] rfl) rfl) rfl rfl rfl ?_
      refine WM.q 2 rfl (by kernel_rfl) (fun w1 hw => Kn.of_St (Hle.refl _) (AllIn.mem ⟨List.mem_of_getElem? (i := 0) rfl, List.mem_of_getElem? (i := 1) rfl, trivial⟩) hw) (q_loadN Tn_41 rfl (fun w1 hw => hw.rgL (i := 0) rfl 0 4 [.string p1.Kind, .int .i64 p1.N, pv1_0, pv1_1] rfl) rfl) rfl rfl rfl ?_
      obtain ⟨x3, hx3, h⟩ := bind_some h
      refine WM.callL 1 rfl (by kernel_rfl) rfl rfl rfl rfl Fun_26 rfl (fun Φx F w1 hlx hw => Kn.of_St (Hle.trans (Hle.refl _) hlx) (AllIn.mem ⟨List.mem_of_getElem? (i := 1) rfl, List.mem_of_getElem? (i := 2) rfl, trivial⟩) hw) (fun w1 hw => m_l_toAlpha_ok hw.fro N p0 ph0_0 ph0_1 hx3) (fun v1 Φ_1 D1 le1 ho1 qq1 => ?_)
      replace ph0_0 := RSl.mono RTVal.mono le1 ph0_0
      replace ph0_1 := RSl.mono RI.mono le1 ph0_1
      replace ph1_0 := RSl.mono RTVal.mono le1 ph1_0
      replace ph1_1 := RSl.mono RI.mono le1 ph1_1
      replace hle := hle.trans le1
      obtain ⟨cs1, G1, rfl, rfl, h1⟩ := qq1
      obtain ⟨v2, G2, v3, G3, rfl, rfl, h2, h3⟩ := h1
      obtain ⟨x4, hx4, h⟩ := bind_some h
      refine WM.callL 3 rfl (by kernel_rfl) rfl rfl rfl rfl Fun_26 rfl (fun Φx F w1 hlx hw => Kn.of_St (Hle.trans (Hle.trans (Hle.refl _) le1) hlx) (AllIn.mem ⟨List.mem_of_getElem? (i := 2) rfl, List.mem_of_getElem? (i := 3) rfl, trivial⟩) hw) (fun w1 hw => m_l_toAlpha_ok hw.fro N p1 ph1_0 ph1_1 hx4) (fun v4 Φ_2 D2 le2 ho2 qq2 => ?_)
      replace ph0_0 := RSl.mono RTVal.mono le2 ph0_0
      replace ph0_1 := RSl.mono RI.mono le2 ph0_1
      replace ph1_0 := RSl.mono RTVal.mono le2 ph1_0
      replace ph1_1 := RSl.mono RI.mono le2 ph1_1
      replace h2 := RSl.mono RTVal.mono le2 h2
      replace h3 := RSl.mono RI.mono le2 h3
      replace hle := hle.trans le2
      obtain ⟨cs2, G4, rfl, rfl, h4⟩ := qq2
      obtain ⟨v5, G5, v6, G6, rfl, rfl, h5, h6⟩ := h4
      obtain ⟨x5, hx5, h⟩ := bind_some h
      refine WM.call 4 rfl (by kernel_rfl) (fun _ _ w1 hw => Kn.of_St (Hle.trans (Hle.trans (Hle.refl _) le1) le2) (AllIn.mem ⟨List.mem_of_getElem? (i := 2) rfl, List.mem_of_getElem? (i := 3) rfl, trivial⟩) hw) (c_pure Fun_25 rfl (fun w1 hw => m_s_SameAlpha_ok hw.fro N x3 x4 h2 h3 h5 h6 hx5)) rfl rfl rfl (fun _ => ?_)
      refine WM.q 5 rfl (by kernel_rfl) (fun w1 hw => Kn.of_St (Hle.trans (Hle.trans (Hle.refl _) le1) le2) (AllIn.mem ⟨List.mem_of_getElem? (i := 2) rfl, List.mem_of_getElem? (i := 3) rfl, trivial⟩) hw) (q_assign rfl) rfl rfl rfl ?_
      refine WM.nil (by kernel_rfl) ?_
      refine WT.seq ?_
      refine WT.region ?_
      refine WL.q (q_loadN Tn_41 rfl (fun w1 hw => hw.rgL (i := 3) rfl 0 4 [.string p0.Kind, .int .i64 p0.N, pv0_0, pv0_1] rfl) rfl) rfl rfl rfl ?_
      obtain ⟨x6, hx6, h⟩ := bind_some h
      refine WL.callL rfl rfl rfl rfl Fun_26 rfl (fun w1 hw => m_l_toAlpha_ok hw.fro N p0 ph0_0 ph0_1 hx6) (fun v7 Φ_3 D3 le3 ho3 qq3 => ?_)
      replace ph0_0 := RSl.mono RTVal.mono le3 ph0_0
      replace ph0_1 := RSl.mono RI.mono le3 ph0_1
      replace ph1_0 := RSl.mono RTVal.mono le3 ph1_0
      replace ph1_1 := RSl.mono RI.mono le3 ph1_1
      replace h2 := RSl.mono RTVal.mono le3 h2
      replace h3 := RSl.mono RI.mono le3 h3
      replace h5 := RSl.mono RTVal.mono le3 h5
      replace h6 := RSl.mono RI.mono le3 h6
      replace hle := hle.trans le3
      obtain ⟨cs3, G7, rfl, rfl, h7⟩ := qq3
      obtain ⟨v8, G8, v9, G9, rfl, rfl, h8, h9⟩ := h7
      refine WL.alloc (C := #[.string (⟨#[]⟩ : ByteArray), .int .i64 0, .slice none 0 0, .slice none 0 0]) rfl rfl rfl rfl Zr_46 rfl (fun b_3 => ?_)
      refine WL.store (i := 0) (vs := [.string x6.Kind, .int .i64 x6.N, v8, v9]) (C' := [.string x6.Kind, .int .i64 x6.N, v8, v9]) rfl rfl rfl Sz_46 rfl rfl rfl rfl rfl rfl ⟨rfl, rfl, RSl.one h8, RSl.one h9, trivial⟩ rfl ?_
      refine WL.nil ?_
      refine WT.seq ?_
      refine WT.region ?_
      refine WL.q (q_loadN Tn_41 rfl (fun w1 hw => hw.rgL (i := 4) rfl 0 4 [.string p1.Kind, .int .i64 p1.N, pv1_0, pv1_1] rfl) rfl) rfl rfl rfl ?_
      obtain ⟨x7, hx7, h⟩ := bind_some h
      refine WL.callL rfl rfl rfl rfl Fun_26 rfl (fun w1 hw => m_l_toAlpha_ok hw.fro N p1 ph1_0 ph1_1 hx7) (fun v10 Φ_4 D4 le4 ho4 qq4 => ?_)
      replace ph0_0 := RSl.mono RTVal.mono le4 ph0_0
      replace ph0_1 := RSl.mono RI.mono le4 ph0_1
      replace ph1_0 := RSl.mono RTVal.mono le4 ph1_0
      replace ph1_1 := RSl.mono RI.mono le4 ph1_1
      replace h2 := RSl.mono RTVal.mono le4 h2
      replace h3 := RSl.mono RI.mono le4 h3
      replace h5 := RSl.mono RTVal.mono le4 h5
      replace h6 := RSl.mono RI.mono le4 h6
      replace h8 := RSl.mono RTVal.mono le4 h8
      replace h9 := RSl.mono RI.mono le4 h9
      replace hle := hle.trans le4
      obtain ⟨cs4, G10, rfl, rfl, h10⟩ := qq4
      obtain ⟨v11, G11, v12, G12, rfl, rfl, h11, h12⟩ := h10
      refine WL.alloc (C := #[.string (⟨#[]⟩ : ByteArray), .int .i64 0, .slice none 0 0, .slice none 0 0]) rfl rfl rfl rfl Zr_46 rfl (fun b_4 => ?_)
      refine WL.store (i := 0) (vs := [.string x7.Kind, .int .i64 x7.N, v11, v12]) (C' := [.string x7.Kind, .int .i64 x7.N, v11, v12]) rfl rfl rfl Sz_46 rfl rfl rfl rfl rfl rfl ⟨rfl, rfl, RSl.one h11, RSl.one h12, trivial⟩ rfl ?_
      refine WL.nil ?_
      refine WT.seq ?_
      refine WT.region ?_
      refine WL.q (q_loadN Tn_46 rfl (fun w1 hw => hw.rgL (i := 2) rfl 0 4 [.string x6.Kind, .int .i64 x6.N, v8, v9] rfl) rfl) rfl rfl rfl ?_
      refine WL.q (q_loadN Tn_46 rfl (fun w1 hw => hw.rgL (i := 0) rfl 0 4 [.string x7.Kind, .int .i64 x7.N, v11, v12] rfl) rfl) rfl rfl rfl ?_
      obtain ⟨x8, hx8, h⟩ := bind_some h
      refine WL.call (c_pure Fun_27 rfl (fun w1 hw => m_i_SameAlpha_ok hw.fro N x6 x7 h8 h9 h11 h12 hx8)) rfl rfl rfl (fun _ => ?_)
      refine WL.q (q_assign rfl) rfl rfl rfl ?_
      refine WL.nil ?_
      refine WT.seq ?_
      refine WT.seq ?_
      refine WT.region ?_
      refine WL.q (q_move rfl) rfl rfl rfl ?_
      refine WL.q (q_move rfl) rfl rfl rfl ?_
      refine WL.q (q_bne Bo_4 rfl rfl) rfl rfl rfl ?_
      refine WL.nil ?_
      refine WT.cond rfl (fun c3 => ?_) (fun c3 => ?_)
      · replace h := ite_t h c3
        refine WT.seq ?_
        refine WT.region ?_
        refine WL.q (q_assign rfl) rfl rfl rfl ?_
        refine WL.nil ?_
        refine WT.ret Try.func5 (resOk.one rfl) (fun w1 hw => ?_)
        cases h
        exact post_of_St hw
      · replace h := ite_f h c3
        refine WT.skip ?_
        refine WT.seq ?_
        refine WT.seq ?_
        refine WT.mix (Kn Φ_4 [Ent.obj b_4 (.cells #[.string x7.Kind, .int .i64 x7.N, v11, v12] 46 (0, 0)), Ent.obj b_3 (.cells #[.string x6.Kind, .int .i64 x6.N, v8, v9] 46 (0, 0)), Ent.obj b_2 (.cells #[.string p1.Kind, .int .i64 p1.N, pv1_0, pv1_1] 41 (0, 0)), Ent.obj b_1 (.cells #[.string p0.Kind, .int .i64 p0.N, pv0_0, pv0_1] 41 (0, 0))]) (fun _ => true) mixed (fun _ h => h.drew) ?_
        refine WM.q 0 rfl (by kernel_rfl) (fun w1 hw => Kn.of_St (Hle.refl _) (AllIn.mem ⟨List.mem_of_getElem? (i := 0) rfl, List.mem_of_getElem? (i := 2) rfl, List.mem_of_getElem? (i := 6) rfl, List.mem_of_getElem? (i := 7) rfl, trivial⟩) hw) (q_loadN Tn_46 rfl (fun w1 hw => hw.rgL (i := 1) rfl 0 4 [.string x6.Kind, .int .i64 x6.N, v8, v9] rfl) rfl) rfl rfl rfl ?_
        refine WM.q 1 rfl (by kernel_rfl) (fun w1 hw => Kn.of_St (Hle.refl _) (AllIn.mem ⟨List.mem_of_getElem? (i := 0) rfl, List.mem_of_getElem? (i := 2) rfl, List.mem_of_getElem? (i := 6) rfl, List.mem_of_getElem? (i := 7) rfl, trivial⟩) hw) (q_loadN Tn_41 rfl (fun w1 hw => hw.rgL (i := 3) rfl 0 4 [.string p0.Kind, .int .i64 p0.N, pv0_0, pv0_1] rfl) rfl) rfl rfl rfl ?_
        obtain ⟨x9, hx9, h⟩ := bind_some h
        refine WM.callL 2 rfl (by kernel_rfl) rfl rfl rfl rfl Fun_26 rfl (fun Φx F w1 hlx hw => Kn.of_St (Hle.trans (Hle.refl _) hlx) (AllIn.mem ⟨List.mem_of_getElem? (i := 1) rfl, List.mem_of_getElem? (i := 3) rfl, List.mem_of_getElem? (i := 7) rfl, List.mem_of_getElem? (i := 8) rfl, trivial⟩) hw) (fun w1 hw => m_l_toAlpha_ok hw.fro N p0 ph0_0 ph0_1 hx9) (fun v13 Φ_5 D5 le5 ho5 qq5 => ?_)
        replace ph0_0 := RSl.mono RTVal.mono le5 ph0_0
        replace ph0_1 := RSl.mono RI.mono le5 ph0_1
        replace ph1_0 := RSl.mono RTVal.mono le5 ph1_0
        replace ph1_1 := RSl.mono RI.mono le5 ph1_1
        replace h2 := RSl.mono RTVal.mono le5 h2
        replace h3 := RSl.mono RI.mono le5 h3
        replace h5 := RSl.mono RTVal.mono le5 h5
        replace h6 := RSl.mono RI.mono le5 h6
        replace h8 := RSl.mono RTVal.mono le5 h8
        replace h9 := RSl.mono RI.mono le5 h9
        replace h11 := RSl.mono RTVal.mono le5 h11
        replace h12 := RSl.mono RI.mono le5 h12
        replace hle := hle.trans le5
        obtain ⟨cs5, G13, rfl, rfl, h13⟩ := qq5
        obtain ⟨v14, G14, v15, G15, rfl, rfl, h14, h15⟩ := h13
        obtain ⟨x10, hx10, h⟩ := bind_some h
        refine WM.call 3 rfl (by kernel_rfl) (fun _ _ w1 hw => Kn.of_St (Hle.trans (Hle.refl _) le5) (AllIn.mem ⟨List.mem_of_getElem? (i := 1) rfl, List.mem_of_getElem? (i := 3) rfl, List.mem_of_getElem? (i := 7) rfl, List.mem_of_getElem? (i := 8) rfl, trivial⟩) hw) (c_pure Fun_28 rfl (fun w1 hw => m_l_eqAlpha_ok hw.fro N x6 x9 h8 h9 h14 h15 hx10)) rfl rfl rfl (fun _ => ?_)
        refine WM.q 4 rfl (by kernel_rfl) (fun w1 hw => Kn.of_St (Hle.trans (Hle.refl _) le5) (AllIn.mem ⟨List.mem_of_getElem? (i := 1) rfl, List.mem_of_getElem? (i := 3) rfl, List.mem_of_getElem? (i := 7) rfl, List.mem_of_getElem? (i := 8) rfl, trivial⟩) hw) (q_not rfl) rfl rfl rfl ?_
        refine WM.nil (by kernel_rfl) ?_
        refine WT.cond rfl (fun c4 => ?_) (fun c4 => ?_)
        · replace h := ite_t h c4
          refine WT.seq ?_
          refine WT.region ?_
          refine WL.q (q_assign rfl) rfl rfl rfl ?_
          refine WL.nil ?_
          refine WT.ret Try.func5 (resOk.one rfl) (fun w1 hw => ?_)
          cases h
          exact post_of_St hw
        · replace h := ite_f h c4
          refine WT.skip ?_
          refine WT.seq ?_
          refine WT.seq ?_
          refine WT.mix (Kn Φ_5 [Ent.obj b_4 (.cells #[.string x7.Kind, .int .i64 x7.N, v11, v12] 46 (0, 0)), Ent.obj b_3 (.cells #[.string x6.Kind, .int .i64 x6.N, v8, v9] 46 (0, 0)), Ent.obj b_2 (.cells #[.string p1.Kind, .int .i64 p1.N, pv1_0, pv1_1] 41 (0, 0)), Ent.obj b_1 (.cells #[.string p0.Kind, .int .i64 p0.N, pv0_0, pv0_1] 41 (0, 0))]) (fun _ => true) mixed (fun _ h => h.drew) ?_
          refine WM.q 0 rfl (by kernel_rfl) (fun w1 hw => Kn.of_St (Hle.refl _) (AllIn.mem ⟨List.mem_of_getElem? (i := 1) rfl, List.mem_of_getElem? (i := 3) rfl, List.mem_of_getElem? (i := 7) rfl, List.mem_of_getElem? (i := 8) rfl, trivial⟩) hw) (q_loadN Tn_46 rfl (fun w1 hw => hw.rgL (i := 0) rfl 0 4 [.string x7.Kind, .int .i64 x7.N, v11, v12] rfl) rfl) rfl rfl rfl ?_
          refine WM.q 1 rfl (by kernel_rfl) (fun w1 hw => Kn.of_St (Hle.refl _) (AllIn.mem ⟨List.mem_of_getElem? (i := 1) rfl, List.mem_of_getElem? (i := 3) rfl, List.mem_of_getElem? (i := 7) rfl, List.mem_of_getElem? (i := 8) rfl, trivial⟩) hw) (q_loadN Tn_41 rfl (fun w1 hw => hw.rgL (i := 2) rfl 0 4 [.string p1.Kind, .int .i64 p1.N, pv1_0, pv1_1] rfl) rfl) rfl rfl rfl ?_
          obtain ⟨x11, hx11, h⟩ := bind_some h
          refine WM.callL 2 rfl (by kernel_rfl) rfl rfl rfl rfl Fun_26 rfl (fun Φx F w1 hlx hw => Kn.of_St (Hle.trans (Hle.refl _) hlx) (AllIn.mem ⟨List.mem_of_getElem? (i := 2) rfl, List.mem_of_getElem? (i := 4) rfl, List.mem_of_getElem? (i := 8) rfl, List.mem_of_getElem? (i := 9) rfl, trivial⟩) hw) (fun w1 hw => m_l_toAlpha_ok hw.fro N p1 ph1_0 ph1_1 hx11) (fun v16 Φ_6 D6 le6 ho6 qq6 => ?_)
          replace ph0_0 := RSl.mono RTVal.mono le6 ph0_0
          replace ph0_1 := RSl.mono RI.mono le6 ph0_1
          replace ph1_0 := RSl.mono RTVal.mono le6 ph1_0
          replace ph1_1 := RSl.mono RI.mono le6 ph1_1
          replace h2 := RSl.mono RTVal.mono le6 h2
          replace h3 := RSl.mono RI.mono le6 h3
          replace h5 := RSl.mono RTVal.mono le6 h5
          replace h6 := RSl.mono RI.mono le6 h6
          replace h8 := RSl.mono RTVal.mono le6 h8
          replace h9 := RSl.mono RI.mono le6 h9
          replace h11 := RSl.mono RTVal.mono le6 h11
          replace h12 := RSl.mono RI.mono le6 h12
          replace h14 := RSl.mono RTVal.mono le6 h14
          replace h15 := RSl.mono RI.mono le6 h15
          replace hle := hle.trans le6
          obtain ⟨cs6, G16, rfl, rfl, h16⟩ := qq6
          obtain ⟨v17, G17, v18, G18, rfl, rfl, h17, h18⟩ := h16
          obtain ⟨x12, hx12, h⟩ := bind_some h
          refine WM.call 3 rfl (by kernel_rfl) (fun _ _ w1 hw => Kn.of_St (Hle.trans (Hle.refl _) le6) (AllIn.mem ⟨List.mem_of_getElem? (i := 2) rfl, List.mem_of_getElem? (i := 4) rfl, List.mem_of_getElem? (i := 8) rfl, List.mem_of_getElem? (i := 9) rfl, trivial⟩) hw) (c_pure Fun_28 rfl (fun w1 hw => m_l_eqAlpha_ok hw.fro N x7 x11 h11 h12 h17 h18 hx12)) rfl rfl rfl (fun _ => ?_)
          refine WM.q 4 rfl (by kernel_rfl) (fun w1 hw => Kn.of_St (Hle.trans (Hle.refl _) le6) (AllIn.mem ⟨List.mem_of_getElem? (i := 2) rfl, List.mem_of_getElem? (i := 4) rfl, List.mem_of_getElem? (i := 8) rfl, List.mem_of_getElem? (i := 9) rfl, trivial⟩) hw) (q_not rfl) rfl rfl rfl ?_
          refine WM.nil (by kernel_rfl) ?_
          refine WT.cond rfl (fun c5 => ?_) (fun c5 => ?_)
          · replace h := ite_t h c5
            refine WT.seq ?_
            refine WT.region ?_
            refine WL.q (q_assign rfl) rfl rfl rfl ?_
            refine WL.nil ?_
            refine WT.ret Try.func5 (resOk.one rfl) (fun w1 hw => ?_)
            cases h
            exact post_of_St hw
          · replace h := ite_f h c5
            refine WT.skip ?_
            refine WT.seq ?_
            refine WT.region ?_
            refine WL.q (q_assign rfl) rfl rfl rfl ?_
            refine WL.nil ?_
            refine WT.ret Try.func5 (resOk.one rfl) (fun w1 hw => ?_)
            cases h
            exact post_of_St hw
theorem m_i_SameMatch_ok {Φ : Hp} {w : World} (hΦ : In Φ w) (N : Nat) (p0 : TMatch) (p1 : TMatch) {pv0_0 : Value} {pG0_0 : List Nat} {pv0_1 : Value} {pG0_1 : List Nat} {pv1_0 : Value} {pG1_0 : List Nat} {pv1_1 : Value} {pG1_1 : List Nat} (ph0_0 : RSl (RI .i64) 1 Φ pG0_0 pv0_0 p0.Ids) (ph0_1 : RSl RTBind 4 Φ pG0_1 pv0_1 p0.Binds) (ph1_0 : RSl (RI .i64) 1 Φ pG1_0 pv1_0 p1.Ids) (ph1_1 : RSl RTBind 4 Φ pG1_1 pv1_1 p1.Binds) {r : Bool} (h : m_i_SameMatch N p0 p1 = some r) :
    Calls Try.prog 18 [.agg [.int .i64 p0.Rule, pv0_0, pv0_1].toArray, .agg [.int .i64 p1.Rule, pv1_0, pv1_1].toArray].toArray w (Post (.bool r) w) := by
  refine enter Try.func18 rfl Try.ntmps18 rfl (St.start hΦ) ?_
  unfold m_i_SameMatch at h
  refine WT.seq ?_
  refine WT.region ?_
  refine WL.box (C := #[.int .i64 p0.Rule, pv0_0, pv0_1]) rfl rfl rfl rfl rfl rfl (fun b_1 => ?_)
  refine WL.box (C := #[.int .i64 p1.Rule, pv1_0, pv1_1]) rfl rfl rfl rfl rfl rfl (fun b_2 => ?_)
  refine WL.q (q_assign rfl) rfl rfl rfl ?_
  refine WL.nil ?_
  refine WT.seq ?_
  refine WT.region ?_
  refine WL.q (q_fieldAddr Fld_32_0 rfl) rfl rfl rfl ?_
  refine WL.q (q_load1 T1_3 rfl (fun w1 hw => hw.rgL (i := 1) rfl 0 1 [.int .i64 p0.Rule] rfl)) rfl rfl rfl ?_
  refine WL.q (q_fieldAddr Fld_32_0 rfl) rfl rfl rfl ?_
  refine WL.q (q_load1 T1_3 rfl (fun w1 hw => hw.rgL (i := 0) rfl 0 1 [.int .i64 p1.Rule] rfl)) rfl rfl rfl ?_
  refine WL.q (q_eql rfl rfl) rfl rfl rfl ?_
  refine WL.q (q_move rfl) rfl rfl rfl ?_
  obtain ⟨b1, hb_1, h⟩ := bind_some h
  refine WL.cutN 6 [(16, .bool b1), (4, .bool false)] ?_ (fun K => ?_)
  rotate_left
  · refine WL.split (d := 10) rfl (fun c1 => ?_) (fun c1 => ?_)
    · replace hb_1 := ite_t hb_1 c1
      refine WL.yes rfl rfl ?_
      refine WL.q (q_fieldAddr Fld_32_1 rfl) rfl rfl rfl ?_
      refine WL.yes rfl rfl ?_
      refine WL.q (q_load1 T1_29 rfl (fun w1 hw => hw.rgL (i := 1) rfl 1 1 [pv0_0] rfl)) rfl rfl rfl ?_
      refine WL.yes rfl rfl ?_
      refine WL.q (q_fieldAddr Fld_32_1 rfl) rfl rfl rfl ?_
      refine WL.yes rfl rfl ?_
      refine WL.q (q_load1 T1_29 rfl (fun w1 hw => hw.rgL (i := 0) rfl 1 1 [pv1_0] rfl)) rfl rfl rfl ?_
      refine WL.yes rfl rfl ?_
      obtain ⟨x1, hx1, hb_1⟩ := bind_some hb_1
      refine WL.call (c_pure Fun_70 rfl (fun w1 hw => m_sl_Equal_Sint_int_ok hw.fro N p0.Ids p1.Ids ph0_0 ph1_0 hx1)) rfl rfl rfl (fun _ => ?_)
      refine WL.q (q_pick1 rfl rfl) rfl rfl rfl ?_
      cases hb_1
      exact WL.keep (by exact ⟨rfl, rfl, trivial⟩) K
    · replace hb_1 := ite_f hb_1 c1
      refine WL.no rfl rfl rfl rfl ?_
      refine WL.no rfl rfl rfl rfl ?_
      refine WL.no rfl rfl rfl rfl ?_
      refine WL.no rfl rfl rfl rfl ?_
      refine WL.no rfl rfl rfl rfl ?_
      refine WL.q (q_pick0 rfl rfl) rfl rfl rfl ?_
      cases hb_1
      exact WL.keep (by exact ⟨rfl, rfl, trivial⟩) K
  refine WL.q (q_assign rfl) rfl rfl rfl ?_
  refine WL.nil ?_
  refine WT.ret Try.func18 (resOk.one rfl) (fun w1 hw => ?_)
  cases h
  exact post_of_St hw
theorem m_l_szMatch_ok {Φ : Hp} {w : World} (hΦ : In Φ w) (N : Nat) (p0 : TMatch) (p1 : Int) {pv0_0 : Value} {pG0_0 : List Nat} {pv0_1 : Value} {pG0_1 : List Nat} (ph0_0 : RSl (RI .i64) 1 Φ pG0_0 pv0_0 p0.Ids) (ph0_1 : RSl RTBind 4 Φ pG0_1 pv0_1 p0.Binds) {r : Int} (h : m_l_szMatch N p0 p1 = some r) :
    Calls Try.prog 29 [.agg [.int .i64 p0.Rule, pv0_0, pv0_1].toArray, .int .i64 p1].toArray w (Post (.int .i64 r) w) := by
  refine enter Try.func29 rfl Try.ntmps29 rfl (St.start hΦ) ?_
  unfold m_l_szMatch at h
  refine WT.seq ?_
  refine WT.region ?_
  refine WL.box (C := #[.int .i64 p0.Rule, pv0_0, pv0_1]) rfl rfl rfl rfl rfl rfl (fun b_1 => ?_)
  refine WL.q (q_assign rfl) rfl rfl rfl ?_
  refine WL.nil ?_
  refine WT.seq ?_
  refine WT.region ?_
  refine WL.q (q_fieldAddr Fld_51_1 rfl) rfl rfl rfl ?_
  refine WL.q (q_load1 T1_29 rfl (fun w1 hw => hw.rgL (i := 0) rfl 1 1 [pv0_0] rfl)) rfl rfl rfl ?_
  refine WL.q (q_move rfl) rfl rfl rfl ?_
  obtain ⟨x1, hx1, h⟩ := bind_some h
  refine WL.call (c_pure Fun_78 rfl (fun w1 hw => m_l_szIntS_ok hw.fro N p0.Ids p1 ph0_0 hx1)) rfl rfl rfl (fun _ => ?_)
  refine WL.q (q_assign rfl) rfl rfl rfl ?_
  refine WL.nil ?_
  refine WT.seq ?_
  refine WT.seq ?_
  refine WT.region ?_
  refine WL.q (q_move rfl) rfl rfl rfl ?_
  refine WL.q (q_lss rfl rfl) rfl rfl rfl ?_
  refine WL.nil ?_
  refine WT.cond rfl (fun c1 => ?_) (fun c1 => ?_)
  · replace h := ite_t h c1
    refine WT.seq ?_
    refine WT.region ?_
    refine WL.q (q_assign rfl) rfl rfl rfl ?_
    refine WL.nil ?_
    refine WT.ret Try.func29 (resOk.one rfl) (fun w1 hw => ?_)
    cases h
    exact post_of_St hw
  · replace h := ite_f h c1
    refine WT.skip ?_
    refine WT.seq ?_
    refine WT.region ?_
    refine WL.q (q_fieldAddr Fld_51_2 rfl) rfl rfl rfl ?_
    refine WL.q (q_load1 T1_49 rfl (fun w1 hw => hw.rgL (i := 0) rfl 2 1 [pv0_1] rfl)) rfl rfl rfl ?_
    refine WL.q (q_move rfl) rfl rfl rfl ?_
    obtain ⟨x2, hx2, h⟩ := bind_some h
    refine WL.call (c_pure Fun_58 rfl (fun w1 hw => m_l_szBindS_ok hw.fro N p0.Binds x1 ph0_1 hx2)) rfl rfl rfl (fun _ => ?_)
    refine WL.q (q_assign rfl) rfl rfl rfl ?_
    refine WL.nil ?_
    refine WT.seq ?_
    refine WT.seq ?_
    refine WT.region ?_
    refine WL.q (q_move rfl) rfl rfl rfl ?_
    refine WL.q (q_lss rfl rfl) rfl rfl rfl ?_
    refine WL.nil ?_
    refine WT.cond rfl (fun c2 => ?_) (fun c2 => ?_)
    · replace h := ite_t h c2
      refine WT.seq ?_
      refine WT.region ?_
      refine WL.q (q_assign rfl) rfl rfl rfl ?_
      refine WL.nil ?_
      refine WT.ret Try.func29 (resOk.one rfl) (fun w1 hw => ?_)
      cases h
      exact post_of_St hw
    · replace h := ite_f h c2
      refine WT.skip ?_
      refine WT.seq ?_
      refine WT.region ?_
      refine WL.q (q_move rfl) rfl rfl rfl ?_
      refine WL.q (q_assign rfl) rfl rfl rfl ?_
      refine WL.nil ?_
      refine WT.ret Try.func29 (resOk.one rfl) (fun w1 hw => ?_)
      cases h
      exact post_of_St hw
theorem m_s_SameMatch_ok {Φ : Hp} {w : World} (hΦ : In Φ w) (N : Nat) (p0 : TMatch) (p1 : TMatch) {pv0_0 : Value} {pG0_0 : List Nat} {pv0_1 : Value} {pG0_1 : List Nat} {pv1_0 : Value} {pG1_0 : List Nat} {pv1_1 : Value} {pG1_1 : List Nat} (ph0_0 : RSl (RI .i64) 1 Φ pG0_0 pv0_0 p0.Ids) (ph0_1 : RSl RTBind 4 Φ pG0_1 pv0_1 p0.Binds) (ph1_0 : RSl (RI .i64) 1 Φ pG1_0 pv1_0 p1.Ids) (ph1_1 : RSl RTBind 4 Φ pG1_1 pv1_1 p1.Binds) {r : Bool} (h : m_s_SameMatch N p0 p1 = some r) :
    Calls Try.prog 30 [.agg [.int .i64 p0.Rule, pv0_0, pv0_1].toArray, .agg [.int .i64 p1.Rule, pv1_0, pv1_1].toArray].toArray w (Post (.bool r) w) := by
  refine enter Try.func30 rfl Try.ntmps30 rfl (St.start hΦ) ?_
  unfold m_s_SameMatch at h
  refine WT.seq ?_
  refine WT.region ?_
  refine WL.box (C := #[.int .i64 p0.Rule, pv0_0, pv0_1]) rfl rfl rfl rfl rfl rfl (fun b_1 => ?_)
  refine WL.box (C := #[.int .i64 p1.Rule, pv1_0, pv1_1]) rfl rfl rfl rfl rfl rfl (fun b_2 => ?_)
  refine WL.q (q_assign rfl) rfl rfl rfl ?_
  refine WL.nil ?_
  refine WT.seq ?_
  refine WT.region ?_
  refine WL.q (q_fieldAddr Fld_32_0 rfl) rfl rfl rfl ?_
  refine WL.q (q_load1 T1_3 rfl (fun w1 hw => hw.rgL (i := 1) rfl 0 1 [.int .i64 p0.Rule] rfl)) rfl rfl rfl ?_
  refine WL.q (q_fieldAddr Fld_32_0 rfl) rfl rfl rfl ?_
  refine WL.q (q_load1 T1_3 rfl (fun w1 hw => hw.rgL (i := 0) rfl 0 1 [.int .i64 p1.Rule] rfl)) rfl rfl rfl ?_
  refine WL.q (q_eql rfl rfl) rfl rfl rfl ?_
  refine WL.q (q_move rfl) rfl rfl rfl ?_
  obtain ⟨b1, hb_1, h⟩ := bind_some h
  refine WL.cutN 6 [(16, .bool b1), (4, .bool false)] ?_ (fun K => ?_)
  rotate_left
  · refine WL.split (d := 10) rfl (fun c1 => ?_) (fun c1 => ?_)
    · replace hb_1 := ite_t hb_1 c1
      refine WL.yes rfl rfl ?_
      refine WL.q (q_fieldAddr Fld_32_1 rfl) rfl rfl rfl ?_
      refine WL.yes rfl rfl ?_
      refine WL.q (q_load1 T1_29 rfl (fun w1 hw => hw.rgL (i := 1) rfl 1 1 [pv0_0] rfl)) rfl rfl rfl ?_
      refine WL.yes rfl rfl ?_
      refine WL.q (q_fieldAddr Fld_32_1 rfl) rfl rfl rfl ?_
      refine WL.yes rfl rfl ?_
      refine WL.q (q_load1 T1_29 rfl (fun w1 hw => hw.rgL (i := 0) rfl 1 1 [pv1_0] rfl)) rfl rfl rfl ?_
      refine WL.yes rfl rfl ?_
      obtain ⟨x1, hx1, hb_1⟩ := bind_some hb_1
      refine WL.call (c_pure Fun_79 rfl (fun w1 hw => m_s_l11Same_ok hw.fro N p0.Ids p1.Ids ph0_0 ph1_0 hx1)) rfl rfl rfl (fun _ => ?_)
      refine WL.q (q_pick1 rfl rfl) rfl rfl rfl ?_
      cases hb_1
      exact WL.keep (by exact ⟨rfl, rfl, trivial⟩) K
    · replace hb_1 := ite_f hb_1 c1
      refine WL.no rfl rfl rfl rfl ?_
      refine WL.no rfl rfl rfl rfl ?_
      refine WL.no rfl rfl rfl rfl ?_
      refine WL.no rfl rfl rfl rfl ?_
      refine WL.no rfl rfl rfl rfl ?_
      refine WL.q (q_pick0 rfl rfl) rfl rfl rfl ?_
      cases hb_1
      exact WL.keep (by exact ⟨rfl, rfl, trivial⟩) K
  refine WL.q (q_assign rfl) rfl rfl rfl ?_
  refine WL.nil ?_
  refine WT.ret Try.func30 (resOk.one rfl) (fun w1 hw => ?_)
  cases h
  exact post_of_St hw
theorem m_l_toMatch_ok {Φ : Hp} {w : World} (hΦ : In Φ w) (N : Nat) (p0 : TMatch) {pv0_0 : Value} {pG0_0 : List Nat} {pv0_1 : Value} {pG0_1 : List Nat} (ph0_0 : RSl (RI .i64) 1 Φ pG0_0 pv0_0 p0.Ids) (ph0_1 : RSl RTBind 4 Φ pG0_1 pv0_1 p0.Binds) {r : TMatch} (h : m_l_toMatch N p0 = some r) :
    Calls Try.prog 31 [.agg [.int .i64 p0.Rule, pv0_0, pv0_1].toArray].toArray w (PostL Φ w (fun Φ' F v => ∃ (c0 : List Value) (F0 : List Nat), v = .agg c0.toArray ∧ F = F0 ∧ RTMatch Φ' F0 c0 r)) := by
  refine enter Try.func31 rfl Try.ntmps31 rfl (St.start hΦ) ?_
  unfold m_l_toMatch at h
  have hle := Hle.refl Φ
  have hold : ∀ x, x < w.heap.size → Φ x = Φ x := fun _ _ => rfl
  refine WT.seq ?_
  refine WT.region ?_
  refine WL.box (C := #[.int .i64 p0.Rule, pv0_0, pv0_1]) rfl rfl rfl rfl rfl rfl (fun b_1 => ?_)
  refine WL.alloc (C := #[.int .i64 0, .slice none 0 0, .slice none 0 0]) rfl rfl rfl rfl Zr_32 rfl (fun b_2 => ?_)
  refine WL.nil ?_
  refine WT.seq ?_
  refine WT.region ?_
  refine WL.alloc (C := #[.int .i64 0, .slice none 0 0, .slice none 0 0]) rfl rfl rfl rfl Zr_32 rfl (fun b_3 => ?_)
  refine WL.nil ?_
  refine WT.seq ?_
  refine WT.region ?_
  refine WL.q (q_fieldAddr Fld_51_0 rfl) rfl rfl rfl ?_
  refine WL.q (q_load1 T1_3 rfl (fun w1 hw => hw.rgL (i := 2) rfl 0 1 [.int .i64 p0.Rule] rfl)) rfl rfl rfl ?_
  refine WL.q (q_fieldAddr Fld_32_0 rfl) rfl rfl rfl ?_
  refine WL.store (i := 0) (vs := [.int .i64 p0.Rule]) (C' := [.int .i64 p0.Rule, .slice none 0 0, .slice none 0 0]) rfl rfl rfl Sz_3 rfl rfl rfl rfl rfl rfl ⟨rfl, trivial⟩ rfl ?_
  refine WL.nil ?_
  refine WT.seq ?_
  refine WT.region ?_
  refine WL.q (q_fieldAddr Fld_51_1 rfl) rfl rfl rfl ?_
  refine WL.q (q_load1 T1_29 rfl (fun w1 hw => hw.rgL (i := 2) rfl 1 1 [pv0_0] rfl)) rfl rfl rfl ?_
  obtain ⟨x1, hx1, h⟩ := bind_some h
  refine WL.callL rfl rfl rfl rfl Fun_82 rfl (fun w1 hw => m_l_toIntS_ok hw.fro N p0.Ids ph0_0 hx1) (fun v1 Φ_1 D1 le1 ho1 qq1 => ?_)
  replace ph0_0 := RSl.mono RI.mono le1 ph0_0
  replace ph0_1 := RSl.mono RTBind.mono le1 ph0_1
  replace hle := hle.trans le1
  replace hold : ∀ x, x < w.heap.size → Φ_1 x = Φ x := fun x hx => (ho1 x hx).trans (hold x hx)
  obtain ⟨v2, G1, rfl, rfl, h1⟩ := qq1
  refine WL.q (q_fieldAddr Fld_32_1 rfl) rfl rfl rfl ?_
  refine WL.store (i := 1) (vs := [v1]) (C' := [.int .i64 p0.Rule, v1, .slice none 0 0]) rfl rfl rfl Sz_29 rfl rfl rfl (one_cells (RSl.one h1)) rfl rfl ⟨RSl.one h1, trivial⟩ rfl ?_
  refine WL.nil ?_
  refine WT.seq ?_
  refine WT.region ?_
  refine WL.q (q_fieldAddr Fld_51_2 rfl) rfl rfl rfl ?_
  refine WL.q (q_load1 T1_49 rfl (fun w1 hw => hw.rgL (i := 3) rfl 2 1 [pv0_1] rfl)) rfl rfl rfl ?_
  obtain ⟨x2, hx2, h⟩ := bind_some h
  refine WL.callL rfl rfl rfl rfl Fun_61 rfl (fun w1 hw => m_l_toBindS_ok hw.fro N p0.Binds ph0_1 hx2) (fun v3 Φ_2 D2 le2 ho2 qq2 => ?_)
  replace ph0_0 := RSl.mono RI.mono le2 ph0_0
  replace ph0_1 := RSl.mono RTBind.mono le2 ph0_1
  replace h1 := RSl.mono RI.mono le2 h1
  replace hle := hle.trans le2
  replace hold : ∀ x, x < w.heap.size → Φ_2 x = Φ x := fun x hx => (ho2 x hx).trans (hold x hx)
  obtain ⟨v4, G2, rfl, rfl, h2⟩ := qq2
  refine WL.q (q_fieldAddr Fld_32_2 rfl) rfl rfl rfl ?_
  refine WL.store (i := 2) (vs := [v3]) (C' := [.int .i64 p0.Rule, v1, v3]) rfl rfl rfl Sz_30 rfl rfl rfl (one_cells (RSl.one h2)) rfl rfl ⟨RSl.one h2, trivial⟩ rfl ?_
  refine WL.nil ?_
  refine WT.seq ?_
  refine WT.region ?_
  refine WL.q (q_loadN Tn_32 rfl (fun w1 hw => hw.rgL (i := 2) rfl 0 3 [.int .i64 p0.Rule, v1, v3] rfl) rfl) rfl rfl rfl ?_
  refine WL.store (i := 3) (vs := [.int .i64 p0.Rule, v1, v3]) (C' := [.int .i64 p0.Rule, v1, v3]) rfl rfl rfl Sz_32 rfl rfl rfl rfl rfl rfl ⟨rfl, RSl.one h1, RSl.one h2, trivial⟩ rfl ?_
  refine WL.nil ?_
  refine WT.ret Try.func31 (resOk.one (rv_cell Tn_32 rfl (fun w1 hw => hw.rgL (i := 3) rfl 0 3 [.int .i64 p0.Rule, v1, v3] rfl) rfl)) (fun w1 hw => ?_)
  cases h
  replace hw := hw.front (i := 0) rfl
  replace hw := hw.front (i := 1) rfl
  replace hw : St w Φ_2 [Ent.dat D1, Ent.dat D2, Ent.obj b_3 (.cells #[.int .i64 p0.Rule, v1, v3] 32 (0, 0)), Ent.obj b_2 (.cells #[.int .i64 p0.Rule, v1, v3] 32 (0, 0)), Ent.obj b_1 (.cells #[.int .i64 p0.Rule, pv0_0, pv0_1] 51 (0, 0))] w1 := hw
  refine postL_of_St (F := (D1 ++ D2)) hw hle hold ?_ ⟨[.int .i64 p0.Rule, v1, v3], D1 ++ D2, rfl, rfl, ⟨v1, D1, v3, D2, rfl, rfl, h1, h2⟩⟩
  have hfin := ((SP.append (SP.refl D1) (SP.refl D2))).trans (SP.left _ (blksOf [Ent.obj b_3 (.cells #[.int .i64 p0.Rule, v1, v3] 32 (0, 0)), Ent.obj b_2 (.cells #[.int .i64 p0.Rule, v1, v3] 32 (0, 0)), Ent.obj b_1 (.cells #[.int .i64 p0.Rule, pv0_0, pv0_1] 51 (0, 0))]))
  simpa only [blksOf, List.flatMap_cons, Ent.dat, List.append_assoc, List.nil_append, List.append_nil] using hfin
theorem m_l_eqMatch_ok {Φ : Hp} {w : World} (hΦ : In Φ w) (N : Nat) (p0 : TMatch) (p1 : TMatch) {pv0_0 : Value} {pG0_0 : List Nat} {pv0_1 : Value} {pG0_1 : List Nat} {pv1_0 : Value} {pG1_0 : List Nat} {pv1_1 : Value} {pG1_1 : List Nat} (ph0_0 : RSl (RI .i64) 1 Φ pG0_0 pv0_0 p0.Ids) (ph0_1 : RSl RTBind 4 Φ pG0_1 pv0_1 p0.Binds) (ph1_0 : RSl (RI .i64) 1 Φ pG1_0 pv1_0 p1.Ids) (ph1_1 : RSl RTBind 4 Φ pG1_1 pv1_1 p1.Binds) {r : Bool} (h : m_l_eqMatch N p0 p1 = some r) :
    Calls Try.prog 32 [.agg [.int .i64 p0.Rule, pv0_0, pv0_1].toArray, .agg [.int .i64 p1.Rule, pv1_0, pv1_1].toArray].toArray w (Post (.bool r) w) := by
  refine enter Try.func32 rfl Try.ntmps32 rfl (St.start hΦ) ?_
  unfold m_l_eqMatch at h
  refine WT.seq ?_
  refine WT.region ?_
  refine WL.box (C := #[.int .i64 p0.Rule, pv0_0, pv0_1]) rfl rfl rfl rfl rfl rfl (fun b_1 => ?_)
  refine WL.box (C := #[.int .i64 p1.Rule, pv1_0, pv1_1]) rfl rfl rfl rfl rfl rfl (fun b_2 => ?_)
  refine WL.q (q_assign rfl) rfl rfl rfl ?_
  refine WL.nil ?_
  refine WT.seq ?_
  refine WT.seq ?_
  refine WT.region ?_
  refine WL.q (q_fieldAddr Fld_32_0 rfl) rfl rfl rfl ?_
  refine WL.q (q_load1 T1_3 rfl (fun w1 hw => hw.rgL (i := 1) rfl 0 1 [.int .i64 p0.Rule] rfl)) rfl rfl rfl ?_
  refine WL.q (q_fieldAddr Fld_32_0 rfl) rfl rfl rfl ?_
  refine WL.q (q_load1 T1_3 rfl (fun w1 hw => hw.rgL (i := 0) rfl 0 1 [.int .i64 p1.Rule] rfl)) rfl rfl rfl ?_
  refine WL.q (q_neq rfl rfl) rfl rfl rfl ?_
  refine WL.nil ?_
  refine WT.cond rfl (fun c1 => ?_) (fun c1 => ?_)
  · replace h := ite_t h c1
    refine WT.seq ?_
    refine WT.region ?_
    refine WL.q (q_assign rfl) rfl rfl rfl ?_
    refine WL.nil ?_
    refine WT.ret Try.func32 (resOk.one rfl) (fun w1 hw => ?_)
    cases h
    exact post_of_St hw
  · replace h := ite_f h c1
    refine WT.skip ?_
    refine WT.seq ?_
    refine WT.seq ?_
    refine WT.region ?_
    refine WL.q (q_fieldAddr Fld_32_1 rfl) rfl rfl rfl ?_
    refine WL.q (q_load1 T1_29 rfl (fun w1 hw => hw.rgL (i := 1) rfl 1 1 [pv0_0] rfl)) rfl rfl rfl ?_
    refine WL.q (q_fieldAddr Fld_32_1 rfl) rfl rfl rfl ?_
    refine WL.q (q_load1 T1_29 rfl (fun w1 hw => hw.rgL (i := 0) rfl 1 1 [pv1_0] rfl)) rfl rfl rfl ?_
    obtain ⟨x1, hx1, h⟩ := bind_some h
    refine WL.call (c_pure Fun_85 rfl (fun w1 hw => m_l_eqIntS_ok hw.fro N p0.Ids p1.Ids ph0_0 ph1_0 hx1)) rfl rfl rfl (fun _ => ?_)
    refine WL.q (q_not rfl) rfl rfl rfl ?_
    refine WL.nil ?_
    refine WT.cond rfl (fun c2 => ?_) (fun c2 => ?_)
    · replace h := ite_t h c2
      refine WT.seq ?_
      refine WT.region ?_
      refine WL.q (q_assign rfl) rfl rfl rfl ?_
      refine WL.nil ?_
      refine WT.ret Try.func32 (resOk.one rfl) (fun w1 hw => ?_)
      cases h
      exact post_of_St hw
    · replace h := ite_f h c2
      refine WT.skip ?_
      refine WT.seq ?_
      refine WT.seq ?_
      refine WT.region ?_
      refine WL.q (q_fieldAddr Fld_32_2 rfl) rfl rfl rfl ?_
      refine WL.q (q_load1 T1_30 rfl (fun w1 hw => hw.rgL (i := 1) rfl 2 1 [pv0_1] rfl)) rfl rfl rfl ?_
      refine WL.q (q_fieldAddr Fld_32_2 rfl) rfl rfl rfl ?_
      refine WL.q (q_load1 T1_30 rfl (fun w1 hw => hw.rgL (i := 0) rfl 2 1 [pv1_1] rfl)) rfl rfl rfl ?_
      obtain ⟨x2, hx2, h⟩ := bind_some h
      refine WL.call (c_pure Fun_64 rfl (fun w1 hw => m_l_eqBindS_ok hw.fro N p0.Binds p1.Binds ph0_1 ph1_1 hx2)) rfl rfl rfl (fun _ => ?_)
      refine WL.q (q_not rfl) rfl rfl rfl ?_
      refine WL.nil ?_
      refine WT.cond rfl (fun c3 => ?_) (fun c3 => ?_)
      · replace h := ite_t h c3
        refine WT.seq ?_
        refine WT.region ?_
        refine WL.q (q_assign rfl) rfl rfl rfl ?_
        refine WL.nil ?_
        refine WT.ret Try.func32 (resOk.one rfl) (fun w1 hw => ?_)
        cases h
        exact post_of_St hw
      · replace h := ite_f h c3
        refine WT.skip ?_
        refine WT.seq ?_
        refine WT.region ?_
        refine WL.q (q_assign rfl) rfl rfl rfl ?_
        refine WL.nil ?_
        refine WT.ret Try.func32 (resOk.one rfl) (fun w1 hw => ?_)
        cases h
        exact post_of_St hw
end Go.Proofs.Ytpajhchhkfnieaa
