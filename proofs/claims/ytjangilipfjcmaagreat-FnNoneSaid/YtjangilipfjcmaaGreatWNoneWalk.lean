/- Printed by a program of ours: each Go function computes its Lean function. -/
import Derived.Test.YtjangilipfjcmaaGreatProg
import Derived.Test.YtjangilipfjcmaaGreatWNoneWalk4
namespace Go.Proofs.YtjangilipfjcmaaGreat
open Eng
open Go.RowKit (Below)
set_option linter.unusedVariables false
set_option linter.unusedSimpArgs false

set_option maxRecDepth 100000
set_option maxHeartbeats 1000000
theorem m_i_compareVals_ok {Φ : Hp} {w : World} (hΦ : In Φ w) (N : Nat) (p0 : TVal) (p1 : TVal)   {r : Int} (h : m_i_compareVals N p0 p1 = some r) :
  Calls Tryz.prog 190 [.agg [.int .i64 p0.K, .int .i64 p0.N, .string p0.S].toArray, .agg [.int .i64 p1.K, .int .i64 p1.N, .string p1.S].toArray].toArray w (Post (.int .i64 r) w) := by
 refine enter Tryz.func190 rfl Tryz.ntmps190 rfl (St.start0 hΦ) ?_
 unfold m_i_compareVals at h
 refine WT.seq <| WT.region ?_
 refine ln (n_box (C := #[.int .i64 p0.K, .int .i64 p0.N, .string p0.S]) rfl rfl) rfl (fun b_1 => ?_)
 refine ln (n_box (C := #[.int .i64 p1.K, .int .i64 p1.N, .string p1.S]) rfl rfl) rfl (fun b_2 => ?_)
 refine lq (q_assign rfl) rfl <| WL.nil <| WT.seq <| WT.mix (Kn Φ [] [(b_2, .cells #[.int .i64 p1.K, .int .i64 p1.N, .string p1.S] 121 (0, 0)), (b_1, .cells #[.int .i64 p0.K, .int .i64 p0.N, .string p0.S] 121 (0, 0))]) (fun _ => true) mixed (fun _ h => h.drew) <| mq 0 rfl (by kernel_rfl) (fun w1 hw => Kn.of (fun k hk _ _ => by simp at hk) (AllIn.mem ⟨List.mem_of_getElem? (i := 0) rfl, List.mem_of_getElem? (i := 1) rfl, trivial⟩) hw) (q_fieldAddr Fld_121_0 rfl) rfl ?_
 refine mq 1 rfl (by kernel_rfl) (fun w1 hw => Kn.of (fun k hk _ _ => by simp at hk) (AllIn.mem ⟨List.mem_of_getElem? (i := 0) rfl, List.mem_of_getElem? (i := 1) rfl, trivial⟩) hw) (q_load1 T1_3 rfl (fun w1 hw => hw.rgO (i := 1) rfl 0 1 [.int .i64 p0.K] rfl)) rfl <| mq 2 rfl (by kernel_rfl) (fun w1 hw => Kn.of (fun k hk _ _ => by simp at hk) (AllIn.mem ⟨List.mem_of_getElem? (i := 0) rfl, List.mem_of_getElem? (i := 1) rfl, trivial⟩) hw) (q_fieldAddr Fld_121_0 rfl) rfl ?_
 refine mq 3 rfl (by kernel_rfl) (fun w1 hw => Kn.of (fun k hk _ _ => by simp at hk) (AllIn.mem ⟨List.mem_of_getElem? (i := 0) rfl, List.mem_of_getElem? (i := 1) rfl, trivial⟩) hw) (q_load1 T1_3 rfl (fun w1 hw => hw.rgO (i := 0) rfl 0 1 [.int .i64 p1.K] rfl)) rfl <| mq 5 rfl (by kernel_rfl) (fun w1 hw => Kn.of (fun k hk _ _ => by simp at hk) (AllIn.mem ⟨List.mem_of_getElem? (i := 0) rfl, List.mem_of_getElem? (i := 1) rfl, trivial⟩) hw) (q_fieldAddr Fld_121_1 rfl) rfl ?_
 refine mq 6 rfl (by kernel_rfl) (fun w1 hw => Kn.of (fun k hk _ _ => by simp at hk) (AllIn.mem ⟨List.mem_of_getElem? (i := 0) rfl, List.mem_of_getElem? (i := 1) rfl, trivial⟩) hw) (q_load1 T1_3 rfl (fun w1 hw => hw.rgO (i := 1) rfl 1 1 [.int .i64 p0.N] rfl)) rfl <| mq 7 rfl (by kernel_rfl) (fun w1 hw => Kn.of (fun k hk _ _ => by simp at hk) (AllIn.mem ⟨List.mem_of_getElem? (i := 0) rfl, List.mem_of_getElem? (i := 1) rfl, trivial⟩) hw) (q_fieldAddr Fld_121_1 rfl) rfl ?_
 refine mq 8 rfl (by kernel_rfl) (fun w1 hw => Kn.of (fun k hk _ _ => by simp at hk) (AllIn.mem ⟨List.mem_of_getElem? (i := 0) rfl, List.mem_of_getElem? (i := 1) rfl, trivial⟩) hw) (q_load1 T1_3 rfl (fun w1 hw => hw.rgO (i := 0) rfl 1 1 [.int .i64 p1.N] rfl)) rfl <| mq 10 rfl (by kernel_rfl) (fun w1 hw => Kn.of (fun k hk _ _ => by simp at hk) (AllIn.mem ⟨List.mem_of_getElem? (i := 0) rfl, List.mem_of_getElem? (i := 1) rfl, trivial⟩) hw) (q_fieldAddr Fld_121_2 rfl) rfl ?_
 refine mq 11 rfl (by kernel_rfl) (fun w1 hw => Kn.of (fun k hk _ _ => by simp at hk) (AllIn.mem ⟨List.mem_of_getElem? (i := 0) rfl, List.mem_of_getElem? (i := 1) rfl, trivial⟩) hw) (q_load1 T1_9 rfl (fun w1 hw => hw.rgO (i := 1) rfl 2 1 [.string p0.S] rfl)) rfl <| mq 12 rfl (by kernel_rfl) (fun w1 hw => Kn.of (fun k hk _ _ => by simp at hk) (AllIn.mem ⟨List.mem_of_getElem? (i := 0) rfl, List.mem_of_getElem? (i := 1) rfl, trivial⟩) hw) (q_fieldAddr Fld_121_2 rfl) rfl ?_
 refine mq 13 rfl (by kernel_rfl) (fun w1 hw => Kn.of (fun k hk _ _ => by simp at hk) (AllIn.mem ⟨List.mem_of_getElem? (i := 0) rfl, List.mem_of_getElem? (i := 1) rfl, trivial⟩) hw) (q_load1 T1_9 rfl (fun w1 hw => hw.rgO (i := 0) rfl 2 1 [.string p1.S] rfl)) rfl ?_
 obtain ⟨x1, hx1, h⟩ := bind_some h
 refine WM.one 4 (by kernel_rfl) (mp rfl (fun _ w1 hw => Kn.of (fun k hk _ _ => by simp at hk) (AllIn.mem ⟨List.mem_of_getElem? (i := 0) rfl, List.mem_of_getElem? (i := 1) rfl, trivial⟩) hw) (p_call Fun_147 rfl (fun w1 hw => m_cmp_Compare_int_ok hw.fro N p0.K p1.K hx1)) rfl ?_)
 obtain ⟨x2, hx2, h⟩ := bind_some h
 refine WM.one 9 (by kernel_rfl) (mp rfl (fun _ w1 hw => Kn.of (fun k hk _ _ => by simp at hk) (AllIn.mem ⟨List.mem_of_getElem? (i := 0) rfl, List.mem_of_getElem? (i := 1) rfl, trivial⟩) hw) (p_call Fun_147 rfl (fun w1 hw => m_cmp_Compare_int_ok hw.fro N p0.N p1.N hx2)) rfl ?_)
 obtain ⟨x3, hx3, h⟩ := bind_some h
 refine WM.one 14 (by kernel_rfl) (mp rfl (fun _ w1 hw => Kn.of (fun k hk _ _ => by simp at hk) (AllIn.mem ⟨List.mem_of_getElem? (i := 0) rfl, List.mem_of_getElem? (i := 1) rfl, trivial⟩) hw) (p_call Fun_220 rfl (fun w1 hw => m_cmp_Compare_string_ok hw.fro N p0.S p1.S hx3)) rfl ?_)
 have rc1 : RC (RI .i64) 1 Φ ([[], [], []] : List (List Nat)) [.int .i64 x1, .int .i64 x2, .int .i64 x3] ([x1, x2, x3] : List Int) := RC.cons (c := [.int .i64 x1]) (cells := [.int .i64 x2, .int .i64 x3]) ⟨rfl, rfl⟩ rfl (RC.cons (c := [.int .i64 x2]) (cells := [.int .i64 x3]) ⟨rfl, rfl⟩ rfl (RC.cons (c := [.int .i64 x3]) (cells := []) ⟨rfl, rfl⟩ rfl (RC.nil _ _ _)))
 refine WM.one 15 (by kernel_rfl) (me rfl (fun _ v Φx D w1 hq hw => Kn.of (fun k hk _ _ => by simp at hk) (AllIn.mem ⟨List.mem_of_getElem? (i := 0) rfl, List.mem_of_getElem? (i := 1) rfl, trivial⟩) hw) (e_lit (vs := [(0, .int .i64 x1), (1, .int .i64 x2), (2, .int .i64 x3)]) (C := #[.int .i64 x1, .int .i64 x2, .int .i64 x3]) RI.lasts Sl_41 Zr_3 rfl rfl rfl rfl (fill_made MC_3_3 (fill_cons (cells := [.int .i64 0, .int .i64 0, .int .i64 0]) (c := [.int .i64 x1]) (C' := [.int .i64 x1, .int .i64 0, .int .i64 0]) rfl rfl rfl rfl rfl (fill_cons (cells := [.int .i64 x1, .int .i64 0, .int .i64 0]) (c := [.int .i64 x2]) (C' := [.int .i64 x1, .int .i64 x2, .int .i64 0]) rfl rfl rfl rfl rfl (fill_cons (cells := [.int .i64 x1, .int .i64 x2, .int .i64 0]) (c := [.int .i64 x3]) (C' := [.int .i64 x1, .int .i64 x2, .int .i64 x3]) rfl rfl rfl rfl rfl (fill_nil))))) rfl rc1 rfl (by simpa using Kw.nil)) rfl (fun v1 Φ_1 D1 q1 => ?_))
 obtain ⟨fr1, h1⟩ := q1
 replace h1 : OSl (RI .i64) 3 1 Φ_1 [] v1 ([x1, x2, x3] : List Int) := by simpa using h1
 obtain ⟨x4, hx4, h⟩ := bind_some h
 refine WM.one 16 (by kernel_rfl) (mp rfl (fun _ w1 hw => Kn.of (fun k hk _ _ => by simp at hk) (AllIn.mem ⟨List.mem_of_getElem? (i := 0) rfl, List.mem_of_getElem? (i := 1) rfl, trivial⟩) hw) (p_call Fun_146 rfl (fun w1 hw => m_cmp_Or_int_ok hw.fro N ([x1, x2, x3] : List Int) h1.rsl hx4)) rfl ?_)
 refine mq 17 rfl (by kernel_rfl) (fun w1 hw => Kn.of (fun k hk _ _ => by simp at hk) (AllIn.mem ⟨List.mem_of_getElem? (i := 0) rfl, List.mem_of_getElem? (i := 1) rfl, trivial⟩) hw) (q_assign rfl) rfl <| WM.nil (by kernel_rfl) ?_
 refine WT.ret Tryz.func190 (resOk.one rfl) (fun w1 hw => ?_)
 cases h
 exact post_of_St hw
theorem m_i_LessVal_ok {Φ : Hp} {w : World} (hΦ : In Φ w) (N : Nat) (p0 : TVal) (p1 : TVal)   {r : Bool} (h : m_i_LessVal N p0 p1 = some r) :
  Calls Tryz.prog 132 [.agg [.int .i64 p0.K, .int .i64 p0.N, .string p0.S].toArray, .agg [.int .i64 p1.K, .int .i64 p1.N, .string p1.S].toArray].toArray w (Post (.bool r) w) := by
 refine enter Tryz.func132 rfl Tryz.ntmps132 rfl (St.start0 hΦ) ?_
 unfold m_i_LessVal at h
 refine WT.seq <| WT.region ?_
 refine ln (n_box (C := #[.int .i64 p0.K, .int .i64 p0.N, .string p0.S]) rfl rfl) rfl (fun b_1 => ?_)
 refine ln (n_box (C := #[.int .i64 p1.K, .int .i64 p1.N, .string p1.S]) rfl rfl) rfl (fun b_2 => ?_)
 refine lq (q_assign rfl) rfl <| WL.nil <| WT.seq <| WT.region <| lq (q_loadN Tn_121 rfl (fun w1 hw => hw.rgO (i := 1) rfl 0 3 [.int .i64 p0.K, .int .i64 p0.N, .string p0.S] rfl) rfl) rfl <| lq (q_loadN Tn_121 rfl (fun w1 hw => hw.rgO (i := 0) rfl 0 3 [.int .i64 p1.K, .int .i64 p1.N, .string p1.S] rfl) rfl) rfl ?_
 obtain ⟨x1, hx1, h⟩ := bind_some h
 refine lp (p_call Fun_190 rfl (fun w1 hw => m_i_compareVals_ok hw.fro N p0 p1 hx1)) rfl <| lq (q_lss rfl rfl) rfl <| lq (q_assign rfl) rfl <| WL.nil ?_
 refine WT.ret Tryz.func132 (resOk.one rfl) (fun w1 hw => ?_)
 cases h
 exact post_of_St hw
theorem m_i_Holds_ok {Φ : Hp} {w : World} (hΦ : In Φ w) (N : Nat) (p0 : TCond) (p1 : (List TBind)) {pv1 : Value} {pG1 : List Nat} (ph1 : RSl RTBind 4 Φ pG1 pv1 p1) {r : Bool} (h : m_i_Holds N p0 p1 = some r) :
  Calls Tryz.prog 67 [.agg [.int .i64 p0.Op, .int .i64 p0.L.K, .string p0.L.S, .int .i64 p0.L.V.K, .int .i64 p0.L.V.N, .string p0.L.V.S, .int .i64 p0.R.K, .string p0.R.S, .int .i64 p0.R.V.K, .int .i64 p0.R.V.N, .string p0.R.V.S].toArray, pv1].toArray w (Post (.bool r) w) := by
 refine enter Tryz.func67 rfl Tryz.ntmps67 rfl (St.start0 hΦ) ?_
 unfold m_i_Holds at h
 refine WT.seq <| WT.region ?_
 refine ln (n_box (C := #[.int .i64 p0.Op, .int .i64 p0.L.K, .string p0.L.S, .int .i64 p0.L.V.K, .int .i64 p0.L.V.N, .string p0.L.V.S, .int .i64 p0.R.K, .string p0.R.S, .int .i64 p0.R.V.K, .int .i64 p0.R.V.N, .string p0.R.V.S]) rfl rfl) rfl (fun b_1 => ?_)
 refine lq (q_assign rfl) rfl <| WL.nil <| WT.seq <| WT.region <| lq (q_fieldAddr Fld_128_1 rfl) rfl <| lq (q_loadN Tn_126 rfl (fun w1 hw => hw.rgO (i := 0) rfl 1 5 [.int .i64 p0.L.K, .string p0.L.S, .int .i64 p0.L.V.K, .int .i64 p0.L.V.N, .string p0.L.V.S] rfl) rfl) rfl <| lq (q_move rfl) rfl ?_
 obtain ⟨x1, hx1, h⟩ := bind_some h
 refine lp (p_call Fun_131 rfl (fun w1 hw => m_i_ArgVal_ok hw.fro N p0.L p1 ph1 hx1)) rfl <| lq (q_move rfl) rfl <| lq (q_extract rfl rfl) rfl <| lq (q_extract rfl rfl) rfl ?_
 refine ln (n_alloc (C := #[.int .i64 0, .int .i64 0, .string (⟨#[]⟩ : ByteArray)]) Zr_121 rfl) rfl (fun b_2 => ?_)
 refine ls (s_store (i := 0) (vs := [.int .i64 x1.1.K, .int .i64 x1.1.N, .string x1.1.S]) (C' := [.int .i64 x1.1.K, .int .i64 x1.1.N, .string x1.1.S]) (O' := [(b_2, .cells #[.int .i64 x1.1.K, .int .i64 x1.1.N, .string x1.1.S] 121 (0, 0)), (b_1, .cells #[.int .i64 p0.Op, .int .i64 p0.L.K, .string p0.L.S, .int .i64 p0.L.V.K, .int .i64 p0.L.V.N, .string p0.L.V.S, .int .i64 p0.R.K, .string p0.R.S, .int .i64 p0.R.V.K, .int .i64 p0.R.V.N, .string p0.R.V.S] 128 (0, 0))]) Sz_121 rfl rfl rfl rfl rfl rfl ⟨rfl, rfl, rfl, trivial⟩ rfl rfl) rfl ?_
 refine lq (q_assign rfl) rfl <| WL.nil <| WT.seq <| WT.region <| lq (q_fieldAddr Fld_128_2 rfl) rfl <| lq (q_loadN Tn_126 rfl (fun w1 hw => hw.rgO (i := 1) rfl 6 5 [.int .i64 p0.R.K, .string p0.R.S, .int .i64 p0.R.V.K, .int .i64 p0.R.V.N, .string p0.R.V.S] rfl) rfl) rfl <| lq (q_move rfl) rfl ?_
 obtain ⟨x2, hx2, h⟩ := bind_some h
 refine lp (p_call Fun_131 rfl (fun w1 hw => m_i_ArgVal_ok hw.fro N p0.R p1 ph1 hx2)) rfl <| lq (q_move rfl) rfl <| lq (q_extract rfl rfl) rfl <| lq (q_extract rfl rfl) rfl ?_
 refine ln (n_alloc (C := #[.int .i64 0, .int .i64 0, .string (⟨#[]⟩ : ByteArray)]) Zr_121 rfl) rfl (fun b_3 => ?_)
 refine ls (s_store (i := 0) (vs := [.int .i64 x2.1.K, .int .i64 x2.1.N, .string x2.1.S]) (C' := [.int .i64 x2.1.K, .int .i64 x2.1.N, .string x2.1.S]) (O' := [(b_3, .cells #[.int .i64 x2.1.K, .int .i64 x2.1.N, .string x2.1.S] 121 (0, 0)), (b_2, .cells #[.int .i64 x1.1.K, .int .i64 x1.1.N, .string x1.1.S] 121 (0, 0)), (b_1, .cells #[.int .i64 p0.Op, .int .i64 p0.L.K, .string p0.L.S, .int .i64 p0.L.V.K, .int .i64 p0.L.V.N, .string p0.L.V.S, .int .i64 p0.R.K, .string p0.R.S, .int .i64 p0.R.V.K, .int .i64 p0.R.V.N, .string p0.R.V.S] 128 (0, 0))]) Sz_121 rfl rfl rfl rfl rfl rfl ⟨rfl, rfl, rfl, trivial⟩ rfl rfl) rfl ?_
 refine lq (q_assign rfl) rfl <| WL.nil <| WT.seq <| WT.seq <| WT.region <| lq (q_move rfl) rfl <| lq (q_not rfl) rfl <| lq (q_move rfl) rfl ?_
 obtain ⟨b1, hb_1, h⟩ := bind_some h
 refine WL.cutN 3 [(28, .bool b1), (2, .pointer (some ⟨b_1, 0, none⟩)), (5, .pointer (some ⟨b_2, 0, none⟩)), (7, .pointer (some ⟨b_3, 0, none⟩))] ?_ (fun K => ?_)
 rotate_left
 ·refine WL.split (d := 25) rfl (fun c1 => ?_) (fun c1 => ?_)
  ·replace hb_1 := ite_t hb_1 c1
   refine WL.no rfl rfl rfl rfl <| WL.no rfl rfl rfl rfl <| WL.q (q_pick1 rfl rfl) rfl rfl rfl ?_
   cases hb_1
   exact WL.keep (by exact ⟨rfl, rfl, rfl, rfl, trivial⟩) K
  ·replace hb_1 := ite_f hb_1 c1
   refine WL.yes rfl rfl <| lq (q_move rfl) rfl <| WL.yes rfl rfl <| lq (q_not rfl) rfl <| WL.q (q_pick0 rfl rfl) rfl rfl rfl ?_
   cases hb_1
   exact WL.keep (by exact ⟨rfl, rfl, rfl, rfl, trivial⟩) K
 refine WL.nil ?_
 refine WT.cond rfl (fun c2 => ?_) (fun c2 => ?_)
 ·replace h := ite_t h c2
  refine WT.seq <| WT.region <| lq (q_assign rfl) rfl <| WL.nil ?_
  refine WT.ret Tryz.func67 (resOk.one rfl) (fun w1 hw => ?_)
  cases h
  exact post_of_St hw
 replace h := ite_f h c2
 refine WT.skip <| WT.seq <| WT.seq <| WT.region <| lq (q_fieldAddr Fld_128_0 rfl) rfl <| lq (q_load1 T1_3 rfl (fun w1 hw => hw.rgO (i := 2) rfl 0 1 [.int .i64 p0.Op] rfl)) rfl <| WL.nil <| WT.block <| WT.seq <| WT.region <| lq (q_eql rfl rfl) rfl <| lq (q_assign rfl) rfl <| WL.nil ?_
 refine WT.cond rfl (fun c3 => ?_) (fun c3 => ?_)
 ·replace h := ite_t h c3
  refine WT.seq <| WT.region <| lq (q_loadN Tn_121 rfl (fun w1 hw => hw.rgO (i := 1) rfl 0 3 [.int .i64 x1.1.K, .int .i64 x1.1.N, .string x1.1.S] rfl) rfl) rfl <| lq (q_loadN Tn_121 rfl (fun w1 hw => hw.rgO (i := 0) rfl 0 3 [.int .i64 x2.1.K, .int .i64 x2.1.N, .string x2.1.S] rfl) rfl) rfl <| lq (q_eqA EqT_121 rfl rfl rfl (r := eqT_TVal x1.1 x2.1) rfl) rfl <| lq (q_assign rfl) rfl <| WL.nil ?_
  refine WT.ret Tryz.func67 (resOk.one rfl) (fun w1 hw => ?_)
  cases h
  exact post_of_St hw
 replace h := ite_f h c3
 refine WT.seq <| WT.region <| lq (q_eql rfl rfl) rfl <| lq (q_assign rfl) rfl <| WL.nil ?_
 refine WT.cond rfl (fun c4 => ?_) (fun c4 => ?_)
 ·replace h := ite_t h c4
  refine WT.seq <| WT.region <| lq (q_loadN Tn_121 rfl (fun w1 hw => hw.rgO (i := 1) rfl 0 3 [.int .i64 x1.1.K, .int .i64 x1.1.N, .string x1.1.S] rfl) rfl) rfl <| lq (q_loadN Tn_121 rfl (fun w1 hw => hw.rgO (i := 0) rfl 0 3 [.int .i64 x2.1.K, .int .i64 x2.1.N, .string x2.1.S] rfl) rfl) rfl <| lq (q_neA EqT_121 rfl rfl rfl (r := eqT_TVal x1.1 x2.1) rfl) rfl <| lq (q_assign rfl) rfl <| WL.nil ?_
  refine WT.ret Tryz.func67 (resOk.one rfl) (fun w1 hw => ?_)
  cases h
  exact post_of_St hw
 replace h := ite_f h c4
 refine WT.seq <| WT.region <| lq (q_eql rfl rfl) rfl <| lq (q_assign rfl) rfl <| WL.nil ?_
 refine WT.cond rfl (fun c5 => ?_) (fun c5 => ?_)
 ·replace h := ite_t h c5
  refine WT.seq <| WT.region <| lq (q_loadN Tn_121 rfl (fun w1 hw => hw.rgO (i := 1) rfl 0 3 [.int .i64 x1.1.K, .int .i64 x1.1.N, .string x1.1.S] rfl) rfl) rfl <| lq (q_loadN Tn_121 rfl (fun w1 hw => hw.rgO (i := 0) rfl 0 3 [.int .i64 x2.1.K, .int .i64 x2.1.N, .string x2.1.S] rfl) rfl) rfl ?_
  obtain ⟨x3, hx3, h⟩ := bind_some h
  refine lp (p_call Fun_132 rfl (fun w1 hw => m_i_LessVal_ok hw.fro N x1.1 x2.1 hx3)) rfl <| lq (q_assign rfl) rfl <| WL.nil ?_
  refine WT.ret Tryz.func67 (resOk.one rfl) (fun w1 hw => ?_)
  cases h
  exact post_of_St hw
 replace h := ite_f h c5
 refine WT.skip <| WT.inBlock <| WT.seq <| WT.region <| lq (q_assign rfl) rfl <| WL.nil ?_
 refine WT.ret Tryz.func67 (resOk.one rfl) (fun w1 hw => ?_)
 cases h
 exact post_of_St hw
theorem m_i_HoldAll_ok {Φ : Hp} {w : World} (hΦ : In Φ w) (N : Nat) (p0 : (List TCond)) (p1 : (List TBind)) {pv0 : Value} {pG0 : List Nat} {pv1 : Value} {pG1 : List Nat} (ph0 : RSl RTCond 11 Φ pG0 pv0 p0) (ph1 : RSl RTBind 4 Φ pG1 pv1 p1) {r : Bool} (h : m_i_HoldAll N p0 p1 = some r) :
  Calls Tryz.prog 22 [pv0, pv1].toArray w (Post (.bool r) w) := by
 refine enter Tryz.func22 rfl Tryz.ntmps22 rfl (St.start0 hΦ) ?_
 generalize hb0 : (⟨w, [], Φ⟩ : Base) = w0
 unfold m_i_HoldAll at h
 refine WT.seq <| WT.region <| lq (q_assign rfl) rfl <| WL.nil <| WT.seq <| WT.seq <| WT.region <| lq (q_move rfl) rfl <| lq (q_lenR Sl_46 rfl rfl ph0) rfl <| lq (q_move rfl) rfl <| WL.nil <| WT.block <| WT.loop <| WT.mono (l' := [(1, pv1), (7, pv0), (8, .int .i64 (p0.length : Int)), (9, .int .i64 0)]) (S' := St w0 Φ [] []) ⟨rfl, rfl, rfl, rfl, trivial⟩ (fun w1 hw => (hw.sel (js := []) rfl).selO (js := []) rfl) ?_
 refine loop_ind (σ := Int) (fun s => [(1, pv1), (7, pv0), (8, .int .i64 (p0.length : Int)), (9, .int .i64 s)]) (fun s => St w0 Φ [] []) (fun m s => m_i_HoldAll_l1 N p0 p1 m s = some r) (fun s hm => none_ne (show (none : Option (Bool)) = some r from hm)) (fun n1 ih1 s hm => ?_) N (0) h
 revert hm; revert s; intro s1 hm
 have h : m_i_HoldAll_l1 N p0 p1 (n1 + 1) s1 = some r := hm
 show WT _ _ [(1, pv1), (7, pv0), (8, .int .i64 (p0.length : Int)), (9, .int .i64 s1)] (St w0 Φ [] [])
 unfold m_i_HoldAll_l1 at h
 refine WT.seq <| WT.region <| lq (q_lss rfl rfl) rfl <| WL.nil <| WT.seq ?_
 refine WT.cond rfl (fun c1 => ?_) (fun c1 => ?_)
 ·replace h := ite_t h c1
  refine WT.skip <| WT.seq <| WT.block <| WT.seq <| WT.region ?_
  obtain ⟨x1, hx1, h⟩ := bind_some h
  obtain ⟨cs1, F1, -, g1, hb1, hs1, r1⟩ := ph0.el (idx_some hx1).2.2
  obtain ⟨rfl, -⟩ := r1
  refine lq (q_indexAddr Sl_46 rfl rfl ph0 hx1) rfl <| lq (q_loadN Tn_128 rfl (fun w1 hw => (g1.of_eq 0 11 rfl rfl : rg _ _ _ [.int .i64 x1.Op, .int .i64 x1.L.K, .string x1.L.S, .int .i64 x1.L.V.K, .int .i64 x1.L.V.N, .string x1.L.V.S, .int .i64 x1.R.K, .string x1.R.S, .int .i64 x1.R.V.K, .int .i64 x1.R.V.N, .string x1.R.V.S]).rangeAt hw.fro) rfl) rfl ?_
  refine ln (n_alloc (C := #[.int .i64 0, .int .i64 0, .string (⟨#[]⟩ : ByteArray), .int .i64 0, .int .i64 0, .string (⟨#[]⟩ : ByteArray), .int .i64 0, .string (⟨#[]⟩ : ByteArray), .int .i64 0, .int .i64 0, .string (⟨#[]⟩ : ByteArray)]) Zr_128 rfl) rfl (fun b_1 => ?_)
  refine ls (s_store (i := 0) (vs := [.int .i64 x1.Op, .int .i64 x1.L.K, .string x1.L.S, .int .i64 x1.L.V.K, .int .i64 x1.L.V.N, .string x1.L.V.S, .int .i64 x1.R.K, .string x1.R.S, .int .i64 x1.R.V.K, .int .i64 x1.R.V.N, .string x1.R.V.S]) (C' := [.int .i64 x1.Op, .int .i64 x1.L.K, .string x1.L.S, .int .i64 x1.L.V.K, .int .i64 x1.L.V.N, .string x1.L.V.S, .int .i64 x1.R.K, .string x1.R.S, .int .i64 x1.R.V.K, .int .i64 x1.R.V.N, .string x1.R.V.S]) (O' := [(b_1, .cells #[.int .i64 x1.Op, .int .i64 x1.L.K, .string x1.L.S, .int .i64 x1.L.V.K, .int .i64 x1.L.V.N, .string x1.L.V.S, .int .i64 x1.R.K, .string x1.R.S, .int .i64 x1.R.V.K, .int .i64 x1.R.V.N, .string x1.R.V.S] 128 (0, 0))]) Sz_128 rfl rfl rfl rfl rfl rfl ⟨rfl, rfl, rfl, rfl, rfl, rfl, rfl, rfl, rfl, rfl, rfl, trivial⟩ rfl rfl) rfl ?_
  refine WL.nil <| WT.seq <| WT.region <| lq (q_loadN Tn_128 rfl (fun w1 hw => hw.rgO (i := 0) rfl 0 11 [.int .i64 x1.Op, .int .i64 x1.L.K, .string x1.L.S, .int .i64 x1.L.V.K, .int .i64 x1.L.V.N, .string x1.L.V.S, .int .i64 x1.R.K, .string x1.R.S, .int .i64 x1.R.V.K, .int .i64 x1.R.V.N, .string x1.R.V.S] rfl) rfl) rfl <| lq (q_move rfl) rfl ?_
  obtain ⟨x2, hx2, h⟩ := bind_some h
  refine lp (p_call Fun_67 rfl (fun w1 hw => m_i_Holds_ok hw.fro N x1 p1 ph1 hx2)) rfl <| lq (q_not rfl) rfl <| WL.nil ?_
  refine WT.cond rfl (fun c2 => ?_) (fun c2 => ?_)
  ·replace h := ite_t h c2
   refine WT.seq <| WT.region <| lq (q_assign rfl) rfl <| WL.nil ?_
   refine WT.ret Tryz.func22 (resOk.one rfl) (fun w1 hw => ?_)
   subst hb0
   cases h
   exact post_of_St hw
  replace h := ite_f h c2
  refine WT.skip <| WT.inBlock <| WT.region <| lq (q_add rfl rfl) rfl <| lq (q_move rfl) rfl <| WL.nil ?_
  refine WT.inLoop (WT.mono (l' := [(1, pv1), (7, pv0), (8, .int .i64 (p0.length : Int)), (9, .int .i64 (IntKind.i64.wrap (s1 + 1)))]) (S' := St w0 Φ [] []) ⟨rfl, rfl, rfl, rfl, trivial⟩ (fun w1 hw => (hw.sel (js := []) rfl).selO (js := []) rfl) ?_)
  exact ih1 (IntKind.i64.wrap (s1 + 1)) h
 replace h := ite_f h c1
 refine WT.exit rfl <| WT.seq <| WT.region <| lq (q_assign rfl) rfl <| WL.nil ?_
 refine WT.ret Tryz.func22 (resOk.one rfl) (fun w1 hw => ?_)
 subst hb0
 cases h
 exact post_of_St hw
theorem m_sl_Clone_Sint_int_ok {Φ : Hp} {w : World} (hΦ : In Φ w) (N : Nat) (p0 : (List Int)) {pv0 : Value} {pG0 : List Nat} (ph0 : RSl (RI .i64) 1 Φ pG0 pv0 p0) {r : (List Int)} (h : m_sl_Clone_Sint_int N p0 = some r) :
  Calls Tryz.prog 189 [pv0].toArray w (PostG Φ w [] (fun Φ' Fs v => ∃ (sr_0_0 : Value), v = sr_0_0 ∧ Fs = [ob sr_0_0] ∧ OSl (RI .i64) 3 1 Φ' [] sr_0_0 r)) := by
 refine enter Tryz.func189 rfl Tryz.ntmps189 rfl (St.start0 hΦ) ?_
 unfold m_sl_Clone_Sint_int at h
 refine WT.seq <| WT.region <| lq (q_assign rfl) rfl <| WL.nil <| WT.seq <| WT.seq ?_
 rcases RSl.nilOr ph0 with ⟨hxs1, cc1, hv1⟩ | ⟨a1, cc1, hv1⟩
 ·skip
  replace h : some [] = some r := by simpa [hxs1, app] using h
  refine WT.region <| lq (q_move rfl) rfl <| lq (q_eqNil Sl_41 (congrArg some hv1) rfl) rfl <| WL.nil ?_
  refine WT.cond rfl (fun c => ?_) (fun c => by simp at c)
  refine WT.seq <| WT.region <| lq (q_assign rfl) rfl <| WL.nil ?_
  refine WT.ret Tryz.func189 (resOk.one rfl) (fun w1 hw => ?_)
  cases h
  replace hw := hw.addNil
  refine postG_of_St (js := [0]) hw rfl ⟨.slice none 0 0, rfl, rfl, OSl.nil _ _ _ _⟩
 refine WT.region <| lq (q_move rfl) rfl <| lq (q_eqNil Sl_41 (congrArg some hv1) rfl) rfl <| WL.nil ?_
 refine WT.cond rfl (fun c => by simp at c) (fun c => ?_)
 refine WT.skip <| WT.seq <| WT.region ?_
 have rc1 : RC (RI .i64) 1 Φ ([] : List (List Nat)) [] ([] : List Int) := RC.nil _ _ _
 refine le' (e_lit (vs := []) (C := #[]) RI.lasts Sl_41 Zr_3 rfl rfl rfl rfl (fill_made MC_3_0 (fill_nil)) rfl rc1 rfl (by simpa using Kw.nil)) rfl (fun v1 Φ_1 D1 q1 => ?_)
 obtain ⟨fr1, h1⟩ := q1
 replace h1 : OSl (RI .i64) 3 1 Φ_1 [] v1 ([] : List Int) := by simpa using h1
 replace ph0 := ph0.frame RI.lasts fr1 (Dj.empty _)
 refine lq (q_move rfl) rfl ?_
 obtain ⟨x1, hx1, h⟩ := bind_some h
 refine le' (e_appF RI.lasts RI.one RI.flat Sl_41 Ei_3 rfl rfl rfl rfl rfl (js := [0]) (Rr := []) rfl h1 ph0 hx1) rfl (fun v2 Φ_2 D2 q2 => ?_)
 obtain ⟨⟨ap1, fr2⟩, h2⟩ := q2
 refine lq (q_assign rfl) rfl <| WL.nil ?_
 refine WT.ret Tryz.func189 (resOk.one rfl) (fun w1 hw => ?_)
 cases h
 refine postG_of_St (js := [0]) hw rfl ⟨v2, rfl, rfl, h2⟩
theorem m_i_addRows_ok (N : Nat) : ∀ {Φ : Hp} {w : World} (hΦ : In Φ w) (p0 : (List TMatch)) (p1 : TRule) (p2 : TStore) (p3 : (List Int)) (p4 : (List TBind)) {pv0 : Value} {pD0 : List Nat} {pb0 : Nat} {pv1_0 : Value} {pG1_0 : List Nat} {pv1_1 : Value} {pG1_1 : List Nat} {pv1_2 : Value} {pG1_2 : List Nat} {pv2_0 : Value} {pG2_0 : List Nat} {pv3 : Value} {pG3 : List Nat} {pv4 : Value} {pG4 : List Nat} (ph0 : OSl OTMatch 63 3 Φ pD0 pv0 p0) (pp0 : Φ pb0 = some (.cells #[pv0] 59 (0, 0))) (ph1_0 : RSl RTPat 3 Φ pG1_0 pv1_0 p1.Pats) (ph1_1 : RSl RTCond 11 Φ pG1_1 pv1_1 p1.Conds) (ph1_2 : RSl RTAct 5 Φ pG1_2 pv1_2 p1.Acts) (ph2_0 : RSl RTItem 3 Φ pG2_0 pv2_0 p2.Items) (ph3 : RSl (RI .i64) 1 Φ pG3 pv3 p3) (ph4 : RSl RTBind 4 Φ pG4 pv4 p4) (pd1_0 : Dj pG1_0 [[pb0], ob pv0, pD0].flatten) (pd1_1 : Dj pG1_1 [[pb0], ob pv0, pD0].flatten) (pd1_2 : Dj pG1_2 [[pb0], ob pv0, pD0].flatten) (pd2_0 : Dj pG2_0 [[pb0], ob pv0, pD0].flatten) (pd3 : Dj pG3 [[pb0], ob pv0, pD0].flatten) (pd4 : Dj pG4 [[pb0], ob pv0, pD0].flatten) (hB : [[pb0], ob pv0, pD0].flatten.Nodup) (hlt : ∀ k ∈ [[pb0], ob pv0, pD0].flatten, k < w.heap.size) {r : (List TMatch)} (h : m_i_addRows N p0 p1 p2 p3 p4 = some r),
  Calls Tryz.prog 130 [.pointer (some ⟨pb0, 0, none⟩), .agg [.string p1.Name, .int .i64 p1.Sal, pv1_0, pv1_1, pv1_2].toArray, .agg [pv2_0, .int .i64 p2.Next].toArray, pv3, pv4].toArray w (PostG Φ w [[pb0], ob pv0, pD0].flatten (fun Φ' Fs v => ∃ (so_0_0 : Value) (Do_0_0 : List Nat), v = .tuple #[] ∧ Fs = [[pb0], ob so_0_0, Do_0_0] ∧ OSl OTMatch 63 3 Φ' Do_0_0 so_0_0 r ∧ Φ' pb0 = some (.cells #[so_0_0] 59 (0, 0)))) := by
 induction N with
 | zero => intros; rename_i h; simp [m_i_addRows] at h
 | succ N ih =>
 intro Φ w hΦ p0 p1 p2 p3 p4 pv0 pD0 pb0 pv1_0 pG1_0 pv1_1 pG1_1 pv1_2 pG1_2 pv2_0 pG2_0 pv3 pG3 pv4 pG4 ph0 pp0 ph1_0 ph1_1 ph1_2 ph2_0 ph3 ph4 pd1_0 pd1_1 pd1_2 pd2_0 pd3 pd4 hB hlt r h
 refine enter Tryz.func130 rfl Tryz.ntmps130 rfl (St.start hΦ [[pb0], ob pv0, pD0] hB hlt) ?_
 have pa1_0 : Old ⟨w, [[pb0], ob pv0, pD0].flatten, Φ⟩ pG1_0 := Old.mk hΦ ph1_0.kn pd1_0
 have pa1_1 : Old ⟨w, [[pb0], ob pv0, pD0].flatten, Φ⟩ pG1_1 := Old.mk hΦ ph1_1.kn pd1_1
 have pa1_2 : Old ⟨w, [[pb0], ob pv0, pD0].flatten, Φ⟩ pG1_2 := Old.mk hΦ ph1_2.kn pd1_2
 have pa2_0 : Old ⟨w, [[pb0], ob pv0, pD0].flatten, Φ⟩ pG2_0 := Old.mk hΦ ph2_0.kn pd2_0
 have pa3 : Old ⟨w, [[pb0], ob pv0, pD0].flatten, Φ⟩ pG3 := Old.mk hΦ ph3.kn pd3
 have pa4 : Old ⟨w, [[pb0], ob pv0, pD0].flatten, Φ⟩ pG4 := Old.mk hΦ ph4.kn pd4
 revert pa1_0 pa1_1 pa1_2 pa2_0 pa3 pa4
 generalize hb0 : (⟨w, [[pb0], ob pv0, pD0].flatten, Φ⟩ : Base) = w0
 intro pa1_0 pa1_1 pa1_2 pa2_0 pa3 pa4
 unfold m_i_addRows at h
 refine WT.seq <| WT.region ?_
 refine ln (n_box (C := #[.string p1.Name, .int .i64 p1.Sal, pv1_0, pv1_1, pv1_2]) rfl rfl) rfl (fun b_1 => ?_)
 refine ln (n_box (C := #[pv2_0, .int .i64 p2.Next]) rfl rfl) rfl (fun b_2 => ?_)
 refine WL.nil <| WT.seq <| WT.region <| lq (q_loadN Tn_49 rfl (fun w1 hw => hw.rgO (i := 1) rfl 0 5 [.string p1.Name, .int .i64 p1.Sal, pv1_0, pv1_1, pv1_2] rfl) rfl) rfl ?_
 obtain ⟨x1, hx1, h⟩ := bind_some h
 refine lc (k_call (js := []) (R := [[pb0], ob pv0, pD0]) Fun_61 rfl rfl (fun w1 hw ap hl => m_i_pats_ok hw.fro N p1 false ph1_0 ph1_1 ph1_2  hx1)) rfl (fun v1 Φ_1 F1 q1 => ?_)
 obtain ⟨ap1, fr1, v2, D1, rfl, rfl, h1, i1⟩ := q1
 replace ph3 := ph3.frame RI.lasts fr1 (ap1.o pa3)
 replace ph4 := ph4.frame RTBind.lasts fr1 (ap1.o pa4)
 replace ph1_0 := ph1_0.frame RTPat.lasts fr1 (ap1.o pa1_0)
 replace ph1_1 := ph1_1.frame RTCond.lasts fr1 (ap1.o pa1_1)
 replace ph1_2 := ph1_2.frame RTAct.lasts fr1 (ap1.o pa1_2)
 replace ph2_0 := ph2_0.frame RTItem.lasts fr1 (ap1.o pa2_0)
 replace ph0 := ph0.frame OTMatch.lasts fr1 (ap1.r (i := 1) rfl) (ap1.r (i := 2) rfl)
 replace pp0 := fr1 _ _ ((ap1.r (i := 0) rfl) _ (by simp)) pp0
 refine lq (q_assign rfl) rfl <| WL.nil <| WT.seq <| WT.seq <| WT.region <| lq (q_move rfl) rfl <| lq (q_lenR Sl_41 rfl rfl ph3) rfl <| lq (q_move rfl) rfl <| lq (q_lenR Sl_45 rfl rfl h1.rsl) rfl <| lq (q_eql rfl rfl) rfl <| WL.nil ?_
 refine WT.cond rfl (fun c1 => ?_) (fun c1 => ?_)
 ·replace h := ite_t h c1
  refine WT.seq <| WT.seq <| WT.region <| lq (q_loadN Tn_49 rfl (fun w1 hw => hw.rgO (i := 1) rfl 0 5 [.string p1.Name, .int .i64 p1.Sal, pv1_0, pv1_1, pv1_2] rfl) rfl) rfl <| lq (q_loadN Tn_52 rfl (fun w1 hw => hw.rgO (i := 0) rfl 0 2 [pv2_0, .int .i64 p2.Next] rfl) rfl) rfl <| lq (q_move rfl) rfl ?_
  obtain ⟨x2, hx2, h⟩ := bind_some h
  refine lp (p_call Fun_21 rfl (fun w1 hw => m_i_Blocked_ok hw.fro N p1 p2 p4 ph1_0 ph1_1 ph1_2 ph2_0 ph4 hx2)) rfl <| lq (q_not rfl) rfl <| lq (q_move rfl) rfl ?_
  obtain ⟨b1, hb_1, h⟩ := bind_some h
  refine WL.cutN 5 [(32, .bool b1), (0, .pointer (some ⟨pb0, 0, none⟩)), (3, pv3), (4, pv4)] ?_ (fun K => ?_)
  rotate_left
  ·refine WL.split (d := 27) rfl (fun c2 => ?_) (fun c2 => ?_)
   ·replace hb_1 := ite_t hb_1 c2
    refine WL.yes rfl rfl <| lq (q_fieldAddr Fld_49_3 rfl) rfl <| WL.yes rfl rfl <| lq (q_load1 T1_46 rfl (fun w1 hw => hw.rgO (i := 1) rfl 3 1 [pv1_1] rfl)) rfl <| WL.yes rfl rfl <| lq (q_move rfl) rfl <| WL.yes rfl rfl ?_
    obtain ⟨x3, hx3, hb_1⟩ := bind_some hb_1
    refine lp (p_call Fun_22 rfl (fun w1 hw => m_i_HoldAll_ok hw.fro N p1.Conds p4 ph1_1 ph4 hx3)) rfl <| WL.q (q_pick1 rfl rfl) rfl rfl rfl ?_
    cases hb_1
    exact WL.keep (by exact ⟨rfl, rfl, rfl, rfl, trivial⟩) K
   ·replace hb_1 := ite_f hb_1 c2
    refine WL.no rfl rfl rfl rfl <| WL.no rfl rfl rfl rfl <| WL.no rfl rfl rfl rfl <| WL.no rfl rfl rfl rfl <| WL.q (q_pick0 rfl rfl) rfl rfl rfl ?_
    cases hb_1
    exact WL.keep (by exact ⟨rfl, rfl, rfl, rfl, trivial⟩) K
  refine WL.nil ?_
  refine WT.cond rfl (fun c3 => ?_) (fun c3 => ?_)
  ·replace h := ite_t h c3
   refine WT.mix (Kn Φ_1 [pb0] [(b_2, .cells #[pv2_0, .int .i64 p2.Next] 52 (0, 0)), (b_1, .cells #[.string p1.Name, .int .i64 p1.Sal, pv1_0, pv1_1, pv1_2] 49 (0, 0))]) (fun i => match i with | 12 => false | _ => true) mixed (fun _ h => h.drew) <| mq 0 rfl (by kernel_rfl) (fun w1 hw => Kn.of (fun _ _ _ h => h) (AllIn.mem ⟨List.mem_of_getElem? (i := 0) rfl, List.mem_of_getElem? (i := 1) rfl, trivial⟩) hw) (q_move rfl) rfl ?_
   refine mq 1 rfl (by kernel_rfl) (fun w1 hw => Kn.of (fun _ _ _ h => h) (AllIn.mem ⟨List.mem_of_getElem? (i := 0) rfl, List.mem_of_getElem? (i := 1) rfl, trivial⟩) hw) (q_move rfl) rfl <| mq 2 rfl (by kernel_rfl) (fun w1 hw => Kn.of (fun _ _ _ h => h) (AllIn.mem ⟨List.mem_of_getElem? (i := 0) rfl, List.mem_of_getElem? (i := 1) rfl, trivial⟩) hw) (q_nilCheck rfl) rfl <| mq 3 rfl (by kernel_rfl) (fun w1 hw => Kn.of (fun _ _ _ h => h) (AllIn.mem ⟨List.mem_of_getElem? (i := 0) rfl, List.mem_of_getElem? (i := 1) rfl, trivial⟩) hw) (q_load1 T1_59 rfl (fun w1 hw => hw.rg (by simp) ((rg_cells pp0).of_eq 0 1 rfl rfl : rg _ _ _ [pv0]))) rfl ?_
   refine mq 4 rfl (by kernel_rfl) (fun w1 hw => Kn.of (fun _ _ _ h => h) (AllIn.mem ⟨List.mem_of_getElem? (i := 0) rfl, List.mem_of_getElem? (i := 1) rfl, trivial⟩) hw) (q_move rfl) rfl <| mq 6 rfl (by kernel_rfl) (fun w1 hw => Kn.of (fun _ _ _ h => h) (AllIn.mem ⟨List.mem_of_getElem? (i := 0) rfl, List.mem_of_getElem? (i := 1) rfl, trivial⟩) hw) (q_move rfl) rfl ?_
   obtain ⟨x4, hx4, h⟩ := bind_some h
   refine WM.one 5 (by kernel_rfl) (mc rfl (fun _ v Φx D w1 hq hw => Kn.of (fun k hk o ho => hq.2.1 k o ((hq.1.r (i := 1) rfl) k hk) ((fun _ _ _ h => h) k hk o ho)) (AllIn.mem ⟨List.mem_of_getElem? (i := 0) rfl, List.mem_of_getElem? (i := 1) rfl, trivial⟩) hw) (k_call (js := []) (R := [ob v1, [pb0], ob pv0, pD0]) Fun_189 rfl rfl (fun w1 hw ap hl => m_sl_Clone_Sint_int_ok hw.fro N p3 ph3  hx4)) rfl (fun v3 Φ_2 F2 q2 => ?_))
   obtain ⟨ap2, fr2, v4, rfl, rfl, h2⟩ := q2
   replace ph4 := ph4.frame RTBind.lasts fr2 (ap2.o pa4)
   replace ph0 := ph0.frame OTMatch.lasts fr2 (ap2.r (i := 2) rfl) (ap2.r (i := 3) rfl)
   replace pp0 := fr2 _ _ ((ap2.r (i := 1) rfl) _ (by simp)) pp0
   obtain ⟨x5, hx5, h⟩ := bind_some h
   refine WM.one 7 (by kernel_rfl) (mc rfl (fun _ v Φx D w1 hq hw => Kn.of (fun k hk o ho => hq.2.1 k o ((hq.1.r (i := 2) rfl) k hk) ((fun k hk o ho => fr2 k o ((ap2.r (i := 1) rfl) k hk) ((fun _ _ _ h => h) k hk o ho)) k hk o ho)) (AllIn.mem ⟨List.mem_of_getElem? (i := 0) rfl, List.mem_of_getElem? (i := 1) rfl, trivial⟩) hw) (k_call (js := []) (R := [ob v3, ob v1, [pb0], ob pv0, pD0]) Fun_187 rfl rfl (fun w1 hw ap hl => m_sl_Clone_Si_Bind_i_Bind_ok hw.fro N p4 ph4  hx5)) rfl (fun v5 Φ_3 F3 q3 => ?_))
   obtain ⟨ap3, fr3, v6, rfl, rfl, h3⟩ := q3
   replace ph0 := ph0.frame OTMatch.lasts fr3 (ap3.r (i := 3) rfl) (ap3.r (i := 4) rfl)
   replace h2 := h2.frame RI.lasts fr3 (ap3.r (i := 0) rfl) (Dj.nil _)
   replace pp0 := fr3 _ _ ((ap3.r (i := 2) rfl) _ (by simp)) pp0
   refine mq 8 rfl (by kernel_rfl) (fun w1 hw => Kn.of (fun k hk o ho => fr3 k o ((ap3.r (i := 2) rfl) k hk) ((fun k hk o ho => fr2 k o ((ap2.r (i := 1) rfl) k hk) ((fun _ _ _ h => h) k hk o ho)) k hk o ho)) (AllIn.mem ⟨List.mem_of_getElem? (i := 0) rfl, List.mem_of_getElem? (i := 1) rfl, trivial⟩) hw) (q_build (vs := [(1, v3), (2, v5)]) (C := #[.int .i64 0, v3, v5]) Pl_63 Zr_63 rfl (fill_cons (cells := [.int .i64 0, .slice none 0 0, .slice none 0 0]) (c := [v3]) (C' := [.int .i64 0, v3, .slice none 0 0]) rfl (one_cells h2.one) rfl rfl rfl (fill_cons (cells := [.int .i64 0, v3, .slice none 0 0]) (c := [v5]) (C' := [.int .i64 0, v3, v5]) rfl (one_cells h3.one) rfl rfl rfl (fill_nil)))) rfl ?_
   have rc1 : RC OTMatch 3 Φ_3 ([(ob v3 ++ []) ++ ((ob v5 ++ []))] : List (List Nat)) [.int .i64 0, v3, v5] ([(⟨0, x4, x5⟩ : TMatch)] : List TMatch) := RC.cons (c := [.int .i64 0, v3, v5]) (cells := []) ⟨v3, v5, rfl, rfl, h2, h3⟩ rfl (RC.nil _ _ _)
   refine WM.one 9 (by kernel_rfl) (me rfl (fun _ v Φx D w1 hq hw => Kn.of (fun k hk o ho => hq.1 k o (by simp) ((fun k hk o ho => fr3 k o ((ap3.r (i := 2) rfl) k hk) ((fun k hk o ho => fr2 k o ((ap2.r (i := 1) rfl) k hk) ((fun _ _ _ h => h) k hk o ho)) k hk o ho)) k hk o ho)) (AllIn.mem ⟨List.mem_of_getElem? (i := 0) rfl, List.mem_of_getElem? (i := 1) rfl, trivial⟩) hw) (e_lit (vs := [(0, .agg [.int .i64 0, v3, v5].toArray)]) (C := #[.int .i64 0, v3, v5]) OTMatch.lasts Sl_59 Zr_63 rfl rfl rfl rfl (fill_made MC_63_1 (fill_cons (cells := [.int .i64 0, .slice none 0 0, .slice none 0 0]) (c := [.int .i64 0, v3, v5]) (C' := [.int .i64 0, v3, v5]) rfl rfl rfl rfl rfl (fill_nil))) rfl rc1 rfl (RC.kn OTMatch.knows rc1)) rfl (fun v7 Φ_4 D2 q4 => ?_))
   obtain ⟨fr4, h4⟩ := q4
   replace h4 : OSl OTMatch 63 3 Φ_4 ((ob v3 ++ []) ++ ((ob v5 ++ []))) v7 ([(⟨0, x4, x5⟩ : TMatch)] : List TMatch) := by simpa [List.append_assoc] using h4
   replace ph0 := ph0.frame OTMatch.lasts fr4 (Dj.empty _) (Dj.empty _)
   replace pp0 := fr4 _ _ (by simp) pp0
   refine WM.conv (S' := St w0 Φ_4 [(b_2, .cells #[pv2_0, .int .i64 p2.Next] 52 (0, 0)), (b_1, .cells #[.string p1.Name, .int .i64 p1.Sal, pv1_0, pv1_1, pv1_2] 49 (0, 0))] [((ob v3 ++ []) ++ ((ob v5 ++ []))), ob v7, ob v1, [pb0], ob pv0, pD0]) (fun w1 hw => hw.merge (js := [2, 1]) rfl (SP.eq (by simp [List.append_assoc, ob_nil]))) ?_
   obtain ⟨x6, hx6, h⟩ := bind_some h
   refine WM.one 10 (by kernel_rfl) (me rfl (fun _ v Φx D w1 hq hw => Kn.of (fun k hk o ho => hq.1.2 k o ((hq.1.1.r (i := 3) rfl) k hk) ((fun k hk o ho => fr4 k o (by simp) ((fun k hk o ho => fr3 k o ((ap3.r (i := 2) rfl) k hk) ((fun k hk o ho => fr2 k o ((ap2.r (i := 1) rfl) k hk) ((fun _ _ _ h => h) k hk o ho)) k hk o ho)) k hk o ho)) k hk o ho)) (AllIn.mem ⟨List.mem_of_getElem? (i := 0) rfl, List.mem_of_getElem? (i := 1) rfl, trivial⟩) hw) (e_appO OTMatch.lasts OTMatch.one Sl_59 Ei_63 rfl rfl rfl rfl rfl (js := [4]) (Rr := [((ob v3 ++ []) ++ ((ob v5 ++ []))), ob v7, ob v1, [pb0], pD0]) rfl ph0 h4 (fun ap => (ap.r (i := 4) rfl)) (fun ap => (ap.r (i := 0) rfl)) hx6) rfl (fun v8 Φ_5 D3 q5 => ?_))
   obtain ⟨⟨ap4, fr5⟩, h5⟩ := q5
   replace pp0 := fr5 _ _ ((ap4.r (i := 3) rfl) _ (by simp)) pp0
   refine WM.conv (S' := St w0 Φ_5 [(b_2, .cells #[pv2_0, .int .i64 p2.Next] 52 (0, 0)), (b_1, .cells #[.string p1.Name, .int .i64 p1.Sal, pv1_0, pv1_1, pv1_2] 49 (0, 0))] [(pD0 ++ ((ob v3 ++ []) ++ ((ob v5 ++ [])))), ob v8, ob v7, ob v1, [pb0]]) (fun w1 hw => hw.merge (js := [5, 1]) rfl (SP.eq (by simp))) <| mq 11 rfl (by kernel_rfl) (fun w1 hw => Kn.of (fun k hk o ho => fr5 k o ((ap4.r (i := 3) rfl) k hk) ((fun k hk o ho => fr4 k o (by simp) ((fun k hk o ho => fr3 k o ((ap3.r (i := 2) rfl) k hk) ((fun k hk o ho => fr2 k o ((ap2.r (i := 1) rfl) k hk) ((fun _ _ _ h => h) k hk o ho)) k hk o ho)) k hk o ho)) k hk o ho)) (AllIn.mem ⟨List.mem_of_getElem? (i := 0) rfl, List.mem_of_getElem? (i := 1) rfl, trivial⟩) hw) (q_nilCheck rfl) rfl ?_
   refine WM.thw (js := [4]) (R := [(pD0 ++ ((ob v3 ++ []) ++ ((ob v5 ++ [])))), ob v8, ob v7, ob v1]) rfl pp0 (fun Φ_6 ap5 fr6 => ?_)
   replace h5 := h5.frame OTMatch.lasts fr6 (ap5.r (i := 1) rfl) (ap5.r (i := 0) rfl)
   refine WM.one 12 (by kernel_rfl) (ms rfl (fun hc => by cases hc) (s_store (i := 0) (vs := [v8]) (C' := [v8]) (O' := [(pb0, .cells #[v8] 59 (0, 0)), (b_2, .cells #[pv2_0, .int .i64 p2.Next] 52 (0, 0)), (b_1, .cells #[.string p1.Name, .int .i64 p1.Sal, pv1_0, pv1_1, pv1_2] 49 (0, 0))]) Sz_59 rfl rfl rfl (one_cells h5.one) rfl rfl ⟨h5.one, trivial⟩ rfl rfl) rfl ?_)
   refine WM.nil (by kernel_rfl) ?_
   refine WT.frz (js := [0]) (R := [(b_2, .cells #[pv2_0, .int .i64 p2.Next] 52 (0, 0)), (b_1, .cells #[.string p1.Name, .int .i64 p1.Sal, pv1_0, pv1_1, pv1_2] 49 (0, 0))]) rfl (fun Φ_7 fr7 k1 => ?_)
   replace h5 := h5.frame OTMatch.lasts fr7 (Dj.empty _) (Dj.empty _)
   refine WT.ret Tryz.func130 resOk.none (fun w1 hw => ?_)
   subst hb0
   cases h
   refine postG_of_St (js := [0, 1, 0]) hw rfl ⟨v8, (pD0 ++ ((ob v3 ++ []) ++ ((ob v5 ++ [])))), rfl, rfl, h5, k1⟩
  replace h := ite_f h c3
  refine WT.skip ?_
  refine WT.ret Tryz.func130 resOk.none (fun w1 hw => ?_)
  subst hb0
  cases h
  refine postG_of_St (js := [1, 1, 1]) hw rfl ⟨pv0, pD0, rfl, rfl, ph0, pp0⟩
 replace h := ite_f h c1
 refine WT.skip <| WT.seq <| WT.region <| lq (q_fieldAddr Fld_52_0 rfl) rfl <| lq (q_load1 T1_50 rfl (fun w1 hw => hw.rgO (i := 0) rfl 0 1 [pv2_0] rfl)) rfl <| lq (q_lenR Sl_50 rfl rfl ph2_0) rfl <| lq (q_move rfl) rfl <| WL.nil <| WT.block <| WT.loop <| WT.mono (l' := [(0, .pointer (some ⟨pb0, 0, none⟩)), (3, pv3), (4, pv4), (6, .pointer (some ⟨b_1, 0, none⟩)), (7, .pointer (some ⟨b_2, 0, none⟩)), (10, v1), (46, pv2_0), (47, .int .i64 (p2.Items.length : Int)), (48, .int .i64 0)]) (S' := St w0 Φ_1 [(b_2, .cells #[pv2_0, .int .i64 p2.Next] 52 (0, 0)), (b_1, .cells #[.string p1.Name, .int .i64 p1.Sal, pv1_0, pv1_1, pv1_2] 49 (0, 0))] [ob v1, [pb0], ob pv0, pD0]) ⟨rfl, rfl, rfl, rfl, rfl, rfl, rfl, rfl, rfl, trivial⟩ (fun w1 hw => (hw.sel (js := [0, 0, 0, 0]) rfl).selO (js := [0, 0]) rfl) ?_
 refine loop_ind (σ := Hp × (List TMatch) × Value × List Nat × Int) (fun s => [(0, .pointer (some ⟨pb0, 0, none⟩)), (3, pv3), (4, pv4), (6, .pointer (some ⟨b_1, 0, none⟩)), (7, .pointer (some ⟨b_2, 0, none⟩)), (10, v1), (46, pv2_0), (47, .int .i64 (p2.Items.length : Int)), (48, .int .i64 s.2.2.2.2)]) (fun s => St w0 s.1 [(b_2, .cells #[pv2_0, .int .i64 p2.Next] 52 (0, 0)), (b_1, .cells #[.string p1.Name, .int .i64 p1.Sal, pv1_0, pv1_1, pv1_2] 49 (0, 0))] [ob v1, [pb0], ob s.2.2.1, s.2.2.2.1]) (fun m s => m_i_addRows_l1 N p1 p2 p3 p4 (m_i_addRows N) x1 m s.2.1 s.2.2.2.2 = some r ∧ (OSl OTMatch 63 3 s.1 s.2.2.2.1 s.2.2.1 s.2.1) ∧ (OSl RTPat 114 3 s.1 D1 v1 x1) ∧ (s.1 pb0 = some (.cells #[s.2.2.1] 59 (0, 0))) ∧ (RSl (RI .i64) 1 s.1 pG3 pv3 p3) ∧ (RSl RTBind 4 s.1 pG4 pv4 p4) ∧ (RSl RTPat 3 s.1 pG1_0 pv1_0 p1.Pats) ∧ (RSl RTCond 11 s.1 pG1_1 pv1_1 p1.Conds) ∧ (RSl RTAct 5 s.1 pG1_2 pv1_2 p1.Acts) ∧ (RSl RTItem 3 s.1 pG2_0 pv2_0 p2.Items)) (fun s hm => none_ne (show (none : Option ((List TMatch))) = some r from hm.1)) (fun n1 ih1 s hm => ?_) N (Φ_1, p0, pv0, pD0, 0) ⟨h, ph0, h1, pp0, ph3, ph4, ph1_0, ph1_1, ph1_2, ph2_0⟩
 obtain ⟨Φ_8, s1, u1, D4, s2⟩ := s
 obtain ⟨h, k2, h1, k3, ph3, ph4, ph1_0, ph1_1, ph1_2, ph2_0⟩ := hm
 replace h : m_i_addRows_l1 N p1 p2 p3 p4 (m_i_addRows N) x1 (n1 + 1) s1 s2 = some r := h
 replace k2 : OSl OTMatch 63 3 Φ_8 D4 u1 s1 := k2
 replace h1 : OSl RTPat 114 3 Φ_8 D1 v1 x1 := h1
 replace k3 : Φ_8 pb0 = some (.cells #[u1] 59 (0, 0)) := k3
 replace ph3 : RSl (RI .i64) 1 Φ_8 pG3 pv3 p3 := ph3
 replace ph4 : RSl RTBind 4 Φ_8 pG4 pv4 p4 := ph4
 replace ph1_0 : RSl RTPat 3 Φ_8 pG1_0 pv1_0 p1.Pats := ph1_0
 replace ph1_1 : RSl RTCond 11 Φ_8 pG1_1 pv1_1 p1.Conds := ph1_1
 replace ph1_2 : RSl RTAct 5 Φ_8 pG1_2 pv1_2 p1.Acts := ph1_2
 replace ph2_0 : RSl RTItem 3 Φ_8 pG2_0 pv2_0 p2.Items := ph2_0
 show WT _ _ [(0, .pointer (some ⟨pb0, 0, none⟩)), (3, pv3), (4, pv4), (6, .pointer (some ⟨b_1, 0, none⟩)), (7, .pointer (some ⟨b_2, 0, none⟩)), (10, v1), (46, pv2_0), (47, .int .i64 (p2.Items.length : Int)), (48, .int .i64 s2)] (St w0 Φ_8 [(b_2, .cells #[pv2_0, .int .i64 p2.Next] 52 (0, 0)), (b_1, .cells #[.string p1.Name, .int .i64 p1.Sal, pv1_0, pv1_1, pv1_2] 49 (0, 0))] [ob v1, [pb0], ob u1, D4])
 unfold m_i_addRows_l1 at h
 refine WT.seq <| WT.region <| lq (q_lss rfl rfl) rfl <| WL.nil <| WT.seq ?_
 refine WT.cond rfl (fun c4 => ?_) (fun c4 => ?_)
 ·replace h := ite_t h c4
  refine WT.skip <| WT.seq <| WT.block <| WT.seq <| WT.region ?_
  obtain ⟨x7, hx7, h⟩ := bind_some h
  obtain ⟨cs1, F4, -, g1, hb1, hs1, r1⟩ := ph2_0.el (idx_some hx7).2.2
  obtain ⟨v9, G1, rfl, hq1, h6⟩ := r1
  obtain rfl := hq1.symm
  refine lq (q_indexAddr Sl_50 rfl rfl ph2_0 hx7) rfl <| lq (q_loadN Tn_142 rfl (fun w1 hw => (g1.of_eq 0 3 rfl rfl : rg _ _ _ [.int .i64 x7.Id, .string x7.F.Kind, v9]).rangeAt hw.fro) rfl) rfl ?_
  refine ln (n_alloc (C := #[.int .i64 0, .string (⟨#[]⟩ : ByteArray), .slice none 0 0]) Zr_142 rfl) rfl (fun b_3 => ?_)
  refine ls (s_store (i := 0) (vs := [.int .i64 x7.Id, .string x7.F.Kind, v9]) (C' := [.int .i64 x7.Id, .string x7.F.Kind, v9]) (O' := [(b_3, .cells #[.int .i64 x7.Id, .string x7.F.Kind, v9] 142 (0, 0)), (b_2, .cells #[pv2_0, .int .i64 p2.Next] 52 (0, 0)), (b_1, .cells #[.string p1.Name, .int .i64 p1.Sal, pv1_0, pv1_1, pv1_2] 49 (0, 0))]) Sz_142 rfl rfl rfl rfl rfl rfl ⟨rfl, rfl, h6.one, trivial⟩ rfl rfl) rfl ?_
  refine WL.nil <| WT.seq <| WT.mix (Kn Φ_8 (ob v1) [(b_3, .cells #[.int .i64 x7.Id, .string x7.F.Kind, v9] 142 (0, 0)), (b_2, .cells #[pv2_0, .int .i64 p2.Next] 52 (0, 0)), (b_1, .cells #[.string p1.Name, .int .i64 p1.Sal, pv1_0, pv1_1, pv1_2] 49 (0, 0))]) (fun _ => true) mixed (fun _ h => h.drew) <| mq 0 rfl (by kernel_rfl) (fun w1 hw => Kn.of (fun _ _ _ h => h) (AllIn.mem ⟨List.mem_of_getElem? (i := 0) rfl, List.mem_of_getElem? (i := 1) rfl, List.mem_of_getElem? (i := 2) rfl, trivial⟩) hw) (q_move rfl) rfl ?_
  refine mq 1 rfl (by kernel_rfl) (fun w1 hw => Kn.of (fun _ _ _ h => h) (AllIn.mem ⟨List.mem_of_getElem? (i := 0) rfl, List.mem_of_getElem? (i := 1) rfl, List.mem_of_getElem? (i := 2) rfl, trivial⟩) hw) (q_move rfl) rfl <| mq 2 rfl (by kernel_rfl) (fun w1 hw => Kn.of (fun _ _ _ h => h) (AllIn.mem ⟨List.mem_of_getElem? (i := 0) rfl, List.mem_of_getElem? (i := 1) rfl, List.mem_of_getElem? (i := 2) rfl, trivial⟩) hw) (q_lenR Sl_41 rfl rfl ph3) rfl ?_
  obtain ⟨x8, hx8, h⟩ := bind_some h
  obtain ⟨cs2, F5, -, g2, hb2, hs2, r2⟩ := h1.elS (idx_some hx8).2.2
  obtain ⟨v10, G2, rfl, hq2, h7⟩ := r2
  obtain rfl := hq2.symm
  refine mq 3 rfl (by kernel_rfl) (fun w1 hw => Kn.of (fun _ _ _ h => h) (AllIn.mem ⟨List.mem_of_getElem? (i := 0) rfl, List.mem_of_getElem? (i := 1) rfl, List.mem_of_getElem? (i := 2) rfl, trivial⟩) hw) (q_indexAddr Sl_45 rfl rfl h1.rsl hx8) rfl <| mq 4 rfl (by kernel_rfl) (fun w1 hw => Kn.of (fun _ _ _ h => h) (AllIn.mem ⟨List.mem_of_getElem? (i := 0) rfl, List.mem_of_getElem? (i := 1) rfl, List.mem_of_getElem? (i := 2) rfl, trivial⟩) hw) (q_loadN Tn_114 rfl (fun w1 hw => hw.rg hb2 (g2.of_eq 0 3 rfl rfl : rg _ _ _ [.string x8.Kind, v10, .bool x8.Not])) rfl) rfl ?_
  refine mq 5 rfl (by kernel_rfl) (fun w1 hw => Kn.of (fun _ _ _ h => h) (AllIn.mem ⟨List.mem_of_getElem? (i := 0) rfl, List.mem_of_getElem? (i := 1) rfl, List.mem_of_getElem? (i := 2) rfl, trivial⟩) hw) (q_fieldAddr Fld_142_1 rfl) rfl <| mq 6 rfl (by kernel_rfl) (fun w1 hw => Kn.of (fun _ _ _ h => h) (AllIn.mem ⟨List.mem_of_getElem? (i := 0) rfl, List.mem_of_getElem? (i := 1) rfl, List.mem_of_getElem? (i := 2) rfl, trivial⟩) hw) (q_loadN Tn_116 rfl (fun w1 hw => hw.rgO (i := 0) rfl 1 2 [.string x7.F.Kind, v9] rfl) rfl) rfl ?_
  refine mq 7 rfl (by kernel_rfl) (fun w1 hw => Kn.of (fun _ _ _ h => h) (AllIn.mem ⟨List.mem_of_getElem? (i := 0) rfl, List.mem_of_getElem? (i := 1) rfl, List.mem_of_getElem? (i := 2) rfl, trivial⟩) hw) (q_move rfl) rfl ?_
  obtain ⟨x9, hx9, h⟩ := bind_some h
  refine WM.one 8 (by kernel_rfl) (mc rfl (fun _ v Φx D w1 hq hw => Kn.of (fun k hk o ho => hq.2.1 k o ((hq.1.r (i := 0) rfl) k hk) ((fun _ _ _ h => h) k hk o ho)) (AllIn.mem ⟨List.mem_of_getElem? (i := 0) rfl, List.mem_of_getElem? (i := 1) rfl, List.mem_of_getElem? (i := 2) rfl, trivial⟩) hw) (k_call (js := []) (R := [ob v1, [pb0], ob u1, D4]) Fun_127 rfl rfl (fun w1 hw ap hl => m_i_MatchPat_ok hw.fro N x8 x7.F p4 h7 h6 ph4  hx9)) rfl (fun v11 Φ_9 F6 q6 => ?_))
  obtain ⟨ap6, fr8, v12, rfl, rfl, h8⟩ := q6
  replace ph3 := ph3.frame RI.lasts fr8 (ap6.o pa3)
  replace ph4 := ph4.frame RTBind.lasts fr8 (ap6.o pa4)
  replace ph1_0 := ph1_0.frame RTPat.lasts fr8 (ap6.o pa1_0)
  replace ph1_1 := ph1_1.frame RTCond.lasts fr8 (ap6.o pa1_1)
  replace ph1_2 := ph1_2.frame RTAct.lasts fr8 (ap6.o pa1_2)
  replace ph2_0 := ph2_0.frame RTItem.lasts fr8 (ap6.o pa2_0)
  replace h6 := h6.frame RTVal.lasts fr8 (Dj.sub (ap6.o pa2_0) (fun k h => hs1 k h))
  replace k2 := k2.frame OTMatch.lasts fr8 (ap6.r (i := 2) rfl) (ap6.r (i := 3) rfl)
  replace h1 := h1.frame RTPat.lasts fr8 (ap6.r (i := 0) rfl) (Dj.sub (ap6.o pa1_0) i1)
  replace k3 := fr8 _ _ ((ap6.r (i := 1) rfl) _ (by simp)) k3
  refine mq 9 rfl (by kernel_rfl) (fun w1 hw => Kn.of (fun k hk o ho => fr8 k o ((ap6.r (i := 0) rfl) k hk) ((fun _ _ _ h => h) k hk o ho)) (AllIn.mem ⟨List.mem_of_getElem? (i := 0) rfl, List.mem_of_getElem? (i := 1) rfl, List.mem_of_getElem? (i := 2) rfl, trivial⟩) hw) (q_move rfl) rfl <| mq 10 rfl (by kernel_rfl) (fun w1 hw => Kn.of (fun k hk o ho => fr8 k o ((ap6.r (i := 0) rfl) k hk) ((fun _ _ _ h => h) k hk o ho)) (AllIn.mem ⟨List.mem_of_getElem? (i := 0) rfl, List.mem_of_getElem? (i := 1) rfl, List.mem_of_getElem? (i := 2) rfl, trivial⟩) hw) (q_extract rfl rfl) rfl ?_
  refine mq 11 rfl (by kernel_rfl) (fun w1 hw => Kn.of (fun k hk o ho => fr8 k o ((ap6.r (i := 0) rfl) k hk) ((fun _ _ _ h => h) k hk o ho)) (AllIn.mem ⟨List.mem_of_getElem? (i := 0) rfl, List.mem_of_getElem? (i := 1) rfl, List.mem_of_getElem? (i := 2) rfl, trivial⟩) hw) (q_extract rfl rfl) rfl <| mq 12 rfl (by kernel_rfl) (fun w1 hw => Kn.of (fun k hk o ho => fr8 k o ((ap6.r (i := 0) rfl) k hk) ((fun _ _ _ h => h) k hk o ho)) (AllIn.mem ⟨List.mem_of_getElem? (i := 0) rfl, List.mem_of_getElem? (i := 1) rfl, List.mem_of_getElem? (i := 2) rfl, trivial⟩) hw) (q_assign rfl) rfl ?_
  refine mq 13 rfl (by kernel_rfl) (fun w1 hw => Kn.of (fun k hk o ho => fr8 k o ((ap6.r (i := 0) rfl) k hk) ((fun _ _ _ h => h) k hk o ho)) (AllIn.mem ⟨List.mem_of_getElem? (i := 0) rfl, List.mem_of_getElem? (i := 1) rfl, List.mem_of_getElem? (i := 2) rfl, trivial⟩) hw) (q_assign rfl) rfl <| WM.nil (by kernel_rfl) <| WT.seq <| WT.region <| lq (q_move rfl) rfl <| WL.nil ?_
  refine WT.cond rfl (fun c5 => ?_) (fun c5 => ?_)
  ·replace h := ite_t h c5
   refine cut (σ := Hp × (List TMatch) × Value × List Nat) (fun s => [(0, .pointer (some ⟨pb0, 0, none⟩)), (3, pv3), (4, pv4), (6, .pointer (some ⟨b_1, 0, none⟩)), (7, .pointer (some ⟨b_2, 0, none⟩)), (10, v1), (46, pv2_0), (47, .int .i64 (p2.Items.length : Int)), (48, .int .i64 s2)]) (fun s => St w0 s.1 [(b_2, .cells #[pv2_0, .int .i64 p2.Next] 52 (0, 0)), (b_1, .cells #[.string p1.Name, .int .i64 p1.Sal, pv1_0, pv1_1, pv1_2] 49 (0, 0))] [[pb0], ob s.2.2.1, s.2.2.2, ob v1]) (fun s => m_i_addRows_j2 N s2 (m_i_addRows_l1 N p1 p2 p3 p4 (m_i_addRows N) x1 n1) s.2.1 = some r ∧ (OSl RTPat 114 3 s.1 D1 v1 x1) ∧ (OSl OTMatch 63 3 s.1 s.2.2.2 s.2.2.1 s.2.1) ∧ (s.1 pb0 = some (.cells #[s.2.2.1] 59 (0, 0))) ∧ (RSl (RI .i64) 1 s.1 pG3 pv3 p3) ∧ (RSl RTBind 4 s.1 pG4 pv4 p4) ∧ (RSl RTPat 3 s.1 pG1_0 pv1_0 p1.Pats) ∧ (RSl RTCond 11 s.1 pG1_1 pv1_1 p1.Conds) ∧ (RSl RTAct 5 s.1 pG1_2 pv1_2 p1.Acts) ∧ (RSl RTItem 3 s.1 pG2_0 pv2_0 p2.Items)) (fun s hm => ?_) (fun K => ?_)
   ·clear h
    obtain ⟨Φ_14, s3, u2, D8⟩ := s
    obtain ⟨h, h1, k4, k5, ph3, ph4, ph1_0, ph1_1, ph1_2, ph2_0⟩ := hm
    replace h : m_i_addRows_j2 N s2 (m_i_addRows_l1 N p1 p2 p3 p4 (m_i_addRows N) x1 n1) s3 = some r := h
    replace h1 : OSl RTPat 114 3 Φ_14 D1 v1 x1 := h1
    replace k4 : OSl OTMatch 63 3 Φ_14 D8 u2 s3 := k4
    replace k5 : Φ_14 pb0 = some (.cells #[u2] 59 (0, 0)) := k5
    replace ph3 : RSl (RI .i64) 1 Φ_14 pG3 pv3 p3 := ph3
    replace ph4 : RSl RTBind 4 Φ_14 pG4 pv4 p4 := ph4
    replace ph1_0 : RSl RTPat 3 Φ_14 pG1_0 pv1_0 p1.Pats := ph1_0
    replace ph1_1 : RSl RTCond 11 Φ_14 pG1_1 pv1_1 p1.Conds := ph1_1
    replace ph1_2 : RSl RTAct 5 Φ_14 pG1_2 pv1_2 p1.Acts := ph1_2
    replace ph2_0 : RSl RTItem 3 Φ_14 pG2_0 pv2_0 p2.Items := ph2_0
    show WT _ _ [(0, .pointer (some ⟨pb0, 0, none⟩)), (3, pv3), (4, pv4), (6, .pointer (some ⟨b_1, 0, none⟩)), (7, .pointer (some ⟨b_2, 0, none⟩)), (10, v1), (46, pv2_0), (47, .int .i64 (p2.Items.length : Int)), (48, .int .i64 s2)] (St w0 Φ_14 [(b_2, .cells #[pv2_0, .int .i64 p2.Next] 52 (0, 0)), (b_1, .cells #[.string p1.Name, .int .i64 p1.Sal, pv1_0, pv1_1, pv1_2] 49 (0, 0))] [[pb0], ob u2, D8, ob v1])
    unfold m_i_addRows_j2 at h
    refine WT.inBlock <| WT.region <| lq (q_add rfl rfl) rfl <| lq (q_move rfl) rfl <| WL.nil ?_
    refine WT.inLoop (WT.mono (l' := [(0, .pointer (some ⟨pb0, 0, none⟩)), (3, pv3), (4, pv4), (6, .pointer (some ⟨b_1, 0, none⟩)), (7, .pointer (some ⟨b_2, 0, none⟩)), (10, v1), (46, pv2_0), (47, .int .i64 (p2.Items.length : Int)), (48, .int .i64 (IntKind.i64.wrap (s2 + 1)))]) (S' := St w0 Φ_14 [(b_2, .cells #[pv2_0, .int .i64 p2.Next] 52 (0, 0)), (b_1, .cells #[.string p1.Name, .int .i64 p1.Sal, pv1_0, pv1_1, pv1_2] 49 (0, 0))] [ob v1, [pb0], ob u2, D8]) ⟨rfl, rfl, rfl, rfl, rfl, rfl, rfl, rfl, rfl, trivial⟩ (fun w1 hw => (hw.sel (js := [3, 0, 0, 0]) rfl).selO (js := [0, 0]) rfl) ?_)
    exact ih1 (Φ_14, s3, u2, D8, IntKind.i64.wrap (s2 + 1)) ⟨h, k4, h1, k5, ph3, ph4, ph1_0, ph1_1, ph1_2, ph2_0⟩
   refine WT.mix (Kn Φ_9 [] [(b_3, .cells #[.int .i64 x7.Id, .string x7.F.Kind, v9] 142 (0, 0)), (b_2, .cells #[pv2_0, .int .i64 p2.Next] 52 (0, 0)), (b_1, .cells #[.string p1.Name, .int .i64 p1.Sal, pv1_0, pv1_1, pv1_2] 49 (0, 0))]) (fun i => match i with | 10 => false | _ => true) mixed (fun _ h => h.drew) <| mq 0 rfl (by kernel_rfl) (fun w1 hw => Kn.of (fun k hk _ _ => by simp at hk) (AllIn.mem ⟨List.mem_of_getElem? (i := 0) rfl, List.mem_of_getElem? (i := 1) rfl, List.mem_of_getElem? (i := 2) rfl, trivial⟩) hw) (q_move rfl) rfl ?_
   refine mq 1 rfl (by kernel_rfl) (fun w1 hw => Kn.of (fun k hk _ _ => by simp at hk) (AllIn.mem ⟨List.mem_of_getElem? (i := 0) rfl, List.mem_of_getElem? (i := 1) rfl, List.mem_of_getElem? (i := 2) rfl, trivial⟩) hw) (q_loadN Tn_49 rfl (fun w1 hw => hw.rgO (i := 2) rfl 0 5 [.string p1.Name, .int .i64 p1.Sal, pv1_0, pv1_1, pv1_2] rfl) rfl) rfl <| mq 2 rfl (by kernel_rfl) (fun w1 hw => Kn.of (fun k hk _ _ => by simp at hk) (AllIn.mem ⟨List.mem_of_getElem? (i := 0) rfl, List.mem_of_getElem? (i := 1) rfl, List.mem_of_getElem? (i := 2) rfl, trivial⟩) hw) (q_loadN Tn_52 rfl (fun w1 hw => hw.rgO (i := 1) rfl 0 2 [pv2_0, .int .i64 p2.Next] rfl) rfl) rfl ?_
   refine mq 9 rfl (by kernel_rfl) (fun w1 hw => Kn.of (fun k hk _ _ => by simp at hk) (AllIn.mem ⟨List.mem_of_getElem? (i := 0) rfl, List.mem_of_getElem? (i := 1) rfl, List.mem_of_getElem? (i := 2) rfl, trivial⟩) hw) (q_move rfl) rfl <| mqT 3 [4, 8, 10] rfl (by kernel_rfl) (fun w1 hw => Kn.of (fun k hk _ _ => by simp at hk) (AllIn.mem ⟨List.mem_of_getElem? (i := 0) rfl, List.mem_of_getElem? (i := 1) rfl, List.mem_of_getElem? (i := 2) rfl, trivial⟩) hw) (q_move rfl) rfl ?_
   refine mqT 5 [6, 7, 8, 10] rfl (by kernel_rfl) (fun w1 hw => Kn.of (fun k hk _ _ => by simp at hk) (AllIn.mem ⟨List.mem_of_getElem? (i := 0) rfl, List.mem_of_getElem? (i := 1) rfl, List.mem_of_getElem? (i := 2) rfl, trivial⟩) hw) (q_fieldAddr Fld_142_0 rfl) rfl <| mqT 6 [7, 8, 10] rfl (by kernel_rfl) (fun w1 hw => Kn.of (fun k hk _ _ => by simp at hk) (AllIn.mem ⟨List.mem_of_getElem? (i := 0) rfl, List.mem_of_getElem? (i := 1) rfl, List.mem_of_getElem? (i := 2) rfl, trivial⟩) hw) (q_load1 T1_3 rfl (fun w1 hw => hw.rgO (i := 0) rfl 0 1 [.int .i64 x7.Id] rfl)) rfl ?_
   refine WM.two 4 7 (by kernel_rfl) ?_ ?_
   ·skip
    obtain ⟨x13, hx13, h⟩ := bind_some h
    refine mc rfl (fun _ v Φx D w1 hq hw => Kn.of (fun k hk _ _ => by simp at hk) (AllIn.mem ⟨List.mem_of_getElem? (i := 0) rfl, List.mem_of_getElem? (i := 1) rfl, List.mem_of_getElem? (i := 2) rfl, trivial⟩) hw) (k_call (js := []) (R := [ob v12, ob v1, [pb0], ob u1, D4]) Fun_189 rfl rfl (fun w1 hw ap hl => m_sl_Clone_Sint_int_ok hw.fro N p3 ph3  hx13)) rfl (fun v19 Φ_15 F9 q11 => ?_)
    obtain ⟨ap10, fr13, v20, rfl, rfl, h14⟩ := q11
    replace ph3 := ph3.frame RI.lasts fr13 (ap10.o pa3)
    replace ph4 := ph4.frame RTBind.lasts fr13 (ap10.o pa4)
    replace ph1_0 := ph1_0.frame RTPat.lasts fr13 (ap10.o pa1_0)
    replace ph1_1 := ph1_1.frame RTCond.lasts fr13 (ap10.o pa1_1)
    replace ph1_2 := ph1_2.frame RTAct.lasts fr13 (ap10.o pa1_2)
    replace ph2_0 := ph2_0.frame RTItem.lasts fr13 (ap10.o pa2_0)
    replace k2 := k2.frame OTMatch.lasts fr13 (ap10.r (i := 3) rfl) (ap10.r (i := 4) rfl)
    replace h1 := h1.frame RTPat.lasts fr13 (ap10.r (i := 1) rfl) (Dj.sub (ap10.o pa1_0) i1)
    replace h8 := h8.frame RTBind.lasts fr13 (ap10.r (i := 0) rfl) (Dj.nil _)
    replace k3 := fr13 _ _ ((ap10.r (i := 2) rfl) _ (by simp)) k3
    have rc3 : RC (RI .i64) 1 Φ_15 ([[]] : List (List Nat)) [.int .i64 x7.Id] ([x7.Id] : List Int) := RC.cons (c := [.int .i64 x7.Id]) (cells := []) ⟨rfl, rfl⟩ rfl (RC.nil _ _ _)
    refine WM.one 7 (by kernel_rfl) (me rfl (fun _ v Φx D w1 hq hw => Kn.of (fun k hk _ _ => by simp at hk) (AllIn.mem ⟨List.mem_of_getElem? (i := 0) rfl, List.mem_of_getElem? (i := 1) rfl, List.mem_of_getElem? (i := 2) rfl, trivial⟩) hw) (e_lit (vs := [(0, .int .i64 x7.Id)]) (C := #[.int .i64 x7.Id]) RI.lasts Sl_41 Zr_3 rfl rfl rfl rfl (fill_made MC_3_1 (fill_cons (cells := [.int .i64 0]) (c := [.int .i64 x7.Id]) (C' := [.int .i64 x7.Id]) rfl rfl rfl rfl rfl (fill_nil))) rfl rc3 rfl (by simpa using Kw.nil)) rfl (fun v21 Φ_16 D9 q12 => ?_))
    obtain ⟨fr14, h15⟩ := q12
    replace h15 : OSl (RI .i64) 3 1 Φ_16 [] v21 ([x7.Id] : List Int) := by simpa using h15
    replace ph3 := ph3.frame RI.lasts fr14 (Dj.empty _)
    replace ph4 := ph4.frame RTBind.lasts fr14 (Dj.empty _)
    replace ph1_0 := ph1_0.frame RTPat.lasts fr14 (Dj.empty _)
    replace ph1_1 := ph1_1.frame RTCond.lasts fr14 (Dj.empty _)
    replace ph1_2 := ph1_2.frame RTAct.lasts fr14 (Dj.empty _)
    replace ph2_0 := ph2_0.frame RTItem.lasts fr14 (Dj.empty _)
    replace k2 := k2.frame OTMatch.lasts fr14 (Dj.empty _) (Dj.empty _)
    replace h1 := h1.frame RTPat.lasts fr14 (Dj.empty _) (Dj.empty _)
    replace h8 := h8.frame RTBind.lasts fr14 (Dj.empty _) (Dj.empty _)
    replace h14 := h14.frame RI.lasts fr14 (Dj.empty _) (Dj.empty _)
    replace k3 := fr14 _ _ (by simp) k3
    obtain ⟨x14, hx14, h⟩ := bind_some h
    refine WM.one 8 (by kernel_rfl) (me rfl (fun _ v Φx D w1 hq hw => Kn.of (fun k hk _ _ => by simp at hk) (AllIn.mem ⟨List.mem_of_getElem? (i := 0) rfl, List.mem_of_getElem? (i := 1) rfl, List.mem_of_getElem? (i := 2) rfl, trivial⟩) hw) (e_appF RI.lasts RI.one RI.flat Sl_41 Ei_3 rfl rfl rfl rfl rfl (js := [1]) (Rr := [ob v21, ob v12, ob v1, [pb0], ob u1, D4]) rfl h14 h15.rsl hx14) rfl (fun v22 Φ_17 D10 q13 => ?_))
    obtain ⟨⟨ap11, fr15⟩, h16⟩ := q13
    replace ph3 := ph3.frame RI.lasts fr15 (ap11.o pa3)
    replace ph4 := ph4.frame RTBind.lasts fr15 (ap11.o pa4)
    replace ph1_0 := ph1_0.frame RTPat.lasts fr15 (ap11.o pa1_0)
    replace ph1_1 := ph1_1.frame RTCond.lasts fr15 (ap11.o pa1_1)
    replace ph1_2 := ph1_2.frame RTAct.lasts fr15 (ap11.o pa1_2)
    replace ph2_0 := ph2_0.frame RTItem.lasts fr15 (ap11.o pa2_0)
    replace k2 := k2.frame OTMatch.lasts fr15 (ap11.r (i := 4) rfl) (ap11.r (i := 5) rfl)
    replace h1 := h1.frame RTPat.lasts fr15 (ap11.r (i := 2) rfl) (Dj.sub (ap11.o pa1_0) i1)
    replace h8 := h8.frame RTBind.lasts fr15 (ap11.r (i := 1) rfl) (Dj.nil _)
    replace k3 := fr15 _ _ ((ap11.r (i := 3) rfl) _ (by simp)) k3
    obtain ⟨x15, hx15, h⟩ := bind_some h
    refine WM.one 10 (by kernel_rfl) (mc rfl (fun hc => by cases hc) (k_call (js := [4, 4, 4]) (R := [ob v22, ob v21, ob v12, ob v1]) Fun_130 rfl rfl (fun w1 hw ap hl => ih hw.fro s1 p1 p2 x14 x9.1 k2 k3 ph1_0 ph1_1 ph1_2 ph2_0 h16.rsl h8.rsl (ap.o pa1_0) (ap.o pa1_1) (ap.o pa1_2) (ap.o pa2_0) (Dj.app (ap.r (i := 0) rfl) (Dj.nil _)) (Dj.app (ap.r (i := 2) rfl) (Dj.nil _)) ap.nd hl hx15)) rfl (fun v23 Φ_18 F10 q14 => ?_))
    obtain ⟨ap12, fr16, v24, D11, rfl, rfl, h17, h18⟩ := q14
    replace ph3 := ph3.frame RI.lasts fr16 (ap12.o pa3)
    replace ph4 := ph4.frame RTBind.lasts fr16 (ap12.o pa4)
    replace ph1_0 := ph1_0.frame RTPat.lasts fr16 (ap12.o pa1_0)
    replace ph1_1 := ph1_1.frame RTCond.lasts fr16 (ap12.o pa1_1)
    replace ph1_2 := ph1_2.frame RTAct.lasts fr16 (ap12.o pa1_2)
    replace ph2_0 := ph2_0.frame RTItem.lasts fr16 (ap12.o pa2_0)
    replace h1 := h1.frame RTPat.lasts fr16 (ap12.r (i := 3) rfl) (Dj.sub (ap12.o pa1_0) i1)
    refine WM.nil (by kernel_rfl) <| WT.mono (l' := [(0, .pointer (some ⟨pb0, 0, none⟩)), (3, pv3), (4, pv4), (6, .pointer (some ⟨b_1, 0, none⟩)), (7, .pointer (some ⟨b_2, 0, none⟩)), (10, v1), (46, pv2_0), (47, .int .i64 (p2.Items.length : Int)), (48, .int .i64 s2)]) (S' := St w0 Φ_18 [(b_2, .cells #[pv2_0, .int .i64 p2.Next] 52 (0, 0)), (b_1, .cells #[.string p1.Name, .int .i64 p1.Sal, pv1_0, pv1_1, pv1_2] 49 (0, 0))] [[pb0], ob v24, D11, ob v1]) ⟨rfl, rfl, rfl, rfl, rfl, rfl, rfl, rfl, rfl, trivial⟩ (fun w1 hw => (hw.sel (js := [0, 0, 0, 3]) rfl).selO (js := [1, 1]) rfl) ?_
    exact K (Φ_18, x15, v24, D11) ⟨h, h1, h17, h18, ph3, ph4, ph1_0, ph1_1, ph1_2, ph2_0⟩
   have rc4 : RC (RI .i64) 1 Φ_9 ([[]] : List (List Nat)) [.int .i64 x7.Id] ([x7.Id] : List Int) := RC.cons (c := [.int .i64 x7.Id]) (cells := []) ⟨rfl, rfl⟩ rfl (RC.nil _ _ _)
   refine me rfl (fun _ v Φx D w1 hq hw => Kn.of (fun k hk _ _ => by simp at hk) (AllIn.mem ⟨List.mem_of_getElem? (i := 0) rfl, List.mem_of_getElem? (i := 1) rfl, List.mem_of_getElem? (i := 2) rfl, trivial⟩) hw) (e_lit (vs := [(0, .int .i64 x7.Id)]) (C := #[.int .i64 x7.Id]) RI.lasts Sl_41 Zr_3 rfl rfl rfl rfl (fill_made MC_3_1 (fill_cons (cells := [.int .i64 0]) (c := [.int .i64 x7.Id]) (C' := [.int .i64 x7.Id]) rfl rfl rfl rfl rfl (fill_nil))) rfl rc4 rfl (by simpa using Kw.nil)) rfl (fun v25 Φ_19 D12 q15 => ?_)
   obtain ⟨fr17, h19⟩ := q15
   replace h19 : OSl (RI .i64) 3 1 Φ_19 [] v25 ([x7.Id] : List Int) := by simpa using h19
   replace ph3 := ph3.frame RI.lasts fr17 (Dj.empty _)
   replace ph4 := ph4.frame RTBind.lasts fr17 (Dj.empty _)
   replace ph1_0 := ph1_0.frame RTPat.lasts fr17 (Dj.empty _)
   replace ph1_1 := ph1_1.frame RTCond.lasts fr17 (Dj.empty _)
   replace ph1_2 := ph1_2.frame RTAct.lasts fr17 (Dj.empty _)
   replace ph2_0 := ph2_0.frame RTItem.lasts fr17 (Dj.empty _)
   replace k2 := k2.frame OTMatch.lasts fr17 (Dj.empty _) (Dj.empty _)
   replace h1 := h1.frame RTPat.lasts fr17 (Dj.empty _) (Dj.empty _)
   replace h8 := h8.frame RTBind.lasts fr17 (Dj.empty _) (Dj.empty _)
   replace k3 := fr17 _ _ (by simp) k3
   obtain ⟨x16, hx16, h⟩ := bind_some h
   refine WM.one 4 (by kernel_rfl) (mc rfl (fun _ v Φx D w1 hq hw => Kn.of (fun k hk _ _ => by simp at hk) (AllIn.mem ⟨List.mem_of_getElem? (i := 0) rfl, List.mem_of_getElem? (i := 1) rfl, List.mem_of_getElem? (i := 2) rfl, trivial⟩) hw) (k_call (js := []) (R := [ob v25, ob v12, ob v1, [pb0], ob u1, D4]) Fun_189 rfl rfl (fun w1 hw ap hl => m_sl_Clone_Sint_int_ok hw.fro N p3 ph3  hx16)) rfl (fun v26 Φ_20 F11 q16 => ?_))
   obtain ⟨ap13, fr18, v27, rfl, rfl, h20⟩ := q16
   replace ph3 := ph3.frame RI.lasts fr18 (ap13.o pa3)
   replace ph4 := ph4.frame RTBind.lasts fr18 (ap13.o pa4)
   replace ph1_0 := ph1_0.frame RTPat.lasts fr18 (ap13.o pa1_0)
   replace ph1_1 := ph1_1.frame RTCond.lasts fr18 (ap13.o pa1_1)
   replace ph1_2 := ph1_2.frame RTAct.lasts fr18 (ap13.o pa1_2)
   replace ph2_0 := ph2_0.frame RTItem.lasts fr18 (ap13.o pa2_0)
   replace k2 := k2.frame OTMatch.lasts fr18 (ap13.r (i := 4) rfl) (ap13.r (i := 5) rfl)
   replace h1 := h1.frame RTPat.lasts fr18 (ap13.r (i := 2) rfl) (Dj.sub (ap13.o pa1_0) i1)
   replace h19 := h19.frame RI.lasts fr18 (ap13.r (i := 0) rfl) (Dj.nil _)
   replace h8 := h8.frame RTBind.lasts fr18 (ap13.r (i := 1) rfl) (Dj.nil _)
   replace k3 := fr18 _ _ ((ap13.r (i := 3) rfl) _ (by simp)) k3
   obtain ⟨x17, hx17, h⟩ := bind_some h
   refine WM.one 8 (by kernel_rfl) (me rfl (fun _ v Φx D w1 hq hw => Kn.of (fun k hk _ _ => by simp at hk) (AllIn.mem ⟨List.mem_of_getElem? (i := 0) rfl, List.mem_of_getElem? (i := 1) rfl, List.mem_of_getElem? (i := 2) rfl, trivial⟩) hw) (e_appF RI.lasts RI.one RI.flat Sl_41 Ei_3 rfl rfl rfl rfl rfl (js := [0]) (Rr := [ob v25, ob v12, ob v1, [pb0], ob u1, D4]) rfl h20 h19.rsl hx17) rfl (fun v28 Φ_21 D13 q17 => ?_))
   obtain ⟨⟨ap14, fr19⟩, h21⟩ := q17
   replace ph3 := ph3.frame RI.lasts fr19 (ap14.o pa3)
   replace ph4 := ph4.frame RTBind.lasts fr19 (ap14.o pa4)
   replace ph1_0 := ph1_0.frame RTPat.lasts fr19 (ap14.o pa1_0)
   replace ph1_1 := ph1_1.frame RTCond.lasts fr19 (ap14.o pa1_1)
   replace ph1_2 := ph1_2.frame RTAct.lasts fr19 (ap14.o pa1_2)
   replace ph2_0 := ph2_0.frame RTItem.lasts fr19 (ap14.o pa2_0)
   replace k2 := k2.frame OTMatch.lasts fr19 (ap14.r (i := 4) rfl) (ap14.r (i := 5) rfl)
   replace h1 := h1.frame RTPat.lasts fr19 (ap14.r (i := 2) rfl) (Dj.sub (ap14.o pa1_0) i1)
   replace h8 := h8.frame RTBind.lasts fr19 (ap14.r (i := 1) rfl) (Dj.nil _)
   replace k3 := fr19 _ _ ((ap14.r (i := 3) rfl) _ (by simp)) k3
   obtain ⟨x18, hx18, h⟩ := bind_some h
   refine WM.one 10 (by kernel_rfl) (mc rfl (fun hc => by cases hc) (k_call (js := [4, 4, 4]) (R := [ob v28, ob v25, ob v12, ob v1]) Fun_130 rfl rfl (fun w1 hw ap hl => ih hw.fro s1 p1 p2 x17 x9.1 k2 k3 ph1_0 ph1_1 ph1_2 ph2_0 h21.rsl h8.rsl (ap.o pa1_0) (ap.o pa1_1) (ap.o pa1_2) (ap.o pa2_0) (Dj.app (ap.r (i := 0) rfl) (Dj.nil _)) (Dj.app (ap.r (i := 2) rfl) (Dj.nil _)) ap.nd hl hx18)) rfl (fun v29 Φ_22 F12 q18 => ?_))
   obtain ⟨ap15, fr20, v30, D14, rfl, rfl, h22, h23⟩ := q18
   replace ph3 := ph3.frame RI.lasts fr20 (ap15.o pa3)
   replace ph4 := ph4.frame RTBind.lasts fr20 (ap15.o pa4)
   replace ph1_0 := ph1_0.frame RTPat.lasts fr20 (ap15.o pa1_0)
   replace ph1_1 := ph1_1.frame RTCond.lasts fr20 (ap15.o pa1_1)
   replace ph1_2 := ph1_2.frame RTAct.lasts fr20 (ap15.o pa1_2)
   replace ph2_0 := ph2_0.frame RTItem.lasts fr20 (ap15.o pa2_0)
   replace h1 := h1.frame RTPat.lasts fr20 (ap15.r (i := 3) rfl) (Dj.sub (ap15.o pa1_0) i1)
   refine WM.nil (by kernel_rfl) <| WT.mono (l' := [(0, .pointer (some ⟨pb0, 0, none⟩)), (3, pv3), (4, pv4), (6, .pointer (some ⟨b_1, 0, none⟩)), (7, .pointer (some ⟨b_2, 0, none⟩)), (10, v1), (46, pv2_0), (47, .int .i64 (p2.Items.length : Int)), (48, .int .i64 s2)]) (S' := St w0 Φ_22 [(b_2, .cells #[pv2_0, .int .i64 p2.Next] 52 (0, 0)), (b_1, .cells #[.string p1.Name, .int .i64 p1.Sal, pv1_0, pv1_1, pv1_2] 49 (0, 0))] [[pb0], ob v30, D14, ob v1]) ⟨rfl, rfl, rfl, rfl, rfl, rfl, rfl, rfl, rfl, trivial⟩ (fun w1 hw => (hw.sel (js := [0, 0, 0, 3]) rfl).selO (js := [1, 1]) rfl) ?_
   exact K (Φ_22, x18, v30, D14) ⟨h, h1, h22, h23, ph3, ph4, ph1_0, ph1_1, ph1_2, ph2_0⟩
  replace h := ite_f h c5
  refine WT.skip <| WT.inBlock <| WT.region <| lq (q_add rfl rfl) rfl <| lq (q_move rfl) rfl <| WL.nil ?_
  refine WT.inLoop (WT.mono (l' := [(0, .pointer (some ⟨pb0, 0, none⟩)), (3, pv3), (4, pv4), (6, .pointer (some ⟨b_1, 0, none⟩)), (7, .pointer (some ⟨b_2, 0, none⟩)), (10, v1), (46, pv2_0), (47, .int .i64 (p2.Items.length : Int)), (48, .int .i64 (IntKind.i64.wrap (s2 + 1)))]) (S' := St w0 Φ_9 [(b_2, .cells #[pv2_0, .int .i64 p2.Next] 52 (0, 0)), (b_1, .cells #[.string p1.Name, .int .i64 p1.Sal, pv1_0, pv1_1, pv1_2] 49 (0, 0))] [ob v1, [pb0], ob u1, D4]) ⟨rfl, rfl, rfl, rfl, rfl, rfl, rfl, rfl, rfl, trivial⟩ (fun w1 hw => (hw.sel (js := [1, 1, 1, 1]) rfl).selO (js := [1, 1]) rfl) ?_)
  exact ih1 (Φ_9, s1, u1, D4, IntKind.i64.wrap (s2 + 1)) ⟨h, k2, h1, k3, ph3, ph4, ph1_0, ph1_1, ph1_2, ph2_0⟩
 replace h := ite_f h c4
 refine WT.exit rfl ?_
 refine WT.fin Tryz.func130 resOk.none (fun w1 hw => ?_)
 subst hb0
 cases h
 refine postG_of_St (js := [1, 1, 1]) hw rfl ⟨u1, D4, rfl, rfl, k2, k3⟩
theorem m_i_matchesIn_ok {Φ : Hp} {w : World} (hΦ : In Φ w) (N : Nat) (p0 : TRule) (p1 : TStore) {pv0_0 : Value} {pG0_0 : List Nat} {pv0_1 : Value} {pG0_1 : List Nat} {pv0_2 : Value} {pG0_2 : List Nat} {pv1_0 : Value} {pG1_0 : List Nat} (ph0_0 : RSl RTPat 3 Φ pG0_0 pv0_0 p0.Pats) (ph0_1 : RSl RTCond 11 Φ pG0_1 pv0_1 p0.Conds) (ph0_2 : RSl RTAct 5 Φ pG0_2 pv0_2 p0.Acts) (ph1_0 : RSl RTItem 3 Φ pG1_0 pv1_0 p1.Items) {r : (List TMatch)} (h : m_i_matchesIn N p0 p1 = some r) :
  Calls Tryz.prog 65 [.agg [.string p0.Name, .int .i64 p0.Sal, pv0_0, pv0_1, pv0_2].toArray, .agg [pv1_0, .int .i64 p1.Next].toArray].toArray w (PostG Φ w [] (fun Φ' Fs v => ∃ (sr_0_0 : Value) (Dr_0_0 : List Nat), v = sr_0_0 ∧ Fs = [ob sr_0_0, Dr_0_0] ∧ OSl OTMatch 63 3 Φ' Dr_0_0 sr_0_0 r)) := by
 refine enter Tryz.func65 rfl Tryz.ntmps65 rfl (St.start0 hΦ) ?_
 have pa0_0 : Old ⟨w, [], Φ⟩ pG0_0 := Old.mk hΦ ph0_0.kn (Dj.empty _)
 have pa0_1 : Old ⟨w, [], Φ⟩ pG0_1 := Old.mk hΦ ph0_1.kn (Dj.empty _)
 have pa0_2 : Old ⟨w, [], Φ⟩ pG0_2 := Old.mk hΦ ph0_2.kn (Dj.empty _)
 have pa1_0 : Old ⟨w, [], Φ⟩ pG1_0 := Old.mk hΦ ph1_0.kn (Dj.empty _)
 revert pa0_0 pa0_1 pa0_2 pa1_0
 generalize hb0 : (⟨w, [], Φ⟩ : Base) = w0
 intro pa0_0 pa0_1 pa0_2 pa1_0
 unfold m_i_matchesIn at h
 refine WT.seq <| WT.region ?_
 refine ln (n_box (C := #[.string p0.Name, .int .i64 p0.Sal, pv0_0, pv0_1, pv0_2]) rfl rfl) rfl (fun b_1 => ?_)
 refine ln (n_box (C := #[pv1_0, .int .i64 p1.Next]) rfl rfl) rfl (fun b_2 => ?_)
 refine lq (q_assign rfl) rfl <| WL.nil <| WT.seq <| WT.region ?_
 refine ln (n_alloc (C := #[.slice none 0 0]) Zr_59 rfl) rfl (fun b_3 => ?_)
 refine WL.nil <| WT.seq <| WT.region <| lq (q_loadN Tn_49 rfl (fun w1 hw => hw.rgO (i := 2) rfl 0 5 [.string p0.Name, .int .i64 p0.Sal, pv0_0, pv0_1, pv0_2] rfl) rfl) rfl <| lq (q_loadN Tn_52 rfl (fun w1 hw => hw.rgO (i := 1) rfl 0 2 [pv1_0, .int .i64 p1.Next] rfl) rfl) rfl ?_
 refine WL.frz (js := [0]) (R := [(b_2, .cells #[pv1_0, .int .i64 p1.Next] 52 (0, 0)), (b_1, .cells #[.string p0.Name, .int .i64 p0.Sal, pv0_0, pv0_1, pv0_2] 49 (0, 0))]) rfl (fun Φ_1 fr1 k1 => ?_)
 replace ph0_0 := ph0_0.frame RTPat.lasts fr1 (Dj.empty _)
 replace ph0_1 := ph0_1.frame RTCond.lasts fr1 (Dj.empty _)
 replace ph0_2 := ph0_2.frame RTAct.lasts fr1 (Dj.empty _)
 replace ph1_0 := ph1_0.frame RTItem.lasts fr1 (Dj.empty _)
 refine WL.conv (S' := St w0 Φ_1 [(b_2, .cells #[pv1_0, .int .i64 p1.Next] 52 (0, 0)), (b_1, .cells #[.string p0.Name, .int .i64 p0.Sal, pv0_0, pv0_1, pv0_2] 49 (0, 0))] (ob (.slice none 0 0) :: [[b_3]])) (fun w1 hw => hw.addNil) <| WL.conv (S' := St w0 Φ_1 [(b_2, .cells #[pv1_0, .int .i64 p1.Next] 52 (0, 0)), (b_1, .cells #[.string p0.Name, .int .i64 p0.Sal, pv0_0, pv0_1, pv0_2] 49 (0, 0))] ([] :: [ob (.slice none 0 0), [b_3]])) (fun w1 hw => hw.addNil) ?_
 have k2 := OSl.nil OTMatch 63 3 Φ_1
 obtain ⟨x1, hx1, h⟩ := bind_some h
 refine lc (k_call (js := [2, 1, 0]) (R := []) Fun_130 rfl rfl (fun w1 hw ap hl => m_i_addRows_ok N hw.fro ([] : List TMatch) p0 p1 [] [] k2 k1 ph0_0 ph0_1 ph0_2 ph1_0 (RSl.nil _ _ _) (RSl.nil _ _ _) (ap.o pa0_0) (ap.o pa0_1) (ap.o pa0_2) (ap.o pa1_0) (Dj.nil _) (Dj.nil _) ap.nd hl hx1)) rfl (fun v1 Φ_2 F1 q1 => ?_)
 obtain ⟨ap1, fr2, v2, D1, rfl, rfl, h1, h2⟩ := q1
 refine WL.nil <| WT.seq <| WT.region <| lq (q_load1 T1_59 rfl (fun w1 hw => ((rg_cells h2).of_eq 0 1 rfl rfl : rg _ _ _ [v2]).rangeAt hw.fro)) rfl <| lq (q_assign rfl) rfl <| WL.nil ?_
 refine WT.ret Tryz.func65 (resOk.one rfl) (fun w1 hw => ?_)
 subst hb0
 cases h
 refine postG_of_St (js := [1, 1]) hw rfl ⟨v2, D1, rfl, rfl, h1⟩
theorem m_i_MatchesOf_ok {Φ : Hp} {w : World} (hΦ : In Φ w) (N : Nat) (p0 : TRule) (p1 : TStore) {pv0_0 : Value} {pG0_0 : List Nat} {pv0_1 : Value} {pG0_1 : List Nat} {pv0_2 : Value} {pG0_2 : List Nat} {pv1_0 : Value} {pG1_0 : List Nat} (ph0_0 : RSl RTPat 3 Φ pG0_0 pv0_0 p0.Pats) (ph0_1 : RSl RTCond 11 Φ pG0_1 pv0_1 p0.Conds) (ph0_2 : RSl RTAct 5 Φ pG0_2 pv0_2 p0.Acts) (ph1_0 : RSl RTItem 3 Φ pG1_0 pv1_0 p1.Items) {r : (List TMatch)} (h : m_i_MatchesOf N p0 p1 = some r) :
  Calls Tryz.prog 19 [.agg [.string p0.Name, .int .i64 p0.Sal, pv0_0, pv0_1, pv0_2].toArray, .agg [pv1_0, .int .i64 p1.Next].toArray].toArray w (PostG Φ w [] (fun Φ' Fs v => ∃ (sr_0_0 : Value) (Dr_0_0 : List Nat), v = sr_0_0 ∧ Fs = [ob sr_0_0, Dr_0_0] ∧ OSl OTMatch 63 3 Φ' Dr_0_0 sr_0_0 r)) := by
 refine enter Tryz.func19 rfl Tryz.ntmps19 rfl (St.start0 hΦ) ?_
 unfold m_i_MatchesOf at h
 refine WT.seq <| WT.region ?_
 refine ln (n_box (C := #[.string p0.Name, .int .i64 p0.Sal, pv0_0, pv0_1, pv0_2]) rfl rfl) rfl (fun b_1 => ?_)
 refine ln (n_box (C := #[pv1_0, .int .i64 p1.Next]) rfl rfl) rfl (fun b_2 => ?_)
 refine lq (q_assign rfl) rfl <| WL.nil <| WT.seq <| WT.seq <| WT.region <| lq (q_loadN Tn_49 rfl (fun w1 hw => hw.rgO (i := 1) rfl 0 5 [.string p0.Name, .int .i64 p0.Sal, pv0_0, pv0_1, pv0_2] rfl) rfl) rfl ?_
 obtain ⟨x1, hx1, h⟩ := bind_some h
 refine lp (p_call Fun_26 rfl (fun w1 hw => m_i_RuleOk_ok hw.fro N p0 ph0_0 ph0_1 ph0_2 hx1)) rfl <| lq (q_not rfl) rfl <| lq (q_move rfl) rfl ?_
 obtain ⟨b1, hb_1, h⟩ := bind_some h
 refine WL.cutN 4 [(12, .bool b1), (2, .pointer (some ⟨b_1, 0, none⟩)), (3, .pointer (some ⟨b_2, 0, none⟩))] ?_ (fun K => ?_)
 rotate_left
 ·refine WL.split (d := 8) rfl (fun c1 => ?_) (fun c1 => ?_)
  ·replace hb_1 := ite_t hb_1 c1
   refine WL.no rfl rfl rfl rfl <| WL.no rfl rfl rfl rfl <| WL.no rfl rfl rfl rfl <| WL.q (q_pick1 rfl rfl) rfl rfl rfl ?_
   cases hb_1
   exact WL.keep (by exact ⟨rfl, rfl, rfl, trivial⟩) K
  ·replace hb_1 := ite_f hb_1 c1
   refine WL.yes rfl rfl <| lq (q_loadN Tn_52 rfl (fun w1 hw => hw.rgO (i := 0) rfl 0 2 [pv1_0, .int .i64 p1.Next] rfl) rfl) rfl <| WL.yes rfl rfl ?_
   obtain ⟨x2, hx2, hb_1⟩ := bind_some hb_1
   refine lp (p_call Fun_28 rfl (fun w1 hw => m_i_StoreOk_ok hw.fro N p1 ph1_0 hx2)) rfl <| WL.yes rfl rfl <| lq (q_not rfl) rfl <| WL.q (q_pick0 rfl rfl) rfl rfl rfl ?_
   cases hb_1
   exact WL.keep (by exact ⟨rfl, rfl, rfl, trivial⟩) K
 refine WL.nil ?_
 refine WT.cond rfl (fun c2 => ?_) (fun c2 => ?_)
 ·replace h := ite_t h c2
  refine WT.seq <| WT.region <| lq (q_assign rfl) rfl <| WL.nil ?_
  refine WT.ret Tryz.func19 (resOk.one rfl) (fun w1 hw => ?_)
  cases h
  replace hw := hw.addNil
  replace hw := hw.addNil
  refine postG_of_St (js := [1, 0]) hw rfl ⟨.slice none 0 0, [], rfl, rfl, OSl.nil _ _ _ _⟩
 replace h := ite_f h c2
 refine WT.skip <| WT.seq <| WT.region <| lq (q_loadN Tn_49 rfl (fun w1 hw => hw.rgO (i := 1) rfl 0 5 [.string p0.Name, .int .i64 p0.Sal, pv0_0, pv0_1, pv0_2] rfl) rfl) rfl <| lq (q_loadN Tn_52 rfl (fun w1 hw => hw.rgO (i := 0) rfl 0 2 [pv1_0, .int .i64 p1.Next] rfl) rfl) rfl ?_
 obtain ⟨x3, hx3, h⟩ := bind_some h
 refine lc (k_call (js := []) (R := []) Fun_65 rfl rfl (fun w1 hw ap hl => m_i_matchesIn_ok hw.fro N p0 p1 ph0_0 ph0_1 ph0_2 ph1_0  hx3)) rfl (fun v1 Φ_1 F1 q1 => ?_)
 obtain ⟨ap1, fr1, v2, D1, rfl, rfl, h1⟩ := q1
 refine lq (q_assign rfl) rfl <| WL.nil ?_
 refine WT.ret Tryz.func19 (resOk.one rfl) (fun w1 hw => ?_)
 cases h
 refine postG_of_St (js := [0, 0]) hw rfl ⟨v1, D1, rfl, rfl, h1⟩
theorem m_l_sameInts_ok {Φ : Hp} {w : World} (hΦ : In Φ w) (N : Nat) (p0 : (List Int)) (p1 : (List Int)) {pv0 : Value} {pG0 : List Nat} {pv1 : Value} {pG1 : List Nat} (ph0 : RSl (RI .i64) 1 Φ pG0 pv0 p0) (ph1 : RSl (RI .i64) 1 Φ pG1 pv1 p1) {r : Bool} (h : m_l_sameInts N p0 p1 = some r) :
  Calls Tryz.prog 20 [pv0, pv1].toArray w (Post (.bool r) w) := by
 refine enter Tryz.func20 rfl Tryz.ntmps20 rfl (St.start0 hΦ) ?_
 generalize hb0 : (⟨w, [], Φ⟩ : Base) = w0
 unfold m_l_sameInts at h
 refine WT.seq <| WT.region <| lq (q_assign rfl) rfl <| WL.nil <| WT.seq <| WT.seq <| WT.region <| lq (q_move rfl) rfl <| lq (q_lenR Sl_41 rfl rfl ph0) rfl <| lq (q_move rfl) rfl <| lq (q_lenR Sl_41 rfl rfl ph1) rfl <| lq (q_neq rfl rfl) rfl <| WL.nil ?_
 refine WT.cond rfl (fun c1 => ?_) (fun c1 => ?_)
 ·replace h := ite_t h c1
  refine WT.seq <| WT.region <| lq (q_assign rfl) rfl <| WL.nil ?_
  refine WT.ret Tryz.func20 (resOk.one rfl) (fun w1 hw => ?_)
  subst hb0
  cases h
  exact post_of_St hw
 replace h := ite_f h c1
 refine WT.skip <| WT.seq <| WT.seq <| WT.region <| lq (q_assign rfl) rfl <| WL.nil <| WT.block <| WT.loop <| WT.mono (l' := [(0, pv0), (1, pv1), (5, .int .i64 0)]) (S' := St w0 Φ [] []) ⟨rfl, rfl, rfl, trivial⟩ (fun w1 hw => (hw.sel (js := []) rfl).selO (js := []) rfl) ?_
 refine loop_ind (σ := Int) (fun s => [(0, pv0), (1, pv1), (5, .int .i64 s)]) (fun s => St w0 Φ [] []) (fun m s => m_l_sameInts_l1 N p0 p1 m s = some r) (fun s hm => none_ne (show (none : Option (Bool)) = some r from hm)) (fun n1 ih1 s hm => ?_) N (0) h
 revert hm; revert s; intro s1 hm
 have h : m_l_sameInts_l1 N p0 p1 (n1 + 1) s1 = some r := hm
 show WT _ _ [(0, pv0), (1, pv1), (5, .int .i64 s1)] (St w0 Φ [] [])
 unfold m_l_sameInts_l1 at h
 refine WT.seq <| WT.seq <| WT.region <| lq (q_move rfl) rfl <| lq (q_move rfl) rfl <| lq (q_lenR Sl_41 rfl rfl ph0) rfl <| lq (q_lss rfl rfl) rfl <| WL.nil ?_
 refine WT.cond rfl (fun c2 => ?_) (fun c2 => ?_)
 ·replace h := ite_t h c2
  refine WT.skip <| WT.seq <| WT.block <| WT.seq <| WT.draw mixed (by kernel_rfl) (fun _ h => h.drew) <| qq (q_move rfl) rfl <| qq (q_move rfl) rfl ?_
  obtain ⟨x1, hx1, h⟩ := bind_some h
  obtain ⟨cs1, F1, -, g1, hb1, hs1, r1⟩ := ph0.el (idx_some hx1).2.2
  obtain ⟨rfl, -⟩ := r1
  refine qq (q_indexAddr Sl_41 rfl rfl ph0 hx1) rfl <| qq (q_load1 T1_3 rfl (fun w1 hw => (g1.of_eq 0 1 rfl rfl : rg _ _ _ [.int .i64 x1]).rangeAt hw.fro)) rfl <| qq (q_move rfl) rfl <| qq (q_move rfl) rfl ?_
  obtain ⟨x2, hx2, h⟩ := bind_some h
  obtain ⟨cs2, F2, -, g2, hb2, hs2, r2⟩ := ph1.el (idx_some hx2).2.2
  obtain ⟨rfl, -⟩ := r2
  refine qq (q_indexAddr Sl_41 rfl rfl ph1 hx2) rfl <| qq (q_load1 T1_3 rfl (fun w1 hw => (g2.of_eq 0 1 rfl rfl : rg _ _ _ [.int .i64 x2]).rangeAt hw.fro)) rfl <| qq (q_neq rfl rfl) rfl <| WQ.nil ?_
  refine WT.cond rfl (fun c3 => ?_) (fun c3 => ?_)
  ·replace h := ite_t h c3
   refine WT.seq <| WT.region <| lq (q_assign rfl) rfl <| WL.nil ?_
   refine WT.ret Tryz.func20 (resOk.one rfl) (fun w1 hw => ?_)
   subst hb0
   cases h
   exact post_of_St hw
  replace h := ite_f h c3
  refine WT.skip <| WT.inBlock <| WT.region <| lq (q_move rfl) rfl <| lq (q_add rfl rfl) rfl <| lq (q_assign rfl) rfl <| WL.nil ?_
  refine WT.inLoop (WT.mono (l' := [(0, pv0), (1, pv1), (5, .int .i64 (IntKind.i64.wrap (s1 + 1)))]) (S' := St w0 Φ [] []) ⟨rfl, rfl, rfl, trivial⟩ (fun w1 hw => (hw.sel (js := []) rfl).selO (js := []) rfl) ?_)
  exact ih1 (IntKind.i64.wrap (s1 + 1)) h
 replace h := ite_f h c2
 refine WT.exit rfl <| WT.seq <| WT.region <| lq (q_assign rfl) rfl <| WL.nil ?_
 refine WT.ret Tryz.func20 (resOk.one rfl) (fun w1 hw => ?_)
 subst hb0
 cases h
 exact post_of_St hw
theorem m_l_FnNone_ok {Φ : Hp} {w : World} (hΦ : In Φ w) (N : Nat) (p0 : (List Int)) {pv0 : Value} {pG0 : List Nat} (ph0 : RSl (RI .u8) 1 Φ pG0 pv0 p0) {r : Bool} (h : m_l_FnNone N p0 = some r) :
  Calls Tryz.prog 4 [pv0].toArray w (Post (.bool r) w) := by
 refine enter Tryz.func4 rfl Tryz.ntmps4 rfl (St.start0 hΦ) ?_
 generalize hb0 : (⟨w, [], Φ⟩ : Base) = w0
 unfold m_l_FnNone at h
 refine WT.seq <| WT.region <| lq (q_assign rfl) rfl <| WL.nil <| WT.seq <| WT.seq <| WT.region <| lq (q_move rfl) rfl ?_
 obtain ⟨x1, hx1, h⟩ := bind_some h
 refine lp (p_call Fun_10 rfl (fun w1 hw => m_l_big_ok hw.fro N p0 ph0 hx1)) rfl <| WL.nil ?_
 refine WT.cond rfl (fun c1 => ?_) (fun c1 => ?_)
 ·replace h := ite_t h c1
  refine WT.seq <| WT.region <| lq (q_assign rfl) rfl <| WL.nil ?_
  refine WT.ret Tryz.func4 (resOk.one rfl) (fun w1 hw => ?_)
  subst hb0
  cases h
  exact post_of_St hw
 replace h := ite_f h c1
 refine WT.skip <| WT.seq <| WT.region <| lq (q_move rfl) rfl ?_
 obtain ⟨x2, hx2, h⟩ := bind_some h
 refine lc (k_call (js := []) (R := []) Fun_15 rfl rfl (fun w1 hw ap hl => m_s_DrawBindsFor_ok hw.fro N p0 ph0  hx2)) rfl (fun v1 Φ_1 F1 q1 => ?_)
 obtain ⟨ap1, fr1, v2, D1, v3, v4, D2, v5, D3, v6, G1, X1, rfl, rfl, h1, h2, h3, h4, i1, h5, i2⟩ := q1
 refine lq (q_move rfl) rfl <| lq (q_extract rfl rfl) rfl <| lq (q_extract rfl rfl) rfl <| lq (q_extract rfl rfl) rfl ?_
 refine ln (n_alloc (C := #[.string (⟨#[]⟩ : ByteArray), .int .i64 0, .slice none 0 0, .slice none 0 0, .slice none 0 0]) Zr_49 rfl) rfl (fun b_1 => ?_)
 refine ln (n_alloc (C := #[.slice none 0 0, .int .i64 0]) Zr_52 rfl) rfl (fun b_2 => ?_)
 refine ls (s_store (i := 1) (vs := [.string x2.1.Name, .int .i64 x2.1.Sal, v2, v3, v4]) (C' := [.string x2.1.Name, .int .i64 x2.1.Sal, v2, v3, v4]) (O' := [(b_2, .cells #[.slice none 0 0, .int .i64 0] 52 (0, 0)), (b_1, .cells #[.string x2.1.Name, .int .i64 x2.1.Sal, v2, v3, v4] 49 (0, 0))]) Sz_49 rfl rfl rfl rfl rfl rfl ⟨rfl, rfl, h1.one, h2.one, h3.one, trivial⟩ rfl rfl) rfl <| ls (s_store (i := 0) (vs := [v5, .int .i64 x2.2.1.Next]) (C' := [v5, .int .i64 x2.2.1.Next]) (O' := [(b_2, .cells #[v5, .int .i64 x2.2.1.Next] 52 (0, 0)), (b_1, .cells #[.string x2.1.Name, .int .i64 x2.1.Sal, v2, v3, v4] 49 (0, 0))]) Sz_52 rfl rfl rfl rfl rfl rfl ⟨h4.one, rfl, trivial⟩ rfl rfl) rfl ?_
 refine lq (q_assign rfl) rfl <| WL.nil <| WT.seq <| WT.region <| lq (q_loadN Tn_49 rfl (fun w1 hw => hw.rgO (i := 1) rfl 0 5 [.string x2.1.Name, .int .i64 x2.1.Sal, v2, v3, v4] rfl) rfl) rfl <| lq (q_loadN Tn_52 rfl (fun w1 hw => hw.rgO (i := 0) rfl 0 2 [v5, .int .i64 x2.2.1.Next] rfl) rfl) rfl <| lq (q_move rfl) rfl ?_
 obtain ⟨x4, hx3, h⟩ := bind_some h
 refine lc (k_call (js := []) (R := [ob v2, D1, ob v3, ob v4, D2, ob v5, X1]) Fun_16 rfl rfl (fun w1 hw ap hl => m_i_BindsFor_ok hw.fro N x2.1 x2.2.1 x2.2.2 (h1.rslG OTPat.gives) h2.rsl (h3.rslG OTAct.gives) h4.rsl h5  hx3)) rfl (fun v7 Φ_2 F2 q2 => ?_)
 obtain ⟨ap2, fr2, v8, rfl, rfl, h6⟩ := q2
 replace h5 := h5.frame RI.lasts fr2 (Dj.sub (ap2.r (i := 6) rfl) i2)
 replace h1 := h1.frame OTPat.lasts fr2 (ap2.r (i := 0) rfl) (ap2.r (i := 1) rfl)
 replace h2 := h2.frame RTCond.lasts fr2 (ap2.r (i := 2) rfl) (Dj.nil _)
 replace h3 := h3.frame OTAct.lasts fr2 (ap2.r (i := 3) rfl) (ap2.r (i := 4) rfl)
 replace h4 := h4.frame RTItem.lasts fr2 (ap2.r (i := 5) rfl) (Dj.sub (ap2.r (i := 6) rfl) i1)
 refine lq (q_move rfl) rfl <| lq (q_extract rfl rfl) rfl <| lq (q_extract rfl rfl) rfl <| lq (q_assign rfl) rfl <| lq (q_assign rfl) rfl <| WL.nil <| WT.seq <| WT.region <| lq (q_loadN Tn_49 rfl (fun w1 hw => hw.rgO (i := 1) rfl 0 5 [.string x2.1.Name, .int .i64 x2.1.Sal, v2, v3, v4] rfl) rfl) rfl <| lq (q_loadN Tn_52 rfl (fun w1 hw => hw.rgO (i := 0) rfl 0 2 [v5, .int .i64 x2.2.1.Next] rfl) rfl) rfl <| lq (q_move rfl) rfl ?_
 obtain ⟨x5, hx4, h⟩ := bind_some h
 refine lc (k_call (js := []) (R := [ob v8, ob v2, D1, ob v3, ob v4, D2, ob v5, X1]) Fun_17 rfl rfl (fun w1 hw ap hl => m_s_BindsFor_ok hw.fro N x2.1 x2.2.1 x2.2.2 (h1.rslG OTPat.gives) h2.rsl (h3.rslG OTAct.gives) h4.rsl h5  hx4)) rfl (fun v9 Φ_3 F3 q3 => ?_)
 obtain ⟨ap3, fr3, v10, rfl, rfl, h7⟩ := q3
 replace h5 := h5.frame RI.lasts fr3 (Dj.sub (ap3.r (i := 7) rfl) i2)
 replace h1 := h1.frame OTPat.lasts fr3 (ap3.r (i := 1) rfl) (ap3.r (i := 2) rfl)
 replace h2 := h2.frame RTCond.lasts fr3 (ap3.r (i := 3) rfl) (Dj.nil _)
 replace h3 := h3.frame OTAct.lasts fr3 (ap3.r (i := 4) rfl) (ap3.r (i := 5) rfl)
 replace h4 := h4.frame RTItem.lasts fr3 (ap3.r (i := 6) rfl) (Dj.sub (ap3.r (i := 7) rfl) i1)
 replace h6 := h6.frame RTBind.lasts fr3 (ap3.r (i := 0) rfl) (Dj.nil _)
 refine lq (q_move rfl) rfl <| lq (q_extract rfl rfl) rfl <| lq (q_extract rfl rfl) rfl <| lq (q_assign rfl) rfl <| lq (q_assign rfl) rfl <| WL.nil <| WT.seq <| WT.seq <| WT.region <| lq (q_move rfl) rfl <| lq (q_move rfl) rfl <| lq (q_bne Bo_4 rfl rfl) rfl <| lq (q_move rfl) rfl ?_
 obtain ⟨b1, hb_1, h⟩ := bind_some h
 refine WL.cutN 5 [(43, .bool b1), (3, .pointer (some ⟨b_1, 0, none⟩)), (4, .pointer (some ⟨b_2, 0, none⟩)), (5, v6), (6, v8), (7, .bool x4.2)] ?_ (fun K => ?_)
 rotate_left
 ·refine WL.split (d := 38) rfl (fun c2 => ?_) (fun c2 => ?_)
  ·replace hb_1 := ite_t hb_1 c2
   refine WL.no rfl rfl rfl rfl <| WL.no rfl rfl rfl rfl <| WL.no rfl rfl rfl rfl <| WL.no rfl rfl rfl rfl <| WL.q (q_pick1 rfl rfl) rfl rfl rfl ?_
   cases hb_1
   exact WL.keep (by exact ⟨rfl, rfl, rfl, rfl, rfl, rfl, trivial⟩) K
  ·replace hb_1 := ite_f hb_1 c2
   refine WL.yes rfl rfl <| lq (q_move rfl) rfl <| WL.yes rfl rfl <| lq (q_move rfl) rfl <| WL.yes rfl rfl ?_
   obtain ⟨x6, hx5, hb_1⟩ := bind_some hb_1
   refine lp (p_call Fun_18 rfl (fun w1 hw => m_l_sameBinds_ok hw.fro N x4.1 x5.1 h6.rsl h7.rsl hx5)) rfl <| WL.yes rfl rfl <| lq (q_not rfl) rfl <| WL.q (q_pick0 rfl rfl) rfl rfl rfl ?_
   cases hb_1
   exact WL.keep (by exact ⟨rfl, rfl, rfl, rfl, rfl, rfl, trivial⟩) K
 refine WL.nil ?_
 refine WT.cond rfl (fun c3 => ?_) (fun c3 => ?_)
 ·replace h := ite_t h c3
  refine WT.seq <| WT.region <| lq (q_assign rfl) rfl <| WL.nil ?_
  refine WT.ret Tryz.func4 (resOk.one rfl) (fun w1 hw => ?_)
  subst hb0
  cases h
  exact post_of_St hw
 replace h := ite_f h c3
 refine WT.skip <| WT.seq <| WT.region <| lq (q_assign rfl) rfl <| WL.nil <| WT.seq <| WT.region <| lq (q_loadN Tn_49 rfl (fun w1 hw => hw.rgO (i := 1) rfl 0 5 [.string x2.1.Name, .int .i64 x2.1.Sal, v2, v3, v4] rfl) rfl) rfl <| lq (q_loadN Tn_52 rfl (fun w1 hw => hw.rgO (i := 0) rfl 0 2 [v5, .int .i64 x2.2.1.Next] rfl) rfl) rfl ?_
 obtain ⟨x7, hx6, h⟩ := bind_some h
 refine lc (k_call (js := []) (R := [ob v10, ob v8, ob v2, D1, ob v3, ob v4, D2, ob v5, X1]) Fun_19 rfl rfl (fun w1 hw ap hl => m_i_MatchesOf_ok hw.fro N x2.1 x2.2.1 (h1.rslG OTPat.gives) h2.rsl (h3.rslG OTAct.gives) h4.rsl  hx6)) rfl (fun v11 Φ_4 F4 q4 => ?_)
 obtain ⟨ap4, fr4, v12, D4, rfl, rfl, h8⟩ := q4
 replace h5 := h5.frame RI.lasts fr4 (Dj.sub (ap4.r (i := 8) rfl) i2)
 replace h1 := h1.frame OTPat.lasts fr4 (ap4.r (i := 2) rfl) (ap4.r (i := 3) rfl)
 replace h2 := h2.frame RTCond.lasts fr4 (ap4.r (i := 4) rfl) (Dj.nil _)
 replace h3 := h3.frame OTAct.lasts fr4 (ap4.r (i := 5) rfl) (ap4.r (i := 6) rfl)
 replace h4 := h4.frame RTItem.lasts fr4 (ap4.r (i := 7) rfl) (Dj.sub (ap4.r (i := 8) rfl) i1)
 replace h6 := h6.frame RTBind.lasts fr4 (ap4.r (i := 1) rfl) (Dj.nil _)
 refine lq (q_assign rfl) rfl <| WL.nil <| WT.seq <| WT.seq <| WT.region <| lq (q_assign rfl) rfl <| WL.nil <| WT.block <| WT.loop <| WT.mono (l' := [(3, .pointer (some ⟨b_1, 0, none⟩)), (4, .pointer (some ⟨b_2, 0, none⟩)), (5, v6), (6, v8), (7, .bool x4.2), (10, .bool false), (11, v11), (12, .int .i64 0)]) (S' := St w0 Φ_4 [(b_2, .cells #[v5, .int .i64 x2.2.1.Next] 52 (0, 0)), (b_1, .cells #[.string x2.1.Name, .int .i64 x2.1.Sal, v2, v3, v4] 49 (0, 0))] [ob v11, D4, ob v8, ob v2, D1, ob v3, ob v4, D2, ob v5, X1]) ⟨rfl, rfl, rfl, rfl, rfl, rfl, rfl, rfl, trivial⟩ (fun w1 hw => (hw.sel (js := [0, 0, 1, 1, 1, 1, 1, 1, 1, 1]) rfl).selO (js := [0, 0]) rfl) ?_
 refine loop_ind (σ := Bool × Int) (fun s => [(3, .pointer (some ⟨b_1, 0, none⟩)), (4, .pointer (some ⟨b_2, 0, none⟩)), (5, v6), (6, v8), (7, .bool x4.2), (10, .bool s.1), (11, v11), (12, .int .i64 s.2)]) (fun s => St w0 Φ_4 [(b_2, .cells #[v5, .int .i64 x2.2.1.Next] 52 (0, 0)), (b_1, .cells #[.string x2.1.Name, .int .i64 x2.1.Sal, v2, v3, v4] 49 (0, 0))] [ob v11, D4, ob v8, ob v2, D1, ob v3, ob v4, D2, ob v5, X1]) (fun m s => m_l_FnNone_l1 N x2 x4 x7 m s.1 s.2 = some r) (fun s hm => none_ne (show (none : Option (Bool)) = some r from hm)) (fun n1 ih1 s hm => ?_) N (false, 0) h
 obtain ⟨s1, s2⟩ := s
 have h : m_l_FnNone_l1 N x2 x4 x7 (n1 + 1) s1 s2 = some r := hm
 show WT _ _ [(3, .pointer (some ⟨b_1, 0, none⟩)), (4, .pointer (some ⟨b_2, 0, none⟩)), (5, v6), (6, v8), (7, .bool x4.2), (10, .bool s1), (11, v11), (12, .int .i64 s2)] (St w0 Φ_4 [(b_2, .cells #[v5, .int .i64 x2.2.1.Next] 52 (0, 0)), (b_1, .cells #[.string x2.1.Name, .int .i64 x2.1.Sal, v2, v3, v4] 49 (0, 0))] [ob v11, D4, ob v8, ob v2, D1, ob v3, ob v4, D2, ob v5, X1])
 unfold m_l_FnNone_l1 at h
 refine WT.seq <| WT.seq <| WT.region <| lq (q_move rfl) rfl <| lq (q_move rfl) rfl <| lq (q_lenR Sl_59 rfl rfl (h8.rslG OTMatch.gives)) rfl <| lq (q_lss rfl rfl) rfl <| WL.nil ?_
 refine WT.cond rfl (fun c4 => ?_) (fun c4 => ?_)
 ·replace h := ite_t h c4
  refine WT.skip <| WT.seq <| WT.block <| WT.region <| lq (q_move rfl) rfl <| lq (q_move rfl) rfl ?_
  obtain ⟨b2, hb_2, h⟩ := bind_some h
  refine WL.cutN 8 [(62, .bool b2), (3, .pointer (some ⟨b_1, 0, none⟩)), (4, .pointer (some ⟨b_2, 0, none⟩)), (5, v6), (6, v8), (7, .bool x4.2), (10, .bool s1), (11, v11), (12, .int .i64 s2)] ?_ (fun K => ?_)
  rotate_left
  ·refine WL.split (d := 54) rfl (fun c5 => ?_) (fun c5 => ?_)
   ·replace hb_2 := ite_t hb_2 c5
    refine WL.no rfl rfl rfl rfl <| WL.no rfl rfl rfl rfl <| WL.no rfl rfl rfl rfl <| WL.no rfl rfl rfl rfl <| WL.no rfl rfl rfl rfl <| WL.no rfl rfl rfl rfl <| WL.no rfl rfl rfl rfl <| WL.q (q_pick1 rfl rfl) rfl rfl rfl ?_
    cases hb_2
    exact WL.keep (by exact ⟨rfl, rfl, rfl, rfl, rfl, rfl, rfl, rfl, rfl, trivial⟩) K
   ·replace hb_2 := ite_f hb_2 c5
    refine WL.yes rfl rfl <| lq (q_move rfl) rfl <| WL.yes rfl rfl <| lq (q_move rfl) rfl <| WL.yes rfl rfl ?_
    obtain ⟨x8, hx7, hb_2⟩ := bind_some hb_2
    obtain ⟨cs1, F5, -, g1, hb1, hs1, r1⟩ := h8.elS (idx_some hx7).2.2
    obtain ⟨v13, v14, rfl, rfl, h9, h10⟩ := r1
    have h11 := h9.rsl
    have h12 := h10.rsl
    refine lq (q_indexAddr Sl_59 rfl rfl h8.rsl hx7) rfl <| WL.yes rfl rfl <| lq (q_fieldAddr Fld_63_1 rfl) rfl <| WL.yes rfl rfl <| lq (q_load1 T1_41 rfl (fun w1 hw => (g1.of_eq 1 1 rfl rfl : rg _ _ _ [v13]).rangeAt hw.fro)) rfl <| WL.yes rfl rfl <| lq (q_move rfl) rfl <| WL.yes rfl rfl ?_
    obtain ⟨x9, hx8, hb_2⟩ := bind_some hb_2
    refine lp (p_call Fun_20 rfl (fun w1 hw => m_l_sameInts_ok hw.fro N x8.Ids x2.2.2 h11 h5 hx8)) rfl <| WL.q (q_pick0 rfl rfl) rfl rfl rfl ?_
    cases hb_2
    exact WL.keep (by exact ⟨rfl, rfl, rfl, rfl, rfl, rfl, rfl, rfl, rfl, trivial⟩) K
  refine lq (q_assign rfl) rfl <| WL.nil <| WT.inBlock <| WT.region <| lq (q_move rfl) rfl <| lq (q_add rfl rfl) rfl <| lq (q_assign rfl) rfl <| WL.nil ?_
  refine WT.inLoop (WT.mono (l' := [(3, .pointer (some ⟨b_1, 0, none⟩)), (4, .pointer (some ⟨b_2, 0, none⟩)), (5, v6), (6, v8), (7, .bool x4.2), (10, .bool b2), (11, v11), (12, .int .i64 (IntKind.i64.wrap (s2 + 1)))]) (S' := St w0 Φ_4 [(b_2, .cells #[v5, .int .i64 x2.2.1.Next] 52 (0, 0)), (b_1, .cells #[.string x2.1.Name, .int .i64 x2.1.Sal, v2, v3, v4] 49 (0, 0))] [ob v11, D4, ob v8, ob v2, D1, ob v3, ob v4, D2, ob v5, X1]) ⟨rfl, rfl, rfl, rfl, rfl, rfl, rfl, rfl, trivial⟩ (fun w1 hw => (hw.sel (js := [0, 0, 0, 0, 0, 0, 0, 0, 0, 0]) rfl).selO (js := [0, 0]) rfl) ?_)
  exact ih1 (b2, IntKind.i64.wrap (s2 + 1)) h
 replace h := ite_f h c4
 refine WT.exit rfl <| WT.seq <| WT.region <| lq (q_move rfl) rfl <| lq (q_move rfl) rfl <| lq (q_move rfl) rfl ?_
 obtain ⟨b3, hb_3, h⟩ := bind_some h
 refine WL.cutN 6 [(71, .bool b3), (3, .pointer (some ⟨b_1, 0, none⟩)), (6, v8), (63, .bool s1)] ?_ (fun K => ?_)
 rotate_left
 ·refine WL.split (d := 65) rfl (fun c6 => ?_) (fun c6 => ?_)
  ·replace hb_3 := ite_t hb_3 c6
   refine WL.yes rfl rfl <| lq (q_loadN Tn_49 rfl (fun w1 hw => hw.rgO (i := 1) rfl 0 5 [.string x2.1.Name, .int .i64 x2.1.Sal, v2, v3, v4] rfl) rfl) rfl <| WL.yes rfl rfl <| lq (q_loadN Tn_52 rfl (fun w1 hw => hw.rgO (i := 0) rfl 0 2 [v5, .int .i64 x2.2.1.Next] rfl) rfl) rfl <| WL.yes rfl rfl <| lq (q_move rfl) rfl <| WL.yes rfl rfl ?_
   obtain ⟨x10, hx9, hb_3⟩ := bind_some hb_3
   refine lp (p_call Fun_21 rfl (fun w1 hw => m_i_Blocked_ok hw.fro N x2.1 x2.2.1 x4.1 (h1.rslG OTPat.gives) h2.rsl (h3.rslG OTAct.gives) h4.rsl h6.rsl hx9)) rfl <| WL.yes rfl rfl <| lq (q_not rfl) rfl <| WL.q (q_pick1 rfl rfl) rfl rfl rfl ?_
   cases hb_3
   exact WL.keep (by exact ⟨rfl, rfl, rfl, rfl, trivial⟩) K
  ·replace hb_3 := ite_f hb_3 c6
   refine WL.no rfl rfl rfl rfl <| WL.no rfl rfl rfl rfl <| WL.no rfl rfl rfl rfl <| WL.no rfl rfl rfl rfl <| WL.no rfl rfl rfl rfl <| WL.q (q_pick0 rfl rfl) rfl rfl rfl ?_
   cases hb_3
   exact WL.keep (by exact ⟨rfl, rfl, rfl, rfl, trivial⟩) K
 refine lq (q_move rfl) rfl ?_
 obtain ⟨b4, hb_4, h⟩ := bind_some h
 refine WL.cutN 5 [(77, .bool b4), (63, .bool s1)] ?_ (fun K => ?_)
 rotate_left
 ·refine WL.split (d := 72) rfl (fun c7 => ?_) (fun c7 => ?_)
  ·replace hb_4 := ite_t hb_4 c7
   refine WL.yes rfl rfl <| lq (q_fieldAddr Fld_49_3 rfl) rfl <| WL.yes rfl rfl <| lq (q_load1 T1_46 rfl (fun w1 hw => hw.rgO (i := 1) rfl 3 1 [v3] rfl)) rfl <| WL.yes rfl rfl <| lq (q_move rfl) rfl <| WL.yes rfl rfl ?_
   obtain ⟨x11, hx10, hb_4⟩ := bind_some hb_4
   refine lp (p_call Fun_22 rfl (fun w1 hw => m_i_HoldAll_ok hw.fro N x2.1.Conds x4.1 h2.rsl h6.rsl hx10)) rfl <| WL.q (q_pick1 rfl rfl) rfl rfl rfl ?_
   cases hb_4
   exact WL.keep (by exact ⟨rfl, rfl, trivial⟩) K
  ·replace hb_4 := ite_f hb_4 c7
   refine WL.no rfl rfl rfl rfl <| WL.no rfl rfl rfl rfl <| WL.no rfl rfl rfl rfl <| WL.no rfl rfl rfl rfl <| WL.q (q_pick0 rfl rfl) rfl rfl rfl ?_
   cases hb_4
   exact WL.keep (by exact ⟨rfl, rfl, trivial⟩) K
 refine lq (q_beq Bo_4 rfl rfl) rfl <| lq (q_assign rfl) rfl <| WL.nil ?_
 refine WT.ret Tryz.func4 (resOk.one rfl) (fun w1 hw => ?_)
 subst hb0
 cases h
 exact post_of_St hw
end Go.Proofs.YtjangilipfjcmaaGreat
