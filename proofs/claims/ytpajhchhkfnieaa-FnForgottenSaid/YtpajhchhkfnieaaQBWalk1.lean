/- Printed by a program of ours: each Go function computes its Lean function. -/
import Derived.Test.YtpajhchhkfnieaaProg
import Derived.Test.YtpajhchhkfnieaaQBMod
namespace Go.Proofs.Ytpajhchhkfnieaa
open Eng
open Go.RowKit (Below)
set_option linter.unusedVariables false
set_option linter.unusedSimpArgs false

set_option maxRecDepth 100000
set_option maxHeartbeats 1000000
theorem mixed : Try.prog.follows .mixedOrders = true := by kernel_rfl
theorem Sl_22 : Sl Try.prog 22 5 1 = true := by kernel_rfl
theorem T1_5 : T1 Try.prog 5 = true := by kernel_rfl
theorem Ik_5 : Ik Try.prog 5 .u8 = true := by kernel_rfl
theorem Ik_3 : Ik Try.prog 3 .i64 = true := by kernel_rfl
theorem Pl_149 : Pl Try.prog 149 #[(0, 1), (1, 1), (2, 1)] = true := by kernel_rfl
theorem Zr_149 : (Try.prog.info? 149).map (·.zero) = some (some (.agg #[.slice none 0 0, .int .i64 0, .int .i64 0])) := by kernel_rfl
theorem Fld_149_2 : Fld Try.prog 149 2 2 = true := by kernel_rfl
theorem T1_3 : T1 Try.prog 3 = true := by kernel_rfl
theorem Sz_3 : Sz Try.prog 3 1 = true := by kernel_rfl
theorem Fld_149_1 : Fld Try.prog 149 1 1 = true := by kernel_rfl
theorem Fld_149_0 : Fld Try.prog 149 0 0 = true := by kernel_rfl
theorem T1_22 : T1 Try.prog 22 = true := by kernel_rfl
theorem Fun_114 : Fun Try.prog 114 = true := by kernel_rfl
theorem Zr_32 : (Try.prog.info? 32).map (·.zero) = some (some (.agg #[.int .i64 0, .slice none 0 0, .slice none 0 0])) := by kernel_rfl
theorem Fun_67 : Fun Try.prog 67 = true := by kernel_rfl
theorem Pl_32 : Pl Try.prog 32 #[(0, 1), (1, 1), (2, 1)] = true := by kernel_rfl
theorem Sz_32 : Sz Try.prog 32 3 = true := by kernel_rfl
theorem Fld_32_1 : Fld Try.prog 32 1 1 = true := by kernel_rfl
theorem T1_29 : T1 Try.prog 29 = true := by kernel_rfl
theorem MC_3_1 : madeCells (Value.int .i64 0 : Value).cells (1 * 1) = #[.int .i64 0] := by kernel_rfl
theorem Sl_29 : Sl Try.prog 29 3 1 = true := by kernel_rfl
theorem Zr_3 : (Try.prog.info? 3).map (·.zero) = some (some (.int .i64 0)) := by kernel_rfl
theorem Ei_3 : (Try.prog.info? 3).map (fun i => (i.zero, i.size, i.bytes)) = some (some (.int .i64 0), 1, 8) := by kernel_rfl
theorem Sz_29 : Sz Try.prog 29 1 = true := by kernel_rfl
theorem Tn_32 : Tn Try.prog 32 3 = true := by kernel_rfl
theorem MC_32_0 : madeCells (Value.agg #[.int .i64 0, .slice none 0 0, .slice none 0 0] : Value).cells (0 * 3) = #[] := by kernel_rfl
theorem Sl_24 : Sl Try.prog 24 32 3 = true := by kernel_rfl
theorem Fun_72 : Fun Try.prog 72 = true := by kernel_rfl
theorem MC_32_1 : madeCells (Value.agg #[.int .i64 0, .slice none 0 0, .slice none 0 0] : Value).cells (1 * 3) = #[.int .i64 0, .slice none 0 0, .slice none 0 0] := by kernel_rfl
theorem Ei_32 : (Try.prog.info? 32).map (fun i => (i.zero, i.size, i.bytes)) = some (some (.agg #[.int .i64 0, .slice none 0 0, .slice none 0 0]), 3, 56) := by kernel_rfl
theorem Fun_65 : Fun Try.prog 65 = true := by kernel_rfl
theorem Fun_66 : Fun Try.prog 66 = true := by kernel_rfl
theorem Fun_115 : Fun Try.prog 115 = true := by kernel_rfl
theorem MC_3_0 : madeCells (Value.int .i64 0 : Value).cells (0 * 1) = #[] := by kernel_rfl
theorem Sl_30 : Sl Try.prog 30 130 4 = true := by kernel_rfl
theorem MC_130_0 : madeCells (Value.agg #[.string ⟨#[]⟩, .int .i64 0, .int .i64 0, .string ⟨#[]⟩] : Value).cells (0 * 4) = #[] := by kernel_rfl
theorem Zr_130 : (Try.prog.info? 130).map (·.zero) = some (some (.agg #[.string ⟨#[]⟩, .int .i64 0, .int .i64 0, .string ⟨#[]⟩])) := by kernel_rfl
theorem Ei_130 : (Try.prog.info? 130).map (fun i => (i.zero, i.size, i.bytes)) = some (some (.agg #[.string ⟨#[]⟩, .int .i64 0, .int .i64 0, .string ⟨#[]⟩]), 4, 48) := by kernel_rfl
theorem Fld_32_0 : Fld Try.prog 32 0 0 = true := by kernel_rfl
theorem Fld_32_2 : Fld Try.prog 32 2 2 = true := by kernel_rfl
theorem T1_30 : T1 Try.prog 30 = true := by kernel_rfl
theorem Fun_116 : Fun Try.prog 116 = true := by kernel_rfl
theorem Fun_117 : Fun Try.prog 117 = true := by kernel_rfl
theorem Fun_68 : Fun Try.prog 68 = true := by kernel_rfl
theorem Fun_69 : Fun Try.prog 69 = true := by kernel_rfl
theorem Fun_70 : Fun Try.prog 70 = true := by kernel_rfl
theorem Fun_71 : Fun Try.prog 71 = true := by kernel_rfl
theorem Fun_118 : Fun Try.prog 118 = true := by kernel_rfl
theorem Fun_18 : Fun Try.prog 18 = true := by kernel_rfl
theorem Fun_74 : Fun Try.prog 74 = true := by kernel_rfl
theorem Fun_73 : Fun Try.prog 73 = true := by kernel_rfl
theorem Fun_14 : Fun Try.prog 14 = true := by kernel_rfl
theorem Fun_15 : Fun Try.prog 15 = true := by kernel_rfl
theorem Fun_16 : Fun Try.prog 16 = true := by kernel_rfl
theorem Fun_17 : Fun Try.prog 17 = true := by kernel_rfl
theorem Fun_19 : Fun Try.prog 19 = true := by kernel_rfl
theorem Fun_20 : Fun Try.prog 20 = true := by kernel_rfl
theorem Bo_4 : Bo Try.prog 4 = true := by kernel_rfl
theorem Fun_75 : Fun Try.prog 75 = true := by kernel_rfl
theorem Fun_135 : Fun Try.prog 135 = true := by kernel_rfl
theorem Fun_120 : Fun Try.prog 120 = true := by kernel_rfl
theorem MC_3_2 : madeCells (Value.int .i64 0 : Value).cells (2 * 1) = #[.int .i64 0, .int .i64 0] := by kernel_rfl
theorem Fun_119 : Fun Try.prog 119 = true := by kernel_rfl
theorem Fun_121 : Fun Try.prog 121 = true := by kernel_rfl
theorem Fun_76 : Fun Try.prog 76 = true := by kernel_rfl
theorem Fun_21 : Fun Try.prog 21 = true := by kernel_rfl
theorem Fun_22 : Fun Try.prog 22 = true := by kernel_rfl
theorem Fun_23 : Fun Try.prog 23 = true := by kernel_rfl
theorem Fld_100_0 : Fld Try.prog 100 0 0 = true := by kernel_rfl
theorem Fld_100_1 : Fld Try.prog 100 1 1 = true := by kernel_rfl
theorem Fld_100_2 : Fld Try.prog 100 2 2 = true := by kernel_rfl
theorem T1_9 : T1 Try.prog 9 = true := by kernel_rfl
theorem Sl_44 : Sl Try.prog 44 100 3 = true := by kernel_rfl
theorem Tn_100 : Tn Try.prog 100 3 = true := by kernel_rfl
theorem Fun_63 : Fun Try.prog 63 = true := by kernel_rfl
theorem Fld_46_0 : Fld Try.prog 46 0 0 = true := by kernel_rfl
theorem Fld_46_1 : Fld Try.prog 46 1 1 = true := by kernel_rfl
theorem Fld_46_2 : Fld Try.prog 46 2 2 = true := by kernel_rfl
theorem T1_44 : T1 Try.prog 44 = true := by kernel_rfl
theorem Fun_84 : Fun Try.prog 84 = true := by kernel_rfl
theorem Fld_46_3 : Fld Try.prog 46 3 3 = true := by kernel_rfl
theorem Fun_85 : Fun Try.prog 85 = true := by kernel_rfl
theorem Fld_93_2 : Fld Try.prog 93 2 2 = true := by kernel_rfl
theorem Str_9 : Str Try.prog 9 = true := by kernel_rfl
theorem Fld_95_1 : Fld Try.prog 95 1 1 = true := by kernel_rfl
theorem Fld_95_2 : Fld Try.prog 95 2 2 = true := by kernel_rfl
theorem Tn_93 : Tn Try.prog 93 3 = true := by kernel_rfl
theorem Fun_122 : Fun Try.prog 122 = true := by kernel_rfl
theorem Sl_79 : Sl Try.prog 79 95 5 = true := by kernel_rfl
theorem Tn_95 : Tn Try.prog 95 5 = true := by kernel_rfl
theorem Fun_103 : Fun Try.prog 103 = true := by kernel_rfl
theorem Fld_81_0 : Fld Try.prog 81 0 0 = true := by kernel_rfl
theorem Fld_81_1 : Fld Try.prog 81 1 1 = true := by kernel_rfl
theorem T1_79 : T1 Try.prog 79 = true := by kernel_rfl
theorem Fun_95 : Fun Try.prog 95 = true := by kernel_rfl
theorem Zr_46 : (Try.prog.info? 46).map (·.zero) = some (some (.agg #[.string ⟨#[]⟩, .int .i64 0, .slice none 0 0, .slice none 0 0])) := by kernel_rfl
theorem Fld_86_0 : Fld Try.prog 86 0 0 = true := by kernel_rfl
theorem Fld_86_1 : Fld Try.prog 86 1 1 = true := by kernel_rfl
theorem T1_84 : T1 Try.prog 84 = true := by kernel_rfl
theorem Sl_84 : Sl Try.prog 84 104 5 = true := by kernel_rfl
theorem Pl_46 : Pl Try.prog 46 #[(0, 1), (1, 1), (2, 1), (3, 1)] = true := by kernel_rfl
theorem Sz_46 : Sz Try.prog 46 4 = true := by kernel_rfl
theorem Fld_104_0 : Fld Try.prog 104 0 0 = true := by kernel_rfl
theorem Fld_104_2 : Fld Try.prog 104 2 2 = true := by kernel_rfl
theorem MC_100_1 : madeCells (Value.agg #[.int .i64 0, .int .i64 0, .string ⟨#[]⟩] : Value).cells (1 * 3) = #[.int .i64 0, .int .i64 0, .string ⟨#[]⟩] := by kernel_rfl
theorem Zr_100 : (Try.prog.info? 100).map (·.zero) = some (some (.agg #[.int .i64 0, .int .i64 0, .string ⟨#[]⟩])) := by kernel_rfl
theorem Ei_100 : (Try.prog.info? 100).map (fun i => (i.zero, i.size, i.bytes)) = some (some (.agg #[.int .i64 0, .int .i64 0, .string ⟨#[]⟩]), 3, 32) := by kernel_rfl
theorem Sz_44 : Sz Try.prog 44 1 = true := by kernel_rfl
theorem Tn_46 : Tn Try.prog 46 4 = true := by kernel_rfl
theorem Fld_93_0 : Fld Try.prog 93 0 0 = true := by kernel_rfl
theorem Fld_93_1 : Fld Try.prog 93 1 1 = true := by kernel_rfl
theorem Sz_9 : Sz Try.prog 9 1 = true := by kernel_rfl
theorem Sz_100 : Sz Try.prog 100 3 = true := by kernel_rfl
theorem Zr_104 : (Try.prog.info? 104).map (·.zero) = some (some (.agg #[.int .i64 0, .string ⟨#[]⟩, .int .i64 0, .int .i64 0, .string ⟨#[]⟩])) := by kernel_rfl
theorem Fld_95_0 : Fld Try.prog 95 0 0 = true := by kernel_rfl
theorem Fld_104_1 : Fld Try.prog 104 1 1 = true := by kernel_rfl
theorem Fun_123 : Fun Try.prog 123 = true := by kernel_rfl
theorem Tn_104 : Tn Try.prog 104 5 = true := by kernel_rfl
theorem Sz_104 : Sz Try.prog 104 5 = true := by kernel_rfl
theorem By_104 : By Try.prog 104 56 = true := by kernel_rfl
theorem Fun_108 : Fun Try.prog 108 = true := by kernel_rfl
theorem Zr_86 : (Try.prog.info? 86).map (·.zero) = some (some (.agg #[.string ⟨#[]⟩, .slice none 0 0, .bool false])) := by kernel_rfl
theorem Fun_96 : Fun Try.prog 96 = true := by kernel_rfl
theorem Sz_84 : Sz Try.prog 84 1 = true := by kernel_rfl
theorem Fld_81_2 : Fld Try.prog 81 2 2 = true := by kernel_rfl
theorem T1_4 : T1 Try.prog 4 = true := by kernel_rfl
theorem Fld_86_2 : Fld Try.prog 86 2 2 = true := by kernel_rfl
theorem Sz_4 : Sz Try.prog 4 1 = true := by kernel_rfl
theorem Tn_86 : Tn Try.prog 86 3 = true := by kernel_rfl
theorem Sz_86 : Sz Try.prog 86 3 = true := by kernel_rfl
theorem Fun_128 : Fun Try.prog 128 = true := by kernel_rfl
theorem Fun_97 : Fun Try.prog 97 = true := by kernel_rfl
theorem MC_5_1 : madeCells (Value.int .u8 0 : Value).cells (1 * 1) = #[.int .u8 0] := by kernel_rfl
theorem Zr_5 : (Try.prog.info? 5).map (·.zero) = some (some (.int .u8 0)) := by kernel_rfl
theorem Fun_129 : Fun Try.prog 129 = true := by kernel_rfl
theorem Fun_98 : Fun Try.prog 98 = true := by kernel_rfl
theorem Fun_99 : Fun Try.prog 99 = true := by kernel_rfl
theorem Fun_100 : Fun Try.prog 100 = true := by kernel_rfl
theorem Fun_101 : Fun Try.prog 101 = true := by kernel_rfl
theorem Fun_102 : Fun Try.prog 102 = true := by kernel_rfl
theorem Tn_81 : Tn Try.prog 81 3 = true := by kernel_rfl
theorem Fun_49 : Fun Try.prog 49 = true := by kernel_rfl
theorem Fun_51 : Fun Try.prog 51 = true := by kernel_rfl
theorem Fun_50 : Fun Try.prog 50 = true := by kernel_rfl
theorem Fun_52 : Fun Try.prog 52 = true := by kernel_rfl
theorem Fun_28 : Fun Try.prog 28 = true := by kernel_rfl
theorem Fun_53 : Fun Try.prog 53 = true := by kernel_rfl
theorem Fun_54 : Fun Try.prog 54 = true := by kernel_rfl
theorem Fun_55 : Fun Try.prog 55 = true := by kernel_rfl
theorem Fun_56 : Fun Try.prog 56 = true := by kernel_rfl
theorem m_l_big_ok {Φ : Hp} {w : World} (hΦ : In Φ w) (N : Nat) (p0 : (List Int)) {pv0 : Value} {pG0 : List Nat} (ph0 : RSl (RI .u8) 1 Φ pG0 pv0 p0) {r : Bool} (h : m_l_big N p0 = some r) :
    Calls Try.prog 14 [pv0].toArray w (Post (.bool r) w) := by
  refine enter Try.func14 rfl Try.ntmps14 rfl (St.start0 hΦ) ?_
  unfold m_l_big at h
  refine WT.seq ?_
  refine WT.region ?_
  refine lq (q_assign rfl) rfl ?_
  refine WL.nil ?_
  refine WT.seq ?_
  refine WT.region ?_
  refine lq (q_move rfl) rfl ?_
  refine lq (q_lenR Sl_22 rfl rfl ph0) rfl ?_
  refine lq (q_gtr rfl rfl) rfl ?_
  refine lq (q_assign rfl) rfl ?_
  refine WL.nil ?_
  refine WT.ret Try.func14 (resOk.one rfl) (fun w1 hw => ?_)
  cases h
  exact post_of_St hw
theorem m_s_l1New_ok {Φ : Hp} {w : World} (hΦ : In Φ w) (N : Nat) (p0 : (List Int)) {pv0 : Value} {pG0 : List Nat} (ph0 : RSl (RI .u8) 1 Φ pG0 pv0 p0) {r : Tl1Cur} (h : m_s_l1New N p0 = some r) :
    Calls Try.prog 65 [pv0].toArray w (PostG Φ w [] (fun Φ' Fs v => ∃ (b0 : Nat) (sr_0_0 : Value) (Gr_0_0 : List Nat), v = .pointer (some ⟨b0, 0, none⟩) ∧ Fs = [[b0]] ∧ RSl (RI .u8) 1 Φ' Gr_0_0 sr_0_0 r.b ∧ (∀ k ∈ Gr_0_0, k ∈ pG0) ∧ Φ' b0 = some (.cells #[sr_0_0, .int .i64 r.i, .int .i64 r.h] 149 (0, 0)))) := by
  refine enter Try.func65 rfl Try.ntmps65 rfl (St.start0 hΦ) ?_
  generalize hb0 : (⟨w, [], Φ⟩ : Base) = w0
  unfold m_s_l1New at h
  refine WT.seq ?_
  refine WT.region ?_
  refine lq (q_assign rfl) rfl ?_
  refine WL.nil ?_
  refine WT.seq ?_
  refine WT.region ?_
  refine lq (q_move rfl) rfl ?_
  refine lq (q_lenR Sl_22 rfl rfl ph0) rfl ?_
  refine lq (q_add rfl rfl) rfl ?_
  refine lq (q_assign rfl) rfl ?_
  refine WL.nil ?_
  refine WT.seq ?_
  refine WT.seq ?_
  refine WT.region ?_
  refine lq (q_assign rfl) rfl ?_
  refine WL.nil ?_
  refine WT.block ?_
  refine WT.loop ?_
  refine WT.mono (l' := [(0, pv0), (3, .int .i64 (IntKind.i64.wrap (354354 + (p0.length : Int)))), (4, .int .i64 0)]) (S' := St w0 Φ [] []) ⟨rfl, rfl, rfl, trivial⟩ (fun w1 hw => (hw.sel (js := []) rfl).selO (js := []) rfl) ?_
  refine loop_ind (σ := Int × Int) (fun s => [(0, pv0), (3, .int .i64 s.1), (4, .int .i64 s.2)]) (fun s => St w0 Φ [] []) (fun m s => m_s_l1New_l1 N p0 m s.1 s.2 = some r) (fun s hm => none_ne (show (none : Option (Tl1Cur)) = some r from hm)) (fun n1 ih1 s hm => ?_) N (IntKind.i64.wrap (354354 + (p0.length : Int)), 0) h
  obtain ⟨s1, s2⟩ := s
  have h : m_s_l1New_l1 N p0 (n1 + 1) s1 s2 = some r := hm
  show WT _ _ [(0, pv0), (3, .int .i64 s1), (4, .int .i64 s2)] (St w0 Φ [] [])
  unfold m_s_l1New_l1 at h
  refine WT.seq ?_
  refine WT.seq ?_
  refine WT.region ?_
  refine lq (q_move rfl) rfl ?_
  refine lq (q_move rfl) rfl ?_
  refine lq (q_lenR Sl_22 rfl rfl ph0) rfl ?_
  refine lq (q_lss rfl rfl) rfl ?_
  refine lq (q_move rfl) rfl ?_
  obtain ⟨b1, hb_1, h⟩ := bind_some h
  refine WL.cutN 3 [(15, .bool b1), (0, pv0), (3, .int .i64 s1), (4, .int .i64 s2)] ?_ (fun K => ?_)
  rotate_left
  · refine WL.split (d := 12) rfl (fun c1 => ?_) (fun c1 => ?_)
    · replace hb_1 := ite_t hb_1 c1
      refine WL.yes rfl rfl ?_
      refine lq (q_move rfl) rfl ?_
      refine WL.yes rfl rfl ?_
      refine lq (q_lss rfl rfl) rfl ?_
      refine WL.q (q_pick1 rfl rfl) rfl rfl rfl ?_
      cases hb_1
      exact WL.keep (by exact ⟨rfl, rfl, rfl, rfl, trivial⟩) K
    · replace hb_1 := ite_f hb_1 c1
      refine WL.no rfl rfl rfl rfl ?_
      refine WL.no rfl rfl rfl rfl ?_
      refine WL.q (q_pick0 rfl rfl) rfl rfl rfl ?_
      cases hb_1
      exact WL.keep (by exact ⟨rfl, rfl, rfl, rfl, trivial⟩) K
  refine WL.nil ?_
  refine WT.cond rfl (fun c2 => ?_) (fun c2 => ?_)
  · replace h := ite_t h c2
    refine WT.skip ?_
    refine WT.seq ?_
    refine WT.block ?_
    refine WT.region ?_
    refine lq (q_move rfl) rfl ?_
    refine lq (q_mul rfl rfl) rfl ?_
    refine lq (q_move rfl) rfl ?_
    refine lq (q_move rfl) rfl ?_
    obtain ⟨x1, hx1, h⟩ := bind_some h
    obtain ⟨cs1, F1, -, g1, hb1, hs1, r1⟩ := ph0.el (idx_some hx1).2.2
    obtain ⟨rfl, -⟩ := r1
    refine lq (q_indexAddr Sl_22 rfl rfl ph0 hx1) rfl ?_
    refine lq (q_load1 T1_5 rfl (fun w1 hw => (g1.of_eq 0 1 rfl rfl : rg _ _ _ [.int .u8 x1]).rangeAt hw.fro)) rfl ?_
    refine lq (q_convI Ik_5 Ik_3 rfl) rfl ?_
    refine lq (q_add rfl rfl) rfl ?_
    refine lq (q_add rfl rfl) rfl ?_
    refine lq (q_and rfl rfl) rfl ?_
    refine lq (q_assign rfl) rfl ?_
    refine WL.nil ?_
    refine WT.inBlock ?_
    refine WT.region ?_
    refine lq (q_move rfl) rfl ?_
    refine lq (q_add rfl rfl) rfl ?_
    refine lq (q_assign rfl) rfl ?_
    refine WL.nil ?_
    refine WT.inLoop (WT.mono (l' := [(0, pv0), (3, .int .i64 (andI .i64 (IntKind.i64.wrap ((IntKind.i64.wrap ((IntKind.i64.wrap (s1 * 137)) + (IntKind.i64.wrap x1))) + 11)) 1073741823)), (4, .int .i64 (IntKind.i64.wrap (s2 + 1)))]) (S' := St w0 Φ [] []) ⟨rfl, rfl, rfl, trivial⟩ (fun w1 hw => (hw.sel (js := []) rfl).selO (js := []) rfl) ?_)
    exact ih1 ((andI .i64 (IntKind.i64.wrap ((IntKind.i64.wrap ((IntKind.i64.wrap (s1 * 137)) + (IntKind.i64.wrap x1))) + 11)) 1073741823), IntKind.i64.wrap (s2 + 1)) h
  replace h := ite_f h c2
  refine WT.exit rfl ?_
  refine WT.seq ?_
  refine WT.region ?_
  refine lq (q_move rfl) rfl ?_
  refine lq (q_move rfl) rfl ?_
  refine lq (q_build (vs := [(0, pv0), (2, .int .i64 s1)]) (C := #[pv0, .int .i64 0, .int .i64 s1]) Pl_149 Zr_149 rfl (fill_cons (cells := [.slice none 0 0, .int .i64 0, .int .i64 0]) (c := [pv0]) (C' := [pv0, .int .i64 0, .int .i64 0]) rfl (one_cells ph0.one) rfl rfl rfl (fill_cons (cells := [pv0, .int .i64 0, .int .i64 0]) (c := [.int .i64 s1]) (C' := [pv0, .int .i64 0, .int .i64 s1]) rfl rfl rfl rfl rfl (fill_nil)))) rfl ?_
  refine ln (n_box (C := #[pv0, .int .i64 0, .int .i64 s1]) rfl rfl) rfl (fun b_1 => ?_)
  refine lq (q_assign rfl) rfl ?_
  refine WL.nil ?_
  refine WT.frz (js := [0]) (R := []) rfl (fun Φ_1 fr1 k1 => ?_)
  replace ph0 := ph0.frame RI.lasts fr1 (Dj.empty _)
  refine WT.ret Try.func65 (resOk.one rfl) (fun w1 hw => ?_)
  subst hb0
  cases h
  refine postG_of_St (js := [0]) hw rfl ⟨b_1, pv0, pG0, rfl, rfl, ph0, (fun k hk => hk), k1⟩
theorem m_s_l1Byte_ok {Φ : Hp} {w : World} (hΦ : In Φ w) (N : Nat) (p0 : Tl1Cur) {pv0_0 : Value} {pG0_0 : List Nat} {pb0 : Nat} (ph0_0 : RSl (RI .u8) 1 Φ pG0_0 pv0_0 p0.b) (pp0 : Φ pb0 = some (.cells #[pv0_0, .int .i64 p0.i, .int .i64 p0.h] 149 (0, 0))) (pd0_0 : Dj pG0_0 [[pb0]].flatten) (hB : [[pb0]].flatten.Nodup) (hlt : ∀ k ∈ [[pb0]].flatten, k < w.heap.size) {r : Int × Tl1Cur} (h : m_s_l1Byte N p0 = some r) :
    Calls Try.prog 114 [.pointer (some ⟨pb0, 0, none⟩)].toArray w (PostG Φ w [[pb0]].flatten (fun Φ' Fs v => v = .int .i64 r.1 ∧ Fs = [[pb0]] ∧ r.2.b = p0.b ∧ Φ' pb0 = some (.cells #[pv0_0, .int .i64 r.2.i, .int .i64 r.2.h] 149 (0, 0)))) := by
  refine enter Try.func114 rfl Try.ntmps114 rfl (St.start hΦ [[pb0]] hB hlt) ?_
  have pa0_0 : Old ⟨w, [[pb0]].flatten, Φ⟩ pG0_0 := Old.mk hΦ ph0_0.kn pd0_0
  unfold m_s_l1Byte at h
  refine WT.seq ?_
  refine WT.region ?_
  refine lq (q_assign rfl) rfl ?_
  refine WL.nil ?_
  refine WT.seq ?_
  refine WT.region ?_
  refine lq (q_move rfl) rfl ?_
  refine lq (q_move rfl) rfl ?_
  refine lq (q_nilCheck rfl) rfl ?_
  refine lq (q_fieldAddr Fld_149_2 rfl) rfl ?_
  refine lq (q_load1 T1_3 rfl (fun w1 hw => ((rg_cells pp0).of_eq 2 1 rfl rfl : rg _ _ _ [.int .i64 p0.h]).rangeAt hw.fro)) rfl ?_
  refine lq (q_mul rfl rfl) rfl ?_
  refine lq (q_add rfl rfl) rfl ?_
  refine lq (q_nilCheck rfl) rfl ?_
  refine lq (q_fieldAddr Fld_149_2 rfl) rfl ?_
  refine WL.thw (js := [0]) (R := []) rfl pp0 (fun Φ_1 ap1 fr1 => ?_)
  replace ph0_0 := ph0_0.frame RI.lasts fr1 (ap1.o pa0_0)
  refine ls (s_store (i := 0) (vs := [.int .i64 (IntKind.i64.wrap ((IntKind.i64.wrap (p0.h * 6364136223846793005)) + 1442695040888963407))]) (C' := [pv0_0, .int .i64 p0.i, .int .i64 (IntKind.i64.wrap ((IntKind.i64.wrap (p0.h * 6364136223846793005)) + 1442695040888963407))]) (O' := [(pb0, .cells #[pv0_0, .int .i64 p0.i, .int .i64 (IntKind.i64.wrap ((IntKind.i64.wrap (p0.h * 6364136223846793005)) + 1442695040888963407))] 149 (0, 0))]) Sz_3 rfl rfl rfl rfl rfl rfl ⟨rfl, trivial⟩ rfl rfl) rfl ?_
  refine WL.nil ?_
  refine WT.seq ?_
  refine WT.draw mixed (by kernel_rfl) (fun _ h => h.drew) ?_
  refine qq (q_move rfl) rfl ?_
  refine qq (q_nilCheck rfl) rfl ?_
  refine qq (q_fieldAddr Fld_149_2 rfl) rfl ?_
  refine qq (q_load1 T1_3 rfl (fun w1 hw => hw.rgO (i := 0) rfl 2 1 [.int .i64 (IntKind.i64.wrap ((IntKind.i64.wrap (p0.h * 6364136223846793005)) + 1442695040888963407))] rfl)) rfl ?_
  refine qq (q_shr rfl rfl (by decide)) rfl ?_
  refine qq (q_move rfl) rfl ?_
  refine qq (q_nilCheck rfl) rfl ?_
  refine qq (q_fieldAddr Fld_149_2 rfl) rfl ?_
  refine qq (q_load1 T1_3 rfl (fun w1 hw => hw.rgO (i := 0) rfl 2 1 [.int .i64 (IntKind.i64.wrap ((IntKind.i64.wrap (p0.h * 6364136223846793005)) + 1442695040888963407))] rfl)) rfl ?_
  refine qq (q_shr rfl rfl (by decide)) rfl ?_
  refine qq (q_xor rfl rfl) rfl ?_
  refine qq (q_and rfl rfl) rfl ?_
  refine qq (q_assign rfl) rfl ?_
  refine WQ.nil ?_
  refine WT.seq ?_
  refine WT.seq ?_
  refine WT.draw mixed (by kernel_rfl) (fun _ h => h.drew) ?_
  refine qq (q_move rfl) rfl ?_
  refine qq (q_nilCheck rfl) rfl ?_
  refine qq (q_fieldAddr Fld_149_1 rfl) rfl ?_
  refine qq (q_load1 T1_3 rfl (fun w1 hw => hw.rgO (i := 0) rfl 1 1 [.int .i64 p0.i] rfl)) rfl ?_
  refine qq (q_move rfl) rfl ?_
  refine qq (q_nilCheck rfl) rfl ?_
  refine qq (q_fieldAddr Fld_149_0 rfl) rfl ?_
  refine qq (q_load1 T1_22 rfl (fun w1 hw => hw.rgO (i := 0) rfl 0 1 [pv0_0] rfl)) rfl ?_
  refine qq (q_lenR Sl_22 rfl rfl ph0_0) rfl ?_
  refine qq (q_lss rfl rfl) rfl ?_
  refine WQ.nil ?_
  refine WT.cond rfl (fun c1 => ?_) (fun c1 => ?_)
  · replace h := ite_t h c1
    refine WT.seq ?_
    refine WT.draw mixed (by kernel_rfl) (fun _ h => h.drew) ?_
    refine qq (q_move rfl) rfl ?_
    refine qq (q_move rfl) rfl ?_
    refine qq (q_nilCheck rfl) rfl ?_
    refine qq (q_fieldAddr Fld_149_0 rfl) rfl ?_
    refine qq (q_load1 T1_22 rfl (fun w1 hw => hw.rgO (i := 0) rfl 0 1 [pv0_0] rfl)) rfl ?_
    refine qq (q_move rfl) rfl ?_
    refine qq (q_nilCheck rfl) rfl ?_
    refine qq (q_fieldAddr Fld_149_1 rfl) rfl ?_
    refine qq (q_load1 T1_3 rfl (fun w1 hw => hw.rgO (i := 0) rfl 1 1 [.int .i64 p0.i] rfl)) rfl ?_
    obtain ⟨x1, hx1, h⟩ := bind_some h
    obtain ⟨cs1, F1, -, g1, hb1, hs1, r1⟩ := ph0_0.el (idx_some hx1).2.2
    obtain ⟨rfl, -⟩ := r1
    refine qq (q_indexAddr Sl_22 rfl rfl ph0_0 hx1) rfl ?_
    refine qq (q_load1 T1_5 rfl (fun w1 hw => (g1.of_eq 0 1 rfl rfl : rg _ _ _ [.int .u8 x1]).rangeAt hw.fro)) rfl ?_
    refine qq (q_convI Ik_5 Ik_3 rfl) rfl ?_
    refine qq (q_add rfl rfl) rfl ?_
    refine qq (q_and rfl rfl) rfl ?_
    refine qq (q_assign rfl) rfl ?_
    refine WQ.nil ?_
    refine WT.region ?_
    refine lq (q_move rfl) rfl ?_
    refine lq (q_move rfl) rfl ?_
    refine lq (q_nilCheck rfl) rfl ?_
    refine lq (q_fieldAddr Fld_149_1 rfl) rfl ?_
    refine lq (q_load1 T1_3 rfl (fun w1 hw => hw.rgO (i := 0) rfl 1 1 [.int .i64 p0.i] rfl)) rfl ?_
    refine lq (q_add rfl rfl) rfl ?_
    refine lq (q_nilCheck rfl) rfl ?_
    refine lq (q_fieldAddr Fld_149_1 rfl) rfl ?_
    refine ls (s_store (i := 0) (vs := [.int .i64 (IntKind.i64.wrap (p0.i + 1))]) (C' := [pv0_0, .int .i64 (IntKind.i64.wrap (p0.i + 1)), .int .i64 (IntKind.i64.wrap ((IntKind.i64.wrap (p0.h * 6364136223846793005)) + 1442695040888963407))]) (O' := [(pb0, .cells #[pv0_0, .int .i64 (IntKind.i64.wrap (p0.i + 1)), .int .i64 (IntKind.i64.wrap ((IntKind.i64.wrap (p0.h * 6364136223846793005)) + 1442695040888963407))] 149 (0, 0))]) Sz_3 rfl rfl rfl rfl rfl rfl ⟨rfl, trivial⟩ rfl rfl) rfl ?_
    refine WL.nil ?_
    refine WT.seq ?_
    refine WT.region ?_
    refine lq (q_move rfl) rfl ?_
    refine lq (q_assign rfl) rfl ?_
    refine WL.nil ?_
    refine WT.frz (js := [0]) (R := []) rfl (fun Φ_2 fr2 k1 => ?_)
    replace ph0_0 := ph0_0.frame RI.lasts fr2 (Dj.empty _)
    refine WT.ret Try.func114 (resOk.one rfl) (fun w1 hw => ?_)
    cases h
    refine postG_of_St (js := [0]) hw rfl ⟨rfl, rfl, rfl, k1⟩
  replace h := ite_f h c1
  refine WT.skip ?_
  refine WT.seq ?_
  refine WT.region ?_
  refine lq (q_move rfl) rfl ?_
  refine lq (q_assign rfl) rfl ?_
  refine WL.nil ?_
  refine WT.frz (js := [0]) (R := []) rfl (fun Φ_3 fr3 k2 => ?_)
  replace ph0_0 := ph0_0.frame RI.lasts fr3 (Dj.empty _)
  refine WT.ret Try.func114 (resOk.one rfl) (fun w1 hw => ?_)
  cases h
  refine postG_of_St (js := [0]) hw rfl ⟨rfl, rfl, rfl, k2⟩
theorem m_s_l1Below_ok {Φ : Hp} {w : World} (hΦ : In Φ w) (N : Nat) (p0 : Tl1Cur) (p1 : Int) {pv0_0 : Value} {pG0_0 : List Nat} {pb0 : Nat} (ph0_0 : RSl (RI .u8) 1 Φ pG0_0 pv0_0 p0.b) (pp0 : Φ pb0 = some (.cells #[pv0_0, .int .i64 p0.i, .int .i64 p0.h] 149 (0, 0))) (pd0_0 : Dj pG0_0 [[pb0]].flatten) (hB : [[pb0]].flatten.Nodup) (hlt : ∀ k ∈ [[pb0]].flatten, k < w.heap.size) {r : Int × Tl1Cur} (h : m_s_l1Below N p0 p1 = some r) :
    Calls Try.prog 67 [.pointer (some ⟨pb0, 0, none⟩), .int .i64 p1].toArray w (PostG Φ w [[pb0]].flatten (fun Φ' Fs v => v = .int .i64 r.1 ∧ Fs = [[pb0]] ∧ r.2.b = p0.b ∧ Φ' pb0 = some (.cells #[pv0_0, .int .i64 r.2.i, .int .i64 r.2.h] 149 (0, 0)))) := by
  refine enter Try.func67 rfl Try.ntmps67 rfl (St.start hΦ [[pb0]] hB hlt) ?_
  have pa0_0 : Old ⟨w, [[pb0]].flatten, Φ⟩ pG0_0 := Old.mk hΦ ph0_0.kn pd0_0
  unfold m_s_l1Below at h
  refine WT.seq ?_
  refine WT.region ?_
  refine lq (q_assign rfl) rfl ?_
  refine WL.nil ?_
  refine WT.seq ?_
  refine WT.seq ?_
  refine WT.region ?_
  refine lq (q_move rfl) rfl ?_
  refine lq (q_leq rfl rfl) rfl ?_
  refine WL.nil ?_
  refine WT.cond rfl (fun c1 => ?_) (fun c1 => ?_)
  · replace h := ite_t h c1
    refine WT.seq ?_
    refine WT.region ?_
    refine lq (q_assign rfl) rfl ?_
    refine WL.nil ?_
    refine WT.ret Try.func67 (resOk.one rfl) (fun w1 hw => ?_)
    cases h
    refine postG_of_St (js := [0]) hw rfl ⟨rfl, rfl, rfl, pp0⟩
  replace h := ite_f h c1
  refine WT.skip ?_
  refine WT.seq ?_
  refine WT.seq ?_
  refine WT.region ?_
  refine lq (q_move rfl) rfl ?_
  refine lq (q_leq rfl rfl) rfl ?_
  refine WL.nil ?_
  refine WT.cond rfl (fun c2 => ?_) (fun c2 => ?_)
  · replace h := ite_t h c2
    refine WT.seq ?_
    refine WT.region ?_
    refine lq (q_move rfl) rfl ?_
    obtain ⟨x1, hx1, h⟩ := bind_some h
    refine lc (k_call (js := [0]) (R := []) Fun_114 rfl rfl (fun w1 hw ap hl => m_s_l1Byte_ok hw.fro N p0 ph0_0 pp0 (ap.o pa0_0) ap.nd hl hx1)) rfl (fun v1 Φ_1 F1 q1 => ?_)
    obtain ⟨ap1, fr1, rfl, rfl, e1, h1⟩ := q1
    replace ph0_0 := ph0_0.frame RI.lasts fr1 (ap1.o pa0_0)
    refine lq (q_move rfl) rfl ?_
    obtain ⟨x2, hx2, h⟩ := bind_some h
    refine lq (q_remV rfl rfl hx2) rfl ?_
    refine lq (q_assign rfl) rfl ?_
    refine WL.nil ?_
    refine WT.ret Try.func67 (resOk.one rfl) (fun w1 hw => ?_)
    cases h
    refine postG_of_St (js := [0]) hw rfl ⟨rfl, rfl, rfl, h1⟩
  replace h := ite_f h c2
  refine WT.skip ?_
  refine WT.seq ?_
  refine WT.region ?_
  refine lq (q_move rfl) rfl ?_
  obtain ⟨x3, hx3, h⟩ := bind_some h
  refine lc (k_call (js := [0]) (R := []) Fun_114 rfl rfl (fun w1 hw ap hl => m_s_l1Byte_ok hw.fro N p0 ph0_0 pp0 (ap.o pa0_0) ap.nd hl hx3)) rfl (fun v2 Φ_2 F2 q2 => ?_)
  obtain ⟨ap2, fr2, rfl, rfl, e2, h2⟩ := q2
  replace ph0_0 := ph0_0.frame RI.lasts fr2 (ap2.o pa0_0)
  refine lq (q_assign rfl) rfl ?_
  refine WL.nil ?_
  refine WT.seq ?_
  refine WT.region ?_
  refine lq (q_move rfl) rfl ?_
  obtain ⟨x4, hx4, h⟩ := bind_some h
  refine lc (k_call (js := [0]) (R := []) Fun_114 rfl rfl (fun w1 hw ap hl => m_s_l1Byte_ok hw.fro N (⟨p0.b, x3.2.i, x3.2.h⟩ : Tl1Cur) ph0_0 h2 (ap.o pa0_0) ap.nd hl hx4)) rfl (fun v3 Φ_3 F3 q3 => ?_)
  obtain ⟨ap3, fr3, rfl, rfl, e3, h3⟩ := q3
  replace ph0_0 := ph0_0.frame RI.lasts fr3 (ap3.o pa0_0)
  refine lq (q_assign rfl) rfl ?_
  refine WL.nil ?_
  refine WT.seq ?_
  refine WT.region ?_
  refine lq (q_move rfl) rfl ?_
  obtain ⟨x5, hx5, h⟩ := bind_some h
  refine lc (k_call (js := [0]) (R := []) Fun_114 rfl rfl (fun w1 hw ap hl => m_s_l1Byte_ok hw.fro N (⟨p0.b, x4.2.i, x4.2.h⟩ : Tl1Cur) ph0_0 h3 (ap.o pa0_0) ap.nd hl hx5)) rfl (fun v4 Φ_4 F4 q4 => ?_)
  obtain ⟨ap4, fr4, rfl, rfl, e4, h4⟩ := q4
  replace ph0_0 := ph0_0.frame RI.lasts fr4 (ap4.o pa0_0)
  refine lq (q_assign rfl) rfl ?_
  refine WL.nil ?_
  refine WT.seq ?_
  refine WT.region ?_
  refine lq (q_move rfl) rfl ?_
  refine lq (q_mul rfl rfl) rfl ?_
  refine lq (q_move rfl) rfl ?_
  refine lq (q_mul rfl rfl) rfl ?_
  refine lq (q_add rfl rfl) rfl ?_
  refine lq (q_move rfl) rfl ?_
  refine lq (q_add rfl rfl) rfl ?_
  refine lq (q_move rfl) rfl ?_
  obtain ⟨x6, hx6, h⟩ := bind_some h
  refine lq (q_remV rfl rfl hx6) rfl ?_
  refine lq (q_assign rfl) rfl ?_
  refine WL.nil ?_
  refine WT.ret Try.func67 (resOk.one rfl) (fun w1 hw => ?_)
  cases h
  refine postG_of_St (js := [0]) hw rfl ⟨rfl, rfl, rfl, h4⟩
theorem m_s_l11Match_ok {Φ : Hp} {w : World} (hΦ : In Φ w) (N : Nat) (p0 : Tl1Cur) {pv0_0 : Value} {pG0_0 : List Nat} {pb0 : Nat} (ph0_0 : RSl (RI .u8) 1 Φ pG0_0 pv0_0 p0.b) (pp0 : Φ pb0 = some (.cells #[pv0_0, .int .i64 p0.i, .int .i64 p0.h] 149 (0, 0))) (pd0_0 : Dj pG0_0 [[pb0]].flatten) (hB : [[pb0]].flatten.Nodup) (hlt : ∀ k ∈ [[pb0]].flatten, k < w.heap.size) {r : TMatch × Tl1Cur} (h : m_s_l11Match N p0 = some r) :
    Calls Try.prog 72 [.pointer (some ⟨pb0, 0, none⟩)].toArray w (PostG Φ w [[pb0]].flatten (fun Φ' Fs v => ∃ (sr_0_0 : Value) (sr_0_1 : Value), v = .agg [.int .i64 r.1.Rule, sr_0_0, sr_0_1].toArray ∧ Fs = [ob sr_0_0, ob sr_0_1, [pb0]] ∧ OSl (RI .i64) 3 1 Φ' [] sr_0_0 r.1.Ids ∧ OSl RTBind 130 4 Φ' [] sr_0_1 r.1.Binds ∧ r.2.b = p0.b ∧ Φ' pb0 = some (.cells #[pv0_0, .int .i64 r.2.i, .int .i64 r.2.h] 149 (0, 0)))) := by
  refine enter Try.func72 rfl Try.ntmps72 rfl (St.start hΦ [[pb0]] hB hlt) ?_
  have pa0_0 : Old ⟨w, [[pb0]].flatten, Φ⟩ pG0_0 := Old.mk hΦ ph0_0.kn pd0_0
  revert pa0_0
  generalize hb0 : (⟨w, [[pb0]].flatten, Φ⟩ : Base) = w0
  intro pa0_0
  unfold m_s_l11Match at h
  refine WT.seq ?_
  refine WT.region ?_
  refine ln (n_alloc (C := #[.int .i64 0, .slice none 0 0, .slice none 0 0]) Zr_32 rfl) rfl (fun b_1 => ?_)
  refine WL.nil ?_
  refine WT.seq ?_
  refine WT.region ?_
  refine lq (q_move rfl) rfl ?_
  obtain ⟨x1, hx1, h⟩ := bind_some h
  refine lc (k_call (js := [0]) (R := []) Fun_67 rfl rfl (fun w1 hw ap hl => m_s_l1Below_ok hw.fro N p0 3 ph0_0 pp0 (ap.o pa0_0) ap.nd hl hx1)) rfl (fun v1 Φ_1 F1 q1 => ?_)
  obtain ⟨ap1, fr1, rfl, rfl, e1, h1⟩ := q1
  replace ph0_0 := ph0_0.frame RI.lasts fr1 (ap1.o pa0_0)
  refine lq (q_build (vs := [(0, .int .i64 x1.1)]) (C := #[.int .i64 x1.1, .slice none 0 0, .slice none 0 0]) Pl_32 Zr_32 rfl (fill_cons (cells := [.int .i64 0, .slice none 0 0, .slice none 0 0]) (c := [.int .i64 x1.1]) (C' := [.int .i64 x1.1, .slice none 0 0, .slice none 0 0]) rfl rfl rfl rfl rfl (fill_nil))) rfl ?_
  refine ln (n_alloc (C := #[.int .i64 0, .slice none 0 0, .slice none 0 0]) Zr_32 rfl) rfl (fun b_2 => ?_)
  refine ls (s_store (i := 0) (vs := [.int .i64 x1.1, .slice none 0 0, .slice none 0 0]) (C' := [.int .i64 x1.1, .slice none 0 0, .slice none 0 0]) (O' := [(b_2, .cells #[.int .i64 x1.1, .slice none 0 0, .slice none 0 0] 32 (0, 0)), (b_1, .cells #[.int .i64 0, .slice none 0 0, .slice none 0 0] 32 (0, 0))]) Sz_32 rfl rfl rfl rfl rfl rfl ⟨rfl, rfl, rfl, trivial⟩ rfl rfl) rfl ?_
  refine WL.nil ?_
  refine WT.seq ?_
  refine WT.seq ?_
  refine WT.region ?_
  refine lq (q_move rfl) rfl ?_
  obtain ⟨x2, hx2, h⟩ := bind_some h
  refine lc (k_call (js := [0]) (R := []) Fun_67 rfl rfl (fun w1 hw ap hl => m_s_l1Below_ok hw.fro N (⟨p0.b, x1.2.i, x1.2.h⟩ : Tl1Cur) 4 ph0_0 h1 (ap.o pa0_0) ap.nd hl hx2)) rfl (fun v2 Φ_2 F2 q2 => ?_)
  obtain ⟨ap2, fr2, rfl, rfl, e2, h2⟩ := q2
  replace ph0_0 := ph0_0.frame RI.lasts fr2 (ap2.o pa0_0)
  refine lq (q_assign rfl) rfl ?_
  refine WL.nil ?_
  refine WT.block ?_
  refine WT.loop ?_
  refine WT.conv (S' := St w0 Φ_2 [(b_2, .cells #[.int .i64 x1.1, .slice none 0 0, .slice none 0 0] 32 (0, 0)), (b_1, .cells #[.int .i64 0, .slice none 0 0, .slice none 0 0] 32 (0, 0))] (ob (.slice none 0 0) :: [[pb0]])) (fun w1 hw => hw.addNil) ?_
  have k1 := OSl.nil (RI .i64) 3 1 Φ_2
  refine WT.mono (l' := [(0, .pointer (some ⟨pb0, 0, none⟩)), (2, .pointer (some ⟨b_1, 0, none⟩)), (3, .pointer (some ⟨b_2, 0, none⟩)), (4, .int .i64 x2.1)]) (S' := St w0 Φ_2 [(b_2, .cells #[.int .i64 x1.1, (.slice none 0 0), .slice none 0 0] 32 (0, 0)), (b_1, .cells #[.int .i64 0, .slice none 0 0, .slice none 0 0] 32 (0, 0))] [ob (.slice none 0 0), [pb0]]) ⟨rfl, rfl, rfl, rfl, trivial⟩ (fun w1 hw => (hw.sel (js := [0, 0]) rfl).selO (js := [0, 0]) rfl) ?_
  refine loop_ind (σ := Hp × (List Int) × Value × Int × Int × Int) (fun s => [(0, .pointer (some ⟨pb0, 0, none⟩)), (2, .pointer (some ⟨b_1, 0, none⟩)), (3, .pointer (some ⟨b_2, 0, none⟩)), (4, .int .i64 s.2.2.2.1)]) (fun s => St w0 s.1 [(b_2, .cells #[.int .i64 x1.1, s.2.2.1, .slice none 0 0] 32 (0, 0)), (b_1, .cells #[.int .i64 0, .slice none 0 0, .slice none 0 0] 32 (0, 0))] [ob s.2.2.1, [pb0]]) (fun m s => m_s_l11Match_l1 N p0 x1 m s.2.1 s.2.2.2.1 s.2.2.2.2.1 s.2.2.2.2.2 = some r ∧ (OSl (RI .i64) 3 1 s.1 [] s.2.2.1 s.2.1) ∧ (s.1 pb0 = some (.cells #[pv0_0, .int .i64 s.2.2.2.2.1, .int .i64 s.2.2.2.2.2] 149 (0, 0))) ∧ (RSl (RI .u8) 1 s.1 pG0_0 pv0_0 p0.b)) (fun s hm => none_ne (show (none : Option (TMatch × Tl1Cur)) = some r from hm.1)) (fun n1 ih1 s hm => ?_) N (Φ_2, ([] : List Int), (.slice none 0 0), x2.1, x2.2.i, x2.2.h) ⟨h, k1, h2, ph0_0⟩
  obtain ⟨Φ_3, s1, u1, s2, s3, s4⟩ := s
  obtain ⟨h, k2, k3, ph0_0⟩ := hm
  replace h : m_s_l11Match_l1 N p0 x1 (n1 + 1) s1 s2 s3 s4 = some r := h
  replace k2 : OSl (RI .i64) 3 1 Φ_3 [] u1 s1 := k2
  replace k3 : Φ_3 pb0 = some (.cells #[pv0_0, .int .i64 s3, .int .i64 s4] 149 (0, 0)) := k3
  replace ph0_0 : RSl (RI .u8) 1 Φ_3 pG0_0 pv0_0 p0.b := ph0_0
  show WT _ _ [(0, .pointer (some ⟨pb0, 0, none⟩)), (2, .pointer (some ⟨b_1, 0, none⟩)), (3, .pointer (some ⟨b_2, 0, none⟩)), (4, .int .i64 s2)] (St w0 Φ_3 [(b_2, .cells #[.int .i64 x1.1, u1, .slice none 0 0] 32 (0, 0)), (b_1, .cells #[.int .i64 0, .slice none 0 0, .slice none 0 0] 32 (0, 0))] [ob u1, [pb0]])
  unfold m_s_l11Match_l1 at h
  refine WT.seq ?_
  refine WT.seq ?_
  refine WT.region ?_
  refine lq (q_move rfl) rfl ?_
  refine lq (q_gtr rfl rfl) rfl ?_
  refine WL.nil ?_
  refine WT.cond rfl (fun c1 => ?_) (fun c1 => ?_)
  · replace h := ite_t h c1
    refine WT.skip ?_
    refine WT.seq ?_
    refine WT.block ?_
    refine WT.mix (Kn Φ_3 [] [(b_2, .cells #[.int .i64 x1.1, u1, .slice none 0 0] 32 (0, 0)), (b_1, .cells #[.int .i64 0, .slice none 0 0, .slice none 0 0] 32 (0, 0))]) (fun i => match i with | 8 => false | _ => true) mixed (fun _ h => h.drew) ?_
    refine mq 0 rfl (by kernel_rfl) (fun w1 hw => Kn.of (fun k hk _ _ => by simp at hk) (AllIn.mem ⟨List.mem_of_getElem? (i := 0) rfl, List.mem_of_getElem? (i := 1) rfl, trivial⟩) hw) (q_fieldAddr Fld_32_1 rfl) rfl ?_
    refine mq 1 rfl (by kernel_rfl) (fun w1 hw => Kn.of (fun k hk _ _ => by simp at hk) (AllIn.mem ⟨List.mem_of_getElem? (i := 0) rfl, List.mem_of_getElem? (i := 1) rfl, trivial⟩) hw) (q_load1 T1_29 rfl (fun w1 hw => hw.rgO (i := 0) rfl 1 1 [u1] rfl)) rfl ?_
    refine mq 2 rfl (by kernel_rfl) (fun w1 hw => Kn.of (fun k hk _ _ => by simp at hk) (AllIn.mem ⟨List.mem_of_getElem? (i := 0) rfl, List.mem_of_getElem? (i := 1) rfl, trivial⟩) hw) (q_move rfl) rfl ?_
    obtain ⟨x3, hx3, h⟩ := bind_some h
    refine WM.one 3 (by kernel_rfl) (mc rfl (fun _ v Φx D w1 hq hw => Kn.of (fun k hk _ _ => by simp at hk) (AllIn.mem ⟨List.mem_of_getElem? (i := 0) rfl, List.mem_of_getElem? (i := 1) rfl, trivial⟩) hw) (k_call (js := [1]) (R := [ob u1]) Fun_67 rfl rfl (fun w1 hw ap hl => m_s_l1Below_ok hw.fro N (⟨p0.b, s3, s4⟩ : Tl1Cur) 3 ph0_0 k3 (ap.o pa0_0) ap.nd hl hx3)) rfl (fun v3 Φ_4 F3 q3 => ?_))
    obtain ⟨ap3, fr3, rfl, rfl, e3, h3⟩ := q3
    replace ph0_0 := ph0_0.frame RI.lasts fr3 (ap3.o pa0_0)
    replace k2 := k2.frame RI.lasts fr3 (ap3.r (i := 0) rfl) (Dj.nil _)
    refine mq 4 rfl (by kernel_rfl) (fun w1 hw => Kn.of (fun k hk _ _ => by simp at hk) (AllIn.mem ⟨List.mem_of_getElem? (i := 0) rfl, List.mem_of_getElem? (i := 1) rfl, trivial⟩) hw) (q_add rfl rfl) rfl ?_
    have rc1 : RC (RI .i64) 1 Φ_4 ([[]] : List (List Nat)) [.int .i64 (IntKind.i64.wrap (1 + x3.1))] ([IntKind.i64.wrap (1 + x3.1)] : List Int) := RC.cons (c := [.int .i64 (IntKind.i64.wrap (1 + x3.1))]) (cells := []) ⟨rfl, rfl⟩ rfl (RC.nil _ _ _)
    refine WM.one 5 (by kernel_rfl) (me rfl (fun _ v Φx D w1 hq hw => Kn.of (fun k hk _ _ => by simp at hk) (AllIn.mem ⟨List.mem_of_getElem? (i := 0) rfl, List.mem_of_getElem? (i := 1) rfl, trivial⟩) hw) (e_lit (vs := [(0, .int .i64 (IntKind.i64.wrap (1 + x3.1)))]) (C := #[.int .i64 (IntKind.i64.wrap (1 + x3.1))]) RI.lasts Sl_29 Zr_3 rfl rfl rfl rfl (fill_made MC_3_1 (fill_cons (cells := [.int .i64 0]) (c := [.int .i64 (IntKind.i64.wrap (1 + x3.1))]) (C' := [.int .i64 (IntKind.i64.wrap (1 + x3.1))]) rfl rfl rfl rfl rfl (fill_nil))) rfl rc1 rfl (by simpa using Kw.nil)) rfl (fun v4 Φ_5 D1 q4 => ?_))
    obtain ⟨fr4, h4⟩ := q4
    replace h4 : OSl (RI .i64) 3 1 Φ_5 [] v4 ([IntKind.i64.wrap (1 + x3.1)] : List Int) := by simpa using h4
    replace ph0_0 := ph0_0.frame RI.lasts fr4 (Dj.empty _)
    replace k2 := k2.frame RI.lasts fr4 (Dj.empty _) (Dj.empty _)
    replace h3 := fr4 _ _ (by simp) h3
    obtain ⟨x4, hx4, h⟩ := bind_some h
    refine WM.one 6 (by kernel_rfl) (me rfl (fun _ v Φx D w1 hq hw => Kn.of (fun k hk _ _ => by simp at hk) (AllIn.mem ⟨List.mem_of_getElem? (i := 0) rfl, List.mem_of_getElem? (i := 1) rfl, trivial⟩) hw) (e_appF RI.lasts RI.one RI.flat Sl_29 Ei_3 rfl rfl rfl rfl rfl (js := [2]) (Rr := [ob v4, [pb0]]) rfl k2 h4.rsl hx4) rfl (fun v5 Φ_6 D2 q5 => ?_))
    obtain ⟨⟨ap4, fr5⟩, h5⟩ := q5
    replace ph0_0 := ph0_0.frame RI.lasts fr5 (ap4.o pa0_0)
    replace h3 := fr5 _ _ ((ap4.r (i := 1) rfl) _ (by simp)) h3
    refine mq 7 rfl (by kernel_rfl) (fun w1 hw => Kn.of (fun k hk _ _ => by simp at hk) (AllIn.mem ⟨List.mem_of_getElem? (i := 0) rfl, List.mem_of_getElem? (i := 1) rfl, trivial⟩) hw) (q_fieldAddr Fld_32_1 rfl) rfl ?_
    refine WM.one 8 (by kernel_rfl) (ms rfl (fun hc => by cases hc) (s_store (i := 0) (vs := [v5]) (C' := [.int .i64 x1.1, v5, .slice none 0 0]) (O' := [(b_2, .cells #[.int .i64 x1.1, v5, .slice none 0 0] 32 (0, 0)), (b_1, .cells #[.int .i64 0, .slice none 0 0, .slice none 0 0] 32 (0, 0))]) Sz_29 rfl rfl rfl (one_cells h5.one) rfl rfl ⟨h5.one, trivial⟩ rfl rfl) rfl ?_)
    refine WM.nil (by kernel_rfl) ?_
    refine WT.inBlock ?_
    refine WT.region ?_
    refine lq (q_move rfl) rfl ?_
    refine lq (q_sub rfl rfl) rfl ?_
    refine lq (q_assign rfl) rfl ?_
    refine WL.nil ?_
    refine WT.inLoop (WT.mono (l' := [(0, .pointer (some ⟨pb0, 0, none⟩)), (2, .pointer (some ⟨b_1, 0, none⟩)), (3, .pointer (some ⟨b_2, 0, none⟩)), (4, .int .i64 (IntKind.i64.wrap (s2 - 1)))]) (S' := St w0 Φ_6 [(b_2, .cells #[.int .i64 x1.1, v5, .slice none 0 0] 32 (0, 0)), (b_1, .cells #[.int .i64 0, .slice none 0 0, .slice none 0 0] 32 (0, 0))] [ob v5, [pb0]]) ⟨rfl, rfl, rfl, rfl, trivial⟩ (fun w1 hw => (hw.sel (js := [0, 1]) rfl).selO (js := [0, 0]) rfl) ?_)
    exact ih1 (Φ_6, x4, v5, IntKind.i64.wrap (s2 - 1), x3.2.i, x3.2.h) ⟨h, h5, h3, ph0_0⟩
  replace h := ite_f h c1
  refine WT.exit rfl ?_
  refine WT.seq ?_
  refine WT.region ?_
  refine lq (q_loadN Tn_32 rfl (fun w1 hw => hw.rgO (i := 0) rfl 0 3 [.int .i64 x1.1, u1, .slice none 0 0] rfl) rfl) rfl ?_
  refine ls (s_store (i := 1) (vs := [.int .i64 x1.1, u1, .slice none 0 0]) (C' := [.int .i64 x1.1, u1, .slice none 0 0]) (O' := [(b_2, .cells #[.int .i64 x1.1, u1, .slice none 0 0] 32 (0, 0)), (b_1, .cells #[.int .i64 x1.1, u1, .slice none 0 0] 32 (0, 0))]) Sz_32 rfl rfl rfl rfl rfl rfl ⟨rfl, k2.one, rfl, trivial⟩ rfl rfl) rfl ?_
  refine WL.nil ?_
  refine WT.ret Try.func72 (resOk.one (rv_cell Tn_32 rfl (fun w1 hw => hw.rgO (i := 1) rfl 0 3 [.int .i64 x1.1, u1, .slice none 0 0] rfl) rfl)) (fun w1 hw => ?_)
  subst hb0
  cases h
  replace hw := hw.addNil
  refine postG_of_St (js := [1, 0, 0]) hw rfl ⟨u1, .slice none 0 0, rfl, rfl, k2, OSl.nil _ _ _ _, rfl, k3⟩
theorem m_s_l15List_ok {Φ : Hp} {w : World} (hΦ : In Φ w) (N : Nat) (p0 : Tl1Cur) {pv0_0 : Value} {pG0_0 : List Nat} {pb0 : Nat} (ph0_0 : RSl (RI .u8) 1 Φ pG0_0 pv0_0 p0.b) (pp0 : Φ pb0 = some (.cells #[pv0_0, .int .i64 p0.i, .int .i64 p0.h] 149 (0, 0))) (pd0_0 : Dj pG0_0 [[pb0]].flatten) (hB : [[pb0]].flatten.Nodup) (hlt : ∀ k ∈ [[pb0]].flatten, k < w.heap.size) {r : (List TMatch) × Tl1Cur} (h : m_s_l15List N p0 = some r) :
    Calls Try.prog 66 [.pointer (some ⟨pb0, 0, none⟩)].toArray w (PostG Φ w [[pb0]].flatten (fun Φ' Fs v => ∃ (sr_0_0 : Value) (Dr_0_0 : List Nat), v = sr_0_0 ∧ Fs = [ob sr_0_0, Dr_0_0, [pb0]] ∧ OSl OTMatch 32 3 Φ' Dr_0_0 sr_0_0 r.1 ∧ r.2.b = p0.b ∧ Φ' pb0 = some (.cells #[pv0_0, .int .i64 r.2.i, .int .i64 r.2.h] 149 (0, 0)))) := by
  refine enter Try.func66 rfl Try.ntmps66 rfl (St.start hΦ [[pb0]] hB hlt) ?_
  have pa0_0 : Old ⟨w, [[pb0]].flatten, Φ⟩ pG0_0 := Old.mk hΦ ph0_0.kn pd0_0
  revert pa0_0
  generalize hb0 : (⟨w, [[pb0]].flatten, Φ⟩ : Base) = w0
  intro pa0_0
  unfold m_s_l15List at h
  refine WT.seq ?_
  refine WT.region ?_
  refine lq (q_assign rfl) rfl ?_
  refine WL.nil ?_
  refine WT.seq ?_
  refine WT.region ?_
  have rc1 : RC OTMatch 3 Φ ([] : List (List Nat)) [] ([] : List TMatch) := RC.nil _ _ _
  refine le' (e_lit (vs := []) (C := #[]) OTMatch.lasts Sl_24 Zr_32 rfl rfl rfl rfl (fill_made MC_32_0 (fill_nil)) rfl rc1 rfl (by simpa using Kw.nil)) rfl (fun v1 Φ_1 D1 q1 => ?_)
  obtain ⟨fr1, h1⟩ := q1
  replace h1 : OSl OTMatch 32 3 Φ_1 [] v1 ([] : List TMatch) := by simpa [List.append_assoc] using h1
  replace ph0_0 := ph0_0.frame RI.lasts fr1 (Dj.empty _)
  replace pp0 := fr1 _ _ (by simp) pp0
  refine WL.conv (S' := St w0 Φ_1 [] [[], ob v1, [pb0]]) (fun w1 hw => hw.addNil) ?_
  refine lq (q_assign rfl) rfl ?_
  refine WL.nil ?_
  refine WT.seq ?_
  refine WT.seq ?_
  refine WT.region ?_
  refine lq (q_move rfl) rfl ?_
  obtain ⟨x1, hx1, h⟩ := bind_some h
  refine lc (k_call (js := [2]) (R := [[], ob v1]) Fun_67 rfl rfl (fun w1 hw ap hl => m_s_l1Below_ok hw.fro N p0 5 ph0_0 pp0 (ap.o pa0_0) ap.nd hl hx1)) rfl (fun v2 Φ_2 F1 q2 => ?_)
  obtain ⟨ap1, fr2, rfl, rfl, e1, h2⟩ := q2
  replace ph0_0 := ph0_0.frame RI.lasts fr2 (ap1.o pa0_0)
  replace h1 := h1.frame OTMatch.lasts fr2 (ap1.r (i := 1) rfl) (Dj.nil _)
  refine lq (q_assign rfl) rfl ?_
  refine WL.nil ?_
  refine WT.block ?_
  refine WT.loop ?_
  refine WT.mono (l' := [(0, .pointer (some ⟨pb0, 0, none⟩)), (3, v1), (4, .int .i64 x1.1)]) (S' := St w0 Φ_2 [] [[pb0], [], ob v1]) ⟨rfl, rfl, rfl, trivial⟩ (fun w1 hw => (hw.sel (js := [0, 0, 0]) rfl).selO (js := []) rfl) ?_
  refine loop_ind (σ := Hp × (List TMatch) × Value × List Nat × Int × Int × Int) (fun s => [(0, .pointer (some ⟨pb0, 0, none⟩)), (3, s.2.2.1), (4, .int .i64 s.2.2.2.2.1)]) (fun s => St w0 s.1 [] [[pb0], s.2.2.2.1, ob s.2.2.1]) (fun m s => m_s_l15List_l1 N p0 m s.2.1 s.2.2.2.2.1 s.2.2.2.2.2.1 s.2.2.2.2.2.2 = some r ∧ (OSl OTMatch 32 3 s.1 s.2.2.2.1 s.2.2.1 s.2.1) ∧ (s.1 pb0 = some (.cells #[pv0_0, .int .i64 s.2.2.2.2.2.1, .int .i64 s.2.2.2.2.2.2] 149 (0, 0))) ∧ (RSl (RI .u8) 1 s.1 pG0_0 pv0_0 p0.b)) (fun s hm => none_ne (show (none : Option ((List TMatch) × Tl1Cur)) = some r from hm.1)) (fun n1 ih1 s hm => ?_) N (Φ_2, ([] : List TMatch), v1, [], x1.1, x1.2.i, x1.2.h) ⟨h, h1, h2, ph0_0⟩
  obtain ⟨Φ_3, s1, u1, D2, s2, s3, s4⟩ := s
  obtain ⟨h, k1, k2, ph0_0⟩ := hm
  replace h : m_s_l15List_l1 N p0 (n1 + 1) s1 s2 s3 s4 = some r := h
  replace k1 : OSl OTMatch 32 3 Φ_3 D2 u1 s1 := k1
  replace k2 : Φ_3 pb0 = some (.cells #[pv0_0, .int .i64 s3, .int .i64 s4] 149 (0, 0)) := k2
  replace ph0_0 : RSl (RI .u8) 1 Φ_3 pG0_0 pv0_0 p0.b := ph0_0
  show WT _ _ [(0, .pointer (some ⟨pb0, 0, none⟩)), (3, u1), (4, .int .i64 s2)] (St w0 Φ_3 [] [[pb0], D2, ob u1])
  unfold m_s_l15List_l1 at h
  refine WT.seq ?_
  refine WT.seq ?_
  refine WT.region ?_
  refine lq (q_move rfl) rfl ?_
  refine lq (q_gtr rfl rfl) rfl ?_
  refine WL.nil ?_
  refine WT.cond rfl (fun c1 => ?_) (fun c1 => ?_)
  · replace h := ite_t h c1
    refine WT.skip ?_
    refine WT.seq ?_
    refine WT.block ?_
    refine WT.region ?_
    refine lq (q_move rfl) rfl ?_
    refine lq (q_move rfl) rfl ?_
    obtain ⟨x2, hx2, h⟩ := bind_some h
    refine lc (k_call (js := [0]) (R := [D2, ob u1]) Fun_72 rfl rfl (fun w1 hw ap hl => m_s_l11Match_ok hw.fro N (⟨p0.b, s3, s4⟩ : Tl1Cur) ph0_0 k2 (ap.o pa0_0) ap.nd hl hx2)) rfl (fun v3 Φ_4 F2 q3 => ?_)
    obtain ⟨ap2, fr3, v4, v5, rfl, rfl, h3, h4, e2, h5⟩ := q3
    replace ph0_0 := ph0_0.frame RI.lasts fr3 (ap2.o pa0_0)
    replace k1 := k1.frame OTMatch.lasts fr3 (ap2.r (i := 1) rfl) (ap2.r (i := 0) rfl)
    have rc2 : RC OTMatch 3 Φ_4 ([(ob v4 ++ []) ++ ((ob v5 ++ []))] : List (List Nat)) [.int .i64 x2.1.Rule, v4, v5] ([x2.1] : List TMatch) := RC.cons (c := [.int .i64 x2.1.Rule, v4, v5]) (cells := []) ⟨v4, v5, rfl, rfl, h3, h4⟩ rfl (RC.nil _ _ _)
    refine le' (e_lit (vs := [(0, .agg [.int .i64 x2.1.Rule, v4, v5].toArray)]) (C := #[.int .i64 x2.1.Rule, v4, v5]) OTMatch.lasts Sl_24 Zr_32 rfl rfl rfl rfl (fill_made MC_32_1 (fill_cons (cells := [.int .i64 0, .slice none 0 0, .slice none 0 0]) (c := [.int .i64 x2.1.Rule, v4, v5]) (C' := [.int .i64 x2.1.Rule, v4, v5]) rfl rfl rfl rfl rfl (fill_nil))) rfl rc2 rfl (RC.kn OTMatch.knows rc2)) rfl (fun v6 Φ_5 D3 q4 => ?_)
    obtain ⟨fr4, h6⟩ := q4
    replace h6 : OSl OTMatch 32 3 Φ_5 ((ob v4 ++ []) ++ ((ob v5 ++ []))) v6 ([x2.1] : List TMatch) := by simpa [List.append_assoc] using h6
    replace ph0_0 := ph0_0.frame RI.lasts fr4 (Dj.empty _)
    replace k1 := k1.frame OTMatch.lasts fr4 (Dj.empty _) (Dj.empty _)
    replace h5 := fr4 _ _ (by simp) h5
    refine WL.conv (S' := St w0 Φ_5 [] [((ob v4 ++ []) ++ ((ob v5 ++ []))), ob v6, [pb0], D2, ob u1]) (fun w1 hw => hw.merge (js := [1, 1]) rfl (SP.eq (by simp [List.append_assoc, ob_nil]))) ?_
    obtain ⟨x3, hx3, h⟩ := bind_some h
    refine le' (e_appO OTMatch.lasts OTMatch.one Sl_24 Ei_32 rfl rfl rfl rfl rfl (js := [4]) (Rr := [((ob v4 ++ []) ++ ((ob v5 ++ []))), ob v6, [pb0], D2]) rfl k1 h6 (fun ap => (ap.r (i := 3) rfl)) (fun ap => (ap.r (i := 0) rfl)) hx3) rfl (fun v7 Φ_6 D4 q5 => ?_)
    obtain ⟨⟨ap3, fr5⟩, h7⟩ := q5
    replace ph0_0 := ph0_0.frame RI.lasts fr5 (ap3.o pa0_0)
    replace h5 := fr5 _ _ ((ap3.r (i := 2) rfl) _ (by simp)) h5
    refine WL.conv (S' := St w0 Φ_6 [] [(D2 ++ ((ob v4 ++ []) ++ ((ob v5 ++ [])))), ob v7, ob v6, [pb0]]) (fun w1 hw => hw.merge (js := [4, 1]) rfl (SP.eq (by simp))) ?_
    refine lq (q_assign rfl) rfl ?_
    refine WL.nil ?_
    refine WT.inBlock ?_
    refine WT.region ?_
    refine lq (q_move rfl) rfl ?_
    refine lq (q_sub rfl rfl) rfl ?_
    refine lq (q_assign rfl) rfl ?_
    refine WL.nil ?_
    refine WT.inLoop (WT.mono (l' := [(0, .pointer (some ⟨pb0, 0, none⟩)), (3, v7), (4, .int .i64 (IntKind.i64.wrap (s2 - 1)))]) (S' := St w0 Φ_6 [] [[pb0], (D2 ++ ((ob v4 ++ []) ++ ((ob v5 ++ [])))), ob v7]) ⟨rfl, rfl, rfl, trivial⟩ (fun w1 hw => (hw.sel (js := [3, 0, 0]) rfl).selO (js := []) rfl) ?_)
    exact ih1 (Φ_6, x3, v7, (D2 ++ ((ob v4 ++ []) ++ ((ob v5 ++ [])))), IntKind.i64.wrap (s2 - 1), x2.2.i, x2.2.h) ⟨h, h7, h5, ph0_0⟩
  replace h := ite_f h c1
  refine WT.exit rfl ?_
  refine WT.seq ?_
  refine WT.region ?_
  refine lq (q_move rfl) rfl ?_
  refine lq (q_assign rfl) rfl ?_
  refine WL.nil ?_
  refine WT.ret Try.func66 (resOk.one rfl) (fun w1 hw => ?_)
  subst hb0
  cases h
  refine postG_of_St (js := [2, 1, 0]) hw rfl ⟨u1, D2, rfl, rfl, k1, rfl, k2⟩
theorem m_s_DrawForget_ok {Φ : Hp} {w : World} (hΦ : In Φ w) (N : Nat) (p0 : (List Int)) {pv0 : Value} {pG0 : List Nat} (ph0 : RSl (RI .u8) 1 Φ pG0 pv0 p0) {r : (List TMatch) × Int} (h : m_s_DrawForget N p0 = some r) :
    Calls Try.prog 15 [pv0].toArray w (PostG Φ w [] (fun Φ' Fs v => ∃ (sr_0_0 : Value) (Dr_0_0 : List Nat), v = .tuple #[sr_0_0, .int .i64 r.2] ∧ Fs = [ob sr_0_0, Dr_0_0] ∧ OSl OTMatch 32 3 Φ' Dr_0_0 sr_0_0 r.1)) := by
  refine enter Try.func15 rfl Try.ntmps15 rfl (St.start0 hΦ) ?_
  have pa0 : Old ⟨w, [], Φ⟩ pG0 := Old.mk hΦ ph0.kn (Dj.empty _)
  unfold m_s_DrawForget at h
  refine WT.seq ?_
  refine WT.region ?_
  refine lq (q_assign rfl) rfl ?_
  refine lq (q_assign rfl) rfl ?_
  refine WL.nil ?_
  refine WT.seq ?_
  refine WT.region ?_
  refine lq (q_move rfl) rfl ?_
  obtain ⟨x1, hx1, h⟩ := bind_some h
  refine lc (k_call (js := []) (R := []) Fun_65 rfl rfl (fun w1 hw ap hl => m_s_l1New_ok hw.fro N p0 ph0  hx1)) rfl (fun v1 Φ_1 F1 q1 => ?_)
  obtain ⟨ap1, fr1, b_1, v2, G1, rfl, rfl, h1, i1, h2⟩ := q1
  refine lq (q_assign rfl) rfl ?_
  refine WL.nil ?_
  refine WT.seq ?_
  refine WT.region ?_
  refine lq (q_move rfl) rfl ?_
  obtain ⟨x2, hx2, h⟩ := bind_some h
  refine lc (k_call (js := [0]) (R := []) Fun_66 rfl rfl (fun w1 hw ap hl => m_s_l15List_ok hw.fro N x1 h1 h2 (Dj.sub (ap.o pa0) i1) ap.nd hl hx2)) rfl (fun v3 Φ_2 F2 q2 => ?_)
  obtain ⟨ap2, fr2, v4, D1, rfl, rfl, h3, e1, h4⟩ := q2
  replace h1 := h1.frame RI.lasts fr2 (Dj.sub (ap2.o pa0) i1)
  refine lq (q_move rfl) rfl ?_
  obtain ⟨x3, hx3, h⟩ := bind_some h
  refine lc (k_call (js := [2]) (R := [ob v3, D1]) Fun_67 rfl rfl (fun w1 hw ap hl => m_s_l1Below_ok hw.fro N (⟨x1.b, x2.2.i, x2.2.h⟩ : Tl1Cur) 3 h1 h4 (Dj.sub (ap.o pa0) i1) ap.nd hl hx3)) rfl (fun v5 Φ_3 F3 q3 => ?_)
  obtain ⟨ap3, fr3, rfl, rfl, e2, h5⟩ := q3
  replace h3 := h3.frame OTMatch.lasts fr3 (ap3.r (i := 0) rfl) (ap3.r (i := 1) rfl)
  refine lq (q_add rfl rfl) rfl ?_
  refine lq (q_assign rfl) rfl ?_
  refine lq (q_assign rfl) rfl ?_
  refine WL.nil ?_
  refine WT.ret Try.func15 (resOk.two rfl rfl) (fun w1 hw => ?_)
  cases h
  refine postG_of_St (js := [1, 1]) hw rfl ⟨v3, D1, rfl, rfl, h3⟩
theorem m_sl_Index_Sint_int_ok {Φ : Hp} {w : World} (hΦ : In Φ w) (N : Nat) (p0 : (List Int)) (p1 : Int) {pv0 : Value} {pG0 : List Nat} (ph0 : RSl (RI .i64) 1 Φ pG0 pv0 p0) {r : Int} (h : m_sl_Index_Sint_int N p0 p1 = some r) :
    Calls Try.prog 115 [pv0, .int .i64 p1].toArray w (Post (.int .i64 r) w) := by
  refine enter Try.func115 rfl Try.ntmps115 rfl (St.start0 hΦ) ?_
  generalize hb0 : (⟨w, [], Φ⟩ : Base) = w0
  unfold m_sl_Index_Sint_int at h
  refine WT.seq ?_
  refine WT.region ?_
  refine lq (q_assign rfl) rfl ?_
  refine WL.nil ?_
  refine WT.seq ?_
  refine WT.seq ?_
  refine WT.region ?_
  refine lq (q_move rfl) rfl ?_
  refine lq (q_lenR Sl_29 rfl rfl ph0) rfl ?_
  refine lq (q_move rfl) rfl ?_
  refine WL.nil ?_
  refine WT.block ?_
  refine WT.loop ?_
  refine WT.mono (l' := [(0, pv0), (1, .int .i64 p1), (7, .int .i64 (p0.length : Int)), (8, .int .i64 0)]) (S' := St w0 Φ [] []) ⟨rfl, rfl, rfl, rfl, trivial⟩ (fun w1 hw => (hw.sel (js := []) rfl).selO (js := []) rfl) ?_
  refine loop_ind (σ := Int) (fun s => [(0, pv0), (1, .int .i64 p1), (7, .int .i64 (p0.length : Int)), (8, .int .i64 s)]) (fun s => St w0 Φ [] []) (fun m s => m_sl_Index_Sint_int_l1 N p0 p1 m s = some r) (fun s hm => none_ne (show (none : Option (Int)) = some r from hm)) (fun n1 ih1 s hm => ?_) N (0) h
  revert hm; revert s; intro s1 hm
  have h : m_sl_Index_Sint_int_l1 N p0 p1 (n1 + 1) s1 = some r := hm
  show WT _ _ [(0, pv0), (1, .int .i64 p1), (7, .int .i64 (p0.length : Int)), (8, .int .i64 s1)] (St w0 Φ [] [])
  unfold m_sl_Index_Sint_int_l1 at h
  refine WT.seq ?_
  refine WT.region ?_
  refine lq (q_lss rfl rfl) rfl ?_
  refine WL.nil ?_
  refine WT.seq ?_
  refine WT.cond rfl (fun c1 => ?_) (fun c1 => ?_)
  · replace h := ite_t h c1
    refine WT.skip ?_
    refine WT.seq ?_
    refine WT.block ?_
    refine WT.seq ?_
    refine WT.region ?_
    refine lq (q_move rfl) rfl ?_
    refine lq (q_assign rfl) rfl ?_
    refine WL.nil ?_
    refine WT.seq ?_
    refine WT.region ?_
    refine lq (q_move rfl) rfl ?_
    refine lq (q_move rfl) rfl ?_
    refine lq (q_move rfl) rfl ?_
    obtain ⟨x1, hx1, h⟩ := bind_some h
    obtain ⟨cs1, F1, -, g1, hb1, hs1, r1⟩ := ph0.el (idx_some hx1).2.2
    obtain ⟨rfl, -⟩ := r1
    refine lq (q_indexAddr Sl_29 rfl rfl ph0 hx1) rfl ?_
    refine lq (q_load1 T1_3 rfl (fun w1 hw => (g1.of_eq 0 1 rfl rfl : rg _ _ _ [.int .i64 x1]).rangeAt hw.fro)) rfl ?_
    refine lq (q_eql rfl rfl) rfl ?_
    refine WL.nil ?_
    refine WT.cond rfl (fun c2 => ?_) (fun c2 => ?_)
    · replace h := ite_t h c2
      refine WT.seq ?_
      refine WT.region ?_
      refine lq (q_move rfl) rfl ?_
      refine lq (q_assign rfl) rfl ?_
      refine WL.nil ?_
      refine WT.ret Try.func115 (resOk.one rfl) (fun w1 hw => ?_)
      subst hb0
      cases h
      exact post_of_St hw
    replace h := ite_f h c2
    refine WT.skip ?_
    refine WT.inBlock ?_
    refine WT.region ?_
    refine lq (q_add rfl rfl) rfl ?_
    refine lq (q_move rfl) rfl ?_
    refine WL.nil ?_
    refine WT.inLoop (WT.mono (l' := [(0, pv0), (1, .int .i64 p1), (7, .int .i64 (p0.length : Int)), (8, .int .i64 (IntKind.i64.wrap (s1 + 1)))]) (S' := St w0 Φ [] []) ⟨rfl, rfl, rfl, rfl, trivial⟩ (fun w1 hw => (hw.sel (js := []) rfl).selO (js := []) rfl) ?_)
    exact ih1 (IntKind.i64.wrap (s1 + 1)) h
  replace h := ite_f h c1
  refine WT.exit rfl ?_
  refine WT.seq ?_
  refine WT.region ?_
  refine lq (q_assign rfl) rfl ?_
  refine WL.nil ?_
  refine WT.ret Try.func115 (resOk.one rfl) (fun w1 hw => ?_)
  subst hb0
  cases h
  exact post_of_St hw
theorem m_sl_Contains_Sint_int_ok {Φ : Hp} {w : World} (hΦ : In Φ w) (N : Nat) (p0 : (List Int)) (p1 : Int) {pv0 : Value} {pG0 : List Nat} (ph0 : RSl (RI .i64) 1 Φ pG0 pv0 p0) {r : Bool} (h : m_sl_Contains_Sint_int N p0 p1 = some r) :
    Calls Try.prog 68 [pv0, .int .i64 p1].toArray w (Post (.bool r) w) := by
  refine enter Try.func68 rfl Try.ntmps68 rfl (St.start0 hΦ) ?_
  unfold m_sl_Contains_Sint_int at h
  refine WT.seq ?_
  refine WT.region ?_
  refine lq (q_assign rfl) rfl ?_
  refine WL.nil ?_
  refine WT.seq ?_
  refine WT.region ?_
  refine lq (q_move rfl) rfl ?_
  refine lq (q_move rfl) rfl ?_
  obtain ⟨x1, hx1, h⟩ := bind_some h
  refine lp (p_call Fun_115 rfl (fun w1 hw => m_sl_Index_Sint_int_ok hw.fro N p0 p1 ph0 hx1)) rfl ?_
  refine lq (q_geq rfl rfl) rfl ?_
  refine lq (q_assign rfl) rfl ?_
  refine WL.nil ?_
  refine WT.ret Try.func68 (resOk.one rfl) (fun w1 hw => ?_)
  cases h
  exact post_of_St hw
theorem m_sl_Clone_Sint_int_ok {Φ : Hp} {w : World} (hΦ : In Φ w) (N : Nat) (p0 : (List Int)) {pv0 : Value} {pG0 : List Nat} (ph0 : RSl (RI .i64) 1 Φ pG0 pv0 p0) {r : (List Int)} (h : m_sl_Clone_Sint_int N p0 = some r) :
    Calls Try.prog 116 [pv0].toArray w (PostG Φ w [] (fun Φ' Fs v => ∃ (sr_0_0 : Value), v = sr_0_0 ∧ Fs = [ob sr_0_0] ∧ OSl (RI .i64) 3 1 Φ' [] sr_0_0 r)) := by
  refine enter Try.func116 rfl Try.ntmps116 rfl (St.start0 hΦ) ?_
  unfold m_sl_Clone_Sint_int at h
  refine WT.seq ?_
  refine WT.region ?_
  refine lq (q_assign rfl) rfl ?_
  refine WL.nil ?_
  refine WT.seq ?_
  refine WT.seq ?_
  rcases RSl.nilOr ph0 with ⟨hxs1, cc1, hv1⟩ | ⟨a1, cc1, hv1⟩
  · skip
    replace h : some [] = some r := by simpa [hxs1, app] using h
    refine WT.region ?_
    refine lq (q_move rfl) rfl ?_
    refine lq (q_eqNil Sl_29 (congrArg some hv1) rfl) rfl ?_
    refine WL.nil ?_
    refine WT.cond rfl (fun c => ?_) (fun c => by simp at c)
    refine WT.seq ?_
    refine WT.region ?_
    refine lq (q_assign rfl) rfl ?_
    refine WL.nil ?_
    refine WT.ret Try.func116 (resOk.one rfl) (fun w1 hw => ?_)
    cases h
    replace hw := hw.addNil
    refine postG_of_St (js := [0]) hw rfl ⟨.slice none 0 0, rfl, rfl, OSl.nil _ _ _ _⟩
  refine WT.region ?_
  refine lq (q_move rfl) rfl ?_
  refine lq (q_eqNil Sl_29 (congrArg some hv1) rfl) rfl ?_
  refine WL.nil ?_
  refine WT.cond rfl (fun c => by simp at c) (fun c => ?_)
  refine WT.skip ?_
  refine WT.seq ?_
  refine WT.region ?_
  have rc1 : RC (RI .i64) 1 Φ ([] : List (List Nat)) [] ([] : List Int) := RC.nil _ _ _
  refine le' (e_lit (vs := []) (C := #[]) RI.lasts Sl_29 Zr_3 rfl rfl rfl rfl (fill_made MC_3_0 (fill_nil)) rfl rc1 rfl (by simpa using Kw.nil)) rfl (fun v1 Φ_1 D1 q1 => ?_)
  obtain ⟨fr1, h1⟩ := q1
  replace h1 : OSl (RI .i64) 3 1 Φ_1 [] v1 ([] : List Int) := by simpa using h1
  replace ph0 := ph0.frame RI.lasts fr1 (Dj.empty _)
  refine lq (q_move rfl) rfl ?_
  obtain ⟨x1, hx1, h⟩ := bind_some h
  refine le' (e_appF RI.lasts RI.one RI.flat Sl_29 Ei_3 rfl rfl rfl rfl rfl (js := [0]) (Rr := []) rfl h1 ph0 hx1) rfl (fun v2 Φ_2 D2 q2 => ?_)
  obtain ⟨⟨ap1, fr2⟩, h2⟩ := q2
  refine lq (q_assign rfl) rfl ?_
  refine WL.nil ?_
  refine WT.ret Try.func116 (resOk.one rfl) (fun w1 hw => ?_)
  cases h
  refine postG_of_St (js := [0]) hw rfl ⟨v2, rfl, rfl, h2⟩
theorem m_sl_Clone_Si_Bind_i_Bind_ok {Φ : Hp} {w : World} (hΦ : In Φ w) (N : Nat) (p0 : (List TBind)) {pv0 : Value} {pG0 : List Nat} (ph0 : RSl RTBind 4 Φ pG0 pv0 p0) {r : (List TBind)} (h : m_sl_Clone_Si_Bind_i_Bind N p0 = some r) :
    Calls Try.prog 117 [pv0].toArray w (PostG Φ w [] (fun Φ' Fs v => ∃ (sr_0_0 : Value), v = sr_0_0 ∧ Fs = [ob sr_0_0] ∧ OSl RTBind 130 4 Φ' [] sr_0_0 r)) := by
  refine enter Try.func117 rfl Try.ntmps117 rfl (St.start0 hΦ) ?_
  unfold m_sl_Clone_Si_Bind_i_Bind at h
  refine WT.seq ?_
  refine WT.region ?_
  refine lq (q_assign rfl) rfl ?_
  refine WL.nil ?_
  refine WT.seq ?_
  refine WT.seq ?_
  rcases RSl.nilOr ph0 with ⟨hxs1, cc1, hv1⟩ | ⟨a1, cc1, hv1⟩
  · skip
    replace h : some [] = some r := by simpa [hxs1, app] using h
    refine WT.region ?_
    refine lq (q_move rfl) rfl ?_
    refine lq (q_eqNil Sl_30 (congrArg some hv1) rfl) rfl ?_
    refine WL.nil ?_
    refine WT.cond rfl (fun c => ?_) (fun c => by simp at c)
    refine WT.seq ?_
    refine WT.region ?_
    refine lq (q_assign rfl) rfl ?_
    refine WL.nil ?_
    refine WT.ret Try.func117 (resOk.one rfl) (fun w1 hw => ?_)
    cases h
    replace hw := hw.addNil
    refine postG_of_St (js := [0]) hw rfl ⟨.slice none 0 0, rfl, rfl, OSl.nil _ _ _ _⟩
  refine WT.region ?_
  refine lq (q_move rfl) rfl ?_
  refine lq (q_eqNil Sl_30 (congrArg some hv1) rfl) rfl ?_
  refine WL.nil ?_
  refine WT.cond rfl (fun c => by simp at c) (fun c => ?_)
  refine WT.skip ?_
  refine WT.seq ?_
  refine WT.region ?_
  have rc1 : RC RTBind 4 Φ ([] : List (List Nat)) [] ([] : List TBind) := RC.nil _ _ _
  refine le' (e_lit (vs := []) (C := #[]) RTBind.lasts Sl_30 Zr_130 rfl rfl rfl rfl (fill_made MC_130_0 (fill_nil)) rfl rc1 rfl (by simpa using Kw.nil)) rfl (fun v1 Φ_1 D1 q1 => ?_)
  obtain ⟨fr1, h1⟩ := q1
  replace h1 : OSl RTBind 130 4 Φ_1 [] v1 ([] : List TBind) := by simpa using h1
  replace ph0 := ph0.frame RTBind.lasts fr1 (Dj.empty _)
  refine lq (q_move rfl) rfl ?_
  obtain ⟨x1, hx1, h⟩ := bind_some h
  refine le' (e_appF RTBind.lasts RTBind.one RTBind.flat Sl_30 Ei_130 rfl rfl rfl rfl rfl (js := [0]) (Rr := []) rfl h1 ph0 hx1) rfl (fun v2 Φ_2 D2 q2 => ?_)
  obtain ⟨⟨ap1, fr2⟩, h2⟩ := q2
  refine lq (q_assign rfl) rfl ?_
  refine WL.nil ?_
  refine WT.ret Try.func117 (resOk.one rfl) (fun w1 hw => ?_)
  cases h
  refine postG_of_St (js := [0]) hw rfl ⟨v2, rfl, rfl, h2⟩
theorem m_i_copyMatch_ok {Φ : Hp} {w : World} (hΦ : In Φ w) (N : Nat) (p0 : TMatch) {pv0_0 : Value} {pG0_0 : List Nat} {pv0_1 : Value} {pG0_1 : List Nat} (ph0_0 : RSl (RI .i64) 1 Φ pG0_0 pv0_0 p0.Ids) (ph0_1 : RSl RTBind 4 Φ pG0_1 pv0_1 p0.Binds) {r : TMatch} (h : m_i_copyMatch N p0 = some r) :
    Calls Try.prog 69 [.agg [.int .i64 p0.Rule, pv0_0, pv0_1].toArray].toArray w (PostG Φ w [] (fun Φ' Fs v => ∃ (sr_0_0 : Value) (sr_0_1 : Value), v = .agg [.int .i64 r.Rule, sr_0_0, sr_0_1].toArray ∧ Fs = [ob sr_0_0, ob sr_0_1] ∧ OSl (RI .i64) 3 1 Φ' [] sr_0_0 r.Ids ∧ OSl RTBind 130 4 Φ' [] sr_0_1 r.Binds)) := by
  refine enter Try.func69 rfl Try.ntmps69 rfl (St.start0 hΦ) ?_
  have pa0_1 : Old ⟨w, [], Φ⟩ pG0_1 := Old.mk hΦ ph0_1.kn (Dj.empty _)
  unfold m_i_copyMatch at h
  refine WT.seq ?_
  refine WT.region ?_
  refine ln (n_box (C := #[.int .i64 p0.Rule, pv0_0, pv0_1]) rfl rfl) rfl (fun b_1 => ?_)
  refine ln (n_alloc (C := #[.int .i64 0, .slice none 0 0, .slice none 0 0]) Zr_32 rfl) rfl (fun b_2 => ?_)
  refine WL.nil ?_
  refine WT.seq ?_
  refine WT.mix (Kn Φ [] [(b_2, .cells #[.int .i64 0, .slice none 0 0, .slice none 0 0] 32 (0, 0)), (b_1, .cells #[.int .i64 p0.Rule, pv0_0, pv0_1] 32 (0, 0))]) (fun i => match i with | 9 => false | _ => true) mixed (fun _ h => h.drew) ?_
  refine mq 0 rfl (by kernel_rfl) (fun w1 hw => Kn.of (fun k hk _ _ => by simp at hk) (AllIn.mem ⟨List.mem_of_getElem? (i := 0) rfl, List.mem_of_getElem? (i := 1) rfl, trivial⟩) hw) (q_fieldAddr Fld_32_0 rfl) rfl ?_
  refine mq 1 rfl (by kernel_rfl) (fun w1 hw => Kn.of (fun k hk _ _ => by simp at hk) (AllIn.mem ⟨List.mem_of_getElem? (i := 0) rfl, List.mem_of_getElem? (i := 1) rfl, trivial⟩) hw) (q_load1 T1_3 rfl (fun w1 hw => hw.rgO (i := 1) rfl 0 1 [.int .i64 p0.Rule] rfl)) rfl ?_
  refine mq 2 rfl (by kernel_rfl) (fun w1 hw => Kn.of (fun k hk _ _ => by simp at hk) (AllIn.mem ⟨List.mem_of_getElem? (i := 0) rfl, List.mem_of_getElem? (i := 1) rfl, trivial⟩) hw) (q_fieldAddr Fld_32_1 rfl) rfl ?_
  refine mq 3 rfl (by kernel_rfl) (fun w1 hw => Kn.of (fun k hk _ _ => by simp at hk) (AllIn.mem ⟨List.mem_of_getElem? (i := 0) rfl, List.mem_of_getElem? (i := 1) rfl, trivial⟩) hw) (q_load1 T1_29 rfl (fun w1 hw => hw.rgO (i := 1) rfl 1 1 [pv0_0] rfl)) rfl ?_
  refine mq 5 rfl (by kernel_rfl) (fun w1 hw => Kn.of (fun k hk _ _ => by simp at hk) (AllIn.mem ⟨List.mem_of_getElem? (i := 0) rfl, List.mem_of_getElem? (i := 1) rfl, trivial⟩) hw) (q_fieldAddr Fld_32_2 rfl) rfl ?_
  refine mq 6 rfl (by kernel_rfl) (fun w1 hw => Kn.of (fun k hk _ _ => by simp at hk) (AllIn.mem ⟨List.mem_of_getElem? (i := 0) rfl, List.mem_of_getElem? (i := 1) rfl, trivial⟩) hw) (q_load1 T1_30 rfl (fun w1 hw => hw.rgO (i := 1) rfl 2 1 [pv0_1] rfl)) rfl ?_
  obtain ⟨x1, hx1, h⟩ := bind_some h
  refine WM.one 4 (by kernel_rfl) (mc rfl (fun _ v Φx D w1 hq hw => Kn.of (fun k hk _ _ => by simp at hk) (AllIn.mem ⟨List.mem_of_getElem? (i := 0) rfl, List.mem_of_getElem? (i := 1) rfl, trivial⟩) hw) (k_call (js := []) (R := []) Fun_116 rfl rfl (fun w1 hw ap hl => m_sl_Clone_Sint_int_ok hw.fro N p0.Ids ph0_0  hx1)) rfl (fun v1 Φ_1 F1 q1 => ?_))
  obtain ⟨ap1, fr1, v2, rfl, rfl, h1⟩ := q1
  replace ph0_1 := ph0_1.frame RTBind.lasts fr1 (ap1.o pa0_1)
  obtain ⟨x2, hx2, h⟩ := bind_some h
  refine WM.one 7 (by kernel_rfl) (mc rfl (fun _ v Φx D w1 hq hw => Kn.of (fun k hk _ _ => by simp at hk) (AllIn.mem ⟨List.mem_of_getElem? (i := 0) rfl, List.mem_of_getElem? (i := 1) rfl, trivial⟩) hw) (k_call (js := []) (R := [ob v1]) Fun_117 rfl rfl (fun w1 hw ap hl => m_sl_Clone_Si_Bind_i_Bind_ok hw.fro N p0.Binds ph0_1  hx2)) rfl (fun v3 Φ_2 F2 q2 => ?_))
  obtain ⟨ap2, fr2, v4, rfl, rfl, h2⟩ := q2
  replace h1 := h1.frame RI.lasts fr2 (ap2.r (i := 0) rfl) (Dj.nil _)
  refine mq 8 rfl (by kernel_rfl) (fun w1 hw => Kn.of (fun k hk _ _ => by simp at hk) (AllIn.mem ⟨List.mem_of_getElem? (i := 0) rfl, List.mem_of_getElem? (i := 1) rfl, trivial⟩) hw) (q_build (vs := [(0, .int .i64 p0.Rule), (1, v1), (2, v3)]) (C := #[.int .i64 p0.Rule, v1, v3]) Pl_32 Zr_32 rfl (fill_cons (cells := [.int .i64 0, .slice none 0 0, .slice none 0 0]) (c := [.int .i64 p0.Rule]) (C' := [.int .i64 p0.Rule, .slice none 0 0, .slice none 0 0]) rfl rfl rfl rfl rfl (fill_cons (cells := [.int .i64 p0.Rule, .slice none 0 0, .slice none 0 0]) (c := [v1]) (C' := [.int .i64 p0.Rule, v1, .slice none 0 0]) rfl (one_cells h1.one) rfl rfl rfl (fill_cons (cells := [.int .i64 p0.Rule, v1, .slice none 0 0]) (c := [v3]) (C' := [.int .i64 p0.Rule, v1, v3]) rfl (one_cells h2.one) rfl rfl rfl (fill_nil))))) rfl ?_
  refine WM.one 9 (by kernel_rfl) (ms rfl (fun hc => by cases hc) (s_store (i := 0) (vs := [.int .i64 p0.Rule, v1, v3]) (C' := [.int .i64 p0.Rule, v1, v3]) (O' := [(b_2, .cells #[.int .i64 p0.Rule, v1, v3] 32 (0, 0)), (b_1, .cells #[.int .i64 p0.Rule, pv0_0, pv0_1] 32 (0, 0))]) Sz_32 rfl rfl rfl rfl rfl rfl ⟨rfl, h1.one, h2.one, trivial⟩ rfl rfl) rfl ?_)
  refine WM.nil (by kernel_rfl) ?_
  refine WT.ret Try.func69 (resOk.one (rv_cell Tn_32 rfl (fun w1 hw => hw.rgO (i := 0) rfl 0 3 [.int .i64 p0.Rule, v1, v3] rfl) rfl)) (fun w1 hw => ?_)
  cases h
  refine postG_of_St (js := [1, 0]) hw rfl ⟨v1, v3, rfl, rfl, h1, h2⟩
theorem m_i_Forget_ok {Φ : Hp} {w : World} (hΦ : In Φ w) (N : Nat) (p0 : (List TMatch)) (p1 : Int) {pv0 : Value} {pG0 : List Nat} (ph0 : RSl RTMatch 3 Φ pG0 pv0 p0) {r : (List TMatch)} (h : m_i_Forget N p0 p1 = some r) :
    Calls Try.prog 16 [pv0, .int .i64 p1].toArray w (PostG Φ w [] (fun Φ' Fs v => ∃ (sr_0_0 : Value) (Dr_0_0 : List Nat), v = sr_0_0 ∧ Fs = [ob sr_0_0, Dr_0_0] ∧ OSl OTMatch 32 3 Φ' Dr_0_0 sr_0_0 r)) := by
  refine enter Try.func16 rfl Try.ntmps16 rfl (St.start0 hΦ) ?_
  have pa0 : Old ⟨w, [], Φ⟩ pG0 := Old.mk hΦ ph0.kn (Dj.empty _)
  revert pa0
  generalize hb0 : (⟨w, [], Φ⟩ : Base) = w0
  intro pa0
  unfold m_i_Forget at h
  refine WT.seq ?_
  refine WT.region ?_
  refine lq (q_assign rfl) rfl ?_
  refine WL.nil ?_
  refine WT.seq ?_
  refine WT.region ?_
  refine lq (q_assign rfl) rfl ?_
  refine WL.nil ?_
  refine WT.seq ?_
  refine WT.seq ?_
  refine WT.region ?_
  refine lq (q_move rfl) rfl ?_
  refine lq (q_lenR Sl_24 rfl rfl ph0) rfl ?_
  refine lq (q_move rfl) rfl ?_
  refine WL.nil ?_
  refine WT.block ?_
  refine WT.loop ?_
  refine WT.conv (S' := St w0 Φ [] (ob (.slice none 0 0) :: [])) (fun w1 hw => hw.addNil) ?_
  refine WT.conv (S' := St w0 Φ [] ([] :: [ob (.slice none 0 0)])) (fun w1 hw => hw.addNil) ?_
  have k1 := OSl.nil OTMatch 32 3 Φ
  refine WT.mono (l' := [(1, .int .i64 p1), (5, (.slice none 0 0)), (8, pv0), (9, .int .i64 (p0.length : Int)), (10, .int .i64 0)]) (S' := St w0 Φ [] [[], ob (.slice none 0 0)]) ⟨rfl, rfl, rfl, rfl, rfl, trivial⟩ (fun w1 hw => (hw.sel (js := [0, 0]) rfl).selO (js := []) rfl) ?_
  refine loop_ind (σ := Hp × (List TMatch) × Value × List Nat × Int) (fun s => [(1, .int .i64 p1), (5, s.2.2.1), (8, pv0), (9, .int .i64 (p0.length : Int)), (10, .int .i64 s.2.2.2.2)]) (fun s => St w0 s.1 [] [s.2.2.2.1, ob s.2.2.1]) (fun m s => m_i_Forget_l1 N p0 p1 m s.2.1 s.2.2.2.2 = some r ∧ (OSl OTMatch 32 3 s.1 s.2.2.2.1 s.2.2.1 s.2.1) ∧ (RSl RTMatch 3 s.1 pG0 pv0 p0)) (fun s hm => none_ne (show (none : Option ((List TMatch))) = some r from hm.1)) (fun n1 ih1 s hm => ?_) N (Φ, ([] : List TMatch), (.slice none 0 0), [], 0) ⟨h, k1, ph0⟩
  obtain ⟨Φ_1, s1, u1, D1, s2⟩ := s
  obtain ⟨h, k2, ph0⟩ := hm
  replace h : m_i_Forget_l1 N p0 p1 (n1 + 1) s1 s2 = some r := h
  replace k2 : OSl OTMatch 32 3 Φ_1 D1 u1 s1 := k2
  replace ph0 : RSl RTMatch 3 Φ_1 pG0 pv0 p0 := ph0
  show WT _ _ [(1, .int .i64 p1), (5, u1), (8, pv0), (9, .int .i64 (p0.length : Int)), (10, .int .i64 s2)] (St w0 Φ_1 [] [D1, ob u1])
  unfold m_i_Forget_l1 at h
  refine WT.seq ?_
  refine WT.region ?_
  refine lq (q_lss rfl rfl) rfl ?_
  refine WL.nil ?_
  refine WT.seq ?_
  refine WT.cond rfl (fun c1 => ?_) (fun c1 => ?_)
  · replace h := ite_t h c1
    refine WT.skip ?_
    refine WT.seq ?_
    refine WT.block ?_
    refine WT.seq ?_
    refine WT.region ?_
    obtain ⟨x1, hx1, h⟩ := bind_some h
    obtain ⟨cs1, F1, -, g1, hb1, hs1, r1⟩ := ph0.el (idx_some hx1).2.2
    obtain ⟨v1, G1, v2, G2, rfl, rfl, h1, h2⟩ := r1
    refine lq (q_indexAddr Sl_24 rfl rfl ph0 hx1) rfl ?_
    refine lq (q_loadN Tn_32 rfl (fun w1 hw => (g1.of_eq 0 3 rfl rfl : rg _ _ _ [.int .i64 x1.Rule, v1, v2]).rangeAt hw.fro) rfl) rfl ?_
    refine ln (n_alloc (C := #[.int .i64 0, .slice none 0 0, .slice none 0 0]) Zr_32 rfl) rfl (fun b_1 => ?_)
    refine ls (s_store (i := 0) (vs := [.int .i64 x1.Rule, v1, v2]) (C' := [.int .i64 x1.Rule, v1, v2]) (O' := [(b_1, .cells #[.int .i64 x1.Rule, v1, v2] 32 (0, 0))]) Sz_32 rfl rfl rfl rfl rfl rfl ⟨rfl, h1.one, h2.one, trivial⟩ rfl rfl) rfl ?_
    refine WL.nil ?_
    refine WT.seq ?_
    refine WT.region ?_
    refine lq (q_fieldAddr Fld_32_1 rfl) rfl ?_
    refine lq (q_load1 T1_29 rfl (fun w1 hw => hw.rgO (i := 0) rfl 1 1 [v1] rfl)) rfl ?_
    refine lq (q_move rfl) rfl ?_
    obtain ⟨x2, hx2, h⟩ := bind_some h
    refine lp (p_call Fun_68 rfl (fun w1 hw => m_sl_Contains_Sint_int_ok hw.fro N x1.Ids p1 h1 hx2)) rfl ?_
    refine lq (q_not rfl) rfl ?_
    refine WL.nil ?_
    refine WT.cond rfl (fun c2 => ?_) (fun c2 => ?_)
    · replace h := ite_t h c2
      refine WT.region ?_
      refine lq (q_move rfl) rfl ?_
      refine lq (q_loadN Tn_32 rfl (fun w1 hw => hw.rgO (i := 0) rfl 0 3 [.int .i64 x1.Rule, v1, v2] rfl) rfl) rfl ?_
      obtain ⟨x3, hx3, h⟩ := bind_some h
      refine lc (k_call (js := []) (R := [D1, ob u1]) Fun_69 rfl rfl (fun w1 hw ap hl => m_i_copyMatch_ok hw.fro N x1 h1 h2  hx3)) rfl (fun v3 Φ_2 F2 q1 => ?_)
      obtain ⟨ap1, fr1, v4, v5, rfl, rfl, h3, h4⟩ := q1
      replace ph0 := ph0.frame RTMatch.lasts fr1 (ap1.o pa0)
      replace k2 := k2.frame OTMatch.lasts fr1 (ap1.r (i := 1) rfl) (ap1.r (i := 0) rfl)
      have rc1 : RC OTMatch 3 Φ_2 ([(ob v4 ++ []) ++ ((ob v5 ++ []))] : List (List Nat)) [.int .i64 x3.Rule, v4, v5] ([x3] : List TMatch) := RC.cons (c := [.int .i64 x3.Rule, v4, v5]) (cells := []) ⟨v4, v5, rfl, rfl, h3, h4⟩ rfl (RC.nil _ _ _)
      refine le' (e_lit (vs := [(0, .agg [.int .i64 x3.Rule, v4, v5].toArray)]) (C := #[.int .i64 x3.Rule, v4, v5]) OTMatch.lasts Sl_24 Zr_32 rfl rfl rfl rfl (fill_made MC_32_1 (fill_cons (cells := [.int .i64 0, .slice none 0 0, .slice none 0 0]) (c := [.int .i64 x3.Rule, v4, v5]) (C' := [.int .i64 x3.Rule, v4, v5]) rfl rfl rfl rfl rfl (fill_nil))) rfl rc1 rfl (RC.kn OTMatch.knows rc1)) rfl (fun v6 Φ_3 D2 q2 => ?_)
      obtain ⟨fr2, h5⟩ := q2
      replace h5 : OSl OTMatch 32 3 Φ_3 ((ob v4 ++ []) ++ ((ob v5 ++ []))) v6 ([x3] : List TMatch) := by simpa [List.append_assoc] using h5
      replace ph0 := ph0.frame RTMatch.lasts fr2 (Dj.empty _)
      replace k2 := k2.frame OTMatch.lasts fr2 (Dj.empty _) (Dj.empty _)
      refine WL.conv (S' := St w0 Φ_3 [(b_1, .cells #[.int .i64 x1.Rule, v1, v2] 32 (0, 0))] [((ob v4 ++ []) ++ ((ob v5 ++ []))), ob v6, D1, ob u1]) (fun w1 hw => hw.merge (js := [1, 1]) rfl (SP.eq (by simp [List.append_assoc, ob_nil]))) ?_
      obtain ⟨x4, hx4, h⟩ := bind_some h
      refine le' (e_appO OTMatch.lasts OTMatch.one Sl_24 Ei_32 rfl rfl rfl rfl rfl (js := [3]) (Rr := [((ob v4 ++ []) ++ ((ob v5 ++ []))), ob v6, D1]) rfl k2 h5 (fun ap => (ap.r (i := 2) rfl)) (fun ap => (ap.r (i := 0) rfl)) hx4) rfl (fun v7 Φ_4 D3 q3 => ?_)
      obtain ⟨⟨ap2, fr3⟩, h6⟩ := q3
      replace ph0 := ph0.frame RTMatch.lasts fr3 (ap2.o pa0)
      refine WL.conv (S' := St w0 Φ_4 [(b_1, .cells #[.int .i64 x1.Rule, v1, v2] 32 (0, 0))] [(D1 ++ ((ob v4 ++ []) ++ ((ob v5 ++ [])))), ob v7, ob v6]) (fun w1 hw => hw.merge (js := [3, 1]) rfl (SP.eq (by simp))) ?_
      refine lq (q_assign rfl) rfl ?_
      refine WL.nil ?_
      refine WT.inBlock ?_
      refine WT.region ?_
      refine lq (q_add rfl rfl) rfl ?_
      refine lq (q_move rfl) rfl ?_
      refine WL.nil ?_
      refine WT.inLoop (WT.mono (l' := [(1, .int .i64 p1), (5, v7), (8, pv0), (9, .int .i64 (p0.length : Int)), (10, .int .i64 (IntKind.i64.wrap (s2 + 1)))]) (S' := St w0 Φ_4 [] [(D1 ++ ((ob v4 ++ []) ++ ((ob v5 ++ [])))), ob v7]) ⟨rfl, rfl, rfl, rfl, rfl, trivial⟩ (fun w1 hw => (hw.sel (js := [0, 0]) rfl).selO (js := []) rfl) ?_)
      exact ih1 (Φ_4, x4, v7, (D1 ++ ((ob v4 ++ []) ++ ((ob v5 ++ [])))), IntKind.i64.wrap (s2 + 1)) ⟨h, h6, ph0⟩
    replace h := ite_f h c2
    refine WT.skip ?_
    refine WT.inBlock ?_
    refine WT.region ?_
    refine lq (q_add rfl rfl) rfl ?_
    refine lq (q_move rfl) rfl ?_
    refine WL.nil ?_
    refine WT.inLoop (WT.mono (l' := [(1, .int .i64 p1), (5, u1), (8, pv0), (9, .int .i64 (p0.length : Int)), (10, .int .i64 (IntKind.i64.wrap (s2 + 1)))]) (S' := St w0 Φ_1 [] [D1, ob u1]) ⟨rfl, rfl, rfl, rfl, rfl, trivial⟩ (fun w1 hw => (hw.sel (js := [0, 0]) rfl).selO (js := []) rfl) ?_)
    exact ih1 (Φ_1, s1, u1, D1, IntKind.i64.wrap (s2 + 1)) ⟨h, k2, ph0⟩
  replace h := ite_f h c1
  refine WT.exit rfl ?_
  refine WT.seq ?_
  refine WT.region ?_
  refine lq (q_move rfl) rfl ?_
  refine lq (q_assign rfl) rfl ?_
  refine WL.nil ?_
  refine WT.ret Try.func16 (resOk.one rfl) (fun w1 hw => ?_)
  subst hb0
  cases h
  refine postG_of_St (js := [1, 0]) hw rfl ⟨u1, D1, rfl, rfl, k2⟩
theorem m_l_has_ok {Φ : Hp} {w : World} (hΦ : In Φ w) (N : Nat) (p0 : (List Int)) (p1 : Int) {pv0 : Value} {pG0 : List Nat} (ph0 : RSl (RI .i64) 1 Φ pG0 pv0 p0) {r : Bool} (h : m_l_has N p0 p1 = some r) :
    Calls Try.prog 17 [pv0, .int .i64 p1].toArray w (Post (.bool r) w) := by
  refine enter Try.func17 rfl Try.ntmps17 rfl (St.start0 hΦ) ?_
  generalize hb0 : (⟨w, [], Φ⟩ : Base) = w0
  unfold m_l_has at h
  refine WT.seq ?_
  refine WT.region ?_
  refine lq (q_assign rfl) rfl ?_
  refine WL.nil ?_
  refine WT.seq ?_
  refine WT.seq ?_
  refine WT.region ?_
  refine lq (q_assign rfl) rfl ?_
  refine WL.nil ?_
  refine WT.block ?_
  refine WT.loop ?_
  refine WT.mono (l' := [(0, pv0), (1, .int .i64 p1), (5, .int .i64 0)]) (S' := St w0 Φ [] []) ⟨rfl, rfl, rfl, trivial⟩ (fun w1 hw => (hw.sel (js := []) rfl).selO (js := []) rfl) ?_
  refine loop_ind (σ := Int) (fun s => [(0, pv0), (1, .int .i64 p1), (5, .int .i64 s)]) (fun s => St w0 Φ [] []) (fun m s => m_l_has_l1 N p0 p1 m s = some r) (fun s hm => none_ne (show (none : Option (Bool)) = some r from hm)) (fun n1 ih1 s hm => ?_) N (0) h
  revert hm; revert s; intro s1 hm
  have h : m_l_has_l1 N p0 p1 (n1 + 1) s1 = some r := hm
  show WT _ _ [(0, pv0), (1, .int .i64 p1), (5, .int .i64 s1)] (St w0 Φ [] [])
  unfold m_l_has_l1 at h
  refine WT.seq ?_
  refine WT.seq ?_
  refine WT.region ?_
  refine lq (q_move rfl) rfl ?_
  refine lq (q_move rfl) rfl ?_
  refine lq (q_lenR Sl_29 rfl rfl ph0) rfl ?_
  refine lq (q_lss rfl rfl) rfl ?_
  refine WL.nil ?_
  refine WT.cond rfl (fun c1 => ?_) (fun c1 => ?_)
  · replace h := ite_t h c1
    refine WT.skip ?_
    refine WT.seq ?_
    refine WT.block ?_
    refine WT.seq ?_
    refine WT.region ?_
    refine lq (q_move rfl) rfl ?_
    refine lq (q_move rfl) rfl ?_
    obtain ⟨x1, hx1, h⟩ := bind_some h
    obtain ⟨cs1, F1, -, g1, hb1, hs1, r1⟩ := ph0.el (idx_some hx1).2.2
    obtain ⟨rfl, -⟩ := r1
    refine lq (q_indexAddr Sl_29 rfl rfl ph0 hx1) rfl ?_
    refine lq (q_load1 T1_3 rfl (fun w1 hw => (g1.of_eq 0 1 rfl rfl : rg _ _ _ [.int .i64 x1]).rangeAt hw.fro)) rfl ?_
    refine lq (q_move rfl) rfl ?_
    refine lq (q_eql rfl rfl) rfl ?_
    refine WL.nil ?_
    refine WT.cond rfl (fun c2 => ?_) (fun c2 => ?_)
    · replace h := ite_t h c2
      refine WT.seq ?_
      refine WT.region ?_
      refine lq (q_assign rfl) rfl ?_
      refine WL.nil ?_
      refine WT.ret Try.func17 (resOk.one rfl) (fun w1 hw => ?_)
      subst hb0
      cases h
      exact post_of_St hw
    replace h := ite_f h c2
    refine WT.skip ?_
    refine WT.inBlock ?_
    refine WT.region ?_
    refine lq (q_move rfl) rfl ?_
    refine lq (q_add rfl rfl) rfl ?_
    refine lq (q_assign rfl) rfl ?_
    refine WL.nil ?_
    refine WT.inLoop (WT.mono (l' := [(0, pv0), (1, .int .i64 p1), (5, .int .i64 (IntKind.i64.wrap (s1 + 1)))]) (S' := St w0 Φ [] []) ⟨rfl, rfl, rfl, trivial⟩ (fun w1 hw => (hw.sel (js := []) rfl).selO (js := []) rfl) ?_)
    exact ih1 (IntKind.i64.wrap (s1 + 1)) h
  replace h := ite_f h c1
  refine WT.exit rfl ?_
  refine WT.seq ?_
  refine WT.region ?_
  refine lq (q_assign rfl) rfl ?_
  refine WL.nil ?_
  refine WT.ret Try.func17 (resOk.one rfl) (fun w1 hw => ?_)
  subst hb0
  cases h
  exact post_of_St hw
theorem m_sl_Equal_Sint_int_ok {Φ : Hp} {w : World} (hΦ : In Φ w) (N : Nat) (p0 : (List Int)) (p1 : (List Int)) {pv0 : Value} {pG0 : List Nat} {pv1 : Value} {pG1 : List Nat} (ph0 : RSl (RI .i64) 1 Φ pG0 pv0 p0) (ph1 : RSl (RI .i64) 1 Φ pG1 pv1 p1) {r : Bool} (h : m_sl_Equal_Sint_int N p0 p1 = some r) :
    Calls Try.prog 70 [pv0, pv1].toArray w (Post (.bool r) w) := by
  refine enter Try.func70 rfl Try.ntmps70 rfl (St.start0 hΦ) ?_
  generalize hb0 : (⟨w, [], Φ⟩ : Base) = w0
  unfold m_sl_Equal_Sint_int at h
  refine WT.seq ?_
  refine WT.region ?_
  refine lq (q_assign rfl) rfl ?_
  refine WL.nil ?_
  refine WT.seq ?_
  refine WT.seq ?_
  refine WT.region ?_
  refine lq (q_move rfl) rfl ?_
  refine lq (q_lenR Sl_29 rfl rfl ph0) rfl ?_
  refine lq (q_move rfl) rfl ?_
  refine lq (q_lenR Sl_29 rfl rfl ph1) rfl ?_
  refine lq (q_neq rfl rfl) rfl ?_
  refine WL.nil ?_
  refine WT.cond rfl (fun c1 => ?_) (fun c1 => ?_)
  · replace h := ite_t h c1
    refine WT.seq ?_
    refine WT.region ?_
    refine lq (q_assign rfl) rfl ?_
    refine WL.nil ?_
    refine WT.ret Try.func70 (resOk.one rfl) (fun w1 hw => ?_)
    subst hb0
    cases h
    exact post_of_St hw
  replace h := ite_f h c1
  refine WT.skip ?_
  refine WT.seq ?_
  refine WT.seq ?_
  refine WT.region ?_
  refine lq (q_move rfl) rfl ?_
  refine lq (q_lenR Sl_29 rfl rfl ph0) rfl ?_
  refine lq (q_move rfl) rfl ?_
  refine WL.nil ?_
  refine WT.block ?_
  refine WT.loop ?_
  refine WT.mono (l' := [(0, pv0), (1, pv1), (12, .int .i64 (p0.length : Int)), (13, .int .i64 0)]) (S' := St w0 Φ [] []) ⟨rfl, rfl, rfl, rfl, trivial⟩ (fun w1 hw => (hw.sel (js := []) rfl).selO (js := []) rfl) ?_
  refine loop_ind (σ := Int) (fun s => [(0, pv0), (1, pv1), (12, .int .i64 (p0.length : Int)), (13, .int .i64 s)]) (fun s => St w0 Φ [] []) (fun m s => m_sl_Equal_Sint_int_l1 N p0 p1 m s = some r) (fun s hm => none_ne (show (none : Option (Bool)) = some r from hm)) (fun n1 ih1 s hm => ?_) N (0) h
  revert hm; revert s; intro s1 hm
  have h : m_sl_Equal_Sint_int_l1 N p0 p1 (n1 + 1) s1 = some r := hm
  show WT _ _ [(0, pv0), (1, pv1), (12, .int .i64 (p0.length : Int)), (13, .int .i64 s1)] (St w0 Φ [] [])
  unfold m_sl_Equal_Sint_int_l1 at h
  refine WT.seq ?_
  refine WT.region ?_
  refine lq (q_lss rfl rfl) rfl ?_
  refine WL.nil ?_
  refine WT.seq ?_
  refine WT.cond rfl (fun c2 => ?_) (fun c2 => ?_)
  · replace h := ite_t h c2
    refine WT.skip ?_
    refine WT.seq ?_
    refine WT.block ?_
    refine WT.seq ?_
    refine WT.region ?_
    refine lq (q_move rfl) rfl ?_
    refine lq (q_assign rfl) rfl ?_
    refine WL.nil ?_
    refine WT.seq ?_
    refine WT.draw mixed (by kernel_rfl) (fun _ h => h.drew) ?_
    refine qq (q_move rfl) rfl ?_
    refine qq (q_move rfl) rfl ?_
    obtain ⟨x1, hx1, h⟩ := bind_some h
    obtain ⟨cs1, F1, -, g1, hb1, hs1, r1⟩ := ph0.el (idx_some hx1).2.2
    obtain ⟨rfl, -⟩ := r1
    refine qq (q_indexAddr Sl_29 rfl rfl ph0 hx1) rfl ?_
    refine qq (q_load1 T1_3 rfl (fun w1 hw => (g1.of_eq 0 1 rfl rfl : rg _ _ _ [.int .i64 x1]).rangeAt hw.fro)) rfl ?_
    refine qq (q_move rfl) rfl ?_
    refine qq (q_move rfl) rfl ?_
    obtain ⟨x2, hx2, h⟩ := bind_some h
    obtain ⟨cs2, F2, -, g2, hb2, hs2, r2⟩ := ph1.el (idx_some hx2).2.2
    obtain ⟨rfl, -⟩ := r2
    refine qq (q_indexAddr Sl_29 rfl rfl ph1 hx2) rfl ?_
    refine qq (q_load1 T1_3 rfl (fun w1 hw => (g2.of_eq 0 1 rfl rfl : rg _ _ _ [.int .i64 x2]).rangeAt hw.fro)) rfl ?_
    refine qq (q_neq rfl rfl) rfl ?_
    refine WQ.nil ?_
    refine WT.cond rfl (fun c3 => ?_) (fun c3 => ?_)
    · replace h := ite_t h c3
      refine WT.seq ?_
      refine WT.region ?_
      refine lq (q_assign rfl) rfl ?_
      refine WL.nil ?_
      refine WT.ret Try.func70 (resOk.one rfl) (fun w1 hw => ?_)
      subst hb0
      cases h
      exact post_of_St hw
    replace h := ite_f h c3
    refine WT.skip ?_
    refine WT.inBlock ?_
    refine WT.region ?_
    refine lq (q_add rfl rfl) rfl ?_
    refine lq (q_move rfl) rfl ?_
    refine WL.nil ?_
    refine WT.inLoop (WT.mono (l' := [(0, pv0), (1, pv1), (12, .int .i64 (p0.length : Int)), (13, .int .i64 (IntKind.i64.wrap (s1 + 1)))]) (S' := St w0 Φ [] []) ⟨rfl, rfl, rfl, rfl, trivial⟩ (fun w1 hw => (hw.sel (js := []) rfl).selO (js := []) rfl) ?_)
    exact ih1 (IntKind.i64.wrap (s1 + 1)) h
  replace h := ite_f h c2
  refine WT.exit rfl ?_
  refine WT.seq ?_
  refine WT.region ?_
  refine lq (q_assign rfl) rfl ?_
  refine WL.nil ?_
  refine WT.ret Try.func70 (resOk.one rfl) (fun w1 hw => ?_)
  subst hb0
  cases h
  exact post_of_St hw
theorem m_i_SameMatch_ok {Φ : Hp} {w : World} (hΦ : In Φ w) (N : Nat) (p0 : TMatch) (p1 : TMatch) {pv0_0 : Value} {pG0_0 : List Nat} {pv0_1 : Value} {pG0_1 : List Nat} {pv1_0 : Value} {pG1_0 : List Nat} {pv1_1 : Value} {pG1_1 : List Nat} (ph0_0 : RSl (RI .i64) 1 Φ pG0_0 pv0_0 p0.Ids) (ph0_1 : RSl RTBind 4 Φ pG0_1 pv0_1 p0.Binds) (ph1_0 : RSl (RI .i64) 1 Φ pG1_0 pv1_0 p1.Ids) (ph1_1 : RSl RTBind 4 Φ pG1_1 pv1_1 p1.Binds) {r : Bool} (h : m_i_SameMatch N p0 p1 = some r) :
    Calls Try.prog 18 [.agg [.int .i64 p0.Rule, pv0_0, pv0_1].toArray, .agg [.int .i64 p1.Rule, pv1_0, pv1_1].toArray].toArray w (Post (.bool r) w) := by
  refine enter Try.func18 rfl Try.ntmps18 rfl (St.start0 hΦ) ?_
  unfold m_i_SameMatch at h
  refine WT.seq ?_
  refine WT.region ?_
  refine ln (n_box (C := #[.int .i64 p0.Rule, pv0_0, pv0_1]) rfl rfl) rfl (fun b_1 => ?_)
  refine ln (n_box (C := #[.int .i64 p1.Rule, pv1_0, pv1_1]) rfl rfl) rfl (fun b_2 => ?_)
  refine lq (q_assign rfl) rfl ?_
  refine WL.nil ?_
  refine WT.seq ?_
  refine WT.region ?_
  refine lq (q_fieldAddr Fld_32_0 rfl) rfl ?_
  refine lq (q_load1 T1_3 rfl (fun w1 hw => hw.rgO (i := 1) rfl 0 1 [.int .i64 p0.Rule] rfl)) rfl ?_
  refine lq (q_fieldAddr Fld_32_0 rfl) rfl ?_
  refine lq (q_load1 T1_3 rfl (fun w1 hw => hw.rgO (i := 0) rfl 0 1 [.int .i64 p1.Rule] rfl)) rfl ?_
  refine lq (q_eql rfl rfl) rfl ?_
  refine lq (q_move rfl) rfl ?_
  obtain ⟨b1, hb_1, h⟩ := bind_some h
  refine WL.cutN 6 [(16, .bool b1), (4, .bool false)] ?_ (fun K => ?_)
  rotate_left
  · refine WL.split (d := 10) rfl (fun c1 => ?_) (fun c1 => ?_)
    · replace hb_1 := ite_t hb_1 c1
      refine WL.yes rfl rfl ?_
      refine lq (q_fieldAddr Fld_32_1 rfl) rfl ?_
      refine WL.yes rfl rfl ?_
      refine lq (q_load1 T1_29 rfl (fun w1 hw => hw.rgO (i := 1) rfl 1 1 [pv0_0] rfl)) rfl ?_
      refine WL.yes rfl rfl ?_
      refine lq (q_fieldAddr Fld_32_1 rfl) rfl ?_
      refine WL.yes rfl rfl ?_
      refine lq (q_load1 T1_29 rfl (fun w1 hw => hw.rgO (i := 0) rfl 1 1 [pv1_0] rfl)) rfl ?_
      refine WL.yes rfl rfl ?_
      obtain ⟨x1, hx1, hb_1⟩ := bind_some hb_1
      refine lp (p_call Fun_70 rfl (fun w1 hw => m_sl_Equal_Sint_int_ok hw.fro N p0.Ids p1.Ids ph0_0 ph1_0 hx1)) rfl ?_
      refine WL.q (q_pick1 rfl rfl) rfl rfl rfl ?_
      cases hb_1
      exact WL.keep (by exact ⟨rfl, rfl, trivial⟩) K
    · replace hb_1 := ite_f hb_1 c1
      refine WL.no rfl rfl rfl rfl ?_
      refine WL.no rfl rfl rfl rfl ?_
      refine WL.no rfl rfl rfl rfl ?_
      refine WL.no rfl rfl rfl rfl ?_
      refine WL.no rfl rfl rfl rfl ?_
      refine WL.q (q_pick0 rfl rfl) rfl rfl rfl ?_
      cases hb_1
      exact WL.keep (by exact ⟨rfl, rfl, trivial⟩) K
  refine lq (q_assign rfl) rfl ?_
  refine WL.nil ?_
  refine WT.ret Try.func18 (resOk.one rfl) (fun w1 hw => ?_)
  cases h
  exact post_of_St hw
theorem m_s_l1Once_ok {Φ : Hp} {w : World} (hΦ : In Φ w) (N : Nat) (p0 : Tl1Cur) (p1 : Int) {pv0_0 : Value} {pG0_0 : List Nat} {pb0 : Nat} (ph0_0 : RSl (RI .u8) 1 Φ pG0_0 pv0_0 p0.b) (pp0 : Φ pb0 = some (.cells #[pv0_0, .int .i64 p0.i, .int .i64 p0.h] 149 (0, 0))) (pd0_0 : Dj pG0_0 [[pb0]].flatten) (hB : [[pb0]].flatten.Nodup) (hlt : ∀ k ∈ [[pb0]].flatten, k < w.heap.size) {r : Bool × Tl1Cur} (h : m_s_l1Once N p0 p1 = some r) :
    Calls Try.prog 71 [.pointer (some ⟨pb0, 0, none⟩), .int .i64 p1].toArray w (PostG Φ w [[pb0]].flatten (fun Φ' Fs v => v = .bool r.1 ∧ Fs = [[pb0]] ∧ r.2.b = p0.b ∧ Φ' pb0 = some (.cells #[pv0_0, .int .i64 r.2.i, .int .i64 r.2.h] 149 (0, 0)))) := by
  refine enter Try.func71 rfl Try.ntmps71 rfl (St.start hΦ [[pb0]] hB hlt) ?_
  have pa0_0 : Old ⟨w, [[pb0]].flatten, Φ⟩ pG0_0 := Old.mk hΦ ph0_0.kn pd0_0
  unfold m_s_l1Once at h
  refine WT.seq ?_
  refine WT.region ?_
  refine lq (q_assign rfl) rfl ?_
  refine WL.nil ?_
  refine WT.seq ?_
  refine WT.region ?_
  refine lq (q_move rfl) rfl ?_
  refine lq (q_move rfl) rfl ?_
  obtain ⟨x1, hx1, h⟩ := bind_some h
  refine lc (k_call (js := [0]) (R := []) Fun_67 rfl rfl (fun w1 hw ap hl => m_s_l1Below_ok hw.fro N p0 p1 ph0_0 pp0 (ap.o pa0_0) ap.nd hl hx1)) rfl (fun v1 Φ_1 F1 q1 => ?_)
  obtain ⟨ap1, fr1, rfl, rfl, e1, h1⟩ := q1
  replace ph0_0 := ph0_0.frame RI.lasts fr1 (ap1.o pa0_0)
  refine lq (q_eql rfl rfl) rfl ?_
  refine lq (q_assign rfl) rfl ?_
  refine WL.nil ?_
  refine WT.ret Try.func71 (resOk.one rfl) (fun w1 hw => ?_)
  cases h
  refine postG_of_St (js := [0]) hw rfl ⟨rfl, rfl, rfl, h1⟩
theorem m_s_DrawFiredHas_ok {Φ : Hp} {w : World} (hΦ : In Φ w) (N : Nat) (p0 : (List Int)) {pv0 : Value} {pG0 : List Nat} (ph0 : RSl (RI .u8) 1 Φ pG0 pv0 p0) {r : (List TMatch) × TMatch} (h : m_s_DrawFiredHas N p0 = some r) :
    Calls Try.prog 19 [pv0].toArray w (PostG Φ w [] (fun Φ' Fs v => ∃ (sr_0_0 : Value) (Gr_0_0 : List Nat) (sr_1_0 : Value) (Gr_1_0 : List Nat) (sr_1_1 : Value) (Gr_1_1 : List Nat) (X : List Nat), v = .tuple #[sr_0_0, .agg [.int .i64 r.2.Rule, sr_1_0, sr_1_1].toArray] ∧ Fs = [X] ∧ RSl RTMatch 3 Φ' Gr_0_0 sr_0_0 r.1 ∧ (∀ k ∈ Gr_0_0, k ∈ X) ∧ RSl (RI .i64) 1 Φ' Gr_1_0 sr_1_0 r.2.Ids ∧ (∀ k ∈ Gr_1_0, k ∈ X) ∧ RSl RTBind 4 Φ' Gr_1_1 sr_1_1 r.2.Binds ∧ (∀ k ∈ Gr_1_1, k ∈ X))) := by
  refine enter Try.func19 rfl Try.ntmps19 rfl (St.start0 hΦ) ?_
  have pa0 : Old ⟨w, [], Φ⟩ pG0 := Old.mk hΦ ph0.kn (Dj.empty _)
  revert pa0
  generalize hb0 : (⟨w, [], Φ⟩ : Base) = w0
  intro pa0
  unfold m_s_DrawFiredHas at h
  refine WT.seq ?_
  refine WT.region ?_
  refine lq (q_assign rfl) rfl ?_
  refine ln (n_alloc (C := #[.int .i64 0, .slice none 0 0, .slice none 0 0]) Zr_32 rfl) rfl (fun b_1 => ?_)
  refine WL.nil ?_
  refine WT.seq ?_
  refine WT.region ?_
  refine lq (q_move rfl) rfl ?_
  obtain ⟨x1, hx1, h⟩ := bind_some h
  refine lc (k_call (js := []) (R := []) Fun_65 rfl rfl (fun w1 hw ap hl => m_s_l1New_ok hw.fro N p0 ph0  hx1)) rfl (fun v1 Φ_1 F1 q1 => ?_)
  obtain ⟨ap1, fr1, b_2, v2, G1, rfl, rfl, h1, i1, h2⟩ := q1
  refine lq (q_assign rfl) rfl ?_
  refine WL.nil ?_
  refine WT.seq ?_
  refine WT.region ?_
  refine lq (q_move rfl) rfl ?_
  obtain ⟨x2, hx2, h⟩ := bind_some h
  refine lc (k_call (js := [0]) (R := []) Fun_66 rfl rfl (fun w1 hw ap hl => m_s_l15List_ok hw.fro N x1 h1 h2 (Dj.sub (ap.o pa0) i1) ap.nd hl hx2)) rfl (fun v3 Φ_2 F2 q2 => ?_)
  obtain ⟨ap2, fr2, v4, D1, rfl, rfl, h3, e1, h4⟩ := q2
  replace h1 := h1.frame RI.lasts fr2 (Dj.sub (ap2.o pa0) i1)
  refine lq (q_assign rfl) rfl ?_
  refine WL.nil ?_
  refine WT.seq ?_
  refine WT.seq ?_
  refine WT.region ?_
  refine lq (q_move rfl) rfl ?_
  refine lq (q_lenR Sl_24 rfl rfl (h3.rslG OTMatch.gives)) rfl ?_
  refine lq (q_gtr rfl rfl) rfl ?_
  refine lq (q_move rfl) rfl ?_
  refine WL.cutS 3 (σ := Hp × Bool × Int × Int) (fun s => [(3, .pointer (some ⟨b_1, 0, none⟩)), (4, .pointer (some ⟨b_2, 0, none⟩)), (5, v3), (16, .bool s.2.1)]) (fun s => St w0 s.1 [(b_1, .cells #[.int .i64 0, .slice none 0 0, .slice none 0 0] 32 (0, 0))] [ob v3, D1, [b_2]]) (fun s => m_s_DrawFiredHas_j1 N x1 x2 s.2.1 s.2.2.1 s.2.2.2 = some r ∧ (OSl OTMatch 32 3 s.1 D1 v3 x2.1) ∧ (s.1 b_2 = some (.cells #[v2, .int .i64 s.2.2.1, .int .i64 s.2.2.2] 149 (0, 0))) ∧ (RSl (RI .u8) 1 s.1 G1 v2 x1.b)) (fun s hm => ?_) (fun K => ?_)
  · clear h
    obtain ⟨Φ_3, s1, s2, s3⟩ := s
    obtain ⟨h, h3, k1, h1⟩ := hm
    replace h : m_s_DrawFiredHas_j1 N x1 x2 s1 s2 s3 = some r := h
    replace h3 : OSl OTMatch 32 3 Φ_3 D1 v3 x2.1 := h3
    replace k1 : Φ_3 b_2 = some (.cells #[v2, .int .i64 s2, .int .i64 s3] 149 (0, 0)) := k1
    replace h1 : RSl (RI .u8) 1 Φ_3 G1 v2 x1.b := h1
    show WL _ _ _ _ [(3, .pointer (some ⟨b_1, 0, none⟩)), (4, .pointer (some ⟨b_2, 0, none⟩)), (5, v3), (16, .bool s1)] (St w0 Φ_3 [(b_1, .cells #[.int .i64 0, .slice none 0 0, .slice none 0 0] 32 (0, 0))] [ob v3, D1, [b_2]])
    unfold m_s_DrawFiredHas_j1 at h
    refine WL.nil ?_
    refine WT.cond rfl (fun c1 => ?_) (fun c1 => ?_)
    · replace h := ite_t h c1
      refine WT.seq ?_
      refine WT.mix (Kn Φ_3 [] [(b_1, .cells #[.int .i64 0, .slice none 0 0, .slice none 0 0] 32 (0, 0))]) (fun i => match i with | 9 => false | _ => true) mixed (fun _ h => h.drew) ?_
      refine mq 0 rfl (by kernel_rfl) (fun w1 hw => Kn.of (fun k hk _ _ => by simp at hk) (AllIn.mem ⟨List.mem_of_getElem? (i := 0) rfl, trivial⟩) hw) (q_move rfl) rfl ?_
      refine mq 1 rfl (by kernel_rfl) (fun w1 hw => Kn.of (fun k hk _ _ => by simp at hk) (AllIn.mem ⟨List.mem_of_getElem? (i := 0) rfl, trivial⟩) hw) (q_move rfl) rfl ?_
      refine mq 2 rfl (by kernel_rfl) (fun w1 hw => Kn.of (fun k hk _ _ => by simp at hk) (AllIn.mem ⟨List.mem_of_getElem? (i := 0) rfl, trivial⟩) hw) (q_move rfl) rfl ?_
      refine mq 3 rfl (by kernel_rfl) (fun w1 hw => Kn.of (fun k hk _ _ => by simp at hk) (AllIn.mem ⟨List.mem_of_getElem? (i := 0) rfl, trivial⟩) hw) (q_move rfl) rfl ?_
      refine mq 4 rfl (by kernel_rfl) (fun w1 hw => Kn.of (fun k hk _ _ => by simp at hk) (AllIn.mem ⟨List.mem_of_getElem? (i := 0) rfl, trivial⟩) hw) (q_lenR Sl_24 rfl rfl (h3.rslG OTMatch.gives)) rfl ?_
      obtain ⟨x3, hx3, h⟩ := bind_some h
      refine WM.one 5 (by kernel_rfl) (mc rfl (fun _ v Φx D w1 hq hw => Kn.of (fun k hk _ _ => by simp at hk) (AllIn.mem ⟨List.mem_of_getElem? (i := 0) rfl, trivial⟩) hw) (k_call (js := [2]) (R := [ob v3, D1]) Fun_67 rfl rfl (fun w1 hw ap hl => m_s_l1Below_ok hw.fro N (⟨x1.b, s2, s3⟩ : Tl1Cur) (x2.1.length : Int) h1 k1 (Dj.sub (ap.o pa0) i1) ap.nd hl hx3)) rfl (fun v5 Φ_4 F3 q3 => ?_))
      obtain ⟨ap3, fr3, rfl, rfl, e2, h5⟩ := q3
      replace h3 := h3.frame OTMatch.lasts fr3 (ap3.r (i := 0) rfl) (ap3.r (i := 1) rfl)
      obtain ⟨x4, hx4, h⟩ := bind_some h
      obtain ⟨cs1, F4, -, g1, hb1, hs1, r1⟩ := h3.elS (idx_some hx4).2.2
      obtain ⟨v6, v7, rfl, rfl, h6, h7⟩ := r1
      have h8 := h6.rsl
      have h9 := h7.rsl
      refine mq 6 rfl (by kernel_rfl) (fun w1 hw => Kn.of (fun k hk _ _ => by simp at hk) (AllIn.mem ⟨List.mem_of_getElem? (i := 0) rfl, trivial⟩) hw) (q_indexAddr Sl_24 rfl rfl h3.rsl hx4) rfl ?_
      refine mq 8 rfl (by kernel_rfl) (fun w1 hw => Kn.of (fun k hk _ _ => by simp at hk) (AllIn.mem ⟨List.mem_of_getElem? (i := 0) rfl, trivial⟩) hw) (q_assign rfl) rfl ?_
      refine WM.one 7 (by kernel_rfl) (mv rfl (fun _ w1 hw => Kn.of (fun k hk _ _ => by simp at hk) (AllIn.mem ⟨List.mem_of_getElem? (i := 0) rfl, trivial⟩) hw) (q_loadN Tn_32 rfl (fun w1 hw => (g1.of_eq 0 3 rfl rfl : rg _ _ _ [.int .i64 x4.Rule, v6, v7]).rangeAt hw.fro) rfl) rfl ?_)
      refine WM.one 9 (by kernel_rfl) (ms rfl (fun hc => by cases hc) (s_store (i := 0) (vs := [.int .i64 x4.Rule, v6, v7]) (C' := [.int .i64 x4.Rule, v6, v7]) (O' := [(b_1, .cells #[.int .i64 x4.Rule, v6, v7] 32 (0, 0))]) Sz_32 rfl rfl rfl rfl rfl rfl ⟨rfl, h8.one, h9.one, trivial⟩ rfl rfl) rfl ?_)
      refine WM.nil (by kernel_rfl) ?_
      refine WT.ret Try.func19 (resOk.two rfl (rv_cell Tn_32 rfl (fun w1 hw => hw.rgO (i := 0) rfl 0 3 [.int .i64 x4.Rule, v6, v7] rfl) rfl)) (fun w1 hw => ?_)
      subst hb0
      cases h
      replace hw := hw.merge (js := [1, 1]) (F := [ob v3, D1].flatten) rfl (SP.eq (by simp))
      refine postG_of_St (js := [0]) hw rfl ⟨v3, (ob v3 ++ D1), v6, (ob v6 ++ []), v7, (ob v7 ++ []), [ob v3, D1].flatten, rfl, rfl, (h3.rslG OTMatch.gives), (fun k hk => ((List.mem_append.1 hk).elim (fun h => (List.mem_flatten.2 ⟨ob v3, by simp, h⟩)) (fun h => (List.mem_flatten.2 ⟨D1, by simp, h⟩)))), h8, (fun k hk => (List.mem_flatten.2 ⟨D1, by simp, ((fun k h => hs1 k (List.mem_append.2 (.inl h))) k hk)⟩)), h9, (fun k hk => (List.mem_flatten.2 ⟨D1, by simp, ((fun k h => hs1 k (List.mem_append.2 (.inr h))) k hk)⟩))⟩
    replace h := ite_f h c1
    refine WT.skip ?_
    refine WT.seq ?_
    refine WT.region ?_
    refine lq (q_move rfl) rfl ?_
    refine lq (q_move rfl) rfl ?_
    obtain ⟨x5, hx5, h⟩ := bind_some h
    refine lc (k_call (js := [2]) (R := [ob v3, D1]) Fun_72 rfl rfl (fun w1 hw ap hl => m_s_l11Match_ok hw.fro N (⟨x1.b, s2, s3⟩ : Tl1Cur) h1 k1 (Dj.sub (ap.o pa0) i1) ap.nd hl hx5)) rfl (fun v8 Φ_5 F5 q4 => ?_)
    obtain ⟨ap4, fr4, v9, v10, rfl, rfl, h10, h11, e3, h12⟩ := q4
    replace h3 := h3.frame OTMatch.lasts fr4 (ap4.r (i := 0) rfl) (ap4.r (i := 1) rfl)
    refine lq (q_assign rfl) rfl ?_
    refine ls (s_store (i := 0) (vs := [.int .i64 x5.1.Rule, v9, v10]) (C' := [.int .i64 x5.1.Rule, v9, v10]) (O' := [(b_1, .cells #[.int .i64 x5.1.Rule, v9, v10] 32 (0, 0))]) Sz_32 rfl rfl rfl rfl rfl rfl ⟨rfl, h10.one, h11.one, trivial⟩ rfl rfl) rfl ?_
    refine WL.nil ?_
    refine WT.ret Try.func19 (resOk.two rfl (rv_cell Tn_32 rfl (fun w1 hw => hw.rgO (i := 0) rfl 0 3 [.int .i64 x5.1.Rule, v9, v10] rfl) rfl)) (fun w1 hw => ?_)
    subst hb0
    cases h
    replace hw := hw.merge (js := [3, 3, 0, 0]) (F := [ob v3, D1, ob v9, ob v10].flatten) rfl (SP.eq (by simp))
    refine postG_of_St (js := [0]) hw rfl ⟨v3, (ob v3 ++ D1), v9, (ob v9 ++ []), v10, (ob v10 ++ []), [ob v3, D1, ob v9, ob v10].flatten, rfl, rfl, (h3.rslG OTMatch.gives), (fun k hk => ((List.mem_append.1 hk).elim (fun h => (List.mem_flatten.2 ⟨ob v3, by simp, h⟩)) (fun h => (List.mem_flatten.2 ⟨D1, by simp, h⟩)))), h10.rsl, (fun k hk => (List.mem_flatten.2 ⟨ob v9, by simp, (apnil k hk)⟩)), h11.rsl, (fun k hk => (List.mem_flatten.2 ⟨ob v10, by simp, (apnil k hk)⟩))⟩
  refine WL.split (d := 13) rfl (fun c2 => ?_) (fun c2 => ?_)
  · replace h := ite_t h c2
    refine WL.yes rfl rfl ?_
    refine lq (q_move rfl) rfl ?_
    refine WL.yes rfl rfl ?_
    obtain ⟨x6, hx6, h⟩ := bind_some h
    refine lc (k_call (js := [2]) (R := [ob v3, D1]) Fun_71 rfl rfl (fun w1 hw ap hl => m_s_l1Once_ok hw.fro N (⟨x1.b, x2.2.i, x2.2.h⟩ : Tl1Cur) 2 h1 h4 (Dj.sub (ap.o pa0) i1) ap.nd hl hx6)) rfl (fun v11 Φ_6 F6 q5 => ?_)
    obtain ⟨ap5, fr5, rfl, rfl, e4, h13⟩ := q5
    replace h1 := h1.frame RI.lasts fr5 (Dj.sub (ap5.o pa0) i1)
    replace h3 := h3.frame OTMatch.lasts fr5 (ap5.r (i := 0) rfl) (ap5.r (i := 1) rfl)
    refine WL.q (q_pick1 rfl rfl) rfl rfl rfl ?_
    refine WL.mono (l' := [(3, .pointer (some ⟨b_1, 0, none⟩)), (4, .pointer (some ⟨b_2, 0, none⟩)), (5, v3), (16, .bool x6.1)]) (S' := St w0 Φ_6 [(b_1, .cells #[.int .i64 0, .slice none 0 0, .slice none 0 0] 32 (0, 0))] [ob v3, D1, [b_2]]) (by exact ⟨rfl, rfl, rfl, rfl, trivial⟩) (fun w1 hw => (hw.sel (js := [1, 1, 0]) rfl).selO (js := [0]) rfl) ?_
    exact K (Φ_6, x6.1, x6.2.i, x6.2.h) ⟨h, h3, h13, h1⟩
  replace h := ite_f h c2
  refine WL.no rfl rfl rfl rfl ?_
  refine WL.no rfl rfl rfl rfl ?_
  refine WL.q (q_pick0 rfl rfl) rfl rfl rfl ?_
  refine WL.mono (l' := [(3, .pointer (some ⟨b_1, 0, none⟩)), (4, .pointer (some ⟨b_2, 0, none⟩)), (5, v3), (16, .bool false)]) (S' := St w0 Φ_2 [(b_1, .cells #[.int .i64 0, .slice none 0 0, .slice none 0 0] 32 (0, 0))] [ob v3, D1, [b_2]]) (by exact ⟨rfl, rfl, rfl, rfl, trivial⟩) (fun w1 hw => (hw.sel (js := [0, 0, 0]) rfl).selO (js := [0]) rfl) ?_
  exact K (Φ_2, false, x2.2.i, x2.2.h) ⟨h, h3, h4, h1⟩
theorem m_sl_IndexFunc_Si_Match_i_Match_ok {Φ : Hp} {w : World} (hΦ : In Φ w) (N : Nat) (p0 : (List TMatch)) (p1 : TMatch → Option (Bool)) {pv0 : Value} {pG0 : List Nat} {p1f : Nat} {p1fr : List Value} (ph0 : RSl RTMatch 3 Φ pG0 pv0 p0) (p1hF : Fun Try.prog p1f = true) (p1h : ∀ {Φ' : Hp} {w' : World}, FrH [] Φ Φ' → In Φ' w' → ∀ (p1a0 : TMatch) {p1v0_0 : Value} {p1G0_0 : List Nat} {p1v0_1 : Value} {p1G0_1 : List Nat} (_ : RSl (RI .i64) 1 Φ' p1G0_0 p1v0_0 p1a0.Ids) (_ : RSl RTBind 4 Φ' p1G0_1 p1v0_1 p1a0.Binds) {r : Bool}, p1 p1a0 = some r → Calls Try.prog p1f (([.agg [.int .i64 p1a0.Rule, p1v0_0, p1v0_1].toArray] : List Value) ++ p1fr).toArray w' (Post (.bool r) w')) {r : Int} (h : m_sl_IndexFunc_Si_Match_i_Match N p0 p1 = some r) :
    Calls Try.prog 118 [pv0, .func (.func p1f) #[] p1fr.toArray].toArray w (Post (.int .i64 r) w) := by
  refine enter Try.func118 rfl Try.ntmps118 rfl (St.start0 hΦ) ?_
  generalize hb0 : (⟨w, [], Φ⟩ : Base) = w0
  unfold m_sl_IndexFunc_Si_Match_i_Match at h
  refine WT.seq ?_
  refine WT.region ?_
  refine lq (q_assign rfl) rfl ?_
  refine WL.nil ?_
  refine WT.seq ?_
  refine WT.seq ?_
  refine WT.region ?_
  refine lq (q_move rfl) rfl ?_
  refine lq (q_lenR Sl_24 rfl rfl ph0) rfl ?_
  refine lq (q_move rfl) rfl ?_
  refine WL.nil ?_
  refine WT.block ?_
  refine WT.loop ?_
  refine WT.mono (l' := [(0, pv0), (1, .func (.func p1f) #[] p1fr.toArray), (7, .int .i64 (p0.length : Int)), (8, .int .i64 0)]) (S' := St w0 Φ [] []) ⟨rfl, rfl, rfl, rfl, trivial⟩ (fun w1 hw => (hw.sel (js := []) rfl).selO (js := []) rfl) ?_
  refine loop_ind (σ := Int) (fun s => [(0, pv0), (1, .func (.func p1f) #[] p1fr.toArray), (7, .int .i64 (p0.length : Int)), (8, .int .i64 s)]) (fun s => St w0 Φ [] []) (fun m s => m_sl_IndexFunc_Si_Match_i_Match_l1 N p0 p1 m s = some r) (fun s hm => none_ne (show (none : Option (Int)) = some r from hm)) (fun n1 ih1 s hm => ?_) N (0) h
  revert hm; revert s; intro s1 hm
  have h : m_sl_IndexFunc_Si_Match_i_Match_l1 N p0 p1 (n1 + 1) s1 = some r := hm
  show WT _ _ [(0, pv0), (1, .func (.func p1f) #[] p1fr.toArray), (7, .int .i64 (p0.length : Int)), (8, .int .i64 s1)] (St w0 Φ [] [])
  unfold m_sl_IndexFunc_Si_Match_i_Match_l1 at h
  refine WT.seq ?_
  refine WT.region ?_
  refine lq (q_lss rfl rfl) rfl ?_
  refine WL.nil ?_
  refine WT.seq ?_
  refine WT.cond rfl (fun c1 => ?_) (fun c1 => ?_)
  · replace h := ite_t h c1
    refine WT.skip ?_
    refine WT.seq ?_
    refine WT.block ?_
    refine WT.seq ?_
    refine WT.region ?_
    refine lq (q_move rfl) rfl ?_
    refine lq (q_assign rfl) rfl ?_
    refine WL.nil ?_
    refine WT.seq ?_
    refine WT.region ?_
    refine lq (q_move rfl) rfl ?_
    refine lq (q_move rfl) rfl ?_
    refine lq (q_move rfl) rfl ?_
    obtain ⟨x1, hx1, h⟩ := bind_some h
    obtain ⟨cs1, F1, -, g1, hb1, hs1, r1⟩ := ph0.el (idx_some hx1).2.2
    obtain ⟨v1, G1, v2, G2, rfl, rfl, h1, h2⟩ := r1
    refine lq (q_indexAddr Sl_24 rfl rfl ph0 hx1) rfl ?_
    refine lq (q_loadN Tn_32 rfl (fun w1 hw => (g1.of_eq 0 3 rfl rfl : rg _ _ _ [.int .i64 x1.Rule, v1, v2]).rangeAt hw.fro) rfl) rfl ?_
    obtain ⟨x2, hx2, h⟩ := bind_some h
    refine lp (p_callV p1hF rfl rfl (fun w1 hw => p1h (FrH.refl _ _) hw.fro x1 h1 h2 hx2)) rfl ?_
    refine WL.nil ?_
    refine WT.cond rfl (fun c2 => ?_) (fun c2 => ?_)
    · replace h := ite_t h c2
      refine WT.seq ?_
      refine WT.region ?_
      refine lq (q_move rfl) rfl ?_
      refine lq (q_assign rfl) rfl ?_
      refine WL.nil ?_
      refine WT.ret Try.func118 (resOk.one rfl) (fun w1 hw => ?_)
      subst hb0
      cases h
      exact post_of_St hw
    replace h := ite_f h c2
    refine WT.skip ?_
    refine WT.inBlock ?_
    refine WT.region ?_
    refine lq (q_add rfl rfl) rfl ?_
    refine lq (q_move rfl) rfl ?_
    refine WL.nil ?_
    refine WT.inLoop (WT.mono (l' := [(0, pv0), (1, .func (.func p1f) #[] p1fr.toArray), (7, .int .i64 (p0.length : Int)), (8, .int .i64 (IntKind.i64.wrap (s1 + 1)))]) (S' := St w0 Φ [] []) ⟨rfl, rfl, rfl, rfl, trivial⟩ (fun w1 hw => (hw.sel (js := []) rfl).selO (js := []) rfl) ?_)
    exact ih1 (IntKind.i64.wrap (s1 + 1)) h
  replace h := ite_f h c1
  refine WT.exit rfl ?_
  refine WT.seq ?_
  refine WT.region ?_
  refine lq (q_assign rfl) rfl ?_
  refine WL.nil ?_
  refine WT.ret Try.func118 (resOk.one rfl) (fun w1 hw => ?_)
  subst hb0
  cases h
  exact post_of_St hw
theorem m_sl_ContainsFunc_Si_Match_i_Match_ok {Φ : Hp} {w : World} (hΦ : In Φ w) (N : Nat) (p0 : (List TMatch)) (p1 : TMatch → Option (Bool)) {pv0 : Value} {pG0 : List Nat} {p1f : Nat} {p1fr : List Value} (ph0 : RSl RTMatch 3 Φ pG0 pv0 p0) (p1hF : Fun Try.prog p1f = true) (p1h : ∀ {Φ' : Hp} {w' : World}, FrH [] Φ Φ' → In Φ' w' → ∀ (p1a0 : TMatch) {p1v0_0 : Value} {p1G0_0 : List Nat} {p1v0_1 : Value} {p1G0_1 : List Nat} (_ : RSl (RI .i64) 1 Φ' p1G0_0 p1v0_0 p1a0.Ids) (_ : RSl RTBind 4 Φ' p1G0_1 p1v0_1 p1a0.Binds) {r : Bool}, p1 p1a0 = some r → Calls Try.prog p1f (([.agg [.int .i64 p1a0.Rule, p1v0_0, p1v0_1].toArray] : List Value) ++ p1fr).toArray w' (Post (.bool r) w')) {r : Bool} (h : m_sl_ContainsFunc_Si_Match_i_Match N p0 p1 = some r) :
    Calls Try.prog 73 [pv0, .func (.func p1f) #[] p1fr.toArray].toArray w (Post (.bool r) w) := by
  refine enter Try.func73 rfl Try.ntmps73 rfl (St.start0 hΦ) ?_
  unfold m_sl_ContainsFunc_Si_Match_i_Match at h
  refine WT.seq ?_
  refine WT.region ?_
  refine lq (q_assign rfl) rfl ?_
  refine WL.nil ?_
  refine WT.seq ?_
  refine WT.region ?_
  refine lq (q_move rfl) rfl ?_
  refine lq (q_move rfl) rfl ?_
  obtain ⟨x1, hx1, h⟩ := bind_some h
  refine lp (p_call Fun_118 rfl (fun w1 hw => m_sl_IndexFunc_Si_Match_i_Match_ok hw.fro N p0 p1 ph0 p1hF p1h hx1)) rfl ?_
  refine lq (q_geq rfl rfl) rfl ?_
  refine lq (q_assign rfl) rfl ?_
  refine WL.nil ?_
  refine WT.ret Try.func73 (resOk.one rfl) (fun w1 hw => ?_)
  cases h
  exact post_of_St hw
theorem m_i_FiredHas_c1_ok {Φ : Hp} {w : World} (hΦ : In Φ w) (N : Nat) (p0 : TMatch) (c0 : TMatch) {pv0_0 : Value} {pG0_0 : List Nat} {pv0_1 : Value} {pG0_1 : List Nat} {pvc0_0 : Value} {pGc0_0 : List Nat} {pvc0_1 : Value} {pGc0_1 : List Nat} {pbc0 : Nat} (ph0_0 : RSl (RI .i64) 1 Φ pG0_0 pv0_0 p0.Ids) (ph0_1 : RSl RTBind 4 Φ pG0_1 pv0_1 p0.Binds) (phc0_0 : RSl (RI .i64) 1 Φ pGc0_0 pvc0_0 c0.Ids) (phc0_1 : RSl RTBind 4 Φ pGc0_1 pvc0_1 c0.Binds) (ppc0 : Φ pbc0 = some (.cells #[.int .i64 c0.Rule, pvc0_0, pvc0_1] 32 (0, 0))) {r : Bool} (h : m_i_FiredHas_c1 N p0 c0 = some r) :
    Calls Try.prog 74 [.agg [.int .i64 p0.Rule, pv0_0, pv0_1].toArray, .pointer (some ⟨pbc0, 0, none⟩)].toArray w (Post (.bool r) w) := by
  refine enter Try.func74 rfl Try.ntmps74 rfl (St.start0 hΦ) ?_
  unfold m_i_FiredHas_c1 at h
  refine WT.seq ?_
  refine WT.region ?_
  refine ln (n_box (C := #[.int .i64 p0.Rule, pv0_0, pv0_1]) rfl rfl) rfl (fun b_1 => ?_)
  refine lq (q_assign rfl) rfl ?_
  refine WL.nil ?_
  refine WT.seq ?_
  refine WT.region ?_
  refine lq (q_loadN Tn_32 rfl (fun w1 hw => hw.rgO (i := 0) rfl 0 3 [.int .i64 p0.Rule, pv0_0, pv0_1] rfl) rfl) rfl ?_
  refine lq (q_loadN Tn_32 rfl (fun w1 hw => ((rg_cells ppc0).of_eq 0 3 rfl rfl : rg _ _ _ [.int .i64 c0.Rule, pvc0_0, pvc0_1]).rangeAt hw.fro) rfl) rfl ?_
  obtain ⟨x1, hx1, h⟩ := bind_some h
  refine lp (p_call Fun_18 rfl (fun w1 hw => m_i_SameMatch_ok hw.fro N p0 c0 ph0_0 ph0_1 phc0_0 phc0_1 hx1)) rfl ?_
  refine lq (q_assign rfl) rfl ?_
  refine WL.nil ?_
  refine WT.ret Try.func74 (resOk.one rfl) (fun w1 hw => ?_)
  cases h
  exact post_of_St hw
theorem m_i_FiredHas_ok {Φ : Hp} {w : World} (hΦ : In Φ w) (N : Nat) (p0 : (List TMatch)) (p1 : TMatch) {pv0 : Value} {pG0 : List Nat} {pv1_0 : Value} {pG1_0 : List Nat} {pv1_1 : Value} {pG1_1 : List Nat} (ph0 : RSl RTMatch 3 Φ pG0 pv0 p0) (ph1_0 : RSl (RI .i64) 1 Φ pG1_0 pv1_0 p1.Ids) (ph1_1 : RSl RTBind 4 Φ pG1_1 pv1_1 p1.Binds) {r : Bool} (h : m_i_FiredHas N p0 p1 = some r) :
    Calls Try.prog 20 [pv0, .agg [.int .i64 p1.Rule, pv1_0, pv1_1].toArray].toArray w (Post (.bool r) w) := by
  refine enter Try.func20 rfl Try.ntmps20 rfl (St.start0 hΦ) ?_
  unfold m_i_FiredHas at h
  refine WT.seq ?_
  refine WT.region ?_
  refine ln (n_box (C := #[.int .i64 p1.Rule, pv1_0, pv1_1]) rfl rfl) rfl (fun b_1 => ?_)
  refine lq (q_assign rfl) rfl ?_
  refine WL.nil ?_
  refine WT.seq ?_
  refine WT.region ?_
  refine lq (q_move rfl) rfl ?_
  refine WL.frz (js := [0]) (R := []) rfl (fun Φ_1 fr1 k1 => ?_)
  replace ph1_0 := ph1_0.frame RI.lasts fr1 (Dj.empty _)
  replace ph1_1 := ph1_1.frame RTBind.lasts fr1 (Dj.empty _)
  replace ph0 := ph0.frame RTMatch.lasts fr1 (Dj.empty _)
  refine lq (q_makeFunc rfl) rfl ?_
  obtain ⟨x1, hx1, h⟩ := bind_some h
  refine lp (p_call Fun_73 rfl (fun w1 hw => m_sl_ContainsFunc_Si_Match_i_Match_ok hw.fro N p0 (fun a0 => m_i_FiredHas_c1 N a0 p1) ph0 Fun_74 (fun hle' hin a0 => fun f0 f1 => fun hr => m_i_FiredHas_c1_ok hin N a0 p1 f0 f1 (ph1_0.frame RI.lasts hle' (Dj.empty _)) (ph1_1.frame RTBind.lasts hle' (Dj.empty _)) (hle' _ _ (by simp) k1) hr) hx1)) rfl ?_
  refine lq (q_assign rfl) rfl ?_
  refine WL.nil ?_
  refine WT.ret Try.func20 (resOk.one rfl) (fun w1 hw => ?_)
  cases h
  exact post_of_St hw
theorem m_l_FnForgotten_ok {Φ : Hp} {w : World} (hΦ : In Φ w) (N : Nat) (p0 : (List Int)) {pv0 : Value} {pG0 : List Nat} (ph0 : RSl (RI .u8) 1 Φ pG0 pv0 p0) {r : Bool} (h : m_l_FnForgotten N p0 = some r) :
    Calls Try.prog 3 [pv0].toArray w (Post (.bool r) w) := by
  refine enter Try.func3 rfl Try.ntmps3 rfl (St.start0 hΦ) ?_
  have pa0 : Old ⟨w, [], Φ⟩ pG0 := Old.mk hΦ ph0.kn (Dj.empty _)
  revert pa0
  generalize hb0 : (⟨w, [], Φ⟩ : Base) = w0
  intro pa0
  unfold m_l_FnForgotten at h
  refine WT.seq ?_
  refine WT.region ?_
  refine lq (q_assign rfl) rfl ?_
  refine WL.nil ?_
  refine WT.seq ?_
  refine WT.seq ?_
  refine WT.region ?_
  refine lq (q_move rfl) rfl ?_
  obtain ⟨x1, hx1, h⟩ := bind_some h
  refine lp (p_call Fun_14 rfl (fun w1 hw => m_l_big_ok hw.fro N p0 ph0 hx1)) rfl ?_
  refine WL.nil ?_
  refine WT.cond rfl (fun c1 => ?_) (fun c1 => ?_)
  · replace h := ite_t h c1
    refine WT.seq ?_
    refine WT.region ?_
    refine lq (q_assign rfl) rfl ?_
    refine WL.nil ?_
    refine WT.ret Try.func3 (resOk.one rfl) (fun w1 hw => ?_)
    subst hb0
    cases h
    exact post_of_St hw
  replace h := ite_f h c1
  refine WT.skip ?_
  refine WT.seq ?_
  refine WT.region ?_
  refine lq (q_move rfl) rfl ?_
  obtain ⟨x2, hx2, h⟩ := bind_some h
  refine lc (k_call (js := []) (R := []) Fun_15 rfl rfl (fun w1 hw ap hl => m_s_DrawForget_ok hw.fro N p0 ph0  hx2)) rfl (fun v1 Φ_1 F1 q1 => ?_)
  obtain ⟨ap1, fr1, v2, D1, rfl, rfl, h1⟩ := q1
  replace ph0 := ph0.frame RI.lasts fr1 (ap1.o pa0)
  refine lq (q_move rfl) rfl ?_
  refine lq (q_extract rfl rfl) rfl ?_
  refine lq (q_extract rfl rfl) rfl ?_
  refine lq (q_assign rfl) rfl ?_
  refine lq (q_assign rfl) rfl ?_
  refine WL.nil ?_
  refine WT.seq ?_
  refine WT.region ?_
  refine lq (q_move rfl) rfl ?_
  refine lq (q_move rfl) rfl ?_
  obtain ⟨x3, hx3, h⟩ := bind_some h
  refine lc (k_call (js := []) (R := [ob v2, D1]) Fun_16 rfl rfl (fun w1 hw ap hl => m_i_Forget_ok hw.fro N x2.1 x2.2 (h1.rslG OTMatch.gives)  hx3)) rfl (fun v3 Φ_2 F2 q2 => ?_)
  obtain ⟨ap2, fr2, v4, D2, rfl, rfl, h2⟩ := q2
  replace ph0 := ph0.frame RI.lasts fr2 (ap2.o pa0)
  replace h1 := h1.frame OTMatch.lasts fr2 (ap2.r (i := 0) rfl) (ap2.r (i := 1) rfl)
  refine lq (q_assign rfl) rfl ?_
  refine WL.nil ?_
  refine WT.seq ?_
  refine WT.region ?_
  refine lq (q_assign rfl) rfl ?_
  refine WL.nil ?_
  refine WT.seq ?_
  refine WT.seq ?_
  refine WT.region ?_
  refine lq (q_assign rfl) rfl ?_
  refine WL.nil ?_
  refine WT.block ?_
  refine WT.loop ?_
  refine WT.mono (l' := [(0, pv0), (3, v2), (4, .int .i64 x2.2), (5, v3), (6, .int .i64 0), (7, .int .i64 0)]) (S' := St w0 Φ_2 [] [ob v3, D2, ob v2, D1]) ⟨rfl, rfl, rfl, rfl, rfl, rfl, trivial⟩ (fun w1 hw => (hw.sel (js := [0, 0, 0, 0]) rfl).selO (js := []) rfl) ?_
  refine loop_ind (σ := Int × Int) (fun s => [(0, pv0), (3, v2), (4, .int .i64 x2.2), (5, v3), (6, .int .i64 s.1), (7, .int .i64 s.2)]) (fun s => St w0 Φ_2 [] [ob v3, D2, ob v2, D1]) (fun m s => m_l_FnForgotten_l1 N p0 x2 x3 m s.1 s.2 = some r) (fun s hm => none_ne (show (none : Option (Bool)) = some r from hm)) (fun n1 ih1 s hm => ?_) N (0, 0) h
  obtain ⟨s1, s2⟩ := s
  have h : m_l_FnForgotten_l1 N p0 x2 x3 (n1 + 1) s1 s2 = some r := hm
  show WT _ _ [(0, pv0), (3, v2), (4, .int .i64 x2.2), (5, v3), (6, .int .i64 s1), (7, .int .i64 s2)] (St w0 Φ_2 [] [ob v3, D2, ob v2, D1])
  unfold m_l_FnForgotten_l1 at h
  refine WT.seq ?_
  refine WT.seq ?_
  refine WT.region ?_
  refine lq (q_move rfl) rfl ?_
  refine lq (q_move rfl) rfl ?_
  refine lq (q_lenR Sl_24 rfl rfl (h1.rslG OTMatch.gives)) rfl ?_
  refine lq (q_lss rfl rfl) rfl ?_
  refine WL.nil ?_
  refine WT.cond rfl (fun c2 => ?_) (fun c2 => ?_)
  · replace h := ite_t h c2
    refine WT.skip ?_
    refine WT.seq ?_
    refine WT.block ?_
    refine WT.seq ?_
    refine WT.region ?_
    refine lq (q_move rfl) rfl ?_
    refine lq (q_move rfl) rfl ?_
    obtain ⟨x4, hx4, h⟩ := bind_some h
    obtain ⟨cs1, F3, -, g1, hb1, hs1, r1⟩ := h1.elS (idx_some hx4).2.2
    obtain ⟨v5, v6, rfl, rfl, h3, h4⟩ := r1
    have h5 := h3.rsl
    have h6 := h4.rsl
    refine lq (q_indexAddr Sl_24 rfl rfl h1.rsl hx4) rfl ?_
    refine lq (q_fieldAddr Fld_32_1 rfl) rfl ?_
    refine lq (q_load1 T1_29 rfl (fun w1 hw => (g1.of_eq 1 1 rfl rfl : rg _ _ _ [v5]).rangeAt hw.fro)) rfl ?_
    refine lq (q_move rfl) rfl ?_
    obtain ⟨x5, hx5, h⟩ := bind_some h
    refine lp (p_call Fun_17 rfl (fun w1 hw => m_l_has_ok hw.fro N x4.Ids x2.2 h5 hx5)) rfl ?_
    refine lq (q_not rfl) rfl ?_
    refine WL.nil ?_
    refine WT.cond rfl (fun c3 => ?_) (fun c3 => ?_)
    · replace h := ite_t h c3
      refine WT.seq ?_
      refine WT.seq ?_
      refine WT.draw mixed (by kernel_rfl) (fun _ h => h.drew) ?_
      refine qq (q_move rfl) rfl ?_
      refine qq (q_move rfl) rfl ?_
      refine qq (q_lenR Sl_24 rfl rfl (h2.rslG OTMatch.gives)) rfl ?_
      refine qq (q_geq rfl rfl) rfl ?_
      refine qq (q_move rfl) rfl ?_
      obtain ⟨b1, hb_1, h⟩ := bind_some h
      refine WQ.cutN 11 [(51, .bool b1), (0, pv0), (3, v2), (4, .int .i64 x2.2), (5, v3), (6, .int .i64 s1), (7, .int .i64 s2)] ?_ (fun K => ?_)
      rotate_left
      · refine WQ.split (d := 40) rfl (fun c4 => ?_) (fun c4 => ?_)
        · replace hb_1 := ite_t hb_1 c4
          refine WQ.no rfl rfl rfl rfl ?_
          refine WQ.no rfl rfl rfl rfl ?_
          refine WQ.no rfl rfl rfl rfl ?_
          refine WQ.no rfl rfl rfl rfl ?_
          refine WQ.no rfl rfl rfl rfl ?_
          refine WQ.no rfl rfl rfl rfl ?_
          refine WQ.no rfl rfl rfl rfl ?_
          refine WQ.no rfl rfl rfl rfl ?_
          refine WQ.no rfl rfl rfl rfl ?_
          refine WQ.no rfl rfl rfl rfl ?_
          refine WQ.q (q_pick1 rfl rfl) rfl rfl rfl ?_
          cases hb_1
          exact WQ.keep (by exact ⟨rfl, rfl, rfl, rfl, rfl, rfl, rfl, trivial⟩) K
        · replace hb_1 := ite_f hb_1 c4
          refine WQ.yes rfl rfl ?_
          refine qq (q_move rfl) rfl ?_
          refine WQ.yes rfl rfl ?_
          refine qq (q_move rfl) rfl ?_
          refine WQ.yes rfl rfl ?_
          obtain ⟨x6, hx6, hb_1⟩ := bind_some hb_1
          obtain ⟨cs2, F4, -, g2, hb2, hs2, r2⟩ := h2.elS (idx_some hx6).2.2
          obtain ⟨v7, v8, rfl, rfl, h7, h8⟩ := r2
          have h9 := h7.rsl
          have h10 := h8.rsl
          refine qq (q_indexAddr Sl_24 rfl rfl h2.rsl hx6) rfl ?_
          refine WQ.yes rfl rfl ?_
          refine qq (q_loadN Tn_32 rfl (fun w1 hw => (g2.of_eq 0 3 rfl rfl : rg _ _ _ [.int .i64 x6.Rule, v7, v8]).rangeAt hw.fro) rfl) rfl ?_
          refine WQ.yes rfl rfl ?_
          refine qq (q_move rfl) rfl ?_
          refine WQ.yes rfl rfl ?_
          refine qq (q_move rfl) rfl ?_
          refine WQ.yes rfl rfl ?_
          obtain ⟨x7, hx7, hb_1⟩ := bind_some hb_1
          obtain ⟨cs3, F5, -, g3, hb3, hs3, r3⟩ := h1.elS (idx_some hx7).2.2
          obtain ⟨v9, v10, rfl, rfl, h11, h12⟩ := r3
          have h13 := h11.rsl
          have h14 := h12.rsl
          refine qq (q_indexAddr Sl_24 rfl rfl h1.rsl hx7) rfl ?_
          refine WQ.yes rfl rfl ?_
          refine qq (q_loadN Tn_32 rfl (fun w1 hw => (g3.of_eq 0 3 rfl rfl : rg _ _ _ [.int .i64 x7.Rule, v9, v10]).rangeAt hw.fro) rfl) rfl ?_
          refine WQ.yes rfl rfl ?_
          obtain ⟨x8, hx8, hb_1⟩ := bind_some hb_1
          refine qp (p_call Fun_18 rfl (fun w1 hw => m_i_SameMatch_ok hw.fro N x6 x7 h9 h10 h13 h14 hx8)) rfl ?_
          refine WQ.yes rfl rfl ?_
          refine qq (q_not rfl) rfl ?_
          refine WQ.q (q_pick0 rfl rfl) rfl rfl rfl ?_
          cases hb_1
          exact WQ.keep (by exact ⟨rfl, rfl, rfl, rfl, rfl, rfl, rfl, trivial⟩) K
      refine WQ.nil ?_
      refine WT.cond rfl (fun c5 => ?_) (fun c5 => ?_)
      · replace h := ite_t h c5
        refine WT.seq ?_
        refine WT.region ?_
        refine lq (q_assign rfl) rfl ?_
        refine WL.nil ?_
        refine WT.ret Try.func3 (resOk.one rfl) (fun w1 hw => ?_)
        subst hb0
        cases h
        exact post_of_St hw
      replace h := ite_f h c5
      refine WT.skip ?_
      refine WT.region ?_
      refine lq (q_move rfl) rfl ?_
      refine lq (q_add rfl rfl) rfl ?_
      refine lq (q_assign rfl) rfl ?_
      refine WL.nil ?_
      refine WT.inBlock ?_
      refine WT.region ?_
      refine lq (q_move rfl) rfl ?_
      refine lq (q_add rfl rfl) rfl ?_
      refine lq (q_assign rfl) rfl ?_
      refine WL.nil ?_
      refine WT.inLoop (WT.mono (l' := [(0, pv0), (3, v2), (4, .int .i64 x2.2), (5, v3), (6, .int .i64 (IntKind.i64.wrap (s1 + 1))), (7, .int .i64 (IntKind.i64.wrap (s2 + 1)))]) (S' := St w0 Φ_2 [] [ob v3, D2, ob v2, D1]) ⟨rfl, rfl, rfl, rfl, rfl, rfl, trivial⟩ (fun w1 hw => (hw.sel (js := [0, 0, 0, 0]) rfl).selO (js := []) rfl) ?_)
      exact ih1 (IntKind.i64.wrap (s1 + 1), IntKind.i64.wrap (s2 + 1)) h
    replace h := ite_f h c3
    refine WT.skip ?_
    refine WT.inBlock ?_
    refine WT.region ?_
    refine lq (q_move rfl) rfl ?_
    refine lq (q_add rfl rfl) rfl ?_
    refine lq (q_assign rfl) rfl ?_
    refine WL.nil ?_
    refine WT.inLoop (WT.mono (l' := [(0, pv0), (3, v2), (4, .int .i64 x2.2), (5, v3), (6, .int .i64 s1), (7, .int .i64 (IntKind.i64.wrap (s2 + 1)))]) (S' := St w0 Φ_2 [] [ob v3, D2, ob v2, D1]) ⟨rfl, rfl, rfl, rfl, rfl, rfl, trivial⟩ (fun w1 hw => (hw.sel (js := [0, 0, 0, 0]) rfl).selO (js := []) rfl) ?_)
    exact ih1 (s1, IntKind.i64.wrap (s2 + 1)) h
  replace h := ite_f h c2
  refine WT.exit rfl ?_
  refine WT.seq ?_
  refine WT.region ?_
  refine lq (q_move rfl) rfl ?_
  obtain ⟨x9, hx9, h⟩ := bind_some h
  refine lc (k_call (js := []) (R := [ob v3, D2, ob v2, D1]) Fun_19 rfl rfl (fun w1 hw ap hl => m_s_DrawFiredHas_ok hw.fro N p0 ph0  hx9)) rfl (fun v11 Φ_3 F6 q3 => ?_)
  obtain ⟨ap3, fr3, v12, G1, v13, G2, v14, G3, X1, rfl, rfl, h15, i1, h16, i2, h17, i3⟩ := q3
  replace h2 := h2.frame OTMatch.lasts fr3 (ap3.r (i := 0) rfl) (ap3.r (i := 1) rfl)
  refine lq (q_move rfl) rfl ?_
  refine lq (q_extract rfl rfl) rfl ?_
  refine lq (q_extract rfl rfl) rfl ?_
  refine ln (n_alloc (C := #[.int .i64 0, .slice none 0 0, .slice none 0 0]) Zr_32 rfl) rfl (fun b_1 => ?_)
  refine lq (q_assign rfl) rfl ?_
  refine ls (s_store (i := 0) (vs := [.int .i64 x9.2.Rule, v13, v14]) (C' := [.int .i64 x9.2.Rule, v13, v14]) (O' := [(b_1, .cells #[.int .i64 x9.2.Rule, v13, v14] 32 (0, 0))]) Sz_32 rfl rfl rfl rfl rfl rfl ⟨rfl, h16.one, h17.one, trivial⟩ rfl rfl) rfl ?_
  refine WL.nil ?_
  refine WT.seq ?_
  refine WT.region ?_
  refine lq (q_assign rfl) rfl ?_
  refine WL.nil ?_
  refine WT.seq ?_
  refine WT.seq ?_
  refine WT.region ?_
  refine lq (q_assign rfl) rfl ?_
  refine WL.nil ?_
  refine WT.block ?_
  refine WT.loop ?_
  refine WT.mono (l' := [(5, v3), (6, .int .i64 s1), (8, v12), (9, .pointer (some ⟨b_1, 0, none⟩)), (10, .bool false), (11, .int .i64 0)]) (S' := St w0 Φ_3 [(b_1, .cells #[.int .i64 x9.2.Rule, v13, v14] 32 (0, 0))] [X1, ob v3, D2]) ⟨rfl, rfl, rfl, rfl, rfl, rfl, trivial⟩ (fun w1 hw => (hw.sel (js := [0, 0, 0]) rfl).selO (js := [0]) rfl) ?_
  refine loop_ind (σ := Bool × Int) (fun s => [(5, v3), (6, .int .i64 s1), (8, v12), (9, .pointer (some ⟨b_1, 0, none⟩)), (10, .bool s.1), (11, .int .i64 s.2)]) (fun s => St w0 Φ_3 [(b_1, .cells #[.int .i64 x9.2.Rule, v13, v14] 32 (0, 0))] [X1, ob v3, D2]) (fun m s => m_l_FnForgotten_l2 N x3 s1 x9 m s.1 s.2 = some r) (fun s hm => none_ne (show (none : Option (Bool)) = some r from hm)) (fun n2 ih2 s hm => ?_) N (false, 0) h
  obtain ⟨s3, s4⟩ := s
  have h : m_l_FnForgotten_l2 N x3 s1 x9 (n2 + 1) s3 s4 = some r := hm
  show WT _ _ [(5, v3), (6, .int .i64 s1), (8, v12), (9, .pointer (some ⟨b_1, 0, none⟩)), (10, .bool s3), (11, .int .i64 s4)] (St w0 Φ_3 [(b_1, .cells #[.int .i64 x9.2.Rule, v13, v14] 32 (0, 0))] [X1, ob v3, D2])
  unfold m_l_FnForgotten_l2 at h
  refine WT.seq ?_
  refine WT.seq ?_
  refine WT.region ?_
  refine lq (q_move rfl) rfl ?_
  refine lq (q_move rfl) rfl ?_
  refine lq (q_lenR Sl_24 rfl rfl h15) rfl ?_
  refine lq (q_lss rfl rfl) rfl ?_
  refine WL.nil ?_
  refine WT.cond rfl (fun c6 => ?_) (fun c6 => ?_)
  · replace h := ite_t h c6
    refine WT.skip ?_
    refine WT.seq ?_
    refine WT.block ?_
    refine WT.draw mixed (by kernel_rfl) (fun _ h => h.drew) ?_
    refine qq (q_move rfl) rfl ?_
    refine qq (q_move rfl) rfl ?_
    obtain ⟨b2, hb_2, h⟩ := bind_some h
    refine WQ.cutN 7 [(73, .bool b2), (5, v3), (6, .int .i64 s1), (8, v12), (9, .pointer (some ⟨b_1, 0, none⟩)), (10, .bool s3), (11, .int .i64 s4)] ?_ (fun K => ?_)
    rotate_left
    · refine WQ.split (d := 66) rfl (fun c7 => ?_) (fun c7 => ?_)
      · replace hb_2 := ite_t hb_2 c7
        refine WQ.no rfl rfl rfl rfl ?_
        refine WQ.no rfl rfl rfl rfl ?_
        refine WQ.no rfl rfl rfl rfl ?_
        refine WQ.no rfl rfl rfl rfl ?_
        refine WQ.no rfl rfl rfl rfl ?_
        refine WQ.no rfl rfl rfl rfl ?_
        refine WQ.q (q_pick1 rfl rfl) rfl rfl rfl ?_
        cases hb_2
        exact WQ.keep (by exact ⟨rfl, rfl, rfl, rfl, rfl, rfl, rfl, trivial⟩) K
      · replace hb_2 := ite_f hb_2 c7
        refine WQ.yes rfl rfl ?_
        refine qq (q_move rfl) rfl ?_
        refine WQ.yes rfl rfl ?_
        refine qq (q_move rfl) rfl ?_
        refine WQ.yes rfl rfl ?_
        obtain ⟨x11, hx10, hb_2⟩ := bind_some hb_2
        obtain ⟨cs4, F7, -, g4, hb4, hs4, r4⟩ := h15.el (idx_some hx10).2.2
        obtain ⟨v15, G4, v16, G5, rfl, rfl, h18, h19⟩ := r4
        refine qq (q_indexAddr Sl_24 rfl rfl h15 hx10) rfl ?_
        refine WQ.yes rfl rfl ?_
        refine qq (q_loadN Tn_32 rfl (fun w1 hw => (g4.of_eq 0 3 rfl rfl : rg _ _ _ [.int .i64 x11.Rule, v15, v16]).rangeAt hw.fro) rfl) rfl ?_
        refine WQ.yes rfl rfl ?_
        refine qq (q_loadN Tn_32 rfl (fun w1 hw => hw.rgO (i := 0) rfl 0 3 [.int .i64 x9.2.Rule, v13, v14] rfl) rfl) rfl ?_
        refine WQ.yes rfl rfl ?_
        obtain ⟨x12, hx11, hb_2⟩ := bind_some hb_2
        refine qp (p_call Fun_18 rfl (fun w1 hw => m_i_SameMatch_ok hw.fro N x11 x9.2 h18 h19 h16 h17 hx11)) rfl ?_
        refine WQ.q (q_pick0 rfl rfl) rfl rfl rfl ?_
        cases hb_2
        exact WQ.keep (by exact ⟨rfl, rfl, rfl, rfl, rfl, rfl, rfl, trivial⟩) K
    refine qq (q_assign rfl) rfl ?_
    refine WQ.nil ?_
    refine WT.inBlock ?_
    refine WT.region ?_
    refine lq (q_move rfl) rfl ?_
    refine lq (q_add rfl rfl) rfl ?_
    refine lq (q_assign rfl) rfl ?_
    refine WL.nil ?_
    refine WT.inLoop (WT.mono (l' := [(5, v3), (6, .int .i64 s1), (8, v12), (9, .pointer (some ⟨b_1, 0, none⟩)), (10, .bool b2), (11, .int .i64 (IntKind.i64.wrap (s4 + 1)))]) (S' := St w0 Φ_3 [(b_1, .cells #[.int .i64 x9.2.Rule, v13, v14] 32 (0, 0))] [X1, ob v3, D2]) ⟨rfl, rfl, rfl, rfl, rfl, rfl, trivial⟩ (fun w1 hw => (hw.sel (js := [0, 0, 0]) rfl).selO (js := [0]) rfl) ?_)
    exact ih2 (b2, IntKind.i64.wrap (s4 + 1)) h
  replace h := ite_f h c6
  refine WT.exit rfl ?_
  refine WT.seq ?_
  refine WT.region ?_
  refine lq (q_move rfl) rfl ?_
  refine lq (q_move rfl) rfl ?_
  refine lq (q_lenR Sl_24 rfl rfl (h2.rslG OTMatch.gives)) rfl ?_
  refine lq (q_eql rfl rfl) rfl ?_
  refine lq (q_move rfl) rfl ?_
  obtain ⟨b3, hb_3, h⟩ := bind_some h
  refine WL.cutN 6 [(84, .bool b3)] ?_ (fun K => ?_)
  rotate_left
  · refine WL.split (d := 78) rfl (fun c8 => ?_) (fun c8 => ?_)
    · replace hb_3 := ite_t hb_3 c8
      refine WL.yes rfl rfl ?_
      refine lq (q_move rfl) rfl ?_
      refine WL.yes rfl rfl ?_
      refine lq (q_loadN Tn_32 rfl (fun w1 hw => hw.rgO (i := 0) rfl 0 3 [.int .i64 x9.2.Rule, v13, v14] rfl) rfl) rfl ?_
      refine WL.yes rfl rfl ?_
      obtain ⟨x13, hx12, hb_3⟩ := bind_some hb_3
      refine lp (p_call Fun_20 rfl (fun w1 hw => m_i_FiredHas_ok hw.fro N x9.1 x9.2 h15 h16 h17 hx12)) rfl ?_
      refine WL.yes rfl rfl ?_
      refine lq (q_move rfl) rfl ?_
      refine WL.yes rfl rfl ?_
      refine lq (q_beq Bo_4 rfl rfl) rfl ?_
      refine WL.q (q_pick1 rfl rfl) rfl rfl rfl ?_
      cases hb_3
      exact WL.keep (by exact ⟨rfl, trivial⟩) K
    · replace hb_3 := ite_f hb_3 c8
      refine WL.no rfl rfl rfl rfl ?_
      refine WL.no rfl rfl rfl rfl ?_
      refine WL.no rfl rfl rfl rfl ?_
      refine WL.no rfl rfl rfl rfl ?_
      refine WL.no rfl rfl rfl rfl ?_
      refine WL.q (q_pick0 rfl rfl) rfl rfl rfl ?_
      cases hb_3
      exact WL.keep (by exact ⟨rfl, trivial⟩) K
  refine lq (q_assign rfl) rfl ?_
  refine WL.nil ?_
  refine WT.ret Try.func3 (resOk.one rfl) (fun w1 hw => ?_)
  subst hb0
  cases h
  exact post_of_St hw
theorem m_s_DrawSameMatch_ok {Φ : Hp} {w : World} (hΦ : In Φ w) (N : Nat) (p0 : (List Int)) {pv0 : Value} {pG0 : List Nat} (ph0 : RSl (RI .u8) 1 Φ pG0 pv0 p0) {r : TMatch × TMatch} (h : m_s_DrawSameMatch N p0 = some r) :
    Calls Try.prog 75 [pv0].toArray w (PostG Φ w [] (fun Φ' Fs v => ∃ (sr_0_0 : Value) (Gr_0_0 : List Nat) (sr_0_1 : Value) (Gr_0_1 : List Nat) (sr_1_0 : Value) (Gr_1_0 : List Nat) (sr_1_1 : Value) (Gr_1_1 : List Nat) (X : List Nat), v = .tuple #[.agg [.int .i64 r.1.Rule, sr_0_0, sr_0_1].toArray, .agg [.int .i64 r.2.Rule, sr_1_0, sr_1_1].toArray] ∧ Fs = [X] ∧ RSl (RI .i64) 1 Φ' Gr_0_0 sr_0_0 r.1.Ids ∧ (∀ k ∈ Gr_0_0, k ∈ X) ∧ RSl RTBind 4 Φ' Gr_0_1 sr_0_1 r.1.Binds ∧ (∀ k ∈ Gr_0_1, k ∈ X) ∧ RSl (RI .i64) 1 Φ' Gr_1_0 sr_1_0 r.2.Ids ∧ (∀ k ∈ Gr_1_0, k ∈ X) ∧ RSl RTBind 4 Φ' Gr_1_1 sr_1_1 r.2.Binds ∧ (∀ k ∈ Gr_1_1, k ∈ X))) := by
  refine enter Try.func75 rfl Try.ntmps75 rfl (St.start0 hΦ) ?_
  have pa0 : Old ⟨w, [], Φ⟩ pG0 := Old.mk hΦ ph0.kn (Dj.empty _)
  unfold m_s_DrawSameMatch at h
  refine WT.seq ?_
  refine WT.region ?_
  refine ln (n_alloc (C := #[.int .i64 0, .slice none 0 0, .slice none 0 0]) Zr_32 rfl) rfl (fun b_1 => ?_)
  refine ln (n_alloc (C := #[.int .i64 0, .slice none 0 0, .slice none 0 0]) Zr_32 rfl) rfl (fun b_2 => ?_)
  refine WL.nil ?_
  refine WT.seq ?_
  refine WT.region ?_
  refine lq (q_move rfl) rfl ?_
  obtain ⟨x1, hx1, h⟩ := bind_some h
  refine lc (k_call (js := []) (R := []) Fun_65 rfl rfl (fun w1 hw ap hl => m_s_l1New_ok hw.fro N p0 ph0  hx1)) rfl (fun v1 Φ_1 F1 q1 => ?_)
  obtain ⟨ap1, fr1, b_3, v2, G1, rfl, rfl, h1, i1, h2⟩ := q1
  refine lq (q_assign rfl) rfl ?_
  refine WL.nil ?_
  refine WT.seq ?_
  refine WT.region ?_
  refine lq (q_move rfl) rfl ?_
  obtain ⟨x2, hx2, h⟩ := bind_some h
  refine lc (k_call (js := [0]) (R := []) Fun_72 rfl rfl (fun w1 hw ap hl => m_s_l11Match_ok hw.fro N x1 h1 h2 (Dj.sub (ap.o pa0) i1) ap.nd hl hx2)) rfl (fun v3 Φ_2 F2 q2 => ?_)
  obtain ⟨ap2, fr2, v4, v5, rfl, rfl, h3, h4, e1, h5⟩ := q2
  replace h1 := h1.frame RI.lasts fr2 (Dj.sub (ap2.o pa0) i1)
  refine ln (n_alloc (C := #[.int .i64 0, .slice none 0 0, .slice none 0 0]) Zr_32 rfl) rfl (fun b_4 => ?_)
  refine ls (s_store (i := 0) (vs := [.int .i64 x2.1.Rule, v4, v5]) (C' := [.int .i64 x2.1.Rule, v4, v5]) (O' := [(b_4, .cells #[.int .i64 x2.1.Rule, v4, v5] 32 (0, 0)), (b_2, .cells #[.int .i64 0, .slice none 0 0, .slice none 0 0] 32 (0, 0)), (b_1, .cells #[.int .i64 0, .slice none 0 0, .slice none 0 0] 32 (0, 0))]) Sz_32 rfl rfl rfl rfl rfl rfl ⟨rfl, h3.one, h4.one, trivial⟩ rfl rfl) rfl ?_
  refine WL.nil ?_
  refine WT.seq ?_
  refine WT.seq ?_
  refine WT.region ?_
  refine lq (q_move rfl) rfl ?_
  obtain ⟨x3, hx3, h⟩ := bind_some h
  refine lc (k_call (js := [2]) (R := [ob v4, ob v5]) Fun_71 rfl rfl (fun w1 hw ap hl => m_s_l1Once_ok hw.fro N (⟨x1.b, x2.2.i, x2.2.h⟩ : Tl1Cur) 2 h1 h5 (Dj.sub (ap.o pa0) i1) ap.nd hl hx3)) rfl (fun v6 Φ_3 F3 q3 => ?_)
  obtain ⟨ap3, fr3, rfl, rfl, e2, h6⟩ := q3
  replace h1 := h1.frame RI.lasts fr3 (Dj.sub (ap3.o pa0) i1)
  replace h3 := h3.frame RI.lasts fr3 (ap3.r (i := 0) rfl) (Dj.nil _)
  replace h4 := h4.frame RTBind.lasts fr3 (ap3.r (i := 1) rfl) (Dj.nil _)
  refine WL.nil ?_
  refine WT.cond rfl (fun c1 => ?_) (fun c1 => ?_)
  · replace h := ite_t h c1
    refine WT.seq ?_
    refine WT.mix (Kn Φ_3 [] [(b_4, .cells #[.int .i64 x2.1.Rule, v4, v5] 32 (0, 0)), (b_2, .cells #[.int .i64 0, .slice none 0 0, .slice none 0 0] 32 (0, 0))]) (fun i => match i with | 3 => false | _ => true) mixed (fun _ h => h.drew) ?_
    refine mq 0 rfl (by kernel_rfl) (fun w1 hw => Kn.of (fun k hk _ _ => by simp at hk) (AllIn.mem ⟨List.mem_of_getElem? (i := 0) rfl, List.mem_of_getElem? (i := 1) rfl, trivial⟩) hw) (q_loadN Tn_32 rfl (fun w1 hw => hw.rgO (i := 0) rfl 0 3 [.int .i64 x2.1.Rule, v4, v5] rfl) rfl) rfl ?_
    refine mq 1 rfl (by kernel_rfl) (fun w1 hw => Kn.of (fun k hk _ _ => by simp at hk) (AllIn.mem ⟨List.mem_of_getElem? (i := 0) rfl, List.mem_of_getElem? (i := 1) rfl, trivial⟩) hw) (q_loadN Tn_32 rfl (fun w1 hw => hw.rgO (i := 0) rfl 0 3 [.int .i64 x2.1.Rule, v4, v5] rfl) rfl) rfl ?_
    refine WM.one 2 (by kernel_rfl) (ms rfl (fun _ w1 hw => Kn.of (fun k hk _ _ => by simp at hk) (AllIn.mem ⟨List.mem_of_getElem? (i := 0) rfl, List.mem_of_getElem? (i := 1) rfl, trivial⟩) hw) (s_store (i := 2) (vs := [.int .i64 x2.1.Rule, v4, v5]) (C' := [.int .i64 x2.1.Rule, v4, v5]) (O' := [(b_4, .cells #[.int .i64 x2.1.Rule, v4, v5] 32 (0, 0)), (b_2, .cells #[.int .i64 0, .slice none 0 0, .slice none 0 0] 32 (0, 0)), (b_1, .cells #[.int .i64 x2.1.Rule, v4, v5] 32 (0, 0))]) Sz_32 rfl rfl rfl rfl rfl rfl ⟨rfl, h3.one, h4.one, trivial⟩ rfl rfl) rfl ?_)
    refine WM.one 3 (by kernel_rfl) (ms rfl (fun hc => by cases hc) (s_store (i := 1) (vs := [.int .i64 x2.1.Rule, v4, v5]) (C' := [.int .i64 x2.1.Rule, v4, v5]) (O' := [(b_4, .cells #[.int .i64 x2.1.Rule, v4, v5] 32 (0, 0)), (b_2, .cells #[.int .i64 x2.1.Rule, v4, v5] 32 (0, 0)), (b_1, .cells #[.int .i64 x2.1.Rule, v4, v5] 32 (0, 0))]) Sz_32 rfl rfl rfl rfl rfl rfl ⟨rfl, h3.one, h4.one, trivial⟩ rfl rfl) rfl ?_)
    refine WM.nil (by kernel_rfl) ?_
    refine WT.ret Try.func75 (resOk.two (rv_cell Tn_32 rfl (fun w1 hw => hw.rgO (i := 2) rfl 0 3 [.int .i64 x2.1.Rule, v4, v5] rfl) rfl) (rv_cell Tn_32 rfl (fun w1 hw => hw.rgO (i := 1) rfl 0 3 [.int .i64 x2.1.Rule, v4, v5] rfl) rfl)) (fun w1 hw => ?_)
    cases h
    replace hw := hw.merge (js := [1, 1]) (F := [ob v4, ob v5].flatten) rfl (SP.eq (by simp))
    refine postG_of_St (js := [0]) hw rfl ⟨v4, (ob v4 ++ []), v5, (ob v5 ++ []), v4, (ob v4 ++ []), v5, (ob v5 ++ []), [ob v4, ob v5].flatten, rfl, rfl, h3.rsl, (fun k hk => (List.mem_flatten.2 ⟨ob v4, by simp, (apnil k hk)⟩)), h4.rsl, (fun k hk => (List.mem_flatten.2 ⟨ob v5, by simp, (apnil k hk)⟩)), h3.rsl, (fun k hk => (List.mem_flatten.2 ⟨ob v4, by simp, (apnil k hk)⟩)), h4.rsl, (fun k hk => (List.mem_flatten.2 ⟨ob v5, by simp, (apnil k hk)⟩))⟩
  replace h := ite_f h c1
  refine WT.skip ?_
  refine WT.seq ?_
  refine WT.mix (Kn Φ_3 [] [(b_4, .cells #[.int .i64 x2.1.Rule, v4, v5] 32 (0, 0)), (b_2, .cells #[.int .i64 0, .slice none 0 0, .slice none 0 0] 32 (0, 0))]) (fun i => match i with | 4 => false | _ => true) mixed (fun _ h => h.drew) ?_
  refine mq 0 rfl (by kernel_rfl) (fun w1 hw => Kn.of (fun k hk _ _ => by simp at hk) (AllIn.mem ⟨List.mem_of_getElem? (i := 0) rfl, List.mem_of_getElem? (i := 1) rfl, trivial⟩) hw) (q_loadN Tn_32 rfl (fun w1 hw => hw.rgO (i := 0) rfl 0 3 [.int .i64 x2.1.Rule, v4, v5] rfl) rfl) rfl ?_
  refine mq 1 rfl (by kernel_rfl) (fun w1 hw => Kn.of (fun k hk _ _ => by simp at hk) (AllIn.mem ⟨List.mem_of_getElem? (i := 0) rfl, List.mem_of_getElem? (i := 1) rfl, trivial⟩) hw) (q_move rfl) rfl ?_
  obtain ⟨x4, hx4, h⟩ := bind_some h
  refine WM.one 2 (by kernel_rfl) (mc rfl (fun _ v Φx D w1 hq hw => Kn.of (fun k hk _ _ => by simp at hk) (AllIn.mem ⟨List.mem_of_getElem? (i := 0) rfl, List.mem_of_getElem? (i := 1) rfl, trivial⟩) hw) (k_call (js := [0]) (R := [ob v4, ob v5]) Fun_72 rfl rfl (fun w1 hw ap hl => m_s_l11Match_ok hw.fro N (⟨x1.b, x3.2.i, x3.2.h⟩ : Tl1Cur) h1 h6 (Dj.sub (ap.o pa0) i1) ap.nd hl hx4)) rfl (fun v7 Φ_4 F4 q4 => ?_))
  obtain ⟨ap4, fr4, v8, v9, rfl, rfl, h7, h8, e3, h9⟩ := q4
  replace h3 := h3.frame RI.lasts fr4 (ap4.r (i := 0) rfl) (Dj.nil _)
  replace h4 := h4.frame RTBind.lasts fr4 (ap4.r (i := 1) rfl) (Dj.nil _)
  refine WM.one 3 (by kernel_rfl) (ms rfl (fun _ w1 hw => Kn.of (fun k hk _ _ => by simp at hk) (AllIn.mem ⟨List.mem_of_getElem? (i := 0) rfl, List.mem_of_getElem? (i := 1) rfl, trivial⟩) hw) (s_store (i := 2) (vs := [.int .i64 x2.1.Rule, v4, v5]) (C' := [.int .i64 x2.1.Rule, v4, v5]) (O' := [(b_4, .cells #[.int .i64 x2.1.Rule, v4, v5] 32 (0, 0)), (b_2, .cells #[.int .i64 0, .slice none 0 0, .slice none 0 0] 32 (0, 0)), (b_1, .cells #[.int .i64 x2.1.Rule, v4, v5] 32 (0, 0))]) Sz_32 rfl rfl rfl rfl rfl rfl ⟨rfl, h3.one, h4.one, trivial⟩ rfl rfl) rfl ?_)
  refine WM.one 4 (by kernel_rfl) (ms rfl (fun hc => by cases hc) (s_store (i := 1) (vs := [.int .i64 x4.1.Rule, v8, v9]) (C' := [.int .i64 x4.1.Rule, v8, v9]) (O' := [(b_4, .cells #[.int .i64 x2.1.Rule, v4, v5] 32 (0, 0)), (b_2, .cells #[.int .i64 x4.1.Rule, v8, v9] 32 (0, 0)), (b_1, .cells #[.int .i64 x2.1.Rule, v4, v5] 32 (0, 0))]) Sz_32 rfl rfl rfl rfl rfl rfl ⟨rfl, h7.one, h8.one, trivial⟩ rfl rfl) rfl ?_)
  refine WM.nil (by kernel_rfl) ?_
  refine WT.ret Try.func75 (resOk.two (rv_cell Tn_32 rfl (fun w1 hw => hw.rgO (i := 2) rfl 0 3 [.int .i64 x2.1.Rule, v4, v5] rfl) rfl) (rv_cell Tn_32 rfl (fun w1 hw => hw.rgO (i := 1) rfl 0 3 [.int .i64 x4.1.Rule, v8, v9] rfl) rfl)) (fun w1 hw => ?_)
  cases h
  replace hw := hw.merge (js := [3, 3, 0, 0]) (F := [ob v4, ob v5, ob v8, ob v9].flatten) rfl (SP.eq (by simp))
  refine postG_of_St (js := [0]) hw rfl ⟨v4, (ob v4 ++ []), v5, (ob v5 ++ []), v8, (ob v8 ++ []), v9, (ob v9 ++ []), [ob v4, ob v5, ob v8, ob v9].flatten, rfl, rfl, h3.rsl, (fun k hk => (List.mem_flatten.2 ⟨ob v4, by simp, (apnil k hk)⟩)), h4.rsl, (fun k hk => (List.mem_flatten.2 ⟨ob v5, by simp, (apnil k hk)⟩)), h7.rsl, (fun k hk => (List.mem_flatten.2 ⟨ob v8, by simp, (apnil k hk)⟩)), h8.rsl, (fun k hk => (List.mem_flatten.2 ⟨ob v9, by simp, (apnil k hk)⟩))⟩
theorem m_s_DrawLessMatch_ok {Φ : Hp} {w : World} (hΦ : In Φ w) (N : Nat) (p0 : (List Int)) {pv0 : Value} {pG0 : List Nat} (ph0 : RSl (RI .u8) 1 Φ pG0 pv0 p0) {r : TMatch × TMatch} (h : m_s_DrawLessMatch N p0 = some r) :
    Calls Try.prog 21 [pv0].toArray w (PostG Φ w [] (fun Φ' Fs v => ∃ (sr_0_0 : Value) (Gr_0_0 : List Nat) (sr_0_1 : Value) (Gr_0_1 : List Nat) (sr_1_0 : Value) (Gr_1_0 : List Nat) (sr_1_1 : Value) (Gr_1_1 : List Nat) (X : List Nat), v = .tuple #[.agg [.int .i64 r.1.Rule, sr_0_0, sr_0_1].toArray, .agg [.int .i64 r.2.Rule, sr_1_0, sr_1_1].toArray] ∧ Fs = [X] ∧ RSl (RI .i64) 1 Φ' Gr_0_0 sr_0_0 r.1.Ids ∧ (∀ k ∈ Gr_0_0, k ∈ X) ∧ RSl RTBind 4 Φ' Gr_0_1 sr_0_1 r.1.Binds ∧ (∀ k ∈ Gr_0_1, k ∈ X) ∧ RSl (RI .i64) 1 Φ' Gr_1_0 sr_1_0 r.2.Ids ∧ (∀ k ∈ Gr_1_0, k ∈ X) ∧ RSl RTBind 4 Φ' Gr_1_1 sr_1_1 r.2.Binds ∧ (∀ k ∈ Gr_1_1, k ∈ X))) := by
  refine enter Try.func21 rfl Try.ntmps21 rfl (St.start0 hΦ) ?_
  unfold m_s_DrawLessMatch at h
  refine WT.seq ?_
  refine WT.region ?_
  refine ln (n_alloc (C := #[.int .i64 0, .slice none 0 0, .slice none 0 0]) Zr_32 rfl) rfl (fun b_1 => ?_)
  refine ln (n_alloc (C := #[.int .i64 0, .slice none 0 0, .slice none 0 0]) Zr_32 rfl) rfl (fun b_2 => ?_)
  refine WL.nil ?_
  refine WT.seq ?_
  refine WT.region ?_
  refine lq (q_move rfl) rfl ?_
  obtain ⟨x1, hx1, h⟩ := bind_some h
  refine lc (k_call (js := []) (R := []) Fun_75 rfl rfl (fun w1 hw ap hl => m_s_DrawSameMatch_ok hw.fro N p0 ph0  hx1)) rfl (fun v1 Φ_1 F1 q1 => ?_)
  obtain ⟨ap1, fr1, v2, G1, v3, G2, v4, G3, v5, G4, X1, rfl, rfl, h1, i1, h2, i2, h3, i3, h4, i4⟩ := q1
  refine lq (q_extract rfl rfl) rfl ?_
  refine lq (q_extract rfl rfl) rfl ?_
  refine ls (s_store (i := 1) (vs := [.int .i64 x1.1.Rule, v2, v3]) (C' := [.int .i64 x1.1.Rule, v2, v3]) (O' := [(b_2, .cells #[.int .i64 0, .slice none 0 0, .slice none 0 0] 32 (0, 0)), (b_1, .cells #[.int .i64 x1.1.Rule, v2, v3] 32 (0, 0))]) Sz_32 rfl rfl rfl rfl rfl rfl ⟨rfl, h1.one, h2.one, trivial⟩ rfl rfl) rfl ?_
  refine ls (s_store (i := 0) (vs := [.int .i64 x1.2.Rule, v4, v5]) (C' := [.int .i64 x1.2.Rule, v4, v5]) (O' := [(b_2, .cells #[.int .i64 x1.2.Rule, v4, v5] 32 (0, 0)), (b_1, .cells #[.int .i64 x1.1.Rule, v2, v3] 32 (0, 0))]) Sz_32 rfl rfl rfl rfl rfl rfl ⟨rfl, h3.one, h4.one, trivial⟩ rfl rfl) rfl ?_
  refine WL.nil ?_
  refine WT.ret Try.func21 (resOk.two (rv_cell Tn_32 rfl (fun w1 hw => hw.rgO (i := 1) rfl 0 3 [.int .i64 x1.1.Rule, v2, v3] rfl) rfl) (rv_cell Tn_32 rfl (fun w1 hw => hw.rgO (i := 0) rfl 0 3 [.int .i64 x1.2.Rule, v4, v5] rfl) rfl)) (fun w1 hw => ?_)
  cases h
  replace hw := hw.merge (js := [0]) (F := [X1].flatten) rfl (SP.eq (by simp))
  refine postG_of_St (js := [0]) hw rfl ⟨v2, G1, v3, G2, v4, G3, v5, G4, [X1].flatten, rfl, rfl, h1, (fun k hk => (List.mem_flatten.2 ⟨X1, by simp, (i1 k hk)⟩)), h2, (fun k hk => (List.mem_flatten.2 ⟨X1, by simp, (i2 k hk)⟩)), h3, (fun k hk => (List.mem_flatten.2 ⟨X1, by simp, (i3 k hk)⟩)), h4, (fun k hk => (List.mem_flatten.2 ⟨X1, by simp, (i4 k hk)⟩))⟩
theorem m_cmp_Or_int_ok {Φ : Hp} {w : World} (hΦ : In Φ w) (N : Nat) (p0 : (List Int)) {pv0 : Value} {pG0 : List Nat} (ph0 : RSl (RI .i64) 1 Φ pG0 pv0 p0) {r : Int} (h : m_cmp_Or_int N p0 = some r) :
    Calls Try.prog 119 [pv0].toArray w (Post (.int .i64 r) w) := by
  refine enter Try.func119 rfl Try.ntmps119 rfl (St.start0 hΦ) ?_
  generalize hb0 : (⟨w, [], Φ⟩ : Base) = w0
  unfold m_cmp_Or_int at h
  refine WT.seq ?_
  refine WT.region ?_
  refine lq (q_assign rfl) rfl ?_
  refine WL.nil ?_
  refine WT.seq ?_
  refine WT.region ?_
  refine lq (q_assign rfl) rfl ?_
  refine WL.nil ?_
  refine WT.seq ?_
  refine WT.seq ?_
  refine WT.region ?_
  refine lq (q_move rfl) rfl ?_
  refine lq (q_lenR Sl_29 rfl rfl ph0) rfl ?_
  refine lq (q_move rfl) rfl ?_
  refine WL.nil ?_
  refine WT.block ?_
  refine WT.loop ?_
  refine WT.mono (l' := [(3, .int .i64 0), (6, pv0), (7, .int .i64 (p0.length : Int)), (8, .int .i64 0)]) (S' := St w0 Φ [] []) ⟨rfl, rfl, rfl, rfl, trivial⟩ (fun w1 hw => (hw.sel (js := []) rfl).selO (js := []) rfl) ?_
  refine loop_ind (σ := Int) (fun s => [(3, .int .i64 0), (6, pv0), (7, .int .i64 (p0.length : Int)), (8, .int .i64 s)]) (fun s => St w0 Φ [] []) (fun m s => m_cmp_Or_int_l1 N p0 m s = some r) (fun s hm => none_ne (show (none : Option (Int)) = some r from hm)) (fun n1 ih1 s hm => ?_) N (0) h
  revert hm; revert s; intro s1 hm
  have h : m_cmp_Or_int_l1 N p0 (n1 + 1) s1 = some r := hm
  show WT _ _ [(3, .int .i64 0), (6, pv0), (7, .int .i64 (p0.length : Int)), (8, .int .i64 s1)] (St w0 Φ [] [])
  unfold m_cmp_Or_int_l1 at h
  refine WT.seq ?_
  refine WT.region ?_
  refine lq (q_lss rfl rfl) rfl ?_
  refine WL.nil ?_
  refine WT.seq ?_
  refine WT.cond rfl (fun c1 => ?_) (fun c1 => ?_)
  · replace h := ite_t h c1
    refine WT.skip ?_
    refine WT.seq ?_
    refine WT.block ?_
    refine WT.seq ?_
    refine WT.region ?_
    obtain ⟨x1, hx1, h⟩ := bind_some h
    obtain ⟨cs1, F1, -, g1, hb1, hs1, r1⟩ := ph0.el (idx_some hx1).2.2
    obtain ⟨rfl, -⟩ := r1
    refine lq (q_indexAddr Sl_29 rfl rfl ph0 hx1) rfl ?_
    refine lq (q_load1 T1_3 rfl (fun w1 hw => (g1.of_eq 0 1 rfl rfl : rg _ _ _ [.int .i64 x1]).rangeAt hw.fro)) rfl ?_
    refine lq (q_assign rfl) rfl ?_
    refine WL.nil ?_
    refine WT.seq ?_
    refine WT.region ?_
    refine lq (q_move rfl) rfl ?_
    refine lq (q_move rfl) rfl ?_
    refine lq (q_neq rfl rfl) rfl ?_
    refine WL.nil ?_
    refine WT.cond rfl (fun c2 => ?_) (fun c2 => ?_)
    · replace h := ite_t h c2
      refine WT.seq ?_
      refine WT.region ?_
      refine lq (q_move rfl) rfl ?_
      refine lq (q_assign rfl) rfl ?_
      refine WL.nil ?_
      refine WT.ret Try.func119 (resOk.one rfl) (fun w1 hw => ?_)
      subst hb0
      cases h
      exact post_of_St hw
    replace h := ite_f h c2
    refine WT.skip ?_
    refine WT.inBlock ?_
    refine WT.region ?_
    refine lq (q_add rfl rfl) rfl ?_
    refine lq (q_move rfl) rfl ?_
    refine WL.nil ?_
    refine WT.inLoop (WT.mono (l' := [(3, .int .i64 0), (6, pv0), (7, .int .i64 (p0.length : Int)), (8, .int .i64 (IntKind.i64.wrap (s1 + 1)))]) (S' := St w0 Φ [] []) ⟨rfl, rfl, rfl, rfl, trivial⟩ (fun w1 hw => (hw.sel (js := []) rfl).selO (js := []) rfl) ?_)
    exact ih1 (IntKind.i64.wrap (s1 + 1)) h
  replace h := ite_f h c1
  refine WT.exit rfl ?_
  refine WT.seq ?_
  refine WT.region ?_
  refine lq (q_move rfl) rfl ?_
  refine lq (q_assign rfl) rfl ?_
  refine WL.nil ?_
  refine WT.ret Try.func119 (resOk.one rfl) (fun w1 hw => ?_)
  subst hb0
  cases h
  exact post_of_St hw
theorem m_cmp_isNaN_int_ok {Φ : Hp} {w : World} (hΦ : In Φ w) (N : Nat) (p0 : Int)   {r : Bool} (h : m_cmp_isNaN_int N p0 = some r) :
    Calls Try.prog 135 [.int .i64 p0].toArray w (Post (.bool r) w) := by
  refine enter Try.func135 rfl Try.ntmps135 rfl (St.start0 hΦ) ?_
  unfold m_cmp_isNaN_int at h
  refine WT.seq ?_
  refine WT.region ?_
  refine lq (q_assign rfl) rfl ?_
  refine WL.nil ?_
  refine WT.seq ?_
  refine WT.region ?_
  refine lq (q_move rfl) rfl ?_
  refine lq (q_move rfl) rfl ?_
  refine lq (q_neq rfl rfl) rfl ?_
  refine lq (q_assign rfl) rfl ?_
  refine WL.nil ?_
  refine WT.ret Try.func135 (resOk.one rfl) (fun w1 hw => ?_)
  cases h
  exact post_of_St hw
theorem m_cmp_Compare_int_ok {Φ : Hp} {w : World} (hΦ : In Φ w) (N : Nat) (p0 : Int) (p1 : Int)   {r : Int} (h : m_cmp_Compare_int N p0 p1 = some r) :
    Calls Try.prog 120 [.int .i64 p0, .int .i64 p1].toArray w (Post (.int .i64 r) w) := by
  refine enter Try.func120 rfl Try.ntmps120 rfl (St.start0 hΦ) ?_
  unfold m_cmp_Compare_int at h
  refine WT.seq ?_
  refine WT.region ?_
  refine lq (q_assign rfl) rfl ?_
  refine WL.nil ?_
  refine WT.seq ?_
  refine WT.region ?_
  refine lq (q_move rfl) rfl ?_
  obtain ⟨x1, hx1, h⟩ := bind_some h
  refine lp (p_call Fun_135 rfl (fun w1 hw => m_cmp_isNaN_int_ok hw.fro N p0 hx1)) rfl ?_
  refine lq (q_assign rfl) rfl ?_
  refine WL.nil ?_
  refine WT.seq ?_
  refine WT.region ?_
  refine lq (q_move rfl) rfl ?_
  obtain ⟨x2, hx2, h⟩ := bind_some h
  refine lp (p_call Fun_135 rfl (fun w1 hw => m_cmp_isNaN_int_ok hw.fro N p1 hx2)) rfl ?_
  refine lq (q_assign rfl) rfl ?_
  refine WL.nil ?_
  refine WT.seq ?_
  refine WT.seq ?_
  refine WT.region ?_
  refine lq (q_move rfl) rfl ?_
  refine WL.nil ?_
  refine WT.cond rfl (fun c1 => ?_) (fun c1 => ?_)
  · replace h := ite_t h c1
    refine WT.seq ?_
    refine WT.seq ?_
    refine WT.region ?_
    refine lq (q_move rfl) rfl ?_
    refine WL.nil ?_
    refine WT.cond rfl (fun c2 => ?_) (fun c2 => ?_)
    · replace h := ite_t h c2
      refine WT.seq ?_
      refine WT.region ?_
      refine lq (q_assign rfl) rfl ?_
      refine WL.nil ?_
      refine WT.ret Try.func120 (resOk.one rfl) (fun w1 hw => ?_)
      cases h
      exact post_of_St hw
    replace h := ite_f h c2
    refine WT.skip ?_
    refine WT.seq ?_
    refine WT.region ?_
    refine lq (q_assign rfl) rfl ?_
    refine WL.nil ?_
    refine WT.ret Try.func120 (resOk.one rfl) (fun w1 hw => ?_)
    cases h
    exact post_of_St hw
  replace h := ite_f h c1
  refine WT.skip ?_
  refine WT.seq ?_
  refine WT.seq ?_
  refine WT.region ?_
  refine lq (q_move rfl) rfl ?_
  refine WL.nil ?_
  refine WT.cond rfl (fun c3 => ?_) (fun c3 => ?_)
  · replace h := ite_t h c3
    refine WT.seq ?_
    refine WT.region ?_
    refine lq (q_assign rfl) rfl ?_
    refine WL.nil ?_
    refine WT.ret Try.func120 (resOk.one rfl) (fun w1 hw => ?_)
    cases h
    exact post_of_St hw
  replace h := ite_f h c3
  refine WT.skip ?_
  refine WT.seq ?_
  refine WT.seq ?_
  refine WT.region ?_
  refine lq (q_move rfl) rfl ?_
  refine lq (q_move rfl) rfl ?_
  refine lq (q_lss rfl rfl) rfl ?_
  refine WL.nil ?_
  refine WT.cond rfl (fun c4 => ?_) (fun c4 => ?_)
  · replace h := ite_t h c4
    refine WT.seq ?_
    refine WT.region ?_
    refine lq (q_assign rfl) rfl ?_
    refine WL.nil ?_
    refine WT.ret Try.func120 (resOk.one rfl) (fun w1 hw => ?_)
    cases h
    exact post_of_St hw
  replace h := ite_f h c4
  refine WT.skip ?_
  refine WT.seq ?_
  refine WT.seq ?_
  refine WT.region ?_
  refine lq (q_move rfl) rfl ?_
  refine lq (q_move rfl) rfl ?_
  refine lq (q_gtr rfl rfl) rfl ?_
  refine WL.nil ?_
  refine WT.cond rfl (fun c5 => ?_) (fun c5 => ?_)
  · replace h := ite_t h c5
    refine WT.seq ?_
    refine WT.region ?_
    refine lq (q_assign rfl) rfl ?_
    refine WL.nil ?_
    refine WT.ret Try.func120 (resOk.one rfl) (fun w1 hw => ?_)
    cases h
    exact post_of_St hw
  replace h := ite_f h c5
  refine WT.skip ?_
  refine WT.seq ?_
  refine WT.region ?_
  refine lq (q_assign rfl) rfl ?_
  refine WL.nil ?_
  refine WT.ret Try.func120 (resOk.one rfl) (fun w1 hw => ?_)
  cases h
  exact post_of_St hw
theorem m_sl_Compare_Sint_int_ok {Φ : Hp} {w : World} (hΦ : In Φ w) (N : Nat) (p0 : (List Int)) (p1 : (List Int)) {pv0 : Value} {pG0 : List Nat} {pv1 : Value} {pG1 : List Nat} (ph0 : RSl (RI .i64) 1 Φ pG0 pv0 p0) (ph1 : RSl (RI .i64) 1 Φ pG1 pv1 p1) {r : Int} (h : m_sl_Compare_Sint_int N p0 p1 = some r) :
    Calls Try.prog 121 [pv0, pv1].toArray w (Post (.int .i64 r) w) := by
  refine enter Try.func121 rfl Try.ntmps121 rfl (St.start0 hΦ) ?_
  generalize hb0 : (⟨w, [], Φ⟩ : Base) = w0
  unfold m_sl_Compare_Sint_int at h
  refine WT.seq ?_
  refine WT.region ?_
  refine lq (q_assign rfl) rfl ?_
  refine WL.nil ?_
  refine WT.seq ?_
  refine WT.seq ?_
  refine WT.region ?_
  refine lq (q_move rfl) rfl ?_
  refine lq (q_lenR Sl_29 rfl rfl ph0) rfl ?_
  refine lq (q_move rfl) rfl ?_
  refine WL.nil ?_
  refine WT.block ?_
  refine WT.loop ?_
  refine WT.mono (l' := [(0, pv0), (1, pv1), (9, pv0), (10, .int .i64 (p0.length : Int)), (11, .int .i64 0)]) (S' := St w0 Φ [] []) ⟨rfl, rfl, rfl, rfl, rfl, trivial⟩ (fun w1 hw => (hw.sel (js := []) rfl).selO (js := []) rfl) ?_
  refine loop_ind (σ := Int) (fun s => [(0, pv0), (1, pv1), (9, pv0), (10, .int .i64 (p0.length : Int)), (11, .int .i64 s)]) (fun s => St w0 Φ [] []) (fun m s => m_sl_Compare_Sint_int_l1 N p0 p1 m s = some r) (fun s hm => none_ne (show (none : Option (Int)) = some r from hm)) (fun n1 ih1 s hm => ?_) N (0) h
  revert hm; revert s; intro s1 hm
  have h : m_sl_Compare_Sint_int_l1 N p0 p1 (n1 + 1) s1 = some r := hm
  show WT _ _ [(0, pv0), (1, pv1), (9, pv0), (10, .int .i64 (p0.length : Int)), (11, .int .i64 s1)] (St w0 Φ [] [])
  unfold m_sl_Compare_Sint_int_l1 at h
  refine WT.seq ?_
  refine WT.region ?_
  refine lq (q_lss rfl rfl) rfl ?_
  refine WL.nil ?_
  refine WT.seq ?_
  refine WT.cond rfl (fun c1 => ?_) (fun c1 => ?_)
  · replace h := ite_t h c1
    refine WT.skip ?_
    refine WT.seq ?_
    refine WT.block ?_
    refine WT.seq ?_
    refine WT.region ?_
    refine lq (q_move rfl) rfl ?_
    obtain ⟨x1, hx1, h⟩ := bind_some h
    obtain ⟨cs1, F1, -, g1, hb1, hs1, r1⟩ := ph0.el (idx_some hx1).2.2
    obtain ⟨rfl, -⟩ := r1
    refine lq (q_indexAddr Sl_29 rfl rfl ph0 hx1) rfl ?_
    refine lq (q_load1 T1_3 rfl (fun w1 hw => (g1.of_eq 0 1 rfl rfl : rg _ _ _ [.int .i64 x1]).rangeAt hw.fro)) rfl ?_
    refine lq (q_assign rfl) rfl ?_
    refine lq (q_assign rfl) rfl ?_
    refine WL.nil ?_
    refine WT.seq ?_
    refine WT.seq ?_
    refine WT.region ?_
    refine lq (q_move rfl) rfl ?_
    refine lq (q_move rfl) rfl ?_
    refine lq (q_lenR Sl_29 rfl rfl ph1) rfl ?_
    refine lq (q_geq rfl rfl) rfl ?_
    refine WL.nil ?_
    refine WT.cond rfl (fun c2 => ?_) (fun c2 => ?_)
    · replace h := ite_t h c2
      refine WT.seq ?_
      refine WT.region ?_
      refine lq (q_assign rfl) rfl ?_
      refine WL.nil ?_
      refine WT.ret Try.func121 (resOk.one rfl) (fun w1 hw => ?_)
      subst hb0
      cases h
      exact post_of_St hw
    replace h := ite_f h c2
    refine WT.skip ?_
    refine WT.seq ?_
    refine WT.region ?_
    refine lq (q_move rfl) rfl ?_
    refine lq (q_move rfl) rfl ?_
    obtain ⟨x2, hx2, h⟩ := bind_some h
    obtain ⟨cs2, F2, -, g2, hb2, hs2, r2⟩ := ph1.el (idx_some hx2).2.2
    obtain ⟨rfl, -⟩ := r2
    refine lq (q_indexAddr Sl_29 rfl rfl ph1 hx2) rfl ?_
    refine lq (q_load1 T1_3 rfl (fun w1 hw => (g2.of_eq 0 1 rfl rfl : rg _ _ _ [.int .i64 x2]).rangeAt hw.fro)) rfl ?_
    refine lq (q_assign rfl) rfl ?_
    refine WL.nil ?_
    refine WT.seq ?_
    refine WT.region ?_
    refine lq (q_move rfl) rfl ?_
    refine lq (q_move rfl) rfl ?_
    obtain ⟨x3, hx3, h⟩ := bind_some h
    refine lp (p_call Fun_120 rfl (fun w1 hw => m_cmp_Compare_int_ok hw.fro N x1 x2 hx3)) rfl ?_
    refine lq (q_assign rfl) rfl ?_
    refine WL.nil ?_
    refine WT.seq ?_
    refine WT.region ?_
    refine lq (q_move rfl) rfl ?_
    refine lq (q_neq rfl rfl) rfl ?_
    refine WL.nil ?_
    refine WT.cond rfl (fun c3 => ?_) (fun c3 => ?_)
    · replace h := ite_t h c3
      refine WT.seq ?_
      refine WT.region ?_
      refine lq (q_move rfl) rfl ?_
      refine lq (q_assign rfl) rfl ?_
      refine WL.nil ?_
      refine WT.ret Try.func121 (resOk.one rfl) (fun w1 hw => ?_)
      subst hb0
      cases h
      exact post_of_St hw
    replace h := ite_f h c3
    refine WT.skip ?_
    refine WT.inBlock ?_
    refine WT.region ?_
    refine lq (q_add rfl rfl) rfl ?_
    refine lq (q_move rfl) rfl ?_
    refine WL.nil ?_
    refine WT.inLoop (WT.mono (l' := [(0, pv0), (1, pv1), (9, pv0), (10, .int .i64 (p0.length : Int)), (11, .int .i64 (IntKind.i64.wrap (s1 + 1)))]) (S' := St w0 Φ [] []) ⟨rfl, rfl, rfl, rfl, rfl, trivial⟩ (fun w1 hw => (hw.sel (js := []) rfl).selO (js := []) rfl) ?_)
    exact ih1 (IntKind.i64.wrap (s1 + 1)) h
  replace h := ite_f h c1
  refine WT.exit rfl ?_
  refine WT.seq ?_
  refine WT.seq ?_
  refine WT.region ?_
  refine lq (q_move rfl) rfl ?_
  refine lq (q_lenR Sl_29 rfl rfl ph0) rfl ?_
  refine lq (q_move rfl) rfl ?_
  refine lq (q_lenR Sl_29 rfl rfl ph1) rfl ?_
  refine lq (q_lss rfl rfl) rfl ?_
  refine WL.nil ?_
  refine WT.cond rfl (fun c4 => ?_) (fun c4 => ?_)
  · replace h := ite_t h c4
    refine WT.seq ?_
    refine WT.region ?_
    refine lq (q_assign rfl) rfl ?_
    refine WL.nil ?_
    refine WT.ret Try.func121 (resOk.one rfl) (fun w1 hw => ?_)
    subst hb0
    cases h
    exact post_of_St hw
  replace h := ite_f h c4
  refine WT.skip ?_
  refine WT.seq ?_
  refine WT.region ?_
  refine lq (q_assign rfl) rfl ?_
  refine WL.nil ?_
  refine WT.ret Try.func121 (resOk.one rfl) (fun w1 hw => ?_)
  subst hb0
  cases h
  exact post_of_St hw
theorem m_i_compareMatches_ok {Φ : Hp} {w : World} (hΦ : In Φ w) (N : Nat) (p0 : TMatch) (p1 : TMatch) {pv0_0 : Value} {pG0_0 : List Nat} {pv0_1 : Value} {pG0_1 : List Nat} {pv1_0 : Value} {pG1_0 : List Nat} {pv1_1 : Value} {pG1_1 : List Nat} (ph0_0 : RSl (RI .i64) 1 Φ pG0_0 pv0_0 p0.Ids) (ph0_1 : RSl RTBind 4 Φ pG0_1 pv0_1 p0.Binds) (ph1_0 : RSl (RI .i64) 1 Φ pG1_0 pv1_0 p1.Ids) (ph1_1 : RSl RTBind 4 Φ pG1_1 pv1_1 p1.Binds) {r : Int} (h : m_i_compareMatches N p0 p1 = some r) :
    Calls Try.prog 76 [.agg [.int .i64 p0.Rule, pv0_0, pv0_1].toArray, .agg [.int .i64 p1.Rule, pv1_0, pv1_1].toArray].toArray w (Post (.int .i64 r) w) := by
  refine enter Try.func76 rfl Try.ntmps76 rfl (St.start0 hΦ) ?_
  unfold m_i_compareMatches at h
  refine WT.seq ?_
  refine WT.region ?_
  refine ln (n_box (C := #[.int .i64 p0.Rule, pv0_0, pv0_1]) rfl rfl) rfl (fun b_1 => ?_)
  refine ln (n_box (C := #[.int .i64 p1.Rule, pv1_0, pv1_1]) rfl rfl) rfl (fun b_2 => ?_)
  refine lq (q_assign rfl) rfl ?_
  refine WL.nil ?_
  refine WT.seq ?_
  refine WT.mix (Kn Φ [] [(b_2, .cells #[.int .i64 p1.Rule, pv1_0, pv1_1] 32 (0, 0)), (b_1, .cells #[.int .i64 p0.Rule, pv0_0, pv0_1] 32 (0, 0))]) (fun _ => true) mixed (fun _ h => h.drew) ?_
  refine mq 0 rfl (by kernel_rfl) (fun w1 hw => Kn.of (fun k hk _ _ => by simp at hk) (AllIn.mem ⟨List.mem_of_getElem? (i := 0) rfl, List.mem_of_getElem? (i := 1) rfl, trivial⟩) hw) (q_fieldAddr Fld_32_0 rfl) rfl ?_
  refine mq 1 rfl (by kernel_rfl) (fun w1 hw => Kn.of (fun k hk _ _ => by simp at hk) (AllIn.mem ⟨List.mem_of_getElem? (i := 0) rfl, List.mem_of_getElem? (i := 1) rfl, trivial⟩) hw) (q_load1 T1_3 rfl (fun w1 hw => hw.rgO (i := 1) rfl 0 1 [.int .i64 p0.Rule] rfl)) rfl ?_
  refine mq 2 rfl (by kernel_rfl) (fun w1 hw => Kn.of (fun k hk _ _ => by simp at hk) (AllIn.mem ⟨List.mem_of_getElem? (i := 0) rfl, List.mem_of_getElem? (i := 1) rfl, trivial⟩) hw) (q_fieldAddr Fld_32_0 rfl) rfl ?_
  refine mq 3 rfl (by kernel_rfl) (fun w1 hw => Kn.of (fun k hk _ _ => by simp at hk) (AllIn.mem ⟨List.mem_of_getElem? (i := 0) rfl, List.mem_of_getElem? (i := 1) rfl, trivial⟩) hw) (q_load1 T1_3 rfl (fun w1 hw => hw.rgO (i := 0) rfl 0 1 [.int .i64 p1.Rule] rfl)) rfl ?_
  refine mq 5 rfl (by kernel_rfl) (fun w1 hw => Kn.of (fun k hk _ _ => by simp at hk) (AllIn.mem ⟨List.mem_of_getElem? (i := 0) rfl, List.mem_of_getElem? (i := 1) rfl, trivial⟩) hw) (q_fieldAddr Fld_32_1 rfl) rfl ?_
  refine mq 6 rfl (by kernel_rfl) (fun w1 hw => Kn.of (fun k hk _ _ => by simp at hk) (AllIn.mem ⟨List.mem_of_getElem? (i := 0) rfl, List.mem_of_getElem? (i := 1) rfl, trivial⟩) hw) (q_load1 T1_29 rfl (fun w1 hw => hw.rgO (i := 1) rfl 1 1 [pv0_0] rfl)) rfl ?_
  refine mq 7 rfl (by kernel_rfl) (fun w1 hw => Kn.of (fun k hk _ _ => by simp at hk) (AllIn.mem ⟨List.mem_of_getElem? (i := 0) rfl, List.mem_of_getElem? (i := 1) rfl, trivial⟩) hw) (q_lenR Sl_29 rfl rfl ph0_0) rfl ?_
  refine mq 8 rfl (by kernel_rfl) (fun w1 hw => Kn.of (fun k hk _ _ => by simp at hk) (AllIn.mem ⟨List.mem_of_getElem? (i := 0) rfl, List.mem_of_getElem? (i := 1) rfl, trivial⟩) hw) (q_fieldAddr Fld_32_1 rfl) rfl ?_
  refine mq 9 rfl (by kernel_rfl) (fun w1 hw => Kn.of (fun k hk _ _ => by simp at hk) (AllIn.mem ⟨List.mem_of_getElem? (i := 0) rfl, List.mem_of_getElem? (i := 1) rfl, trivial⟩) hw) (q_load1 T1_29 rfl (fun w1 hw => hw.rgO (i := 0) rfl 1 1 [pv1_0] rfl)) rfl ?_
  refine mq 10 rfl (by kernel_rfl) (fun w1 hw => Kn.of (fun k hk _ _ => by simp at hk) (AllIn.mem ⟨List.mem_of_getElem? (i := 0) rfl, List.mem_of_getElem? (i := 1) rfl, trivial⟩) hw) (q_lenR Sl_29 rfl rfl ph1_0) rfl ?_
  obtain ⟨x1, hx1, h⟩ := bind_some h
  refine WM.one 4 (by kernel_rfl) (mp rfl (fun _ w1 hw => Kn.of (fun k hk _ _ => by simp at hk) (AllIn.mem ⟨List.mem_of_getElem? (i := 0) rfl, List.mem_of_getElem? (i := 1) rfl, trivial⟩) hw) (p_call Fun_120 rfl (fun w1 hw => m_cmp_Compare_int_ok hw.fro N p0.Rule p1.Rule hx1)) rfl ?_)
  obtain ⟨x2, hx2, h⟩ := bind_some h
  refine WM.one 11 (by kernel_rfl) (mp rfl (fun _ w1 hw => Kn.of (fun k hk _ _ => by simp at hk) (AllIn.mem ⟨List.mem_of_getElem? (i := 0) rfl, List.mem_of_getElem? (i := 1) rfl, trivial⟩) hw) (p_call Fun_120 rfl (fun w1 hw => m_cmp_Compare_int_ok hw.fro N (p0.Ids.length : Int) (p1.Ids.length : Int) hx2)) rfl ?_)
  have rc1 : RC (RI .i64) 1 Φ ([[], []] : List (List Nat)) [.int .i64 x1, .int .i64 x2] ([x1, x2] : List Int) := RC.cons (c := [.int .i64 x1]) (cells := [.int .i64 x2]) ⟨rfl, rfl⟩ rfl (RC.cons (c := [.int .i64 x2]) (cells := []) ⟨rfl, rfl⟩ rfl (RC.nil _ _ _))
  refine WM.one 12 (by kernel_rfl) (me rfl (fun _ v Φx D w1 hq hw => Kn.of (fun k hk _ _ => by simp at hk) (AllIn.mem ⟨List.mem_of_getElem? (i := 0) rfl, List.mem_of_getElem? (i := 1) rfl, trivial⟩) hw) (e_lit (vs := [(0, .int .i64 x1), (1, .int .i64 x2)]) (C := #[.int .i64 x1, .int .i64 x2]) RI.lasts Sl_29 Zr_3 rfl rfl rfl rfl (fill_made MC_3_2 (fill_cons (cells := [.int .i64 0, .int .i64 0]) (c := [.int .i64 x1]) (C' := [.int .i64 x1, .int .i64 0]) rfl rfl rfl rfl rfl (fill_cons (cells := [.int .i64 x1, .int .i64 0]) (c := [.int .i64 x2]) (C' := [.int .i64 x1, .int .i64 x2]) rfl rfl rfl rfl rfl (fill_nil)))) rfl rc1 rfl (by simpa using Kw.nil)) rfl (fun v1 Φ_1 D1 q1 => ?_))
  obtain ⟨fr1, h1⟩ := q1
  replace h1 : OSl (RI .i64) 3 1 Φ_1 [] v1 ([x1, x2] : List Int) := by simpa using h1
  replace ph0_0 := ph0_0.frame RI.lasts fr1 (Dj.empty _)
  replace ph0_1 := ph0_1.frame RTBind.lasts fr1 (Dj.empty _)
  replace ph1_0 := ph1_0.frame RI.lasts fr1 (Dj.empty _)
  replace ph1_1 := ph1_1.frame RTBind.lasts fr1 (Dj.empty _)
  obtain ⟨x3, hx3, h⟩ := bind_some h
  refine WM.one 13 (by kernel_rfl) (mp rfl (fun _ w1 hw => Kn.of (fun k hk _ _ => by simp at hk) (AllIn.mem ⟨List.mem_of_getElem? (i := 0) rfl, List.mem_of_getElem? (i := 1) rfl, trivial⟩) hw) (p_call Fun_119 rfl (fun w1 hw => m_cmp_Or_int_ok hw.fro N ([x1, x2] : List Int) h1.rsl hx3)) rfl ?_)
  refine mq 14 rfl (by kernel_rfl) (fun w1 hw => Kn.of (fun k hk _ _ => by simp at hk) (AllIn.mem ⟨List.mem_of_getElem? (i := 0) rfl, List.mem_of_getElem? (i := 1) rfl, trivial⟩) hw) (q_assign rfl) rfl ?_
  refine WM.nil (by kernel_rfl) ?_
  refine WT.seq ?_
  refine WT.seq ?_
  refine WT.region ?_
  refine lq (q_move rfl) rfl ?_
  refine lq (q_eql rfl rfl) rfl ?_
  refine WL.nil ?_
  refine WT.cond rfl (fun c1 => ?_) (fun c1 => ?_)
  · replace h := ite_t h c1
    refine WT.region ?_
    refine lq (q_fieldAddr Fld_32_1 rfl) rfl ?_
    refine lq (q_load1 T1_29 rfl (fun w1 hw => hw.rgO (i := 1) rfl 1 1 [pv0_0] rfl)) rfl ?_
    refine lq (q_fieldAddr Fld_32_1 rfl) rfl ?_
    refine lq (q_load1 T1_29 rfl (fun w1 hw => hw.rgO (i := 0) rfl 1 1 [pv1_0] rfl)) rfl ?_
    obtain ⟨x4, hx4, h⟩ := bind_some h
    refine lp (p_call Fun_121 rfl (fun w1 hw => m_sl_Compare_Sint_int_ok hw.fro N p0.Ids p1.Ids ph0_0 ph1_0 hx4)) rfl ?_
    refine lq (q_assign rfl) rfl ?_
    refine WL.nil ?_
    refine WT.seq ?_
    refine WT.region ?_
    refine lq (q_move rfl) rfl ?_
    refine lq (q_assign rfl) rfl ?_
    refine WL.nil ?_
    refine WT.ret Try.func76 (resOk.one rfl) (fun w1 hw => ?_)
    cases h
    exact post_of_St hw
  replace h := ite_f h c1
  refine WT.skip ?_
  refine WT.seq ?_
  refine WT.region ?_
  refine lq (q_move rfl) rfl ?_
  refine lq (q_assign rfl) rfl ?_
  refine WL.nil ?_
  refine WT.ret Try.func76 (resOk.one rfl) (fun w1 hw => ?_)
  cases h
  exact post_of_St hw
theorem m_i_LessMatch_ok {Φ : Hp} {w : World} (hΦ : In Φ w) (N : Nat) (p0 : TMatch) (p1 : TMatch) {pv0_0 : Value} {pG0_0 : List Nat} {pv0_1 : Value} {pG0_1 : List Nat} {pv1_0 : Value} {pG1_0 : List Nat} {pv1_1 : Value} {pG1_1 : List Nat} (ph0_0 : RSl (RI .i64) 1 Φ pG0_0 pv0_0 p0.Ids) (ph0_1 : RSl RTBind 4 Φ pG0_1 pv0_1 p0.Binds) (ph1_0 : RSl (RI .i64) 1 Φ pG1_0 pv1_0 p1.Ids) (ph1_1 : RSl RTBind 4 Φ pG1_1 pv1_1 p1.Binds) {r : Bool} (h : m_i_LessMatch N p0 p1 = some r) :
    Calls Try.prog 22 [.agg [.int .i64 p0.Rule, pv0_0, pv0_1].toArray, .agg [.int .i64 p1.Rule, pv1_0, pv1_1].toArray].toArray w (Post (.bool r) w) := by
  refine enter Try.func22 rfl Try.ntmps22 rfl (St.start0 hΦ) ?_
  unfold m_i_LessMatch at h
  refine WT.seq ?_
  refine WT.region ?_
  refine ln (n_box (C := #[.int .i64 p0.Rule, pv0_0, pv0_1]) rfl rfl) rfl (fun b_1 => ?_)
  refine ln (n_box (C := #[.int .i64 p1.Rule, pv1_0, pv1_1]) rfl rfl) rfl (fun b_2 => ?_)
  refine lq (q_assign rfl) rfl ?_
  refine WL.nil ?_
  refine WT.seq ?_
  refine WT.region ?_
  refine lq (q_loadN Tn_32 rfl (fun w1 hw => hw.rgO (i := 1) rfl 0 3 [.int .i64 p0.Rule, pv0_0, pv0_1] rfl) rfl) rfl ?_
  refine lq (q_loadN Tn_32 rfl (fun w1 hw => hw.rgO (i := 0) rfl 0 3 [.int .i64 p1.Rule, pv1_0, pv1_1] rfl) rfl) rfl ?_
  obtain ⟨x1, hx1, h⟩ := bind_some h
  refine lp (p_call Fun_76 rfl (fun w1 hw => m_i_compareMatches_ok hw.fro N p0 p1 ph0_0 ph0_1 ph1_0 ph1_1 hx1)) rfl ?_
  refine lq (q_lss rfl rfl) rfl ?_
  refine lq (q_assign rfl) rfl ?_
  refine WL.nil ?_
  refine WT.ret Try.func22 (resOk.one rfl) (fun w1 hw => ?_)
  cases h
  exact post_of_St hw
theorem m_s_LessMatch_ok {Φ : Hp} {w : World} (hΦ : In Φ w) (N : Nat) (p0 : TMatch) (p1 : TMatch) {pv0_0 : Value} {pG0_0 : List Nat} {pv0_1 : Value} {pG0_1 : List Nat} {pv1_0 : Value} {pG1_0 : List Nat} {pv1_1 : Value} {pG1_1 : List Nat} (ph0_0 : RSl (RI .i64) 1 Φ pG0_0 pv0_0 p0.Ids) (ph0_1 : RSl RTBind 4 Φ pG0_1 pv0_1 p0.Binds) (ph1_0 : RSl (RI .i64) 1 Φ pG1_0 pv1_0 p1.Ids) (ph1_1 : RSl RTBind 4 Φ pG1_1 pv1_1 p1.Binds) {r : Bool} (h : m_s_LessMatch N p0 p1 = some r) :
    Calls Try.prog 23 [.agg [.int .i64 p0.Rule, pv0_0, pv0_1].toArray, .agg [.int .i64 p1.Rule, pv1_0, pv1_1].toArray].toArray w (Post (.bool r) w) := by
  refine enter Try.func23 rfl Try.ntmps23 rfl (St.start0 hΦ) ?_
  generalize hb0 : (⟨w, [], Φ⟩ : Base) = w0
  unfold m_s_LessMatch at h
  refine WT.seq ?_
  refine WT.region ?_
  refine ln (n_box (C := #[.int .i64 p0.Rule, pv0_0, pv0_1]) rfl rfl) rfl (fun b_1 => ?_)
  refine ln (n_box (C := #[.int .i64 p1.Rule, pv1_0, pv1_1]) rfl rfl) rfl (fun b_2 => ?_)
  refine lq (q_assign rfl) rfl ?_
  refine WL.nil ?_
  refine WT.seq ?_
  refine WT.block ?_
  refine WT.seq ?_
  refine WT.region ?_
  refine lq (q_fieldAddr Fld_32_0 rfl) rfl ?_
  refine lq (q_load1 T1_3 rfl (fun w1 hw => hw.rgO (i := 1) rfl 0 1 [.int .i64 p0.Rule] rfl)) rfl ?_
  refine lq (q_fieldAddr Fld_32_0 rfl) rfl ?_
  refine lq (q_load1 T1_3 rfl (fun w1 hw => hw.rgO (i := 0) rfl 0 1 [.int .i64 p1.Rule] rfl)) rfl ?_
  refine lq (q_neq rfl rfl) rfl ?_
  refine lq (q_assign rfl) rfl ?_
  refine WL.nil ?_
  refine WT.cond rfl (fun c1 => ?_) (fun c1 => ?_)
  · replace h := ite_t h c1
    refine WT.seq ?_
    refine WT.region ?_
    refine lq (q_fieldAddr Fld_32_0 rfl) rfl ?_
    refine lq (q_load1 T1_3 rfl (fun w1 hw => hw.rgO (i := 1) rfl 0 1 [.int .i64 p0.Rule] rfl)) rfl ?_
    refine lq (q_fieldAddr Fld_32_0 rfl) rfl ?_
    refine lq (q_load1 T1_3 rfl (fun w1 hw => hw.rgO (i := 0) rfl 0 1 [.int .i64 p1.Rule] rfl)) rfl ?_
    refine lq (q_lss rfl rfl) rfl ?_
    refine lq (q_assign rfl) rfl ?_
    refine WL.nil ?_
    refine WT.ret Try.func23 (resOk.one rfl) (fun w1 hw => ?_)
    subst hb0
    cases h
    exact post_of_St hw
  replace h := ite_f h c1
  refine WT.seq ?_
  refine WT.region ?_
  refine lq (q_fieldAddr Fld_32_1 rfl) rfl ?_
  refine lq (q_load1 T1_29 rfl (fun w1 hw => hw.rgO (i := 1) rfl 1 1 [pv0_0] rfl)) rfl ?_
  refine lq (q_lenR Sl_29 rfl rfl ph0_0) rfl ?_
  refine lq (q_fieldAddr Fld_32_1 rfl) rfl ?_
  refine lq (q_load1 T1_29 rfl (fun w1 hw => hw.rgO (i := 0) rfl 1 1 [pv1_0] rfl)) rfl ?_
  refine lq (q_lenR Sl_29 rfl rfl ph1_0) rfl ?_
  refine lq (q_neq rfl rfl) rfl ?_
  refine lq (q_assign rfl) rfl ?_
  refine WL.nil ?_
  refine WT.cond rfl (fun c2 => ?_) (fun c2 => ?_)
  · replace h := ite_t h c2
    refine WT.seq ?_
    refine WT.region ?_
    refine lq (q_fieldAddr Fld_32_1 rfl) rfl ?_
    refine lq (q_load1 T1_29 rfl (fun w1 hw => hw.rgO (i := 1) rfl 1 1 [pv0_0] rfl)) rfl ?_
    refine lq (q_lenR Sl_29 rfl rfl ph0_0) rfl ?_
    refine lq (q_fieldAddr Fld_32_1 rfl) rfl ?_
    refine lq (q_load1 T1_29 rfl (fun w1 hw => hw.rgO (i := 0) rfl 1 1 [pv1_0] rfl)) rfl ?_
    refine lq (q_lenR Sl_29 rfl rfl ph1_0) rfl ?_
    refine lq (q_lss rfl rfl) rfl ?_
    refine lq (q_assign rfl) rfl ?_
    refine WL.nil ?_
    refine WT.ret Try.func23 (resOk.one rfl) (fun w1 hw => ?_)
    subst hb0
    cases h
    exact post_of_St hw
  replace h := ite_f h c2
  refine WT.skip ?_
  refine WT.inBlock ?_
  refine WT.seq ?_
  refine WT.seq ?_
  refine WT.region ?_
  refine lq (q_assign rfl) rfl ?_
  refine WL.nil ?_
  refine WT.block ?_
  refine WT.loop ?_
  refine WT.mono (l' := [(2, .pointer (some ⟨b_1, 0, none⟩)), (3, .pointer (some ⟨b_2, 0, none⟩)), (5, .int .i64 0)]) (S' := St w0 Φ [(b_2, .cells #[.int .i64 p1.Rule, pv1_0, pv1_1] 32 (0, 0)), (b_1, .cells #[.int .i64 p0.Rule, pv0_0, pv0_1] 32 (0, 0))] []) ⟨rfl, rfl, rfl, trivial⟩ (fun w1 hw => (hw.sel (js := []) rfl).selO (js := [0, 0]) rfl) ?_
  refine loop_ind (σ := Int) (fun s => [(2, .pointer (some ⟨b_1, 0, none⟩)), (3, .pointer (some ⟨b_2, 0, none⟩)), (5, .int .i64 s)]) (fun s => St w0 Φ [(b_2, .cells #[.int .i64 p1.Rule, pv1_0, pv1_1] 32 (0, 0)), (b_1, .cells #[.int .i64 p0.Rule, pv0_0, pv0_1] 32 (0, 0))] []) (fun m s => m_s_LessMatch_l1 N p0 p1 m s = some r) (fun s hm => none_ne (show (none : Option (Bool)) = some r from hm)) (fun n1 ih1 s hm => ?_) N (0) h
  revert hm; revert s; intro s1 hm
  have h : m_s_LessMatch_l1 N p0 p1 (n1 + 1) s1 = some r := hm
  show WT _ _ [(2, .pointer (some ⟨b_1, 0, none⟩)), (3, .pointer (some ⟨b_2, 0, none⟩)), (5, .int .i64 s1)] (St w0 Φ [(b_2, .cells #[.int .i64 p1.Rule, pv1_0, pv1_1] 32 (0, 0)), (b_1, .cells #[.int .i64 p0.Rule, pv0_0, pv0_1] 32 (0, 0))] [])
  unfold m_s_LessMatch_l1 at h
  refine WT.seq ?_
  refine WT.seq ?_
  refine WT.region ?_
  refine lq (q_move rfl) rfl ?_
  refine lq (q_fieldAddr Fld_32_1 rfl) rfl ?_
  refine lq (q_load1 T1_29 rfl (fun w1 hw => hw.rgO (i := 1) rfl 1 1 [pv0_0] rfl)) rfl ?_
  refine lq (q_lenR Sl_29 rfl rfl ph0_0) rfl ?_
  refine lq (q_lss rfl rfl) rfl ?_
  refine WL.nil ?_
  refine WT.cond rfl (fun c3 => ?_) (fun c3 => ?_)
  · replace h := ite_t h c3
    refine WT.skip ?_
    refine WT.seq ?_
    refine WT.block ?_
    refine WT.seq ?_
    refine WT.draw mixed (by kernel_rfl) (fun _ h => h.drew) ?_
    refine qq (q_fieldAddr Fld_32_1 rfl) rfl ?_
    refine qq (q_load1 T1_29 rfl (fun w1 hw => hw.rgO (i := 1) rfl 1 1 [pv0_0] rfl)) rfl ?_
    refine qq (q_move rfl) rfl ?_
    obtain ⟨x1, hx1, h⟩ := bind_some h
    obtain ⟨cs1, F1, -, g1, hb1, hs1, r1⟩ := ph0_0.el (idx_some hx1).2.2
    obtain ⟨rfl, -⟩ := r1
    refine qq (q_indexAddr Sl_29 rfl rfl ph0_0 hx1) rfl ?_
    refine qq (q_load1 T1_3 rfl (fun w1 hw => (g1.of_eq 0 1 rfl rfl : rg _ _ _ [.int .i64 x1]).rangeAt hw.fro)) rfl ?_
    refine qq (q_fieldAddr Fld_32_1 rfl) rfl ?_
    refine qq (q_load1 T1_29 rfl (fun w1 hw => hw.rgO (i := 0) rfl 1 1 [pv1_0] rfl)) rfl ?_
    refine qq (q_move rfl) rfl ?_
    obtain ⟨x2, hx2, h⟩ := bind_some h
    obtain ⟨cs2, F2, -, g2, hb2, hs2, r2⟩ := ph1_0.el (idx_some hx2).2.2
    obtain ⟨rfl, -⟩ := r2
    refine qq (q_indexAddr Sl_29 rfl rfl ph1_0 hx2) rfl ?_
    refine qq (q_load1 T1_3 rfl (fun w1 hw => (g2.of_eq 0 1 rfl rfl : rg _ _ _ [.int .i64 x2]).rangeAt hw.fro)) rfl ?_
    refine qq (q_neq rfl rfl) rfl ?_
    refine WQ.nil ?_
    refine WT.cond rfl (fun c4 => ?_) (fun c4 => ?_)
    · replace h := ite_t h c4
      refine WT.seq ?_
      refine WT.draw mixed (by kernel_rfl) (fun _ h => h.drew) ?_
      refine qq (q_fieldAddr Fld_32_1 rfl) rfl ?_
      refine qq (q_load1 T1_29 rfl (fun w1 hw => hw.rgO (i := 1) rfl 1 1 [pv0_0] rfl)) rfl ?_
      refine qq (q_move rfl) rfl ?_
      obtain ⟨x3, hx3, h⟩ := bind_some h
      obtain ⟨cs3, F3, -, g3, hb3, hs3, r3⟩ := ph0_0.el (idx_some hx3).2.2
      obtain ⟨rfl, -⟩ := r3
      refine qq (q_indexAddr Sl_29 rfl rfl ph0_0 hx3) rfl ?_
      refine qq (q_load1 T1_3 rfl (fun w1 hw => (g3.of_eq 0 1 rfl rfl : rg _ _ _ [.int .i64 x3]).rangeAt hw.fro)) rfl ?_
      refine qq (q_fieldAddr Fld_32_1 rfl) rfl ?_
      refine qq (q_load1 T1_29 rfl (fun w1 hw => hw.rgO (i := 0) rfl 1 1 [pv1_0] rfl)) rfl ?_
      refine qq (q_move rfl) rfl ?_
      obtain ⟨x4, hx4, h⟩ := bind_some h
      obtain ⟨cs4, F4, -, g4, hb4, hs4, r4⟩ := ph1_0.el (idx_some hx4).2.2
      obtain ⟨rfl, -⟩ := r4
      refine qq (q_indexAddr Sl_29 rfl rfl ph1_0 hx4) rfl ?_
      refine qq (q_load1 T1_3 rfl (fun w1 hw => (g4.of_eq 0 1 rfl rfl : rg _ _ _ [.int .i64 x4]).rangeAt hw.fro)) rfl ?_
      refine qq (q_lss rfl rfl) rfl ?_
      refine qq (q_assign rfl) rfl ?_
      refine WQ.nil ?_
      refine WT.ret Try.func23 (resOk.one rfl) (fun w1 hw => ?_)
      subst hb0
      cases h
      exact post_of_St hw
    replace h := ite_f h c4
    refine WT.skip ?_
    refine WT.inBlock ?_
    refine WT.region ?_
    refine lq (q_move rfl) rfl ?_
    refine lq (q_add rfl rfl) rfl ?_
    refine lq (q_assign rfl) rfl ?_
    refine WL.nil ?_
    refine WT.inLoop (WT.mono (l' := [(2, .pointer (some ⟨b_1, 0, none⟩)), (3, .pointer (some ⟨b_2, 0, none⟩)), (5, .int .i64 (IntKind.i64.wrap (s1 + 1)))]) (S' := St w0 Φ [(b_2, .cells #[.int .i64 p1.Rule, pv1_0, pv1_1] 32 (0, 0)), (b_1, .cells #[.int .i64 p0.Rule, pv0_0, pv0_1] 32 (0, 0))] []) ⟨rfl, rfl, rfl, trivial⟩ (fun w1 hw => (hw.sel (js := []) rfl).selO (js := [0, 0]) rfl) ?_)
    exact ih1 (IntKind.i64.wrap (s1 + 1)) h
  replace h := ite_f h c3
  refine WT.exit rfl ?_
  refine WT.seq ?_
  refine WT.region ?_
  refine lq (q_assign rfl) rfl ?_
  refine WL.nil ?_
  refine WT.ret Try.func23 (resOk.one rfl) (fun w1 hw => ?_)
  subst hb0
  cases h
  exact post_of_St hw
theorem m_l_FnMatchOrder_ok {Φ : Hp} {w : World} (hΦ : In Φ w) (N : Nat) (p0 : (List Int)) {pv0 : Value} {pG0 : List Nat} (ph0 : RSl (RI .u8) 1 Φ pG0 pv0 p0) {r : Bool} (h : m_l_FnMatchOrder N p0 = some r) :
    Calls Try.prog 4 [pv0].toArray w (Post (.bool r) w) := by
  refine enter Try.func4 rfl Try.ntmps4 rfl (St.start0 hΦ) ?_
  unfold m_l_FnMatchOrder at h
  refine WT.seq ?_
  refine WT.region ?_
  refine lq (q_assign rfl) rfl ?_
  refine WL.nil ?_
  refine WT.seq ?_
  refine WT.seq ?_
  refine WT.region ?_
  refine lq (q_move rfl) rfl ?_
  obtain ⟨x1, hx1, h⟩ := bind_some h
  refine lp (p_call Fun_14 rfl (fun w1 hw => m_l_big_ok hw.fro N p0 ph0 hx1)) rfl ?_
  refine WL.nil ?_
  refine WT.cond rfl (fun c1 => ?_) (fun c1 => ?_)
  · replace h := ite_t h c1
    refine WT.seq ?_
    refine WT.region ?_
    refine lq (q_assign rfl) rfl ?_
    refine WL.nil ?_
    refine WT.ret Try.func4 (resOk.one rfl) (fun w1 hw => ?_)
    cases h
    exact post_of_St hw
  replace h := ite_f h c1
  refine WT.skip ?_
  refine WT.seq ?_
  refine WT.region ?_
  refine lq (q_move rfl) rfl ?_
  obtain ⟨x2, hx2, h⟩ := bind_some h
  refine lc (k_call (js := []) (R := []) Fun_21 rfl rfl (fun w1 hw ap hl => m_s_DrawLessMatch_ok hw.fro N p0 ph0  hx2)) rfl (fun v1 Φ_1 F1 q1 => ?_)
  obtain ⟨ap1, fr1, v2, G1, v3, G2, v4, G3, v5, G4, X1, rfl, rfl, h1, i1, h2, i2, h3, i3, h4, i4⟩ := q1
  refine lq (q_move rfl) rfl ?_
  refine lq (q_extract rfl rfl) rfl ?_
  refine lq (q_extract rfl rfl) rfl ?_
  refine ln (n_alloc (C := #[.int .i64 0, .slice none 0 0, .slice none 0 0]) Zr_32 rfl) rfl (fun b_1 => ?_)
  refine ln (n_alloc (C := #[.int .i64 0, .slice none 0 0, .slice none 0 0]) Zr_32 rfl) rfl (fun b_2 => ?_)
  refine ls (s_store (i := 1) (vs := [.int .i64 x2.1.Rule, v2, v3]) (C' := [.int .i64 x2.1.Rule, v2, v3]) (O' := [(b_2, .cells #[.int .i64 0, .slice none 0 0, .slice none 0 0] 32 (0, 0)), (b_1, .cells #[.int .i64 x2.1.Rule, v2, v3] 32 (0, 0))]) Sz_32 rfl rfl rfl rfl rfl rfl ⟨rfl, h1.one, h2.one, trivial⟩ rfl rfl) rfl ?_
  refine ls (s_store (i := 0) (vs := [.int .i64 x2.2.Rule, v4, v5]) (C' := [.int .i64 x2.2.Rule, v4, v5]) (O' := [(b_2, .cells #[.int .i64 x2.2.Rule, v4, v5] 32 (0, 0)), (b_1, .cells #[.int .i64 x2.1.Rule, v2, v3] 32 (0, 0))]) Sz_32 rfl rfl rfl rfl rfl rfl ⟨rfl, h3.one, h4.one, trivial⟩ rfl rfl) rfl ?_
  refine WL.nil ?_
  refine WT.seq ?_
  refine WT.region ?_
  refine lq (q_loadN Tn_32 rfl (fun w1 hw => hw.rgO (i := 1) rfl 0 3 [.int .i64 x2.1.Rule, v2, v3] rfl) rfl) rfl ?_
  refine lq (q_loadN Tn_32 rfl (fun w1 hw => hw.rgO (i := 0) rfl 0 3 [.int .i64 x2.2.Rule, v4, v5] rfl) rfl) rfl ?_
  obtain ⟨x4, hx3, h⟩ := bind_some h
  refine lp (p_call Fun_22 rfl (fun w1 hw => m_i_LessMatch_ok hw.fro N x2.1 x2.2 h1 h2 h3 h4 hx3)) rfl ?_
  refine lq (q_assign rfl) rfl ?_
  refine WL.nil ?_
  refine WT.seq ?_
  refine WT.region ?_
  refine lq (q_loadN Tn_32 rfl (fun w1 hw => hw.rgO (i := 0) rfl 0 3 [.int .i64 x2.2.Rule, v4, v5] rfl) rfl) rfl ?_
  refine lq (q_loadN Tn_32 rfl (fun w1 hw => hw.rgO (i := 1) rfl 0 3 [.int .i64 x2.1.Rule, v2, v3] rfl) rfl) rfl ?_
  obtain ⟨x5, hx4, h⟩ := bind_some h
  refine lp (p_call Fun_22 rfl (fun w1 hw => m_i_LessMatch_ok hw.fro N x2.2 x2.1 h3 h4 h1 h2 hx4)) rfl ?_
  refine lq (q_assign rfl) rfl ?_
  refine WL.nil ?_
  refine WT.seq ?_
  refine WT.region ?_
  refine lq (q_move rfl) rfl ?_
  refine lq (q_move rfl) rfl ?_
  obtain ⟨b1, hb_1, h⟩ := bind_some h
  refine WL.cutN 2 [(23, .bool b1), (3, .pointer (some ⟨b_1, 0, none⟩)), (4, .pointer (some ⟨b_2, 0, none⟩)), (5, .bool x4), (6, .bool x5)] ?_ (fun K => ?_)
  rotate_left
  · refine WL.split (d := 21) rfl (fun c2 => ?_) (fun c2 => ?_)
    · replace hb_1 := ite_t hb_1 c2
      refine WL.yes rfl rfl ?_
      refine lq (q_move rfl) rfl ?_
      refine WL.q (q_pick1 rfl rfl) rfl rfl rfl ?_
      cases hb_1
      exact WL.keep (by exact ⟨rfl, rfl, rfl, rfl, rfl, trivial⟩) K
    · replace hb_1 := ite_f hb_1 c2
      refine WL.no rfl rfl rfl rfl ?_
      refine WL.q (q_pick0 rfl rfl) rfl rfl rfl ?_
      cases hb_1
      exact WL.keep (by exact ⟨rfl, rfl, rfl, rfl, rfl, trivial⟩) K
  refine lq (q_not rfl) rfl ?_
  refine lq (q_move rfl) rfl ?_
  obtain ⟨b2, hb_2, h⟩ := bind_some h
  refine WL.cutN 9 [(34, .bool b2), (3, .pointer (some ⟨b_1, 0, none⟩)), (4, .pointer (some ⟨b_2, 0, none⟩)), (5, .bool x4)] ?_ (fun K => ?_)
  rotate_left
  · refine WL.split (d := 25) rfl (fun c3 => ?_) (fun c3 => ?_)
    · replace hb_2 := ite_t hb_2 c3
      refine WL.yes rfl rfl ?_
      refine lq (q_move rfl) rfl ?_
      refine WL.yes rfl rfl ?_
      refine lq (q_move rfl) rfl ?_
      obtain ⟨b3, hb_3, hb_2⟩ := bind_some hb_2
      refine WL.cutN 2 [(29, .bool b3), (3, .pointer (some ⟨b_1, 0, none⟩)), (4, .pointer (some ⟨b_2, 0, none⟩)), (5, .bool x4), (25, .bool true)] ?_ (fun K => ?_)
      rotate_left
      · refine WL.split (d := 27) rfl (fun c4 => ?_) (fun c4 => ?_)
        · replace hb_3 := ite_t hb_3 c4
          refine WL.no rfl rfl rfl rfl ?_
          refine WL.yes rfl rfl ?_
          refine WL.q (q_pick1 rfl rfl) rfl rfl rfl ?_
          cases hb_3
          exact WL.keep (by exact ⟨rfl, rfl, rfl, rfl, rfl, trivial⟩) K
        · replace hb_3 := ite_f hb_3 c4
          refine WL.yes rfl rfl ?_
          refine lq (q_move rfl) rfl ?_
          refine WL.yes rfl rfl ?_
          refine WL.q (q_pick0 rfl rfl) rfl rfl rfl ?_
          cases hb_3
          exact WL.keep (by exact ⟨rfl, rfl, rfl, rfl, rfl, trivial⟩) K
      refine WL.yes rfl rfl ?_
      refine lq (q_loadN Tn_32 rfl (fun w1 hw => hw.rgO (i := 1) rfl 0 3 [.int .i64 x2.1.Rule, v2, v3] rfl) rfl) rfl ?_
      refine WL.yes rfl rfl ?_
      refine lq (q_loadN Tn_32 rfl (fun w1 hw => hw.rgO (i := 0) rfl 0 3 [.int .i64 x2.2.Rule, v4, v5] rfl) rfl) rfl ?_
      refine WL.yes rfl rfl ?_
      obtain ⟨x6, hx5, hb_2⟩ := bind_some hb_2
      refine lp (p_call Fun_18 rfl (fun w1 hw => m_i_SameMatch_ok hw.fro N x2.1 x2.2 h1 h2 h3 h4 hx5)) rfl ?_
      refine WL.yes rfl rfl ?_
      refine lq (q_bne Bo_4 rfl rfl) rfl ?_
      refine WL.q (q_pick1 rfl rfl) rfl rfl rfl ?_
      cases hb_2
      exact WL.keep (by exact ⟨rfl, rfl, rfl, rfl, trivial⟩) K
    · replace hb_2 := ite_f hb_2 c3
      refine WL.no rfl rfl rfl rfl ?_
      refine WL.no rfl rfl rfl rfl ?_
      refine WL.nox rfl rfl rfl rfl ?_
      refine WL.no rfl rfl rfl rfl ?_
      refine WL.no rfl rfl rfl rfl ?_
      refine WL.no rfl rfl rfl rfl ?_
      refine WL.no rfl rfl rfl rfl ?_
      refine WL.no rfl rfl rfl rfl ?_
      refine WL.q (q_pick0 rfl rfl) rfl rfl rfl ?_
      cases hb_2
      exact WL.keep (by exact ⟨rfl, rfl, rfl, rfl, trivial⟩) K
  refine lq (q_move rfl) rfl ?_
  obtain ⟨b4, hb_4, h⟩ := bind_some h
  refine WL.cutN 6 [(41, .bool b4)] ?_ (fun K => ?_)
  rotate_left
  · refine WL.split (d := 35) rfl (fun c5 => ?_) (fun c5 => ?_)
    · replace hb_4 := ite_t hb_4 c5
      refine WL.yes rfl rfl ?_
      refine lq (q_move rfl) rfl ?_
      refine WL.yes rfl rfl ?_
      refine lq (q_loadN Tn_32 rfl (fun w1 hw => hw.rgO (i := 1) rfl 0 3 [.int .i64 x2.1.Rule, v2, v3] rfl) rfl) rfl ?_
      refine WL.yes rfl rfl ?_
      refine lq (q_loadN Tn_32 rfl (fun w1 hw => hw.rgO (i := 0) rfl 0 3 [.int .i64 x2.2.Rule, v4, v5] rfl) rfl) rfl ?_
      refine WL.yes rfl rfl ?_
      obtain ⟨x7, hx6, hb_4⟩ := bind_some hb_4
      refine lp (p_call Fun_23 rfl (fun w1 hw => m_s_LessMatch_ok hw.fro N x2.1 x2.2 h1 h2 h3 h4 hx6)) rfl ?_
      refine WL.yes rfl rfl ?_
      refine lq (q_beq Bo_4 rfl rfl) rfl ?_
      refine WL.q (q_pick1 rfl rfl) rfl rfl rfl ?_
      cases hb_4
      exact WL.keep (by exact ⟨rfl, trivial⟩) K
    · replace hb_4 := ite_f hb_4 c5
      refine WL.no rfl rfl rfl rfl ?_
      refine WL.no rfl rfl rfl rfl ?_
      refine WL.no rfl rfl rfl rfl ?_
      refine WL.no rfl rfl rfl rfl ?_
      refine WL.no rfl rfl rfl rfl ?_
      refine WL.q (q_pick0 rfl rfl) rfl rfl rfl ?_
      cases hb_4
      exact WL.keep (by exact ⟨rfl, trivial⟩) K
  refine lq (q_assign rfl) rfl ?_
  refine WL.nil ?_
  refine WT.ret Try.func4 (resOk.one rfl) (fun w1 hw => ?_)
  cases h
  exact post_of_St hw
theorem m_l_eqVal_ok {Φ : Hp} {w : World} (hΦ : In Φ w) (N : Nat) (p0 : TVal) (p1 : TVal)   {r : Bool} (h : m_l_eqVal N p0 p1 = some r) :
    Calls Try.prog 63 [.agg [.int .i64 p0.K, .int .i64 p0.N, .string p0.S].toArray, .agg [.int .i64 p1.K, .int .i64 p1.N, .string p1.S].toArray].toArray w (Post (.bool r) w) := by
  refine enter Try.func63 rfl Try.ntmps63 rfl (St.start0 hΦ) ?_
  unfold m_l_eqVal at h
  refine WT.seq ?_
  refine WT.region ?_
  refine ln (n_box (C := #[.int .i64 p0.K, .int .i64 p0.N, .string p0.S]) rfl rfl) rfl (fun b_1 => ?_)
  refine ln (n_box (C := #[.int .i64 p1.K, .int .i64 p1.N, .string p1.S]) rfl rfl) rfl (fun b_2 => ?_)
  refine lq (q_assign rfl) rfl ?_
  refine WL.nil ?_
  refine WT.seq ?_
  refine WT.seq ?_
  refine WT.region ?_
  refine lq (q_fieldAddr Fld_100_0 rfl) rfl ?_
  refine lq (q_load1 T1_3 rfl (fun w1 hw => hw.rgO (i := 1) rfl 0 1 [.int .i64 p0.K] rfl)) rfl ?_
  refine lq (q_fieldAddr Fld_100_0 rfl) rfl ?_
  refine lq (q_load1 T1_3 rfl (fun w1 hw => hw.rgO (i := 0) rfl 0 1 [.int .i64 p1.K] rfl)) rfl ?_
  refine lq (q_neq rfl rfl) rfl ?_
  refine WL.nil ?_
  refine WT.cond rfl (fun c1 => ?_) (fun c1 => ?_)
  · replace h := ite_t h c1
    refine WT.seq ?_
    refine WT.region ?_
    refine lq (q_assign rfl) rfl ?_
    refine WL.nil ?_
    refine WT.ret Try.func63 (resOk.one rfl) (fun w1 hw => ?_)
    cases h
    exact post_of_St hw
  replace h := ite_f h c1
  refine WT.skip ?_
  refine WT.seq ?_
  refine WT.seq ?_
  refine WT.region ?_
  refine lq (q_fieldAddr Fld_100_1 rfl) rfl ?_
  refine lq (q_load1 T1_3 rfl (fun w1 hw => hw.rgO (i := 1) rfl 1 1 [.int .i64 p0.N] rfl)) rfl ?_
  refine lq (q_fieldAddr Fld_100_1 rfl) rfl ?_
  refine lq (q_load1 T1_3 rfl (fun w1 hw => hw.rgO (i := 0) rfl 1 1 [.int .i64 p1.N] rfl)) rfl ?_
  refine lq (q_neq rfl rfl) rfl ?_
  refine WL.nil ?_
  refine WT.cond rfl (fun c2 => ?_) (fun c2 => ?_)
  · replace h := ite_t h c2
    refine WT.seq ?_
    refine WT.region ?_
    refine lq (q_assign rfl) rfl ?_
    refine WL.nil ?_
    refine WT.ret Try.func63 (resOk.one rfl) (fun w1 hw => ?_)
    cases h
    exact post_of_St hw
  replace h := ite_f h c2
  refine WT.skip ?_
  refine WT.seq ?_
  refine WT.seq ?_
  refine WT.region ?_
  refine lq (q_fieldAddr Fld_100_2 rfl) rfl ?_
  refine lq (q_load1 T1_9 rfl (fun w1 hw => hw.rgO (i := 1) rfl 2 1 [.string p0.S] rfl)) rfl ?_
  refine lq (q_fieldAddr Fld_100_2 rfl) rfl ?_
  refine lq (q_load1 T1_9 rfl (fun w1 hw => hw.rgO (i := 0) rfl 2 1 [.string p1.S] rfl)) rfl ?_
  refine lq (q_sne rfl rfl) rfl ?_
  refine WL.nil ?_
  refine WT.cond rfl (fun c3 => ?_) (fun c3 => ?_)
  · replace h := ite_t h c3
    refine WT.seq ?_
    refine WT.region ?_
    refine lq (q_assign rfl) rfl ?_
    refine WL.nil ?_
    refine WT.ret Try.func63 (resOk.one rfl) (fun w1 hw => ?_)
    cases h
    exact post_of_St hw
  replace h := ite_f h c3
  refine WT.skip ?_
  refine WT.seq ?_
  refine WT.region ?_
  refine lq (q_assign rfl) rfl ?_
  refine WL.nil ?_
  refine WT.ret Try.func63 (resOk.one rfl) (fun w1 hw => ?_)
  cases h
  exact post_of_St hw
theorem m_l_eqValS_ok {Φ : Hp} {w : World} (hΦ : In Φ w) (N : Nat) (p0 : (List TVal)) (p1 : (List TVal)) {pv0 : Value} {pG0 : List Nat} {pv1 : Value} {pG1 : List Nat} (ph0 : RSl RTVal 3 Φ pG0 pv0 p0) (ph1 : RSl RTVal 3 Φ pG1 pv1 p1) {r : Bool} (h : m_l_eqValS N p0 p1 = some r) :
    Calls Try.prog 84 [pv0, pv1].toArray w (Post (.bool r) w) := by
  refine enter Try.func84 rfl Try.ntmps84 rfl (St.start0 hΦ) ?_
  generalize hb0 : (⟨w, [], Φ⟩ : Base) = w0
  unfold m_l_eqValS at h
  refine WT.seq ?_
  refine WT.region ?_
  refine lq (q_assign rfl) rfl ?_
  refine WL.nil ?_
  refine WT.seq ?_
  refine WT.seq ?_
  refine WT.region ?_
  refine lq (q_move rfl) rfl ?_
  refine lq (q_lenR Sl_44 rfl rfl ph0) rfl ?_
  refine lq (q_move rfl) rfl ?_
  refine lq (q_lenR Sl_44 rfl rfl ph1) rfl ?_
  refine lq (q_neq rfl rfl) rfl ?_
  refine WL.nil ?_
  refine WT.cond rfl (fun c1 => ?_) (fun c1 => ?_)
  · replace h := ite_t h c1
    refine WT.seq ?_
    refine WT.region ?_
    refine lq (q_assign rfl) rfl ?_
    refine WL.nil ?_
    refine WT.ret Try.func84 (resOk.one rfl) (fun w1 hw => ?_)
    subst hb0
    cases h
    exact post_of_St hw
  replace h := ite_f h c1
  refine WT.skip ?_
  refine WT.seq ?_
  refine WT.seq ?_
  refine WT.region ?_
  refine lq (q_assign rfl) rfl ?_
  refine WL.nil ?_
  refine WT.block ?_
  refine WT.loop ?_
  refine WT.mono (l' := [(0, pv0), (1, pv1), (5, .int .i64 0)]) (S' := St w0 Φ [] []) ⟨rfl, rfl, rfl, trivial⟩ (fun w1 hw => (hw.sel (js := []) rfl).selO (js := []) rfl) ?_
  refine loop_ind (σ := Int) (fun s => [(0, pv0), (1, pv1), (5, .int .i64 s)]) (fun s => St w0 Φ [] []) (fun m s => m_l_eqValS_l1 N p0 p1 m s = some r) (fun s hm => none_ne (show (none : Option (Bool)) = some r from hm)) (fun n1 ih1 s hm => ?_) N (0) h
  revert hm; revert s; intro s1 hm
  have h : m_l_eqValS_l1 N p0 p1 (n1 + 1) s1 = some r := hm
  show WT _ _ [(0, pv0), (1, pv1), (5, .int .i64 s1)] (St w0 Φ [] [])
  unfold m_l_eqValS_l1 at h
  refine WT.seq ?_
  refine WT.seq ?_
  refine WT.region ?_
  refine lq (q_move rfl) rfl ?_
  refine lq (q_move rfl) rfl ?_
  refine lq (q_lenR Sl_44 rfl rfl ph0) rfl ?_
  refine lq (q_lss rfl rfl) rfl ?_
  refine WL.nil ?_
  refine WT.cond rfl (fun c2 => ?_) (fun c2 => ?_)
  · replace h := ite_t h c2
    refine WT.skip ?_
    refine WT.seq ?_
    refine WT.block ?_
    refine WT.seq ?_
    refine WT.draw mixed (by kernel_rfl) (fun _ h => h.drew) ?_
    refine qq (q_move rfl) rfl ?_
    refine qq (q_move rfl) rfl ?_
    obtain ⟨x1, hx1, h⟩ := bind_some h
    obtain ⟨cs1, F1, -, g1, hb1, hs1, r1⟩ := ph0.el (idx_some hx1).2.2
    obtain ⟨rfl, -⟩ := r1
    refine qq (q_indexAddr Sl_44 rfl rfl ph0 hx1) rfl ?_
    refine qq (q_loadN Tn_100 rfl (fun w1 hw => (g1.of_eq 0 3 rfl rfl : rg _ _ _ [.int .i64 x1.K, .int .i64 x1.N, .string x1.S]).rangeAt hw.fro) rfl) rfl ?_
    refine qq (q_move rfl) rfl ?_
    refine qq (q_move rfl) rfl ?_
    obtain ⟨x2, hx2, h⟩ := bind_some h
    obtain ⟨cs2, F2, -, g2, hb2, hs2, r2⟩ := ph1.el (idx_some hx2).2.2
    obtain ⟨rfl, -⟩ := r2
    refine qq (q_indexAddr Sl_44 rfl rfl ph1 hx2) rfl ?_
    refine qq (q_loadN Tn_100 rfl (fun w1 hw => (g2.of_eq 0 3 rfl rfl : rg _ _ _ [.int .i64 x2.K, .int .i64 x2.N, .string x2.S]).rangeAt hw.fro) rfl) rfl ?_
    obtain ⟨x3, hx3, h⟩ := bind_some h
    refine qp (p_call Fun_63 rfl (fun w1 hw => m_l_eqVal_ok hw.fro N x1 x2 hx3)) rfl ?_
    refine qq (q_not rfl) rfl ?_
    refine WQ.nil ?_
    refine WT.cond rfl (fun c3 => ?_) (fun c3 => ?_)
    · replace h := ite_t h c3
      refine WT.seq ?_
      refine WT.region ?_
      refine lq (q_assign rfl) rfl ?_
      refine WL.nil ?_
      refine WT.ret Try.func84 (resOk.one rfl) (fun w1 hw => ?_)
      subst hb0
      cases h
      exact post_of_St hw
    replace h := ite_f h c3
    refine WT.skip ?_
    refine WT.inBlock ?_
    refine WT.region ?_
    refine lq (q_move rfl) rfl ?_
    refine lq (q_add rfl rfl) rfl ?_
    refine lq (q_assign rfl) rfl ?_
    refine WL.nil ?_
    refine WT.inLoop (WT.mono (l' := [(0, pv0), (1, pv1), (5, .int .i64 (IntKind.i64.wrap (s1 + 1)))]) (S' := St w0 Φ [] []) ⟨rfl, rfl, rfl, trivial⟩ (fun w1 hw => (hw.sel (js := []) rfl).selO (js := []) rfl) ?_)
    exact ih1 (IntKind.i64.wrap (s1 + 1)) h
  replace h := ite_f h c2
  refine WT.exit rfl ?_
  refine WT.seq ?_
  refine WT.region ?_
  refine lq (q_assign rfl) rfl ?_
  refine WL.nil ?_
  refine WT.ret Try.func84 (resOk.one rfl) (fun w1 hw => ?_)
  subst hb0
  cases h
  exact post_of_St hw
theorem m_l_eqIntS_ok {Φ : Hp} {w : World} (hΦ : In Φ w) (N : Nat) (p0 : (List Int)) (p1 : (List Int)) {pv0 : Value} {pG0 : List Nat} {pv1 : Value} {pG1 : List Nat} (ph0 : RSl (RI .i64) 1 Φ pG0 pv0 p0) (ph1 : RSl (RI .i64) 1 Φ pG1 pv1 p1) {r : Bool} (h : m_l_eqIntS N p0 p1 = some r) :
    Calls Try.prog 85 [pv0, pv1].toArray w (Post (.bool r) w) := by
  refine enter Try.func85 rfl Try.ntmps85 rfl (St.start0 hΦ) ?_
  generalize hb0 : (⟨w, [], Φ⟩ : Base) = w0
  unfold m_l_eqIntS at h
  refine WT.seq ?_
  refine WT.region ?_
  refine lq (q_assign rfl) rfl ?_
  refine WL.nil ?_
  refine WT.seq ?_
  refine WT.seq ?_
  refine WT.region ?_
  refine lq (q_move rfl) rfl ?_
  refine lq (q_lenR Sl_29 rfl rfl ph0) rfl ?_
  refine lq (q_move rfl) rfl ?_
  refine lq (q_lenR Sl_29 rfl rfl ph1) rfl ?_
  refine lq (q_neq rfl rfl) rfl ?_
  refine WL.nil ?_
  refine WT.cond rfl (fun c1 => ?_) (fun c1 => ?_)
  · replace h := ite_t h c1
    refine WT.seq ?_
    refine WT.region ?_
    refine lq (q_assign rfl) rfl ?_
    refine WL.nil ?_
    refine WT.ret Try.func85 (resOk.one rfl) (fun w1 hw => ?_)
    subst hb0
    cases h
    exact post_of_St hw
  replace h := ite_f h c1
  refine WT.skip ?_
  refine WT.seq ?_
  refine WT.seq ?_
  refine WT.region ?_
  refine lq (q_assign rfl) rfl ?_
  refine WL.nil ?_
  refine WT.block ?_
  refine WT.loop ?_
  refine WT.mono (l' := [(0, pv0), (1, pv1), (5, .int .i64 0)]) (S' := St w0 Φ [] []) ⟨rfl, rfl, rfl, trivial⟩ (fun w1 hw => (hw.sel (js := []) rfl).selO (js := []) rfl) ?_
  refine loop_ind (σ := Int) (fun s => [(0, pv0), (1, pv1), (5, .int .i64 s)]) (fun s => St w0 Φ [] []) (fun m s => m_l_eqIntS_l1 N p0 p1 m s = some r) (fun s hm => none_ne (show (none : Option (Bool)) = some r from hm)) (fun n1 ih1 s hm => ?_) N (0) h
  revert hm; revert s; intro s1 hm
  have h : m_l_eqIntS_l1 N p0 p1 (n1 + 1) s1 = some r := hm
  show WT _ _ [(0, pv0), (1, pv1), (5, .int .i64 s1)] (St w0 Φ [] [])
  unfold m_l_eqIntS_l1 at h
  refine WT.seq ?_
  refine WT.seq ?_
  refine WT.region ?_
  refine lq (q_move rfl) rfl ?_
  refine lq (q_move rfl) rfl ?_
  refine lq (q_lenR Sl_29 rfl rfl ph0) rfl ?_
  refine lq (q_lss rfl rfl) rfl ?_
  refine WL.nil ?_
  refine WT.cond rfl (fun c2 => ?_) (fun c2 => ?_)
  · replace h := ite_t h c2
    refine WT.skip ?_
    refine WT.seq ?_
    refine WT.block ?_
    refine WT.seq ?_
    refine WT.draw mixed (by kernel_rfl) (fun _ h => h.drew) ?_
    refine qq (q_move rfl) rfl ?_
    refine qq (q_move rfl) rfl ?_
    obtain ⟨x1, hx1, h⟩ := bind_some h
    obtain ⟨cs1, F1, -, g1, hb1, hs1, r1⟩ := ph0.el (idx_some hx1).2.2
    obtain ⟨rfl, -⟩ := r1
    refine qq (q_indexAddr Sl_29 rfl rfl ph0 hx1) rfl ?_
    refine qq (q_load1 T1_3 rfl (fun w1 hw => (g1.of_eq 0 1 rfl rfl : rg _ _ _ [.int .i64 x1]).rangeAt hw.fro)) rfl ?_
    refine qq (q_move rfl) rfl ?_
    refine qq (q_move rfl) rfl ?_
    obtain ⟨x2, hx2, h⟩ := bind_some h
    obtain ⟨cs2, F2, -, g2, hb2, hs2, r2⟩ := ph1.el (idx_some hx2).2.2
    obtain ⟨rfl, -⟩ := r2
    refine qq (q_indexAddr Sl_29 rfl rfl ph1 hx2) rfl ?_
    refine qq (q_load1 T1_3 rfl (fun w1 hw => (g2.of_eq 0 1 rfl rfl : rg _ _ _ [.int .i64 x2]).rangeAt hw.fro)) rfl ?_
    refine qq (q_neq rfl rfl) rfl ?_
    refine WQ.nil ?_
    refine WT.cond rfl (fun c3 => ?_) (fun c3 => ?_)
    · replace h := ite_t h c3
      refine WT.seq ?_
      refine WT.region ?_
      refine lq (q_assign rfl) rfl ?_
      refine WL.nil ?_
      refine WT.ret Try.func85 (resOk.one rfl) (fun w1 hw => ?_)
      subst hb0
      cases h
      exact post_of_St hw
    replace h := ite_f h c3
    refine WT.skip ?_
    refine WT.inBlock ?_
    refine WT.region ?_
    refine lq (q_move rfl) rfl ?_
    refine lq (q_add rfl rfl) rfl ?_
    refine lq (q_assign rfl) rfl ?_
    refine WL.nil ?_
    refine WT.inLoop (WT.mono (l' := [(0, pv0), (1, pv1), (5, .int .i64 (IntKind.i64.wrap (s1 + 1)))]) (S' := St w0 Φ [] []) ⟨rfl, rfl, rfl, trivial⟩ (fun w1 hw => (hw.sel (js := []) rfl).selO (js := []) rfl) ?_)
    exact ih1 (IntKind.i64.wrap (s1 + 1)) h
  replace h := ite_f h c2
  refine WT.exit rfl ?_
  refine WT.seq ?_
  refine WT.region ?_
  refine lq (q_assign rfl) rfl ?_
  refine WL.nil ?_
  refine WT.ret Try.func85 (resOk.one rfl) (fun w1 hw => ?_)
  subst hb0
  cases h
  exact post_of_St hw
theorem m_l_eqAlpha_ok {Φ : Hp} {w : World} (hΦ : In Φ w) (N : Nat) (p0 : TAlpha) (p1 : TAlpha) {pv0_0 : Value} {pG0_0 : List Nat} {pv0_1 : Value} {pG0_1 : List Nat} {pv1_0 : Value} {pG1_0 : List Nat} {pv1_1 : Value} {pG1_1 : List Nat} (ph0_0 : RSl RTVal 3 Φ pG0_0 pv0_0 p0.Consts) (ph0_1 : RSl (RI .i64) 1 Φ pG0_1 pv0_1 p0.At) (ph1_0 : RSl RTVal 3 Φ pG1_0 pv1_0 p1.Consts) (ph1_1 : RSl (RI .i64) 1 Φ pG1_1 pv1_1 p1.At) {r : Bool} (h : m_l_eqAlpha N p0 p1 = some r) :
    Calls Try.prog 28 [.agg [.string p0.Kind, .int .i64 p0.N, pv0_0, pv0_1].toArray, .agg [.string p1.Kind, .int .i64 p1.N, pv1_0, pv1_1].toArray].toArray w (Post (.bool r) w) := by
  refine enter Try.func28 rfl Try.ntmps28 rfl (St.start0 hΦ) ?_
  unfold m_l_eqAlpha at h
  refine WT.seq ?_
  refine WT.region ?_
  refine ln (n_box (C := #[.string p0.Kind, .int .i64 p0.N, pv0_0, pv0_1]) rfl rfl) rfl (fun b_1 => ?_)
  refine ln (n_box (C := #[.string p1.Kind, .int .i64 p1.N, pv1_0, pv1_1]) rfl rfl) rfl (fun b_2 => ?_)
  refine lq (q_assign rfl) rfl ?_
  refine WL.nil ?_
  refine WT.seq ?_
  refine WT.seq ?_
  refine WT.region ?_
  refine lq (q_fieldAddr Fld_46_0 rfl) rfl ?_
  refine lq (q_load1 T1_9 rfl (fun w1 hw => hw.rgO (i := 1) rfl 0 1 [.string p0.Kind] rfl)) rfl ?_
  refine lq (q_fieldAddr Fld_46_0 rfl) rfl ?_
  refine lq (q_load1 T1_9 rfl (fun w1 hw => hw.rgO (i := 0) rfl 0 1 [.string p1.Kind] rfl)) rfl ?_
  refine lq (q_sne rfl rfl) rfl ?_
  refine WL.nil ?_
  refine WT.cond rfl (fun c1 => ?_) (fun c1 => ?_)
  · replace h := ite_t h c1
    refine WT.seq ?_
    refine WT.region ?_
    refine lq (q_assign rfl) rfl ?_
    refine WL.nil ?_
    refine WT.ret Try.func28 (resOk.one rfl) (fun w1 hw => ?_)
    cases h
    exact post_of_St hw
  replace h := ite_f h c1
  refine WT.skip ?_
  refine WT.seq ?_
  refine WT.seq ?_
  refine WT.region ?_
  refine lq (q_fieldAddr Fld_46_1 rfl) rfl ?_
  refine lq (q_load1 T1_3 rfl (fun w1 hw => hw.rgO (i := 1) rfl 1 1 [.int .i64 p0.N] rfl)) rfl ?_
  refine lq (q_fieldAddr Fld_46_1 rfl) rfl ?_
  refine lq (q_load1 T1_3 rfl (fun w1 hw => hw.rgO (i := 0) rfl 1 1 [.int .i64 p1.N] rfl)) rfl ?_
  refine lq (q_neq rfl rfl) rfl ?_
  refine WL.nil ?_
  refine WT.cond rfl (fun c2 => ?_) (fun c2 => ?_)
  · replace h := ite_t h c2
    refine WT.seq ?_
    refine WT.region ?_
    refine lq (q_assign rfl) rfl ?_
    refine WL.nil ?_
    refine WT.ret Try.func28 (resOk.one rfl) (fun w1 hw => ?_)
    cases h
    exact post_of_St hw
  replace h := ite_f h c2
  refine WT.skip ?_
  refine WT.seq ?_
  refine WT.seq ?_
  refine WT.region ?_
  refine lq (q_fieldAddr Fld_46_2 rfl) rfl ?_
  refine lq (q_load1 T1_44 rfl (fun w1 hw => hw.rgO (i := 1) rfl 2 1 [pv0_0] rfl)) rfl ?_
  refine lq (q_fieldAddr Fld_46_2 rfl) rfl ?_
  refine lq (q_load1 T1_44 rfl (fun w1 hw => hw.rgO (i := 0) rfl 2 1 [pv1_0] rfl)) rfl ?_
  obtain ⟨x1, hx1, h⟩ := bind_some h
  refine lp (p_call Fun_84 rfl (fun w1 hw => m_l_eqValS_ok hw.fro N p0.Consts p1.Consts ph0_0 ph1_0 hx1)) rfl ?_
  refine lq (q_not rfl) rfl ?_
  refine WL.nil ?_
  refine WT.cond rfl (fun c3 => ?_) (fun c3 => ?_)
  · replace h := ite_t h c3
    refine WT.seq ?_
    refine WT.region ?_
    refine lq (q_assign rfl) rfl ?_
    refine WL.nil ?_
    refine WT.ret Try.func28 (resOk.one rfl) (fun w1 hw => ?_)
    cases h
    exact post_of_St hw
  replace h := ite_f h c3
  refine WT.skip ?_
  refine WT.seq ?_
  refine WT.seq ?_
  refine WT.region ?_
  refine lq (q_fieldAddr Fld_46_3 rfl) rfl ?_
  refine lq (q_load1 T1_29 rfl (fun w1 hw => hw.rgO (i := 1) rfl 3 1 [pv0_1] rfl)) rfl ?_
  refine lq (q_fieldAddr Fld_46_3 rfl) rfl ?_
  refine lq (q_load1 T1_29 rfl (fun w1 hw => hw.rgO (i := 0) rfl 3 1 [pv1_1] rfl)) rfl ?_
  obtain ⟨x2, hx2, h⟩ := bind_some h
  refine lp (p_call Fun_85 rfl (fun w1 hw => m_l_eqIntS_ok hw.fro N p0.At p1.At ph0_1 ph1_1 hx2)) rfl ?_
  refine lq (q_not rfl) rfl ?_
  refine WL.nil ?_
  refine WT.cond rfl (fun c4 => ?_) (fun c4 => ?_)
  · replace h := ite_t h c4
    refine WT.seq ?_
    refine WT.region ?_
    refine lq (q_assign rfl) rfl ?_
    refine WL.nil ?_
    refine WT.ret Try.func28 (resOk.one rfl) (fun w1 hw => ?_)
    cases h
    exact post_of_St hw
  replace h := ite_f h c4
  refine WT.skip ?_
  refine WT.seq ?_
  refine WT.region ?_
  refine lq (q_assign rfl) rfl ?_
  refine WL.nil ?_
  refine WT.ret Try.func28 (resOk.one rfl) (fun w1 hw => ?_)
  cases h
  exact post_of_St hw
theorem m_l_szVal_ok {Φ : Hp} {w : World} (hΦ : In Φ w) (N : Nat) (p0 : TVal) (p1 : Int)   {r : Int} (h : m_l_szVal N p0 p1 = some r) :
    Calls Try.prog 122 [.agg [.int .i64 p0.K, .int .i64 p0.N, .string p0.S].toArray, .int .i64 p1].toArray w (Post (.int .i64 r) w) := by
  refine enter Try.func122 rfl Try.ntmps122 rfl (St.start0 hΦ) ?_
  unfold m_l_szVal at h
  refine WT.seq ?_
  refine WT.region ?_
  refine ln (n_box (C := #[.int .i64 p0.K, .int .i64 p0.N, .string p0.S]) rfl rfl) rfl (fun b_1 => ?_)
  refine lq (q_assign rfl) rfl ?_
  refine WL.nil ?_
  refine WT.seq ?_
  refine WT.region ?_
  refine lq (q_move rfl) rfl ?_
  refine lq (q_fieldAddr Fld_93_2 rfl) rfl ?_
  refine lq (q_load1 T1_9 rfl (fun w1 hw => hw.rgO (i := 0) rfl 2 1 [.string p0.S] rfl)) rfl ?_
  refine lq (q_lenS Str_9 rfl rfl) rfl ?_
  refine lq (q_sub rfl rfl) rfl ?_
  refine lq (q_assign rfl) rfl ?_
  refine WL.nil ?_
  refine WT.seq ?_
  refine WT.seq ?_
  refine WT.region ?_
  refine lq (q_move rfl) rfl ?_
  refine lq (q_lss rfl rfl) rfl ?_
  refine WL.nil ?_
  refine WT.cond rfl (fun c1 => ?_) (fun c1 => ?_)
  · replace h := ite_t h c1
    refine WT.seq ?_
    refine WT.region ?_
    refine lq (q_assign rfl) rfl ?_
    refine WL.nil ?_
    refine WT.ret Try.func122 (resOk.one rfl) (fun w1 hw => ?_)
    cases h
    exact post_of_St hw
  replace h := ite_f h c1
  refine WT.skip ?_
  refine WT.seq ?_
  refine WT.region ?_
  refine lq (q_move rfl) rfl ?_
  refine lq (q_assign rfl) rfl ?_
  refine WL.nil ?_
  refine WT.ret Try.func122 (resOk.one rfl) (fun w1 hw => ?_)
  cases h
  exact post_of_St hw
theorem m_l_szArg_ok {Φ : Hp} {w : World} (hΦ : In Φ w) (N : Nat) (p0 : TArg) (p1 : Int)   {r : Int} (h : m_l_szArg N p0 p1 = some r) :
    Calls Try.prog 103 [.agg [.int .i64 p0.K, .string p0.S, .int .i64 p0.V.K, .int .i64 p0.V.N, .string p0.V.S].toArray, .int .i64 p1].toArray w (Post (.int .i64 r) w) := by
  refine enter Try.func103 rfl Try.ntmps103 rfl (St.start0 hΦ) ?_
  unfold m_l_szArg at h
  refine WT.seq ?_
  refine WT.region ?_
  refine ln (n_box (C := #[.int .i64 p0.K, .string p0.S, .int .i64 p0.V.K, .int .i64 p0.V.N, .string p0.V.S]) rfl rfl) rfl (fun b_1 => ?_)
  refine lq (q_assign rfl) rfl ?_
  refine WL.nil ?_
  refine WT.seq ?_
  refine WT.region ?_
  refine lq (q_move rfl) rfl ?_
  refine lq (q_fieldAddr Fld_95_1 rfl) rfl ?_
  refine lq (q_load1 T1_9 rfl (fun w1 hw => hw.rgO (i := 0) rfl 1 1 [.string p0.S] rfl)) rfl ?_
  refine lq (q_lenS Str_9 rfl rfl) rfl ?_
  refine lq (q_sub rfl rfl) rfl ?_
  refine lq (q_assign rfl) rfl ?_
  refine WL.nil ?_
  refine WT.seq ?_
  refine WT.seq ?_
  refine WT.region ?_
  refine lq (q_move rfl) rfl ?_
  refine lq (q_lss rfl rfl) rfl ?_
  refine WL.nil ?_
  refine WT.cond rfl (fun c1 => ?_) (fun c1 => ?_)
  · replace h := ite_t h c1
    refine WT.seq ?_
    refine WT.region ?_
    refine lq (q_assign rfl) rfl ?_
    refine WL.nil ?_
    refine WT.ret Try.func103 (resOk.one rfl) (fun w1 hw => ?_)
    cases h
    exact post_of_St hw
  replace h := ite_f h c1
  refine WT.skip ?_
  refine WT.seq ?_
  refine WT.region ?_
  refine lq (q_fieldAddr Fld_95_2 rfl) rfl ?_
  refine lq (q_loadN Tn_93 rfl (fun w1 hw => hw.rgO (i := 0) rfl 2 3 [.int .i64 p0.V.K, .int .i64 p0.V.N, .string p0.V.S] rfl) rfl) rfl ?_
  refine lq (q_move rfl) rfl ?_
  obtain ⟨x1, hx1, h⟩ := bind_some h
  refine lp (p_call Fun_122 rfl (fun w1 hw => m_l_szVal_ok hw.fro N p0.V (IntKind.i64.wrap (p1 - (p0.S.size : Int))) hx1)) rfl ?_
  refine lq (q_assign rfl) rfl ?_
  refine WL.nil ?_
  refine WT.seq ?_
  refine WT.seq ?_
  refine WT.region ?_
  refine lq (q_move rfl) rfl ?_
  refine lq (q_lss rfl rfl) rfl ?_
  refine WL.nil ?_
  refine WT.cond rfl (fun c2 => ?_) (fun c2 => ?_)
  · replace h := ite_t h c2
    refine WT.seq ?_
    refine WT.region ?_
    refine lq (q_assign rfl) rfl ?_
    refine WL.nil ?_
    refine WT.ret Try.func103 (resOk.one rfl) (fun w1 hw => ?_)
    cases h
    exact post_of_St hw
  replace h := ite_f h c2
  refine WT.skip ?_
  refine WT.seq ?_
  refine WT.region ?_
  refine lq (q_move rfl) rfl ?_
  refine lq (q_assign rfl) rfl ?_
  refine WL.nil ?_
  refine WT.ret Try.func103 (resOk.one rfl) (fun w1 hw => ?_)
  cases h
  exact post_of_St hw
theorem m_l_szArgS_ok {Φ : Hp} {w : World} (hΦ : In Φ w) (N : Nat) (p0 : (List TArg)) (p1 : Int) {pv0 : Value} {pG0 : List Nat} (ph0 : RSl RTArg 5 Φ pG0 pv0 p0) {r : Int} (h : m_l_szArgS N p0 p1 = some r) :
    Calls Try.prog 95 [pv0, .int .i64 p1].toArray w (Post (.int .i64 r) w) := by
  refine enter Try.func95 rfl Try.ntmps95 rfl (St.start0 hΦ) ?_
  generalize hb0 : (⟨w, [], Φ⟩ : Base) = w0
  unfold m_l_szArgS at h
  refine WT.seq ?_
  refine WT.region ?_
  refine lq (q_assign rfl) rfl ?_
  refine WL.nil ?_
  refine WT.seq ?_
  refine WT.region ?_
  refine lq (q_move rfl) rfl ?_
  refine lq (q_move rfl) rfl ?_
  refine lq (q_lenR Sl_79 rfl rfl ph0) rfl ?_
  refine lq (q_sub rfl rfl) rfl ?_
  refine lq (q_assign rfl) rfl ?_
  refine WL.nil ?_
  refine WT.seq ?_
  refine WT.seq ?_
  refine WT.region ?_
  refine lq (q_move rfl) rfl ?_
  refine lq (q_lss rfl rfl) rfl ?_
  refine WL.nil ?_
  refine WT.cond rfl (fun c1 => ?_) (fun c1 => ?_)
  · replace h := ite_t h c1
    refine WT.seq ?_
    refine WT.region ?_
    refine lq (q_assign rfl) rfl ?_
    refine WL.nil ?_
    refine WT.ret Try.func95 (resOk.one rfl) (fun w1 hw => ?_)
    subst hb0
    cases h
    exact post_of_St hw
  replace h := ite_f h c1
  refine WT.skip ?_
  refine WT.seq ?_
  refine WT.seq ?_
  refine WT.region ?_
  refine lq (q_assign rfl) rfl ?_
  refine WL.nil ?_
  refine WT.block ?_
  refine WT.loop ?_
  refine WT.mono (l' := [(0, pv0), (1, .int .i64 (IntKind.i64.wrap (p1 - (p0.length : Int)))), (5, .int .i64 0)]) (S' := St w0 Φ [] []) ⟨rfl, rfl, rfl, trivial⟩ (fun w1 hw => (hw.sel (js := []) rfl).selO (js := []) rfl) ?_
  refine loop_ind (σ := Int × Int) (fun s => [(0, pv0), (1, .int .i64 s.1), (5, .int .i64 s.2)]) (fun s => St w0 Φ [] []) (fun m s => m_l_szArgS_l1 N p0 m s.1 s.2 = some r) (fun s hm => none_ne (show (none : Option (Int)) = some r from hm)) (fun n1 ih1 s hm => ?_) N (IntKind.i64.wrap (p1 - (p0.length : Int)), 0) h
  obtain ⟨s1, s2⟩ := s
  have h : m_l_szArgS_l1 N p0 (n1 + 1) s1 s2 = some r := hm
  show WT _ _ [(0, pv0), (1, .int .i64 s1), (5, .int .i64 s2)] (St w0 Φ [] [])
  unfold m_l_szArgS_l1 at h
  refine WT.seq ?_
  refine WT.seq ?_
  refine WT.region ?_
  refine lq (q_move rfl) rfl ?_
  refine lq (q_move rfl) rfl ?_
  refine lq (q_lenR Sl_79 rfl rfl ph0) rfl ?_
  refine lq (q_lss rfl rfl) rfl ?_
  refine WL.nil ?_
  refine WT.cond rfl (fun c2 => ?_) (fun c2 => ?_)
  · replace h := ite_t h c2
    refine WT.skip ?_
    refine WT.seq ?_
    refine WT.block ?_
    refine WT.seq ?_
    refine WT.region ?_
    refine lq (q_move rfl) rfl ?_
    refine lq (q_move rfl) rfl ?_
    obtain ⟨x1, hx1, h⟩ := bind_some h
    obtain ⟨cs1, F1, -, g1, hb1, hs1, r1⟩ := ph0.el (idx_some hx1).2.2
    obtain ⟨rfl, -⟩ := r1
    refine lq (q_indexAddr Sl_79 rfl rfl ph0 hx1) rfl ?_
    refine lq (q_loadN Tn_95 rfl (fun w1 hw => (g1.of_eq 0 5 rfl rfl : rg _ _ _ [.int .i64 x1.K, .string x1.S, .int .i64 x1.V.K, .int .i64 x1.V.N, .string x1.V.S]).rangeAt hw.fro) rfl) rfl ?_
    refine lq (q_move rfl) rfl ?_
    obtain ⟨x2, hx2, h⟩ := bind_some h
    refine lp (p_call Fun_103 rfl (fun w1 hw => m_l_szArg_ok hw.fro N x1 s1 hx2)) rfl ?_
    refine lq (q_assign rfl) rfl ?_
    refine WL.nil ?_
    refine WT.seq ?_
    refine WT.region ?_
    refine lq (q_move rfl) rfl ?_
    refine lq (q_lss rfl rfl) rfl ?_
    refine WL.nil ?_
    refine WT.cond rfl (fun c3 => ?_) (fun c3 => ?_)
    · replace h := ite_t h c3
      refine WT.seq ?_
      refine WT.region ?_
      refine lq (q_assign rfl) rfl ?_
      refine WL.nil ?_
      refine WT.ret Try.func95 (resOk.one rfl) (fun w1 hw => ?_)
      subst hb0
      cases h
      exact post_of_St hw
    replace h := ite_f h c3
    refine WT.skip ?_
    refine WT.inBlock ?_
    refine WT.region ?_
    refine lq (q_move rfl) rfl ?_
    refine lq (q_add rfl rfl) rfl ?_
    refine lq (q_assign rfl) rfl ?_
    refine WL.nil ?_
    refine WT.inLoop (WT.mono (l' := [(0, pv0), (1, .int .i64 x2), (5, .int .i64 (IntKind.i64.wrap (s2 + 1)))]) (S' := St w0 Φ [] []) ⟨rfl, rfl, rfl, trivial⟩ (fun w1 hw => (hw.sel (js := []) rfl).selO (js := []) rfl) ?_)
    exact ih1 (x2, IntKind.i64.wrap (s2 + 1)) h
  replace h := ite_f h c2
  refine WT.exit rfl ?_
  refine WT.seq ?_
  refine WT.region ?_
  refine lq (q_move rfl) rfl ?_
  refine lq (q_assign rfl) rfl ?_
  refine WL.nil ?_
  refine WT.ret Try.func95 (resOk.one rfl) (fun w1 hw => ?_)
  subst hb0
  cases h
  exact post_of_St hw
theorem m_l_szPat_ok {Φ : Hp} {w : World} (hΦ : In Φ w) (N : Nat) (p0 : TPat) (p1 : Int) {pv0_0 : Value} {pG0_0 : List Nat} (ph0_0 : RSl RTArg 5 Φ pG0_0 pv0_0 p0.Args) {r : Int} (h : m_l_szPat N p0 p1 = some r) :
    Calls Try.prog 49 [.agg [.string p0.Kind, pv0_0, .bool p0.Not].toArray, .int .i64 p1].toArray w (Post (.int .i64 r) w) := by
  refine enter Try.func49 rfl Try.ntmps49 rfl (St.start0 hΦ) ?_
  unfold m_l_szPat at h
  refine WT.seq ?_
  refine WT.region ?_
  refine ln (n_box (C := #[.string p0.Kind, pv0_0, .bool p0.Not]) rfl rfl) rfl (fun b_1 => ?_)
  refine lq (q_assign rfl) rfl ?_
  refine WL.nil ?_
  refine WT.seq ?_
  refine WT.region ?_
  refine lq (q_move rfl) rfl ?_
  refine lq (q_fieldAddr Fld_81_0 rfl) rfl ?_
  refine lq (q_load1 T1_9 rfl (fun w1 hw => hw.rgO (i := 0) rfl 0 1 [.string p0.Kind] rfl)) rfl ?_
  refine lq (q_lenS Str_9 rfl rfl) rfl ?_
  refine lq (q_sub rfl rfl) rfl ?_
  refine lq (q_assign rfl) rfl ?_
  refine WL.nil ?_
  refine WT.seq ?_
  refine WT.seq ?_
  refine WT.region ?_
  refine lq (q_move rfl) rfl ?_
  refine lq (q_lss rfl rfl) rfl ?_
  refine WL.nil ?_
  refine WT.cond rfl (fun c1 => ?_) (fun c1 => ?_)
  · replace h := ite_t h c1
    refine WT.seq ?_
    refine WT.region ?_
    refine lq (q_assign rfl) rfl ?_
    refine WL.nil ?_
    refine WT.ret Try.func49 (resOk.one rfl) (fun w1 hw => ?_)
    cases h
    exact post_of_St hw
  replace h := ite_f h c1
  refine WT.skip ?_
  refine WT.seq ?_
  refine WT.region ?_
  refine lq (q_fieldAddr Fld_81_1 rfl) rfl ?_
  refine lq (q_load1 T1_79 rfl (fun w1 hw => hw.rgO (i := 0) rfl 1 1 [pv0_0] rfl)) rfl ?_
  refine lq (q_move rfl) rfl ?_
  obtain ⟨x1, hx1, h⟩ := bind_some h
  refine lp (p_call Fun_95 rfl (fun w1 hw => m_l_szArgS_ok hw.fro N p0.Args (IntKind.i64.wrap (p1 - (p0.Kind.size : Int))) ph0_0 hx1)) rfl ?_
  refine lq (q_assign rfl) rfl ?_
  refine WL.nil ?_
  refine WT.seq ?_
  refine WT.seq ?_
  refine WT.region ?_
  refine lq (q_move rfl) rfl ?_
  refine lq (q_lss rfl rfl) rfl ?_
  refine WL.nil ?_
  refine WT.cond rfl (fun c2 => ?_) (fun c2 => ?_)
  · replace h := ite_t h c2
    refine WT.seq ?_
    refine WT.region ?_
    refine lq (q_assign rfl) rfl ?_
    refine WL.nil ?_
    refine WT.ret Try.func49 (resOk.one rfl) (fun w1 hw => ?_)
    cases h
    exact post_of_St hw
  replace h := ite_f h c2
  refine WT.skip ?_
  refine WT.seq ?_
  refine WT.region ?_
  refine lq (q_move rfl) rfl ?_
  refine lq (q_assign rfl) rfl ?_
  refine WL.nil ?_
  refine WT.ret Try.func49 (resOk.one rfl) (fun w1 hw => ?_)
  cases h
  exact post_of_St hw
theorem m_s_AlphaOf_ok {Φ : Hp} {w : World} (hΦ : In Φ w) (N : Nat) (p0 : TPat) {pv0_0 : Value} {pG0_0 : List Nat} (ph0_0 : RSl RTArg 5 Φ pG0_0 pv0_0 p0.Args) {r : TAlpha} (h : m_s_AlphaOf N p0 = some r) :
    Calls Try.prog 50 [.agg [.string p0.Kind, pv0_0, .bool p0.Not].toArray].toArray w (PostG Φ w [] (fun Φ' Fs v => ∃ (sr_0_0 : Value) (sr_0_1 : Value), v = .agg [.string r.Kind, .int .i64 r.N, sr_0_0, sr_0_1].toArray ∧ Fs = [ob sr_0_0, ob sr_0_1] ∧ OSl RTVal 100 3 Φ' [] sr_0_0 r.Consts ∧ OSl (RI .i64) 3 1 Φ' [] sr_0_1 r.At)) := by
  refine enter Try.func50 rfl Try.ntmps50 rfl (St.start0 hΦ) ?_
  have pa0_0 : Old ⟨w, [], Φ⟩ pG0_0 := Old.mk hΦ ph0_0.kn (Dj.empty _)
  revert pa0_0
  generalize hb0 : (⟨w, [], Φ⟩ : Base) = w0
  intro pa0_0
  unfold m_s_AlphaOf at h
  refine WT.seq ?_
  refine WT.region ?_
  refine ln (n_box (C := #[.string p0.Kind, pv0_0, .bool p0.Not]) rfl rfl) rfl (fun b_1 => ?_)
  refine ln (n_alloc (C := #[.string (⟨#[]⟩ : ByteArray), .int .i64 0, .slice none 0 0, .slice none 0 0]) Zr_46 rfl) rfl (fun b_2 => ?_)
  refine WL.nil ?_
  refine WT.seq ?_
  refine WT.region ?_
  refine lq (q_fieldAddr Fld_86_0 rfl) rfl ?_
  refine lq (q_load1 T1_9 rfl (fun w1 hw => hw.rgO (i := 1) rfl 0 1 [.string p0.Kind] rfl)) rfl ?_
  refine lq (q_fieldAddr Fld_86_1 rfl) rfl ?_
  refine lq (q_load1 T1_84 rfl (fun w1 hw => hw.rgO (i := 1) rfl 1 1 [pv0_0] rfl)) rfl ?_
  refine lq (q_lenR Sl_84 rfl rfl ph0_0) rfl ?_
  refine lq (q_build (vs := [(0, .string p0.Kind), (1, .int .i64 (p0.Args.length : Int))]) (C := #[.string p0.Kind, .int .i64 (p0.Args.length : Int), .slice none 0 0, .slice none 0 0]) Pl_46 Zr_46 rfl (fill_cons (cells := [.string ⟨#[]⟩, .int .i64 0, .slice none 0 0, .slice none 0 0]) (c := [.string p0.Kind]) (C' := [.string p0.Kind, .int .i64 0, .slice none 0 0, .slice none 0 0]) rfl rfl rfl rfl rfl (fill_cons (cells := [.string p0.Kind, .int .i64 0, .slice none 0 0, .slice none 0 0]) (c := [.int .i64 (p0.Args.length : Int)]) (C' := [.string p0.Kind, .int .i64 (p0.Args.length : Int), .slice none 0 0, .slice none 0 0]) rfl rfl rfl rfl rfl (fill_nil)))) rfl ?_
  refine ln (n_alloc (C := #[.string (⟨#[]⟩ : ByteArray), .int .i64 0, .slice none 0 0, .slice none 0 0]) Zr_46 rfl) rfl (fun b_3 => ?_)
  refine ls (s_store (i := 0) (vs := [.string p0.Kind, .int .i64 (p0.Args.length : Int), .slice none 0 0, .slice none 0 0]) (C' := [.string p0.Kind, .int .i64 (p0.Args.length : Int), .slice none 0 0, .slice none 0 0]) (O' := [(b_3, .cells #[.string p0.Kind, .int .i64 (p0.Args.length : Int), .slice none 0 0, .slice none 0 0] 46 (0, 0)), (b_2, .cells #[.string (⟨#[]⟩ : ByteArray), .int .i64 0, .slice none 0 0, .slice none 0 0] 46 (0, 0)), (b_1, .cells #[.string p0.Kind, pv0_0, .bool p0.Not] 86 (0, 0))]) Sz_46 rfl rfl rfl rfl rfl rfl ⟨rfl, rfl, rfl, rfl, trivial⟩ rfl rfl) rfl ?_
  refine WL.nil ?_
  refine WT.seq ?_
  refine WT.seq ?_
  refine WT.region ?_
  refine lq (q_assign rfl) rfl ?_
  refine WL.nil ?_
  refine WT.block ?_
  refine WT.loop ?_
  refine WT.conv (S' := St w0 Φ [(b_3, .cells #[.string p0.Kind, .int .i64 (p0.Args.length : Int), .slice none 0 0, .slice none 0 0] 46 (0, 0)), (b_2, .cells #[.string (⟨#[]⟩ : ByteArray), .int .i64 0, .slice none 0 0, .slice none 0 0] 46 (0, 0)), (b_1, .cells #[.string p0.Kind, pv0_0, .bool p0.Not] 86 (0, 0))] (ob (.slice none 0 0) :: [])) (fun w1 hw => hw.addNil) ?_
  have k1 := OSl.nil RTVal 100 3 Φ
  refine WT.conv (S' := St w0 Φ [(b_3, .cells #[.string p0.Kind, .int .i64 (p0.Args.length : Int), (.slice none 0 0), .slice none 0 0] 46 (0, 0)), (b_2, .cells #[.string (⟨#[]⟩ : ByteArray), .int .i64 0, .slice none 0 0, .slice none 0 0] 46 (0, 0)), (b_1, .cells #[.string p0.Kind, pv0_0, .bool p0.Not] 86 (0, 0))] (ob (.slice none 0 0) :: [ob (.slice none 0 0)])) (fun w1 hw => hw.addNil) ?_
  have k2 := OSl.nil (RI .i64) 3 1 Φ
  refine WT.mono (l' := [(1, .pointer (some ⟨b_1, 0, none⟩)), (2, .pointer (some ⟨b_2, 0, none⟩)), (3, .pointer (some ⟨b_3, 0, none⟩)), (4, .int .i64 0)]) (S' := St w0 Φ [(b_3, .cells #[.string p0.Kind, .int .i64 (p0.Args.length : Int), (.slice none 0 0), (.slice none 0 0)] 46 (0, 0)), (b_2, .cells #[.string (⟨#[]⟩ : ByteArray), .int .i64 0, .slice none 0 0, .slice none 0 0] 46 (0, 0)), (b_1, .cells #[.string p0.Kind, pv0_0, .bool p0.Not] 86 (0, 0))] [ob (.slice none 0 0), ob (.slice none 0 0)]) ⟨rfl, rfl, rfl, rfl, trivial⟩ (fun w1 hw => (hw.sel (js := [0, 0]) rfl).selO (js := [0, 0, 0]) rfl) ?_
  refine loop_ind (σ := Hp × (List TVal) × Value × (List Int) × Value × Int) (fun s => [(1, .pointer (some ⟨b_1, 0, none⟩)), (2, .pointer (some ⟨b_2, 0, none⟩)), (3, .pointer (some ⟨b_3, 0, none⟩)), (4, .int .i64 s.2.2.2.2.2)]) (fun s => St w0 s.1 [(b_3, .cells #[.string p0.Kind, .int .i64 (p0.Args.length : Int), s.2.2.1, s.2.2.2.2.1] 46 (0, 0)), (b_2, .cells #[.string (⟨#[]⟩ : ByteArray), .int .i64 0, .slice none 0 0, .slice none 0 0] 46 (0, 0)), (b_1, .cells #[.string p0.Kind, pv0_0, .bool p0.Not] 86 (0, 0))] [ob s.2.2.2.2.1, ob s.2.2.1]) (fun m s => m_s_AlphaOf_l1 N p0 m s.2.1 s.2.2.2.1 s.2.2.2.2.2 = some r ∧ (OSl RTVal 100 3 s.1 [] s.2.2.1 s.2.1) ∧ (OSl (RI .i64) 3 1 s.1 [] s.2.2.2.2.1 s.2.2.2.1) ∧ (RSl RTArg 5 s.1 pG0_0 pv0_0 p0.Args)) (fun s hm => none_ne (show (none : Option (TAlpha)) = some r from hm.1)) (fun n1 ih1 s hm => ?_) N (Φ, ([] : List TVal), (.slice none 0 0), ([] : List Int), (.slice none 0 0), 0) ⟨h, k1, k2, ph0_0⟩
  obtain ⟨Φ_1, s1, u1, s2, u2, s3⟩ := s
  obtain ⟨h, k3, k4, ph0_0⟩ := hm
  replace h : m_s_AlphaOf_l1 N p0 (n1 + 1) s1 s2 s3 = some r := h
  replace k3 : OSl RTVal 100 3 Φ_1 [] u1 s1 := k3
  replace k4 : OSl (RI .i64) 3 1 Φ_1 [] u2 s2 := k4
  replace ph0_0 : RSl RTArg 5 Φ_1 pG0_0 pv0_0 p0.Args := ph0_0
  show WT _ _ [(1, .pointer (some ⟨b_1, 0, none⟩)), (2, .pointer (some ⟨b_2, 0, none⟩)), (3, .pointer (some ⟨b_3, 0, none⟩)), (4, .int .i64 s3)] (St w0 Φ_1 [(b_3, .cells #[.string p0.Kind, .int .i64 (p0.Args.length : Int), u1, u2] 46 (0, 0)), (b_2, .cells #[.string (⟨#[]⟩ : ByteArray), .int .i64 0, .slice none 0 0, .slice none 0 0] 46 (0, 0)), (b_1, .cells #[.string p0.Kind, pv0_0, .bool p0.Not] 86 (0, 0))] [ob u2, ob u1])
  unfold m_s_AlphaOf_l1 at h
  refine WT.seq ?_
  refine WT.seq ?_
  refine WT.region ?_
  refine lq (q_move rfl) rfl ?_
  refine lq (q_fieldAddr Fld_86_1 rfl) rfl ?_
  refine lq (q_load1 T1_84 rfl (fun w1 hw => hw.rgO (i := 2) rfl 1 1 [pv0_0] rfl)) rfl ?_
  refine lq (q_lenR Sl_84 rfl rfl ph0_0) rfl ?_
  refine lq (q_lss rfl rfl) rfl ?_
  refine WL.nil ?_
  refine WT.cond rfl (fun c1 => ?_) (fun c1 => ?_)
  · replace h := ite_t h c1
    refine WT.skip ?_
    refine WT.seq ?_
    refine WT.block ?_
    refine WT.seq ?_
    refine WT.region ?_
    refine lq (q_fieldAddr Fld_86_1 rfl) rfl ?_
    refine lq (q_load1 T1_84 rfl (fun w1 hw => hw.rgO (i := 2) rfl 1 1 [pv0_0] rfl)) rfl ?_
    refine lq (q_move rfl) rfl ?_
    obtain ⟨x1, hx1, h⟩ := bind_some h
    obtain ⟨cs1, F1, -, g1, hb1, hs1, r1⟩ := ph0_0.el (idx_some hx1).2.2
    obtain ⟨rfl, -⟩ := r1
    refine lq (q_indexAddr Sl_84 rfl rfl ph0_0 hx1) rfl ?_
    refine lq (q_fieldAddr Fld_104_0 rfl) rfl ?_
    refine lq (q_load1 T1_3 rfl (fun w1 hw => (g1.of_eq 0 1 rfl rfl : rg _ _ _ [.int .i64 x1.K]).rangeAt hw.fro)) rfl ?_
    refine lq (q_eql rfl rfl) rfl ?_
    refine WL.nil ?_
    refine WT.cond rfl (fun c2 => ?_) (fun c2 => ?_)
    · replace h := ite_t h c2
      refine WT.seq ?_
      refine WT.mix (Kn Φ_1 pG0_0 [(b_3, .cells #[.string p0.Kind, .int .i64 (p0.Args.length : Int), u1, u2] 46 (0, 0)), (b_2, .cells #[.string (⟨#[]⟩ : ByteArray), .int .i64 0, .slice none 0 0, .slice none 0 0] 46 (0, 0)), (b_1, .cells #[.string p0.Kind, pv0_0, .bool p0.Not] 86 (0, 0))]) (fun i => match i with | 11 => false | _ => true) mixed (fun _ h => h.drew) ?_
      refine mq 0 rfl (by kernel_rfl) (fun w1 hw => Kn.of (fun _ _ _ h => h) (AllIn.mem ⟨List.mem_of_getElem? (i := 0) rfl, List.mem_of_getElem? (i := 1) rfl, List.mem_of_getElem? (i := 2) rfl, trivial⟩) hw) (q_fieldAddr Fld_46_2 rfl) rfl ?_
      refine mq 1 rfl (by kernel_rfl) (fun w1 hw => Kn.of (fun _ _ _ h => h) (AllIn.mem ⟨List.mem_of_getElem? (i := 0) rfl, List.mem_of_getElem? (i := 1) rfl, List.mem_of_getElem? (i := 2) rfl, trivial⟩) hw) (q_load1 T1_44 rfl (fun w1 hw => hw.rgO (i := 0) rfl 2 1 [u1] rfl)) rfl ?_
      refine mq 2 rfl (by kernel_rfl) (fun w1 hw => Kn.of (fun _ _ _ h => h) (AllIn.mem ⟨List.mem_of_getElem? (i := 0) rfl, List.mem_of_getElem? (i := 1) rfl, List.mem_of_getElem? (i := 2) rfl, trivial⟩) hw) (q_fieldAddr Fld_86_1 rfl) rfl ?_
      refine mq 3 rfl (by kernel_rfl) (fun w1 hw => Kn.of (fun _ _ _ h => h) (AllIn.mem ⟨List.mem_of_getElem? (i := 0) rfl, List.mem_of_getElem? (i := 1) rfl, List.mem_of_getElem? (i := 2) rfl, trivial⟩) hw) (q_load1 T1_84 rfl (fun w1 hw => hw.rgO (i := 2) rfl 1 1 [pv0_0] rfl)) rfl ?_
      refine mq 4 rfl (by kernel_rfl) (fun w1 hw => Kn.of (fun _ _ _ h => h) (AllIn.mem ⟨List.mem_of_getElem? (i := 0) rfl, List.mem_of_getElem? (i := 1) rfl, List.mem_of_getElem? (i := 2) rfl, trivial⟩) hw) (q_move rfl) rfl ?_
      obtain ⟨x2, hx2, h⟩ := bind_some h
      obtain ⟨cs2, F2, -, g2, hb2, hs2, r2⟩ := ph0_0.el (idx_some hx2).2.2
      obtain ⟨rfl, -⟩ := r2
      refine mq 5 rfl (by kernel_rfl) (fun w1 hw => Kn.of (fun _ _ _ h => h) (AllIn.mem ⟨List.mem_of_getElem? (i := 0) rfl, List.mem_of_getElem? (i := 1) rfl, List.mem_of_getElem? (i := 2) rfl, trivial⟩) hw) (q_indexAddr Sl_84 rfl rfl ph0_0 hx2) rfl ?_
      refine mq 6 rfl (by kernel_rfl) (fun w1 hw => Kn.of (fun _ _ _ h => h) (AllIn.mem ⟨List.mem_of_getElem? (i := 0) rfl, List.mem_of_getElem? (i := 1) rfl, List.mem_of_getElem? (i := 2) rfl, trivial⟩) hw) (q_fieldAddr Fld_104_2 rfl) rfl ?_
      refine mq 7 rfl (by kernel_rfl) (fun w1 hw => Kn.of (fun _ _ _ h => h) (AllIn.mem ⟨List.mem_of_getElem? (i := 0) rfl, List.mem_of_getElem? (i := 1) rfl, List.mem_of_getElem? (i := 2) rfl, trivial⟩) hw) (q_loadN Tn_100 rfl (fun w1 hw => hw.rg hb2 (g2.of_eq 2 3 rfl rfl : rg _ _ _ [.int .i64 x2.V.K, .int .i64 x2.V.N, .string x2.V.S])) rfl) rfl ?_
      have rc1 : RC RTVal 3 Φ_1 ([[]] : List (List Nat)) [.int .i64 x2.V.K, .int .i64 x2.V.N, .string x2.V.S] ([x2.V] : List TVal) := RC.cons (c := [.int .i64 x2.V.K, .int .i64 x2.V.N, .string x2.V.S]) (cells := []) ⟨rfl, rfl⟩ rfl (RC.nil _ _ _)
      refine WM.one 8 (by kernel_rfl) (me rfl (fun _ v Φx D w1 hq hw => Kn.of (fun k hk o ho => hq.1 k o (by simp) ((fun _ _ _ h => h) k hk o ho)) (AllIn.mem ⟨List.mem_of_getElem? (i := 0) rfl, List.mem_of_getElem? (i := 1) rfl, List.mem_of_getElem? (i := 2) rfl, trivial⟩) hw) (e_lit (vs := [(0, .agg [.int .i64 x2.V.K, .int .i64 x2.V.N, .string x2.V.S].toArray)]) (C := #[.int .i64 x2.V.K, .int .i64 x2.V.N, .string x2.V.S]) RTVal.lasts Sl_44 Zr_100 rfl rfl rfl rfl (fill_made MC_100_1 (fill_cons (cells := [.int .i64 0, .int .i64 0, .string ⟨#[]⟩]) (c := [.int .i64 x2.V.K, .int .i64 x2.V.N, .string x2.V.S]) (C' := [.int .i64 x2.V.K, .int .i64 x2.V.N, .string x2.V.S]) rfl rfl rfl rfl rfl (fill_nil))) rfl rc1 rfl (by simpa using Kw.nil)) rfl (fun v1 Φ_2 D1 q1 => ?_))
      obtain ⟨fr1, h1⟩ := q1
      replace h1 : OSl RTVal 100 3 Φ_2 [] v1 ([x2.V] : List TVal) := by simpa using h1
      replace ph0_0 := ph0_0.frame RTArg.lasts fr1 (Dj.empty _)
      replace k3 := k3.frame RTVal.lasts fr1 (Dj.empty _) (Dj.empty _)
      replace k4 := k4.frame RI.lasts fr1 (Dj.empty _) (Dj.empty _)
      obtain ⟨x3, hx3, h⟩ := bind_some h
      refine WM.one 9 (by kernel_rfl) (me rfl (fun _ v Φx D w1 hq hw => Kn.of (fun k hk o ho => hq.1.2 k o ((hq.1.1.o pa0_0) k hk) ((fun k hk o ho => fr1 k o (by simp) ((fun _ _ _ h => h) k hk o ho)) k hk o ho)) (AllIn.mem ⟨List.mem_of_getElem? (i := 0) rfl, List.mem_of_getElem? (i := 1) rfl, List.mem_of_getElem? (i := 2) rfl, trivial⟩) hw) (e_appF RTVal.lasts RTVal.one RTVal.flat Sl_44 Ei_100 rfl rfl rfl rfl rfl (js := [2]) (Rr := [ob v1, ob u2]) rfl k3 h1.rsl hx3) rfl (fun v2 Φ_3 D2 q2 => ?_))
      obtain ⟨⟨ap1, fr2⟩, h2⟩ := q2
      replace ph0_0 := ph0_0.frame RTArg.lasts fr2 (ap1.o pa0_0)
      replace k4 := k4.frame RI.lasts fr2 (ap1.r (i := 1) rfl) (Dj.nil _)
      refine mq 10 rfl (by kernel_rfl) (fun w1 hw => Kn.of (fun k hk o ho => fr2 k o ((ap1.o pa0_0) k hk) ((fun k hk o ho => fr1 k o (by simp) ((fun _ _ _ h => h) k hk o ho)) k hk o ho)) (AllIn.mem ⟨List.mem_of_getElem? (i := 0) rfl, List.mem_of_getElem? (i := 1) rfl, List.mem_of_getElem? (i := 2) rfl, trivial⟩) hw) (q_fieldAddr Fld_46_2 rfl) rfl ?_
      refine WM.one 11 (by kernel_rfl) (ms rfl (fun hc => by cases hc) (s_store (i := 0) (vs := [v2]) (C' := [.string p0.Kind, .int .i64 (p0.Args.length : Int), v2, u2]) (O' := [(b_3, .cells #[.string p0.Kind, .int .i64 (p0.Args.length : Int), v2, u2] 46 (0, 0)), (b_2, .cells #[.string (⟨#[]⟩ : ByteArray), .int .i64 0, .slice none 0 0, .slice none 0 0] 46 (0, 0)), (b_1, .cells #[.string p0.Kind, pv0_0, .bool p0.Not] 86 (0, 0))]) Sz_44 rfl rfl rfl (one_cells h2.one) rfl rfl ⟨h2.one, trivial⟩ rfl rfl) rfl ?_)
      refine WM.nil (by kernel_rfl) ?_
      refine WT.region ?_
      refine lq (q_fieldAddr Fld_46_3 rfl) rfl ?_
      refine lq (q_load1 T1_29 rfl (fun w1 hw => hw.rgO (i := 0) rfl 3 1 [u2] rfl)) rfl ?_
      refine lq (q_move rfl) rfl ?_
      have rc2 : RC (RI .i64) 1 Φ_3 ([[]] : List (List Nat)) [.int .i64 s3] ([s3] : List Int) := RC.cons (c := [.int .i64 s3]) (cells := []) ⟨rfl, rfl⟩ rfl (RC.nil _ _ _)
      refine le' (e_lit (vs := [(0, .int .i64 s3)]) (C := #[.int .i64 s3]) RI.lasts Sl_29 Zr_3 rfl rfl rfl rfl (fill_made MC_3_1 (fill_cons (cells := [.int .i64 0]) (c := [.int .i64 s3]) (C' := [.int .i64 s3]) rfl rfl rfl rfl rfl (fill_nil))) rfl rc2 rfl (by simpa using Kw.nil)) rfl (fun v3 Φ_4 D3 q3 => ?_)
      obtain ⟨fr3, h3⟩ := q3
      replace h3 : OSl (RI .i64) 3 1 Φ_4 [] v3 ([s3] : List Int) := by simpa using h3
      replace ph0_0 := ph0_0.frame RTArg.lasts fr3 (Dj.empty _)
      replace h2 := h2.frame RTVal.lasts fr3 (Dj.empty _) (Dj.empty _)
      replace k4 := k4.frame RI.lasts fr3 (Dj.empty _) (Dj.empty _)
      obtain ⟨x4, hx4, h⟩ := bind_some h
      refine le' (e_appF RI.lasts RI.one RI.flat Sl_29 Ei_3 rfl rfl rfl rfl rfl (js := [3]) (Rr := [ob v3, ob v2, ob v1]) rfl k4 h3.rsl hx4) rfl (fun v4 Φ_5 D4 q4 => ?_)
      obtain ⟨⟨ap2, fr4⟩, h4⟩ := q4
      replace ph0_0 := ph0_0.frame RTArg.lasts fr4 (ap2.o pa0_0)
      replace h2 := h2.frame RTVal.lasts fr4 (ap2.r (i := 1) rfl) (Dj.nil _)
      refine lq (q_fieldAddr Fld_46_3 rfl) rfl ?_
      refine ls (s_store (i := 0) (vs := [v4]) (C' := [.string p0.Kind, .int .i64 (p0.Args.length : Int), v2, v4]) (O' := [(b_3, .cells #[.string p0.Kind, .int .i64 (p0.Args.length : Int), v2, v4] 46 (0, 0)), (b_2, .cells #[.string (⟨#[]⟩ : ByteArray), .int .i64 0, .slice none 0 0, .slice none 0 0] 46 (0, 0)), (b_1, .cells #[.string p0.Kind, pv0_0, .bool p0.Not] 86 (0, 0))]) Sz_29 rfl rfl rfl (one_cells h4.one) rfl rfl ⟨h4.one, trivial⟩ rfl rfl) rfl ?_
      refine WL.nil ?_
      refine WT.inBlock ?_
      refine WT.region ?_
      refine lq (q_move rfl) rfl ?_
      refine lq (q_add rfl rfl) rfl ?_
      refine lq (q_assign rfl) rfl ?_
      refine WL.nil ?_
      refine WT.inLoop (WT.mono (l' := [(1, .pointer (some ⟨b_1, 0, none⟩)), (2, .pointer (some ⟨b_2, 0, none⟩)), (3, .pointer (some ⟨b_3, 0, none⟩)), (4, .int .i64 (IntKind.i64.wrap (s3 + 1)))]) (S' := St w0 Φ_5 [(b_3, .cells #[.string p0.Kind, .int .i64 (p0.Args.length : Int), v2, v4] 46 (0, 0)), (b_2, .cells #[.string (⟨#[]⟩ : ByteArray), .int .i64 0, .slice none 0 0, .slice none 0 0] 46 (0, 0)), (b_1, .cells #[.string p0.Kind, pv0_0, .bool p0.Not] 86 (0, 0))] [ob v4, ob v2]) ⟨rfl, rfl, rfl, rfl, trivial⟩ (fun w1 hw => (hw.sel (js := [0, 1]) rfl).selO (js := [0, 0, 0]) rfl) ?_)
      exact ih1 (Φ_5, x3, v2, x4, v4, IntKind.i64.wrap (s3 + 1)) ⟨h, h2, h4, ph0_0⟩
    replace h := ite_f h c2
    refine WT.skip ?_
    refine WT.inBlock ?_
    refine WT.region ?_
    refine lq (q_move rfl) rfl ?_
    refine lq (q_add rfl rfl) rfl ?_
    refine lq (q_assign rfl) rfl ?_
    refine WL.nil ?_
    refine WT.inLoop (WT.mono (l' := [(1, .pointer (some ⟨b_1, 0, none⟩)), (2, .pointer (some ⟨b_2, 0, none⟩)), (3, .pointer (some ⟨b_3, 0, none⟩)), (4, .int .i64 (IntKind.i64.wrap (s3 + 1)))]) (S' := St w0 Φ_1 [(b_3, .cells #[.string p0.Kind, .int .i64 (p0.Args.length : Int), u1, u2] 46 (0, 0)), (b_2, .cells #[.string (⟨#[]⟩ : ByteArray), .int .i64 0, .slice none 0 0, .slice none 0 0] 46 (0, 0)), (b_1, .cells #[.string p0.Kind, pv0_0, .bool p0.Not] 86 (0, 0))] [ob u2, ob u1]) ⟨rfl, rfl, rfl, rfl, trivial⟩ (fun w1 hw => (hw.sel (js := [0, 0]) rfl).selO (js := [0, 0, 0]) rfl) ?_)
    exact ih1 (Φ_1, s1, u1, s2, u2, IntKind.i64.wrap (s3 + 1)) ⟨h, k3, k4, ph0_0⟩
  replace h := ite_f h c1
  refine WT.exit rfl ?_
  refine WT.seq ?_
  refine WT.region ?_
  refine lq (q_loadN Tn_46 rfl (fun w1 hw => hw.rgO (i := 0) rfl 0 4 [.string p0.Kind, .int .i64 (p0.Args.length : Int), u1, u2] rfl) rfl) rfl ?_
  refine ls (s_store (i := 1) (vs := [.string p0.Kind, .int .i64 (p0.Args.length : Int), u1, u2]) (C' := [.string p0.Kind, .int .i64 (p0.Args.length : Int), u1, u2]) (O' := [(b_3, .cells #[.string p0.Kind, .int .i64 (p0.Args.length : Int), u1, u2] 46 (0, 0)), (b_2, .cells #[.string p0.Kind, .int .i64 (p0.Args.length : Int), u1, u2] 46 (0, 0)), (b_1, .cells #[.string p0.Kind, pv0_0, .bool p0.Not] 86 (0, 0))]) Sz_46 rfl rfl rfl rfl rfl rfl ⟨rfl, rfl, k3.one, k4.one, trivial⟩ rfl rfl) rfl ?_
  refine WL.nil ?_
  refine WT.ret Try.func50 (resOk.one (rv_cell Tn_46 rfl (fun w1 hw => hw.rgO (i := 1) rfl 0 4 [.string p0.Kind, .int .i64 (p0.Args.length : Int), u1, u2] rfl) rfl)) (fun w1 hw => ?_)
  subst hb0
  cases h
  refine postG_of_St (js := [1, 0]) hw rfl ⟨u1, u2, rfl, rfl, k3, k4⟩
theorem m_l_toVal_ok {Φ : Hp} {w : World} (hΦ : In Φ w) (N : Nat) (p0 : TVal)   {r : TVal} (h : m_l_toVal N p0 = some r) :
    Calls Try.prog 123 [.agg [.int .i64 p0.K, .int .i64 p0.N, .string p0.S].toArray].toArray w (Post (.agg [.int .i64 r.K, .int .i64 r.N, .string r.S].toArray) w) := by
  refine enter Try.func123 rfl Try.ntmps123 rfl (St.start0 hΦ) ?_
  unfold m_l_toVal at h
  refine WT.seq ?_
  refine WT.region ?_
  refine ln (n_box (C := #[.int .i64 p0.K, .int .i64 p0.N, .string p0.S]) rfl rfl) rfl (fun b_1 => ?_)
  refine ln (n_alloc (C := #[.int .i64 0, .int .i64 0, .string (⟨#[]⟩ : ByteArray)]) Zr_100 rfl) rfl (fun b_2 => ?_)
  refine WL.nil ?_
  refine WT.seq ?_
  refine WT.region ?_
  refine ln (n_alloc (C := #[.int .i64 0, .int .i64 0, .string (⟨#[]⟩ : ByteArray)]) Zr_100 rfl) rfl (fun b_3 => ?_)
  refine WL.nil ?_
  refine WT.seq ?_
  refine WT.region ?_
  refine lq (q_fieldAddr Fld_93_0 rfl) rfl ?_
  refine lq (q_load1 T1_3 rfl (fun w1 hw => hw.rgO (i := 2) rfl 0 1 [.int .i64 p0.K] rfl)) rfl ?_
  refine lq (q_fieldAddr Fld_100_0 rfl) rfl ?_
  refine ls (s_store (i := 0) (vs := [.int .i64 p0.K]) (C' := [.int .i64 p0.K, .int .i64 0, .string (⟨#[]⟩ : ByteArray)]) (O' := [(b_3, .cells #[.int .i64 p0.K, .int .i64 0, .string (⟨#[]⟩ : ByteArray)] 100 (0, 0)), (b_2, .cells #[.int .i64 0, .int .i64 0, .string (⟨#[]⟩ : ByteArray)] 100 (0, 0)), (b_1, .cells #[.int .i64 p0.K, .int .i64 p0.N, .string p0.S] 93 (0, 0))]) Sz_3 rfl rfl rfl rfl rfl rfl ⟨rfl, trivial⟩ rfl rfl) rfl ?_
  refine WL.nil ?_
  refine WT.seq ?_
  refine WT.region ?_
  refine lq (q_fieldAddr Fld_93_1 rfl) rfl ?_
  refine lq (q_load1 T1_3 rfl (fun w1 hw => hw.rgO (i := 2) rfl 1 1 [.int .i64 p0.N] rfl)) rfl ?_
  refine lq (q_fieldAddr Fld_100_1 rfl) rfl ?_
  refine ls (s_store (i := 0) (vs := [.int .i64 p0.N]) (C' := [.int .i64 p0.K, .int .i64 p0.N, .string (⟨#[]⟩ : ByteArray)]) (O' := [(b_3, .cells #[.int .i64 p0.K, .int .i64 p0.N, .string (⟨#[]⟩ : ByteArray)] 100 (0, 0)), (b_2, .cells #[.int .i64 0, .int .i64 0, .string (⟨#[]⟩ : ByteArray)] 100 (0, 0)), (b_1, .cells #[.int .i64 p0.K, .int .i64 p0.N, .string p0.S] 93 (0, 0))]) Sz_3 rfl rfl rfl rfl rfl rfl ⟨rfl, trivial⟩ rfl rfl) rfl ?_
  refine WL.nil ?_
  refine WT.seq ?_
  refine WT.region ?_
  refine lq (q_fieldAddr Fld_93_2 rfl) rfl ?_
  refine lq (q_load1 T1_9 rfl (fun w1 hw => hw.rgO (i := 2) rfl 2 1 [.string p0.S] rfl)) rfl ?_
  refine lq (q_fieldAddr Fld_100_2 rfl) rfl ?_
  refine ls (s_store (i := 0) (vs := [.string p0.S]) (C' := [.int .i64 p0.K, .int .i64 p0.N, .string p0.S]) (O' := [(b_3, .cells #[.int .i64 p0.K, .int .i64 p0.N, .string p0.S] 100 (0, 0)), (b_2, .cells #[.int .i64 0, .int .i64 0, .string (⟨#[]⟩ : ByteArray)] 100 (0, 0)), (b_1, .cells #[.int .i64 p0.K, .int .i64 p0.N, .string p0.S] 93 (0, 0))]) Sz_9 rfl rfl rfl rfl rfl rfl ⟨rfl, trivial⟩ rfl rfl) rfl ?_
  refine WL.nil ?_
  refine WT.seq ?_
  refine WT.region ?_
  refine lq (q_loadN Tn_100 rfl (fun w1 hw => hw.rgO (i := 0) rfl 0 3 [.int .i64 p0.K, .int .i64 p0.N, .string p0.S] rfl) rfl) rfl ?_
  refine ls (s_store (i := 1) (vs := [.int .i64 p0.K, .int .i64 p0.N, .string p0.S]) (C' := [.int .i64 p0.K, .int .i64 p0.N, .string p0.S]) (O' := [(b_3, .cells #[.int .i64 p0.K, .int .i64 p0.N, .string p0.S] 100 (0, 0)), (b_2, .cells #[.int .i64 p0.K, .int .i64 p0.N, .string p0.S] 100 (0, 0)), (b_1, .cells #[.int .i64 p0.K, .int .i64 p0.N, .string p0.S] 93 (0, 0))]) Sz_100 rfl rfl rfl rfl rfl rfl ⟨rfl, rfl, rfl, trivial⟩ rfl rfl) rfl ?_
  refine WL.nil ?_
  refine WT.ret Try.func123 (resOk.one (rv_cell Tn_100 rfl (fun w1 hw => hw.rgO (i := 1) rfl 0 3 [.int .i64 p0.K, .int .i64 p0.N, .string p0.S] rfl) rfl)) (fun w1 hw => ?_)
  cases h
  exact post_of_St hw
theorem m_l_toArg_ok {Φ : Hp} {w : World} (hΦ : In Φ w) (N : Nat) (p0 : TArg)   {r : TArg} (h : m_l_toArg N p0 = some r) :
    Calls Try.prog 108 [.agg [.int .i64 p0.K, .string p0.S, .int .i64 p0.V.K, .int .i64 p0.V.N, .string p0.V.S].toArray].toArray w (Post (.agg [.int .i64 r.K, .string r.S, .int .i64 r.V.K, .int .i64 r.V.N, .string r.V.S].toArray) w) := by
  refine enter Try.func108 rfl Try.ntmps108 rfl (St.start0 hΦ) ?_
  unfold m_l_toArg at h
  refine WT.seq ?_
  refine WT.region ?_
  refine ln (n_box (C := #[.int .i64 p0.K, .string p0.S, .int .i64 p0.V.K, .int .i64 p0.V.N, .string p0.V.S]) rfl rfl) rfl (fun b_1 => ?_)
  refine ln (n_alloc (C := #[.int .i64 0, .string (⟨#[]⟩ : ByteArray), .int .i64 0, .int .i64 0, .string (⟨#[]⟩ : ByteArray)]) Zr_104 rfl) rfl (fun b_2 => ?_)
  refine WL.nil ?_
  refine WT.seq ?_
  refine WT.region ?_
  refine ln (n_alloc (C := #[.int .i64 0, .string (⟨#[]⟩ : ByteArray), .int .i64 0, .int .i64 0, .string (⟨#[]⟩ : ByteArray)]) Zr_104 rfl) rfl (fun b_3 => ?_)
  refine WL.nil ?_
  refine WT.seq ?_
  refine WT.region ?_
  refine lq (q_fieldAddr Fld_95_0 rfl) rfl ?_
  refine lq (q_load1 T1_3 rfl (fun w1 hw => hw.rgO (i := 2) rfl 0 1 [.int .i64 p0.K] rfl)) rfl ?_
  refine lq (q_fieldAddr Fld_104_0 rfl) rfl ?_
  refine ls (s_store (i := 0) (vs := [.int .i64 p0.K]) (C' := [.int .i64 p0.K, .string (⟨#[]⟩ : ByteArray), .int .i64 0, .int .i64 0, .string (⟨#[]⟩ : ByteArray)]) (O' := [(b_3, .cells #[.int .i64 p0.K, .string (⟨#[]⟩ : ByteArray), .int .i64 0, .int .i64 0, .string (⟨#[]⟩ : ByteArray)] 104 (0, 0)), (b_2, .cells #[.int .i64 0, .string (⟨#[]⟩ : ByteArray), .int .i64 0, .int .i64 0, .string (⟨#[]⟩ : ByteArray)] 104 (0, 0)), (b_1, .cells #[.int .i64 p0.K, .string p0.S, .int .i64 p0.V.K, .int .i64 p0.V.N, .string p0.V.S] 95 (0, 0))]) Sz_3 rfl rfl rfl rfl rfl rfl ⟨rfl, trivial⟩ rfl rfl) rfl ?_
  refine WL.nil ?_
  refine WT.seq ?_
  refine WT.region ?_
  refine lq (q_fieldAddr Fld_95_1 rfl) rfl ?_
  refine lq (q_load1 T1_9 rfl (fun w1 hw => hw.rgO (i := 2) rfl 1 1 [.string p0.S] rfl)) rfl ?_
  refine lq (q_fieldAddr Fld_104_1 rfl) rfl ?_
  refine ls (s_store (i := 0) (vs := [.string p0.S]) (C' := [.int .i64 p0.K, .string p0.S, .int .i64 0, .int .i64 0, .string (⟨#[]⟩ : ByteArray)]) (O' := [(b_3, .cells #[.int .i64 p0.K, .string p0.S, .int .i64 0, .int .i64 0, .string (⟨#[]⟩ : ByteArray)] 104 (0, 0)), (b_2, .cells #[.int .i64 0, .string (⟨#[]⟩ : ByteArray), .int .i64 0, .int .i64 0, .string (⟨#[]⟩ : ByteArray)] 104 (0, 0)), (b_1, .cells #[.int .i64 p0.K, .string p0.S, .int .i64 p0.V.K, .int .i64 p0.V.N, .string p0.V.S] 95 (0, 0))]) Sz_9 rfl rfl rfl rfl rfl rfl ⟨rfl, trivial⟩ rfl rfl) rfl ?_
  refine WL.nil ?_
  refine WT.seq ?_
  refine WT.region ?_
  refine lq (q_fieldAddr Fld_95_2 rfl) rfl ?_
  refine lq (q_loadN Tn_93 rfl (fun w1 hw => hw.rgO (i := 2) rfl 2 3 [.int .i64 p0.V.K, .int .i64 p0.V.N, .string p0.V.S] rfl) rfl) rfl ?_
  obtain ⟨x1, hx1, h⟩ := bind_some h
  refine lp (p_call Fun_123 rfl (fun w1 hw => m_l_toVal_ok hw.fro N p0.V hx1)) rfl ?_
  refine lq (q_fieldAddr Fld_104_2 rfl) rfl ?_
  refine ls (s_store (i := 0) (vs := [.int .i64 x1.K, .int .i64 x1.N, .string x1.S]) (C' := [.int .i64 p0.K, .string p0.S, .int .i64 x1.K, .int .i64 x1.N, .string x1.S]) (O' := [(b_3, .cells #[.int .i64 p0.K, .string p0.S, .int .i64 x1.K, .int .i64 x1.N, .string x1.S] 104 (0, 0)), (b_2, .cells #[.int .i64 0, .string (⟨#[]⟩ : ByteArray), .int .i64 0, .int .i64 0, .string (⟨#[]⟩ : ByteArray)] 104 (0, 0)), (b_1, .cells #[.int .i64 p0.K, .string p0.S, .int .i64 p0.V.K, .int .i64 p0.V.N, .string p0.V.S] 95 (0, 0))]) Sz_100 rfl rfl rfl rfl rfl rfl ⟨rfl, rfl, rfl, trivial⟩ rfl rfl) rfl ?_
  refine WL.nil ?_
  refine WT.seq ?_
  refine WT.region ?_
  refine lq (q_loadN Tn_104 rfl (fun w1 hw => hw.rgO (i := 0) rfl 0 5 [.int .i64 p0.K, .string p0.S, .int .i64 x1.K, .int .i64 x1.N, .string x1.S] rfl) rfl) rfl ?_
  refine ls (s_store (i := 1) (vs := [.int .i64 p0.K, .string p0.S, .int .i64 x1.K, .int .i64 x1.N, .string x1.S]) (C' := [.int .i64 p0.K, .string p0.S, .int .i64 x1.K, .int .i64 x1.N, .string x1.S]) (O' := [(b_3, .cells #[.int .i64 p0.K, .string p0.S, .int .i64 x1.K, .int .i64 x1.N, .string x1.S] 104 (0, 0)), (b_2, .cells #[.int .i64 p0.K, .string p0.S, .int .i64 x1.K, .int .i64 x1.N, .string x1.S] 104 (0, 0)), (b_1, .cells #[.int .i64 p0.K, .string p0.S, .int .i64 p0.V.K, .int .i64 p0.V.N, .string p0.V.S] 95 (0, 0))]) Sz_104 rfl rfl rfl rfl rfl rfl ⟨rfl, rfl, rfl, rfl, rfl, trivial⟩ rfl rfl) rfl ?_
  refine WL.nil ?_
  refine WT.ret Try.func108 (resOk.one (rv_cell Tn_104 rfl (fun w1 hw => hw.rgO (i := 1) rfl 0 5 [.int .i64 p0.K, .string p0.S, .int .i64 x1.K, .int .i64 x1.N, .string x1.S] rfl) rfl)) (fun w1 hw => ?_)
  cases h
  exact post_of_St hw
end Go.Proofs.Ytpajhchhkfnieaa
