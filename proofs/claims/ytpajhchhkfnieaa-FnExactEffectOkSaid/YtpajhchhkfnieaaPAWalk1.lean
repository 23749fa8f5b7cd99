/- Printed by a program of ours: each Go function computes its Lean function. -/
import Derived.Test.YtpajhchhkfnieaaProg
import Derived.Test.YtpajhchhkfnieaaPAMod
namespace Go.Proofs.Ytpajhchhkfnieaa
open Eng
open Go.RowKit (Below)
set_option linter.unusedVariables false
set_option linter.unusedSimpArgs false

set_option maxRecDepth 100000
set_option maxHeartbeats 1000000
theorem mixed : Try.prog.follows .mixedOrders = true := by kernel_rfl
theorem Fld_93_2 : Fld Try.prog 93 2 2 = true := by kernel_rfl
theorem T1_9 : T1 Try.prog 9 = true := by kernel_rfl
theorem Str_9 : Str Try.prog 9 = true := by kernel_rfl
theorem Sl_39 : Sl Try.prog 39 93 3 = true := by kernel_rfl
theorem Tn_93 : Tn Try.prog 93 3 = true := by kernel_rfl
theorem Fun_122 : Fun Try.prog 122 = true := by kernel_rfl
theorem Sl_29 : Sl Try.prog 29 3 1 = true := by kernel_rfl
theorem Fld_41_0 : Fld Try.prog 41 0 0 = true := by kernel_rfl
theorem Fld_41_2 : Fld Try.prog 41 2 2 = true := by kernel_rfl
theorem T1_39 : T1 Try.prog 39 = true := by kernel_rfl
theorem Fun_77 : Fun Try.prog 77 = true := by kernel_rfl
theorem Fld_41_3 : Fld Try.prog 41 3 3 = true := by kernel_rfl
theorem T1_29 : T1 Try.prog 29 = true := by kernel_rfl
theorem Fun_78 : Fun Try.prog 78 = true := by kernel_rfl
theorem Zr_100 : (Try.prog.info? 100).map (·.zero) = some (some (.agg #[.int .i64 0, .int .i64 0, .string ⟨#[]⟩])) := by kernel_rfl
theorem Fld_93_0 : Fld Try.prog 93 0 0 = true := by kernel_rfl
theorem T1_3 : T1 Try.prog 3 = true := by kernel_rfl
theorem Fld_100_0 : Fld Try.prog 100 0 0 = true := by kernel_rfl
theorem Sz_3 : Sz Try.prog 3 1 = true := by kernel_rfl
theorem Fld_93_1 : Fld Try.prog 93 1 1 = true := by kernel_rfl
theorem Fld_100_1 : Fld Try.prog 100 1 1 = true := by kernel_rfl
theorem Fld_100_2 : Fld Try.prog 100 2 2 = true := by kernel_rfl
theorem Sz_9 : Sz Try.prog 9 1 = true := by kernel_rfl
theorem Tn_100 : Tn Try.prog 100 3 = true := by kernel_rfl
theorem Sz_100 : Sz Try.prog 100 3 = true := by kernel_rfl
theorem Sl_44 : Sl Try.prog 44 100 3 = true := by kernel_rfl
theorem By_100 : By Try.prog 100 32 = true := by kernel_rfl
theorem Fun_123 : Fun Try.prog 123 = true := by kernel_rfl
theorem Zr_3 : (Try.prog.info? 3).map (·.zero) = some (some (.int .i64 0)) := by kernel_rfl
theorem By_3 : By Try.prog 3 8 = true := by kernel_rfl
theorem Zr_46 : (Try.prog.info? 46).map (·.zero) = some (some (.agg #[.string ⟨#[]⟩, .int .i64 0, .slice none 0 0, .slice none 0 0])) := by kernel_rfl
theorem Fld_46_0 : Fld Try.prog 46 0 0 = true := by kernel_rfl
theorem Fld_41_1 : Fld Try.prog 41 1 1 = true := by kernel_rfl
theorem Fld_46_1 : Fld Try.prog 46 1 1 = true := by kernel_rfl
theorem Fun_81 : Fun Try.prog 81 = true := by kernel_rfl
theorem Fld_46_2 : Fld Try.prog 46 2 2 = true := by kernel_rfl
theorem Sz_44 : Sz Try.prog 44 1 = true := by kernel_rfl
theorem Fun_82 : Fun Try.prog 82 = true := by kernel_rfl
theorem Fld_46_3 : Fld Try.prog 46 3 3 = true := by kernel_rfl
theorem Sz_29 : Sz Try.prog 29 1 = true := by kernel_rfl
theorem Tn_46 : Tn Try.prog 46 4 = true := by kernel_rfl
theorem Sz_46 : Sz Try.prog 46 4 = true := by kernel_rfl
theorem Fun_63 : Fun Try.prog 63 = true := by kernel_rfl
theorem T1_44 : T1 Try.prog 44 = true := by kernel_rfl
theorem Fun_84 : Fun Try.prog 84 = true := by kernel_rfl
theorem Fun_85 : Fun Try.prog 85 = true := by kernel_rfl
theorem Fld_56_0 : Fld Try.prog 56 0 0 = true := by kernel_rfl
theorem Fld_56_1 : Fld Try.prog 56 1 1 = true := by kernel_rfl
theorem Fld_60_0 : Fld Try.prog 60 0 0 = true := by kernel_rfl
theorem Fld_60_1 : Fld Try.prog 60 1 1 = true := by kernel_rfl
theorem Fun_86 : Fun Try.prog 86 = true := by kernel_rfl
theorem EqT_100 : EqT Try.prog 100 [.i .i64, .i .i64, .s] = true := by kernel_rfl
theorem Zr_60 : (Try.prog.info? 60).map (·.zero) = some (some (.agg #[.string ⟨#[]⟩, .slice none 0 0])) := by kernel_rfl
theorem Tn_60 : Tn Try.prog 60 2 = true := by kernel_rfl
theorem Sz_60 : Sz Try.prog 60 2 = true := by kernel_rfl
theorem Tn_41 : Tn Try.prog 41 4 = true := by kernel_rfl
theorem Fun_24 : Fun Try.prog 24 = true := by kernel_rfl
theorem Tn_56 : Tn Try.prog 56 2 = true := by kernel_rfl
theorem Fun_33 : Fun Try.prog 33 = true := by kernel_rfl
theorem Fun_26 : Fun Try.prog 26 = true := by kernel_rfl
theorem Fun_35 : Fun Try.prog 35 = true := by kernel_rfl
theorem Fun_34 : Fun Try.prog 34 = true := by kernel_rfl
theorem Fun_36 : Fun Try.prog 36 = true := by kernel_rfl
theorem Bo_4 : Bo Try.prog 4 = true := by kernel_rfl
theorem Fun_28 : Fun Try.prog 28 = true := by kernel_rfl
theorem Fun_37 : Fun Try.prog 37 = true := by kernel_rfl
theorem Fld_71_1 : Fld Try.prog 71 1 1 = true := by kernel_rfl
theorem Fld_71_4 : Fld Try.prog 71 4 5 = true := by kernel_rfl
theorem Ik_5 : Ik Try.prog 5 .u8 = true := by kernel_rfl
theorem Ik_3 : Ik Try.prog 3 .i64 = true := by kernel_rfl
theorem Fun_125 : Fun Try.prog 125 = true := by kernel_rfl
theorem Fun_139 : Fun Try.prog 139 = true := by kernel_rfl
theorem Fun_136 : Fun Try.prog 136 = true := by kernel_rfl
theorem Fun_91 : Fun Try.prog 91 = true := by kernel_rfl
theorem Fun_124 : Fun Try.prog 124 = true := by kernel_rfl
theorem Fld_75_1 : Fld Try.prog 75 1 1 = true := by kernel_rfl
theorem Fld_75_0 : Fld Try.prog 75 0 0 = true := by kernel_rfl
theorem Fun_90 : Fun Try.prog 90 = true := by kernel_rfl
theorem Fld_75_2 : Fld Try.prog 75 2 3 = true := by kernel_rfl
theorem Fld_75_3 : Fld Try.prog 75 3 4 = true := by kernel_rfl
theorem Fld_75_4 : Fld Try.prog 75 4 5 = true := by kernel_rfl
theorem Zr_75 : (Try.prog.info? 75).map (·.zero) = some (some (.agg #[.int .i64 0, .string ⟨#[]⟩, .slice none 0 0, .int .i64 0, .int .i64 0, .string ⟨#[]⟩])) := by kernel_rfl
theorem Fld_71_0 : Fld Try.prog 71 0 0 = true := by kernel_rfl
theorem Fld_71_2 : Fld Try.prog 71 2 3 = true := by kernel_rfl
theorem Fld_71_3 : Fld Try.prog 71 3 4 = true := by kernel_rfl
theorem Tn_75 : Tn Try.prog 75 6 = true := by kernel_rfl
theorem Sz_75 : Sz Try.prog 75 6 = true := by kernel_rfl
theorem Fun_137 : Fun Try.prog 137 = true := by kernel_rfl
theorem Fun_141 : Fun Try.prog 141 = true := by kernel_rfl
theorem Fun_140 : Fun Try.prog 140 = true := by kernel_rfl
theorem Fun_138 : Fun Try.prog 138 = true := by kernel_rfl
theorem Fun_94 : Fun Try.prog 94 = true := by kernel_rfl
theorem Fun_126 : Fun Try.prog 126 = true := by kernel_rfl
theorem Fun_127 : Fun Try.prog 127 = true := by kernel_rfl
theorem Fun_92 : Fun Try.prog 92 = true := by kernel_rfl
theorem Fun_93 : Fun Try.prog 93 = true := by kernel_rfl
theorem Tn_71 : Tn Try.prog 71 6 = true := by kernel_rfl
theorem Fun_44 : Fun Try.prog 44 = true := by kernel_rfl
theorem Fun_46 : Fun Try.prog 46 = true := by kernel_rfl
theorem Fun_45 : Fun Try.prog 45 = true := by kernel_rfl
theorem Fun_47 : Fun Try.prog 47 = true := by kernel_rfl
theorem Fun_48 : Fun Try.prog 48 = true := by kernel_rfl
theorem Fld_95_1 : Fld Try.prog 95 1 1 = true := by kernel_rfl
theorem Fld_95_2 : Fld Try.prog 95 2 2 = true := by kernel_rfl
theorem Fld_97_0 : Fld Try.prog 97 0 0 = true := by kernel_rfl
theorem Fld_97_1 : Fld Try.prog 97 1 1 = true := by kernel_rfl
theorem Tn_95 : Tn Try.prog 95 5 = true := by kernel_rfl
theorem Fun_103 : Fun Try.prog 103 = true := by kernel_rfl
theorem Fld_97_2 : Fld Try.prog 97 2 6 = true := by kernel_rfl
theorem Fld_142_0 : Fld Try.prog 142 0 0 = true := by kernel_rfl
theorem Fld_142_1 : Fld Try.prog 142 1 1 = true := by kernel_rfl
theorem Sl_49 : Sl Try.prog 49 142 4 = true := by kernel_rfl
theorem Tn_142 : Tn Try.prog 142 4 = true := by kernel_rfl
theorem Fun_104 : Fun Try.prog 104 = true := by kernel_rfl
theorem Sl_30 : Sl Try.prog 30 130 4 = true := by kernel_rfl
theorem Fld_130_0 : Fld Try.prog 130 0 0 = true := by kernel_rfl
theorem Fld_130_1 : Fld Try.prog 130 1 1 = true := by kernel_rfl
theorem Pl_100 : Pl Try.prog 100 #[(0, 1), (1, 1), (2, 1)] = true := by kernel_rfl
theorem Fld_104_0 : Fld Try.prog 104 0 0 = true := by kernel_rfl
theorem Fld_104_2 : Fld Try.prog 104 2 2 = true := by kernel_rfl
theorem Fld_104_1 : Fld Try.prog 104 1 1 = true := by kernel_rfl
theorem Fun_130 : Fun Try.prog 130 = true := by kernel_rfl
theorem Fun_131 : Fun Try.prog 131 = true := by kernel_rfl
theorem Fld_106_1 : Fld Try.prog 106 1 1 = true := by kernel_rfl
theorem Tn_104 : Tn Try.prog 104 5 = true := by kernel_rfl
theorem Fun_105 : Fun Try.prog 105 = true := by kernel_rfl
theorem Fld_106_2 : Fld Try.prog 106 2 6 = true := by kernel_rfl
theorem Fld_106_0 : Fld Try.prog 106 0 0 = true := by kernel_rfl
theorem Fun_106 : Fun Try.prog 106 = true := by kernel_rfl
theorem Fun_107 : Fun Try.prog 107 = true := by kernel_rfl
theorem Zr_104 : (Try.prog.info? 104).map (·.zero) = some (some (.agg #[.int .i64 0, .string ⟨#[]⟩, .int .i64 0, .int .i64 0, .string ⟨#[]⟩])) := by kernel_rfl
theorem Fld_95_0 : Fld Try.prog 95 0 0 = true := by kernel_rfl
theorem Sz_104 : Sz Try.prog 104 5 = true := by kernel_rfl
theorem Zr_106 : (Try.prog.info? 106).map (·.zero) = some (some (.agg #[.string ⟨#[]⟩, .int .i64 0, .string ⟨#[]⟩, .int .i64 0, .int .i64 0, .string ⟨#[]⟩, .int .i64 0, .string ⟨#[]⟩, .int .i64 0, .int .i64 0, .string ⟨#[]⟩])) := by kernel_rfl
theorem Fun_108 : Fun Try.prog 108 = true := by kernel_rfl
theorem Tn_106 : Tn Try.prog 106 11 = true := by kernel_rfl
theorem Sz_106 : Sz Try.prog 106 11 = true := by kernel_rfl
theorem Zr_130 : (Try.prog.info? 130).map (·.zero) = some (some (.agg #[.string ⟨#[]⟩, .int .i64 0, .int .i64 0, .string ⟨#[]⟩])) := by kernel_rfl
theorem Tn_130 : Tn Try.prog 130 4 = true := by kernel_rfl
theorem Sz_130 : Sz Try.prog 130 4 = true := by kernel_rfl
theorem By_130 : By Try.prog 130 48 = true := by kernel_rfl
theorem Fun_109 : Fun Try.prog 109 = true := by kernel_rfl
theorem Fun_132 : Fun Try.prog 132 = true := by kernel_rfl
theorem Fun_133 : Fun Try.prog 133 = true := by kernel_rfl
theorem Fun_134 : Fun Try.prog 134 = true := by kernel_rfl
theorem Fun_110 : Fun Try.prog 110 = true := by kernel_rfl
theorem Fun_111 : Fun Try.prog 111 = true := by kernel_rfl
theorem Fun_112 : Fun Try.prog 112 = true := by kernel_rfl
theorem Fun_113 : Fun Try.prog 113 = true := by kernel_rfl
theorem Tn_97 : Tn Try.prog 97 11 = true := by kernel_rfl
theorem Fun_57 : Fun Try.prog 57 = true := by kernel_rfl
theorem Fun_58 : Fun Try.prog 58 = true := by kernel_rfl
theorem Fun_60 : Fun Try.prog 60 = true := by kernel_rfl
theorem Fun_61 : Fun Try.prog 61 = true := by kernel_rfl
theorem Fun_59 : Fun Try.prog 59 = true := by kernel_rfl
theorem Fun_62 : Fun Try.prog 62 = true := by kernel_rfl
theorem Fun_64 : Fun Try.prog 64 = true := by kernel_rfl
theorem Fun_79 : Fun Try.prog 79 = true := by kernel_rfl
theorem Fun_80 : Fun Try.prog 80 = true := by kernel_rfl
theorem Fun_83 : Fun Try.prog 83 = true := by kernel_rfl
theorem Fun_70 : Fun Try.prog 70 = true := by kernel_rfl
theorem Fun_25 : Fun Try.prog 25 = true := by kernel_rfl
theorem Fun_27 : Fun Try.prog 27 = true := by kernel_rfl
theorem Fld_32_0 : Fld Try.prog 32 0 0 = true := by kernel_rfl
theorem Fld_32_1 : Fld Try.prog 32 1 1 = true := by kernel_rfl
theorem Fld_51_1 : Fld Try.prog 51 1 1 = true := by kernel_rfl
theorem Fld_51_2 : Fld Try.prog 51 2 2 = true := by kernel_rfl
theorem T1_49 : T1 Try.prog 49 = true := by kernel_rfl
theorem Zr_32 : (Try.prog.info? 32).map (·.zero) = some (some (.agg #[.int .i64 0, .slice none 0 0, .slice none 0 0])) := by kernel_rfl
theorem Fld_51_0 : Fld Try.prog 51 0 0 = true := by kernel_rfl
theorem Fld_32_2 : Fld Try.prog 32 2 2 = true := by kernel_rfl
theorem Sz_30 : Sz Try.prog 30 1 = true := by kernel_rfl
theorem Tn_32 : Tn Try.prog 32 3 = true := by kernel_rfl
theorem Sz_32 : Sz Try.prog 32 3 = true := by kernel_rfl
theorem T1_30 : T1 Try.prog 30 = true := by kernel_rfl
theorem Tn_51 : Tn Try.prog 51 3 = true := by kernel_rfl
theorem Fun_29 : Fun Try.prog 29 = true := by kernel_rfl
theorem Fun_31 : Fun Try.prog 31 = true := by kernel_rfl
theorem Fun_30 : Fun Try.prog 30 = true := by kernel_rfl
theorem Fun_18 : Fun Try.prog 18 = true := by kernel_rfl
theorem Fun_32 : Fun Try.prog 32 = true := by kernel_rfl
theorem m_l_szVal_ok {Φ : Hp} {w : World} (hΦ : In Φ w) (N : Nat) (p0 : TVal) (p1 : Int)   {r : Int} (h : m_l_szVal N p0 p1 = some r) :
    Calls Try.prog 122 [.agg [.int .i64 p0.K, .int .i64 p0.N, .string p0.S].toArray, .int .i64 p1].toArray w (Post (.int .i64 r) w) := by
  refine enter Try.func122 rfl Try.ntmps122 rfl (St.start hΦ) ?_
  unfold m_l_szVal at h
  refine WT.seq ?_
  refine WT.region ?_
  refine WL.box (C := #[.int .i64 p0.K, .int .i64 p0.N, .string p0.S]) rfl rfl rfl rfl rfl rfl (fun b_1 => ?_)
  refine WL.q (q_assign rfl) rfl rfl rfl ?_
  refine WL.nil ?_
  refine WT.seq ?_
  refine WT.region ?_
  refine WL.q (q_move rfl) rfl rfl rfl ?_
  refine WL.q (q_fieldAddr Fld_93_2 rfl) rfl rfl rfl ?_
  refine WL.q (q_load1 T1_9 rfl (fun w1 hw => hw.rgL (i := 0) rfl 2 1 [.string p0.S] rfl)) rfl rfl rfl ?_
  refine WL.q (q_lenS Str_9 rfl rfl) rfl rfl rfl ?_
  refine WL.q (q_sub rfl rfl) rfl rfl rfl ?_
  refine WL.q (q_assign rfl) rfl rfl rfl ?_
  refine WL.nil ?_
  refine WT.seq ?_
  refine WT.seq ?_
  refine WT.region ?_
  refine WL.q (q_move rfl) rfl rfl rfl ?_
  refine WL.q (q_lss rfl rfl) rfl rfl rfl ?_
  refine WL.nil ?_
  refine WT.cond rfl (fun c1 => ?_) (fun c1 => ?_)
  · replace h := ite_t h c1
    refine WT.seq ?_
    refine WT.region ?_
    refine WL.q (q_assign rfl) rfl rfl rfl ?_
    refine WL.nil ?_
    refine WT.ret Try.func122 (resOk.one rfl) (fun w1 hw => ?_)
    cases h
    exact post_of_St hw
  · replace h := ite_f h c1
    refine WT.skip ?_
    refine WT.seq ?_
    refine WT.region ?_
    refine WL.q (q_move rfl) rfl rfl rfl ?_
    refine WL.q (q_assign rfl) rfl rfl rfl ?_
    refine WL.nil ?_
    refine WT.ret Try.func122 (resOk.one rfl) (fun w1 hw => ?_)
    cases h
    exact post_of_St hw
theorem m_l_szValS_ok {Φ : Hp} {w : World} (hΦ : In Φ w) (N : Nat) (p0 : (List TVal)) (p1 : Int) {pv0 : Value} {pG0 : List Nat} (ph0 : RSl RTVal 3 Φ pG0 pv0 p0) {r : Int} (h : m_l_szValS N p0 p1 = some r) :
    Calls Try.prog 77 [pv0, .int .i64 p1].toArray w (Post (.int .i64 r) w) := by
  refine enter Try.func77 rfl Try.ntmps77 rfl (St.start hΦ) ?_
  unfold m_l_szValS at h
  refine WT.seq ?_
  refine WT.region ?_
  refine WL.q (q_assign rfl) rfl rfl rfl ?_
  refine WL.nil ?_
  refine WT.seq ?_
  refine WT.region ?_
  refine WL.q (q_move rfl) rfl rfl rfl ?_
  refine WL.q (q_move rfl) rfl rfl rfl ?_
  refine WL.q (q_lenR Sl_39 rfl rfl ph0) rfl rfl rfl ?_
  refine WL.q (q_sub rfl rfl) rfl rfl rfl ?_
  refine WL.q (q_assign rfl) rfl rfl rfl ?_
  refine WL.nil ?_
  refine WT.seq ?_
  refine WT.seq ?_
  refine WT.region ?_
  refine WL.q (q_move rfl) rfl rfl rfl ?_
  refine WL.q (q_lss rfl rfl) rfl rfl rfl ?_
  refine WL.nil ?_
  refine WT.cond rfl (fun c1 => ?_) (fun c1 => ?_)
  · replace h := ite_t h c1
    refine WT.seq ?_
    refine WT.region ?_
    refine WL.q (q_assign rfl) rfl rfl rfl ?_
    refine WL.nil ?_
    refine WT.ret Try.func77 (resOk.one rfl) (fun w1 hw => ?_)
    cases h
    exact post_of_St hw
  · replace h := ite_f h c1
    refine WT.skip ?_
    refine WT.seq ?_
    refine WT.seq ?_
    refine WT.region ?_
    refine WL.q (q_assign rfl) rfl rfl rfl ?_
    refine WL.nil ?_
    refine WT.block ?_
    refine WT.loop ?_
    refine WT.keep [(0, pv0), (1, .int .i64 (IntKind.i64.wrap (p1 - (p0.length : Int)))), (4, .int .i64 0), (5, .int .i64 0)] ⟨rfl, rfl, rfl, rfl, trivial⟩ ?_
    refine loop_ind (σ := Int × Int) (fun s => [(0, pv0), (1, .int .i64 s.1), (4, .int .i64 0), (5, .int .i64 s.2)]) (fun s => St w Φ []) (fun m s => m_l_szValS_l1 N p0 m s.1 s.2 = some r) (fun s hm => none_ne (show (none : Option (Int)) = some r from hm)) (fun k ih s hm => ?_) N (IntKind.i64.wrap (p1 - (p0.length : Int)), 0) h
    obtain ⟨s1, s2⟩ := s
    have h : m_l_szValS_l1 N p0 (k + 1) s1 s2 = some r := hm
    show WT _ _ [(0, pv0), (1, .int .i64 s1), (4, .int .i64 0), (5, .int .i64 s2)] (St w Φ [])
    unfold m_l_szValS_l1 at h
    refine WT.seq ?_
    refine WT.seq ?_
    refine WT.region ?_
    refine WL.q (q_move rfl) rfl rfl rfl ?_
    refine WL.q (q_move rfl) rfl rfl rfl ?_
    refine WL.q (q_lenR Sl_39 rfl rfl ph0) rfl rfl rfl ?_
    refine WL.q (q_lss rfl rfl) rfl rfl rfl ?_
    refine WL.nil ?_
    refine WT.cond rfl (fun c2 => ?_) (fun c2 => ?_)
    · replace h := ite_t h c2
      refine WT.skip ?_
      refine WT.seq ?_
      refine WT.block ?_
      refine WT.seq ?_
      refine WT.region ?_
      refine WL.q (q_move rfl) rfl rfl rfl ?_
      refine WL.q (q_move rfl) rfl rfl rfl ?_
      obtain ⟨x1, hx1, h⟩ := bind_some h
      obtain ⟨cs1, F1, -, g1, r1⟩ := ph0.el (idx_some hx1).2.2
      obtain ⟨rfl, -⟩ := r1
      refine WL.q (q_indexAddr Sl_39 rfl rfl ph0 hx1) rfl rfl rfl ?_
      refine WL.q (q_loadN Tn_93 rfl (fun w1 hw => (g1.of_eq 0 3 rfl rfl : rg _ _ _ [.int .i64 x1.K, .int .i64 x1.N, .string x1.S]).rangeAt hw.fro) rfl) rfl rfl rfl ?_
      refine WL.q (q_move rfl) rfl rfl rfl ?_
      obtain ⟨x2, hx2, h⟩ := bind_some h
      refine WL.call (c_pure Fun_122 rfl (fun w1 hw => m_l_szVal_ok hw.fro N x1 s1 hx2)) rfl rfl rfl (fun _ => ?_)
      refine WL.q (q_assign rfl) rfl rfl rfl ?_
      refine WL.nil ?_
      refine WT.seq ?_
      refine WT.region ?_
      refine WL.q (q_move rfl) rfl rfl rfl ?_
      refine WL.q (q_lss rfl rfl) rfl rfl rfl ?_
      refine WL.nil ?_
      refine WT.cond rfl (fun c3 => ?_) (fun c3 => ?_)
      · replace h := ite_t h c3
        refine WT.seq ?_
        refine WT.region ?_
        refine WL.q (q_assign rfl) rfl rfl rfl ?_
        refine WL.nil ?_
        refine WT.ret Try.func77 (resOk.one rfl) (fun w1 hw => ?_)
        cases h
        exact post_of_St hw
      · replace h := ite_f h c3
        refine WT.skip ?_
        refine WT.inBlock ?_
        refine WT.region ?_
        refine WL.q (q_move rfl) rfl rfl rfl ?_
        refine WL.q (q_add rfl rfl) rfl rfl rfl ?_
        refine WL.q (q_assign rfl) rfl rfl rfl ?_
        refine WL.nil ?_
        refine WT.inLoop (WT.mono (l' := [(0, pv0), (1, .int .i64 x2), (4, .int .i64 0), (5, .int .i64 (IntKind.i64.wrap (s2 + 1)))]) (S' := St w Φ []) ⟨rfl, rfl, rfl, rfl, trivial⟩ (fun w1 hw => hw.drop 0) ?_)
        exact ih (x2, IntKind.i64.wrap (s2 + 1)) h
    · replace h := ite_f h c2
      refine WT.exit rfl ?_
      refine WT.seq ?_
      refine WT.region ?_
      refine WL.q (q_move rfl) rfl rfl rfl ?_
      refine WL.q (q_assign rfl) rfl rfl rfl ?_
      refine WL.nil ?_
      refine WT.ret Try.func77 (resOk.one rfl) (fun w1 hw => ?_)
      cases h
      exact post_of_St hw
theorem m_l_szIntS_ok {Φ : Hp} {w : World} (hΦ : In Φ w) (N : Nat) (p0 : (List Int)) (p1 : Int) {pv0 : Value} {pG0 : List Nat} (ph0 : RSl (RI .i64) 1 Φ pG0 pv0 p0) {r : Int} (h : m_l_szIntS N p0 p1 = some r) :
    Calls Try.prog 78 [pv0, .int .i64 p1].toArray w (Post (.int .i64 r) w) := by
  refine enter Try.func78 rfl Try.ntmps78 rfl (St.start hΦ) ?_
  unfold m_l_szIntS at h
  refine WT.seq ?_
  refine WT.region ?_
  refine WL.q (q_assign rfl) rfl rfl rfl ?_
  refine WL.nil ?_
  refine WT.seq ?_
  refine WT.region ?_
  refine WL.q (q_move rfl) rfl rfl rfl ?_
  refine WL.q (q_move rfl) rfl rfl rfl ?_
  refine WL.q (q_lenR Sl_29 rfl rfl ph0) rfl rfl rfl ?_
  refine WL.q (q_sub rfl rfl) rfl rfl rfl ?_
  refine WL.q (q_assign rfl) rfl rfl rfl ?_
  refine WL.nil ?_
  refine WT.seq ?_
  refine WT.seq ?_
  refine WT.region ?_
  refine WL.q (q_move rfl) rfl rfl rfl ?_
  refine WL.q (q_lss rfl rfl) rfl rfl rfl ?_
  refine WL.nil ?_
  refine WT.cond rfl (fun c1 => ?_) (fun c1 => ?_)
  · replace h := ite_t h c1
    refine WT.seq ?_
    refine WT.region ?_
    refine WL.q (q_assign rfl) rfl rfl rfl ?_
    refine WL.nil ?_
    refine WT.ret Try.func78 (resOk.one rfl) (fun w1 hw => ?_)
    cases h
    exact post_of_St hw
  · replace h := ite_f h c1
    refine WT.skip ?_
    refine WT.seq ?_
    refine WT.region ?_
    refine WL.q (q_move rfl) rfl rfl rfl ?_
    refine WL.q (q_assign rfl) rfl rfl rfl ?_
    refine WL.nil ?_
    refine WT.ret Try.func78 (resOk.one rfl) (fun w1 hw => ?_)
    cases h
    exact post_of_St hw
theorem m_l_szAlpha_ok {Φ : Hp} {w : World} (hΦ : In Φ w) (N : Nat) (p0 : TAlpha) (p1 : Int) {pv0_0 : Value} {pG0_0 : List Nat} {pv0_1 : Value} {pG0_1 : List Nat} (ph0_0 : RSl RTVal 3 Φ pG0_0 pv0_0 p0.Consts) (ph0_1 : RSl (RI .i64) 1 Φ pG0_1 pv0_1 p0.At) {r : Int} (h : m_l_szAlpha N p0 p1 = some r) :
    Calls Try.prog 24 [.agg [.string p0.Kind, .int .i64 p0.N, pv0_0, pv0_1].toArray, .int .i64 p1].toArray w (Post (.int .i64 r) w) := by
  refine enter Try.func24 rfl Try.ntmps24 rfl (St.start hΦ) ?_
  unfold m_l_szAlpha at h
  refine WT.seq ?_
  refine WT.region ?_
  refine WL.box (C := #[.string p0.Kind, .int .i64 p0.N, pv0_0, pv0_1]) rfl rfl rfl rfl rfl rfl (fun b_1 => ?_)
  refine WL.q (q_assign rfl) rfl rfl rfl ?_
  refine WL.nil ?_
  refine WT.seq ?_
  refine WT.region ?_
  refine WL.q (q_move rfl) rfl rfl rfl ?_
  refine WL.q (q_fieldAddr Fld_41_0 rfl) rfl rfl rfl ?_
  refine WL.q (q_load1 T1_9 rfl (fun w1 hw => hw.rgL (i := 0) rfl 0 1 [.string p0.Kind] rfl)) rfl rfl rfl ?_
  refine WL.q (q_lenS Str_9 rfl rfl) rfl rfl rfl ?_
  refine WL.q (q_sub rfl rfl) rfl rfl rfl ?_
  refine WL.q (q_assign rfl) rfl rfl rfl ?_
  refine WL.nil ?_
  refine WT.seq ?_
  refine WT.seq ?_
  refine WT.region ?_
  refine WL.q (q_move rfl) rfl rfl rfl ?_
  refine WL.q (q_lss rfl rfl) rfl rfl rfl ?_
  refine WL.nil ?_
  refine WT.cond rfl (fun c1 => ?_) (fun c1 => ?_)
  · replace h := ite_t h c1
    refine WT.seq ?_
    refine WT.region ?_
    refine WL.q (q_assign rfl) rfl rfl rfl ?_
    refine WL.nil ?_
    refine WT.ret Try.func24 (resOk.one rfl) (fun w1 hw => ?_)
    cases h
    exact post_of_St hw
  · replace h := ite_f h c1
    refine WT.skip ?_
    refine WT.seq ?_
    refine WT.region ?_
    refine WL.q (q_fieldAddr Fld_41_2 rfl) rfl rfl rfl ?_
    refine WL.q (q_load1 T1_39 rfl (fun w1 hw => hw.rgL (i := 0) rfl 2 1 [pv0_0] rfl)) rfl rfl rfl ?_
    refine WL.q (q_move rfl) rfl rfl rfl ?_
    obtain ⟨x1, hx1, h⟩ := bind_some h
    refine WL.call (c_pure Fun_77 rfl (fun w1 hw => m_l_szValS_ok hw.fro N p0.Consts (IntKind.i64.wrap (p1 - (p0.Kind.size : Int))) ph0_0 hx1)) rfl rfl rfl (fun _ => ?_)
    refine WL.q (q_assign rfl) rfl rfl rfl ?_
    refine WL.nil ?_
    refine WT.seq ?_
    refine WT.seq ?_
    refine WT.region ?_
    refine WL.q (q_move rfl) rfl rfl rfl ?_
    refine WL.q (q_lss rfl rfl) rfl rfl rfl ?_
    refine WL.nil ?_
    refine WT.cond rfl (fun c2 => ?_) (fun c2 => ?_)
    · replace h := ite_t h c2
      refine WT.seq ?_
      refine WT.region ?_
      refine WL.q (q_assign rfl) rfl rfl rfl ?_
      refine WL.nil ?_
      refine WT.ret Try.func24 (resOk.one rfl) (fun w1 hw => ?_)
      cases h
      exact post_of_St hw
    · replace h := ite_f h c2
      refine WT.skip ?_
      refine WT.seq ?_
      refine WT.region ?_
      refine WL.q (q_fieldAddr Fld_41_3 rfl) rfl rfl rfl ?_
      refine WL.q (q_load1 T1_29 rfl (fun w1 hw => hw.rgL (i := 0) rfl 3 1 [pv0_1] rfl)) rfl rfl rfl ?_
      refine WL.q (q_move rfl) rfl rfl rfl ?_
      obtain ⟨x2, hx2, h⟩ := bind_some h
      refine WL.call (c_pure Fun_78 rfl (fun w1 hw => m_l_szIntS_ok hw.fro N p0.At x1 ph0_1 hx2)) rfl rfl rfl (fun _ => ?_)
      refine WL.q (q_assign rfl) rfl rfl rfl ?_
      refine WL.nil ?_
      refine WT.seq ?_
      refine WT.seq ?_
      refine WT.region ?_
      refine WL.q (q_move rfl) rfl rfl rfl ?_
      refine WL.q (q_lss rfl rfl) rfl rfl rfl ?_
      refine WL.nil ?_
      refine WT.cond rfl (fun c3 => ?_) (fun c3 => ?_)
      · replace h := ite_t h c3
        refine WT.seq ?_
        refine WT.region ?_
        refine WL.q (q_assign rfl) rfl rfl rfl ?_
        refine WL.nil ?_
        refine WT.ret Try.func24 (resOk.one rfl) (fun w1 hw => ?_)
        cases h
        exact post_of_St hw
      · replace h := ite_f h c3
        refine WT.skip ?_
        refine WT.seq ?_
        refine WT.region ?_
        refine WL.q (q_move rfl) rfl rfl rfl ?_
        refine WL.q (q_assign rfl) rfl rfl rfl ?_
        refine WL.nil ?_
        refine WT.ret Try.func24 (resOk.one rfl) (fun w1 hw => ?_)
        cases h
        exact post_of_St hw
theorem m_l_toVal_ok {Φ : Hp} {w : World} (hΦ : In Φ w) (N : Nat) (p0 : TVal)   {r : TVal} (h : m_l_toVal N p0 = some r) :
    Calls Try.prog 123 [.agg [.int .i64 p0.K, .int .i64 p0.N, .string p0.S].toArray].toArray w (Post (.agg [.int .i64 r.K, .int .i64 r.N, .string r.S].toArray) w) := by
  refine enter Try.func123 rfl Try.ntmps123 rfl (St.start hΦ) ?_
  unfold m_l_toVal at h
  refine WT.seq ?_
  refine WT.region ?_
  refine WL.box (C := #[.int .i64 p0.K, .int .i64 p0.N, .string p0.S]) rfl rfl rfl rfl rfl rfl (fun b_1 => ?_)
  refine WL.alloc (C := #[.int .i64 0, .int .i64 0, .string (⟨#[]⟩ : ByteArray)]) rfl rfl rfl rfl Zr_100 rfl (fun b_2 => ?_)
  refine WL.nil ?_
  refine WT.seq ?_
  refine WT.region ?_
  refine WL.alloc (C := #[.int .i64 0, .int .i64 0, .string (⟨#[]⟩ : ByteArray)]) rfl rfl rfl rfl Zr_100 rfl (fun b_3 => ?_)
  refine WL.nil ?_
  refine WT.seq ?_
  refine WT.region ?_
  refine WL.q (q_fieldAddr Fld_93_0 rfl) rfl rfl rfl ?_
  refine WL.q (q_load1 T1_3 rfl (fun w1 hw => hw.rgL (i := 2) rfl 0 1 [.int .i64 p0.K] rfl)) rfl rfl rfl ?_
  refine WL.q (q_fieldAddr Fld_100_0 rfl) rfl rfl rfl ?_
  refine WL.store (i := 0) (vs := [.int .i64 p0.K]) (C' := [.int .i64 p0.K, .int .i64 0, .string (⟨#[]⟩ : ByteArray)]) rfl rfl rfl Sz_3 rfl rfl rfl rfl rfl rfl ⟨rfl, trivial⟩ rfl ?_
  refine WL.nil ?_
  refine WT.seq ?_
  refine WT.region ?_
  refine WL.q (q_fieldAddr Fld_93_1 rfl) rfl rfl rfl ?_
  refine WL.q (q_load1 T1_3 rfl (fun w1 hw => hw.rgL (i := 2) rfl 1 1 [.int .i64 p0.N] rfl)) rfl rfl rfl ?_
  refine WL.q (q_fieldAddr Fld_100_1 rfl) rfl rfl rfl ?_
  refine WL.store (i := 0) (vs := [.int .i64 p0.N]) (C' := [.int .i64 p0.K, .int .i64 p0.N, .string (⟨#[]⟩ : ByteArray)]) rfl rfl rfl Sz_3 rfl rfl rfl rfl rfl rfl ⟨rfl, trivial⟩ rfl ?_
  refine WL.nil ?_
  refine WT.seq ?_
  refine WT.region ?_
  refine WL.q (q_fieldAddr Fld_93_2 rfl) rfl rfl rfl ?_
  refine WL.q (q_load1 T1_9 rfl (fun w1 hw => hw.rgL (i := 2) rfl 2 1 [.string p0.S] rfl)) rfl rfl rfl ?_
  refine WL.q (q_fieldAddr Fld_100_2 rfl) rfl rfl rfl ?_
  refine WL.store (i := 0) (vs := [.string p0.S]) (C' := [.int .i64 p0.K, .int .i64 p0.N, .string p0.S]) rfl rfl rfl Sz_9 rfl rfl rfl rfl rfl rfl ⟨rfl, trivial⟩ rfl ?_
  refine WL.nil ?_
  refine WT.seq ?_
  refine WT.region ?_
  refine WL.q (q_loadN Tn_100 rfl (fun w1 hw => hw.rgL (i := 0) rfl 0 3 [.int .i64 p0.K, .int .i64 p0.N, .string p0.S] rfl) rfl) rfl rfl rfl ?_
  refine WL.store (i := 1) (vs := [.int .i64 p0.K, .int .i64 p0.N, .string p0.S]) (C' := [.int .i64 p0.K, .int .i64 p0.N, .string p0.S]) rfl rfl rfl Sz_100 rfl rfl rfl rfl rfl rfl ⟨rfl, rfl, rfl, trivial⟩ rfl ?_
  refine WL.nil ?_
  refine WT.ret Try.func123 (resOk.one (rv_cell Tn_100 rfl (fun w1 hw => hw.rgL (i := 1) rfl 0 3 [.int .i64 p0.K, .int .i64 p0.N, .string p0.S] rfl) rfl)) (fun w1 hw => ?_)
  cases h
  exact post_of_St hw
theorem m_l_toValS_ok {Φ : Hp} {w : World} (hΦ : In Φ w) (N : Nat) (p0 : (List TVal)) {pv0 : Value} {pG0 : List Nat} (ph0 : RSl RTVal 3 Φ pG0 pv0 p0) {r : (List TVal)} (h : m_l_toValS N p0 = some r) :
    Calls Try.prog 81 [pv0].toArray w (PostL Φ w (fun Φ' F v => ∃ (s0 : Value) (F0 : List Nat), v = s0 ∧ F = F0 ∧ RSl RTVal 3 Φ' F0 s0 r)) := by
  refine enter Try.func81 rfl Try.ntmps81 rfl (St.start hΦ) ?_
  unfold m_l_toValS at h
  have hle := Hle.refl Φ
  have hold : ∀ x, x < w.heap.size → Φ x = Φ x := fun _ _ => rfl
  refine WT.seq ?_
  refine WT.region ?_
  refine WL.q (q_assign rfl) rfl rfl rfl ?_
  refine WL.nil ?_
  refine WT.seq ?_
  refine WT.region ?_
  refine WL.q (q_move rfl) rfl rfl rfl ?_
  refine WL.q (q_lenR Sl_39 rfl rfl ph0) rfl rfl rfl ?_
  obtain ⟨x1, hx1, h⟩ := bind_some h
  refine WL.make (R := RTVal) rfl rfl rfl rfl Sl_44 Zr_100 By_100 rfl rfl rfl ⟨rfl, rfl⟩ rfl rfl hx1 (fun b_1 cl1 fs1 k1 q1 => ?_)
  refine WL.q (q_assign rfl) rfl rfl rfl ?_
  refine WL.nil ?_
  refine WT.seq ?_
  refine WT.seq ?_
  refine WT.region ?_
  refine WL.q (q_assign rfl) rfl rfl rfl ?_
  refine WL.nil ?_
  refine WT.block ?_
  refine WT.loop ?_
  refine WT.keep [(0, pv0), (2, .slice none 0 0), (3, (.slice (some ⟨b_1, 0, none⟩) x1.length x1.length)), (4, .int .i64 0)] ⟨rfl, rfl, rfl, rfl, trivial⟩ ?_
  refine loop_ind (σ := Int × (List TVal) × Value × List Value × List (List Nat)) (fun s => [(0, pv0), (2, .slice none 0 0), (3, s.2.2.1), (4, .int .i64 s.1)]) (fun s => St w Φ [Ent.row 100 3 s.2.2.1 s.2.1.length s.2.2.2.1]) (fun m s => m_l_toValS_l1 N p0 m s.1 s.2.1 = some r ∧ RC RTVal 3 Φ s.2.2.2.2 s.2.2.2.1 s.2.1 ∧ SP s.2.2.2.2.flatten []) (fun s hm => none_ne (show (none : Option ((List TVal))) = some r from hm.1)) (fun k ih s hm => ?_) N (0, x1, (.slice (some ⟨b_1, 0, none⟩) x1.length x1.length), cl1, fs1) ⟨h, k1, q1⟩
  obtain ⟨s1, s2, u1, cl2, fs2⟩ := s
  obtain ⟨h, k2, q2⟩ := hm
  replace h : m_l_toValS_l1 N p0 (k + 1) s1 s2 = some r := h
  replace k2 : RC RTVal 3 Φ fs2 cl2 s2 := k2
  replace q2 : SP fs2.flatten [] := q2
  show WT _ _ [(0, pv0), (2, .slice none 0 0), (3, u1), (4, .int .i64 s1)] (St w Φ [Ent.row 100 3 u1 s2.length cl2])
  unfold m_l_toValS_l1 at h
  refine WT.seq ?_
  refine WT.seq ?_
  refine WT.region ?_
  refine WL.q (q_move rfl) rfl rfl rfl ?_
  refine WL.q (q_move rfl) rfl rfl rfl ?_
  refine WL.q (q_lenR Sl_39 rfl rfl ph0) rfl rfl rfl ?_
  refine WL.q (q_lss rfl rfl) rfl rfl rfl ?_
  refine WL.nil ?_
  refine WT.cond rfl (fun c1 => ?_) (fun c1 => ?_)
  · replace h := ite_t h c1
    refine WT.skip ?_
    refine WT.seq ?_
    refine WT.block ?_
    refine WT.region ?_
    refine WL.q (q_move rfl) rfl rfl rfl ?_
    refine WL.q (q_move rfl) rfl rfl rfl ?_
    refine WL.q (q_move rfl) rfl rfl rfl ?_
    refine WL.q (q_move rfl) rfl rfl rfl ?_
    obtain ⟨x2, hx2, h⟩ := bind_some h
    obtain ⟨cs1, F1, -, g1, r1⟩ := ph0.el (idx_some hx2).2.2
    obtain ⟨rfl, -⟩ := r1
    refine WL.q (q_indexAddr Sl_39 rfl rfl ph0 hx2) rfl rfl rfl ?_
    refine WL.q (q_loadN Tn_93 rfl (fun w1 hw => (g1.of_eq 0 3 rfl rfl : rg _ _ _ [.int .i64 x2.K, .int .i64 x2.N, .string x2.S]).rangeAt hw.fro) rfl) rfl rfl rfl ?_
    obtain ⟨x3, hx3, h⟩ := bind_some h
    refine WL.call (c_pure Fun_123 rfl (fun w1 hw => m_l_toVal_ok hw.fro N x2 hx3)) rfl rfl rfl (fun _ => ?_)
    obtain ⟨x4, hx4, h⟩ := bind_some h
    refine WL.q (q_indexAddrRow Sl_44 rfl rfl (j := 0) rfl hx4) rfl rfl rfl ?_
    refine WL.storeRow (j := 0) (cs := [.int .i64 x3.K, .int .i64 x3.N, .string x3.S]) (x' := x3) (F := []) rfl rfl rfl Sz_100 rfl rfl rfl (idx_lt hx4) rfl rfl ⟨rfl, rfl, rfl, trivial⟩ k2 ⟨rfl, rfl⟩ (fun cl3 k3 => ?_)
    have q3 : SP ((fs2.set s1.toNat [])).flatten [] := by simpa using SP.set (F := []) q2 (s1.toNat)
    refine WL.nil ?_
    refine WT.inBlock ?_
    refine WT.region ?_
    refine WL.q (q_move rfl) rfl rfl rfl ?_
    refine WL.q (q_add rfl rfl) rfl rfl rfl ?_
    refine WL.q (q_assign rfl) rfl rfl rfl ?_
    refine WL.nil ?_
    refine WT.inLoop (WT.mono (l' := [(0, pv0), (2, .slice none 0 0), (3, u1), (4, .int .i64 (IntKind.i64.wrap (s1 + 1)))]) (S' := St w Φ [Ent.row 100 3 u1 (s2.set s1.toNat x3).length cl3]) ⟨rfl, rfl, rfl, rfl, trivial⟩ (fun w1 hw => hw.drop 0) ?_)
    exact ih (IntKind.i64.wrap (s1 + 1), (s2.set s1.toNat x3), u1, cl3, (fs2.set s1.toNat [])) ⟨h, k3, q3⟩
  · replace h := ite_f h c1
    refine WT.exit rfl ?_
    refine WT.seq ?_
    refine WT.region ?_
    refine WL.q (q_move rfl) rfl rfl rfl ?_
    refine WL.q (q_assign rfl) rfl rfl rfl ?_
    refine WL.nil ?_
    refine WT.ret Try.func81 (resOk.one rfl) (fun w1 hw => ?_)
    cases h
    obtain ⟨Φ_1, le1, ho1, hw, k4⟩ := hw.freezeRow RTVal.mono (i := 0) rfl k2
    replace ph0 := RSl.mono RTVal.mono le1 ph0
    replace k2 := RC.mono RTVal.mono le1 k2
    replace hle := hle.trans le1
    replace hold : ∀ x, x < w.heap.size → Φ_1 x = Φ x := fun x hx => (ho1 x hx).trans (hold x hx)
    replace hw := hw.front (i := 0) rfl
    replace hw : St w Φ_1 [Ent.dat u1.ownBlock.toList] w1 := hw
    refine postL_of_St (F := (u1.ownBlock.toList ++ fs2.flatten)) hw hle hold ?_ ⟨u1, (u1.ownBlock.toList ++ fs2.flatten), rfl, rfl, k4⟩
    have hfin := ((SP.append (SP.refl u1.ownBlock.toList) q2)).trans (SP.left _ (blksOf []))
    simpa only [blksOf, List.flatMap_cons, Ent.dat, List.append_assoc, List.nil_append, List.append_nil] using hfin
theorem m_l_toIntS_ok {Φ : Hp} {w : World} (hΦ : In Φ w) (N : Nat) (p0 : (List Int)) {pv0 : Value} {pG0 : List Nat} (ph0 : RSl (RI .i64) 1 Φ pG0 pv0 p0) {r : (List Int)} (h : m_l_toIntS N p0 = some r) :
    Calls Try.prog 82 [pv0].toArray w (PostL Φ w (fun Φ' F v => ∃ (s0 : Value) (F0 : List Nat), v = s0 ∧ F = F0 ∧ RSl (RI .i64) 1 Φ' F0 s0 r)) := by
  refine enter Try.func82 rfl Try.ntmps82 rfl (St.start hΦ) ?_
  unfold m_l_toIntS at h
  have hle := Hle.refl Φ
  have hold : ∀ x, x < w.heap.size → Φ x = Φ x := fun _ _ => rfl
  refine WT.seq ?_
  refine WT.region ?_
  refine WL.q (q_assign rfl) rfl rfl rfl ?_
  refine WL.nil ?_
  refine WT.seq ?_
  refine WT.region ?_
  refine WL.q (q_move rfl) rfl rfl rfl ?_
  refine WL.q (q_lenR Sl_29 rfl rfl ph0) rfl rfl rfl ?_
  obtain ⟨x1, hx1, h⟩ := bind_some h
  refine WL.make (R := (RI .i64)) rfl rfl rfl rfl Sl_29 Zr_3 By_3 rfl rfl rfl ⟨rfl, rfl⟩ rfl rfl hx1 (fun b_1 cl1 fs1 k1 q1 => ?_)
  refine WL.q (q_assign rfl) rfl rfl rfl ?_
  refine WL.nil ?_
  refine WT.seq ?_
  refine WT.seq ?_
  refine WT.region ?_
  refine WL.q (q_assign rfl) rfl rfl rfl ?_
  refine WL.nil ?_
  refine WT.block ?_
  refine WT.loop ?_
  refine WT.keep [(0, pv0), (2, .slice none 0 0), (3, (.slice (some ⟨b_1, 0, none⟩) x1.length x1.length)), (4, .int .i64 0)] ⟨rfl, rfl, rfl, rfl, trivial⟩ ?_
  refine loop_ind (σ := Int × (List Int) × Value × List Value × List (List Nat)) (fun s => [(0, pv0), (2, .slice none 0 0), (3, s.2.2.1), (4, .int .i64 s.1)]) (fun s => St w Φ [Ent.row 3 1 s.2.2.1 s.2.1.length s.2.2.2.1]) (fun m s => m_l_toIntS_l1 N p0 m s.1 s.2.1 = some r ∧ RC (RI .i64) 1 Φ s.2.2.2.2 s.2.2.2.1 s.2.1 ∧ SP s.2.2.2.2.flatten []) (fun s hm => none_ne (show (none : Option ((List Int))) = some r from hm.1)) (fun k ih s hm => ?_) N (0, x1, (.slice (some ⟨b_1, 0, none⟩) x1.length x1.length), cl1, fs1) ⟨h, k1, q1⟩
  obtain ⟨s1, s2, u1, cl2, fs2⟩ := s
  obtain ⟨h, k2, q2⟩ := hm
  replace h : m_l_toIntS_l1 N p0 (k + 1) s1 s2 = some r := h
  replace k2 : RC (RI .i64) 1 Φ fs2 cl2 s2 := k2
  replace q2 : SP fs2.flatten [] := q2
  show WT _ _ [(0, pv0), (2, .slice none 0 0), (3, u1), (4, .int .i64 s1)] (St w Φ [Ent.row 3 1 u1 s2.length cl2])
  unfold m_l_toIntS_l1 at h
  refine WT.seq ?_
  refine WT.seq ?_
  refine WT.region ?_
  refine WL.q (q_move rfl) rfl rfl rfl ?_
  refine WL.q (q_move rfl) rfl rfl rfl ?_
  refine WL.q (q_lenR Sl_29 rfl rfl ph0) rfl rfl rfl ?_
  refine WL.q (q_lss rfl rfl) rfl rfl rfl ?_
  refine WL.nil ?_
  refine WT.cond rfl (fun c1 => ?_) (fun c1 => ?_)
  · replace h := ite_t h c1
    refine WT.skip ?_
    refine WT.seq ?_
    refine WT.block ?_
    refine WT.region ?_
    refine WL.q (q_move rfl) rfl rfl rfl ?_
    refine WL.q (q_move rfl) rfl rfl rfl ?_
    refine WL.q (q_move rfl) rfl rfl rfl ?_
    refine WL.q (q_move rfl) rfl rfl rfl ?_
    obtain ⟨x2, hx2, h⟩ := bind_some h
    obtain ⟨cs1, F1, -, g1, r1⟩ := ph0.el (idx_some hx2).2.2
    obtain ⟨rfl, -⟩ := r1
    refine WL.q (q_indexAddr Sl_29 rfl rfl ph0 hx2) rfl rfl rfl ?_
    refine WL.q (q_load1 T1_3 rfl (fun w1 hw => (g1.of_eq 0 1 rfl rfl : rg _ _ _ [.int .i64 x2]).rangeAt hw.fro)) rfl rfl rfl ?_
    obtain ⟨x3, hx3, h⟩ := bind_some h
    refine WL.q (q_indexAddrRow Sl_29 rfl rfl (j := 0) rfl hx3) rfl rfl rfl ?_
    refine WL.storeRow (j := 0) (cs := [.int .i64 x2]) (x' := x2) (F := []) rfl rfl rfl Sz_3 rfl rfl rfl (idx_lt hx3) rfl rfl ⟨rfl, trivial⟩ k2 ⟨rfl, rfl⟩ (fun cl3 k3 => ?_)
    have q3 : SP ((fs2.set s1.toNat [])).flatten [] := by simpa using SP.set (F := []) q2 (s1.toNat)
    refine WL.nil ?_
    refine WT.inBlock ?_
    refine WT.region ?_
    refine WL.q (q_move rfl) rfl rfl rfl ?_
    refine WL.q (q_add rfl rfl) rfl rfl rfl ?_
    refine WL.q (q_assign rfl) rfl rfl rfl ?_
    refine WL.nil ?_
    refine WT.inLoop (WT.mono (l' := [(0, pv0), (2, .slice none 0 0), (3, u1), (4, .int .i64 (IntKind.i64.wrap (s1 + 1)))]) (S' := St w Φ [Ent.row 3 1 u1 (s2.set s1.toNat x2).length cl3]) ⟨rfl, rfl, rfl, rfl, trivial⟩ (fun w1 hw => hw.drop 0) ?_)
    exact ih (IntKind.i64.wrap (s1 + 1), (s2.set s1.toNat x2), u1, cl3, (fs2.set s1.toNat [])) ⟨h, k3, q3⟩
  · replace h := ite_f h c1
    refine WT.exit rfl ?_
    refine WT.seq ?_
    refine WT.region ?_
    refine WL.q (q_move rfl) rfl rfl rfl ?_
    refine WL.q (q_assign rfl) rfl rfl rfl ?_
    refine WL.nil ?_
    refine WT.ret Try.func82 (resOk.one rfl) (fun w1 hw => ?_)
    cases h
    obtain ⟨Φ_1, le1, ho1, hw, k4⟩ := hw.freezeRow RI.mono (i := 0) rfl k2
    replace ph0 := RSl.mono RI.mono le1 ph0
    replace k2 := RC.mono RI.mono le1 k2
    replace hle := hle.trans le1
    replace hold : ∀ x, x < w.heap.size → Φ_1 x = Φ x := fun x hx => (ho1 x hx).trans (hold x hx)
    replace hw := hw.front (i := 0) rfl
    replace hw : St w Φ_1 [Ent.dat u1.ownBlock.toList] w1 := hw
    refine postL_of_St (F := (u1.ownBlock.toList ++ fs2.flatten)) hw hle hold ?_ ⟨u1, (u1.ownBlock.toList ++ fs2.flatten), rfl, rfl, k4⟩
    have hfin := ((SP.append (SP.refl u1.ownBlock.toList) q2)).trans (SP.left _ (blksOf []))
    simpa only [blksOf, List.flatMap_cons, Ent.dat, List.append_assoc, List.nil_append, List.append_nil] using hfin
theorem m_l_toAlpha_ok {Φ : Hp} {w : World} (hΦ : In Φ w) (N : Nat) (p0 : TAlpha) {pv0_0 : Value} {pG0_0 : List Nat} {pv0_1 : Value} {pG0_1 : List Nat} (ph0_0 : RSl RTVal 3 Φ pG0_0 pv0_0 p0.Consts) (ph0_1 : RSl (RI .i64) 1 Φ pG0_1 pv0_1 p0.At) {r : TAlpha} (h : m_l_toAlpha N p0 = some r) :
    Calls Try.prog 26 [.agg [.string p0.Kind, .int .i64 p0.N, pv0_0, pv0_1].toArray].toArray w (PostL Φ w (fun Φ' F v => ∃ (c0 : List Value) (F0 : List Nat), v = .agg c0.toArray ∧ F = F0 ∧ RTAlpha Φ' F0 c0 r)) := by
  refine enter Try.func26 rfl Try.ntmps26 rfl (St.start hΦ) ?_
  unfold m_l_toAlpha at h
  have hle := Hle.refl Φ
  have hold : ∀ x, x < w.heap.size → Φ x = Φ x := fun _ _ => rfl
  refine WT.seq ?_
  refine WT.region ?_
  refine WL.box (C := #[.string p0.Kind, .int .i64 p0.N, pv0_0, pv0_1]) rfl rfl rfl rfl rfl rfl (fun b_1 => ?_)
  refine WL.alloc (C := #[.string (⟨#[]⟩ : ByteArray), .int .i64 0, .slice none 0 0, .slice none 0 0]) rfl rfl rfl rfl Zr_46 rfl (fun b_2 => ?_)
  refine WL.nil ?_
  refine WT.seq ?_
  refine WT.region ?_
  refine WL.alloc (C := #[.string (⟨#[]⟩ : ByteArray), .int .i64 0, .slice none 0 0, .slice none 0 0]) rfl rfl rfl rfl Zr_46 rfl (fun b_3 => ?_)
  refine WL.nil ?_
  refine WT.seq ?_
  refine WT.region ?_
  refine WL.q (q_fieldAddr Fld_41_0 rfl) rfl rfl rfl ?_
  refine WL.q (q_load1 T1_9 rfl (fun w1 hw => hw.rgL (i := 2) rfl 0 1 [.string p0.Kind] rfl)) rfl rfl rfl ?_
  refine WL.q (q_fieldAddr Fld_46_0 rfl) rfl rfl rfl ?_
  refine WL.store (i := 0) (vs := [.string p0.Kind]) (C' := [.string p0.Kind, .int .i64 0, .slice none 0 0, .slice none 0 0]) rfl rfl rfl Sz_9 rfl rfl rfl rfl rfl rfl ⟨rfl, trivial⟩ rfl ?_
  refine WL.nil ?_
  refine WT.seq ?_
  refine WT.region ?_
  refine WL.q (q_fieldAddr Fld_41_1 rfl) rfl rfl rfl ?_
  refine WL.q (q_load1 T1_3 rfl (fun w1 hw => hw.rgL (i := 2) rfl 1 1 [.int .i64 p0.N] rfl)) rfl rfl rfl ?_
  refine WL.q (q_fieldAddr Fld_46_1 rfl) rfl rfl rfl ?_
  refine WL.store (i := 0) (vs := [.int .i64 p0.N]) (C' := [.string p0.Kind, .int .i64 p0.N, .slice none 0 0, .slice none 0 0]) rfl rfl rfl Sz_3 rfl rfl rfl rfl rfl rfl ⟨rfl, trivial⟩ rfl ?_
  refine WL.nil ?_
  refine WT.seq ?_
  refine WT.region ?_
  refine WL.q (q_fieldAddr Fld_41_2 rfl) rfl rfl rfl ?_
  refine WL.q (q_load1 T1_39 rfl (fun w1 hw => hw.rgL (i := 2) rfl 2 1 [pv0_0] rfl)) rfl rfl rfl ?_
  obtain ⟨x1, hx1, h⟩ := bind_some h
  refine WL.callL rfl rfl rfl rfl Fun_81 rfl (fun w1 hw => m_l_toValS_ok hw.fro N p0.Consts ph0_0 hx1) (fun v1 Φ_1 D1 le1 ho1 qq1 => ?_)
  replace ph0_0 := RSl.mono RTVal.mono le1 ph0_0
  replace ph0_1 := RSl.mono RI.mono le1 ph0_1
  replace hle := hle.trans le1
  replace hold : ∀ x, x < w.heap.size → Φ_1 x = Φ x := fun x hx => (ho1 x hx).trans (hold x hx)
  obtain ⟨v2, G1, rfl, rfl, h1⟩ := qq1
  refine WL.q (q_fieldAddr Fld_46_2 rfl) rfl rfl rfl ?_
  refine WL.store (i := 1) (vs := [v1]) (C' := [.string p0.Kind, .int .i64 p0.N, v1, .slice none 0 0]) rfl rfl rfl Sz_44 rfl rfl rfl (one_cells (RSl.one h1)) rfl rfl ⟨RSl.one h1, trivial⟩ rfl ?_
  refine WL.nil ?_
  refine WT.seq ?_
  refine WT.region ?_
  refine WL.q (q_fieldAddr Fld_41_3 rfl) rfl rfl rfl ?_
  refine WL.q (q_load1 T1_29 rfl (fun w1 hw => hw.rgL (i := 3) rfl 3 1 [pv0_1] rfl)) rfl rfl rfl ?_
  obtain ⟨x2, hx2, h⟩ := bind_some h
  refine WL.callL rfl rfl rfl rfl Fun_82 rfl (fun w1 hw => m_l_toIntS_ok hw.fro N p0.At ph0_1 hx2) (fun v3 Φ_2 D2 le2 ho2 qq2 => ?_)
  replace ph0_0 := RSl.mono RTVal.mono le2 ph0_0
  replace ph0_1 := RSl.mono RI.mono le2 ph0_1
  replace h1 := RSl.mono RTVal.mono le2 h1
  replace hle := hle.trans le2
  replace hold : ∀ x, x < w.heap.size → Φ_2 x = Φ x := fun x hx => (ho2 x hx).trans (hold x hx)
  obtain ⟨v4, G2, rfl, rfl, h2⟩ := qq2
  refine WL.q (q_fieldAddr Fld_46_3 rfl) rfl rfl rfl ?_
  refine WL.store (i := 2) (vs := [v3]) (C' := [.string p0.Kind, .int .i64 p0.N, v1, v3]) rfl rfl rfl Sz_29 rfl rfl rfl (one_cells (RSl.one h2)) rfl rfl ⟨RSl.one h2, trivial⟩ rfl ?_
  refine WL.nil ?_
  refine WT.seq ?_
  refine WT.region ?_
  refine WL.q (q_loadN Tn_46 rfl (fun w1 hw => hw.rgL (i := 2) rfl 0 4 [.string p0.Kind, .int .i64 p0.N, v1, v3] rfl) rfl) rfl rfl rfl ?_
  refine WL.store (i := 3) (vs := [.string p0.Kind, .int .i64 p0.N, v1, v3]) (C' := [.string p0.Kind, .int .i64 p0.N, v1, v3]) rfl rfl rfl Sz_46 rfl rfl rfl rfl rfl rfl ⟨rfl, rfl, RSl.one h1, RSl.one h2, trivial⟩ rfl ?_
  refine WL.nil ?_
  refine WT.ret Try.func26 (resOk.one (rv_cell Tn_46 rfl (fun w1 hw => hw.rgL (i := 3) rfl 0 4 [.string p0.Kind, .int .i64 p0.N, v1, v3] rfl) rfl)) (fun w1 hw => ?_)
  cases h
  replace hw := hw.front (i := 0) rfl
  replace hw := hw.front (i := 1) rfl
  replace hw : St w Φ_2 [Ent.dat D1, Ent.dat D2, Ent.obj b_3 (.cells #[.string p0.Kind, .int .i64 p0.N, v1, v3] 46 (0, 0)), Ent.obj b_2 (.cells #[.string p0.Kind, .int .i64 p0.N, v1, v3] 46 (0, 0)), Ent.obj b_1 (.cells #[.string p0.Kind, .int .i64 p0.N, pv0_0, pv0_1] 41 (0, 0))] w1 := hw
  refine postL_of_St (F := (D1 ++ D2)) hw hle hold ?_ ⟨[.string p0.Kind, .int .i64 p0.N, v1, v3], D1 ++ D2, rfl, rfl, ⟨v1, D1, v3, D2, rfl, rfl, h1, h2⟩⟩
  have hfin := ((SP.append (SP.refl D1) (SP.refl D2))).trans (SP.left _ (blksOf [Ent.obj b_3 (.cells #[.string p0.Kind, .int .i64 p0.N, v1, v3] 46 (0, 0)), Ent.obj b_2 (.cells #[.string p0.Kind, .int .i64 p0.N, v1, v3] 46 (0, 0)), Ent.obj b_1 (.cells #[.string p0.Kind, .int .i64 p0.N, pv0_0, pv0_1] 41 (0, 0))]))
  simpa only [blksOf, List.flatMap_cons, Ent.dat, List.append_assoc, List.nil_append, List.append_nil] using hfin
theorem m_l_eqVal_ok {Φ : Hp} {w : World} (hΦ : In Φ w) (N : Nat) (p0 : TVal) (p1 : TVal)   {r : Bool} (h : m_l_eqVal N p0 p1 = some r) :
    Calls Try.prog 63 [.agg [.int .i64 p0.K, .int .i64 p0.N, .string p0.S].toArray, .agg [.int .i64 p1.K, .int .i64 p1.N, .string p1.S].toArray].toArray w (Post (.bool r) w) := by
  refine enter Try.func63 rfl Try.ntmps63 rfl (St.start hΦ) ?_
  unfold m_l_eqVal at h
  refine WT.seq ?_
  refine WT.region ?_
  refine WL.box (C := #[.int .i64 p0.K, .int .i64 p0.N, .string p0.S]) rfl rfl rfl rfl rfl rfl (fun b_1 => ?_)
  refine WL.box (C := #[.int .i64 p1.K, .int .i64 p1.N, .string p1.S]) rfl rfl rfl rfl rfl rfl (fun b_2 => ?_)
  refine WL.q (q_assign rfl) rfl rfl rfl ?_
  refine WL.nil ?_
  refine WT.seq ?_
  refine WT.seq ?_
  refine WT.region ?_
  refine WL.q (q_fieldAddr Fld_100_0 rfl) rfl rfl rfl ?_
  refine WL.q (q_load1 T1_3 rfl (fun w1 hw => hw.rgL (i := 1) rfl 0 1 [.int .i64 p0.K] rfl)) rfl rfl rfl ?_
  refine WL.q (q_fieldAddr Fld_100_0 rfl) rfl rfl rfl ?_
  refine WL.q (q_load1 T1_3 rfl (fun w1 hw => hw.rgL (i := 0) rfl 0 1 [.int .i64 p1.K] rfl)) rfl rfl rfl ?_
  refine WL.q (q_neq rfl rfl) rfl rfl rfl ?_
  refine WL.nil ?_
  refine WT.cond rfl (fun c1 => ?_) (fun c1 => ?_)
  · replace h := ite_t h c1
    refine WT.seq ?_
    refine WT.region ?_
    refine WL.q (q_assign rfl) rfl rfl rfl ?_
    refine WL.nil ?_
    refine WT.ret Try.func63 (resOk.one rfl) (fun w1 hw => ?_)
    cases h
    exact post_of_St hw
  · replace h := ite_f h c1
    refine WT.skip ?_
    refine WT.seq ?_
    refine WT.seq ?_
    refine WT.region ?_
    refine WL.q (q_fieldAddr Fld_100_1 rfl) rfl rfl rfl ?_
    refine WL.q (q_load1 T1_3 rfl (fun w1 hw => hw.rgL (i := 1) rfl 1 1 [.int .i64 p0.N] rfl)) rfl rfl rfl ?_
    refine WL.q (q_fieldAddr Fld_100_1 rfl) rfl rfl rfl ?_
    refine WL.q (q_load1 T1_3 rfl (fun w1 hw => hw.rgL (i := 0) rfl 1 1 [.int .i64 p1.N] rfl)) rfl rfl rfl ?_
    refine WL.q (q_neq rfl rfl) rfl rfl rfl ?_
    refine WL.nil ?_
    refine WT.cond rfl (fun c2 => ?_) (fun c2 => ?_)
    · replace h := ite_t h c2
      refine WT.seq ?_
      refine WT.region ?_
      refine WL.q (q_assign rfl) rfl rfl rfl ?_
      refine WL.nil ?_
      refine WT.ret Try.func63 (resOk.one rfl) (fun w1 hw => ?_)
      cases h
      exact post_of_St hw
    · replace h := ite_f h c2
      refine WT.skip ?_
      refine WT.seq ?_
      refine WT.seq ?_
      refine WT.region ?_
      refine WL.q (q_fieldAddr Fld_100_2 rfl) rfl rfl rfl ?_
      refine WL.q (q_load1 T1_9 rfl (fun w1 hw => hw.rgL (i := 1) rfl 2 1 [.string p0.S] rfl)) rfl rfl rfl ?_
      refine WL.q (q_fieldAddr Fld_100_2 rfl) rfl rfl rfl ?_
      refine WL.q (q_load1 T1_9 rfl (fun w1 hw => hw.rgL (i := 0) rfl 2 1 [.string p1.S] rfl)) rfl rfl rfl ?_
      refine WL.q (q_sne rfl rfl) rfl rfl rfl ?_
      refine WL.nil ?_
      refine WT.cond rfl (fun c3 => ?_) (fun c3 => ?_)
      · replace h := ite_t h c3
        refine WT.seq ?_
        refine WT.region ?_
        refine WL.q (q_assign rfl) rfl rfl rfl ?_
        refine WL.nil ?_
        refine WT.ret Try.func63 (resOk.one rfl) (fun w1 hw => ?_)
        cases h
        exact post_of_St hw
      · replace h := ite_f h c3
        refine WT.skip ?_
        refine WT.seq ?_
        refine WT.region ?_
        refine WL.q (q_assign rfl) rfl rfl rfl ?_
        refine WL.nil ?_
        refine WT.ret Try.func63 (resOk.one rfl) (fun w1 hw => ?_)
        cases h
        exact post_of_St hw
theorem m_l_eqValS_ok {Φ : Hp} {w : World} (hΦ : In Φ w) (N : Nat) (p0 : (List TVal)) (p1 : (List TVal)) {pv0 : Value} {pG0 : List Nat} {pv1 : Value} {pG1 : List Nat} (ph0 : RSl RTVal 3 Φ pG0 pv0 p0) (ph1 : RSl RTVal 3 Φ pG1 pv1 p1) {r : Bool} (h : m_l_eqValS N p0 p1 = some r) :
    Calls Try.prog 84 [pv0, pv1].toArray w (Post (.bool r) w) := by
  refine enter Try.func84 rfl Try.ntmps84 rfl (St.start hΦ) ?_
  unfold m_l_eqValS at h
  refine WT.seq ?_
  refine WT.region ?_
  refine WL.q (q_assign rfl) rfl rfl rfl ?_
  refine WL.nil ?_
  refine WT.seq ?_
  refine WT.seq ?_
  refine WT.region ?_
  refine WL.q (q_move rfl) rfl rfl rfl ?_
  refine WL.q (q_lenR Sl_44 rfl rfl ph0) rfl rfl rfl ?_
  refine WL.q (q_move rfl) rfl rfl rfl ?_
  refine WL.q (q_lenR Sl_44 rfl rfl ph1) rfl rfl rfl ?_
  refine WL.q (q_neq rfl rfl) rfl rfl rfl ?_
  refine WL.nil ?_
  refine WT.cond rfl (fun c1 => ?_) (fun c1 => ?_)
  · replace h := ite_t h c1
    refine WT.seq ?_
    refine WT.region ?_
    refine WL.q (q_assign rfl) rfl rfl rfl ?_
    refine WL.nil ?_
    refine WT.ret Try.func84 (resOk.one rfl) (fun w1 hw => ?_)
    cases h
    exact post_of_St hw
  · replace h := ite_f h c1
    refine WT.skip ?_
    refine WT.seq ?_
    refine WT.seq ?_
    refine WT.region ?_
    refine WL.q (q_assign rfl) rfl rfl rfl ?_
    refine WL.nil ?_
    refine WT.block ?_
    refine WT.loop ?_
    refine WT.keep [(0, pv0), (1, pv1), (4, .bool false), (5, .int .i64 0)] ⟨rfl, rfl, rfl, rfl, trivial⟩ ?_
    refine loop_ind (σ := Int) (fun s => [(0, pv0), (1, pv1), (4, .bool false), (5, .int .i64 s)]) (fun s => St w Φ []) (fun m s => m_l_eqValS_l1 N p0 p1 m s = some r) (fun s hm => none_ne (show (none : Option (Bool)) = some r from hm)) (fun k ih s hm => ?_) N (0) h
    revert hm; revert s; intro s1 hm
    have h : m_l_eqValS_l1 N p0 p1 (k + 1) s1 = some r := hm
    show WT _ _ [(0, pv0), (1, pv1), (4, .bool false), (5, .int .i64 s1)] (St w Φ [])
    unfold m_l_eqValS_l1 at h
    refine WT.seq ?_
    refine WT.seq ?_
    refine WT.region ?_
    refine WL.q (q_move rfl) rfl rfl rfl ?_
    refine WL.q (q_move rfl) rfl rfl rfl ?_
    refine WL.q (q_lenR Sl_44 rfl rfl ph0) rfl rfl rfl ?_
    refine WL.q (q_lss rfl rfl) rfl rfl rfl ?_
    refine WL.nil ?_
    refine WT.cond rfl (fun c2 => ?_) (fun c2 => ?_)
    · replace h := ite_t h c2
      refine WT.skip ?_
      refine WT.seq ?_
      refine WT.block ?_
      refine WT.seq ?_
      refine WT.draw mixed (by kernel_rfl) (fun _ h => h.drew) ?_
      refine WQ.q (q_move rfl) rfl rfl rfl ?_
      refine WQ.q (q_move rfl) rfl rfl rfl ?_
      obtain ⟨x1, hx1, h⟩ := bind_some h
      obtain ⟨cs1, F1, -, g1, r1⟩ := ph0.el (idx_some hx1).2.2
      obtain ⟨rfl, -⟩ := r1
      refine WQ.q (q_indexAddr Sl_44 rfl rfl ph0 hx1) rfl rfl rfl ?_
      refine WQ.q (q_loadN Tn_100 rfl (fun w1 hw => (g1.of_eq 0 3 rfl rfl : rg _ _ _ [.int .i64 x1.K, .int .i64 x1.N, .string x1.S]).rangeAt hw.fro) rfl) rfl rfl rfl ?_
      refine WQ.q (q_move rfl) rfl rfl rfl ?_
      refine WQ.q (q_move rfl) rfl rfl rfl ?_
      obtain ⟨x2, hx2, h⟩ := bind_some h
      obtain ⟨cs2, F2, -, g2, r2⟩ := ph1.el (idx_some hx2).2.2
      obtain ⟨rfl, -⟩ := r2
      refine WQ.q (q_indexAddr Sl_44 rfl rfl ph1 hx2) rfl rfl rfl ?_
      refine WQ.q (q_loadN Tn_100 rfl (fun w1 hw => (g2.of_eq 0 3 rfl rfl : rg _ _ _ [.int .i64 x2.K, .int .i64 x2.N, .string x2.S]).rangeAt hw.fro) rfl) rfl rfl rfl ?_
      obtain ⟨x3, hx3, h⟩ := bind_some h
      refine WQ.call (c_pure Fun_63 rfl (fun w1 hw => m_l_eqVal_ok hw.fro N x1 x2 hx3)) rfl rfl rfl ?_
      refine WQ.q (q_not rfl) rfl rfl rfl ?_
      refine WQ.nil ?_
      refine WT.cond rfl (fun c3 => ?_) (fun c3 => ?_)
      · replace h := ite_t h c3
        refine WT.seq ?_
        refine WT.region ?_
        refine WL.q (q_assign rfl) rfl rfl rfl ?_
        refine WL.nil ?_
        refine WT.ret Try.func84 (resOk.one rfl) (fun w1 hw => ?_)
        cases h
        exact post_of_St hw
      · replace h := ite_f h c3
        refine WT.skip ?_
        refine WT.inBlock ?_
        refine WT.region ?_
        refine WL.q (q_move rfl) rfl rfl rfl ?_
        refine WL.q (q_add rfl rfl) rfl rfl rfl ?_
        refine WL.q (q_assign rfl) rfl rfl rfl ?_
        refine WL.nil ?_
        refine WT.inLoop (WT.mono (l' := [(0, pv0), (1, pv1), (4, .bool false), (5, .int .i64 (IntKind.i64.wrap (s1 + 1)))]) (S' := St w Φ []) ⟨rfl, rfl, rfl, rfl, trivial⟩ (fun w1 hw => hw.drop 0) ?_)
        exact ih (IntKind.i64.wrap (s1 + 1)) h
    · replace h := ite_f h c2
      refine WT.exit rfl ?_
      refine WT.seq ?_
      refine WT.region ?_
      refine WL.q (q_assign rfl) rfl rfl rfl ?_
      refine WL.nil ?_
      refine WT.ret Try.func84 (resOk.one rfl) (fun w1 hw => ?_)
      cases h
      exact post_of_St hw
theorem m_l_eqIntS_ok {Φ : Hp} {w : World} (hΦ : In Φ w) (N : Nat) (p0 : (List Int)) (p1 : (List Int)) {pv0 : Value} {pG0 : List Nat} {pv1 : Value} {pG1 : List Nat} (ph0 : RSl (RI .i64) 1 Φ pG0 pv0 p0) (ph1 : RSl (RI .i64) 1 Φ pG1 pv1 p1) {r : Bool} (h : m_l_eqIntS N p0 p1 = some r) :
    Calls Try.prog 85 [pv0, pv1].toArray w (Post (.bool r) w) := by
  refine enter Try.func85 rfl Try.ntmps85 rfl (St.start hΦ) ?_
  unfold m_l_eqIntS at h
  refine WT.seq ?_
  refine WT.region ?_
  refine WL.q (q_assign rfl) rfl rfl rfl ?_
  refine WL.nil ?_
  refine WT.seq ?_
  refine WT.seq ?_
  refine WT.region ?_
  refine WL.q (q_move rfl) rfl rfl rfl ?_
  refine WL.q (q_lenR Sl_29 rfl rfl ph0) rfl rfl rfl ?_
  refine WL.q (q_move rfl) rfl rfl rfl ?_
  refine WL.q (q_lenR Sl_29 rfl rfl ph1) rfl rfl rfl ?_
  refine WL.q (q_neq rfl rfl) rfl rfl rfl ?_
  refine WL.nil ?_
  refine WT.cond rfl (fun c1 => ?_) (fun c1 => ?_)
  · replace h := ite_t h c1
    refine WT.seq ?_
    refine WT.region ?_
    refine WL.q (q_assign rfl) rfl rfl rfl ?_
    refine WL.nil ?_
    refine WT.ret Try.func85 (resOk.one rfl) (fun w1 hw => ?_)
    cases h
    exact post_of_St hw
  · replace h := ite_f h c1
    refine WT.skip ?_
    refine WT.seq ?_
    refine WT.seq ?_
    refine WT.region ?_
    refine WL.q (q_assign rfl) rfl rfl rfl ?_
    refine WL.nil ?_
    refine WT.block ?_
    refine WT.loop ?_
    refine WT.keep [(0, pv0), (1, pv1), (4, .bool false), (5, .int .i64 0)] ⟨rfl, rfl, rfl, rfl, trivial⟩ ?_
    refine loop_ind (σ := Int) (fun s => [(0, pv0), (1, pv1), (4, .bool false), (5, .int .i64 s)]) (fun s => St w Φ []) (fun m s => m_l_eqIntS_l1 N p0 p1 m s = some r) (fun s hm => none_ne (show (none : Option (Bool)) = some r from hm)) (fun k ih s hm => ?_) N (0) h
    revert hm; revert s; intro s1 hm
    have h : m_l_eqIntS_l1 N p0 p1 (k + 1) s1 = some r := hm
    show WT _ _ [(0, pv0), (1, pv1), (4, .bool false), (5, .int .i64 s1)] (St w Φ [])
    unfold m_l_eqIntS_l1 at h
    refine WT.seq ?_
    refine WT.seq ?_
    refine WT.region ?_
    refine WL.q (q_move rfl) rfl rfl rfl ?_
    refine WL.q (q_move rfl) rfl rfl rfl ?_
    refine WL.q (q_lenR Sl_29 rfl rfl ph0) rfl rfl rfl ?_
    refine WL.q (q_lss rfl rfl) rfl rfl rfl ?_
    refine WL.nil ?_
    refine WT.cond rfl (fun c2 => ?_) (fun c2 => ?_)
    · replace h := ite_t h c2
      refine WT.skip ?_
      refine WT.seq ?_
      refine WT.block ?_
      refine WT.seq ?_
      refine WT.draw mixed (by kernel_rfl) (fun _ h => h.drew) ?_
      refine WQ.q (q_move rfl) rfl rfl rfl ?_
      refine WQ.q (q_move rfl) rfl rfl rfl ?_
      obtain ⟨x1, hx1, h⟩ := bind_some h
      obtain ⟨cs1, F1, -, g1, r1⟩ := ph0.el (idx_some hx1).2.2
      obtain ⟨rfl, -⟩ := r1
      refine WQ.q (q_indexAddr Sl_29 rfl rfl ph0 hx1) rfl rfl rfl ?_
      refine WQ.q (q_load1 T1_3 rfl (fun w1 hw => (g1.of_eq 0 1 rfl rfl : rg _ _ _ [.int .i64 x1]).rangeAt hw.fro)) rfl rfl rfl ?_
      refine WQ.q (q_move rfl) rfl rfl rfl ?_
      refine WQ.q (q_move rfl) rfl rfl rfl ?_
      obtain ⟨x2, hx2, h⟩ := bind_some h
      obtain ⟨cs2, F2, -, g2, r2⟩ := ph1.el (idx_some hx2).2.2
      obtain ⟨rfl, -⟩ := r2
      refine WQ.q (q_indexAddr Sl_29 rfl rfl ph1 hx2) rfl rfl rfl ?_
      refine WQ.q (q_load1 T1_3 rfl (fun w1 hw => (g2.of_eq 0 1 rfl rfl : rg _ _ _ [.int .i64 x2]).rangeAt hw.fro)) rfl rfl rfl ?_
      refine WQ.q (q_neq rfl rfl) rfl rfl rfl ?_
      refine WQ.nil ?_
      refine WT.cond rfl (fun c3 => ?_) (fun c3 => ?_)
      · replace h := ite_t h c3
        refine WT.seq ?_
        refine WT.region ?_
        refine WL.q (q_assign rfl) rfl rfl rfl ?_
        refine WL.nil ?_
        refine WT.ret Try.func85 (resOk.one rfl) (fun w1 hw => ?_)
        cases h
        exact post_of_St hw
      · replace h := ite_f h c3
        refine WT.skip ?_
        refine WT.inBlock ?_
        refine WT.region ?_
        refine WL.q (q_move rfl) rfl rfl rfl ?_
        refine WL.q (q_add rfl rfl) rfl rfl rfl ?_
        refine WL.q (q_assign rfl) rfl rfl rfl ?_
        refine WL.nil ?_
        refine WT.inLoop (WT.mono (l' := [(0, pv0), (1, pv1), (4, .bool false), (5, .int .i64 (IntKind.i64.wrap (s1 + 1)))]) (S' := St w Φ []) ⟨rfl, rfl, rfl, rfl, trivial⟩ (fun w1 hw => hw.drop 0) ?_)
        exact ih (IntKind.i64.wrap (s1 + 1)) h
    · replace h := ite_f h c2
      refine WT.exit rfl ?_
      refine WT.seq ?_
      refine WT.region ?_
      refine WL.q (q_assign rfl) rfl rfl rfl ?_
      refine WL.nil ?_
      refine WT.ret Try.func85 (resOk.one rfl) (fun w1 hw => ?_)
      cases h
      exact post_of_St hw
theorem m_l_eqAlpha_ok {Φ : Hp} {w : World} (hΦ : In Φ w) (N : Nat) (p0 : TAlpha) (p1 : TAlpha) {pv0_0 : Value} {pG0_0 : List Nat} {pv0_1 : Value} {pG0_1 : List Nat} {pv1_0 : Value} {pG1_0 : List Nat} {pv1_1 : Value} {pG1_1 : List Nat} (ph0_0 : RSl RTVal 3 Φ pG0_0 pv0_0 p0.Consts) (ph0_1 : RSl (RI .i64) 1 Φ pG0_1 pv0_1 p0.At) (ph1_0 : RSl RTVal 3 Φ pG1_0 pv1_0 p1.Consts) (ph1_1 : RSl (RI .i64) 1 Φ pG1_1 pv1_1 p1.At) {r : Bool} (h : m_l_eqAlpha N p0 p1 = some r) :
    Calls Try.prog 28 [.agg [.string p0.Kind, .int .i64 p0.N, pv0_0, pv0_1].toArray, .agg [.string p1.Kind, .int .i64 p1.N, pv1_0, pv1_1].toArray].toArray w (Post (.bool r) w) := by
  refine enter Try.func28 rfl Try.ntmps28 rfl (St.start hΦ) ?_
  unfold m_l_eqAlpha at h
  refine WT.seq ?_
  refine WT.region ?_
  refine WL.box (C := #[.string p0.Kind, .int .i64 p0.N, pv0_0, pv0_1]) rfl rfl rfl rfl rfl rfl (fun b_1 => ?_)
  refine WL.box (C := #[.string p1.Kind, .int .i64 p1.N, pv1_0, pv1_1]) rfl rfl rfl rfl rfl rfl (fun b_2 => ?_)
  refine WL.q (q_assign rfl) rfl rfl rfl ?_
  refine WL.nil ?_
  refine WT.seq ?_
  refine WT.seq ?_
  refine WT.region ?_
  refine WL.q (q_fieldAddr Fld_46_0 rfl) rfl rfl rfl ?_
  refine WL.q (q_load1 T1_9 rfl (fun w1 hw => hw.rgL (i := 1) rfl 0 1 [.string p0.Kind] rfl)) rfl rfl rfl ?_
  refine WL.q (q_fieldAddr Fld_46_0 rfl) rfl rfl rfl ?_
  refine WL.q (q_load1 T1_9 rfl (fun w1 hw => hw.rgL (i := 0) rfl 0 1 [.string p1.Kind] rfl)) rfl rfl rfl ?_
  refine WL.q (q_sne rfl rfl) rfl rfl rfl ?_
  refine WL.nil ?_
  refine WT.cond rfl (fun c1 => ?_) (fun c1 => ?_)
  · replace h := ite_t h c1
    refine WT.seq ?_
    refine WT.region ?_
    refine WL.q (q_assign rfl) rfl rfl rfl ?_
    refine WL.nil ?_
    refine WT.ret Try.func28 (resOk.one rfl) (fun w1 hw => ?_)
    cases h
    exact post_of_St hw
  · replace h := ite_f h c1
    refine WT.skip ?_
    refine WT.seq ?_
    refine WT.seq ?_
    refine WT.region ?_
    refine WL.q (q_fieldAddr Fld_46_1 rfl) rfl rfl rfl ?_
    refine WL.q (q_load1 T1_3 rfl (fun w1 hw => hw.rgL (i := 1) rfl 1 1 [.int .i64 p0.N] rfl)) rfl rfl rfl ?_
    refine WL.q (q_fieldAddr Fld_46_1 rfl) rfl rfl rfl ?_
    refine WL.q (q_load1 T1_3 rfl (fun w1 hw => hw.rgL (i := 0) rfl 1 1 [.int .i64 p1.N] rfl)) rfl rfl rfl ?_
    refine WL.q (q_neq rfl rfl) rfl rfl rfl ?_
    refine WL.nil ?_
    refine WT.cond rfl (fun c2 => ?_) (fun c2 => ?_)
    · replace h := ite_t h c2
      refine WT.seq ?_
      refine WT.region ?_
      refine WL.q (q_assign rfl) rfl rfl rfl ?_
      refine WL.nil ?_
      refine WT.ret Try.func28 (resOk.one rfl) (fun w1 hw => ?_)
      cases h
      exact post_of_St hw
    · replace h := ite_f h c2
      refine WT.skip ?_
      refine WT.seq ?_
      refine WT.seq ?_
      refine WT.region ?_
      refine WL.q (q_fieldAddr Fld_46_2 rfl) rfl rfl rfl ?_
      refine WL.q (q_load1 T1_44 rfl (fun w1 hw => hw.rgL (i := 1) rfl 2 1 [pv0_0] rfl)) rfl rfl rfl ?_
      refine WL.q (q_fieldAddr Fld_46_2 rfl) rfl rfl rfl ?_
      refine WL.q (q_load1 T1_44 rfl (fun w1 hw => hw.rgL (i := 0) rfl 2 1 [pv1_0] rfl)) rfl rfl rfl ?_
      obtain ⟨x1, hx1, h⟩ := bind_some h
      refine WL.call (c_pure Fun_84 rfl (fun w1 hw => m_l_eqValS_ok hw.fro N p0.Consts p1.Consts ph0_0 ph1_0 hx1)) rfl rfl rfl (fun _ => ?_)
      refine WL.q (q_not rfl) rfl rfl rfl ?_
      refine WL.nil ?_
      refine WT.cond rfl (fun c3 => ?_) (fun c3 => ?_)
      · replace h := ite_t h c3
        refine WT.seq ?_
        refine WT.region ?_
        refine WL.q (q_assign rfl) rfl rfl rfl ?_
        refine WL.nil ?_
        refine WT.ret Try.func28 (resOk.one rfl) (fun w1 hw => ?_)
        cases h
        exact post_of_St hw
      · replace h := ite_f h c3
        refine WT.skip ?_
        refine WT.seq ?_
        refine WT.seq ?_
        refine WT.region ?_
        refine WL.q (q_fieldAddr Fld_46_3 rfl) rfl rfl rfl ?_
        refine WL.q (q_load1 T1_29 rfl (fun w1 hw => hw.rgL (i := 1) rfl 3 1 [pv0_1] rfl)) rfl rfl rfl ?_
        refine WL.q (q_fieldAddr Fld_46_3 rfl) rfl rfl rfl ?_
        refine WL.q (q_load1 T1_29 rfl (fun w1 hw => hw.rgL (i := 0) rfl 3 1 [pv1_1] rfl)) rfl rfl rfl ?_
        obtain ⟨x2, hx2, h⟩ := bind_some h
        refine WL.call (c_pure Fun_85 rfl (fun w1 hw => m_l_eqIntS_ok hw.fro N p0.At p1.At ph0_1 ph1_1 hx2)) rfl rfl rfl (fun _ => ?_)
        refine WL.q (q_not rfl) rfl rfl rfl ?_
        refine WL.nil ?_
        refine WT.cond rfl (fun c4 => ?_) (fun c4 => ?_)
        · replace h := ite_t h c4
          refine WT.seq ?_
          refine WT.region ?_
          refine WL.q (q_assign rfl) rfl rfl rfl ?_
          refine WL.nil ?_
          refine WT.ret Try.func28 (resOk.one rfl) (fun w1 hw => ?_)
          cases h
          exact post_of_St hw
        · replace h := ite_f h c4
          refine WT.skip ?_
          refine WT.seq ?_
          refine WT.region ?_
          refine WL.q (q_assign rfl) rfl rfl rfl ?_
          refine WL.nil ?_
          refine WT.ret Try.func28 (resOk.one rfl) (fun w1 hw => ?_)
          cases h
          exact post_of_St hw
theorem m_l_szFact_ok {Φ : Hp} {w : World} (hΦ : In Φ w) (N : Nat) (p0 : TFact) (p1 : Int) {pv0_0 : Value} {pG0_0 : List Nat} (ph0_0 : RSl RTVal 3 Φ pG0_0 pv0_0 p0.Fields) {r : Int} (h : m_l_szFact N p0 p1 = some r) :
    Calls Try.prog 33 [.agg [.string p0.Kind, pv0_0].toArray, .int .i64 p1].toArray w (Post (.int .i64 r) w) := by
  refine enter Try.func33 rfl Try.ntmps33 rfl (St.start hΦ) ?_
  unfold m_l_szFact at h
  refine WT.seq ?_
  refine WT.region ?_
  refine WL.box (C := #[.string p0.Kind, pv0_0]) rfl rfl rfl rfl rfl rfl (fun b_1 => ?_)
  refine WL.q (q_assign rfl) rfl rfl rfl ?_
  refine WL.nil ?_
  refine WT.seq ?_
  refine WT.region ?_
  refine WL.q (q_move rfl) rfl rfl rfl ?_
  refine WL.q (q_fieldAddr Fld_56_0 rfl) rfl rfl rfl ?_
  refine WL.q (q_load1 T1_9 rfl (fun w1 hw => hw.rgL (i := 0) rfl 0 1 [.string p0.Kind] rfl)) rfl rfl rfl ?_
  refine WL.q (q_lenS Str_9 rfl rfl) rfl rfl rfl ?_
  refine WL.q (q_sub rfl rfl) rfl rfl rfl ?_
  refine WL.q (q_assign rfl) rfl rfl rfl ?_
  refine WL.nil ?_
  refine WT.seq ?_
  refine WT.seq ?_
  refine WT.region ?_
  refine WL.q (q_move rfl) rfl rfl rfl ?_
  refine WL.q (q_lss rfl rfl) rfl rfl rfl ?_
  refine WL.nil ?_
  refine WT.cond rfl (fun c1 => ?_) (fun c1 => ?_)
  · replace h := ite_t h c1
    refine WT.seq ?_
    refine WT.region ?_
    refine WL.q (q_assign rfl) rfl rfl rfl ?_
    refine WL.nil ?_
    refine WT.ret Try.func33 (resOk.one rfl) (fun w1 hw => ?_)
    cases h
    exact post_of_St hw
  · replace h := ite_f h c1
    refine WT.skip ?_
    refine WT.seq ?_
    refine WT.region ?_
    refine WL.q (q_fieldAddr Fld_56_1 rfl) rfl rfl rfl ?_
    refine WL.q (q_load1 T1_39 rfl (fun w1 hw => hw.rgL (i := 0) rfl 1 1 [pv0_0] rfl)) rfl rfl rfl ?_
    refine WL.q (q_move rfl) rfl rfl rfl ?_
    obtain ⟨x1, hx1, h⟩ := bind_some h
    refine WL.call (c_pure Fun_77 rfl (fun w1 hw => m_l_szValS_ok hw.fro N p0.Fields (IntKind.i64.wrap (p1 - (p0.Kind.size : Int))) ph0_0 hx1)) rfl rfl rfl (fun _ => ?_)
    refine WL.q (q_assign rfl) rfl rfl rfl ?_
    refine WL.nil ?_
    refine WT.seq ?_
    refine WT.seq ?_
    refine WT.region ?_
    refine WL.q (q_move rfl) rfl rfl rfl ?_
    refine WL.q (q_lss rfl rfl) rfl rfl rfl ?_
    refine WL.nil ?_
    refine WT.cond rfl (fun c2 => ?_) (fun c2 => ?_)
    · replace h := ite_t h c2
      refine WT.seq ?_
      refine WT.region ?_
      refine WL.q (q_assign rfl) rfl rfl rfl ?_
      refine WL.nil ?_
      refine WT.ret Try.func33 (resOk.one rfl) (fun w1 hw => ?_)
      cases h
      exact post_of_St hw
    · replace h := ite_f h c2
      refine WT.skip ?_
      refine WT.seq ?_
      refine WT.region ?_
      refine WL.q (q_move rfl) rfl rfl rfl ?_
      refine WL.q (q_assign rfl) rfl rfl rfl ?_
      refine WL.nil ?_
      refine WT.ret Try.func33 (resOk.one rfl) (fun w1 hw => ?_)
      cases h
      exact post_of_St hw
theorem m_s_l1In_ok {Φ : Hp} {w : World} (hΦ : In Φ w) (N : Nat) (p0 : Int) (p1 : Int) (p2 : Int)   {r : Bool} (h : m_s_l1In N p0 p1 p2 = some r) :
    Calls Try.prog 86 [.int .i64 p0, .int .i64 p1, .int .i64 p2].toArray w (Post (.bool r) w) := by
  refine enter Try.func86 rfl Try.ntmps86 rfl (St.start hΦ) ?_
  unfold m_s_l1In at h
  refine WT.seq ?_
  refine WT.region ?_
  refine WL.q (q_assign rfl) rfl rfl rfl ?_
  refine WL.nil ?_
  refine WT.seq ?_
  refine WT.region ?_
  refine WL.q (q_move rfl) rfl rfl rfl ?_
  refine WL.q (q_move rfl) rfl rfl rfl ?_
  refine WL.q (q_geq rfl rfl) rfl rfl rfl ?_
  refine WL.q (q_move rfl) rfl rfl rfl ?_
  obtain ⟨b1, hb_1, h⟩ := bind_some h
  refine WL.cutN 4 [(14, .bool b1), (6, .bool false)] ?_ (fun K => ?_)
  rotate_left
  · refine WL.split (d := 10) rfl (fun c1 => ?_) (fun c1 => ?_)
    · replace hb_1 := ite_t hb_1 c1
      refine WL.yes rfl rfl ?_
      refine WL.q (q_move rfl) rfl rfl rfl ?_
      refine WL.yes rfl rfl ?_
      refine WL.q (q_move rfl) rfl rfl rfl ?_
      refine WL.yes rfl rfl ?_
      refine WL.q (q_leq rfl rfl) rfl rfl rfl ?_
      refine WL.q (q_pick1 rfl rfl) rfl rfl rfl ?_
      cases hb_1
      exact WL.keep (by exact ⟨rfl, rfl, trivial⟩) K
    · replace hb_1 := ite_f hb_1 c1
      refine WL.no rfl rfl rfl rfl ?_
      refine WL.no rfl rfl rfl rfl ?_
      refine WL.no rfl rfl rfl rfl ?_
      refine WL.q (q_pick0 rfl rfl) rfl rfl rfl ?_
      cases hb_1
      exact WL.keep (by exact ⟨rfl, rfl, trivial⟩) K
  refine WL.q (q_assign rfl) rfl rfl rfl ?_
  refine WL.nil ?_
  refine WT.ret Try.func86 (resOk.one rfl) (fun w1 hw => ?_)
  cases h
  exact post_of_St hw
theorem m_s_Passes_ok {Φ : Hp} {w : World} (hΦ : In Φ w) (N : Nat) (p0 : TAlpha) (p1 : TFact) {pv0_0 : Value} {pG0_0 : List Nat} {pv0_1 : Value} {pG0_1 : List Nat} {pv1_0 : Value} {pG1_0 : List Nat} (ph0_0 : RSl RTVal 3 Φ pG0_0 pv0_0 p0.Consts) (ph0_1 : RSl (RI .i64) 1 Φ pG0_1 pv0_1 p0.At) (ph1_0 : RSl RTVal 3 Φ pG1_0 pv1_0 p1.Fields) {r : Bool} (h : m_s_Passes N p0 p1 = some r) :
    Calls Try.prog 34 [.agg [.string p0.Kind, .int .i64 p0.N, pv0_0, pv0_1].toArray, .agg [.string p1.Kind, pv1_0].toArray].toArray w (Post (.bool r) w) := by
  refine enter Try.func34 rfl Try.ntmps34 rfl (St.start hΦ) ?_
  unfold m_s_Passes at h
  refine WT.seq ?_
  refine WT.region ?_
  refine WL.box (C := #[.string p0.Kind, .int .i64 p0.N, pv0_0, pv0_1]) rfl rfl rfl rfl rfl rfl (fun b_1 => ?_)
  refine WL.box (C := #[.string p1.Kind, pv1_0]) rfl rfl rfl rfl rfl rfl (fun b_2 => ?_)
  refine WL.q (q_assign rfl) rfl rfl rfl ?_
  refine WL.nil ?_
  refine WT.seq ?_
  refine WT.seq ?_
  refine WT.region ?_
  refine WL.q (q_fieldAddr Fld_46_0 rfl) rfl rfl rfl ?_
  refine WL.q (q_load1 T1_9 rfl (fun w1 hw => hw.rgL (i := 1) rfl 0 1 [.string p0.Kind] rfl)) rfl rfl rfl ?_
  refine WL.q (q_fieldAddr Fld_60_0 rfl) rfl rfl rfl ?_
  refine WL.q (q_load1 T1_9 rfl (fun w1 hw => hw.rgL (i := 0) rfl 0 1 [.string p1.Kind] rfl)) rfl rfl rfl ?_
  refine WL.q (q_sne rfl rfl) rfl rfl rfl ?_
  refine WL.q (q_move rfl) rfl rfl rfl ?_
  obtain ⟨b1, hb_1, h⟩ := bind_some h
  refine WL.cutN 7 [(19, .bool b1), (2, .pointer (some ⟨b_1, 0, none⟩)), (3, .pointer (some ⟨b_2, 0, none⟩)), (4, .bool false)] ?_ (fun K => ?_)
  rotate_left
  · refine WL.split (d := 12) rfl (fun c1 => ?_) (fun c1 => ?_)
    · replace hb_1 := ite_t hb_1 c1
      refine WL.no rfl rfl rfl rfl ?_
      refine WL.no rfl rfl rfl rfl ?_
      refine WL.no rfl rfl rfl rfl ?_
      refine WL.no rfl rfl rfl rfl ?_
      refine WL.no rfl rfl rfl rfl ?_
      refine WL.no rfl rfl rfl rfl ?_
      refine WL.q (q_pick1 rfl rfl) rfl rfl rfl ?_
      cases hb_1
      exact WL.keep (by exact ⟨rfl, rfl, rfl, rfl, trivial⟩) K
    · replace hb_1 := ite_f hb_1 c1
      refine WL.yes rfl rfl ?_
      refine WL.q (q_fieldAddr Fld_46_1 rfl) rfl rfl rfl ?_
      refine WL.yes rfl rfl ?_
      refine WL.q (q_load1 T1_3 rfl (fun w1 hw => hw.rgL (i := 1) rfl 1 1 [.int .i64 p0.N] rfl)) rfl rfl rfl ?_
      refine WL.yes rfl rfl ?_
      refine WL.q (q_fieldAddr Fld_60_1 rfl) rfl rfl rfl ?_
      refine WL.yes rfl rfl ?_
      refine WL.q (q_load1 T1_44 rfl (fun w1 hw => hw.rgL (i := 0) rfl 1 1 [pv1_0] rfl)) rfl rfl rfl ?_
      refine WL.yes rfl rfl ?_
      refine WL.q (q_lenR Sl_44 rfl rfl ph1_0) rfl rfl rfl ?_
      refine WL.yes rfl rfl ?_
      refine WL.q (q_neq rfl rfl) rfl rfl rfl ?_
      refine WL.q (q_pick0 rfl rfl) rfl rfl rfl ?_
      cases hb_1
      exact WL.keep (by exact ⟨rfl, rfl, rfl, rfl, trivial⟩) K
  refine WL.nil ?_
  refine WT.cond rfl (fun c2 => ?_) (fun c2 => ?_)
  · replace h := ite_t h c2
    refine WT.seq ?_
    refine WT.region ?_
    refine WL.q (q_assign rfl) rfl rfl rfl ?_
    refine WL.nil ?_
    refine WT.ret Try.func34 (resOk.one rfl) (fun w1 hw => ?_)
    cases h
    exact post_of_St hw
  · replace h := ite_f h c2
    refine WT.skip ?_
    refine WT.seq ?_
    refine WT.seq ?_
    refine WT.region ?_
    refine WL.q (q_assign rfl) rfl rfl rfl ?_
    refine WL.nil ?_
    refine WT.block ?_
    refine WT.loop ?_
    refine WT.keep [(2, .pointer (some ⟨b_1, 0, none⟩)), (3, .pointer (some ⟨b_2, 0, none⟩)), (4, .bool false), (5, .int .i64 0)] ⟨rfl, rfl, rfl, rfl, trivial⟩ ?_
    refine loop_ind (σ := Int) (fun s => [(2, .pointer (some ⟨b_1, 0, none⟩)), (3, .pointer (some ⟨b_2, 0, none⟩)), (4, .bool false), (5, .int .i64 s)]) (fun s => St w Φ [Ent.obj b_2 (.cells #[.string p1.Kind, pv1_0] 60 (0, 0)), Ent.obj b_1 (.cells #[.string p0.Kind, .int .i64 p0.N, pv0_0, pv0_1] 46 (0, 0))]) (fun m s => m_s_Passes_l1 N p0 p1 m s = some r) (fun s hm => none_ne (show (none : Option (Bool)) = some r from hm)) (fun k ih s hm => ?_) N (0) h
    revert hm; revert s; intro s1 hm
    have h : m_s_Passes_l1 N p0 p1 (k + 1) s1 = some r := hm
    show WT _ _ [(2, .pointer (some ⟨b_1, 0, none⟩)), (3, .pointer (some ⟨b_2, 0, none⟩)), (4, .bool false), (5, .int .i64 s1)] (St w Φ [Ent.obj b_2 (.cells #[.string p1.Kind, pv1_0] 60 (0, 0)), Ent.obj b_1 (.cells #[.string p0.Kind, .int .i64 p0.N, pv0_0, pv0_1] 46 (0, 0))])
    unfold m_s_Passes_l1 at h
    refine WT.seq ?_
    refine WT.seq ?_
    refine WT.region ?_
    refine WL.q (q_move rfl) rfl rfl rfl ?_
    refine WL.q (q_fieldAddr Fld_46_3 rfl) rfl rfl rfl ?_
    refine WL.q (q_load1 T1_29 rfl (fun w1 hw => hw.rgL (i := 1) rfl 3 1 [pv0_1] rfl)) rfl rfl rfl ?_
    refine WL.q (q_lenR Sl_29 rfl rfl ph0_1) rfl rfl rfl ?_
    refine WL.q (q_lss rfl rfl) rfl rfl rfl ?_
    refine WL.nil ?_
    refine WT.cond rfl (fun c3 => ?_) (fun c3 => ?_)
    · replace h := ite_t h c3
      refine WT.skip ?_
      refine WT.seq ?_
      refine WT.block ?_
      refine WT.seq ?_
      refine WT.region ?_
      refine WL.q (q_fieldAddr Fld_46_3 rfl) rfl rfl rfl ?_
      refine WL.q (q_load1 T1_29 rfl (fun w1 hw => hw.rgL (i := 1) rfl 3 1 [pv0_1] rfl)) rfl rfl rfl ?_
      refine WL.q (q_move rfl) rfl rfl rfl ?_
      obtain ⟨x1, hx1, h⟩ := bind_some h
      obtain ⟨cs1, F1, -, g1, r1⟩ := ph0_1.el (idx_some hx1).2.2
      obtain ⟨rfl, -⟩ := r1
      refine WL.q (q_indexAddr Sl_29 rfl rfl ph0_1 hx1) rfl rfl rfl ?_
      refine WL.q (q_load1 T1_3 rfl (fun w1 hw => (g1.of_eq 0 1 rfl rfl : rg _ _ _ [.int .i64 x1]).rangeAt hw.fro)) rfl rfl rfl ?_
      refine WL.q (q_assign rfl) rfl rfl rfl ?_
      refine WL.nil ?_
      refine WT.seq ?_
      refine WT.draw mixed (by kernel_rfl) (fun _ h => h.drew) ?_
      refine WQ.q (q_move rfl) rfl rfl rfl ?_
      refine WQ.q (q_fieldAddr Fld_46_2 rfl) rfl rfl rfl ?_
      refine WQ.q (q_load1 T1_44 rfl (fun w1 hw => hw.rgL (i := 1) rfl 2 1 [pv0_0] rfl)) rfl rfl rfl ?_
      refine WQ.q (q_lenR Sl_44 rfl rfl ph0_0) rfl rfl rfl ?_
      refine WQ.q (q_geq rfl rfl) rfl rfl rfl ?_
      refine WQ.q (q_move rfl) rfl rfl rfl ?_
      obtain ⟨b2, hb_2, h⟩ := bind_some h
      refine WQ.cutN 8 [(45, .bool b2), (2, .pointer (some ⟨b_1, 0, none⟩)), (3, .pointer (some ⟨b_2, 0, none⟩)), (4, .bool false), (5, .int .i64 s1), (6, .int .i64 x1), (20, .int .i64 s1), (21, .pointer (some ⟨b_1, 3, none⟩)), (22, pv0_1), (23, .int .i64 (p0.At.length : Int)), (24, .bool (decide (s1 < (p0.At.length : Int)))), (27, .pointer (some ⟨b_1, 3, none⟩)), (28, pv0_1), (29, .int .i64 s1), (30, .pointer (some ⟨sb pv0_1, so pv0_1 + s1.toNat * 1, none⟩)), (31, .int .i64 x1), (32, .int .i64 s1), (33, .pointer (some ⟨b_1, 2, none⟩)), (34, pv0_0), (35, .int .i64 (p0.Consts.length : Int)), (36, .bool (decide ((p0.Consts.length : Int) ≤ s1))), (37, .bool (decide ((p0.Consts.length : Int) ≤ s1)))] ?_ (fun K => ?_)
      rotate_left
      · refine WQ.split (d := 37) rfl (fun c4 => ?_) (fun c4 => ?_)
        · replace hb_2 := ite_t hb_2 c4
          refine WQ.no rfl rfl rfl rfl ?_
          refine WQ.no rfl rfl rfl rfl ?_
          refine WQ.no rfl rfl rfl rfl ?_
          refine WQ.no rfl rfl rfl rfl ?_
          refine WQ.no rfl rfl rfl rfl ?_
          refine WQ.no rfl rfl rfl rfl ?_
          refine WQ.no rfl rfl rfl rfl ?_
          refine WQ.q (q_pick1 rfl rfl) rfl rfl rfl ?_
          cases hb_2
          exact WQ.keep (by exact ⟨rfl, rfl, rfl, rfl, rfl, rfl, rfl, rfl, rfl, rfl, rfl, rfl, rfl, rfl, rfl, rfl, rfl, rfl, rfl, rfl, rfl, (congrArg (fun b => some (Value.bool b)) c4.symm), trivial⟩) K
        · replace hb_2 := ite_f hb_2 c4
          refine WQ.yes rfl rfl ?_
          refine WQ.q (q_move rfl) rfl rfl rfl ?_
          refine WQ.yes rfl rfl ?_
          refine WQ.q (q_fieldAddr Fld_60_1 rfl) rfl rfl rfl ?_
          refine WQ.yes rfl rfl ?_
          refine WQ.q (q_load1 T1_44 rfl (fun w1 hw => hw.rgL (i := 0) rfl 1 1 [pv1_0] rfl)) rfl rfl rfl ?_
          refine WQ.yes rfl rfl ?_
          refine WQ.q (q_lenR Sl_44 rfl rfl ph1_0) rfl rfl rfl ?_
          refine WQ.yes rfl rfl ?_
          refine WQ.q (q_sub rfl rfl) rfl rfl rfl ?_
          refine WQ.yes rfl rfl ?_
          obtain ⟨x2, hx2, hb_2⟩ := bind_some hb_2
          refine WQ.call (c_pure Fun_86 rfl (fun w1 hw => m_s_l1In_ok hw.fro N x1 0 (IntKind.i64.wrap ((p1.Fields.length : Int) - 1)) hx2)) rfl rfl rfl ?_
          refine WQ.yes rfl rfl ?_
          refine WQ.q (q_not rfl) rfl rfl rfl ?_
          refine WQ.q (q_pick0 rfl rfl) rfl rfl rfl ?_
          cases hb_2
          exact WQ.keep (by exact ⟨rfl, rfl, rfl, rfl, rfl, rfl, rfl, rfl, rfl, rfl, rfl, rfl, rfl, rfl, rfl, rfl, rfl, rfl, rfl, rfl, rfl, (congrArg (fun b => some (Value.bool b)) c4.symm), trivial⟩) K
      refine WQ.q (q_move rfl) rfl rfl rfl ?_
      obtain ⟨b3, hb_3, h⟩ := bind_some h
      refine WQ.cutN 12 [(58, .bool b3), (2, .pointer (some ⟨b_1, 0, none⟩)), (3, .pointer (some ⟨b_2, 0, none⟩)), (4, .bool false), (5, .int .i64 s1), (6, .int .i64 x1), (20, .int .i64 s1), (21, .pointer (some ⟨b_1, 3, none⟩)), (22, pv0_1), (23, .int .i64 (p0.At.length : Int)), (24, .bool (decide (s1 < (p0.At.length : Int)))), (27, .pointer (some ⟨b_1, 3, none⟩)), (28, pv0_1), (29, .int .i64 s1), (30, .pointer (some ⟨sb pv0_1, so pv0_1 + s1.toNat * 1, none⟩)), (31, .int .i64 x1), (32, .int .i64 s1), (33, .pointer (some ⟨b_1, 2, none⟩)), (34, pv0_0), (35, .int .i64 (p0.Consts.length : Int)), (36, .bool (decide ((p0.Consts.length : Int) ≤ s1))), (37, .bool (decide ((p0.Consts.length : Int) ≤ s1))), (45, .bool b2), (46, .bool b2)] ?_ (fun K => ?_)
      rotate_left
      · refine WQ.split (d := 46) rfl (fun c5 => ?_) (fun c5 => ?_)
        · replace hb_3 := ite_t hb_3 c5
          refine WQ.no rfl rfl rfl rfl ?_
          refine WQ.no rfl rfl rfl rfl ?_
          refine WQ.no rfl rfl rfl rfl ?_
          refine WQ.no rfl rfl rfl rfl ?_
          refine WQ.no rfl rfl rfl rfl ?_
          refine WQ.no rfl rfl rfl rfl ?_
          refine WQ.no rfl rfl rfl rfl ?_
          refine WQ.no rfl rfl rfl rfl ?_
          refine WQ.no rfl rfl rfl rfl ?_
          refine WQ.no rfl rfl rfl rfl ?_
          refine WQ.no rfl rfl rfl rfl ?_
          refine WQ.q (q_pick1 rfl rfl) rfl rfl rfl ?_
          cases hb_3
          exact WQ.keep (by exact ⟨rfl, rfl, rfl, rfl, rfl, rfl, rfl, rfl, rfl, rfl, rfl, rfl, rfl, rfl, rfl, rfl, rfl, rfl, rfl, rfl, rfl, rfl, rfl, (congrArg (fun b => some (Value.bool b)) c5.symm), trivial⟩) K
        · replace hb_3 := ite_f hb_3 c5
          refine WQ.yes rfl rfl ?_
          refine WQ.q (q_fieldAddr Fld_60_1 rfl) rfl rfl rfl ?_
          refine WQ.yes rfl rfl ?_
          refine WQ.q (q_load1 T1_44 rfl (fun w1 hw => hw.rgL (i := 0) rfl 1 1 [pv1_0] rfl)) rfl rfl rfl ?_
          refine WQ.yes rfl rfl ?_
          refine WQ.q (q_move rfl) rfl rfl rfl ?_
          refine WQ.yes rfl rfl ?_
          obtain ⟨x3, hx3, hb_3⟩ := bind_some hb_3
          obtain ⟨cs2, F2, -, g2, r2⟩ := ph1_0.el (idx_some hx3).2.2
          obtain ⟨rfl, -⟩ := r2
          refine WQ.q (q_indexAddr Sl_44 rfl rfl ph1_0 hx3) rfl rfl rfl ?_
          refine WQ.yes rfl rfl ?_
          refine WQ.q (q_loadN Tn_100 rfl (fun w1 hw => (g2.of_eq 0 3 rfl rfl : rg _ _ _ [.int .i64 x3.K, .int .i64 x3.N, .string x3.S]).rangeAt hw.fro) rfl) rfl rfl rfl ?_
          refine WQ.yes rfl rfl ?_
          refine WQ.q (q_fieldAddr Fld_46_2 rfl) rfl rfl rfl ?_
          refine WQ.yes rfl rfl ?_
          refine WQ.q (q_load1 T1_44 rfl (fun w1 hw => hw.rgL (i := 1) rfl 2 1 [pv0_0] rfl)) rfl rfl rfl ?_
          refine WQ.yes rfl rfl ?_
          refine WQ.q (q_move rfl) rfl rfl rfl ?_
          refine WQ.yes rfl rfl ?_
          obtain ⟨x4, hx4, hb_3⟩ := bind_some hb_3
          obtain ⟨cs3, F3, -, g3, r3⟩ := ph0_0.el (idx_some hx4).2.2
          obtain ⟨rfl, -⟩ := r3
          refine WQ.q (q_indexAddr Sl_44 rfl rfl ph0_0 hx4) rfl rfl rfl ?_
          refine WQ.yes rfl rfl ?_
          refine WQ.q (q_loadN Tn_100 rfl (fun w1 hw => (g3.of_eq 0 3 rfl rfl : rg _ _ _ [.int .i64 x4.K, .int .i64 x4.N, .string x4.S]).rangeAt hw.fro) rfl) rfl rfl rfl ?_
          refine WQ.yes rfl rfl ?_
          refine WQ.q (q_neA EqT_100 rfl rfl rfl (r := eqT_TVal x3 x4) rfl) rfl rfl rfl ?_
          refine WQ.q (q_pick0 rfl rfl) rfl rfl rfl ?_
          cases hb_3
          exact WQ.keep (by exact ⟨rfl, rfl, rfl, rfl, rfl, rfl, rfl, rfl, rfl, rfl, rfl, rfl, rfl, rfl, rfl, rfl, rfl, rfl, rfl, rfl, rfl, rfl, rfl, (congrArg (fun b => some (Value.bool b)) c5.symm), trivial⟩) K
      refine WQ.nil ?_
      refine WT.cond rfl (fun c6 => ?_) (fun c6 => ?_)
      · replace h := ite_t h c6
        refine WT.seq ?_
        refine WT.region ?_
        refine WL.q (q_assign rfl) rfl rfl rfl ?_
        refine WL.nil ?_
        refine WT.ret Try.func34 (resOk.one rfl) (fun w1 hw => ?_)
        cases h
        exact post_of_St hw
      · replace h := ite_f h c6
        refine WT.skip ?_
        refine WT.inBlock ?_
        refine WT.region ?_
        refine WL.q (q_move rfl) rfl rfl rfl ?_
        refine WL.q (q_add rfl rfl) rfl rfl rfl ?_
        refine WL.q (q_assign rfl) rfl rfl rfl ?_
        refine WL.nil ?_
        refine WT.inLoop (WT.mono (l' := [(2, .pointer (some ⟨b_1, 0, none⟩)), (3, .pointer (some ⟨b_2, 0, none⟩)), (4, .bool false), (5, .int .i64 (IntKind.i64.wrap (s1 + 1)))]) (S' := St w Φ [Ent.obj b_2 (.cells #[.string p1.Kind, pv1_0] 60 (0, 0)), Ent.obj b_1 (.cells #[.string p0.Kind, .int .i64 p0.N, pv0_0, pv0_1] 46 (0, 0))]) ⟨rfl, rfl, rfl, rfl, trivial⟩ (fun w1 hw => hw.drop 0) ?_)
        exact ih (IntKind.i64.wrap (s1 + 1)) h
    · replace h := ite_f h c3
      refine WT.exit rfl ?_
      refine WT.seq ?_
      refine WT.region ?_
      refine WL.q (q_assign rfl) rfl rfl rfl ?_
      refine WL.nil ?_
      refine WT.ret Try.func34 (resOk.one rfl) (fun w1 hw => ?_)
      cases h
      exact post_of_St hw
theorem m_l_toFact_ok {Φ : Hp} {w : World} (hΦ : In Φ w) (N : Nat) (p0 : TFact) {pv0_0 : Value} {pG0_0 : List Nat} (ph0_0 : RSl RTVal 3 Φ pG0_0 pv0_0 p0.Fields) {r : TFact} (h : m_l_toFact N p0 = some r) :
    Calls Try.prog 35 [.agg [.string p0.Kind, pv0_0].toArray].toArray w (PostL Φ w (fun Φ' F v => ∃ (c0 : List Value) (F0 : List Nat), v = .agg c0.toArray ∧ F = F0 ∧ RTFact Φ' F0 c0 r)) := by
  refine enter Try.func35 rfl Try.ntmps35 rfl (St.start hΦ) ?_
  unfold m_l_toFact at h
  have hle := Hle.refl Φ
  have hold : ∀ x, x < w.heap.size → Φ x = Φ x := fun _ _ => rfl
  refine WT.seq ?_
  refine WT.region ?_
  refine WL.box (C := #[.string p0.Kind, pv0_0]) rfl rfl rfl rfl rfl rfl (fun b_1 => ?_)
  refine WL.alloc (C := #[.string (⟨#[]⟩ : ByteArray), .slice none 0 0]) rfl rfl rfl rfl Zr_60 rfl (fun b_2 => ?_)
  refine WL.nil ?_
  refine WT.seq ?_
  refine WT.region ?_
  refine WL.alloc (C := #[.string (⟨#[]⟩ : ByteArray), .slice none 0 0]) rfl rfl rfl rfl Zr_60 rfl (fun b_3 => ?_)
  refine WL.nil ?_
  refine WT.seq ?_
  refine WT.region ?_
  refine WL.q (q_fieldAddr Fld_56_0 rfl) rfl rfl rfl ?_
  refine WL.q (q_load1 T1_9 rfl (fun w1 hw => hw.rgL (i := 2) rfl 0 1 [.string p0.Kind] rfl)) rfl rfl rfl ?_
  refine WL.q (q_fieldAddr Fld_60_0 rfl) rfl rfl rfl ?_
  refine WL.store (i := 0) (vs := [.string p0.Kind]) (C' := [.string p0.Kind, .slice none 0 0]) rfl rfl rfl Sz_9 rfl rfl rfl rfl rfl rfl ⟨rfl, trivial⟩ rfl ?_
  refine WL.nil ?_
  refine WT.seq ?_
  refine WT.region ?_
  refine WL.q (q_fieldAddr Fld_56_1 rfl) rfl rfl rfl ?_
  refine WL.q (q_load1 T1_39 rfl (fun w1 hw => hw.rgL (i := 2) rfl 1 1 [pv0_0] rfl)) rfl rfl rfl ?_
  obtain ⟨x1, hx1, h⟩ := bind_some h
  refine WL.callL rfl rfl rfl rfl Fun_81 rfl (fun w1 hw => m_l_toValS_ok hw.fro N p0.Fields ph0_0 hx1) (fun v1 Φ_1 D1 le1 ho1 qq1 => ?_)
  replace ph0_0 := RSl.mono RTVal.mono le1 ph0_0
  replace hle := hle.trans le1
  replace hold : ∀ x, x < w.heap.size → Φ_1 x = Φ x := fun x hx => (ho1 x hx).trans (hold x hx)
  obtain ⟨v2, G1, rfl, rfl, h1⟩ := qq1
  refine WL.q (q_fieldAddr Fld_60_1 rfl) rfl rfl rfl ?_
  refine WL.store (i := 1) (vs := [v1]) (C' := [.string p0.Kind, v1]) rfl rfl rfl Sz_44 rfl rfl rfl (one_cells (RSl.one h1)) rfl rfl ⟨RSl.one h1, trivial⟩ rfl ?_
  refine WL.nil ?_
  refine WT.seq ?_
  refine WT.region ?_
  refine WL.q (q_loadN Tn_60 rfl (fun w1 hw => hw.rgL (i := 1) rfl 0 2 [.string p0.Kind, v1] rfl) rfl) rfl rfl rfl ?_
  refine WL.store (i := 2) (vs := [.string p0.Kind, v1]) (C' := [.string p0.Kind, v1]) rfl rfl rfl Sz_60 rfl rfl rfl rfl rfl rfl ⟨rfl, RSl.one h1, trivial⟩ rfl ?_
  refine WL.nil ?_
  refine WT.ret Try.func35 (resOk.one (rv_cell Tn_60 rfl (fun w1 hw => hw.rgL (i := 2) rfl 0 2 [.string p0.Kind, v1] rfl) rfl)) (fun w1 hw => ?_)
  cases h
  replace hw := hw.front (i := 0) rfl
  replace hw : St w Φ_1 [Ent.dat D1, Ent.obj b_3 (.cells #[.string p0.Kind, v1] 60 (0, 0)), Ent.obj b_2 (.cells #[.string p0.Kind, v1] 60 (0, 0)), Ent.obj b_1 (.cells #[.string p0.Kind, pv0_0] 56 (0, 0))] w1 := hw
  refine postL_of_St (F := D1) hw hle hold ?_ ⟨[.string p0.Kind, v1], D1, rfl, rfl, ⟨v1, D1, rfl, rfl, h1⟩⟩
  have hfin := ((SP.refl D1)).trans (SP.left _ (blksOf [Ent.obj b_3 (.cells #[.string p0.Kind, v1] 60 (0, 0)), Ent.obj b_2 (.cells #[.string p0.Kind, v1] 60 (0, 0)), Ent.obj b_1 (.cells #[.string p0.Kind, pv0_0] 56 (0, 0))]))
  simpa only [blksOf, List.flatMap_cons, Ent.dat, List.append_assoc, List.nil_append, List.append_nil] using hfin
theorem m_i_Passes_ok {Φ : Hp} {w : World} (hΦ : In Φ w) (N : Nat) (p0 : TAlpha) (p1 : TFact) {pv0_0 : Value} {pG0_0 : List Nat} {pv0_1 : Value} {pG0_1 : List Nat} {pv1_0 : Value} {pG1_0 : List Nat} (ph0_0 : RSl RTVal 3 Φ pG0_0 pv0_0 p0.Consts) (ph0_1 : RSl (RI .i64) 1 Φ pG0_1 pv0_1 p0.At) (ph1_0 : RSl RTVal 3 Φ pG1_0 pv1_0 p1.Fields) {r : Bool} (h : m_i_Passes N p0 p1 = some r) :
    Calls Try.prog 36 [.agg [.string p0.Kind, .int .i64 p0.N, pv0_0, pv0_1].toArray, .agg [.string p1.Kind, pv1_0].toArray].toArray w (Post (.bool r) w) := by
  refine enter Try.func36 rfl Try.ntmps36 rfl (St.start hΦ) ?_
  unfold m_i_Passes at h
  refine WT.seq ?_
  refine WT.region ?_
  refine WL.box (C := #[.string p0.Kind, .int .i64 p0.N, pv0_0, pv0_1]) rfl rfl rfl rfl rfl rfl (fun b_1 => ?_)
  refine WL.box (C := #[.string p1.Kind, pv1_0]) rfl rfl rfl rfl rfl rfl (fun b_2 => ?_)
  refine WL.q (q_assign rfl) rfl rfl rfl ?_
  refine WL.nil ?_
  refine WT.seq ?_
  refine WT.seq ?_
  refine WT.region ?_
  refine WL.q (q_fieldAddr Fld_60_0 rfl) rfl rfl rfl ?_
  refine WL.q (q_load1 T1_9 rfl (fun w1 hw => hw.rgL (i := 0) rfl 0 1 [.string p1.Kind] rfl)) rfl rfl rfl ?_
  refine WL.q (q_fieldAddr Fld_46_0 rfl) rfl rfl rfl ?_
  refine WL.q (q_load1 T1_9 rfl (fun w1 hw => hw.rgL (i := 1) rfl 0 1 [.string p0.Kind] rfl)) rfl rfl rfl ?_
  refine WL.q (q_sne rfl rfl) rfl rfl rfl ?_
  refine WL.q (q_move rfl) rfl rfl rfl ?_
  obtain ⟨b1, hb_1, h⟩ := bind_some h
  refine WL.cutN 7 [(19, .bool b1), (2, .pointer (some ⟨b_1, 0, none⟩)), (3, .pointer (some ⟨b_2, 0, none⟩)), (4, .bool false)] ?_ (fun K => ?_)
  rotate_left
  · refine WL.split (d := 12) rfl (fun c1 => ?_) (fun c1 => ?_)
    · replace hb_1 := ite_t hb_1 c1
      refine WL.no rfl rfl rfl rfl ?_
      refine WL.no rfl rfl rfl rfl ?_
      refine WL.no rfl rfl rfl rfl ?_
      refine WL.no rfl rfl rfl rfl ?_
      refine WL.no rfl rfl rfl rfl ?_
      refine WL.no rfl rfl rfl rfl ?_
      refine WL.q (q_pick1 rfl rfl) rfl rfl rfl ?_
      cases hb_1
      exact WL.keep (by exact ⟨rfl, rfl, rfl, rfl, trivial⟩) K
    · replace hb_1 := ite_f hb_1 c1
      refine WL.yes rfl rfl ?_
      refine WL.q (q_fieldAddr Fld_60_1 rfl) rfl rfl rfl ?_
      refine WL.yes rfl rfl ?_
      refine WL.q (q_load1 T1_44 rfl (fun w1 hw => hw.rgL (i := 0) rfl 1 1 [pv1_0] rfl)) rfl rfl rfl ?_
      refine WL.yes rfl rfl ?_
      refine WL.q (q_lenR Sl_44 rfl rfl ph1_0) rfl rfl rfl ?_
      refine WL.yes rfl rfl ?_
      refine WL.q (q_fieldAddr Fld_46_1 rfl) rfl rfl rfl ?_
      refine WL.yes rfl rfl ?_
      refine WL.q (q_load1 T1_3 rfl (fun w1 hw => hw.rgL (i := 1) rfl 1 1 [.int .i64 p0.N] rfl)) rfl rfl rfl ?_
      refine WL.yes rfl rfl ?_
      refine WL.q (q_neq rfl rfl) rfl rfl rfl ?_
      refine WL.q (q_pick0 rfl rfl) rfl rfl rfl ?_
      cases hb_1
      exact WL.keep (by exact ⟨rfl, rfl, rfl, rfl, trivial⟩) K
  refine WL.nil ?_
  refine WT.cond rfl (fun c2 => ?_) (fun c2 => ?_)
  · replace h := ite_t h c2
    refine WT.seq ?_
    refine WT.region ?_
    refine WL.q (q_assign rfl) rfl rfl rfl ?_
    refine WL.nil ?_
    refine WT.ret Try.func36 (resOk.one rfl) (fun w1 hw => ?_)
    cases h
    exact post_of_St hw
  · replace h := ite_f h c2
    refine WT.skip ?_
    refine WT.seq ?_
    refine WT.seq ?_
    refine WT.region ?_
    refine WL.q (q_fieldAddr Fld_46_3 rfl) rfl rfl rfl ?_
    refine WL.q (q_load1 T1_29 rfl (fun w1 hw => hw.rgL (i := 1) rfl 3 1 [pv0_1] rfl)) rfl rfl rfl ?_
    refine WL.q (q_lenR Sl_29 rfl rfl ph0_1) rfl rfl rfl ?_
    refine WL.q (q_move rfl) rfl rfl rfl ?_
    refine WL.nil ?_
    refine WT.block ?_
    refine WT.loop ?_
    refine WT.keep [(2, .pointer (some ⟨b_1, 0, none⟩)), (3, .pointer (some ⟨b_2, 0, none⟩)), (4, .bool false), (21, pv0_1), (22, .int .i64 (p0.At.length : Int)), (23, .int .i64 0)] ⟨rfl, rfl, rfl, rfl, rfl, rfl, trivial⟩ ?_
    refine loop_ind (σ := Int) (fun s => [(2, .pointer (some ⟨b_1, 0, none⟩)), (3, .pointer (some ⟨b_2, 0, none⟩)), (4, .bool false), (21, pv0_1), (22, .int .i64 (p0.At.length : Int)), (23, .int .i64 s)]) (fun s => St w Φ [Ent.obj b_2 (.cells #[.string p1.Kind, pv1_0] 60 (0, 0)), Ent.obj b_1 (.cells #[.string p0.Kind, .int .i64 p0.N, pv0_0, pv0_1] 46 (0, 0))]) (fun m s => m_i_Passes_l1 N p0 p1 m s = some r) (fun s hm => none_ne (show (none : Option (Bool)) = some r from hm)) (fun k ih s hm => ?_) N (0) h
    revert hm; revert s; intro s1 hm
    have h : m_i_Passes_l1 N p0 p1 (k + 1) s1 = some r := hm
    show WT _ _ [(2, .pointer (some ⟨b_1, 0, none⟩)), (3, .pointer (some ⟨b_2, 0, none⟩)), (4, .bool false), (21, pv0_1), (22, .int .i64 (p0.At.length : Int)), (23, .int .i64 s1)] (St w Φ [Ent.obj b_2 (.cells #[.string p1.Kind, pv1_0] 60 (0, 0)), Ent.obj b_1 (.cells #[.string p0.Kind, .int .i64 p0.N, pv0_0, pv0_1] 46 (0, 0))])
    unfold m_i_Passes_l1 at h
    refine WT.seq ?_
    refine WT.region ?_
    refine WL.q (q_lss rfl rfl) rfl rfl rfl ?_
    refine WL.nil ?_
    refine WT.seq ?_
    refine WT.cond rfl (fun c3 => ?_) (fun c3 => ?_)
    · replace h := ite_t h c3
      refine WT.skip ?_
      refine WT.seq ?_
      refine WT.block ?_
      refine WT.seq ?_
      refine WT.region ?_
      refine WL.q (q_move rfl) rfl rfl rfl ?_
      obtain ⟨x1, hx1, h⟩ := bind_some h
      obtain ⟨cs1, F1, -, g1, r1⟩ := ph0_1.el (idx_some hx1).2.2
      obtain ⟨rfl, -⟩ := r1
      refine WL.q (q_indexAddr Sl_29 rfl rfl ph0_1 hx1) rfl rfl rfl ?_
      refine WL.q (q_load1 T1_3 rfl (fun w1 hw => (g1.of_eq 0 1 rfl rfl : rg _ _ _ [.int .i64 x1]).rangeAt hw.fro)) rfl rfl rfl ?_
      refine WL.q (q_assign rfl) rfl rfl rfl ?_
      refine WL.q (q_assign rfl) rfl rfl rfl ?_
      refine WL.nil ?_
      refine WT.seq ?_
      refine WT.draw mixed (by kernel_rfl) (fun _ h => h.drew) ?_
      refine WQ.q (q_move rfl) rfl rfl rfl ?_
      refine WQ.q (q_lss rfl rfl) rfl rfl rfl ?_
      refine WQ.q (q_move rfl) rfl rfl rfl ?_
      obtain ⟨b2, hb_2, h⟩ := bind_some h
      refine WQ.cutN 6 [(36, .bool b2), (2, .pointer (some ⟨b_1, 0, none⟩)), (3, .pointer (some ⟨b_2, 0, none⟩)), (4, .bool false), (5, .int .i64 s1), (6, .int .i64 x1), (21, pv0_1), (22, .int .i64 (p0.At.length : Int)), (23, .int .i64 s1), (24, .bool (decide (s1 < (p0.At.length : Int)))), (25, .int .i64 s1), (26, .pointer (some ⟨sb pv0_1, so pv0_1 + s1.toNat * 1, none⟩)), (27, .int .i64 x1), (28, .int .i64 x1), (29, .bool (decide (x1 < 0))), (30, .bool (decide (x1 < 0)))] ?_ (fun K => ?_)
      rotate_left
      · refine WQ.split (d := 30) rfl (fun c4 => ?_) (fun c4 => ?_)
        · replace hb_2 := ite_t hb_2 c4
          refine WQ.no rfl rfl rfl rfl ?_
          refine WQ.no rfl rfl rfl rfl ?_
          refine WQ.no rfl rfl rfl rfl ?_
          refine WQ.no rfl rfl rfl rfl ?_
          refine WQ.no rfl rfl rfl rfl ?_
          refine WQ.q (q_pick1 rfl rfl) rfl rfl rfl ?_
          cases hb_2
          exact WQ.keep (by exact ⟨rfl, rfl, rfl, rfl, rfl, rfl, rfl, rfl, rfl, rfl, rfl, rfl, rfl, rfl, rfl, (congrArg (fun b => some (Value.bool b)) c4.symm), trivial⟩) K
        · replace hb_2 := ite_f hb_2 c4
          refine WQ.yes rfl rfl ?_
          refine WQ.q (q_move rfl) rfl rfl rfl ?_
          refine WQ.yes rfl rfl ?_
          refine WQ.q (q_fieldAddr Fld_60_1 rfl) rfl rfl rfl ?_
          refine WQ.yes rfl rfl ?_
          refine WQ.q (q_load1 T1_44 rfl (fun w1 hw => hw.rgL (i := 0) rfl 1 1 [pv1_0] rfl)) rfl rfl rfl ?_
          refine WQ.yes rfl rfl ?_
          refine WQ.q (q_lenR Sl_44 rfl rfl ph1_0) rfl rfl rfl ?_
          refine WQ.yes rfl rfl ?_
          refine WQ.q (q_geq rfl rfl) rfl rfl rfl ?_
          refine WQ.q (q_pick0 rfl rfl) rfl rfl rfl ?_
          cases hb_2
          exact WQ.keep (by exact ⟨rfl, rfl, rfl, rfl, rfl, rfl, rfl, rfl, rfl, rfl, rfl, rfl, rfl, rfl, rfl, (congrArg (fun b => some (Value.bool b)) c4.symm), trivial⟩) K
      refine WQ.q (q_move rfl) rfl rfl rfl ?_
      obtain ⟨b3, hb_3, h⟩ := bind_some h
      refine WQ.cutN 6 [(43, .bool b3), (2, .pointer (some ⟨b_1, 0, none⟩)), (3, .pointer (some ⟨b_2, 0, none⟩)), (4, .bool false), (5, .int .i64 s1), (6, .int .i64 x1), (21, pv0_1), (22, .int .i64 (p0.At.length : Int)), (23, .int .i64 s1), (24, .bool (decide (s1 < (p0.At.length : Int)))), (25, .int .i64 s1), (26, .pointer (some ⟨sb pv0_1, so pv0_1 + s1.toNat * 1, none⟩)), (27, .int .i64 x1), (28, .int .i64 x1), (29, .bool (decide (x1 < 0))), (30, .bool (decide (x1 < 0))), (36, .bool b2), (37, .bool b2)] ?_ (fun K => ?_)
      rotate_left
      · refine WQ.split (d := 37) rfl (fun c5 => ?_) (fun c5 => ?_)
        · replace hb_3 := ite_t hb_3 c5
          refine WQ.no rfl rfl rfl rfl ?_
          refine WQ.no rfl rfl rfl rfl ?_
          refine WQ.no rfl rfl rfl rfl ?_
          refine WQ.no rfl rfl rfl rfl ?_
          refine WQ.no rfl rfl rfl rfl ?_
          refine WQ.q (q_pick1 rfl rfl) rfl rfl rfl ?_
          cases hb_3
          exact WQ.keep (by exact ⟨rfl, rfl, rfl, rfl, rfl, rfl, rfl, rfl, rfl, rfl, rfl, rfl, rfl, rfl, rfl, rfl, rfl, (congrArg (fun b => some (Value.bool b)) c5.symm), trivial⟩) K
        · replace hb_3 := ite_f hb_3 c5
          refine WQ.yes rfl rfl ?_
          refine WQ.q (q_move rfl) rfl rfl rfl ?_
          refine WQ.yes rfl rfl ?_
          refine WQ.q (q_fieldAddr Fld_46_2 rfl) rfl rfl rfl ?_
          refine WQ.yes rfl rfl ?_
          refine WQ.q (q_load1 T1_44 rfl (fun w1 hw => hw.rgL (i := 1) rfl 2 1 [pv0_0] rfl)) rfl rfl rfl ?_
          refine WQ.yes rfl rfl ?_
          refine WQ.q (q_lenR Sl_44 rfl rfl ph0_0) rfl rfl rfl ?_
          refine WQ.yes rfl rfl ?_
          refine WQ.q (q_geq rfl rfl) rfl rfl rfl ?_
          refine WQ.q (q_pick0 rfl rfl) rfl rfl rfl ?_
          cases hb_3
          exact WQ.keep (by exact ⟨rfl, rfl, rfl, rfl, rfl, rfl, rfl, rfl, rfl, rfl, rfl, rfl, rfl, rfl, rfl, rfl, rfl, (congrArg (fun b => some (Value.bool b)) c5.symm), trivial⟩) K
      refine WQ.q (q_move rfl) rfl rfl rfl ?_
      obtain ⟨b4, hb_4, h⟩ := bind_some h
      refine WQ.cutN 12 [(56, .bool b4), (2, .pointer (some ⟨b_1, 0, none⟩)), (3, .pointer (some ⟨b_2, 0, none⟩)), (4, .bool false), (5, .int .i64 s1), (6, .int .i64 x1), (21, pv0_1), (22, .int .i64 (p0.At.length : Int)), (23, .int .i64 s1), (24, .bool (decide (s1 < (p0.At.length : Int)))), (25, .int .i64 s1), (26, .pointer (some ⟨sb pv0_1, so pv0_1 + s1.toNat * 1, none⟩)), (27, .int .i64 x1), (28, .int .i64 x1), (29, .bool (decide (x1 < 0))), (30, .bool (decide (x1 < 0))), (36, .bool b2), (37, .bool b2), (43, .bool b3), (44, .bool b3)] ?_ (fun K => ?_)
      rotate_left
      · refine WQ.split (d := 44) rfl (fun c6 => ?_) (fun c6 => ?_)
        · replace hb_4 := ite_t hb_4 c6
          refine WQ.no rfl rfl rfl rfl ?_
          refine WQ.no rfl rfl rfl rfl ?_
          refine WQ.no rfl rfl rfl rfl ?_
          refine WQ.no rfl rfl rfl rfl ?_
          refine WQ.no rfl rfl rfl rfl ?_
          refine WQ.no rfl rfl rfl rfl ?_
          refine WQ.no rfl rfl rfl rfl ?_
          refine WQ.no rfl rfl rfl rfl ?_
          refine WQ.no rfl rfl rfl rfl ?_
          refine WQ.no rfl rfl rfl rfl ?_
          refine WQ.no rfl rfl rfl rfl ?_
          refine WQ.q (q_pick1 rfl rfl) rfl rfl rfl ?_
          cases hb_4
          exact WQ.keep (by exact ⟨rfl, rfl, rfl, rfl, rfl, rfl, rfl, rfl, rfl, rfl, rfl, rfl, rfl, rfl, rfl, rfl, rfl, rfl, rfl, (congrArg (fun b => some (Value.bool b)) c6.symm), trivial⟩) K
        · replace hb_4 := ite_f hb_4 c6
          refine WQ.yes rfl rfl ?_
          refine WQ.q (q_fieldAddr Fld_60_1 rfl) rfl rfl rfl ?_
          refine WQ.yes rfl rfl ?_
          refine WQ.q (q_load1 T1_44 rfl (fun w1 hw => hw.rgL (i := 0) rfl 1 1 [pv1_0] rfl)) rfl rfl rfl ?_
          refine WQ.yes rfl rfl ?_
          refine WQ.q (q_move rfl) rfl rfl rfl ?_
          refine WQ.yes rfl rfl ?_
          obtain ⟨x2, hx2, hb_4⟩ := bind_some hb_4
          obtain ⟨cs2, F2, -, g2, r2⟩ := ph1_0.el (idx_some hx2).2.2
          obtain ⟨rfl, -⟩ := r2
          refine WQ.q (q_indexAddr Sl_44 rfl rfl ph1_0 hx2) rfl rfl rfl ?_
          refine WQ.yes rfl rfl ?_
          refine WQ.q (q_loadN Tn_100 rfl (fun w1 hw => (g2.of_eq 0 3 rfl rfl : rg _ _ _ [.int .i64 x2.K, .int .i64 x2.N, .string x2.S]).rangeAt hw.fro) rfl) rfl rfl rfl ?_
          refine WQ.yes rfl rfl ?_
          refine WQ.q (q_fieldAddr Fld_46_2 rfl) rfl rfl rfl ?_
          refine WQ.yes rfl rfl ?_
          refine WQ.q (q_load1 T1_44 rfl (fun w1 hw => hw.rgL (i := 1) rfl 2 1 [pv0_0] rfl)) rfl rfl rfl ?_
          refine WQ.yes rfl rfl ?_
          refine WQ.q (q_move rfl) rfl rfl rfl ?_
          refine WQ.yes rfl rfl ?_
          obtain ⟨x3, hx3, hb_4⟩ := bind_some hb_4
          obtain ⟨cs3, F3, -, g3, r3⟩ := ph0_0.el (idx_some hx3).2.2
          obtain ⟨rfl, -⟩ := r3
          refine WQ.q (q_indexAddr Sl_44 rfl rfl ph0_0 hx3) rfl rfl rfl ?_
          refine WQ.yes rfl rfl ?_
          refine WQ.q (q_loadN Tn_100 rfl (fun w1 hw => (g3.of_eq 0 3 rfl rfl : rg _ _ _ [.int .i64 x3.K, .int .i64 x3.N, .string x3.S]).rangeAt hw.fro) rfl) rfl rfl rfl ?_
          refine WQ.yes rfl rfl ?_
          refine WQ.q (q_neA EqT_100 rfl rfl rfl (r := eqT_TVal x2 x3) rfl) rfl rfl rfl ?_
          refine WQ.q (q_pick0 rfl rfl) rfl rfl rfl ?_
          cases hb_4
          exact WQ.keep (by exact ⟨rfl, rfl, rfl, rfl, rfl, rfl, rfl, rfl, rfl, rfl, rfl, rfl, rfl, rfl, rfl, rfl, rfl, rfl, rfl, (congrArg (fun b => some (Value.bool b)) c6.symm), trivial⟩) K
      refine WQ.nil ?_
      refine WT.cond rfl (fun c7 => ?_) (fun c7 => ?_)
      · replace h := ite_t h c7
        refine WT.seq ?_
        refine WT.region ?_
        refine WL.q (q_assign rfl) rfl rfl rfl ?_
        refine WL.nil ?_
        refine WT.ret Try.func36 (resOk.one rfl) (fun w1 hw => ?_)
        cases h
        exact post_of_St hw
      · replace h := ite_f h c7
        refine WT.skip ?_
        refine WT.inBlock ?_
        refine WT.region ?_
        refine WL.q (q_add rfl rfl) rfl rfl rfl ?_
        refine WL.q (q_move rfl) rfl rfl rfl ?_
        refine WL.nil ?_
        refine WT.inLoop (WT.mono (l' := [(2, .pointer (some ⟨b_1, 0, none⟩)), (3, .pointer (some ⟨b_2, 0, none⟩)), (4, .bool false), (21, pv0_1), (22, .int .i64 (p0.At.length : Int)), (23, .int .i64 (IntKind.i64.wrap (s1 + 1)))]) (S' := St w Φ [Ent.obj b_2 (.cells #[.string p1.Kind, pv1_0] 60 (0, 0)), Ent.obj b_1 (.cells #[.string p0.Kind, .int .i64 p0.N, pv0_0, pv0_1] 46 (0, 0))]) ⟨rfl, rfl, rfl, rfl, rfl, rfl, trivial⟩ (fun w1 hw => hw.drop 0) ?_)
        exact ih (IntKind.i64.wrap (s1 + 1)) h
    · replace h := ite_f h c3
      refine WT.exit rfl ?_
      refine WT.seq ?_
      refine WT.region ?_
      refine WL.q (q_assign rfl) rfl rfl rfl ?_
      refine WL.nil ?_
      refine WT.ret Try.func36 (resOk.one rfl) (fun w1 hw => ?_)
      cases h
      exact post_of_St hw
theorem m_l_eqFact_ok {Φ : Hp} {w : World} (hΦ : In Φ w) (N : Nat) (p0 : TFact) (p1 : TFact) {pv0_0 : Value} {pG0_0 : List Nat} {pv1_0 : Value} {pG1_0 : List Nat} (ph0_0 : RSl RTVal 3 Φ pG0_0 pv0_0 p0.Fields) (ph1_0 : RSl RTVal 3 Φ pG1_0 pv1_0 p1.Fields) {r : Bool} (h : m_l_eqFact N p0 p1 = some r) :
    Calls Try.prog 37 [.agg [.string p0.Kind, pv0_0].toArray, .agg [.string p1.Kind, pv1_0].toArray].toArray w (Post (.bool r) w) := by
  refine enter Try.func37 rfl Try.ntmps37 rfl (St.start hΦ) ?_
  unfold m_l_eqFact at h
  refine WT.seq ?_
  refine WT.region ?_
  refine WL.box (C := #[.string p0.Kind, pv0_0]) rfl rfl rfl rfl rfl rfl (fun b_1 => ?_)
  refine WL.box (C := #[.string p1.Kind, pv1_0]) rfl rfl rfl rfl rfl rfl (fun b_2 => ?_)
  refine WL.q (q_assign rfl) rfl rfl rfl ?_
  refine WL.nil ?_
  refine WT.seq ?_
  refine WT.seq ?_
  refine WT.region ?_
  refine WL.q (q_fieldAddr Fld_60_0 rfl) rfl rfl rfl ?_
  refine WL.q (q_load1 T1_9 rfl (fun w1 hw => hw.rgL (i := 1) rfl 0 1 [.string p0.Kind] rfl)) rfl rfl rfl ?_
  refine WL.q (q_fieldAddr Fld_60_0 rfl) rfl rfl rfl ?_
  refine WL.q (q_load1 T1_9 rfl (fun w1 hw => hw.rgL (i := 0) rfl 0 1 [.string p1.Kind] rfl)) rfl rfl rfl ?_
  refine WL.q (q_sne rfl rfl) rfl rfl rfl ?_
  refine WL.nil ?_
  refine WT.cond rfl (fun c1 => ?_) (fun c1 => ?_)
  · replace h := ite_t h c1
    refine WT.seq ?_
    refine WT.region ?_
    refine WL.q (q_assign rfl) rfl rfl rfl ?_
    refine WL.nil ?_
    refine WT.ret Try.func37 (resOk.one rfl) (fun w1 hw => ?_)
    cases h
    exact post_of_St hw
  · replace h := ite_f h c1
    refine WT.skip ?_
    refine WT.seq ?_
    refine WT.seq ?_
    refine WT.region ?_
    refine WL.q (q_fieldAddr Fld_60_1 rfl) rfl rfl rfl ?_
    refine WL.q (q_load1 T1_44 rfl (fun w1 hw => hw.rgL (i := 1) rfl 1 1 [pv0_0] rfl)) rfl rfl rfl ?_
    refine WL.q (q_fieldAddr Fld_60_1 rfl) rfl rfl rfl ?_
    refine WL.q (q_load1 T1_44 rfl (fun w1 hw => hw.rgL (i := 0) rfl 1 1 [pv1_0] rfl)) rfl rfl rfl ?_
    obtain ⟨x1, hx1, h⟩ := bind_some h
    refine WL.call (c_pure Fun_84 rfl (fun w1 hw => m_l_eqValS_ok hw.fro N p0.Fields p1.Fields ph0_0 ph1_0 hx1)) rfl rfl rfl (fun _ => ?_)
    refine WL.q (q_not rfl) rfl rfl rfl ?_
    refine WL.nil ?_
    refine WT.cond rfl (fun c2 => ?_) (fun c2 => ?_)
    · replace h := ite_t h c2
      refine WT.seq ?_
      refine WT.region ?_
      refine WL.q (q_assign rfl) rfl rfl rfl ?_
      refine WL.nil ?_
      refine WT.ret Try.func37 (resOk.one rfl) (fun w1 hw => ?_)
      cases h
      exact post_of_St hw
    · replace h := ite_f h c2
      refine WT.skip ?_
      refine WT.seq ?_
      refine WT.region ?_
      refine WL.q (q_assign rfl) rfl rfl rfl ?_
      refine WL.nil ?_
      refine WT.ret Try.func37 (resOk.one rfl) (fun w1 hw => ?_)
      cases h
      exact post_of_St hw
theorem m_l_FnExactPasses_ok {Φ : Hp} {w : World} (hΦ : In Φ w) (N : Nat) (p0 : TAlpha) (p1 : TFact) {pv0_0 : Value} {pG0_0 : List Nat} {pv0_1 : Value} {pG0_1 : List Nat} {pv1_0 : Value} {pG1_0 : List Nat} (ph0_0 : RSl RTVal 3 Φ pG0_0 pv0_0 p0.Consts) (ph0_1 : RSl (RI .i64) 1 Φ pG0_1 pv0_1 p0.At) (ph1_0 : RSl RTVal 3 Φ pG1_0 pv1_0 p1.Fields) {r : Bool} (h : m_l_FnExactPasses N p0 p1 = some r) :
    Calls Try.prog 7 [.agg [.string p0.Kind, .int .i64 p0.N, pv0_0, pv0_1].toArray, .agg [.string p1.Kind, pv1_0].toArray].toArray w (Post (.bool r) w) := by
  refine enter Try.func7 rfl Try.ntmps7 rfl (St.start hΦ) ?_
  unfold m_l_FnExactPasses at h
  have hle := Hle.refl Φ
  refine WT.seq ?_
  refine WT.region ?_
  refine WL.box (C := #[.string p0.Kind, .int .i64 p0.N, pv0_0, pv0_1]) rfl rfl rfl rfl rfl rfl (fun b_1 => ?_)
  refine WL.box (C := #[.string p1.Kind, pv1_0]) rfl rfl rfl rfl rfl rfl (fun b_2 => ?_)
  refine WL.q (q_assign rfl) rfl rfl rfl ?_
  refine WL.nil ?_
  refine WT.seq ?_
  refine WT.region ?_
  refine WL.q (q_assign rfl) rfl rfl rfl ?_
  refine WL.nil ?_
  refine WT.seq ?_
  refine WT.region ?_
  refine WL.q (q_loadN Tn_41 rfl (fun w1 hw => hw.rgL (i := 1) rfl 0 4 [.string p0.Kind, .int .i64 p0.N, pv0_0, pv0_1] rfl) rfl) rfl rfl rfl ?_
  refine WL.q (q_move rfl) rfl rfl rfl ?_
  obtain ⟨x1, hx1, h⟩ := bind_some h
  refine WL.call (c_pure Fun_24 rfl (fun w1 hw => m_l_szAlpha_ok hw.fro N p0 1048576 ph0_0 ph0_1 hx1)) rfl rfl rfl (fun _ => ?_)
  refine WL.q (q_assign rfl) rfl rfl rfl ?_
  refine WL.nil ?_
  refine WT.seq ?_
  refine WT.seq ?_
  refine WT.region ?_
  refine WL.q (q_move rfl) rfl rfl rfl ?_
  refine WL.q (q_lss rfl rfl) rfl rfl rfl ?_
  refine WL.nil ?_
  refine WT.cond rfl (fun c1 => ?_) (fun c1 => ?_)
  · replace h := ite_t h c1
    refine WT.seq ?_
    refine WT.region ?_
    refine WL.q (q_assign rfl) rfl rfl rfl ?_
    refine WL.nil ?_
    refine WT.ret Try.func7 (resOk.one rfl) (fun w1 hw => ?_)
    cases h
    exact post_of_St hw
  · replace h := ite_f h c1
    refine WT.skip ?_
    refine WT.seq ?_
    refine WT.region ?_
    refine WL.q (q_loadN Tn_56 rfl (fun w1 hw => hw.rgL (i := 0) rfl 0 2 [.string p1.Kind, pv1_0] rfl) rfl) rfl rfl rfl ?_
    refine WL.q (q_move rfl) rfl rfl rfl ?_
    obtain ⟨x2, hx2, h⟩ := bind_some h
    refine WL.call (c_pure Fun_33 rfl (fun w1 hw => m_l_szFact_ok hw.fro N p1 x1 ph1_0 hx2)) rfl rfl rfl (fun _ => ?_)
    refine WL.q (q_assign rfl) rfl rfl rfl ?_
    refine WL.nil ?_
    refine WT.seq ?_
    refine WT.seq ?_
    refine WT.region ?_
    refine WL.q (q_move rfl) rfl rfl rfl ?_
    refine WL.q (q_lss rfl rfl) rfl rfl rfl ?_
    refine WL.nil ?_
    refine WT.cond rfl (fun c2 => ?_) (fun c2 => ?_)
    · replace h := ite_t h c2
      refine WT.seq ?_
      refine WT.region ?_
      refine WL.q (q_assign rfl) rfl rfl rfl ?_
      refine WL.nil ?_
      refine WT.ret Try.func7 (resOk.one rfl) (fun w1 hw => ?_)
      cases h
      exact post_of_St hw
    · replace h := ite_f h c2
      refine WT.skip ?_
      refine WT.seq ?_
      refine WT.mix (Kn Φ [Ent.obj b_2 (.cells #[.string p1.Kind, pv1_0] 56 (0, 0)), Ent.obj b_1 (.cells #[.string p0.Kind, .int .i64 p0.N, pv0_0, pv0_1] 41 (0, 0))]) (fun _ => true) mixed (fun _ h => h.drew) ?_
      refine WM.q 0 rfl (by kernel_rfl) (fun w1 hw => Kn.of_St (Hle.refl _) (AllIn.mem ⟨List.mem_of_getElem? (i := 0) rfl, List.mem_of_getElem? (i := 1) rfl, trivial⟩) hw) (q_loadN Tn_41 rfl (fun w1 hw => hw.rgL (i := 1) rfl 0 4 [.string p0.Kind, .int .i64 p0.N, pv0_0, pv0_1] rfl) rfl) rfl rfl rfl ?_
      refine WM.q 2 rfl (by kernel_rfl) (fun w1 hw => Kn.of_St (Hle.refl _) (AllIn.mem ⟨List.mem_of_getElem? (i := 0) rfl, List.mem_of_getElem? (i := 1) rfl, trivial⟩) hw) (q_loadN Tn_56 rfl (fun w1 hw => hw.rgL (i := 0) rfl 0 2 [.string p1.Kind, pv1_0] rfl) rfl) rfl rfl rfl ?_
      obtain ⟨x3, hx3, h⟩ := bind_some h
      refine WM.callL 1 rfl (by kernel_rfl) rfl rfl rfl rfl Fun_26 rfl (fun Φx F w1 hlx hw => Kn.of_St (Hle.trans (Hle.refl _) hlx) (AllIn.mem ⟨List.mem_of_getElem? (i := 1) rfl, List.mem_of_getElem? (i := 2) rfl, trivial⟩) hw) (fun w1 hw => m_l_toAlpha_ok hw.fro N p0 ph0_0 ph0_1 hx3) (fun v1 Φ_1 D1 le1 ho1 qq1 => ?_)
      replace ph0_0 := RSl.mono RTVal.mono le1 ph0_0
      replace ph0_1 := RSl.mono RI.mono le1 ph0_1
      replace ph1_0 := RSl.mono RTVal.mono le1 ph1_0
      replace hle := hle.trans le1
      obtain ⟨cs1, G1, rfl, rfl, h1⟩ := qq1
      obtain ⟨v2, G2, v3, G3, rfl, rfl, h2, h3⟩ := h1
      obtain ⟨x4, hx4, h⟩ := bind_some h
      refine WM.callL 3 rfl (by kernel_rfl) rfl rfl rfl rfl Fun_35 rfl (fun Φx F w1 hlx hw => Kn.of_St (Hle.trans (Hle.trans (Hle.refl _) le1) hlx) (AllIn.mem ⟨List.mem_of_getElem? (i := 2) rfl, List.mem_of_getElem? (i := 3) rfl, trivial⟩) hw) (fun w1 hw => m_l_toFact_ok hw.fro N p1 ph1_0 hx4) (fun v4 Φ_2 D2 le2 ho2 qq2 => ?_)
      replace ph0_0 := RSl.mono RTVal.mono le2 ph0_0
      replace ph0_1 := RSl.mono RI.mono le2 ph0_1
      replace ph1_0 := RSl.mono RTVal.mono le2 ph1_0
      replace h2 := RSl.mono RTVal.mono le2 h2
      replace h3 := RSl.mono RI.mono le2 h3
      replace hle := hle.trans le2
      obtain ⟨cs2, G4, rfl, rfl, h4⟩ := qq2
      obtain ⟨v5, G5, rfl, rfl, h5⟩ := h4
      obtain ⟨x5, hx5, h⟩ := bind_some h
      refine WM.call 4 rfl (by kernel_rfl) (fun _ _ w1 hw => Kn.of_St (Hle.trans (Hle.trans (Hle.refl _) le1) le2) (AllIn.mem ⟨List.mem_of_getElem? (i := 2) rfl, List.mem_of_getElem? (i := 3) rfl, trivial⟩) hw) (c_pure Fun_34 rfl (fun w1 hw => m_s_Passes_ok hw.fro N x3 x4 h2 h3 h5 hx5)) rfl rfl rfl (fun _ => ?_)
      refine WM.q 5 rfl (by kernel_rfl) (fun w1 hw => Kn.of_St (Hle.trans (Hle.trans (Hle.refl _) le1) le2) (AllIn.mem ⟨List.mem_of_getElem? (i := 2) rfl, List.mem_of_getElem? (i := 3) rfl, trivial⟩) hw) (q_assign rfl) rfl rfl rfl ?_
      refine WM.nil (by kernel_rfl) ?_
      refine WT.seq ?_
      refine WT.region ?_
      refine WL.q (q_loadN Tn_41 rfl (fun w1 hw => hw.rgL (i := 3) rfl 0 4 [.string p0.Kind, .int .i64 p0.N, pv0_0, pv0_1] rfl) rfl) rfl rfl rfl ?_
      obtain ⟨x6, hx6, h⟩ := bind_some h
      refine WL.callL rfl rfl rfl rfl Fun_26 rfl (fun w1 hw => m_l_toAlpha_ok hw.fro N p0 ph0_0 ph0_1 hx6) (fun v6 Φ_3 D3 le3 ho3 qq3 => ?_)
      replace ph0_0 := RSl.mono RTVal.mono le3 ph0_0
      replace ph0_1 := RSl.mono RI.mono le3 ph0_1
      replace ph1_0 := RSl.mono RTVal.mono le3 ph1_0
      replace h2 := RSl.mono RTVal.mono le3 h2
      replace h3 := RSl.mono RI.mono le3 h3
      replace h5 := RSl.mono RTVal.mono le3 h5
      replace hle := hle.trans le3
      obtain ⟨cs3, G6, rfl, rfl, h6⟩ := qq3
      obtain ⟨v7, G7, v8, G8, rfl, rfl, h7, h8⟩ := h6
      refine WL.alloc (C := #[.string (⟨#[]⟩ : ByteArray), .int .i64 0, .slice none 0 0, .slice none 0 0]) rfl rfl rfl rfl Zr_46 rfl (fun b_3 => ?_)
      refine WL.store (i := 0) (vs := [.string x6.Kind, .int .i64 x6.N, v7, v8]) (C' := [.string x6.Kind, .int .i64 x6.N, v7, v8]) rfl rfl rfl Sz_46 rfl rfl rfl rfl rfl rfl ⟨rfl, rfl, RSl.one h7, RSl.one h8, trivial⟩ rfl ?_
      refine WL.nil ?_
      refine WT.seq ?_
      refine WT.region ?_
      refine WL.q (q_loadN Tn_56 rfl (fun w1 hw => hw.rgL (i := 4) rfl 0 2 [.string p1.Kind, pv1_0] rfl) rfl) rfl rfl rfl ?_
      obtain ⟨x7, hx7, h⟩ := bind_some h
      refine WL.callL rfl rfl rfl rfl Fun_35 rfl (fun w1 hw => m_l_toFact_ok hw.fro N p1 ph1_0 hx7) (fun v9 Φ_4 D4 le4 ho4 qq4 => ?_)
      replace ph0_0 := RSl.mono RTVal.mono le4 ph0_0
      replace ph0_1 := RSl.mono RI.mono le4 ph0_1
      replace ph1_0 := RSl.mono RTVal.mono le4 ph1_0
      replace h2 := RSl.mono RTVal.mono le4 h2
      replace h3 := RSl.mono RI.mono le4 h3
      replace h5 := RSl.mono RTVal.mono le4 h5
      replace h7 := RSl.mono RTVal.mono le4 h7
      replace h8 := RSl.mono RI.mono le4 h8
      replace hle := hle.trans le4
      obtain ⟨cs4, G9, rfl, rfl, h9⟩ := qq4
      obtain ⟨v10, G10, rfl, rfl, h10⟩ := h9
      refine WL.alloc (C := #[.string (⟨#[]⟩ : ByteArray), .slice none 0 0]) rfl rfl rfl rfl Zr_60 rfl (fun b_4 => ?_)
      refine WL.store (i := 0) (vs := [.string x7.Kind, v10]) (C' := [.string x7.Kind, v10]) rfl rfl rfl Sz_60 rfl rfl rfl rfl rfl rfl ⟨rfl, RSl.one h10, trivial⟩ rfl ?_
      refine WL.nil ?_
      refine WT.seq ?_
      refine WT.region ?_
      refine WL.q (q_loadN Tn_46 rfl (fun w1 hw => hw.rgL (i := 2) rfl 0 4 [.string x6.Kind, .int .i64 x6.N, v7, v8] rfl) rfl) rfl rfl rfl ?_
      refine WL.q (q_loadN Tn_60 rfl (fun w1 hw => hw.rgL (i := 0) rfl 0 2 [.string x7.Kind, v10] rfl) rfl) rfl rfl rfl ?_
      obtain ⟨x8, hx8, h⟩ := bind_some h
      refine WL.call (c_pure Fun_36 rfl (fun w1 hw => m_i_Passes_ok hw.fro N x6 x7 h7 h8 h10 hx8)) rfl rfl rfl (fun _ => ?_)
      refine WL.q (q_assign rfl) rfl rfl rfl ?_
      refine WL.nil ?_
      refine WT.seq ?_
      refine WT.seq ?_
      refine WT.region ?_
      refine WL.q (q_move rfl) rfl rfl rfl ?_
      refine WL.q (q_move rfl) rfl rfl rfl ?_
      refine WL.q (q_bne Bo_4 rfl rfl) rfl rfl rfl ?_
      refine WL.nil ?_
      refine WT.cond rfl (fun c3 => ?_) (fun c3 => ?_)
      · replace h := ite_t h c3
        refine WT.seq ?_
        refine WT.region ?_
        refine WL.q (q_assign rfl) rfl rfl rfl ?_
        refine WL.nil ?_
        refine WT.ret Try.func7 (resOk.one rfl) (fun w1 hw => ?_)
        cases h
        exact post_of_St hw
      · replace h := ite_f h c3
        refine WT.skip ?_
        refine WT.seq ?_
        refine WT.seq ?_
        refine WT.mix (Kn Φ_4 [Ent.obj b_4 (.cells #[.string x7.Kind, v10] 60 (0, 0)), Ent.obj b_3 (.cells #[.string x6.Kind, .int .i64 x6.N, v7, v8] 46 (0, 0)), Ent.obj b_2 (.cells #[.string p1.Kind, pv1_0] 56 (0, 0)), Ent.obj b_1 (.cells #[.string p0.Kind, .int .i64 p0.N, pv0_0, pv0_1] 41 (0, 0))]) (fun _ => true) mixed (fun _ h => h.drew) ?_
        refine WM.q 0 rfl (by kernel_rfl) (fun w1 hw => Kn.of_St (Hle.refl _) (AllIn.mem ⟨List.mem_of_getElem? (i := 0) rfl, List.mem_of_getElem? (i := 2) rfl, List.mem_of_getElem? (i := 6) rfl, List.mem_of_getElem? (i := 7) rfl, trivial⟩) hw) (q_loadN Tn_46 rfl (fun w1 hw => hw.rgL (i := 1) rfl 0 4 [.string x6.Kind, .int .i64 x6.N, v7, v8] rfl) rfl) rfl rfl rfl ?_
        refine WM.q 1 rfl (by kernel_rfl) (fun w1 hw => Kn.of_St (Hle.refl _) (AllIn.mem ⟨List.mem_of_getElem? (i := 0) rfl, List.mem_of_getElem? (i := 2) rfl, List.mem_of_getElem? (i := 6) rfl, List.mem_of_getElem? (i := 7) rfl, trivial⟩) hw) (q_loadN Tn_41 rfl (fun w1 hw => hw.rgL (i := 3) rfl 0 4 [.string p0.Kind, .int .i64 p0.N, pv0_0, pv0_1] rfl) rfl) rfl rfl rfl ?_
        obtain ⟨x9, hx9, h⟩ := bind_some h
        refine WM.callL 2 rfl (by kernel_rfl) rfl rfl rfl rfl Fun_26 rfl (fun Φx F w1 hlx hw => Kn.of_St (Hle.trans (Hle.refl _) hlx) (AllIn.mem ⟨List.mem_of_getElem? (i := 1) rfl, List.mem_of_getElem? (i := 3) rfl, List.mem_of_getElem? (i := 7) rfl, List.mem_of_getElem? (i := 8) rfl, trivial⟩) hw) (fun w1 hw => m_l_toAlpha_ok hw.fro N p0 ph0_0 ph0_1 hx9) (fun v11 Φ_5 D5 le5 ho5 qq5 => ?_)
        replace ph0_0 := RSl.mono RTVal.mono le5 ph0_0
        replace ph0_1 := RSl.mono RI.mono le5 ph0_1
        replace ph1_0 := RSl.mono RTVal.mono le5 ph1_0
        replace h2 := RSl.mono RTVal.mono le5 h2
        replace h3 := RSl.mono RI.mono le5 h3
        replace h5 := RSl.mono RTVal.mono le5 h5
        replace h7 := RSl.mono RTVal.mono le5 h7
        replace h8 := RSl.mono RI.mono le5 h8
        replace h10 := RSl.mono RTVal.mono le5 h10
        replace hle := hle.trans le5
        obtain ⟨cs5, G11, rfl, rfl, h11⟩ := qq5
        obtain ⟨v12, G12, v13, G13, rfl, rfl, h12, h13⟩ := h11
        obtain ⟨x10, hx10, h⟩ := bind_some h
        refine WM.call 3 rfl (by kernel_rfl) (fun _ _ w1 hw => Kn.of_St (Hle.trans (Hle.refl _) le5) (AllIn.mem ⟨List.mem_of_getElem? (i := 1) rfl, List.mem_of_getElem? (i := 3) rfl, List.mem_of_getElem? (i := 7) rfl, List.mem_of_getElem? (i := 8) rfl, trivial⟩) hw) (c_pure Fun_28 rfl (fun w1 hw => m_l_eqAlpha_ok hw.fro N x6 x9 h7 h8 h12 h13 hx10)) rfl rfl rfl (fun _ => ?_)
        refine WM.q 4 rfl (by kernel_rfl) (fun w1 hw => Kn.of_St (Hle.trans (Hle.refl _) le5) (AllIn.mem ⟨List.mem_of_getElem? (i := 1) rfl, List.mem_of_getElem? (i := 3) rfl, List.mem_of_getElem? (i := 7) rfl, List.mem_of_getElem? (i := 8) rfl, trivial⟩) hw) (q_not rfl) rfl rfl rfl ?_
        refine WM.nil (by kernel_rfl) ?_
        refine WT.cond rfl (fun c4 => ?_) (fun c4 => ?_)
        · replace h := ite_t h c4
          refine WT.seq ?_
          refine WT.region ?_
          refine WL.q (q_assign rfl) rfl rfl rfl ?_
          refine WL.nil ?_
          refine WT.ret Try.func7 (resOk.one rfl) (fun w1 hw => ?_)
          cases h
          exact post_of_St hw
        · replace h := ite_f h c4
          refine WT.skip ?_
          refine WT.seq ?_
          refine WT.seq ?_
          refine WT.mix (Kn Φ_5 [Ent.obj b_4 (.cells #[.string x7.Kind, v10] 60 (0, 0)), Ent.obj b_3 (.cells #[.string x6.Kind, .int .i64 x6.N, v7, v8] 46 (0, 0)), Ent.obj b_2 (.cells #[.string p1.Kind, pv1_0] 56 (0, 0)), Ent.obj b_1 (.cells #[.string p0.Kind, .int .i64 p0.N, pv0_0, pv0_1] 41 (0, 0))]) (fun _ => true) mixed (fun _ h => h.drew) ?_
          refine WM.q 0 rfl (by kernel_rfl) (fun w1 hw => Kn.of_St (Hle.refl _) (AllIn.mem ⟨List.mem_of_getElem? (i := 1) rfl, List.mem_of_getElem? (i := 3) rfl, List.mem_of_getElem? (i := 7) rfl, List.mem_of_getElem? (i := 8) rfl, trivial⟩) hw) (q_loadN Tn_60 rfl (fun w1 hw => hw.rgL (i := 0) rfl 0 2 [.string x7.Kind, v10] rfl) rfl) rfl rfl rfl ?_
          refine WM.q 1 rfl (by kernel_rfl) (fun w1 hw => Kn.of_St (Hle.refl _) (AllIn.mem ⟨List.mem_of_getElem? (i := 1) rfl, List.mem_of_getElem? (i := 3) rfl, List.mem_of_getElem? (i := 7) rfl, List.mem_of_getElem? (i := 8) rfl, trivial⟩) hw) (q_loadN Tn_56 rfl (fun w1 hw => hw.rgL (i := 2) rfl 0 2 [.string p1.Kind, pv1_0] rfl) rfl) rfl rfl rfl ?_
          obtain ⟨x11, hx11, h⟩ := bind_some h
          refine WM.callL 2 rfl (by kernel_rfl) rfl rfl rfl rfl Fun_35 rfl (fun Φx F w1 hlx hw => Kn.of_St (Hle.trans (Hle.refl _) hlx) (AllIn.mem ⟨List.mem_of_getElem? (i := 2) rfl, List.mem_of_getElem? (i := 4) rfl, List.mem_of_getElem? (i := 8) rfl, List.mem_of_getElem? (i := 9) rfl, trivial⟩) hw) (fun w1 hw => m_l_toFact_ok hw.fro N p1 ph1_0 hx11) (fun v14 Φ_6 D6 le6 ho6 qq6 => ?_)
          replace ph0_0 := RSl.mono RTVal.mono le6 ph0_0
          replace ph0_1 := RSl.mono RI.mono le6 ph0_1
          replace ph1_0 := RSl.mono RTVal.mono le6 ph1_0
          replace h2 := RSl.mono RTVal.mono le6 h2
          replace h3 := RSl.mono RI.mono le6 h3
          replace h5 := RSl.mono RTVal.mono le6 h5
          replace h7 := RSl.mono RTVal.mono le6 h7
          replace h8 := RSl.mono RI.mono le6 h8
          replace h10 := RSl.mono RTVal.mono le6 h10
          replace h12 := RSl.mono RTVal.mono le6 h12
          replace h13 := RSl.mono RI.mono le6 h13
          replace hle := hle.trans le6
          obtain ⟨cs6, G14, rfl, rfl, h14⟩ := qq6
          obtain ⟨v15, G15, rfl, rfl, h15⟩ := h14
          obtain ⟨x12, hx12, h⟩ := bind_some h
          refine WM.call 3 rfl (by kernel_rfl) (fun _ _ w1 hw => Kn.of_St (Hle.trans (Hle.refl _) le6) (AllIn.mem ⟨List.mem_of_getElem? (i := 2) rfl, List.mem_of_getElem? (i := 4) rfl, List.mem_of_getElem? (i := 8) rfl, List.mem_of_getElem? (i := 9) rfl, trivial⟩) hw) (c_pure Fun_37 rfl (fun w1 hw => m_l_eqFact_ok hw.fro N x7 x11 h10 h15 hx12)) rfl rfl rfl (fun _ => ?_)
          refine WM.q 4 rfl (by kernel_rfl) (fun w1 hw => Kn.of_St (Hle.trans (Hle.refl _) le6) (AllIn.mem ⟨List.mem_of_getElem? (i := 2) rfl, List.mem_of_getElem? (i := 4) rfl, List.mem_of_getElem? (i := 8) rfl, List.mem_of_getElem? (i := 9) rfl, trivial⟩) hw) (q_not rfl) rfl rfl rfl ?_
          refine WM.nil (by kernel_rfl) ?_
          refine WT.cond rfl (fun c5 => ?_) (fun c5 => ?_)
          · replace h := ite_t h c5
            refine WT.seq ?_
            refine WT.region ?_
            refine WL.q (q_assign rfl) rfl rfl rfl ?_
            refine WL.nil ?_
            refine WT.ret Try.func7 (resOk.one rfl) (fun w1 hw => ?_)
            cases h
            exact post_of_St hw
          · replace h := ite_f h c5
            refine WT.skip ?_
            refine WT.seq ?_
            refine WT.region ?_
            refine WL.q (q_assign rfl) rfl rfl rfl ?_
            refine WL.nil ?_
            refine WT.ret Try.func7 (resOk.one rfl) (fun w1 hw => ?_)
            cases h
            exact post_of_St hw
theorem m_l_szEffect_ok {Φ : Hp} {w : World} (hΦ : In Φ w) (N : Nat) (p0 : TEffect) (p1 : Int) {pv0_0 : Value} {pG0_0 : List Nat} (ph0_0 : RSl RTVal 3 Φ pG0_0 pv0_0 p0.F.Fields) {r : Int} (h : m_l_szEffect N p0 p1 = some r) :
    Calls Try.prog 44 [.agg [.int .i64 p0.Kind, .string p0.F.Kind, pv0_0, .int .i64 p0.Id, .int .i64 p0.N, .string p0.Undo].toArray, .int .i64 p1].toArray w (Post (.int .i64 r) w) := by
  refine enter Try.func44 rfl Try.ntmps44 rfl (St.start hΦ) ?_
  unfold m_l_szEffect at h
  refine WT.seq ?_
  refine WT.region ?_
  refine WL.box (C := #[.int .i64 p0.Kind, .string p0.F.Kind, pv0_0, .int .i64 p0.Id, .int .i64 p0.N, .string p0.Undo]) rfl rfl rfl rfl rfl rfl (fun b_1 => ?_)
  refine WL.q (q_assign rfl) rfl rfl rfl ?_
  refine WL.nil ?_
  refine WT.seq ?_
  refine WT.region ?_
  refine WL.q (q_fieldAddr Fld_71_1 rfl) rfl rfl rfl ?_
  refine WL.q (q_loadN Tn_56 rfl (fun w1 hw => hw.rgL (i := 0) rfl 1 2 [.string p0.F.Kind, pv0_0] rfl) rfl) rfl rfl rfl ?_
  refine WL.q (q_move rfl) rfl rfl rfl ?_
  obtain ⟨x1, hx1, h⟩ := bind_some h
  refine WL.call (c_pure Fun_33 rfl (fun w1 hw => m_l_szFact_ok hw.fro N p0.F p1 ph0_0 hx1)) rfl rfl rfl (fun _ => ?_)
  refine WL.q (q_assign rfl) rfl rfl rfl ?_
  refine WL.nil ?_
  refine WT.seq ?_
  refine WT.seq ?_
  refine WT.region ?_
  refine WL.q (q_move rfl) rfl rfl rfl ?_
  refine WL.q (q_lss rfl rfl) rfl rfl rfl ?_
  refine WL.nil ?_
  refine WT.cond rfl (fun c1 => ?_) (fun c1 => ?_)
  · replace h := ite_t h c1
    refine WT.seq ?_
    refine WT.region ?_
    refine WL.q (q_assign rfl) rfl rfl rfl ?_
    refine WL.nil ?_
    refine WT.ret Try.func44 (resOk.one rfl) (fun w1 hw => ?_)
    cases h
    exact post_of_St hw
  · replace h := ite_f h c1
    refine WT.skip ?_
    refine WT.seq ?_
    refine WT.region ?_
    refine WL.q (q_move rfl) rfl rfl rfl ?_
    refine WL.q (q_fieldAddr Fld_71_4 rfl) rfl rfl rfl ?_
    refine WL.q (q_load1 T1_9 rfl (fun w1 hw => hw.rgL (i := 0) rfl 5 1 [.string p0.Undo] rfl)) rfl rfl rfl ?_
    refine WL.q (q_lenS Str_9 rfl rfl) rfl rfl rfl ?_
    refine WL.q (q_sub rfl rfl) rfl rfl rfl ?_
    refine WL.q (q_assign rfl) rfl rfl rfl ?_
    refine WL.nil ?_
    refine WT.seq ?_
    refine WT.seq ?_
    refine WT.region ?_
    refine WL.q (q_move rfl) rfl rfl rfl ?_
    refine WL.q (q_lss rfl rfl) rfl rfl rfl ?_
    refine WL.nil ?_
    refine WT.cond rfl (fun c2 => ?_) (fun c2 => ?_)
    · replace h := ite_t h c2
      refine WT.seq ?_
      refine WT.region ?_
      refine WL.q (q_assign rfl) rfl rfl rfl ?_
      refine WL.nil ?_
      refine WT.ret Try.func44 (resOk.one rfl) (fun w1 hw => ?_)
      cases h
      exact post_of_St hw
    · replace h := ite_f h c2
      refine WT.skip ?_
      refine WT.seq ?_
      refine WT.region ?_
      refine WL.q (q_move rfl) rfl rfl rfl ?_
      refine WL.q (q_assign rfl) rfl rfl rfl ?_
      refine WL.nil ?_
      refine WT.ret Try.func44 (resOk.one rfl) (fun w1 hw => ?_)
      cases h
      exact post_of_St hw
theorem m_s_l1Letter_ok {Φ : Hp} {w : World} (hΦ : In Φ w) (N : Nat) (p0 : Int)   {r : Bool} (h : m_s_l1Letter N p0 = some r) :
    Calls Try.prog 125 [.int .u8 p0].toArray w (Post (.bool r) w) := by
  refine enter Try.func125 rfl Try.ntmps125 rfl (St.start hΦ) ?_
  unfold m_s_l1Letter at h
  refine WT.seq ?_
  refine WT.region ?_
  refine WL.q (q_assign rfl) rfl rfl rfl ?_
  refine WL.nil ?_
  refine WT.seq ?_
  refine WT.region ?_
  refine WL.q (q_move rfl) rfl rfl rfl ?_
  refine WL.q (q_convI Ik_5 Ik_3 rfl) rfl rfl rfl ?_
  obtain ⟨x1, hx1, h⟩ := bind_some h
  refine WL.call (c_pure Fun_86 rfl (fun w1 hw => m_s_l1In_ok hw.fro N (IntKind.i64.wrap p0) 97 122 hx1)) rfl rfl rfl (fun _ => ?_)
  refine WL.q (q_move rfl) rfl rfl rfl ?_
  obtain ⟨b1, hb_1, h⟩ := bind_some h
  refine WL.cutN 4 [(10, .bool b1), (0, .int .u8 p0), (2, .bool false)] ?_ (fun K => ?_)
  rotate_left
  · refine WL.split (d := 6) rfl (fun c1 => ?_) (fun c1 => ?_)
    · replace hb_1 := ite_t hb_1 c1
      refine WL.no rfl rfl rfl rfl ?_
      refine WL.no rfl rfl rfl rfl ?_
      refine WL.no rfl rfl rfl rfl ?_
      refine WL.q (q_pick1 rfl rfl) rfl rfl rfl ?_
      cases hb_1
      exact WL.keep (by exact ⟨rfl, rfl, rfl, trivial⟩) K
    · replace hb_1 := ite_f hb_1 c1
      refine WL.yes rfl rfl ?_
      refine WL.q (q_move rfl) rfl rfl rfl ?_
      refine WL.yes rfl rfl ?_
      refine WL.q (q_convI Ik_5 Ik_3 rfl) rfl rfl rfl ?_
      refine WL.yes rfl rfl ?_
      obtain ⟨x2, hx2, hb_1⟩ := bind_some hb_1
      refine WL.call (c_pure Fun_86 rfl (fun w1 hw => m_s_l1In_ok hw.fro N (IntKind.i64.wrap p0) 48 57 hx2)) rfl rfl rfl (fun _ => ?_)
      refine WL.q (q_pick0 rfl rfl) rfl rfl rfl ?_
      cases hb_1
      exact WL.keep (by exact ⟨rfl, rfl, rfl, trivial⟩) K
  refine WL.q (q_move rfl) rfl rfl rfl ?_
  obtain ⟨b2, hb_2, h⟩ := bind_some h
  refine WL.cutN 3 [(14, .bool b2), (2, .bool false)] ?_ (fun K => ?_)
  rotate_left
  · refine WL.split (d := 11) rfl (fun c2 => ?_) (fun c2 => ?_)
    · replace hb_2 := ite_t hb_2 c2
      refine WL.no rfl rfl rfl rfl ?_
      refine WL.no rfl rfl rfl rfl ?_
      refine WL.q (q_pick1 rfl rfl) rfl rfl rfl ?_
      cases hb_2
      exact WL.keep (by exact ⟨rfl, rfl, trivial⟩) K
    · replace hb_2 := ite_f hb_2 c2
      refine WL.yes rfl rfl ?_
      refine WL.q (q_move rfl) rfl rfl rfl ?_
      refine WL.yes rfl rfl ?_
      refine WL.q (q_eql rfl rfl) rfl rfl rfl ?_
      refine WL.q (q_pick0 rfl rfl) rfl rfl rfl ?_
      cases hb_2
      exact WL.keep (by exact ⟨rfl, rfl, trivial⟩) K
  refine WL.q (q_assign rfl) rfl rfl rfl ?_
  refine WL.nil ?_
  refine WT.ret Try.func125 (resOk.one rfl) (fun w1 hw => ?_)
  cases h
  exact post_of_St hw
theorem m_s_NameOk_ok {Φ : Hp} {w : World} (hΦ : In Φ w) (N : Nat) (p0 : ByteArray)   {r : Bool} (h : m_s_NameOk N p0 = some r) :
    Calls Try.prog 91 [.string p0].toArray w (Post (.bool r) w) := by
  refine enter Try.func91 rfl Try.ntmps91 rfl (St.start hΦ) ?_
  unfold m_s_NameOk at h
  refine WT.seq ?_
  refine WT.region ?_
  refine WL.q (q_assign rfl) rfl rfl rfl ?_
  refine WL.nil ?_
  refine WT.seq ?_
  refine WT.seq ?_
  refine WT.region ?_
  refine WL.q (q_assign rfl) rfl rfl rfl ?_
  refine WL.nil ?_
  refine WT.block ?_
  refine WT.loop ?_
  refine WT.keep [(0, .string p0), (2, .bool false), (3, .int .i64 0)] ⟨rfl, rfl, rfl, trivial⟩ ?_
  refine loop_ind (σ := Int) (fun s => [(0, .string p0), (2, .bool false), (3, .int .i64 s)]) (fun s => St w Φ []) (fun m s => m_s_NameOk_l1 N p0 m s = some r) (fun s hm => none_ne (show (none : Option (Bool)) = some r from hm)) (fun k ih s hm => ?_) N (0) h
  revert hm; revert s; intro s1 hm
  have h : m_s_NameOk_l1 N p0 (k + 1) s1 = some r := hm
  show WT _ _ [(0, .string p0), (2, .bool false), (3, .int .i64 s1)] (St w Φ [])
  unfold m_s_NameOk_l1 at h
  refine WT.seq ?_
  refine WT.seq ?_
  refine WT.region ?_
  refine WL.q (q_move rfl) rfl rfl rfl ?_
  refine WL.q (q_move rfl) rfl rfl rfl ?_
  refine WL.q (q_lenS Str_9 rfl rfl) rfl rfl rfl ?_
  refine WL.q (q_lss rfl rfl) rfl rfl rfl ?_
  refine WL.nil ?_
  refine WT.cond rfl (fun c1 => ?_) (fun c1 => ?_)
  · replace h := ite_t h c1
    refine WT.skip ?_
    refine WT.seq ?_
    refine WT.block ?_
    refine WT.seq ?_
    refine WT.region ?_
    refine WL.q (q_move rfl) rfl rfl rfl ?_
    refine WL.q (q_move rfl) rfl rfl rfl ?_
    obtain ⟨y1, hy1, h⟩ := bind_some h
    refine WL.q (q_indexS Str_9 rfl rfl hy1) rfl rfl rfl ?_
    obtain ⟨x1, hx1, h⟩ := bind_some h
    refine WL.call (c_pure Fun_125 rfl (fun w1 hw => m_s_l1Letter_ok hw.fro N (y1.toNat : Int) hx1)) rfl rfl rfl (fun _ => ?_)
    refine WL.q (q_not rfl) rfl rfl rfl ?_
    refine WL.q (q_move rfl) rfl rfl rfl ?_
    obtain ⟨b1, hb_1, h⟩ := bind_some h
    refine WL.cutN 11 [(26, .bool b1), (0, .string p0), (2, .bool false), (3, .int .i64 s1), (4, .int .i64 s1), (5, .string p0), (6, .int .i64 (p0.size : Int)), (7, .bool (decide (s1 < (p0.size : Int)))), (10, .string p0), (11, .int .i64 s1), (12, .int .u8 (y1.toNat : Int)), (13, .bool x1), (14, .bool (!x1)), (15, .bool (!x1))] ?_ (fun K => ?_)
    rotate_left
    · refine WL.split (d := 15) rfl (fun c2 => ?_) (fun c2 => ?_)
      · replace hb_1 := ite_t hb_1 c2
        refine WL.no rfl rfl rfl rfl ?_
        refine WL.no rfl rfl rfl rfl ?_
        refine WL.no rfl rfl rfl rfl ?_
        refine WL.nox rfl rfl rfl rfl ?_
        refine WL.nox rfl rfl rfl rfl ?_
        refine WL.nox rfl rfl rfl rfl ?_
        refine WL.nox rfl rfl rfl rfl ?_
        refine WL.nox rfl rfl rfl rfl ?_
        refine WL.nox rfl rfl rfl rfl ?_
        refine WL.no rfl rfl rfl rfl ?_
        refine WL.q (q_pick1 rfl rfl) rfl rfl rfl ?_
        cases hb_1
        exact WL.keep (by exact ⟨rfl, rfl, rfl, rfl, rfl, rfl, rfl, rfl, rfl, rfl, rfl, rfl, rfl, (congrArg (fun b => some (Value.bool b)) c2.symm), trivial⟩) K
      · replace hb_1 := ite_f hb_1 c2
        refine WL.yes rfl rfl ?_
        refine WL.q (q_move rfl) rfl rfl rfl ?_
        refine WL.yes rfl rfl ?_
        refine WL.q (q_eql rfl rfl) rfl rfl rfl ?_
        refine WL.yes rfl rfl ?_
        refine WL.q (q_move rfl) rfl rfl rfl ?_
        obtain ⟨b2, hb_2, hb_1⟩ := bind_some hb_1
        refine WL.cutN 7 [(25, .bool b2), (0, .string p0), (2, .bool false), (3, .int .i64 s1), (4, .int .i64 s1), (5, .string p0), (6, .int .i64 (p0.size : Int)), (7, .bool (decide (s1 < (p0.size : Int)))), (10, .string p0), (11, .int .i64 s1), (12, .int .u8 (y1.toNat : Int)), (13, .bool x1), (14, .bool (!x1)), (15, .bool false), (16, .int .i64 s1), (17, .bool (decide (s1 = 0))), (18, .bool (decide (s1 = 0)))] ?_ (fun K => ?_)
        rotate_left
        · refine WL.split (d := 18) rfl (fun c3 => ?_) (fun c3 => ?_)
          · replace hb_2 := ite_t hb_2 c3
            refine WL.yes rfl rfl ?_
            refine WL.q (q_move rfl) rfl rfl rfl ?_
            refine WL.yes rfl rfl ?_
            refine WL.q (q_move rfl) rfl rfl rfl ?_
            refine WL.yes rfl rfl ?_
            obtain ⟨y2, hy2, hb_2⟩ := bind_some hb_2
            refine WL.q (q_indexS Str_9 rfl rfl hy2) rfl rfl rfl ?_
            refine WL.yes rfl rfl ?_
            refine WL.q (q_convI Ik_5 Ik_3 rfl) rfl rfl rfl ?_
            refine WL.yes rfl rfl ?_
            obtain ⟨x2, hx2, hb_2⟩ := bind_some hb_2
            refine WL.call (c_pure Fun_86 rfl (fun w1 hw => m_s_l1In_ok hw.fro N (IntKind.i64.wrap (y2.toNat : Int)) 97 122 hx2)) rfl rfl rfl (fun _ => ?_)
            refine WL.yes rfl rfl ?_
            refine WL.q (q_not rfl) rfl rfl rfl ?_
            refine WL.yes rfl rfl ?_
            refine WL.q (q_pick1 rfl rfl) rfl rfl rfl ?_
            cases hb_2
            exact WL.keep (by exact ⟨rfl, rfl, rfl, rfl, rfl, rfl, rfl, rfl, rfl, rfl, rfl, rfl, rfl, rfl, rfl, rfl, (congrArg (fun b => some (Value.bool b)) c3.symm), trivial⟩) K
          · replace hb_2 := ite_f hb_2 c3
            refine WL.no rfl rfl rfl rfl ?_
            refine WL.no rfl rfl rfl rfl ?_
            refine WL.no rfl rfl rfl rfl ?_
            refine WL.no rfl rfl rfl rfl ?_
            refine WL.no rfl rfl rfl rfl ?_
            refine WL.no rfl rfl rfl rfl ?_
            refine WL.yes rfl rfl ?_
            refine WL.q (q_pick0 rfl rfl) rfl rfl rfl ?_
            cases hb_2
            exact WL.keep (by exact ⟨rfl, rfl, rfl, rfl, rfl, rfl, rfl, rfl, rfl, rfl, rfl, rfl, rfl, rfl, rfl, rfl, (congrArg (fun b => some (Value.bool b)) c3.symm), trivial⟩) K
        refine WL.q (q_pick0 rfl rfl) rfl rfl rfl ?_
        cases hb_1
        exact WL.keep (by exact ⟨rfl, rfl, rfl, rfl, rfl, rfl, rfl, rfl, rfl, rfl, rfl, rfl, rfl, (congrArg (fun b => some (Value.bool b)) c2.symm), trivial⟩) K
    refine WL.nil ?_
    refine WT.cond rfl (fun c4 => ?_) (fun c4 => ?_)
    · replace h := ite_t h c4
      refine WT.seq ?_
      refine WT.region ?_
      refine WL.q (q_assign rfl) rfl rfl rfl ?_
      refine WL.nil ?_
      refine WT.ret Try.func91 (resOk.one rfl) (fun w1 hw => ?_)
      cases h
      exact post_of_St hw
    · replace h := ite_f h c4
      refine WT.skip ?_
      refine WT.inBlock ?_
      refine WT.region ?_
      refine WL.q (q_move rfl) rfl rfl rfl ?_
      refine WL.q (q_add rfl rfl) rfl rfl rfl ?_
      refine WL.q (q_assign rfl) rfl rfl rfl ?_
      refine WL.nil ?_
      refine WT.inLoop (WT.mono (l' := [(0, .string p0), (2, .bool false), (3, .int .i64 (IntKind.i64.wrap (s1 + 1)))]) (S' := St w Φ []) ⟨rfl, rfl, rfl, trivial⟩ (fun w1 hw => hw.drop 0) ?_)
      exact ih (IntKind.i64.wrap (s1 + 1)) h
  · replace h := ite_f h c1
    refine WT.exit rfl ?_
    refine WT.seq ?_
    refine WT.region ?_
    refine WL.q (q_move rfl) rfl rfl rfl ?_
    refine WL.q (q_lenS Str_9 rfl rfl) rfl rfl rfl ?_
    obtain ⟨x3, hx3, h⟩ := bind_some h
    refine WL.call (c_pure Fun_86 rfl (fun w1 hw => m_s_l1In_ok hw.fro N (p0.size : Int) 1 12 hx3)) rfl rfl rfl (fun _ => ?_)
    refine WL.q (q_assign rfl) rfl rfl rfl ?_
    refine WL.nil ?_
    refine WT.ret Try.func91 (resOk.one rfl) (fun w1 hw => ?_)
    cases h
    exact post_of_St hw
theorem m_s_l2Plain_ok {Φ : Hp} {w : World} (hΦ : In Φ w) (N : Nat) (p0 : ByteArray)   {r : Bool} (h : m_s_l2Plain N p0 = some r) :
    Calls Try.prog 139 [.string p0].toArray w (Post (.bool r) w) := by
  refine enter Try.func139 rfl Try.ntmps139 rfl (St.start hΦ) ?_
  unfold m_s_l2Plain at h
  refine WT.seq ?_
  refine WT.region ?_
  refine WL.q (q_assign rfl) rfl rfl rfl ?_
  refine WL.nil ?_
  refine WT.seq ?_
  refine WT.seq ?_
  refine WT.region ?_
  refine WL.q (q_assign rfl) rfl rfl rfl ?_
  refine WL.nil ?_
  refine WT.block ?_
  refine WT.loop ?_
  refine WT.keep [(0, .string p0), (2, .bool false), (3, .int .i64 0)] ⟨rfl, rfl, rfl, trivial⟩ ?_
  refine loop_ind (σ := Int) (fun s => [(0, .string p0), (2, .bool false), (3, .int .i64 s)]) (fun s => St w Φ []) (fun m s => m_s_l2Plain_l1 N p0 m s = some r) (fun s hm => none_ne (show (none : Option (Bool)) = some r from hm)) (fun k ih s hm => ?_) N (0) h
  revert hm; revert s; intro s1 hm
  have h : m_s_l2Plain_l1 N p0 (k + 1) s1 = some r := hm
  show WT _ _ [(0, .string p0), (2, .bool false), (3, .int .i64 s1)] (St w Φ [])
  unfold m_s_l2Plain_l1 at h
  refine WT.seq ?_
  refine WT.seq ?_
  refine WT.region ?_
  refine WL.q (q_move rfl) rfl rfl rfl ?_
  refine WL.q (q_move rfl) rfl rfl rfl ?_
  refine WL.q (q_lenS Str_9 rfl rfl) rfl rfl rfl ?_
  refine WL.q (q_lss rfl rfl) rfl rfl rfl ?_
  refine WL.nil ?_
  refine WT.cond rfl (fun c1 => ?_) (fun c1 => ?_)
  · replace h := ite_t h c1
    refine WT.skip ?_
    refine WT.seq ?_
    refine WT.block ?_
    refine WT.seq ?_
    refine WT.region ?_
    refine WL.q (q_move rfl) rfl rfl rfl ?_
    refine WL.q (q_move rfl) rfl rfl rfl ?_
    obtain ⟨y1, hy1, h⟩ := bind_some h
    refine WL.q (q_indexS Str_9 rfl rfl hy1) rfl rfl rfl ?_
    obtain ⟨x1, hx1, h⟩ := bind_some h
    refine WL.call (c_pure Fun_125 rfl (fun w1 hw => m_s_l1Letter_ok hw.fro N (y1.toNat : Int) hx1)) rfl rfl rfl (fun _ => ?_)
    refine WL.q (q_not rfl) rfl rfl rfl ?_
    refine WL.nil ?_
    refine WT.cond rfl (fun c2 => ?_) (fun c2 => ?_)
    · replace h := ite_t h c2
      refine WT.seq ?_
      refine WT.region ?_
      refine WL.q (q_assign rfl) rfl rfl rfl ?_
      refine WL.nil ?_
      refine WT.ret Try.func139 (resOk.one rfl) (fun w1 hw => ?_)
      cases h
      exact post_of_St hw
    · replace h := ite_f h c2
      refine WT.skip ?_
      refine WT.inBlock ?_
      refine WT.region ?_
      refine WL.q (q_move rfl) rfl rfl rfl ?_
      refine WL.q (q_add rfl rfl) rfl rfl rfl ?_
      refine WL.q (q_assign rfl) rfl rfl rfl ?_
      refine WL.nil ?_
      refine WT.inLoop (WT.mono (l' := [(0, .string p0), (2, .bool false), (3, .int .i64 (IntKind.i64.wrap (s1 + 1)))]) (S' := St w Φ []) ⟨rfl, rfl, rfl, trivial⟩ (fun w1 hw => hw.drop 0) ?_)
      exact ih (IntKind.i64.wrap (s1 + 1)) h
  · replace h := ite_f h c1
    refine WT.exit rfl ?_
    refine WT.seq ?_
    refine WT.region ?_
    refine WL.q (q_move rfl) rfl rfl rfl ?_
    refine WL.q (q_lenS Str_9 rfl rfl) rfl rfl rfl ?_
    refine WL.q (q_leq rfl rfl) rfl rfl rfl ?_
    refine WL.q (q_assign rfl) rfl rfl rfl ?_
    refine WL.nil ?_
    refine WT.ret Try.func139 (resOk.one rfl) (fun w1 hw => ?_)
    cases h
    exact post_of_St hw
theorem m_s_ValOk_ok {Φ : Hp} {w : World} (hΦ : In Φ w) (N : Nat) (p0 : TVal)   {r : Bool} (h : m_s_ValOk N p0 = some r) :
    Calls Try.prog 136 [.agg [.int .i64 p0.K, .int .i64 p0.N, .string p0.S].toArray].toArray w (Post (.bool r) w) := by
  refine enter Try.func136 rfl Try.ntmps136 rfl (St.start hΦ) ?_
  unfold m_s_ValOk at h
  refine WT.seq ?_
  refine WT.region ?_
  refine WL.box (C := #[.int .i64 p0.K, .int .i64 p0.N, .string p0.S]) rfl rfl rfl rfl rfl rfl (fun b_1 => ?_)
  refine WL.q (q_assign rfl) rfl rfl rfl ?_
  refine WL.nil ?_
  refine WT.seq ?_
  refine WT.seq ?_
  refine WT.region ?_
  refine WL.q (q_fieldAddr Fld_100_0 rfl) rfl rfl rfl ?_
  refine WL.q (q_load1 T1_3 rfl (fun w1 hw => hw.rgL (i := 0) rfl 0 1 [.int .i64 p0.K] rfl)) rfl rfl rfl ?_
  refine WL.nil ?_
  refine WT.block ?_
  refine WT.seq ?_
  refine WT.region ?_
  refine WL.q (q_eql rfl rfl) rfl rfl rfl ?_
  refine WL.q (q_assign rfl) rfl rfl rfl ?_
  refine WL.nil ?_
  refine WT.cond rfl (fun c1 => ?_) (fun c1 => ?_)
  · replace h := ite_t h c1
    refine WT.seq ?_
    refine WT.region ?_
    refine WL.q (q_fieldAddr Fld_100_1 rfl) rfl rfl rfl ?_
    refine WL.q (q_load1 T1_3 rfl (fun w1 hw => hw.rgL (i := 0) rfl 1 1 [.int .i64 p0.N] rfl)) rfl rfl rfl ?_
    obtain ⟨x1, hx1, h⟩ := bind_some h
    refine WL.call (c_pure Fun_86 rfl (fun w1 hw => m_s_l1In_ok hw.fro N p0.N (-1000000000) 1000000000 hx1)) rfl rfl rfl (fun _ => ?_)
    refine WL.q (q_move rfl) rfl rfl rfl ?_
    obtain ⟨b1, hb_1, h⟩ := bind_some h
    refine WL.cutN 4 [(14, .bool b1), (2, .bool false)] ?_ (fun K => ?_)
    rotate_left
    · refine WL.split (d := 10) rfl (fun c2 => ?_) (fun c2 => ?_)
      · replace hb_1 := ite_t hb_1 c2
        refine WL.yes rfl rfl ?_
        refine WL.q (q_fieldAddr Fld_100_2 rfl) rfl rfl rfl ?_
        refine WL.yes rfl rfl ?_
        refine WL.q (q_load1 T1_9 rfl (fun w1 hw => hw.rgL (i := 0) rfl 2 1 [.string p0.S] rfl)) rfl rfl rfl ?_
        refine WL.yes rfl rfl ?_
        refine WL.q (q_seq rfl rfl) rfl rfl rfl ?_
        refine WL.q (q_pick1 rfl rfl) rfl rfl rfl ?_
        cases hb_1
        exact WL.keep (by exact ⟨rfl, rfl, trivial⟩) K
      · replace hb_1 := ite_f hb_1 c2
        refine WL.no rfl rfl rfl rfl ?_
        refine WL.no rfl rfl rfl rfl ?_
        refine WL.no rfl rfl rfl rfl ?_
        refine WL.q (q_pick0 rfl rfl) rfl rfl rfl ?_
        cases hb_1
        exact WL.keep (by exact ⟨rfl, rfl, trivial⟩) K
    refine WL.q (q_assign rfl) rfl rfl rfl ?_
    refine WL.nil ?_
    refine WT.ret Try.func136 (resOk.one rfl) (fun w1 hw => ?_)
    cases h
    exact post_of_St hw
  · replace h := ite_f h c1
    refine WT.seq ?_
    refine WT.region ?_
    refine WL.q (q_eql rfl rfl) rfl rfl rfl ?_
    refine WL.q (q_assign rfl) rfl rfl rfl ?_
    refine WL.nil ?_
    refine WT.cond rfl (fun c3 => ?_) (fun c3 => ?_)
    · replace h := ite_t h c3
      refine WT.seq ?_
      refine WT.region ?_
      refine WL.q (q_fieldAddr Fld_100_2 rfl) rfl rfl rfl ?_
      refine WL.q (q_load1 T1_9 rfl (fun w1 hw => hw.rgL (i := 0) rfl 2 1 [.string p0.S] rfl)) rfl rfl rfl ?_
      obtain ⟨x2, hx2, h⟩ := bind_some h
      refine WL.call (c_pure Fun_139 rfl (fun w1 hw => m_s_l2Plain_ok hw.fro N p0.S hx2)) rfl rfl rfl (fun _ => ?_)
      refine WL.q (q_move rfl) rfl rfl rfl ?_
      obtain ⟨b2, hb_2, h⟩ := bind_some h
      refine WL.cutN 4 [(24, .bool b2), (2, .bool false)] ?_ (fun K => ?_)
      rotate_left
      · refine WL.split (d := 20) rfl (fun c4 => ?_) (fun c4 => ?_)
        · replace hb_2 := ite_t hb_2 c4
          refine WL.yes rfl rfl ?_
          refine WL.q (q_fieldAddr Fld_100_1 rfl) rfl rfl rfl ?_
          refine WL.yes rfl rfl ?_
          refine WL.q (q_load1 T1_3 rfl (fun w1 hw => hw.rgL (i := 0) rfl 1 1 [.int .i64 p0.N] rfl)) rfl rfl rfl ?_
          refine WL.yes rfl rfl ?_
          refine WL.q (q_eql rfl rfl) rfl rfl rfl ?_
          refine WL.q (q_pick1 rfl rfl) rfl rfl rfl ?_
          cases hb_2
          exact WL.keep (by exact ⟨rfl, rfl, trivial⟩) K
        · replace hb_2 := ite_f hb_2 c4
          refine WL.no rfl rfl rfl rfl ?_
          refine WL.no rfl rfl rfl rfl ?_
          refine WL.no rfl rfl rfl rfl ?_
          refine WL.q (q_pick0 rfl rfl) rfl rfl rfl ?_
          cases hb_2
          exact WL.keep (by exact ⟨rfl, rfl, trivial⟩) K
      refine WL.q (q_assign rfl) rfl rfl rfl ?_
      refine WL.nil ?_
      refine WT.ret Try.func136 (resOk.one rfl) (fun w1 hw => ?_)
      cases h
      exact post_of_St hw
    · replace h := ite_f h c3
      refine WT.skip ?_
      refine WT.inBlock ?_
      refine WT.seq ?_
      refine WT.region ?_
      refine WL.q (q_assign rfl) rfl rfl rfl ?_
      refine WL.nil ?_
      refine WT.ret Try.func136 (resOk.one rfl) (fun w1 hw => ?_)
      cases h
      exact post_of_St hw
theorem m_s_l3Vals_ok {Φ : Hp} {w : World} (hΦ : In Φ w) (N : Nat) (p0 : (List TVal)) {pv0 : Value} {pG0 : List Nat} (ph0 : RSl RTVal 3 Φ pG0 pv0 p0) {r : Bool} (h : m_s_l3Vals N p0 = some r) :
    Calls Try.prog 124 [pv0].toArray w (Post (.bool r) w) := by
  refine enter Try.func124 rfl Try.ntmps124 rfl (St.start hΦ) ?_
  unfold m_s_l3Vals at h
  refine WT.seq ?_
  refine WT.region ?_
  refine WL.q (q_assign rfl) rfl rfl rfl ?_
  refine WL.nil ?_
  refine WT.seq ?_
  refine WT.seq ?_
  refine WT.region ?_
  refine WL.q (q_assign rfl) rfl rfl rfl ?_
  refine WL.nil ?_
  refine WT.block ?_
  refine WT.loop ?_
  refine WT.keep [(0, pv0), (2, .bool false), (3, .int .i64 0)] ⟨rfl, rfl, rfl, trivial⟩ ?_
  refine loop_ind (σ := Int) (fun s => [(0, pv0), (2, .bool false), (3, .int .i64 s)]) (fun s => St w Φ []) (fun m s => m_s_l3Vals_l1 N p0 m s = some r) (fun s hm => none_ne (show (none : Option (Bool)) = some r from hm)) (fun k ih s hm => ?_) N (0) h
  revert hm; revert s; intro s1 hm
  have h : m_s_l3Vals_l1 N p0 (k + 1) s1 = some r := hm
  show WT _ _ [(0, pv0), (2, .bool false), (3, .int .i64 s1)] (St w Φ [])
  unfold m_s_l3Vals_l1 at h
  refine WT.seq ?_
  refine WT.seq ?_
  refine WT.region ?_
  refine WL.q (q_move rfl) rfl rfl rfl ?_
  refine WL.q (q_move rfl) rfl rfl rfl ?_
  refine WL.q (q_lenR Sl_44 rfl rfl ph0) rfl rfl rfl ?_
  refine WL.q (q_lss rfl rfl) rfl rfl rfl ?_
  refine WL.nil ?_
  refine WT.cond rfl (fun c1 => ?_) (fun c1 => ?_)
  · replace h := ite_t h c1
    refine WT.skip ?_
    refine WT.seq ?_
    refine WT.block ?_
    refine WT.seq ?_
    refine WT.region ?_
    refine WL.q (q_move rfl) rfl rfl rfl ?_
    refine WL.q (q_move rfl) rfl rfl rfl ?_
    obtain ⟨x1, hx1, h⟩ := bind_some h
    obtain ⟨cs1, F1, -, g1, r1⟩ := ph0.el (idx_some hx1).2.2
    obtain ⟨rfl, -⟩ := r1
    refine WL.q (q_indexAddr Sl_44 rfl rfl ph0 hx1) rfl rfl rfl ?_
    refine WL.q (q_loadN Tn_100 rfl (fun w1 hw => (g1.of_eq 0 3 rfl rfl : rg _ _ _ [.int .i64 x1.K, .int .i64 x1.N, .string x1.S]).rangeAt hw.fro) rfl) rfl rfl rfl ?_
    obtain ⟨x2, hx2, h⟩ := bind_some h
    refine WL.call (c_pure Fun_136 rfl (fun w1 hw => m_s_ValOk_ok hw.fro N x1 hx2)) rfl rfl rfl (fun _ => ?_)
    refine WL.q (q_not rfl) rfl rfl rfl ?_
    refine WL.nil ?_
    refine WT.cond rfl (fun c2 => ?_) (fun c2 => ?_)
    · replace h := ite_t h c2
      refine WT.seq ?_
      refine WT.region ?_
      refine WL.q (q_assign rfl) rfl rfl rfl ?_
      refine WL.nil ?_
      refine WT.ret Try.func124 (resOk.one rfl) (fun w1 hw => ?_)
      cases h
      exact post_of_St hw
    · replace h := ite_f h c2
      refine WT.skip ?_
      refine WT.inBlock ?_
      refine WT.region ?_
      refine WL.q (q_move rfl) rfl rfl rfl ?_
      refine WL.q (q_add rfl rfl) rfl rfl rfl ?_
      refine WL.q (q_assign rfl) rfl rfl rfl ?_
      refine WL.nil ?_
      refine WT.inLoop (WT.mono (l' := [(0, pv0), (2, .bool false), (3, .int .i64 (IntKind.i64.wrap (s1 + 1)))]) (S' := St w Φ []) ⟨rfl, rfl, rfl, trivial⟩ (fun w1 hw => hw.drop 0) ?_)
      exact ih (IntKind.i64.wrap (s1 + 1)) h
  · replace h := ite_f h c1
    refine WT.exit rfl ?_
    refine WT.seq ?_
    refine WT.region ?_
    refine WL.q (q_move rfl) rfl rfl rfl ?_
    refine WL.q (q_lenR Sl_44 rfl rfl ph0) rfl rfl rfl ?_
    refine WL.q (q_leq rfl rfl) rfl rfl rfl ?_
    refine WL.q (q_assign rfl) rfl rfl rfl ?_
    refine WL.nil ?_
    refine WT.ret Try.func124 (resOk.one rfl) (fun w1 hw => ?_)
    cases h
    exact post_of_St hw
theorem m_s_FactOk_ok {Φ : Hp} {w : World} (hΦ : In Φ w) (N : Nat) (p0 : TFact) {pv0_0 : Value} {pG0_0 : List Nat} (ph0_0 : RSl RTVal 3 Φ pG0_0 pv0_0 p0.Fields) {r : Bool} (h : m_s_FactOk N p0 = some r) :
    Calls Try.prog 90 [.agg [.string p0.Kind, pv0_0].toArray].toArray w (Post (.bool r) w) := by
  refine enter Try.func90 rfl Try.ntmps90 rfl (St.start hΦ) ?_
  unfold m_s_FactOk at h
  refine WT.seq ?_
  refine WT.region ?_
  refine WL.box (C := #[.string p0.Kind, pv0_0]) rfl rfl rfl rfl rfl rfl (fun b_1 => ?_)
  refine WL.q (q_assign rfl) rfl rfl rfl ?_
  refine WL.nil ?_
  refine WT.seq ?_
  refine WT.region ?_
  refine WL.q (q_fieldAddr Fld_60_0 rfl) rfl rfl rfl ?_
  refine WL.q (q_load1 T1_9 rfl (fun w1 hw => hw.rgL (i := 0) rfl 0 1 [.string p0.Kind] rfl)) rfl rfl rfl ?_
  obtain ⟨x1, hx1, h⟩ := bind_some h
  refine WL.call (c_pure Fun_91 rfl (fun w1 hw => m_s_NameOk_ok hw.fro N p0.Kind hx1)) rfl rfl rfl (fun _ => ?_)
  refine WL.q (q_move rfl) rfl rfl rfl ?_
  obtain ⟨b1, hb_1, h⟩ := bind_some h
  refine WL.cutN 4 [(10, .bool b1), (2, .bool false)] ?_ (fun K => ?_)
  rotate_left
  · refine WL.split (d := 6) rfl (fun c1 => ?_) (fun c1 => ?_)
    · replace hb_1 := ite_t hb_1 c1
      refine WL.yes rfl rfl ?_
      refine WL.q (q_fieldAddr Fld_60_1 rfl) rfl rfl rfl ?_
      refine WL.yes rfl rfl ?_
      refine WL.q (q_load1 T1_44 rfl (fun w1 hw => hw.rgL (i := 0) rfl 1 1 [pv0_0] rfl)) rfl rfl rfl ?_
      refine WL.yes rfl rfl ?_
      obtain ⟨x2, hx2, hb_1⟩ := bind_some hb_1
      refine WL.call (c_pure Fun_124 rfl (fun w1 hw => m_s_l3Vals_ok hw.fro N p0.Fields ph0_0 hx2)) rfl rfl rfl (fun _ => ?_)
      refine WL.q (q_pick1 rfl rfl) rfl rfl rfl ?_
      cases hb_1
      exact WL.keep (by exact ⟨rfl, rfl, trivial⟩) K
    · replace hb_1 := ite_f hb_1 c1
      refine WL.no rfl rfl rfl rfl ?_
      refine WL.no rfl rfl rfl rfl ?_
      refine WL.no rfl rfl rfl rfl ?_
      refine WL.q (q_pick0 rfl rfl) rfl rfl rfl ?_
      cases hb_1
      exact WL.keep (by exact ⟨rfl, rfl, trivial⟩) K
  refine WL.q (q_assign rfl) rfl rfl rfl ?_
  refine WL.nil ?_
  refine WT.ret Try.func90 (resOk.one rfl) (fun w1 hw => ?_)
  cases h
  exact post_of_St hw
theorem m_s_EffectOk_ok {Φ : Hp} {w : World} (hΦ : In Φ w) (N : Nat) (p0 : TEffect) {pv0_0 : Value} {pG0_0 : List Nat} (ph0_0 : RSl RTVal 3 Φ pG0_0 pv0_0 p0.F.Fields) {r : Bool} (h : m_s_EffectOk N p0 = some r) :
    Calls Try.prog 45 [.agg [.int .i64 p0.Kind, .string p0.F.Kind, pv0_0, .int .i64 p0.Id, .int .i64 p0.N, .string p0.Undo].toArray].toArray w (Post (.bool r) w) := by
  refine enter Try.func45 rfl Try.ntmps45 rfl (St.start hΦ) ?_
  unfold m_s_EffectOk at h
  refine WT.seq ?_
  refine WT.region ?_
  refine WL.box (C := #[.int .i64 p0.Kind, .string p0.F.Kind, pv0_0, .int .i64 p0.Id, .int .i64 p0.N, .string p0.Undo]) rfl rfl rfl rfl rfl rfl (fun b_1 => ?_)
  refine WL.q (q_assign rfl) rfl rfl rfl ?_
  refine WL.nil ?_
  refine WT.seq ?_
  refine WT.region ?_
  refine WL.q (q_fieldAddr Fld_75_1 rfl) rfl rfl rfl ?_
  refine WL.q (q_fieldAddr Fld_60_0 rfl) rfl rfl rfl ?_
  refine WL.q (q_load1 T1_9 rfl (fun w1 hw => hw.rgL (i := 0) rfl 1 1 [.string p0.F.Kind] rfl)) rfl rfl rfl ?_
  refine WL.q (q_seq rfl rfl) rfl rfl rfl ?_
  refine WL.q (q_move rfl) rfl rfl rfl ?_
  obtain ⟨b1, hb_1, h⟩ := bind_some h
  refine WL.cutN 6 [(14, .bool b1), (1, .pointer (some ⟨b_1, 0, none⟩)), (2, .bool false)] ?_ (fun K => ?_)
  rotate_left
  · refine WL.split (d := 8) rfl (fun c1 => ?_) (fun c1 => ?_)
    · replace hb_1 := ite_t hb_1 c1
      refine WL.yes rfl rfl ?_
      refine WL.q (q_fieldAddr Fld_75_1 rfl) rfl rfl rfl ?_
      refine WL.yes rfl rfl ?_
      refine WL.q (q_fieldAddr Fld_60_1 rfl) rfl rfl rfl ?_
      refine WL.yes rfl rfl ?_
      refine WL.q (q_load1 T1_44 rfl (fun w1 hw => hw.rgL (i := 0) rfl 2 1 [pv0_0] rfl)) rfl rfl rfl ?_
      refine WL.yes rfl rfl ?_
      refine WL.q (q_lenR Sl_44 rfl rfl ph0_0) rfl rfl rfl ?_
      refine WL.yes rfl rfl ?_
      refine WL.q (q_eql rfl rfl) rfl rfl rfl ?_
      refine WL.q (q_pick1 rfl rfl) rfl rfl rfl ?_
      cases hb_1
      exact WL.keep (by exact ⟨rfl, rfl, rfl, trivial⟩) K
    · replace hb_1 := ite_f hb_1 c1
      refine WL.no rfl rfl rfl rfl ?_
      refine WL.no rfl rfl rfl rfl ?_
      refine WL.no rfl rfl rfl rfl ?_
      refine WL.no rfl rfl rfl rfl ?_
      refine WL.no rfl rfl rfl rfl ?_
      refine WL.q (q_pick0 rfl rfl) rfl rfl rfl ?_
      cases hb_1
      exact WL.keep (by exact ⟨rfl, rfl, rfl, trivial⟩) K
  refine WL.q (q_assign rfl) rfl rfl rfl ?_
  refine WL.nil ?_
  refine WT.seq ?_
  refine WT.seq ?_
  refine WT.region ?_
  refine WL.q (q_fieldAddr Fld_75_0 rfl) rfl rfl rfl ?_
  refine WL.q (q_load1 T1_3 rfl (fun w1 hw => hw.rgL (i := 0) rfl 0 1 [.int .i64 p0.Kind] rfl)) rfl rfl rfl ?_
  refine WL.nil ?_
  refine WT.block ?_
  refine WT.seq ?_
  refine WT.region ?_
  refine WL.q (q_eql rfl rfl) rfl rfl rfl ?_
  refine WL.q (q_assign rfl) rfl rfl rfl ?_
  refine WL.nil ?_
  refine WT.cond rfl (fun c2 => ?_) (fun c2 => ?_)
  · replace h := ite_t h c2
    refine WT.seq ?_
    refine WT.region ?_
    refine WL.q (q_fieldAddr Fld_75_1 rfl) rfl rfl rfl ?_
    refine WL.q (q_loadN Tn_60 rfl (fun w1 hw => hw.rgL (i := 0) rfl 1 2 [.string p0.F.Kind, pv0_0] rfl) rfl) rfl rfl rfl ?_
    obtain ⟨x1, hx1, h⟩ := bind_some h
    refine WL.call (c_pure Fun_90 rfl (fun w1 hw => m_s_FactOk_ok hw.fro N p0.F ph0_0 hx1)) rfl rfl rfl (fun _ => ?_)
    refine WL.q (q_move rfl) rfl rfl rfl ?_
    obtain ⟨b2, hb_2, h⟩ := bind_some h
    refine WL.cutN 4 [(26, .bool b2), (1, .pointer (some ⟨b_1, 0, none⟩)), (2, .bool false)] ?_ (fun K => ?_)
    rotate_left
    · refine WL.split (d := 22) rfl (fun c3 => ?_) (fun c3 => ?_)
      · replace hb_2 := ite_t hb_2 c3
        refine WL.yes rfl rfl ?_
        refine WL.q (q_fieldAddr Fld_75_2 rfl) rfl rfl rfl ?_
        refine WL.yes rfl rfl ?_
        refine WL.q (q_load1 T1_3 rfl (fun w1 hw => hw.rgL (i := 0) rfl 3 1 [.int .i64 p0.Id] rfl)) rfl rfl rfl ?_
        refine WL.yes rfl rfl ?_
        refine WL.q (q_eql rfl rfl) rfl rfl rfl ?_
        refine WL.q (q_pick1 rfl rfl) rfl rfl rfl ?_
        cases hb_2
        exact WL.keep (by exact ⟨rfl, rfl, rfl, trivial⟩) K
      · replace hb_2 := ite_f hb_2 c3
        refine WL.no rfl rfl rfl rfl ?_
        refine WL.no rfl rfl rfl rfl ?_
        refine WL.no rfl rfl rfl rfl ?_
        refine WL.q (q_pick0 rfl rfl) rfl rfl rfl ?_
        cases hb_2
        exact WL.keep (by exact ⟨rfl, rfl, rfl, trivial⟩) K
    refine WL.q (q_move rfl) rfl rfl rfl ?_
    obtain ⟨b3, hb_3, h⟩ := bind_some h
    refine WL.cutN 4 [(31, .bool b3), (1, .pointer (some ⟨b_1, 0, none⟩)), (2, .bool false)] ?_ (fun K => ?_)
    rotate_left
    · refine WL.split (d := 27) rfl (fun c4 => ?_) (fun c4 => ?_)
      · replace hb_3 := ite_t hb_3 c4
        refine WL.yes rfl rfl ?_
        refine WL.q (q_fieldAddr Fld_75_3 rfl) rfl rfl rfl ?_
        refine WL.yes rfl rfl ?_
        refine WL.q (q_load1 T1_3 rfl (fun w1 hw => hw.rgL (i := 0) rfl 4 1 [.int .i64 p0.N] rfl)) rfl rfl rfl ?_
        refine WL.yes rfl rfl ?_
        refine WL.q (q_eql rfl rfl) rfl rfl rfl ?_
        refine WL.q (q_pick1 rfl rfl) rfl rfl rfl ?_
        cases hb_3
        exact WL.keep (by exact ⟨rfl, rfl, rfl, trivial⟩) K
      · replace hb_3 := ite_f hb_3 c4
        refine WL.no rfl rfl rfl rfl ?_
        refine WL.no rfl rfl rfl rfl ?_
        refine WL.no rfl rfl rfl rfl ?_
        refine WL.q (q_pick0 rfl rfl) rfl rfl rfl ?_
        cases hb_3
        exact WL.keep (by exact ⟨rfl, rfl, rfl, trivial⟩) K
    refine WL.q (q_move rfl) rfl rfl rfl ?_
    obtain ⟨b4, hb_4, h⟩ := bind_some h
    refine WL.cutN 4 [(36, .bool b4), (2, .bool false)] ?_ (fun K => ?_)
    rotate_left
    · refine WL.split (d := 32) rfl (fun c5 => ?_) (fun c5 => ?_)
      · replace hb_4 := ite_t hb_4 c5
        refine WL.yes rfl rfl ?_
        refine WL.q (q_fieldAddr Fld_75_4 rfl) rfl rfl rfl ?_
        refine WL.yes rfl rfl ?_
        refine WL.q (q_load1 T1_9 rfl (fun w1 hw => hw.rgL (i := 0) rfl 5 1 [.string p0.Undo] rfl)) rfl rfl rfl ?_
        refine WL.yes rfl rfl ?_
        refine WL.q (q_seq rfl rfl) rfl rfl rfl ?_
        refine WL.q (q_pick1 rfl rfl) rfl rfl rfl ?_
        cases hb_4
        exact WL.keep (by exact ⟨rfl, rfl, trivial⟩) K
      · replace hb_4 := ite_f hb_4 c5
        refine WL.no rfl rfl rfl rfl ?_
        refine WL.no rfl rfl rfl rfl ?_
        refine WL.no rfl rfl rfl rfl ?_
        refine WL.q (q_pick0 rfl rfl) rfl rfl rfl ?_
        cases hb_4
        exact WL.keep (by exact ⟨rfl, rfl, trivial⟩) K
    refine WL.q (q_assign rfl) rfl rfl rfl ?_
    refine WL.nil ?_
    refine WT.ret Try.func45 (resOk.one rfl) (fun w1 hw => ?_)
    cases h
    exact post_of_St hw
  · replace h := ite_f h c2
    refine WT.seq ?_
    refine WT.region ?_
    refine WL.q (q_eql rfl rfl) rfl rfl rfl ?_
    refine WL.q (q_assign rfl) rfl rfl rfl ?_
    refine WL.nil ?_
    refine WT.cond rfl (fun c6 => ?_) (fun c6 => ?_)
    · replace h := ite_t h c6
      refine WT.seq ?_
      refine WT.region ?_
      refine WL.q (q_fieldAddr Fld_75_1 rfl) rfl rfl rfl ?_
      refine WL.q (q_loadN Tn_60 rfl (fun w1 hw => hw.rgL (i := 0) rfl 1 2 [.string p0.F.Kind, pv0_0] rfl) rfl) rfl rfl rfl ?_
      obtain ⟨x2, hx2, h⟩ := bind_some h
      refine WL.call (c_pure Fun_90 rfl (fun w1 hw => m_s_FactOk_ok hw.fro N p0.F ph0_0 hx2)) rfl rfl rfl (fun _ => ?_)
      refine WL.q (q_move rfl) rfl rfl rfl ?_
      obtain ⟨b5, hb_5, h⟩ := bind_some h
      refine WL.cutN 4 [(46, .bool b5), (1, .pointer (some ⟨b_1, 0, none⟩)), (2, .bool false)] ?_ (fun K => ?_)
      rotate_left
      · refine WL.split (d := 42) rfl (fun c7 => ?_) (fun c7 => ?_)
        · replace hb_5 := ite_t hb_5 c7
          refine WL.yes rfl rfl ?_
          refine WL.q (q_fieldAddr Fld_75_2 rfl) rfl rfl rfl ?_
          refine WL.yes rfl rfl ?_
          refine WL.q (q_load1 T1_3 rfl (fun w1 hw => hw.rgL (i := 0) rfl 3 1 [.int .i64 p0.Id] rfl)) rfl rfl rfl ?_
          refine WL.yes rfl rfl ?_
          refine WL.q (q_eql rfl rfl) rfl rfl rfl ?_
          refine WL.q (q_pick1 rfl rfl) rfl rfl rfl ?_
          cases hb_5
          exact WL.keep (by exact ⟨rfl, rfl, rfl, trivial⟩) K
        · replace hb_5 := ite_f hb_5 c7
          refine WL.no rfl rfl rfl rfl ?_
          refine WL.no rfl rfl rfl rfl ?_
          refine WL.no rfl rfl rfl rfl ?_
          refine WL.q (q_pick0 rfl rfl) rfl rfl rfl ?_
          cases hb_5
          exact WL.keep (by exact ⟨rfl, rfl, rfl, trivial⟩) K
      refine WL.q (q_move rfl) rfl rfl rfl ?_
      obtain ⟨b6, hb_6, h⟩ := bind_some h
      refine WL.cutN 4 [(51, .bool b6), (1, .pointer (some ⟨b_1, 0, none⟩)), (2, .bool false)] ?_ (fun K => ?_)
      rotate_left
      · refine WL.split (d := 47) rfl (fun c8 => ?_) (fun c8 => ?_)
        · replace hb_6 := ite_t hb_6 c8
          refine WL.yes rfl rfl ?_
          refine WL.q (q_fieldAddr Fld_75_3 rfl) rfl rfl rfl ?_
          refine WL.yes rfl rfl ?_
          refine WL.q (q_load1 T1_3 rfl (fun w1 hw => hw.rgL (i := 0) rfl 4 1 [.int .i64 p0.N] rfl)) rfl rfl rfl ?_
          refine WL.yes rfl rfl ?_
          refine WL.q (q_eql rfl rfl) rfl rfl rfl ?_
          refine WL.q (q_pick1 rfl rfl) rfl rfl rfl ?_
          cases hb_6
          exact WL.keep (by exact ⟨rfl, rfl, rfl, trivial⟩) K
        · replace hb_6 := ite_f hb_6 c8
          refine WL.no rfl rfl rfl rfl ?_
          refine WL.no rfl rfl rfl rfl ?_
          refine WL.no rfl rfl rfl rfl ?_
          refine WL.q (q_pick0 rfl rfl) rfl rfl rfl ?_
          cases hb_6
          exact WL.keep (by exact ⟨rfl, rfl, rfl, trivial⟩) K
      refine WL.q (q_move rfl) rfl rfl rfl ?_
      obtain ⟨b7, hb_7, h⟩ := bind_some h
      refine WL.cutN 9 [(61, .bool b7), (2, .bool false)] ?_ (fun K => ?_)
      rotate_left
      · refine WL.split (d := 52) rfl (fun c9 => ?_) (fun c9 => ?_)
        · replace hb_7 := ite_t hb_7 c9
          refine WL.yes rfl rfl ?_
          refine WL.q (q_fieldAddr Fld_75_4 rfl) rfl rfl rfl ?_
          refine WL.yes rfl rfl ?_
          refine WL.q (q_load1 T1_9 rfl (fun w1 hw => hw.rgL (i := 0) rfl 5 1 [.string p0.Undo] rfl)) rfl rfl rfl ?_
          refine WL.yes rfl rfl ?_
          refine WL.q (q_seq rfl rfl) rfl rfl rfl ?_
          refine WL.yes rfl rfl ?_
          refine WL.q (q_move rfl) rfl rfl rfl ?_
          obtain ⟨b8, hb_8, hb_7⟩ := bind_some hb_7
          refine WL.cutN 4 [(60, .bool b8), (2, .bool false), (52, .bool true)] ?_ (fun K => ?_)
          rotate_left
          · refine WL.split (d := 56) rfl (fun c10 => ?_) (fun c10 => ?_)
            · replace hb_8 := ite_t hb_8 c10
              refine WL.no rfl rfl rfl rfl ?_
              refine WL.no rfl rfl rfl rfl ?_
              refine WL.no rfl rfl rfl rfl ?_
              refine WL.yes rfl rfl ?_
              refine WL.q (q_pick1 rfl rfl) rfl rfl rfl ?_
              cases hb_8
              exact WL.keep (by exact ⟨rfl, rfl, rfl, trivial⟩) K
            · replace hb_8 := ite_f hb_8 c10
              refine WL.yes rfl rfl ?_
              refine WL.q (q_fieldAddr Fld_75_4 rfl) rfl rfl rfl ?_
              refine WL.yes rfl rfl ?_
              refine WL.q (q_load1 T1_9 rfl (fun w1 hw => hw.rgL (i := 0) rfl 5 1 [.string p0.Undo] rfl)) rfl rfl rfl ?_
              refine WL.yes rfl rfl ?_
              obtain ⟨x3, hx3, hb_8⟩ := bind_some hb_8
              refine WL.call (c_pure Fun_91 rfl (fun w1 hw => m_s_NameOk_ok hw.fro N p0.Undo hx3)) rfl rfl rfl (fun _ => ?_)
              refine WL.yes rfl rfl ?_
              refine WL.q (q_pick0 rfl rfl) rfl rfl rfl ?_
              cases hb_8
              exact WL.keep (by exact ⟨rfl, rfl, rfl, trivial⟩) K
          refine WL.q (q_pick1 rfl rfl) rfl rfl rfl ?_
          cases hb_7
          exact WL.keep (by exact ⟨rfl, rfl, trivial⟩) K
        · replace hb_7 := ite_f hb_7 c9
          refine WL.no rfl rfl rfl rfl ?_
          refine WL.no rfl rfl rfl rfl ?_
          refine WL.no rfl rfl rfl rfl ?_
          refine WL.no rfl rfl rfl rfl ?_
          refine WL.nox rfl rfl rfl rfl ?_
          refine WL.nox rfl rfl rfl rfl ?_
          refine WL.nox rfl rfl rfl rfl ?_
          refine WL.no rfl rfl rfl rfl ?_
          refine WL.q (q_pick0 rfl rfl) rfl rfl rfl ?_
          cases hb_7
          exact WL.keep (by exact ⟨rfl, rfl, trivial⟩) K
      refine WL.q (q_assign rfl) rfl rfl rfl ?_
      refine WL.nil ?_
      refine WT.ret Try.func45 (resOk.one rfl) (fun w1 hw => ?_)
      cases h
      exact post_of_St hw
    · replace h := ite_f h c6
      refine WT.seq ?_
      refine WT.region ?_
      refine WL.q (q_eql rfl rfl) rfl rfl rfl ?_
      refine WL.q (q_assign rfl) rfl rfl rfl ?_
      refine WL.nil ?_
      refine WT.cond rfl (fun c11 => ?_) (fun c11 => ?_)
      · replace h := ite_t h c11
        refine WT.seq ?_
        refine WT.region ?_
        refine WL.q (q_fieldAddr Fld_75_1 rfl) rfl rfl rfl ?_
        refine WL.q (q_loadN Tn_60 rfl (fun w1 hw => hw.rgL (i := 0) rfl 1 2 [.string p0.F.Kind, pv0_0] rfl) rfl) rfl rfl rfl ?_
        obtain ⟨x4, hx4, h⟩ := bind_some h
        refine WL.call (c_pure Fun_90 rfl (fun w1 hw => m_s_FactOk_ok hw.fro N p0.F ph0_0 hx4)) rfl rfl rfl (fun _ => ?_)
        refine WL.q (q_move rfl) rfl rfl rfl ?_
        obtain ⟨b9, hb_9, h⟩ := bind_some h
        refine WL.cutN 4 [(71, .bool b9), (1, .pointer (some ⟨b_1, 0, none⟩)), (2, .bool false)] ?_ (fun K => ?_)
        rotate_left
        · refine WL.split (d := 67) rfl (fun c12 => ?_) (fun c12 => ?_)
          · replace hb_9 := ite_t hb_9 c12
            refine WL.yes rfl rfl ?_
            refine WL.q (q_fieldAddr Fld_75_2 rfl) rfl rfl rfl ?_
            refine WL.yes rfl rfl ?_
            refine WL.q (q_load1 T1_3 rfl (fun w1 hw => hw.rgL (i := 0) rfl 3 1 [.int .i64 p0.Id] rfl)) rfl rfl rfl ?_
            refine WL.yes rfl rfl ?_
            refine WL.q (q_eql rfl rfl) rfl rfl rfl ?_
            refine WL.q (q_pick1 rfl rfl) rfl rfl rfl ?_
            cases hb_9
            exact WL.keep (by exact ⟨rfl, rfl, rfl, trivial⟩) K
          · replace hb_9 := ite_f hb_9 c12
            refine WL.no rfl rfl rfl rfl ?_
            refine WL.no rfl rfl rfl rfl ?_
            refine WL.no rfl rfl rfl rfl ?_
            refine WL.q (q_pick0 rfl rfl) rfl rfl rfl ?_
            cases hb_9
            exact WL.keep (by exact ⟨rfl, rfl, rfl, trivial⟩) K
        refine WL.q (q_move rfl) rfl rfl rfl ?_
        obtain ⟨b10, hb_10, h⟩ := bind_some h
        refine WL.cutN 4 [(76, .bool b10), (1, .pointer (some ⟨b_1, 0, none⟩)), (2, .bool false)] ?_ (fun K => ?_)
        rotate_left
        · refine WL.split (d := 72) rfl (fun c13 => ?_) (fun c13 => ?_)
          · replace hb_10 := ite_t hb_10 c13
            refine WL.yes rfl rfl ?_
            refine WL.q (q_fieldAddr Fld_75_3 rfl) rfl rfl rfl ?_
            refine WL.yes rfl rfl ?_
            refine WL.q (q_load1 T1_3 rfl (fun w1 hw => hw.rgL (i := 0) rfl 4 1 [.int .i64 p0.N] rfl)) rfl rfl rfl ?_
            refine WL.yes rfl rfl ?_
            obtain ⟨x5, hx5, hb_10⟩ := bind_some hb_10
            refine WL.call (c_pure Fun_86 rfl (fun w1 hw => m_s_l1In_ok hw.fro N p0.N 0 100000 hx5)) rfl rfl rfl (fun _ => ?_)
            refine WL.q (q_pick1 rfl rfl) rfl rfl rfl ?_
            cases hb_10
            exact WL.keep (by exact ⟨rfl, rfl, rfl, trivial⟩) K
          · replace hb_10 := ite_f hb_10 c13
            refine WL.no rfl rfl rfl rfl ?_
            refine WL.no rfl rfl rfl rfl ?_
            refine WL.no rfl rfl rfl rfl ?_
            refine WL.q (q_pick0 rfl rfl) rfl rfl rfl ?_
            cases hb_10
            exact WL.keep (by exact ⟨rfl, rfl, rfl, trivial⟩) K
        refine WL.q (q_move rfl) rfl rfl rfl ?_
        obtain ⟨b11, hb_11, h⟩ := bind_some h
        refine WL.cutN 4 [(81, .bool b11), (2, .bool false)] ?_ (fun K => ?_)
        rotate_left
        · refine WL.split (d := 77) rfl (fun c14 => ?_) (fun c14 => ?_)
          · replace hb_11 := ite_t hb_11 c14
            refine WL.yes rfl rfl ?_
            refine WL.q (q_fieldAddr Fld_75_4 rfl) rfl rfl rfl ?_
            refine WL.yes rfl rfl ?_
            refine WL.q (q_load1 T1_9 rfl (fun w1 hw => hw.rgL (i := 0) rfl 5 1 [.string p0.Undo] rfl)) rfl rfl rfl ?_
            refine WL.yes rfl rfl ?_
            refine WL.q (q_seq rfl rfl) rfl rfl rfl ?_
            refine WL.q (q_pick1 rfl rfl) rfl rfl rfl ?_
            cases hb_11
            exact WL.keep (by exact ⟨rfl, rfl, trivial⟩) K
          · replace hb_11 := ite_f hb_11 c14
            refine WL.no rfl rfl rfl rfl ?_
            refine WL.no rfl rfl rfl rfl ?_
            refine WL.no rfl rfl rfl rfl ?_
            refine WL.q (q_pick0 rfl rfl) rfl rfl rfl ?_
            cases hb_11
            exact WL.keep (by exact ⟨rfl, rfl, trivial⟩) K
        refine WL.q (q_assign rfl) rfl rfl rfl ?_
        refine WL.nil ?_
        refine WT.ret Try.func45 (resOk.one rfl) (fun w1 hw => ?_)
        cases h
        exact post_of_St hw
      · replace h := ite_f h c11
        refine WT.seq ?_
        refine WT.region ?_
        refine WL.q (q_eql rfl rfl) rfl rfl rfl ?_
        refine WL.q (q_assign rfl) rfl rfl rfl ?_
        refine WL.nil ?_
        refine WT.cond rfl (fun c15 => ?_) (fun c15 => ?_)
        · replace h := ite_t h c15
          refine WT.seq ?_
          refine WT.region ?_
          refine WL.q (q_move rfl) rfl rfl rfl ?_
          refine WL.q (q_move rfl) rfl rfl rfl ?_
          obtain ⟨b12, hb_12, h⟩ := bind_some h
          refine WL.cutN 4 [(89, .bool b12), (1, .pointer (some ⟨b_1, 0, none⟩)), (2, .bool false)] ?_ (fun K => ?_)
          rotate_left
          · refine WL.split (d := 85) rfl (fun c16 => ?_) (fun c16 => ?_)
            · replace hb_12 := ite_t hb_12 c16
              refine WL.yes rfl rfl ?_
              refine WL.q (q_fieldAddr Fld_75_2 rfl) rfl rfl rfl ?_
              refine WL.yes rfl rfl ?_
              refine WL.q (q_load1 T1_3 rfl (fun w1 hw => hw.rgL (i := 0) rfl 3 1 [.int .i64 p0.Id] rfl)) rfl rfl rfl ?_
              refine WL.yes rfl rfl ?_
              refine WL.q (q_geq rfl rfl) rfl rfl rfl ?_
              refine WL.q (q_pick1 rfl rfl) rfl rfl rfl ?_
              cases hb_12
              exact WL.keep (by exact ⟨rfl, rfl, rfl, trivial⟩) K
            · replace hb_12 := ite_f hb_12 c16
              refine WL.no rfl rfl rfl rfl ?_
              refine WL.no rfl rfl rfl rfl ?_
              refine WL.no rfl rfl rfl rfl ?_
              refine WL.q (q_pick0 rfl rfl) rfl rfl rfl ?_
              cases hb_12
              exact WL.keep (by exact ⟨rfl, rfl, rfl, trivial⟩) K
          refine WL.q (q_move rfl) rfl rfl rfl ?_
          obtain ⟨b13, hb_13, h⟩ := bind_some h
          refine WL.cutN 4 [(94, .bool b13), (1, .pointer (some ⟨b_1, 0, none⟩)), (2, .bool false)] ?_ (fun K => ?_)
          rotate_left
          · refine WL.split (d := 90) rfl (fun c17 => ?_) (fun c17 => ?_)
            · replace hb_13 := ite_t hb_13 c17
              refine WL.yes rfl rfl ?_
              refine WL.q (q_fieldAddr Fld_75_3 rfl) rfl rfl rfl ?_
              refine WL.yes rfl rfl ?_
              refine WL.q (q_load1 T1_3 rfl (fun w1 hw => hw.rgL (i := 0) rfl 4 1 [.int .i64 p0.N] rfl)) rfl rfl rfl ?_
              refine WL.yes rfl rfl ?_
              refine WL.q (q_eql rfl rfl) rfl rfl rfl ?_
              refine WL.q (q_pick1 rfl rfl) rfl rfl rfl ?_
              cases hb_13
              exact WL.keep (by exact ⟨rfl, rfl, rfl, trivial⟩) K
            · replace hb_13 := ite_f hb_13 c17
              refine WL.no rfl rfl rfl rfl ?_
              refine WL.no rfl rfl rfl rfl ?_
              refine WL.no rfl rfl rfl rfl ?_
              refine WL.q (q_pick0 rfl rfl) rfl rfl rfl ?_
              cases hb_13
              exact WL.keep (by exact ⟨rfl, rfl, rfl, trivial⟩) K
          refine WL.q (q_move rfl) rfl rfl rfl ?_
          obtain ⟨b14, hb_14, h⟩ := bind_some h
          refine WL.cutN 4 [(99, .bool b14), (2, .bool false)] ?_ (fun K => ?_)
          rotate_left
          · refine WL.split (d := 95) rfl (fun c18 => ?_) (fun c18 => ?_)
            · replace hb_14 := ite_t hb_14 c18
              refine WL.yes rfl rfl ?_
              refine WL.q (q_fieldAddr Fld_75_4 rfl) rfl rfl rfl ?_
              refine WL.yes rfl rfl ?_
              refine WL.q (q_load1 T1_9 rfl (fun w1 hw => hw.rgL (i := 0) rfl 5 1 [.string p0.Undo] rfl)) rfl rfl rfl ?_
              refine WL.yes rfl rfl ?_
              refine WL.q (q_seq rfl rfl) rfl rfl rfl ?_
              refine WL.q (q_pick1 rfl rfl) rfl rfl rfl ?_
              cases hb_14
              exact WL.keep (by exact ⟨rfl, rfl, trivial⟩) K
            · replace hb_14 := ite_f hb_14 c18
              refine WL.no rfl rfl rfl rfl ?_
              refine WL.no rfl rfl rfl rfl ?_
              refine WL.no rfl rfl rfl rfl ?_
              refine WL.q (q_pick0 rfl rfl) rfl rfl rfl ?_
              cases hb_14
              exact WL.keep (by exact ⟨rfl, rfl, trivial⟩) K
          refine WL.q (q_assign rfl) rfl rfl rfl ?_
          refine WL.nil ?_
          refine WT.ret Try.func45 (resOk.one rfl) (fun w1 hw => ?_)
          cases h
          exact post_of_St hw
        · replace h := ite_f h c15
          refine WT.seq ?_
          refine WT.seq ?_
          refine WT.region ?_
          refine WL.q (q_eql rfl rfl) rfl rfl rfl ?_
          refine WL.q (q_assign rfl) rfl rfl rfl ?_
          refine WL.nil ?_
          refine cut (σ := Bool) (fun s => [(1, .pointer (some ⟨b_1, 0, none⟩)), (2, .bool false), (3, .bool b1), (100, .bool s)]) (fun s => St w Φ [Ent.obj b_1 (.cells #[.int .i64 p0.Kind, .string p0.F.Kind, pv0_0, .int .i64 p0.Id, .int .i64 p0.N, .string p0.Undo] 75 (0, 0))]) (fun s => m_s_EffectOk_j1 N p0 b1 s = some r) (fun s hm => ?_) (fun K => ?_)
          · clear h
            revert hm; revert s; intro s1 hm
            have h : m_s_EffectOk_j1 N p0 b1 s1 = some r := hm
            show WT _ _ [(1, .pointer (some ⟨b_1, 0, none⟩)), (2, .bool false), (3, .bool b1), (100, .bool s1)] (St w Φ [Ent.obj b_1 (.cells #[.int .i64 p0.Kind, .string p0.F.Kind, pv0_0, .int .i64 p0.Id, .int .i64 p0.N, .string p0.Undo] 75 (0, 0))])
            unfold m_s_EffectOk_j1 at h
            refine WT.cond rfl (fun c19 => ?_) (fun c19 => ?_)
            · replace h := ite_t h c19
              refine WT.seq ?_
              refine WT.region ?_
              refine WL.q (q_move rfl) rfl rfl rfl ?_
              refine WL.q (q_move rfl) rfl rfl rfl ?_
              obtain ⟨b15, hb_15, h⟩ := bind_some h
              refine WL.cutN 4 [(108, .bool b15), (1, .pointer (some ⟨b_1, 0, none⟩)), (2, .bool false)] ?_ (fun K => ?_)
              rotate_left
              · refine WL.split (d := 104) rfl (fun c20 => ?_) (fun c20 => ?_)
                · replace hb_15 := ite_t hb_15 c20
                  refine WL.yes rfl rfl ?_
                  refine WL.q (q_fieldAddr Fld_75_2 rfl) rfl rfl rfl ?_
                  refine WL.yes rfl rfl ?_
                  refine WL.q (q_load1 T1_3 rfl (fun w1 hw => hw.rgL (i := 0) rfl 3 1 [.int .i64 p0.Id] rfl)) rfl rfl rfl ?_
                  refine WL.yes rfl rfl ?_
                  refine WL.q (q_eql rfl rfl) rfl rfl rfl ?_
                  refine WL.q (q_pick1 rfl rfl) rfl rfl rfl ?_
                  cases hb_15
                  exact WL.keep (by exact ⟨rfl, rfl, rfl, trivial⟩) K
                · replace hb_15 := ite_f hb_15 c20
                  refine WL.no rfl rfl rfl rfl ?_
                  refine WL.no rfl rfl rfl rfl ?_
                  refine WL.no rfl rfl rfl rfl ?_
                  refine WL.q (q_pick0 rfl rfl) rfl rfl rfl ?_
                  cases hb_15
                  exact WL.keep (by exact ⟨rfl, rfl, rfl, trivial⟩) K
              refine WL.q (q_move rfl) rfl rfl rfl ?_
              obtain ⟨b16, hb_16, h⟩ := bind_some h
              refine WL.cutN 4 [(113, .bool b16), (1, .pointer (some ⟨b_1, 0, none⟩)), (2, .bool false)] ?_ (fun K => ?_)
              rotate_left
              · refine WL.split (d := 109) rfl (fun c21 => ?_) (fun c21 => ?_)
                · replace hb_16 := ite_t hb_16 c21
                  refine WL.yes rfl rfl ?_
                  refine WL.q (q_fieldAddr Fld_75_3 rfl) rfl rfl rfl ?_
                  refine WL.yes rfl rfl ?_
                  refine WL.q (q_load1 T1_3 rfl (fun w1 hw => hw.rgL (i := 0) rfl 4 1 [.int .i64 p0.N] rfl)) rfl rfl rfl ?_
                  refine WL.yes rfl rfl ?_
                  refine WL.q (q_eql rfl rfl) rfl rfl rfl ?_
                  refine WL.q (q_pick1 rfl rfl) rfl rfl rfl ?_
                  cases hb_16
                  exact WL.keep (by exact ⟨rfl, rfl, rfl, trivial⟩) K
                · replace hb_16 := ite_f hb_16 c21
                  refine WL.no rfl rfl rfl rfl ?_
                  refine WL.no rfl rfl rfl rfl ?_
                  refine WL.no rfl rfl rfl rfl ?_
                  refine WL.q (q_pick0 rfl rfl) rfl rfl rfl ?_
                  cases hb_16
                  exact WL.keep (by exact ⟨rfl, rfl, rfl, trivial⟩) K
              refine WL.q (q_move rfl) rfl rfl rfl ?_
              obtain ⟨b17, hb_17, h⟩ := bind_some h
              refine WL.cutN 4 [(118, .bool b17), (2, .bool false)] ?_ (fun K => ?_)
              rotate_left
              · refine WL.split (d := 114) rfl (fun c22 => ?_) (fun c22 => ?_)
                · replace hb_17 := ite_t hb_17 c22
                  refine WL.yes rfl rfl ?_
                  refine WL.q (q_fieldAddr Fld_75_4 rfl) rfl rfl rfl ?_
                  refine WL.yes rfl rfl ?_
                  refine WL.q (q_load1 T1_9 rfl (fun w1 hw => hw.rgL (i := 0) rfl 5 1 [.string p0.Undo] rfl)) rfl rfl rfl ?_
                  refine WL.yes rfl rfl ?_
                  refine WL.q (q_seq rfl rfl) rfl rfl rfl ?_
                  refine WL.q (q_pick1 rfl rfl) rfl rfl rfl ?_
                  cases hb_17
                  exact WL.keep (by exact ⟨rfl, rfl, trivial⟩) K
                · replace hb_17 := ite_f hb_17 c22
                  refine WL.no rfl rfl rfl rfl ?_
                  refine WL.no rfl rfl rfl rfl ?_
                  refine WL.no rfl rfl rfl rfl ?_
                  refine WL.q (q_pick0 rfl rfl) rfl rfl rfl ?_
                  cases hb_17
                  exact WL.keep (by exact ⟨rfl, rfl, trivial⟩) K
              refine WL.q (q_assign rfl) rfl rfl rfl ?_
              refine WL.nil ?_
              refine WT.ret Try.func45 (resOk.one rfl) (fun w1 hw => ?_)
              cases h
              exact post_of_St hw
            · replace h := ite_f h c19
              refine WT.skip ?_
              refine WT.inBlock ?_
              refine WT.seq ?_
              refine WT.region ?_
              refine WL.q (q_assign rfl) rfl rfl rfl ?_
              refine WL.nil ?_
              refine WT.ret Try.func45 (resOk.one rfl) (fun w1 hw => ?_)
              cases h
              exact post_of_St hw
          · skip
            refine WT.cond rfl (fun c23 => ?_) (fun c23 => ?_)
            · replace h := ite_t h c23
              refine WT.skip ?_
              refine WT.mono (l' := [(1, .pointer (some ⟨b_1, 0, none⟩)), (2, .bool false), (3, .bool b1), (100, .bool (decide (p0.Kind = 5)))]) (S' := St w Φ [Ent.obj b_1 (.cells #[.int .i64 p0.Kind, .string p0.F.Kind, pv0_0, .int .i64 p0.Id, .int .i64 p0.N, .string p0.Undo] 75 (0, 0))]) ⟨rfl, rfl, rfl, rfl, trivial⟩ (fun w1 hw => hw.drop 0) ?_
              exact K (decide (p0.Kind = 5)) h
            · replace h := ite_f h c23
              refine WT.region ?_
              refine WL.q (q_eql rfl rfl) rfl rfl rfl ?_
              refine WL.q (q_assign rfl) rfl rfl rfl ?_
              refine WL.nil ?_
              refine WT.mono (l' := [(1, .pointer (some ⟨b_1, 0, none⟩)), (2, .bool false), (3, .bool b1), (100, .bool (decide (p0.Kind = 6)))]) (S' := St w Φ [Ent.obj b_1 (.cells #[.int .i64 p0.Kind, .string p0.F.Kind, pv0_0, .int .i64 p0.Id, .int .i64 p0.N, .string p0.Undo] 75 (0, 0))]) ⟨rfl, rfl, rfl, rfl, trivial⟩ (fun w1 hw => hw.drop 0) ?_
              exact K (decide (p0.Kind = 6)) h
theorem m_l_toEffect_ok {Φ : Hp} {w : World} (hΦ : In Φ w) (N : Nat) (p0 : TEffect) {pv0_0 : Value} {pG0_0 : List Nat} (ph0_0 : RSl RTVal 3 Φ pG0_0 pv0_0 p0.F.Fields) {r : TEffect} (h : m_l_toEffect N p0 = some r) :
    Calls Try.prog 46 [.agg [.int .i64 p0.Kind, .string p0.F.Kind, pv0_0, .int .i64 p0.Id, .int .i64 p0.N, .string p0.Undo].toArray].toArray w (PostL Φ w (fun Φ' F v => ∃ (c0 : List Value) (F0 : List Nat), v = .agg c0.toArray ∧ F = F0 ∧ RTEffect Φ' F0 c0 r)) := by
  refine enter Try.func46 rfl Try.ntmps46 rfl (St.start hΦ) ?_
  unfold m_l_toEffect at h
  have hle := Hle.refl Φ
  have hold : ∀ x, x < w.heap.size → Φ x = Φ x := fun _ _ => rfl
  refine WT.seq ?_
  refine WT.region ?_
  refine WL.box (C := #[.int .i64 p0.Kind, .string p0.F.Kind, pv0_0, .int .i64 p0.Id, .int .i64 p0.N, .string p0.Undo]) rfl rfl rfl rfl rfl rfl (fun b_1 => ?_)
  refine WL.alloc (C := #[.int .i64 0, .string (⟨#[]⟩ : ByteArray), .slice none 0 0, .int .i64 0, .int .i64 0, .string (⟨#[]⟩ : ByteArray)]) rfl rfl rfl rfl Zr_75 rfl (fun b_2 => ?_)
  refine WL.nil ?_
  refine WT.seq ?_
  refine WT.region ?_
  refine WL.alloc (C := #[.int .i64 0, .string (⟨#[]⟩ : ByteArray), .slice none 0 0, .int .i64 0, .int .i64 0, .string (⟨#[]⟩ : ByteArray)]) rfl rfl rfl rfl Zr_75 rfl (fun b_3 => ?_)
  refine WL.nil ?_
  refine WT.seq ?_
  refine WT.region ?_
  refine WL.q (q_fieldAddr Fld_71_0 rfl) rfl rfl rfl ?_
  refine WL.q (q_load1 T1_3 rfl (fun w1 hw => hw.rgL (i := 2) rfl 0 1 [.int .i64 p0.Kind] rfl)) rfl rfl rfl ?_
  refine WL.q (q_fieldAddr Fld_75_0 rfl) rfl rfl rfl ?_
  refine WL.store (i := 0) (vs := [.int .i64 p0.Kind]) (C' := [.int .i64 p0.Kind, .string (⟨#[]⟩ : ByteArray), .slice none 0 0, .int .i64 0, .int .i64 0, .string (⟨#[]⟩ : ByteArray)]) rfl rfl rfl Sz_3 rfl rfl rfl rfl rfl rfl ⟨rfl, trivial⟩ rfl ?_
  refine WL.nil ?_
  refine WT.seq ?_
  refine WT.region ?_
  refine WL.q (q_fieldAddr Fld_71_1 rfl) rfl rfl rfl ?_
  refine WL.q (q_loadN Tn_56 rfl (fun w1 hw => hw.rgL (i := 2) rfl 1 2 [.string p0.F.Kind, pv0_0] rfl) rfl) rfl rfl rfl ?_
  obtain ⟨x1, hx1, h⟩ := bind_some h
  refine WL.callL rfl rfl rfl rfl Fun_35 rfl (fun w1 hw => m_l_toFact_ok hw.fro N p0.F ph0_0 hx1) (fun v1 Φ_1 D1 le1 ho1 qq1 => ?_)
  replace ph0_0 := RSl.mono RTVal.mono le1 ph0_0
  replace hle := hle.trans le1
  replace hold : ∀ x, x < w.heap.size → Φ_1 x = Φ x := fun x hx => (ho1 x hx).trans (hold x hx)
  obtain ⟨cs1, G1, rfl, rfl, h1⟩ := qq1
  obtain ⟨v2, G2, rfl, rfl, h2⟩ := h1
  refine WL.q (q_fieldAddr Fld_75_1 rfl) rfl rfl rfl ?_
  refine WL.store (i := 1) (vs := [.string x1.Kind, v2]) (C' := [.int .i64 p0.Kind, .string x1.Kind, v2, .int .i64 0, .int .i64 0, .string (⟨#[]⟩ : ByteArray)]) rfl rfl rfl Sz_60 rfl rfl rfl rfl rfl rfl ⟨rfl, RSl.one h2, trivial⟩ rfl ?_
  refine WL.nil ?_
  refine WT.seq ?_
  refine WT.region ?_
  refine WL.q (q_fieldAddr Fld_71_2 rfl) rfl rfl rfl ?_
  refine WL.q (q_load1 T1_3 rfl (fun w1 hw => hw.rgL (i := 3) rfl 3 1 [.int .i64 p0.Id] rfl)) rfl rfl rfl ?_
  refine WL.q (q_fieldAddr Fld_75_2 rfl) rfl rfl rfl ?_
  refine WL.store (i := 1) (vs := [.int .i64 p0.Id]) (C' := [.int .i64 p0.Kind, .string x1.Kind, v2, .int .i64 p0.Id, .int .i64 0, .string (⟨#[]⟩ : ByteArray)]) rfl rfl rfl Sz_3 rfl rfl rfl rfl rfl rfl ⟨rfl, trivial⟩ rfl ?_
  refine WL.nil ?_
  refine WT.seq ?_
  refine WT.region ?_
  refine WL.q (q_fieldAddr Fld_71_3 rfl) rfl rfl rfl ?_
  refine WL.q (q_load1 T1_3 rfl (fun w1 hw => hw.rgL (i := 3) rfl 4 1 [.int .i64 p0.N] rfl)) rfl rfl rfl ?_
  refine WL.q (q_fieldAddr Fld_75_3 rfl) rfl rfl rfl ?_
  refine WL.store (i := 1) (vs := [.int .i64 p0.N]) (C' := [.int .i64 p0.Kind, .string x1.Kind, v2, .int .i64 p0.Id, .int .i64 p0.N, .string (⟨#[]⟩ : ByteArray)]) rfl rfl rfl Sz_3 rfl rfl rfl rfl rfl rfl ⟨rfl, trivial⟩ rfl ?_
  refine WL.nil ?_
  refine WT.seq ?_
  refine WT.region ?_
  refine WL.q (q_fieldAddr Fld_71_4 rfl) rfl rfl rfl ?_
  refine WL.q (q_load1 T1_9 rfl (fun w1 hw => hw.rgL (i := 3) rfl 5 1 [.string p0.Undo] rfl)) rfl rfl rfl ?_
  refine WL.q (q_fieldAddr Fld_75_4 rfl) rfl rfl rfl ?_
  refine WL.store (i := 1) (vs := [.string p0.Undo]) (C' := [.int .i64 p0.Kind, .string x1.Kind, v2, .int .i64 p0.Id, .int .i64 p0.N, .string p0.Undo]) rfl rfl rfl Sz_9 rfl rfl rfl rfl rfl rfl ⟨rfl, trivial⟩ rfl ?_
  refine WL.nil ?_
  refine WT.seq ?_
  refine WT.region ?_
  refine WL.q (q_loadN Tn_75 rfl (fun w1 hw => hw.rgL (i := 1) rfl 0 6 [.int .i64 p0.Kind, .string x1.Kind, v2, .int .i64 p0.Id, .int .i64 p0.N, .string p0.Undo] rfl) rfl) rfl rfl rfl ?_
  refine WL.store (i := 2) (vs := [.int .i64 p0.Kind, .string x1.Kind, v2, .int .i64 p0.Id, .int .i64 p0.N, .string p0.Undo]) (C' := [.int .i64 p0.Kind, .string x1.Kind, v2, .int .i64 p0.Id, .int .i64 p0.N, .string p0.Undo]) rfl rfl rfl Sz_75 rfl rfl rfl rfl rfl rfl ⟨rfl, rfl, RSl.one h2, rfl, rfl, rfl, trivial⟩ rfl ?_
  refine WL.nil ?_
  refine WT.ret Try.func46 (resOk.one (rv_cell Tn_75 rfl (fun w1 hw => hw.rgL (i := 2) rfl 0 6 [.int .i64 p0.Kind, .string x1.Kind, v2, .int .i64 p0.Id, .int .i64 p0.N, .string p0.Undo] rfl) rfl)) (fun w1 hw => ?_)
  cases h
  replace hw := hw.front (i := 0) rfl
  replace hw : St w Φ_1 [Ent.dat D1, Ent.obj b_3 (.cells #[.int .i64 p0.Kind, .string x1.Kind, v2, .int .i64 p0.Id, .int .i64 p0.N, .string p0.Undo] 75 (0, 0)), Ent.obj b_2 (.cells #[.int .i64 p0.Kind, .string x1.Kind, v2, .int .i64 p0.Id, .int .i64 p0.N, .string p0.Undo] 75 (0, 0)), Ent.obj b_1 (.cells #[.int .i64 p0.Kind, .string p0.F.Kind, pv0_0, .int .i64 p0.Id, .int .i64 p0.N, .string p0.Undo] 71 (0, 0))] w1 := hw
  refine postL_of_St (F := D1) hw hle hold ?_ ⟨[.int .i64 p0.Kind, .string x1.Kind, v2, .int .i64 p0.Id, .int .i64 p0.N, .string p0.Undo], D1, rfl, rfl, ⟨v2, D1, rfl, rfl, h2⟩⟩
  have hfin := ((SP.refl D1)).trans (SP.left _ (blksOf [Ent.obj b_3 (.cells #[.int .i64 p0.Kind, .string x1.Kind, v2, .int .i64 p0.Id, .int .i64 p0.N, .string p0.Undo] 75 (0, 0)), Ent.obj b_2 (.cells #[.int .i64 p0.Kind, .string x1.Kind, v2, .int .i64 p0.Id, .int .i64 p0.N, .string p0.Undo] 75 (0, 0)), Ent.obj b_1 (.cells #[.int .i64 p0.Kind, .string p0.F.Kind, pv0_0, .int .i64 p0.Id, .int .i64 p0.N, .string p0.Undo] 71 (0, 0))]))
  simpa only [blksOf, List.flatMap_cons, Ent.dat, List.append_assoc, List.nil_append, List.append_nil] using hfin
theorem m_i_isSmall_ok {Φ : Hp} {w : World} (hΦ : In Φ w) (N : Nat) (p0 : Int)   {r : Bool} (h : m_i_isSmall N p0 = some r) :
    Calls Try.prog 137 [.int .u8 p0].toArray w (Post (.bool r) w) := by
  refine enter Try.func137 rfl Try.ntmps137 rfl (St.start hΦ) ?_
  unfold m_i_isSmall at h
  refine WT.seq ?_
  refine WT.region ?_
  refine WL.q (q_assign rfl) rfl rfl rfl ?_
  refine WL.nil ?_
  refine WT.seq ?_
  refine WT.region ?_
  refine WL.q (q_move rfl) rfl rfl rfl ?_
  refine WL.q (q_geq rfl rfl) rfl rfl rfl ?_
  refine WL.q (q_move rfl) rfl rfl rfl ?_
  obtain ⟨b1, hb_1, h⟩ := bind_some h
  refine WL.cutN 3 [(8, .bool b1), (2, .bool false)] ?_ (fun K => ?_)
  rotate_left
  · refine WL.split (d := 5) rfl (fun c1 => ?_) (fun c1 => ?_)
    · replace hb_1 := ite_t hb_1 c1
      refine WL.yes rfl rfl ?_
      refine WL.q (q_move rfl) rfl rfl rfl ?_
      refine WL.yes rfl rfl ?_
      refine WL.q (q_leq rfl rfl) rfl rfl rfl ?_
      refine WL.q (q_pick1 rfl rfl) rfl rfl rfl ?_
      cases hb_1
      exact WL.keep (by exact ⟨rfl, rfl, trivial⟩) K
    · replace hb_1 := ite_f hb_1 c1
      refine WL.no rfl rfl rfl rfl ?_
      refine WL.no rfl rfl rfl rfl ?_
      refine WL.q (q_pick0 rfl rfl) rfl rfl rfl ?_
      cases hb_1
      exact WL.keep (by exact ⟨rfl, rfl, trivial⟩) K
  refine WL.q (q_assign rfl) rfl rfl rfl ?_
  refine WL.nil ?_
  refine WT.ret Try.func137 (resOk.one rfl) (fun w1 hw => ?_)
  cases h
  exact post_of_St hw
theorem m_i_isDigit_ok {Φ : Hp} {w : World} (hΦ : In Φ w) (N : Nat) (p0 : Int)   {r : Bool} (h : m_i_isDigit N p0 = some r) :
    Calls Try.prog 141 [.int .u8 p0].toArray w (Post (.bool r) w) := by
  refine enter Try.func141 rfl Try.ntmps141 rfl (St.start hΦ) ?_
  unfold m_i_isDigit at h
  refine WT.seq ?_
  refine WT.region ?_
  refine WL.q (q_assign rfl) rfl rfl rfl ?_
  refine WL.nil ?_
  refine WT.seq ?_
  refine WT.region ?_
  refine WL.q (q_move rfl) rfl rfl rfl ?_
  refine WL.q (q_geq rfl rfl) rfl rfl rfl ?_
  refine WL.q (q_move rfl) rfl rfl rfl ?_
  obtain ⟨b1, hb_1, h⟩ := bind_some h
  refine WL.cutN 3 [(8, .bool b1), (2, .bool false)] ?_ (fun K => ?_)
  rotate_left
  · refine WL.split (d := 5) rfl (fun c1 => ?_) (fun c1 => ?_)
    · replace hb_1 := ite_t hb_1 c1
      refine WL.yes rfl rfl ?_
      refine WL.q (q_move rfl) rfl rfl rfl ?_
      refine WL.yes rfl rfl ?_
      refine WL.q (q_leq rfl rfl) rfl rfl rfl ?_
      refine WL.q (q_pick1 rfl rfl) rfl rfl rfl ?_
      cases hb_1
      exact WL.keep (by exact ⟨rfl, rfl, trivial⟩) K
    · replace hb_1 := ite_f hb_1 c1
      refine WL.no rfl rfl rfl rfl ?_
      refine WL.no rfl rfl rfl rfl ?_
      refine WL.q (q_pick0 rfl rfl) rfl rfl rfl ?_
      cases hb_1
      exact WL.keep (by exact ⟨rfl, rfl, trivial⟩) K
  refine WL.q (q_assign rfl) rfl rfl rfl ?_
  refine WL.nil ?_
  refine WT.ret Try.func141 (resOk.one rfl) (fun w1 hw => ?_)
  cases h
  exact post_of_St hw
theorem m_i_isWordByte_ok {Φ : Hp} {w : World} (hΦ : In Φ w) (N : Nat) (p0 : Int)   {r : Bool} (h : m_i_isWordByte N p0 = some r) :
    Calls Try.prog 140 [.int .u8 p0].toArray w (Post (.bool r) w) := by
  refine enter Try.func140 rfl Try.ntmps140 rfl (St.start hΦ) ?_
  unfold m_i_isWordByte at h
  refine WT.seq ?_
  refine WT.region ?_
  refine WL.q (q_assign rfl) rfl rfl rfl ?_
  refine WL.nil ?_
  refine WT.seq ?_
  refine WT.region ?_
  refine WL.q (q_move rfl) rfl rfl rfl ?_
  obtain ⟨x1, hx1, h⟩ := bind_some h
  refine WL.call (c_pure Fun_137 rfl (fun w1 hw => m_i_isSmall_ok hw.fro N p0 hx1)) rfl rfl rfl (fun _ => ?_)
  refine WL.q (q_move rfl) rfl rfl rfl ?_
  obtain ⟨b1, hb_1, h⟩ := bind_some h
  refine WL.cutN 3 [(8, .bool b1), (0, .int .u8 p0), (2, .bool false)] ?_ (fun K => ?_)
  rotate_left
  · refine WL.split (d := 5) rfl (fun c1 => ?_) (fun c1 => ?_)
    · replace hb_1 := ite_t hb_1 c1
      refine WL.no rfl rfl rfl rfl ?_
      refine WL.no rfl rfl rfl rfl ?_
      refine WL.q (q_pick1 rfl rfl) rfl rfl rfl ?_
      cases hb_1
      exact WL.keep (by exact ⟨rfl, rfl, rfl, trivial⟩) K
    · replace hb_1 := ite_f hb_1 c1
      refine WL.yes rfl rfl ?_
      refine WL.q (q_move rfl) rfl rfl rfl ?_
      refine WL.yes rfl rfl ?_
      obtain ⟨x2, hx2, hb_1⟩ := bind_some hb_1
      refine WL.call (c_pure Fun_141 rfl (fun w1 hw => m_i_isDigit_ok hw.fro N p0 hx2)) rfl rfl rfl (fun _ => ?_)
      refine WL.q (q_pick0 rfl rfl) rfl rfl rfl ?_
      cases hb_1
      exact WL.keep (by exact ⟨rfl, rfl, rfl, trivial⟩) K
  refine WL.q (q_move rfl) rfl rfl rfl ?_
  obtain ⟨b2, hb_2, h⟩ := bind_some h
  refine WL.cutN 3 [(12, .bool b2), (2, .bool false)] ?_ (fun K => ?_)
  rotate_left
  · refine WL.split (d := 9) rfl (fun c2 => ?_) (fun c2 => ?_)
    · replace hb_2 := ite_t hb_2 c2
      refine WL.no rfl rfl rfl rfl ?_
      refine WL.no rfl rfl rfl rfl ?_
      refine WL.q (q_pick1 rfl rfl) rfl rfl rfl ?_
      cases hb_2
      exact WL.keep (by exact ⟨rfl, rfl, trivial⟩) K
    · replace hb_2 := ite_f hb_2 c2
      refine WL.yes rfl rfl ?_
      refine WL.q (q_move rfl) rfl rfl rfl ?_
      refine WL.yes rfl rfl ?_
      refine WL.q (q_eql rfl rfl) rfl rfl rfl ?_
      refine WL.q (q_pick0 rfl rfl) rfl rfl rfl ?_
      cases hb_2
      exact WL.keep (by exact ⟨rfl, rfl, trivial⟩) K
  refine WL.q (q_assign rfl) rfl rfl rfl ?_
  refine WL.nil ?_
  refine WT.ret Try.func140 (resOk.one rfl) (fun w1 hw => ?_)
  cases h
  exact post_of_St hw
theorem m_i_isWord_ok {Φ : Hp} {w : World} (hΦ : In Φ w) (N : Nat) (p0 : ByteArray) (p1 : Int)   {r : Bool} (h : m_i_isWord N p0 p1 = some r) :
    Calls Try.prog 138 [.string p0, .int .i64 p1].toArray w (Post (.bool r) w) := by
  refine enter Try.func138 rfl Try.ntmps138 rfl (St.start hΦ) ?_
  unfold m_i_isWord at h
  refine WT.seq ?_
  refine WT.region ?_
  refine WL.q (q_assign rfl) rfl rfl rfl ?_
  refine WL.nil ?_
  refine WT.seq ?_
  refine WT.seq ?_
  refine WT.region ?_
  refine WL.q (q_move rfl) rfl rfl rfl ?_
  refine WL.q (q_lenS Str_9 rfl rfl) rfl rfl rfl ?_
  refine WL.q (q_move rfl) rfl rfl rfl ?_
  refine WL.q (q_gtr rfl rfl) rfl rfl rfl ?_
  refine WL.nil ?_
  refine WT.cond rfl (fun c1 => ?_) (fun c1 => ?_)
  · replace h := ite_t h c1
    refine WT.seq ?_
    refine WT.region ?_
    refine WL.q (q_assign rfl) rfl rfl rfl ?_
    refine WL.nil ?_
    refine WT.ret Try.func138 (resOk.one rfl) (fun w1 hw => ?_)
    cases h
    exact post_of_St hw
  · replace h := ite_f h c1
    refine WT.skip ?_
    refine WT.seq ?_
    refine WT.seq ?_
    refine WT.region ?_
    refine WL.q (q_assign rfl) rfl rfl rfl ?_
    refine WL.nil ?_
    refine WT.block ?_
    refine WT.loop ?_
    refine WT.keep [(0, .string p0), (4, .bool false), (5, .int .i64 0)] ⟨rfl, rfl, rfl, trivial⟩ ?_
    refine loop_ind (σ := Int) (fun s => [(0, .string p0), (4, .bool false), (5, .int .i64 s)]) (fun s => St w Φ []) (fun m s => m_i_isWord_l1 N p0 m s = some r) (fun s hm => none_ne (show (none : Option (Bool)) = some r from hm)) (fun k ih s hm => ?_) N (0) h
    revert hm; revert s; intro s1 hm
    have h : m_i_isWord_l1 N p0 (k + 1) s1 = some r := hm
    show WT _ _ [(0, .string p0), (4, .bool false), (5, .int .i64 s1)] (St w Φ [])
    unfold m_i_isWord_l1 at h
    refine WT.seq ?_
    refine WT.seq ?_
    refine WT.region ?_
    refine WL.q (q_move rfl) rfl rfl rfl ?_
    refine WL.q (q_move rfl) rfl rfl rfl ?_
    refine WL.q (q_lenS Str_9 rfl rfl) rfl rfl rfl ?_
    refine WL.q (q_lss rfl rfl) rfl rfl rfl ?_
    refine WL.nil ?_
    refine WT.cond rfl (fun c2 => ?_) (fun c2 => ?_)
    · replace h := ite_t h c2
      refine WT.skip ?_
      refine WT.seq ?_
      refine WT.block ?_
      refine WT.seq ?_
      refine WT.region ?_
      refine WL.q (q_move rfl) rfl rfl rfl ?_
      refine WL.q (q_move rfl) rfl rfl rfl ?_
      obtain ⟨y1, hy1, h⟩ := bind_some h
      refine WL.q (q_indexS Str_9 rfl rfl hy1) rfl rfl rfl ?_
      obtain ⟨x1, hx1, h⟩ := bind_some h
      refine WL.call (c_pure Fun_140 rfl (fun w1 hw => m_i_isWordByte_ok hw.fro N (y1.toNat : Int) hx1)) rfl rfl rfl (fun _ => ?_)
      refine WL.q (q_not rfl) rfl rfl rfl ?_
      refine WL.nil ?_
      refine WT.cond rfl (fun c3 => ?_) (fun c3 => ?_)
      · replace h := ite_t h c3
        refine WT.seq ?_
        refine WT.region ?_
        refine WL.q (q_assign rfl) rfl rfl rfl ?_
        refine WL.nil ?_
        refine WT.ret Try.func138 (resOk.one rfl) (fun w1 hw => ?_)
        cases h
        exact post_of_St hw
      · replace h := ite_f h c3
        refine WT.skip ?_
        refine WT.inBlock ?_
        refine WT.region ?_
        refine WL.q (q_move rfl) rfl rfl rfl ?_
        refine WL.q (q_add rfl rfl) rfl rfl rfl ?_
        refine WL.q (q_assign rfl) rfl rfl rfl ?_
        refine WL.nil ?_
        refine WT.inLoop (WT.mono (l' := [(0, .string p0), (4, .bool false), (5, .int .i64 (IntKind.i64.wrap (s1 + 1)))]) (S' := St w Φ []) ⟨rfl, rfl, rfl, trivial⟩ (fun w1 hw => hw.drop 0) ?_)
        exact ih (IntKind.i64.wrap (s1 + 1)) h
    · replace h := ite_f h c2
      refine WT.exit rfl ?_
      refine WT.seq ?_
      refine WT.region ?_
      refine WL.q (q_assign rfl) rfl rfl rfl ?_
      refine WL.nil ?_
      refine WT.ret Try.func138 (resOk.one rfl) (fun w1 hw => ?_)
      cases h
      exact post_of_St hw
theorem m_i_NameOk_ok {Φ : Hp} {w : World} (hΦ : In Φ w) (N : Nat) (p0 : ByteArray)   {r : Bool} (h : m_i_NameOk N p0 = some r) :
    Calls Try.prog 126 [.string p0].toArray w (Post (.bool r) w) := by
  refine enter Try.func126 rfl Try.ntmps126 rfl (St.start hΦ) ?_
  unfold m_i_NameOk at h
  refine WT.seq ?_
  refine WT.region ?_
  refine WL.q (q_assign rfl) rfl rfl rfl ?_
  refine WL.nil ?_
  refine WT.seq ?_
  refine WT.region ?_
  refine WL.q (q_move rfl) rfl rfl rfl ?_
  refine WL.q (q_lenS Str_9 rfl rfl) rfl rfl rfl ?_
  refine WL.q (q_gtr rfl rfl) rfl rfl rfl ?_
  refine WL.q (q_move rfl) rfl rfl rfl ?_
  obtain ⟨b1, hb_1, h⟩ := bind_some h
  refine WL.cutN 4 [(10, .bool b1), (0, .string p0), (2, .bool false)] ?_ (fun K => ?_)
  rotate_left
  · refine WL.split (d := 6) rfl (fun c1 => ?_) (fun c1 => ?_)
    · replace hb_1 := ite_t hb_1 c1
      refine WL.yes rfl rfl ?_
      refine WL.q (q_move rfl) rfl rfl rfl ?_
      refine WL.yes rfl rfl ?_
      obtain ⟨y1, hy1, hb_1⟩ := bind_some hb_1
      refine WL.q (q_indexS Str_9 rfl rfl hy1) rfl rfl rfl ?_
      refine WL.yes rfl rfl ?_
      obtain ⟨x1, hx1, hb_1⟩ := bind_some hb_1
      refine WL.call (c_pure Fun_137 rfl (fun w1 hw => m_i_isSmall_ok hw.fro N (y1.toNat : Int) hx1)) rfl rfl rfl (fun _ => ?_)
      refine WL.q (q_pick1 rfl rfl) rfl rfl rfl ?_
      cases hb_1
      exact WL.keep (by exact ⟨rfl, rfl, rfl, trivial⟩) K
    · replace hb_1 := ite_f hb_1 c1
      refine WL.no rfl rfl rfl rfl ?_
      refine WL.no rfl rfl rfl rfl ?_
      refine WL.no rfl rfl rfl rfl ?_
      refine WL.q (q_pick0 rfl rfl) rfl rfl rfl ?_
      cases hb_1
      exact WL.keep (by exact ⟨rfl, rfl, rfl, trivial⟩) K
  refine WL.q (q_move rfl) rfl rfl rfl ?_
  obtain ⟨b2, hb_2, h⟩ := bind_some h
  refine WL.cutN 3 [(14, .bool b2), (2, .bool false)] ?_ (fun K => ?_)
  rotate_left
  · refine WL.split (d := 11) rfl (fun c2 => ?_) (fun c2 => ?_)
    · replace hb_2 := ite_t hb_2 c2
      refine WL.yes rfl rfl ?_
      refine WL.q (q_move rfl) rfl rfl rfl ?_
      refine WL.yes rfl rfl ?_
      obtain ⟨x2, hx2, hb_2⟩ := bind_some hb_2
      refine WL.call (c_pure Fun_138 rfl (fun w1 hw => m_i_isWord_ok hw.fro N p0 12 hx2)) rfl rfl rfl (fun _ => ?_)
      refine WL.q (q_pick1 rfl rfl) rfl rfl rfl ?_
      cases hb_2
      exact WL.keep (by exact ⟨rfl, rfl, trivial⟩) K
    · replace hb_2 := ite_f hb_2 c2
      refine WL.no rfl rfl rfl rfl ?_
      refine WL.no rfl rfl rfl rfl ?_
      refine WL.q (q_pick0 rfl rfl) rfl rfl rfl ?_
      cases hb_2
      exact WL.keep (by exact ⟨rfl, rfl, trivial⟩) K
  refine WL.q (q_assign rfl) rfl rfl rfl ?_
  refine WL.nil ?_
  refine WT.ret Try.func126 (resOk.one rfl) (fun w1 hw => ?_)
  cases h
  exact post_of_St hw
theorem m_i_inRange_ok {Φ : Hp} {w : World} (hΦ : In Φ w) (N : Nat) (p0 : Int) (p1 : Int) (p2 : Int)   {r : Bool} (h : m_i_inRange N p0 p1 p2 = some r) :
    Calls Try.prog 94 [.int .i64 p0, .int .i64 p1, .int .i64 p2].toArray w (Post (.bool r) w) := by
  refine enter Try.func94 rfl Try.ntmps94 rfl (St.start hΦ) ?_
  unfold m_i_inRange at h
  refine WT.seq ?_
  refine WT.region ?_
  refine WL.q (q_assign rfl) rfl rfl rfl ?_
  refine WL.nil ?_
  refine WT.seq ?_
  refine WT.region ?_
  refine WL.q (q_move rfl) rfl rfl rfl ?_
  refine WL.q (q_move rfl) rfl rfl rfl ?_
  refine WL.q (q_geq rfl rfl) rfl rfl rfl ?_
  refine WL.q (q_move rfl) rfl rfl rfl ?_
  obtain ⟨b1, hb_1, h⟩ := bind_some h
  refine WL.cutN 4 [(14, .bool b1), (6, .bool false)] ?_ (fun K => ?_)
  rotate_left
  · refine WL.split (d := 10) rfl (fun c1 => ?_) (fun c1 => ?_)
    · replace hb_1 := ite_t hb_1 c1
      refine WL.yes rfl rfl ?_
      refine WL.q (q_move rfl) rfl rfl rfl ?_
      refine WL.yes rfl rfl ?_
      refine WL.q (q_move rfl) rfl rfl rfl ?_
      refine WL.yes rfl rfl ?_
      refine WL.q (q_leq rfl rfl) rfl rfl rfl ?_
      refine WL.q (q_pick1 rfl rfl) rfl rfl rfl ?_
      cases hb_1
      exact WL.keep (by exact ⟨rfl, rfl, trivial⟩) K
    · replace hb_1 := ite_f hb_1 c1
      refine WL.no rfl rfl rfl rfl ?_
      refine WL.no rfl rfl rfl rfl ?_
      refine WL.no rfl rfl rfl rfl ?_
      refine WL.q (q_pick0 rfl rfl) rfl rfl rfl ?_
      cases hb_1
      exact WL.keep (by exact ⟨rfl, rfl, trivial⟩) K
  refine WL.q (q_assign rfl) rfl rfl rfl ?_
  refine WL.nil ?_
  refine WT.ret Try.func94 (resOk.one rfl) (fun w1 hw => ?_)
  cases h
  exact post_of_St hw
theorem m_i_ValOk_ok {Φ : Hp} {w : World} (hΦ : In Φ w) (N : Nat) (p0 : TVal)   {r : Bool} (h : m_i_ValOk N p0 = some r) :
    Calls Try.prog 127 [.agg [.int .i64 p0.K, .int .i64 p0.N, .string p0.S].toArray].toArray w (Post (.bool r) w) := by
  refine enter Try.func127 rfl Try.ntmps127 rfl (St.start hΦ) ?_
  unfold m_i_ValOk at h
  refine WT.seq ?_
  refine WT.region ?_
  refine WL.box (C := #[.int .i64 p0.K, .int .i64 p0.N, .string p0.S]) rfl rfl rfl rfl rfl rfl (fun b_1 => ?_)
  refine WL.q (q_assign rfl) rfl rfl rfl ?_
  refine WL.nil ?_
  refine WT.seq ?_
  refine WT.seq ?_
  refine WT.region ?_
  refine WL.q (q_fieldAddr Fld_100_0 rfl) rfl rfl rfl ?_
  refine WL.q (q_load1 T1_3 rfl (fun w1 hw => hw.rgL (i := 0) rfl 0 1 [.int .i64 p0.K] rfl)) rfl rfl rfl ?_
  refine WL.nil ?_
  refine WT.block ?_
  refine WT.seq ?_
  refine WT.region ?_
  refine WL.q (q_eql rfl rfl) rfl rfl rfl ?_
  refine WL.q (q_assign rfl) rfl rfl rfl ?_
  refine WL.nil ?_
  refine WT.cond rfl (fun c1 => ?_) (fun c1 => ?_)
  · replace h := ite_t h c1
    refine WT.seq ?_
    refine WT.region ?_
    refine WL.q (q_fieldAddr Fld_100_1 rfl) rfl rfl rfl ?_
    refine WL.q (q_load1 T1_3 rfl (fun w1 hw => hw.rgL (i := 0) rfl 1 1 [.int .i64 p0.N] rfl)) rfl rfl rfl ?_
    obtain ⟨x1, hx1, h⟩ := bind_some h
    refine WL.call (c_pure Fun_94 rfl (fun w1 hw => m_i_inRange_ok hw.fro N p0.N (-1000000000) 1000000000 hx1)) rfl rfl rfl (fun _ => ?_)
    refine WL.q (q_move rfl) rfl rfl rfl ?_
    obtain ⟨b1, hb_1, h⟩ := bind_some h
    refine WL.cutN 4 [(14, .bool b1), (2, .bool false)] ?_ (fun K => ?_)
    rotate_left
    · refine WL.split (d := 10) rfl (fun c2 => ?_) (fun c2 => ?_)
      · replace hb_1 := ite_t hb_1 c2
        refine WL.yes rfl rfl ?_
        refine WL.q (q_fieldAddr Fld_100_2 rfl) rfl rfl rfl ?_
        refine WL.yes rfl rfl ?_
        refine WL.q (q_load1 T1_9 rfl (fun w1 hw => hw.rgL (i := 0) rfl 2 1 [.string p0.S] rfl)) rfl rfl rfl ?_
        refine WL.yes rfl rfl ?_
        refine WL.q (q_seq rfl rfl) rfl rfl rfl ?_
        refine WL.q (q_pick1 rfl rfl) rfl rfl rfl ?_
        cases hb_1
        exact WL.keep (by exact ⟨rfl, rfl, trivial⟩) K
      · replace hb_1 := ite_f hb_1 c2
        refine WL.no rfl rfl rfl rfl ?_
        refine WL.no rfl rfl rfl rfl ?_
        refine WL.no rfl rfl rfl rfl ?_
        refine WL.q (q_pick0 rfl rfl) rfl rfl rfl ?_
        cases hb_1
        exact WL.keep (by exact ⟨rfl, rfl, trivial⟩) K
    refine WL.q (q_assign rfl) rfl rfl rfl ?_
    refine WL.nil ?_
    refine WT.ret Try.func127 (resOk.one rfl) (fun w1 hw => ?_)
    cases h
    exact post_of_St hw
  · replace h := ite_f h c1
    refine WT.seq ?_
    refine WT.region ?_
    refine WL.q (q_eql rfl rfl) rfl rfl rfl ?_
    refine WL.q (q_assign rfl) rfl rfl rfl ?_
    refine WL.nil ?_
    refine WT.cond rfl (fun c3 => ?_) (fun c3 => ?_)
    · replace h := ite_t h c3
      refine WT.seq ?_
      refine WT.region ?_
      refine WL.q (q_fieldAddr Fld_100_1 rfl) rfl rfl rfl ?_
      refine WL.q (q_load1 T1_3 rfl (fun w1 hw => hw.rgL (i := 0) rfl 1 1 [.int .i64 p0.N] rfl)) rfl rfl rfl ?_
      refine WL.q (q_eql rfl rfl) rfl rfl rfl ?_
      refine WL.q (q_move rfl) rfl rfl rfl ?_
      obtain ⟨b2, hb_2, h⟩ := bind_some h
      refine WL.cutN 4 [(24, .bool b2), (2, .bool false)] ?_ (fun K => ?_)
      rotate_left
      · refine WL.split (d := 20) rfl (fun c4 => ?_) (fun c4 => ?_)
        · replace hb_2 := ite_t hb_2 c4
          refine WL.yes rfl rfl ?_
          refine WL.q (q_fieldAddr Fld_100_2 rfl) rfl rfl rfl ?_
          refine WL.yes rfl rfl ?_
          refine WL.q (q_load1 T1_9 rfl (fun w1 hw => hw.rgL (i := 0) rfl 2 1 [.string p0.S] rfl)) rfl rfl rfl ?_
          refine WL.yes rfl rfl ?_
          obtain ⟨x2, hx2, hb_2⟩ := bind_some hb_2
          refine WL.call (c_pure Fun_138 rfl (fun w1 hw => m_i_isWord_ok hw.fro N p0.S 20 hx2)) rfl rfl rfl (fun _ => ?_)
          refine WL.q (q_pick1 rfl rfl) rfl rfl rfl ?_
          cases hb_2
          exact WL.keep (by exact ⟨rfl, rfl, trivial⟩) K
        · replace hb_2 := ite_f hb_2 c4
          refine WL.no rfl rfl rfl rfl ?_
          refine WL.no rfl rfl rfl rfl ?_
          refine WL.no rfl rfl rfl rfl ?_
          refine WL.q (q_pick0 rfl rfl) rfl rfl rfl ?_
          cases hb_2
          exact WL.keep (by exact ⟨rfl, rfl, trivial⟩) K
      refine WL.q (q_assign rfl) rfl rfl rfl ?_
      refine WL.nil ?_
      refine WT.ret Try.func127 (resOk.one rfl) (fun w1 hw => ?_)
      cases h
      exact post_of_St hw
    · replace h := ite_f h c3
      refine WT.skip ?_
      refine WT.inBlock ?_
      refine WT.seq ?_
      refine WT.region ?_
      refine WL.q (q_assign rfl) rfl rfl rfl ?_
      refine WL.nil ?_
      refine WT.ret Try.func127 (resOk.one rfl) (fun w1 hw => ?_)
      cases h
      exact post_of_St hw
theorem m_i_FactOk_ok {Φ : Hp} {w : World} (hΦ : In Φ w) (N : Nat) (p0 : TFact) {pv0_0 : Value} {pG0_0 : List Nat} (ph0_0 : RSl RTVal 3 Φ pG0_0 pv0_0 p0.Fields) {r : Bool} (h : m_i_FactOk N p0 = some r) :
    Calls Try.prog 92 [.agg [.string p0.Kind, pv0_0].toArray].toArray w (Post (.bool r) w) := by
  refine enter Try.func92 rfl Try.ntmps92 rfl (St.start hΦ) ?_
  unfold m_i_FactOk at h
  refine WT.seq ?_
  refine WT.region ?_
  refine WL.box (C := #[.string p0.Kind, pv0_0]) rfl rfl rfl rfl rfl rfl (fun b_1 => ?_)
  refine WL.q (q_assign rfl) rfl rfl rfl ?_
  refine WL.nil ?_
  refine WT.seq ?_
  refine WT.seq ?_
  refine WT.region ?_
  refine WL.q (q_fieldAddr Fld_60_0 rfl) rfl rfl rfl ?_
  refine WL.q (q_load1 T1_9 rfl (fun w1 hw => hw.rgL (i := 0) rfl 0 1 [.string p0.Kind] rfl)) rfl rfl rfl ?_
  obtain ⟨x1, hx1, h⟩ := bind_some h
  refine WL.call (c_pure Fun_126 rfl (fun w1 hw => m_i_NameOk_ok hw.fro N p0.Kind hx1)) rfl rfl rfl (fun _ => ?_)
  refine WL.q (q_not rfl) rfl rfl rfl ?_
  refine WL.q (q_move rfl) rfl rfl rfl ?_
  obtain ⟨b1, hb_1, h⟩ := bind_some h
  refine WL.cutN 5 [(14, .bool b1), (1, .pointer (some ⟨b_1, 0, none⟩)), (2, .bool false)] ?_ (fun K => ?_)
  rotate_left
  · refine WL.split (d := 9) rfl (fun c1 => ?_) (fun c1 => ?_)
    · replace hb_1 := ite_t hb_1 c1
      refine WL.no rfl rfl rfl rfl ?_
      refine WL.no rfl rfl rfl rfl ?_
      refine WL.no rfl rfl rfl rfl ?_
      refine WL.no rfl rfl rfl rfl ?_
      refine WL.q (q_pick1 rfl rfl) rfl rfl rfl ?_
      cases hb_1
      exact WL.keep (by exact ⟨rfl, rfl, rfl, trivial⟩) K
    · replace hb_1 := ite_f hb_1 c1
      refine WL.yes rfl rfl ?_
      refine WL.q (q_fieldAddr Fld_60_1 rfl) rfl rfl rfl ?_
      refine WL.yes rfl rfl ?_
      refine WL.q (q_load1 T1_44 rfl (fun w1 hw => hw.rgL (i := 0) rfl 1 1 [pv0_0] rfl)) rfl rfl rfl ?_
      refine WL.yes rfl rfl ?_
      refine WL.q (q_lenR Sl_44 rfl rfl ph0_0) rfl rfl rfl ?_
      refine WL.yes rfl rfl ?_
      refine WL.q (q_gtr rfl rfl) rfl rfl rfl ?_
      refine WL.q (q_pick0 rfl rfl) rfl rfl rfl ?_
      cases hb_1
      exact WL.keep (by exact ⟨rfl, rfl, rfl, trivial⟩) K
  refine WL.nil ?_
  refine WT.cond rfl (fun c2 => ?_) (fun c2 => ?_)
  · replace h := ite_t h c2
    refine WT.seq ?_
    refine WT.region ?_
    refine WL.q (q_assign rfl) rfl rfl rfl ?_
    refine WL.nil ?_
    refine WT.ret Try.func92 (resOk.one rfl) (fun w1 hw => ?_)
    cases h
    exact post_of_St hw
  · replace h := ite_f h c2
    refine WT.skip ?_
    refine WT.seq ?_
    refine WT.seq ?_
    refine WT.region ?_
    refine WL.q (q_fieldAddr Fld_60_1 rfl) rfl rfl rfl ?_
    refine WL.q (q_load1 T1_44 rfl (fun w1 hw => hw.rgL (i := 0) rfl 1 1 [pv0_0] rfl)) rfl rfl rfl ?_
    refine WL.q (q_lenR Sl_44 rfl rfl ph0_0) rfl rfl rfl ?_
    refine WL.q (q_move rfl) rfl rfl rfl ?_
    refine WL.nil ?_
    refine WT.block ?_
    refine WT.loop ?_
    refine WT.keep [(2, .bool false), (16, pv0_0), (17, .int .i64 (p0.Fields.length : Int)), (18, .int .i64 0)] ⟨rfl, rfl, rfl, rfl, trivial⟩ ?_
    refine loop_ind (σ := Int) (fun s => [(2, .bool false), (16, pv0_0), (17, .int .i64 (p0.Fields.length : Int)), (18, .int .i64 s)]) (fun s => St w Φ [Ent.obj b_1 (.cells #[.string p0.Kind, pv0_0] 60 (0, 0))]) (fun m s => m_i_FactOk_l1 N p0 m s = some r) (fun s hm => none_ne (show (none : Option (Bool)) = some r from hm)) (fun k ih s hm => ?_) N (0) h
    revert hm; revert s; intro s1 hm
    have h : m_i_FactOk_l1 N p0 (k + 1) s1 = some r := hm
    show WT _ _ [(2, .bool false), (16, pv0_0), (17, .int .i64 (p0.Fields.length : Int)), (18, .int .i64 s1)] (St w Φ [Ent.obj b_1 (.cells #[.string p0.Kind, pv0_0] 60 (0, 0))])
    unfold m_i_FactOk_l1 at h
    refine WT.seq ?_
    refine WT.region ?_
    refine WL.q (q_lss rfl rfl) rfl rfl rfl ?_
    refine WL.nil ?_
    refine WT.seq ?_
    refine WT.cond rfl (fun c3 => ?_) (fun c3 => ?_)
    · replace h := ite_t h c3
      refine WT.skip ?_
      refine WT.seq ?_
      refine WT.block ?_
      refine WT.seq ?_
      refine WT.region ?_
      obtain ⟨x2, hx2, h⟩ := bind_some h
      obtain ⟨cs1, F1, -, g1, r1⟩ := ph0_0.el (idx_some hx2).2.2
      obtain ⟨rfl, -⟩ := r1
      refine WL.q (q_indexAddr Sl_44 rfl rfl ph0_0 hx2) rfl rfl rfl ?_
      refine WL.q (q_loadN Tn_100 rfl (fun w1 hw => (g1.of_eq 0 3 rfl rfl : rg _ _ _ [.int .i64 x2.K, .int .i64 x2.N, .string x2.S]).rangeAt hw.fro) rfl) rfl rfl rfl ?_
      refine WL.alloc (C := #[.int .i64 0, .int .i64 0, .string (⟨#[]⟩ : ByteArray)]) rfl rfl rfl rfl Zr_100 rfl (fun b_2 => ?_)
      refine WL.store (i := 0) (vs := [.int .i64 x2.K, .int .i64 x2.N, .string x2.S]) (C' := [.int .i64 x2.K, .int .i64 x2.N, .string x2.S]) rfl rfl rfl Sz_100 rfl rfl rfl rfl rfl rfl ⟨rfl, rfl, rfl, trivial⟩ rfl ?_
      refine WL.nil ?_
      refine WT.seq ?_
      refine WT.region ?_
      refine WL.q (q_loadN Tn_100 rfl (fun w1 hw => hw.rgL (i := 0) rfl 0 3 [.int .i64 x2.K, .int .i64 x2.N, .string x2.S] rfl) rfl) rfl rfl rfl ?_
      obtain ⟨x3, hx3, h⟩ := bind_some h
      refine WL.call (c_pure Fun_127 rfl (fun w1 hw => m_i_ValOk_ok hw.fro N x2 hx3)) rfl rfl rfl (fun _ => ?_)
      refine WL.q (q_not rfl) rfl rfl rfl ?_
      refine WL.nil ?_
      refine WT.cond rfl (fun c4 => ?_) (fun c4 => ?_)
      · replace h := ite_t h c4
        refine WT.seq ?_
        refine WT.region ?_
        refine WL.q (q_assign rfl) rfl rfl rfl ?_
        refine WL.nil ?_
        refine WT.ret Try.func92 (resOk.one rfl) (fun w1 hw => ?_)
        cases h
        exact post_of_St hw
      · replace h := ite_f h c4
        refine WT.skip ?_
        refine WT.inBlock ?_
        refine WT.region ?_
        refine WL.q (q_add rfl rfl) rfl rfl rfl ?_
        refine WL.q (q_move rfl) rfl rfl rfl ?_
        refine WL.nil ?_
        refine WT.inLoop (WT.mono (l' := [(2, .bool false), (16, pv0_0), (17, .int .i64 (p0.Fields.length : Int)), (18, .int .i64 (IntKind.i64.wrap (s1 + 1)))]) (S' := St w Φ [Ent.obj b_1 (.cells #[.string p0.Kind, pv0_0] 60 (0, 0))]) ⟨rfl, rfl, rfl, rfl, trivial⟩ (fun w1 hw => hw.drop 1) ?_)
        exact ih (IntKind.i64.wrap (s1 + 1)) h
    · replace h := ite_f h c3
      refine WT.exit rfl ?_
      refine WT.seq ?_
      refine WT.region ?_
      refine WL.q (q_assign rfl) rfl rfl rfl ?_
      refine WL.nil ?_
      refine WT.ret Try.func92 (resOk.one rfl) (fun w1 hw => ?_)
      cases h
      exact post_of_St hw
theorem m_i_isUndo_ok {Φ : Hp} {w : World} (hΦ : In Φ w) (N : Nat) (p0 : ByteArray)   {r : Bool} (h : m_i_isUndo N p0 = some r) :
    Calls Try.prog 93 [.string p0].toArray w (Post (.bool r) w) := by
  refine enter Try.func93 rfl Try.ntmps93 rfl (St.start hΦ) ?_
  unfold m_i_isUndo at h
  refine WT.seq ?_
  refine WT.region ?_
  refine WL.q (q_assign rfl) rfl rfl rfl ?_
  refine WL.nil ?_
  refine WT.seq ?_
  refine WT.region ?_
  refine WL.q (q_move rfl) rfl rfl rfl ?_
  refine WL.q (q_seq rfl rfl) rfl rfl rfl ?_
  refine WL.q (q_move rfl) rfl rfl rfl ?_
  obtain ⟨b1, hb_1, h⟩ := bind_some h
  refine WL.cutN 3 [(8, .bool b1), (2, .bool false)] ?_ (fun K => ?_)
  rotate_left
  · refine WL.split (d := 5) rfl (fun c1 => ?_) (fun c1 => ?_)
    · replace hb_1 := ite_t hb_1 c1
      refine WL.no rfl rfl rfl rfl ?_
      refine WL.no rfl rfl rfl rfl ?_
      refine WL.q (q_pick1 rfl rfl) rfl rfl rfl ?_
      cases hb_1
      exact WL.keep (by exact ⟨rfl, rfl, trivial⟩) K
    · replace hb_1 := ite_f hb_1 c1
      refine WL.yes rfl rfl ?_
      refine WL.q (q_move rfl) rfl rfl rfl ?_
      refine WL.yes rfl rfl ?_
      obtain ⟨x1, hx1, hb_1⟩ := bind_some hb_1
      refine WL.call (c_pure Fun_126 rfl (fun w1 hw => m_i_NameOk_ok hw.fro N p0 hx1)) rfl rfl rfl (fun _ => ?_)
      refine WL.q (q_pick0 rfl rfl) rfl rfl rfl ?_
      cases hb_1
      exact WL.keep (by exact ⟨rfl, rfl, trivial⟩) K
  refine WL.q (q_assign rfl) rfl rfl rfl ?_
  refine WL.nil ?_
  refine WT.ret Try.func93 (resOk.one rfl) (fun w1 hw => ?_)
  cases h
  exact post_of_St hw
end Go.Proofs.Ytpajhchhkfnieaa
