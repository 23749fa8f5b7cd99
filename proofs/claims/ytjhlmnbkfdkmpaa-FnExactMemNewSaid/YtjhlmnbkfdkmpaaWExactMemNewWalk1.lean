/- Printed by a program of ours: each Go function computes its Lean function. -/
import Derived.Test.YtjhlmnbkfdkmpaaProg
import Derived.Test.YtjhlmnbkfdkmpaaWExactMemNewMod
namespace Go.Proofs.Ytjhlmnbkfdkmpaa
open Eng
open Go.RowKit (Below)
set_option linter.unusedVariables false
set_option linter.unusedSimpArgs false

set_option maxRecDepth 100000
set_option maxHeartbeats 1000000
theorem mixed : Try.prog.follows .mixedOrders = true := by kernel_rfl
theorem Sl_78 : Sl Try.prog 78 3 1 = true := by kernel_rfl
theorem Fld_182_2 : Fld Try.prog 182 2 2 = true := by kernel_rfl
theorem T1_9 : T1 Try.prog 9 = true := by kernel_rfl
theorem Str_9 : Str Try.prog 9 = true := by kernel_rfl
theorem Sl_218 : Sl Try.prog 218 182 3 = true := by kernel_rfl
theorem Tn_182 : Tn Try.prog 182 3 = true := by kernel_rfl
theorem Fun_199 : Fun Try.prog 199 = true := by kernel_rfl
theorem Fld_220_0 : Fld Try.prog 220 0 0 = true := by kernel_rfl
theorem Fld_220_2 : Fld Try.prog 220 2 2 = true := by kernel_rfl
theorem T1_218 : T1 Try.prog 218 = true := by kernel_rfl
theorem Fun_221 : Fun Try.prog 221 = true := by kernel_rfl
theorem Fld_220_3 : Fld Try.prog 220 3 3 = true := by kernel_rfl
theorem T1_78 : T1 Try.prog 78 = true := by kernel_rfl
theorem Fun_122 : Fun Try.prog 122 = true := by kernel_rfl
theorem Sl_33 : Sl Try.prog 33 220 4 = true := by kernel_rfl
theorem Tn_220 : Tn Try.prog 220 4 = true := by kernel_rfl
theorem Fun_154 : Fun Try.prog 154 = true := by kernel_rfl
theorem Fld_222_0 : Fld Try.prog 222 0 0 = true := by kernel_rfl
theorem Fld_222_1 : Fld Try.prog 222 1 1 = true := by kernel_rfl
theorem Sl_34 : Sl Try.prog 34 222 2 = true := by kernel_rfl
theorem Tn_222 : Tn Try.prog 222 2 = true := by kernel_rfl
theorem Fun_155 : Fun Try.prog 155 = true := by kernel_rfl
theorem Fld_36_0 : Fld Try.prog 36 0 0 = true := by kernel_rfl
theorem T1_33 : T1 Try.prog 33 = true := by kernel_rfl
theorem Fun_73 : Fun Try.prog 73 = true := by kernel_rfl
theorem Fld_36_1 : Fld Try.prog 36 1 1 = true := by kernel_rfl
theorem T1_34 : T1 Try.prog 34 = true := by kernel_rfl
theorem Fun_74 : Fun Try.prog 74 = true := by kernel_rfl
theorem Zr_41 : (Try.prog.info? 41).map (·.zero) = some (some (.agg #[.slice none 0 0, .slice none 0 0])) := by kernel_rfl
theorem Pl_41 : Pl Try.prog 41 #[(0, 1), (1, 1)] = true := by kernel_rfl
theorem Sz_41 : Sz Try.prog 41 2 = true := by kernel_rfl
theorem Fld_46_0 : Fld Try.prog 46 0 0 = true := by kernel_rfl
theorem T1_43 : T1 Try.prog 43 = true := by kernel_rfl
theorem Sl_43 : Sl Try.prog 43 114 4 = true := by kernel_rfl
theorem Fld_41_0 : Fld Try.prog 41 0 0 = true := by kernel_rfl
theorem T1_38 : T1 Try.prog 38 = true := by kernel_rfl
theorem Pl_130 : Pl Try.prog 130 #[(0, 1)] = true := by kernel_rfl
theorem Zr_130 : (Try.prog.info? 130).map (·.zero) = some (some (.agg #[.slice none 0 0])) := by kernel_rfl
theorem MC_130_1 : madeCells (Value.agg #[.slice none 0 0] : Value).cells (1 * 1) = #[.slice none 0 0] := by kernel_rfl
theorem Sl_38 : Sl Try.prog 38 130 1 = true := by kernel_rfl
theorem Ei_130 : (Try.prog.info? 130).map (fun i => (i.zero, i.size, i.bytes)) = some (some (.agg #[.slice none 0 0]), 1, 24) := by kernel_rfl
theorem Sz_38 : Sz Try.prog 38 1 = true := by kernel_rfl
theorem Fld_46_1 : Fld Try.prog 46 1 1 = true := by kernel_rfl
theorem T1_44 : T1 Try.prog 44 = true := by kernel_rfl
theorem Sl_44 : Sl Try.prog 44 116 2 = true := by kernel_rfl
theorem Pl_133 : Pl Try.prog 133 #[(0, 1)] = true := by kernel_rfl
theorem Zr_133 : (Try.prog.info? 133).map (·.zero) = some (some (.agg #[.slice none 0 0])) := by kernel_rfl
theorem Sz_133 : Sz Try.prog 133 1 = true := by kernel_rfl
theorem Fld_116_0 : Fld Try.prog 116 0 0 = true := by kernel_rfl
theorem Fld_133_0 : Fld Try.prog 133 0 0 = true := by kernel_rfl
theorem T1_131 : T1 Try.prog 131 = true := by kernel_rfl
theorem Pl_136 : Pl Try.prog 136 #[(0, 1)] = true := by kernel_rfl
theorem Zr_136 : (Try.prog.info? 136).map (·.zero) = some (some (.agg #[.slice none 0 0])) := by kernel_rfl
theorem MC_136_1 : madeCells (Value.agg #[.slice none 0 0] : Value).cells (1 * 1) = #[.slice none 0 0] := by kernel_rfl
theorem Sl_131 : Sl Try.prog 131 136 1 = true := by kernel_rfl
theorem Ei_136 : (Try.prog.info? 136).map (fun i => (i.zero, i.size, i.bytes)) = some (some (.agg #[.slice none 0 0]), 1, 24) := by kernel_rfl
theorem Sz_131 : Sz Try.prog 131 1 = true := by kernel_rfl
theorem Fld_41_1 : Fld Try.prog 41 1 1 = true := by kernel_rfl
theorem T1_39 : T1 Try.prog 39 = true := by kernel_rfl
theorem Tn_133 : Tn Try.prog 133 1 = true := by kernel_rfl
theorem MC_133_1 : madeCells (Value.agg #[.slice none 0 0] : Value).cells (1 * 1) = #[.slice none 0 0] := by kernel_rfl
theorem Sl_39 : Sl Try.prog 39 133 1 = true := by kernel_rfl
theorem Ei_133 : (Try.prog.info? 133).map (fun i => (i.zero, i.size, i.bytes)) = some (some (.agg #[.slice none 0 0]), 1, 24) := by kernel_rfl
theorem Sz_39 : Sz Try.prog 39 1 = true := by kernel_rfl
theorem Tn_41 : Tn Try.prog 41 2 = true := by kernel_rfl
theorem Zr_3 : (Try.prog.info? 3).map (·.zero) = some (some (.int .i64 0)) := by kernel_rfl
theorem By_3 : By Try.prog 3 8 = true := by kernel_rfl
theorem T1_3 : T1 Try.prog 3 = true := by kernel_rfl
theorem Sz_3 : Sz Try.prog 3 1 = true := by kernel_rfl
theorem Zr_192 : (Try.prog.info? 192).map (·.zero) = some (some (.agg #[.int .i64 0, .int .i64 0, .string ⟨#[]⟩])) := by kernel_rfl
theorem Fld_182_0 : Fld Try.prog 182 0 0 = true := by kernel_rfl
theorem Fld_192_0 : Fld Try.prog 192 0 0 = true := by kernel_rfl
theorem Fld_182_1 : Fld Try.prog 182 1 1 = true := by kernel_rfl
theorem Fld_192_1 : Fld Try.prog 192 1 1 = true := by kernel_rfl
theorem Fld_192_2 : Fld Try.prog 192 2 2 = true := by kernel_rfl
theorem Sz_9 : Sz Try.prog 9 1 = true := by kernel_rfl
theorem Tn_192 : Tn Try.prog 192 3 = true := by kernel_rfl
theorem Sz_192 : Sz Try.prog 192 3 = true := by kernel_rfl
theorem Sl_112 : Sl Try.prog 112 192 3 = true := by kernel_rfl
theorem By_192 : By Try.prog 192 32 = true := by kernel_rfl
theorem Fun_202 : Fun Try.prog 202 = true := by kernel_rfl
theorem Zr_114 : (Try.prog.info? 114).map (·.zero) = some (some (.agg #[.string ⟨#[]⟩, .int .i64 0, .slice none 0 0, .slice none 0 0])) := by kernel_rfl
theorem Fld_114_0 : Fld Try.prog 114 0 0 = true := by kernel_rfl
theorem Fld_220_1 : Fld Try.prog 220 1 1 = true := by kernel_rfl
theorem Fld_114_1 : Fld Try.prog 114 1 1 = true := by kernel_rfl
theorem Fun_222 : Fun Try.prog 222 = true := by kernel_rfl
theorem Fld_114_2 : Fld Try.prog 114 2 2 = true := by kernel_rfl
theorem Sz_112 : Sz Try.prog 112 1 = true := by kernel_rfl
theorem Fun_124 : Fun Try.prog 124 = true := by kernel_rfl
theorem Fld_114_3 : Fld Try.prog 114 3 3 = true := by kernel_rfl
theorem Sz_78 : Sz Try.prog 78 1 = true := by kernel_rfl
theorem Tn_114 : Tn Try.prog 114 4 = true := by kernel_rfl
theorem Sz_114 : Sz Try.prog 114 4 = true := by kernel_rfl
theorem By_114 : By Try.prog 114 72 = true := by kernel_rfl
theorem Fun_156 : Fun Try.prog 156 = true := by kernel_rfl
theorem Zr_116 : (Try.prog.info? 116).map (·.zero) = some (some (.agg #[.slice none 0 0, .slice none 0 0])) := by kernel_rfl
theorem Fld_116_1 : Fld Try.prog 116 1 1 = true := by kernel_rfl
theorem Tn_116 : Tn Try.prog 116 2 = true := by kernel_rfl
theorem Sz_116 : Sz Try.prog 116 2 = true := by kernel_rfl
theorem By_116 : By Try.prog 116 48 = true := by kernel_rfl
theorem Fun_157 : Fun Try.prog 157 = true := by kernel_rfl
theorem Zr_46 : (Try.prog.info? 46).map (·.zero) = some (some (.agg #[.slice none 0 0, .slice none 0 0])) := by kernel_rfl
theorem Fun_75 : Fun Try.prog 75 = true := by kernel_rfl
theorem Sz_43 : Sz Try.prog 43 1 = true := by kernel_rfl
theorem Fun_76 : Fun Try.prog 76 = true := by kernel_rfl
theorem Sz_44 : Sz Try.prog 44 1 = true := by kernel_rfl
theorem Tn_46 : Tn Try.prog 46 2 = true := by kernel_rfl
theorem Sz_46 : Sz Try.prog 46 2 = true := by kernel_rfl
theorem By_130 : By Try.prog 130 24 = true := by kernel_rfl
theorem By_136 : By Try.prog 136 24 = true := by kernel_rfl
theorem Fld_130_0 : Fld Try.prog 130 0 0 = true := by kernel_rfl
theorem Fun_125 : Fun Try.prog 125 = true := by kernel_rfl
theorem Tn_130 : Tn Try.prog 130 1 = true := by kernel_rfl
theorem Fun_158 : Fun Try.prog 158 = true := by kernel_rfl
theorem Fld_326_0 : Fld Try.prog 326 0 0 = true := by kernel_rfl
theorem Fld_326_1 : Fld Try.prog 326 1 1 = true := by kernel_rfl
theorem Sl_134 : Sl Try.prog 134 326 2 = true := by kernel_rfl
theorem Tn_326 : Tn Try.prog 326 2 = true := by kernel_rfl
theorem Fun_289 : Fun Try.prog 289 = true := by kernel_rfl
theorem Fld_136_0 : Fld Try.prog 136 0 0 = true := by kernel_rfl
theorem T1_134 : T1 Try.prog 134 = true := by kernel_rfl
theorem Fun_282 : Fun Try.prog 282 = true := by kernel_rfl
theorem Tn_136 : Tn Try.prog 136 1 = true := by kernel_rfl
theorem Fun_264 : Fun Try.prog 264 = true := by kernel_rfl
theorem Fun_223 : Fun Try.prog 223 = true := by kernel_rfl
theorem Fun_159 : Fun Try.prog 159 = true := by kernel_rfl
theorem Fun_77 : Fun Try.prog 77 = true := by kernel_rfl
theorem Fun_78 : Fun Try.prog 78 = true := by kernel_rfl
theorem Fun_205 : Fun Try.prog 205 = true := by kernel_rfl
theorem T1_112 : T1 Try.prog 112 = true := by kernel_rfl
theorem Fun_224 : Fun Try.prog 224 = true := by kernel_rfl
theorem Fun_160 : Fun Try.prog 160 = true := by kernel_rfl
theorem Fun_161 : Fun Try.prog 161 = true := by kernel_rfl
theorem Fun_79 : Fun Try.prog 79 = true := by kernel_rfl
theorem Fun_80 : Fun Try.prog 80 = true := by kernel_rfl
theorem Ik_3 : Ik Try.prog 3 .i64 = true := by kernel_rfl
theorem Ik_5 : Ik Try.prog 5 .u8 = true := by kernel_rfl
theorem MC_5_1 : madeCells (Value.int .u8 0 : Value).cells (1 * 1) = #[.int .u8 0] := by kernel_rfl
theorem Sl_73 : Sl Try.prog 73 5 1 = true := by kernel_rfl
theorem Zr_5 : (Try.prog.info? 5).map (·.zero) = some (some (.int .u8 0)) := by kernel_rfl
theorem Fun_104 : Fun Try.prog 104 = true := by kernel_rfl
theorem Fun_162 : Fun Try.prog 162 = true := by kernel_rfl
theorem Fun_163 : Fun Try.prog 163 = true := by kernel_rfl
theorem Fun_81 : Fun Try.prog 81 = true := by kernel_rfl
theorem Fun_82 : Fun Try.prog 82 = true := by kernel_rfl
theorem Fun_225 : Fun Try.prog 225 = true := by kernel_rfl
theorem Fun_164 : Fun Try.prog 164 = true := by kernel_rfl
theorem Fun_83 : Fun Try.prog 83 = true := by kernel_rfl
theorem Fun_84 : Fun Try.prog 84 = true := by kernel_rfl
theorem Fun_165 : Fun Try.prog 165 = true := by kernel_rfl
theorem Fun_226 : Fun Try.prog 226 = true := by kernel_rfl
theorem Fun_166 : Fun Try.prog 166 = true := by kernel_rfl
theorem Fun_85 : Fun Try.prog 85 = true := by kernel_rfl
theorem Fun_86 : Fun Try.prog 86 = true := by kernel_rfl
theorem Tn_36 : Tn Try.prog 36 2 = true := by kernel_rfl
theorem Fun_18 : Fun Try.prog 18 = true := by kernel_rfl
theorem Fun_20 : Fun Try.prog 20 = true := by kernel_rfl
theorem Fun_19 : Fun Try.prog 19 = true := by kernel_rfl
theorem Fun_21 : Fun Try.prog 21 = true := by kernel_rfl
theorem Fun_22 : Fun Try.prog 22 = true := by kernel_rfl
theorem Fun_23 : Fun Try.prog 23 = true := by kernel_rfl
theorem Fun_24 : Fun Try.prog 24 = true := by kernel_rfl
theorem Fun_25 : Fun Try.prog 25 = true := by kernel_rfl
theorem Fun_26 : Fun Try.prog 26 = true := by kernel_rfl
theorem m_l_szIntS_ok {Φ : Hp} {w : World} (hΦ : In Φ w) (N : Nat) (p0 : (List Int)) (p1 : Int) {pv0 : Value} {pG0 : List Nat} (ph0 : RSl (RI .i64) 1 Φ pG0 pv0 p0) {r : Int} (h : m_l_szIntS N p0 p1 = some r) :
    Calls Try.prog 122 [pv0, .int .i64 p1].toArray w (Post (.int .i64 r) w) := by
  refine enter Try.func122 rfl Try.ntmps122 rfl (St.start0 hΦ) ?_
  unfold m_l_szIntS at h
  refine WT.seq ?_
  refine WT.region ?_
  refine lq (q_assign rfl) rfl ?_
  refine WL.nil ?_
  refine WT.seq ?_
  refine WT.region ?_
  refine lq (q_move rfl) rfl ?_
  refine lq (q_move rfl) rfl ?_
  refine lq (q_lenR Sl_78 rfl rfl ph0) rfl ?_
  refine lq (q_sub rfl rfl) rfl ?_
  refine lq (q_assign rfl) rfl ?_
  refine WL.nil ?_
  refine WT.seq ?_
  refine WT.seq ?_
  refine WT.region ?_
  refine lq (q_move rfl) rfl ?_
  refine lq (q_lss rfl rfl) rfl ?_
  refine WL.nil ?_
  refine WT.cond rfl (fun c1 => ?_) (fun c1 => ?_)
  · replace h := ite_t h c1
    refine WT.seq ?_
    refine WT.region ?_
    refine lq (q_assign rfl) rfl ?_
    refine WL.nil ?_
    refine WT.ret Try.func122 (resOk.one rfl) (fun w1 hw => ?_)
    cases h
    exact post_of_St hw
  replace h := ite_f h c1
  refine WT.skip ?_
  refine WT.seq ?_
  refine WT.region ?_
  refine lq (q_move rfl) rfl ?_
  refine lq (q_assign rfl) rfl ?_
  refine WL.nil ?_
  refine WT.ret Try.func122 (resOk.one rfl) (fun w1 hw => ?_)
  cases h
  exact post_of_St hw
theorem m_l_szVal_ok {Φ : Hp} {w : World} (hΦ : In Φ w) (N : Nat) (p0 : TVal) (p1 : Int)   {r : Int} (h : m_l_szVal N p0 p1 = some r) :
    Calls Try.prog 199 [.agg [.int .i64 p0.K, .int .i64 p0.N, .string p0.S].toArray, .int .i64 p1].toArray w (Post (.int .i64 r) w) := by
  refine enter Try.func199 rfl Try.ntmps199 rfl (St.start0 hΦ) ?_
  unfold m_l_szVal at h
  refine WT.seq ?_
  refine WT.region ?_
  refine ln (n_box (C := #[.int .i64 p0.K, .int .i64 p0.N, .string p0.S]) rfl rfl) rfl (fun b_1 => ?_)
  refine lq (q_assign rfl) rfl ?_
  refine WL.nil ?_
  refine WT.seq ?_
  refine WT.region ?_
  refine lq (q_move rfl) rfl ?_
  refine lq (q_fieldAddr Fld_182_2 rfl) rfl ?_
  refine lq (q_load1 T1_9 rfl (fun w1 hw => hw.rgO (i := 0) rfl 2 1 [.string p0.S] rfl)) rfl ?_
  refine lq (q_lenS Str_9 rfl rfl) rfl ?_
  refine lq (q_sub rfl rfl) rfl ?_
  refine lq (q_assign rfl) rfl ?_
  refine WL.nil ?_
  refine WT.seq ?_
  refine WT.seq ?_
  refine WT.region ?_
  refine lq (q_move rfl) rfl ?_
  refine lq (q_lss rfl rfl) rfl ?_
  refine WL.nil ?_
  refine WT.cond rfl (fun c1 => ?_) (fun c1 => ?_)
  · replace h := ite_t h c1
    refine WT.seq ?_
    refine WT.region ?_
    refine lq (q_assign rfl) rfl ?_
    refine WL.nil ?_
    refine WT.ret Try.func199 (resOk.one rfl) (fun w1 hw => ?_)
    cases h
    exact post_of_St hw
  replace h := ite_f h c1
  refine WT.skip ?_
  refine WT.seq ?_
  refine WT.region ?_
  refine lq (q_move rfl) rfl ?_
  refine lq (q_assign rfl) rfl ?_
  refine WL.nil ?_
  refine WT.ret Try.func199 (resOk.one rfl) (fun w1 hw => ?_)
  cases h
  exact post_of_St hw
theorem m_l_szValS_ok {Φ : Hp} {w : World} (hΦ : In Φ w) (N : Nat) (p0 : (List TVal)) (p1 : Int) {pv0 : Value} {pG0 : List Nat} (ph0 : RSl RTVal 3 Φ pG0 pv0 p0) {r : Int} (h : m_l_szValS N p0 p1 = some r) :
    Calls Try.prog 221 [pv0, .int .i64 p1].toArray w (Post (.int .i64 r) w) := by
  refine enter Try.func221 rfl Try.ntmps221 rfl (St.start0 hΦ) ?_
  generalize hb0 : (⟨w, [], Φ⟩ : Base) = w0
  unfold m_l_szValS at h
  refine WT.seq ?_
  refine WT.region ?_
  refine lq (q_assign rfl) rfl ?_
  refine WL.nil ?_
  refine WT.seq ?_
  refine WT.region ?_
  refine lq (q_move rfl) rfl ?_
  refine lq (q_move rfl) rfl ?_
  refine lq (q_lenR Sl_218 rfl rfl ph0) rfl ?_
  refine lq (q_sub rfl rfl) rfl ?_
  refine lq (q_assign rfl) rfl ?_
  refine WL.nil ?_
  refine WT.seq ?_
  refine WT.seq ?_
  refine WT.region ?_
  refine lq (q_move rfl) rfl ?_
  refine lq (q_lss rfl rfl) rfl ?_
  refine WL.nil ?_
  refine WT.cond rfl (fun c1 => ?_) (fun c1 => ?_)
  · replace h := ite_t h c1
    refine WT.seq ?_
    refine WT.region ?_
    refine lq (q_assign rfl) rfl ?_
    refine WL.nil ?_
    refine WT.ret Try.func221 (resOk.one rfl) (fun w1 hw => ?_)
    subst hb0
    cases h
    exact post_of_St hw
  replace h := ite_f h c1
  refine WT.skip ?_
  refine WT.seq ?_
  refine WT.seq ?_
  refine WT.region ?_
  refine lq (q_assign rfl) rfl ?_
  refine WL.nil ?_
  refine WT.block ?_
  refine WT.loop ?_
  refine WT.mono (l' := [(0, pv0), (1, .int .i64 (IntKind.i64.wrap (p1 - (p0.length : Int)))), (5, .int .i64 0)]) (S' := St w0 Φ [] []) ⟨rfl, rfl, rfl, trivial⟩ (fun w1 hw => (hw.sel (js := []) rfl).selO (js := []) rfl) ?_
  refine loop_ind (σ := Int × Int) (fun s => [(0, pv0), (1, .int .i64 s.1), (5, .int .i64 s.2)]) (fun s => St w0 Φ [] []) (fun m s => m_l_szValS_l1 N p0 m s.1 s.2 = some r) (fun s hm => none_ne (show (none : Option (Int)) = some r from hm)) (fun n1 ih1 s hm => ?_) N (IntKind.i64.wrap (p1 - (p0.length : Int)), 0) h
  obtain ⟨s1, s2⟩ := s
  have h : m_l_szValS_l1 N p0 (n1 + 1) s1 s2 = some r := hm
  show WT _ _ [(0, pv0), (1, .int .i64 s1), (5, .int .i64 s2)] (St w0 Φ [] [])
  unfold m_l_szValS_l1 at h
  refine WT.seq ?_
  refine WT.seq ?_
  refine WT.region ?_
  refine lq (q_move rfl) rfl ?_
  refine lq (q_move rfl) rfl ?_
  refine lq (q_lenR Sl_218 rfl rfl ph0) rfl ?_
  refine lq (q_lss rfl rfl) rfl ?_
  refine WL.nil ?_
  refine WT.cond rfl (fun c2 => ?_) (fun c2 => ?_)
  · replace h := ite_t h c2
    refine WT.skip ?_
    refine WT.seq ?_
    refine WT.block ?_
    refine WT.seq ?_
    refine WT.region ?_
    refine lq (q_move rfl) rfl ?_
    refine lq (q_move rfl) rfl ?_
    obtain ⟨x1, hx1, h⟩ := bind_some h
    obtain ⟨cs1, F1, -, g1, hb1, hs1, r1⟩ := ph0.el (idx_some hx1).2.2
    obtain ⟨rfl, -⟩ := r1
    refine lq (q_indexAddr Sl_218 rfl rfl ph0 hx1) rfl ?_
    refine lq (q_loadN Tn_182 rfl (fun w1 hw => (g1.of_eq 0 3 rfl rfl : rg _ _ _ [.int .i64 x1.K, .int .i64 x1.N, .string x1.S]).rangeAt hw.fro) rfl) rfl ?_
    refine lq (q_move rfl) rfl ?_
    obtain ⟨x2, hx2, h⟩ := bind_some h
    refine lp (p_call Fun_199 rfl (fun w1 hw => m_l_szVal_ok hw.fro N x1 s1 hx2)) rfl ?_
    refine lq (q_assign rfl) rfl ?_
    refine WL.nil ?_
    refine WT.seq ?_
    refine WT.region ?_
    refine lq (q_move rfl) rfl ?_
    refine lq (q_lss rfl rfl) rfl ?_
    refine WL.nil ?_
    refine WT.cond rfl (fun c3 => ?_) (fun c3 => ?_)
    · replace h := ite_t h c3
      refine WT.seq ?_
      refine WT.region ?_
      refine lq (q_assign rfl) rfl ?_
      refine WL.nil ?_
      refine WT.ret Try.func221 (resOk.one rfl) (fun w1 hw => ?_)
      subst hb0
      cases h
      exact post_of_St hw
    replace h := ite_f h c3
    refine WT.skip ?_
    refine WT.inBlock ?_
    refine WT.region ?_
    refine lq (q_move rfl) rfl ?_
    refine lq (q_add rfl rfl) rfl ?_
    refine lq (q_assign rfl) rfl ?_
    refine WL.nil ?_
    refine WT.inLoop (WT.mono (l' := [(0, pv0), (1, .int .i64 x2), (5, .int .i64 (IntKind.i64.wrap (s2 + 1)))]) (S' := St w0 Φ [] []) ⟨rfl, rfl, rfl, trivial⟩ (fun w1 hw => (hw.sel (js := []) rfl).selO (js := []) rfl) ?_)
    exact ih1 (x2, IntKind.i64.wrap (s2 + 1)) h
  replace h := ite_f h c2
  refine WT.exit rfl ?_
  refine WT.seq ?_
  refine WT.region ?_
  refine lq (q_move rfl) rfl ?_
  refine lq (q_assign rfl) rfl ?_
  refine WL.nil ?_
  refine WT.ret Try.func221 (resOk.one rfl) (fun w1 hw => ?_)
  subst hb0
  cases h
  exact post_of_St hw
theorem m_l_szAlpha_ok {Φ : Hp} {w : World} (hΦ : In Φ w) (N : Nat) (p0 : TAlpha) (p1 : Int) {pv0_0 : Value} {pG0_0 : List Nat} {pv0_1 : Value} {pG0_1 : List Nat} (ph0_0 : RSl RTVal 3 Φ pG0_0 pv0_0 p0.Consts) (ph0_1 : RSl (RI .i64) 1 Φ pG0_1 pv0_1 p0.At) {r : Int} (h : m_l_szAlpha N p0 p1 = some r) :
    Calls Try.prog 154 [.agg [.string p0.Kind, .int .i64 p0.N, pv0_0, pv0_1].toArray, .int .i64 p1].toArray w (Post (.int .i64 r) w) := by
  refine enter Try.func154 rfl Try.ntmps154 rfl (St.start0 hΦ) ?_
  unfold m_l_szAlpha at h
  refine WT.seq ?_
  refine WT.region ?_
  refine ln (n_box (C := #[.string p0.Kind, .int .i64 p0.N, pv0_0, pv0_1]) rfl rfl) rfl (fun b_1 => ?_)
  refine lq (q_assign rfl) rfl ?_
  refine WL.nil ?_
  refine WT.seq ?_
  refine WT.region ?_
  refine lq (q_move rfl) rfl ?_
  refine lq (q_fieldAddr Fld_220_0 rfl) rfl ?_
  refine lq (q_load1 T1_9 rfl (fun w1 hw => hw.rgO (i := 0) rfl 0 1 [.string p0.Kind] rfl)) rfl ?_
  refine lq (q_lenS Str_9 rfl rfl) rfl ?_
  refine lq (q_sub rfl rfl) rfl ?_
  refine lq (q_assign rfl) rfl ?_
  refine WL.nil ?_
  refine WT.seq ?_
  refine WT.seq ?_
  refine WT.region ?_
  refine lq (q_move rfl) rfl ?_
  refine lq (q_lss rfl rfl) rfl ?_
  refine WL.nil ?_
  refine WT.cond rfl (fun c1 => ?_) (fun c1 => ?_)
  · replace h := ite_t h c1
    refine WT.seq ?_
    refine WT.region ?_
    refine lq (q_assign rfl) rfl ?_
    refine WL.nil ?_
    refine WT.ret Try.func154 (resOk.one rfl) (fun w1 hw => ?_)
    cases h
    exact post_of_St hw
  replace h := ite_f h c1
  refine WT.skip ?_
  refine WT.seq ?_
  refine WT.region ?_
  refine lq (q_fieldAddr Fld_220_2 rfl) rfl ?_
  refine lq (q_load1 T1_218 rfl (fun w1 hw => hw.rgO (i := 0) rfl 2 1 [pv0_0] rfl)) rfl ?_
  refine lq (q_move rfl) rfl ?_
  obtain ⟨x1, hx1, h⟩ := bind_some h
  refine lp (p_call Fun_221 rfl (fun w1 hw => m_l_szValS_ok hw.fro N p0.Consts (IntKind.i64.wrap (p1 - (p0.Kind.size : Int))) ph0_0 hx1)) rfl ?_
  refine lq (q_assign rfl) rfl ?_
  refine WL.nil ?_
  refine WT.seq ?_
  refine WT.seq ?_
  refine WT.region ?_
  refine lq (q_move rfl) rfl ?_
  refine lq (q_lss rfl rfl) rfl ?_
  refine WL.nil ?_
  refine WT.cond rfl (fun c2 => ?_) (fun c2 => ?_)
  · replace h := ite_t h c2
    refine WT.seq ?_
    refine WT.region ?_
    refine lq (q_assign rfl) rfl ?_
    refine WL.nil ?_
    refine WT.ret Try.func154 (resOk.one rfl) (fun w1 hw => ?_)
    cases h
    exact post_of_St hw
  replace h := ite_f h c2
  refine WT.skip ?_
  refine WT.seq ?_
  refine WT.region ?_
  refine lq (q_fieldAddr Fld_220_3 rfl) rfl ?_
  refine lq (q_load1 T1_78 rfl (fun w1 hw => hw.rgO (i := 0) rfl 3 1 [pv0_1] rfl)) rfl ?_
  refine lq (q_move rfl) rfl ?_
  obtain ⟨x2, hx2, h⟩ := bind_some h
  refine lp (p_call Fun_122 rfl (fun w1 hw => m_l_szIntS_ok hw.fro N p0.At x1 ph0_1 hx2)) rfl ?_
  refine lq (q_assign rfl) rfl ?_
  refine WL.nil ?_
  refine WT.seq ?_
  refine WT.seq ?_
  refine WT.region ?_
  refine lq (q_move rfl) rfl ?_
  refine lq (q_lss rfl rfl) rfl ?_
  refine WL.nil ?_
  refine WT.cond rfl (fun c3 => ?_) (fun c3 => ?_)
  · replace h := ite_t h c3
    refine WT.seq ?_
    refine WT.region ?_
    refine lq (q_assign rfl) rfl ?_
    refine WL.nil ?_
    refine WT.ret Try.func154 (resOk.one rfl) (fun w1 hw => ?_)
    cases h
    exact post_of_St hw
  replace h := ite_f h c3
  refine WT.skip ?_
  refine WT.seq ?_
  refine WT.region ?_
  refine lq (q_move rfl) rfl ?_
  refine lq (q_assign rfl) rfl ?_
  refine WL.nil ?_
  refine WT.ret Try.func154 (resOk.one rfl) (fun w1 hw => ?_)
  cases h
  exact post_of_St hw
theorem m_l_szAlphaS_ok {Φ : Hp} {w : World} (hΦ : In Φ w) (N : Nat) (p0 : (List TAlpha)) (p1 : Int) {pv0 : Value} {pG0 : List Nat} (ph0 : RSl RTAlpha 4 Φ pG0 pv0 p0) {r : Int} (h : m_l_szAlphaS N p0 p1 = some r) :
    Calls Try.prog 73 [pv0, .int .i64 p1].toArray w (Post (.int .i64 r) w) := by
  refine enter Try.func73 rfl Try.ntmps73 rfl (St.start0 hΦ) ?_
  generalize hb0 : (⟨w, [], Φ⟩ : Base) = w0
  unfold m_l_szAlphaS at h
  refine WT.seq ?_
  refine WT.region ?_
  refine lq (q_assign rfl) rfl ?_
  refine WL.nil ?_
  refine WT.seq ?_
  refine WT.region ?_
  refine lq (q_move rfl) rfl ?_
  refine lq (q_move rfl) rfl ?_
  refine lq (q_lenR Sl_33 rfl rfl ph0) rfl ?_
  refine lq (q_sub rfl rfl) rfl ?_
  refine lq (q_assign rfl) rfl ?_
  refine WL.nil ?_
  refine WT.seq ?_
  refine WT.seq ?_
  refine WT.region ?_
  refine lq (q_move rfl) rfl ?_
  refine lq (q_lss rfl rfl) rfl ?_
  refine WL.nil ?_
  refine WT.cond rfl (fun c1 => ?_) (fun c1 => ?_)
  · replace h := ite_t h c1
    refine WT.seq ?_
    refine WT.region ?_
    refine lq (q_assign rfl) rfl ?_
    refine WL.nil ?_
    refine WT.ret Try.func73 (resOk.one rfl) (fun w1 hw => ?_)
    subst hb0
    cases h
    exact post_of_St hw
  replace h := ite_f h c1
  refine WT.skip ?_
  refine WT.seq ?_
  refine WT.seq ?_
  refine WT.region ?_
  refine lq (q_assign rfl) rfl ?_
  refine WL.nil ?_
  refine WT.block ?_
  refine WT.loop ?_
  refine WT.mono (l' := [(0, pv0), (1, .int .i64 (IntKind.i64.wrap (p1 - (p0.length : Int)))), (5, .int .i64 0)]) (S' := St w0 Φ [] []) ⟨rfl, rfl, rfl, trivial⟩ (fun w1 hw => (hw.sel (js := []) rfl).selO (js := []) rfl) ?_
  refine loop_ind (σ := Int × Int) (fun s => [(0, pv0), (1, .int .i64 s.1), (5, .int .i64 s.2)]) (fun s => St w0 Φ [] []) (fun m s => m_l_szAlphaS_l1 N p0 m s.1 s.2 = some r) (fun s hm => none_ne (show (none : Option (Int)) = some r from hm)) (fun n1 ih1 s hm => ?_) N (IntKind.i64.wrap (p1 - (p0.length : Int)), 0) h
  obtain ⟨s1, s2⟩ := s
  have h : m_l_szAlphaS_l1 N p0 (n1 + 1) s1 s2 = some r := hm
  show WT _ _ [(0, pv0), (1, .int .i64 s1), (5, .int .i64 s2)] (St w0 Φ [] [])
  unfold m_l_szAlphaS_l1 at h
  refine WT.seq ?_
  refine WT.seq ?_
  refine WT.region ?_
  refine lq (q_move rfl) rfl ?_
  refine lq (q_move rfl) rfl ?_
  refine lq (q_lenR Sl_33 rfl rfl ph0) rfl ?_
  refine lq (q_lss rfl rfl) rfl ?_
  refine WL.nil ?_
  refine WT.cond rfl (fun c2 => ?_) (fun c2 => ?_)
  · replace h := ite_t h c2
    refine WT.skip ?_
    refine WT.seq ?_
    refine WT.block ?_
    refine WT.seq ?_
    refine WT.region ?_
    refine lq (q_move rfl) rfl ?_
    refine lq (q_move rfl) rfl ?_
    obtain ⟨x1, hx1, h⟩ := bind_some h
    obtain ⟨cs1, F1, -, g1, hb1, hs1, r1⟩ := ph0.el (idx_some hx1).2.2
    obtain ⟨v1, G1, v2, G2, rfl, rfl, h1, h2⟩ := r1
    refine lq (q_indexAddr Sl_33 rfl rfl ph0 hx1) rfl ?_
    refine lq (q_loadN Tn_220 rfl (fun w1 hw => (g1.of_eq 0 4 rfl rfl : rg _ _ _ [.string x1.Kind, .int .i64 x1.N, v1, v2]).rangeAt hw.fro) rfl) rfl ?_
    refine lq (q_move rfl) rfl ?_
    obtain ⟨x2, hx2, h⟩ := bind_some h
    refine lp (p_call Fun_154 rfl (fun w1 hw => m_l_szAlpha_ok hw.fro N x1 s1 h1 h2 hx2)) rfl ?_
    refine lq (q_assign rfl) rfl ?_
    refine WL.nil ?_
    refine WT.seq ?_
    refine WT.region ?_
    refine lq (q_move rfl) rfl ?_
    refine lq (q_lss rfl rfl) rfl ?_
    refine WL.nil ?_
    refine WT.cond rfl (fun c3 => ?_) (fun c3 => ?_)
    · replace h := ite_t h c3
      refine WT.seq ?_
      refine WT.region ?_
      refine lq (q_assign rfl) rfl ?_
      refine WL.nil ?_
      refine WT.ret Try.func73 (resOk.one rfl) (fun w1 hw => ?_)
      subst hb0
      cases h
      exact post_of_St hw
    replace h := ite_f h c3
    refine WT.skip ?_
    refine WT.inBlock ?_
    refine WT.region ?_
    refine lq (q_move rfl) rfl ?_
    refine lq (q_add rfl rfl) rfl ?_
    refine lq (q_assign rfl) rfl ?_
    refine WL.nil ?_
    refine WT.inLoop (WT.mono (l' := [(0, pv0), (1, .int .i64 x2), (5, .int .i64 (IntKind.i64.wrap (s2 + 1)))]) (S' := St w0 Φ [] []) ⟨rfl, rfl, rfl, trivial⟩ (fun w1 hw => (hw.sel (js := []) rfl).selO (js := []) rfl) ?_)
    exact ih1 (x2, IntKind.i64.wrap (s2 + 1)) h
  replace h := ite_f h c2
  refine WT.exit rfl ?_
  refine WT.seq ?_
  refine WT.region ?_
  refine lq (q_move rfl) rfl ?_
  refine lq (q_assign rfl) rfl ?_
  refine WL.nil ?_
  refine WT.ret Try.func73 (resOk.one rfl) (fun w1 hw => ?_)
  subst hb0
  cases h
  exact post_of_St hw
theorem m_l_szChain_ok {Φ : Hp} {w : World} (hΦ : In Φ w) (N : Nat) (p0 : TChain) (p1 : Int) {pv0_0 : Value} {pG0_0 : List Nat} {pv0_1 : Value} {pG0_1 : List Nat} (ph0_0 : RSl (RI .i64) 1 Φ pG0_0 pv0_0 p0.Pos) (ph0_1 : RSl (RI .i64) 1 Φ pG0_1 pv0_1 p0.Neg) {r : Int} (h : m_l_szChain N p0 p1 = some r) :
    Calls Try.prog 155 [.agg [pv0_0, pv0_1].toArray, .int .i64 p1].toArray w (Post (.int .i64 r) w) := by
  refine enter Try.func155 rfl Try.ntmps155 rfl (St.start0 hΦ) ?_
  unfold m_l_szChain at h
  refine WT.seq ?_
  refine WT.region ?_
  refine ln (n_box (C := #[pv0_0, pv0_1]) rfl rfl) rfl (fun b_1 => ?_)
  refine lq (q_assign rfl) rfl ?_
  refine WL.nil ?_
  refine WT.seq ?_
  refine WT.region ?_
  refine lq (q_fieldAddr Fld_222_0 rfl) rfl ?_
  refine lq (q_load1 T1_78 rfl (fun w1 hw => hw.rgO (i := 0) rfl 0 1 [pv0_0] rfl)) rfl ?_
  refine lq (q_move rfl) rfl ?_
  obtain ⟨x1, hx1, h⟩ := bind_some h
  refine lp (p_call Fun_122 rfl (fun w1 hw => m_l_szIntS_ok hw.fro N p0.Pos p1 ph0_0 hx1)) rfl ?_
  refine lq (q_assign rfl) rfl ?_
  refine WL.nil ?_
  refine WT.seq ?_
  refine WT.seq ?_
  refine WT.region ?_
  refine lq (q_move rfl) rfl ?_
  refine lq (q_lss rfl rfl) rfl ?_
  refine WL.nil ?_
  refine WT.cond rfl (fun c1 => ?_) (fun c1 => ?_)
  · replace h := ite_t h c1
    refine WT.seq ?_
    refine WT.region ?_
    refine lq (q_assign rfl) rfl ?_
    refine WL.nil ?_
    refine WT.ret Try.func155 (resOk.one rfl) (fun w1 hw => ?_)
    cases h
    exact post_of_St hw
  replace h := ite_f h c1
  refine WT.skip ?_
  refine WT.seq ?_
  refine WT.region ?_
  refine lq (q_fieldAddr Fld_222_1 rfl) rfl ?_
  refine lq (q_load1 T1_78 rfl (fun w1 hw => hw.rgO (i := 0) rfl 1 1 [pv0_1] rfl)) rfl ?_
  refine lq (q_move rfl) rfl ?_
  obtain ⟨x2, hx2, h⟩ := bind_some h
  refine lp (p_call Fun_122 rfl (fun w1 hw => m_l_szIntS_ok hw.fro N p0.Neg x1 ph0_1 hx2)) rfl ?_
  refine lq (q_assign rfl) rfl ?_
  refine WL.nil ?_
  refine WT.seq ?_
  refine WT.seq ?_
  refine WT.region ?_
  refine lq (q_move rfl) rfl ?_
  refine lq (q_lss rfl rfl) rfl ?_
  refine WL.nil ?_
  refine WT.cond rfl (fun c2 => ?_) (fun c2 => ?_)
  · replace h := ite_t h c2
    refine WT.seq ?_
    refine WT.region ?_
    refine lq (q_assign rfl) rfl ?_
    refine WL.nil ?_
    refine WT.ret Try.func155 (resOk.one rfl) (fun w1 hw => ?_)
    cases h
    exact post_of_St hw
  replace h := ite_f h c2
  refine WT.skip ?_
  refine WT.seq ?_
  refine WT.region ?_
  refine lq (q_move rfl) rfl ?_
  refine lq (q_assign rfl) rfl ?_
  refine WL.nil ?_
  refine WT.ret Try.func155 (resOk.one rfl) (fun w1 hw => ?_)
  cases h
  exact post_of_St hw
theorem m_l_szChainS_ok {Φ : Hp} {w : World} (hΦ : In Φ w) (N : Nat) (p0 : (List TChain)) (p1 : Int) {pv0 : Value} {pG0 : List Nat} (ph0 : RSl RTChain 2 Φ pG0 pv0 p0) {r : Int} (h : m_l_szChainS N p0 p1 = some r) :
    Calls Try.prog 74 [pv0, .int .i64 p1].toArray w (Post (.int .i64 r) w) := by
  refine enter Try.func74 rfl Try.ntmps74 rfl (St.start0 hΦ) ?_
  generalize hb0 : (⟨w, [], Φ⟩ : Base) = w0
  unfold m_l_szChainS at h
  refine WT.seq ?_
  refine WT.region ?_
  refine lq (q_assign rfl) rfl ?_
  refine WL.nil ?_
  refine WT.seq ?_
  refine WT.region ?_
  refine lq (q_move rfl) rfl ?_
  refine lq (q_move rfl) rfl ?_
  refine lq (q_lenR Sl_34 rfl rfl ph0) rfl ?_
  refine lq (q_sub rfl rfl) rfl ?_
  refine lq (q_assign rfl) rfl ?_
  refine WL.nil ?_
  refine WT.seq ?_
  refine WT.seq ?_
  refine WT.region ?_
  refine lq (q_move rfl) rfl ?_
  refine lq (q_lss rfl rfl) rfl ?_
  refine WL.nil ?_
  refine WT.cond rfl (fun c1 => ?_) (fun c1 => ?_)
  · replace h := ite_t h c1
    refine WT.seq ?_
    refine WT.region ?_
    refine lq (q_assign rfl) rfl ?_
    refine WL.nil ?_
    refine WT.ret Try.func74 (resOk.one rfl) (fun w1 hw => ?_)
    subst hb0
    cases h
    exact post_of_St hw
  replace h := ite_f h c1
  refine WT.skip ?_
  refine WT.seq ?_
  refine WT.seq ?_
  refine WT.region ?_
  refine lq (q_assign rfl) rfl ?_
  refine WL.nil ?_
  refine WT.block ?_
  refine WT.loop ?_
  refine WT.mono (l' := [(0, pv0), (1, .int .i64 (IntKind.i64.wrap (p1 - (p0.length : Int)))), (5, .int .i64 0)]) (S' := St w0 Φ [] []) ⟨rfl, rfl, rfl, trivial⟩ (fun w1 hw => (hw.sel (js := []) rfl).selO (js := []) rfl) ?_
  refine loop_ind (σ := Int × Int) (fun s => [(0, pv0), (1, .int .i64 s.1), (5, .int .i64 s.2)]) (fun s => St w0 Φ [] []) (fun m s => m_l_szChainS_l1 N p0 m s.1 s.2 = some r) (fun s hm => none_ne (show (none : Option (Int)) = some r from hm)) (fun n1 ih1 s hm => ?_) N (IntKind.i64.wrap (p1 - (p0.length : Int)), 0) h
  obtain ⟨s1, s2⟩ := s
  have h : m_l_szChainS_l1 N p0 (n1 + 1) s1 s2 = some r := hm
  show WT _ _ [(0, pv0), (1, .int .i64 s1), (5, .int .i64 s2)] (St w0 Φ [] [])
  unfold m_l_szChainS_l1 at h
  refine WT.seq ?_
  refine WT.seq ?_
  refine WT.region ?_
  refine lq (q_move rfl) rfl ?_
  refine lq (q_move rfl) rfl ?_
  refine lq (q_lenR Sl_34 rfl rfl ph0) rfl ?_
  refine lq (q_lss rfl rfl) rfl ?_
  refine WL.nil ?_
  refine WT.cond rfl (fun c2 => ?_) (fun c2 => ?_)
  · replace h := ite_t h c2
    refine WT.skip ?_
    refine WT.seq ?_
    refine WT.block ?_
    refine WT.seq ?_
    refine WT.region ?_
    refine lq (q_move rfl) rfl ?_
    refine lq (q_move rfl) rfl ?_
    obtain ⟨x1, hx1, h⟩ := bind_some h
    obtain ⟨cs1, F1, -, g1, hb1, hs1, r1⟩ := ph0.el (idx_some hx1).2.2
    obtain ⟨v1, G1, v2, G2, rfl, rfl, h1, h2⟩ := r1
    refine lq (q_indexAddr Sl_34 rfl rfl ph0 hx1) rfl ?_
    refine lq (q_loadN Tn_222 rfl (fun w1 hw => (g1.of_eq 0 2 rfl rfl : rg _ _ _ [v1, v2]).rangeAt hw.fro) rfl) rfl ?_
    refine lq (q_move rfl) rfl ?_
    obtain ⟨x2, hx2, h⟩ := bind_some h
    refine lp (p_call Fun_155 rfl (fun w1 hw => m_l_szChain_ok hw.fro N x1 s1 h1 h2 hx2)) rfl ?_
    refine lq (q_assign rfl) rfl ?_
    refine WL.nil ?_
    refine WT.seq ?_
    refine WT.region ?_
    refine lq (q_move rfl) rfl ?_
    refine lq (q_lss rfl rfl) rfl ?_
    refine WL.nil ?_
    refine WT.cond rfl (fun c3 => ?_) (fun c3 => ?_)
    · replace h := ite_t h c3
      refine WT.seq ?_
      refine WT.region ?_
      refine lq (q_assign rfl) rfl ?_
      refine WL.nil ?_
      refine WT.ret Try.func74 (resOk.one rfl) (fun w1 hw => ?_)
      subst hb0
      cases h
      exact post_of_St hw
    replace h := ite_f h c3
    refine WT.skip ?_
    refine WT.inBlock ?_
    refine WT.region ?_
    refine lq (q_move rfl) rfl ?_
    refine lq (q_add rfl rfl) rfl ?_
    refine lq (q_assign rfl) rfl ?_
    refine WL.nil ?_
    refine WT.inLoop (WT.mono (l' := [(0, pv0), (1, .int .i64 x2), (5, .int .i64 (IntKind.i64.wrap (s2 + 1)))]) (S' := St w0 Φ [] []) ⟨rfl, rfl, rfl, trivial⟩ (fun w1 hw => (hw.sel (js := []) rfl).selO (js := []) rfl) ?_)
    exact ih1 (x2, IntKind.i64.wrap (s2 + 1)) h
  replace h := ite_f h c2
  refine WT.exit rfl ?_
  refine WT.seq ?_
  refine WT.region ?_
  refine lq (q_move rfl) rfl ?_
  refine lq (q_assign rfl) rfl ?_
  refine WL.nil ?_
  refine WT.ret Try.func74 (resOk.one rfl) (fun w1 hw => ?_)
  subst hb0
  cases h
  exact post_of_St hw
theorem m_l_szNet_ok {Φ : Hp} {w : World} (hΦ : In Φ w) (N : Nat) (p0 : TNet) (p1 : Int) {pv0_0 : Value} {pG0_0 : List Nat} {pv0_1 : Value} {pG0_1 : List Nat} (ph0_0 : RSl RTAlpha 4 Φ pG0_0 pv0_0 p0.Alphas) (ph0_1 : RSl RTChain 2 Φ pG0_1 pv0_1 p0.Chains) {r : Int} (h : m_l_szNet N p0 p1 = some r) :
    Calls Try.prog 18 [.agg [pv0_0, pv0_1].toArray, .int .i64 p1].toArray w (Post (.int .i64 r) w) := by
  refine enter Try.func18 rfl Try.ntmps18 rfl (St.start0 hΦ) ?_
  unfold m_l_szNet at h
  refine WT.seq ?_
  refine WT.region ?_
  refine ln (n_box (C := #[pv0_0, pv0_1]) rfl rfl) rfl (fun b_1 => ?_)
  refine lq (q_assign rfl) rfl ?_
  refine WL.nil ?_
  refine WT.seq ?_
  refine WT.region ?_
  refine lq (q_fieldAddr Fld_36_0 rfl) rfl ?_
  refine lq (q_load1 T1_33 rfl (fun w1 hw => hw.rgO (i := 0) rfl 0 1 [pv0_0] rfl)) rfl ?_
  refine lq (q_move rfl) rfl ?_
  obtain ⟨x1, hx1, h⟩ := bind_some h
  refine lp (p_call Fun_73 rfl (fun w1 hw => m_l_szAlphaS_ok hw.fro N p0.Alphas p1 ph0_0 hx1)) rfl ?_
  refine lq (q_assign rfl) rfl ?_
  refine WL.nil ?_
  refine WT.seq ?_
  refine WT.seq ?_
  refine WT.region ?_
  refine lq (q_move rfl) rfl ?_
  refine lq (q_lss rfl rfl) rfl ?_
  refine WL.nil ?_
  refine WT.cond rfl (fun c1 => ?_) (fun c1 => ?_)
  · replace h := ite_t h c1
    refine WT.seq ?_
    refine WT.region ?_
    refine lq (q_assign rfl) rfl ?_
    refine WL.nil ?_
    refine WT.ret Try.func18 (resOk.one rfl) (fun w1 hw => ?_)
    cases h
    exact post_of_St hw
  replace h := ite_f h c1
  refine WT.skip ?_
  refine WT.seq ?_
  refine WT.region ?_
  refine lq (q_fieldAddr Fld_36_1 rfl) rfl ?_
  refine lq (q_load1 T1_34 rfl (fun w1 hw => hw.rgO (i := 0) rfl 1 1 [pv0_1] rfl)) rfl ?_
  refine lq (q_move rfl) rfl ?_
  obtain ⟨x2, hx2, h⟩ := bind_some h
  refine lp (p_call Fun_74 rfl (fun w1 hw => m_l_szChainS_ok hw.fro N p0.Chains x1 ph0_1 hx2)) rfl ?_
  refine lq (q_assign rfl) rfl ?_
  refine WL.nil ?_
  refine WT.seq ?_
  refine WT.seq ?_
  refine WT.region ?_
  refine lq (q_move rfl) rfl ?_
  refine lq (q_lss rfl rfl) rfl ?_
  refine WL.nil ?_
  refine WT.cond rfl (fun c2 => ?_) (fun c2 => ?_)
  · replace h := ite_t h c2
    refine WT.seq ?_
    refine WT.region ?_
    refine lq (q_assign rfl) rfl ?_
    refine WL.nil ?_
    refine WT.ret Try.func18 (resOk.one rfl) (fun w1 hw => ?_)
    cases h
    exact post_of_St hw
  replace h := ite_f h c2
  refine WT.skip ?_
  refine WT.seq ?_
  refine WT.region ?_
  refine lq (q_move rfl) rfl ?_
  refine lq (q_assign rfl) rfl ?_
  refine WL.nil ?_
  refine WT.ret Try.func18 (resOk.one rfl) (fun w1 hw => ?_)
  cases h
  exact post_of_St hw
theorem m_s_MemNew_ok {Φ : Hp} {w : World} (hΦ : In Φ w) (N : Nat) (p0 : TNet) {pv0_0 : Value} {pG0_0 : List Nat} {pv0_1 : Value} {pG0_1 : List Nat} (ph0_0 : RSl RTAlpha 4 Φ pG0_0 pv0_0 p0.Alphas) (ph0_1 : RSl RTChain 2 Φ pG0_1 pv0_1 p0.Chains) {r : TMem} (h : m_s_MemNew N p0 = some r) :
    Calls Try.prog 19 [.agg [pv0_0, pv0_1].toArray].toArray w (PostG Φ w [] (fun Φ' Fs v => ∃ (sr_0_0 : Value) (Dr_0_0 : List Nat) (sr_0_1 : Value) (Dr_0_1 : List Nat), v = .agg [sr_0_0, sr_0_1].toArray ∧ Fs = [ob sr_0_0, Dr_0_0, ob sr_0_1, Dr_0_1] ∧ OSl OTIds 130 1 Φ' Dr_0_0 sr_0_0 r.Alphas ∧ OSl OTRow 133 1 Φ' Dr_0_1 sr_0_1 r.Rules)) := by
  refine enter Try.func19 rfl Try.ntmps19 rfl (St.start0 hΦ) ?_
  have pa0_0 : Old ⟨w, [], Φ⟩ pG0_0 := Old.mk hΦ ph0_0.kn (Dj.empty _)
  have pa0_1 : Old ⟨w, [], Φ⟩ pG0_1 := Old.mk hΦ ph0_1.kn (Dj.empty _)
  revert pa0_0 pa0_1
  generalize hb0 : (⟨w, [], Φ⟩ : Base) = w0
  intro pa0_0 pa0_1
  unfold m_s_MemNew at h
  refine WT.seq ?_
  refine WT.region ?_
  refine ln (n_box (C := #[pv0_0, pv0_1]) rfl rfl) rfl (fun b_1 => ?_)
  refine ln (n_alloc (C := #[.slice none 0 0, .slice none 0 0]) Zr_41 rfl) rfl (fun b_2 => ?_)
  refine WL.nil ?_
  refine WT.seq ?_
  refine WT.region ?_
  refine lq (q_build (vs := []) (C := #[.slice none 0 0, .slice none 0 0]) Pl_41 Zr_41 rfl (fill_nil)) rfl ?_
  refine ln (n_alloc (C := #[.slice none 0 0, .slice none 0 0]) Zr_41 rfl) rfl (fun b_3 => ?_)
  refine ls (s_store (i := 0) (vs := [.slice none 0 0, .slice none 0 0]) (C' := [.slice none 0 0, .slice none 0 0]) (O' := [(b_3, .cells #[.slice none 0 0, .slice none 0 0] 41 (0, 0)), (b_2, .cells #[.slice none 0 0, .slice none 0 0] 41 (0, 0)), (b_1, .cells #[pv0_0, pv0_1] 46 (0, 0))]) Sz_41 rfl rfl rfl rfl rfl rfl ⟨rfl, rfl, trivial⟩ rfl rfl) rfl ?_
  refine WL.nil ?_
  refine WT.seq ?_
  refine WT.seq ?_
  refine WT.region ?_
  refine lq (q_assign rfl) rfl ?_
  refine WL.nil ?_
  refine WT.block ?_
  refine WT.loop ?_
  refine WT.conv (S' := St w0 Φ [(b_3, .cells #[.slice none 0 0, .slice none 0 0] 41 (0, 0)), (b_2, .cells #[.slice none 0 0, .slice none 0 0] 41 (0, 0)), (b_1, .cells #[pv0_0, pv0_1] 46 (0, 0))] (ob (.slice none 0 0) :: [])) (fun w1 hw => hw.addNil) ?_
  refine WT.conv (S' := St w0 Φ [(b_3, .cells #[.slice none 0 0, .slice none 0 0] 41 (0, 0)), (b_2, .cells #[.slice none 0 0, .slice none 0 0] 41 (0, 0)), (b_1, .cells #[pv0_0, pv0_1] 46 (0, 0))] ([] :: [ob (.slice none 0 0)])) (fun w1 hw => hw.addNil) ?_
  have k1 := OSl.nil OTIds 130 1 Φ
  refine WT.mono (l' := [(1, .pointer (some ⟨b_1, 0, none⟩)), (2, .pointer (some ⟨b_2, 0, none⟩)), (3, .pointer (some ⟨b_3, 0, none⟩)), (4, .int .i64 0)]) (S' := St w0 Φ [(b_3, .cells #[(.slice none 0 0), .slice none 0 0] 41 (0, 0)), (b_2, .cells #[.slice none 0 0, .slice none 0 0] 41 (0, 0)), (b_1, .cells #[pv0_0, pv0_1] 46 (0, 0))] [[], ob (.slice none 0 0)]) ⟨rfl, rfl, rfl, rfl, trivial⟩ (fun w1 hw => (hw.sel (js := [0, 0]) rfl).selO (js := [0, 0, 0]) rfl) ?_
  refine loop_ind (σ := Hp × (List TIds) × Value × List Nat × Int) (fun s => [(1, .pointer (some ⟨b_1, 0, none⟩)), (2, .pointer (some ⟨b_2, 0, none⟩)), (3, .pointer (some ⟨b_3, 0, none⟩)), (4, .int .i64 s.2.2.2.2)]) (fun s => St w0 s.1 [(b_3, .cells #[s.2.2.1, .slice none 0 0] 41 (0, 0)), (b_2, .cells #[.slice none 0 0, .slice none 0 0] 41 (0, 0)), (b_1, .cells #[pv0_0, pv0_1] 46 (0, 0))] [s.2.2.2.1, ob s.2.2.1]) (fun m s => m_s_MemNew_l1 N p0 m s.2.1 s.2.2.2.2 = some r ∧ (OSl OTIds 130 1 s.1 s.2.2.2.1 s.2.2.1 s.2.1) ∧ (RSl RTAlpha 4 s.1 pG0_0 pv0_0 p0.Alphas) ∧ (RSl RTChain 2 s.1 pG0_1 pv0_1 p0.Chains)) (fun s hm => none_ne (show (none : Option (TMem)) = some r from hm.1)) (fun n1 ih1 s hm => ?_) N (Φ, ([] : List TIds), (.slice none 0 0), [], 0) ⟨h, k1, ph0_0, ph0_1⟩
  obtain ⟨Φ_1, s1, u1, D1, s2⟩ := s
  obtain ⟨h, k2, ph0_0, ph0_1⟩ := hm
  replace h : m_s_MemNew_l1 N p0 (n1 + 1) s1 s2 = some r := h
  replace k2 : OSl OTIds 130 1 Φ_1 D1 u1 s1 := k2
  replace ph0_0 : RSl RTAlpha 4 Φ_1 pG0_0 pv0_0 p0.Alphas := ph0_0
  replace ph0_1 : RSl RTChain 2 Φ_1 pG0_1 pv0_1 p0.Chains := ph0_1
  show WT _ _ [(1, .pointer (some ⟨b_1, 0, none⟩)), (2, .pointer (some ⟨b_2, 0, none⟩)), (3, .pointer (some ⟨b_3, 0, none⟩)), (4, .int .i64 s2)] (St w0 Φ_1 [(b_3, .cells #[u1, .slice none 0 0] 41 (0, 0)), (b_2, .cells #[.slice none 0 0, .slice none 0 0] 41 (0, 0)), (b_1, .cells #[pv0_0, pv0_1] 46 (0, 0))] [D1, ob u1])
  unfold m_s_MemNew_l1 at h
  refine WT.seq ?_
  refine WT.seq ?_
  refine WT.region ?_
  refine lq (q_move rfl) rfl ?_
  refine lq (q_fieldAddr Fld_46_0 rfl) rfl ?_
  refine lq (q_load1 T1_43 rfl (fun w1 hw => hw.rgO (i := 2) rfl 0 1 [pv0_0] rfl)) rfl ?_
  refine lq (q_lenR Sl_43 rfl rfl ph0_0) rfl ?_
  refine lq (q_lss rfl rfl) rfl ?_
  refine WL.nil ?_
  refine WT.cond rfl (fun c1 => ?_) (fun c1 => ?_)
  · replace h := ite_t h c1
    refine WT.skip ?_
    refine WT.seq ?_
    refine WT.block ?_
    refine WT.region ?_
    refine lq (q_fieldAddr Fld_41_0 rfl) rfl ?_
    refine lq (q_load1 T1_38 rfl (fun w1 hw => hw.rgO (i := 0) rfl 0 1 [u1] rfl)) rfl ?_
    refine lq (q_build (vs := []) (C := #[.slice none 0 0]) Pl_130 Zr_130 rfl (fill_nil)) rfl ?_
    have rc1 : RC OTIds 1 Φ_1 ([(ob (.slice none 0 0) ++ [])] : List (List Nat)) [.slice none 0 0] ([(⟨[]⟩ : TIds)] : List TIds) := RC.cons (c := [.slice none 0 0]) (cells := []) ⟨.slice none 0 0, rfl, rfl, OSl.nil _ _ _ _⟩ rfl (RC.nil _ _ _)
    refine le' (e_lit (vs := [(0, .agg [.slice none 0 0].toArray)]) (C := #[.slice none 0 0]) OTIds.lasts Sl_38 Zr_130 rfl rfl rfl rfl (fill_made MC_130_1 (fill_cons (cells := [.slice none 0 0]) (c := [.slice none 0 0]) (C' := [.slice none 0 0]) rfl rfl rfl rfl rfl (fill_nil))) rfl rc1 rfl (RC.kn OTIds.knows rc1)) rfl (fun v1 Φ_2 D2 q1 => ?_)
    obtain ⟨fr1, h1⟩ := q1
    replace h1 : OSl OTIds 130 1 Φ_2 ((ob (.slice none 0 0) ++ [])) v1 ([(⟨[]⟩ : TIds)] : List TIds) := by simpa [List.append_assoc] using h1
    replace ph0_0 := ph0_0.frame RTAlpha.lasts fr1 (Dj.empty _)
    replace ph0_1 := ph0_1.frame RTChain.lasts fr1 (Dj.empty _)
    replace k2 := k2.frame OTIds.lasts fr1 (Dj.empty _) (Dj.empty _)
    refine WL.conv (S' := St w0 Φ_2 [(b_3, .cells #[u1, .slice none 0 0] 41 (0, 0)), (b_2, .cells #[.slice none 0 0, .slice none 0 0] 41 (0, 0)), (b_1, .cells #[pv0_0, pv0_1] 46 (0, 0))] [((ob (.slice none 0 0) ++ [])), ob v1, D1, ob u1]) (fun w1 hw => hw.merge (js := []) rfl (SP.eq (by simp [List.append_assoc, ob_nil]))) ?_
    obtain ⟨x1, hx1, h⟩ := bind_some h
    refine le' (e_appO OTIds.lasts OTIds.one Sl_38 Ei_130 rfl rfl rfl rfl rfl (js := [3]) (Rr := [((ob (.slice none 0 0) ++ [])), ob v1, D1]) rfl k2 h1 (fun ap => (ap.r (i := 2) rfl)) (fun ap => (ap.r (i := 0) rfl)) hx1) rfl (fun v2 Φ_3 D3 q2 => ?_)
    obtain ⟨⟨ap1, fr2⟩, h2⟩ := q2
    replace ph0_0 := ph0_0.frame RTAlpha.lasts fr2 (ap1.o pa0_0)
    replace ph0_1 := ph0_1.frame RTChain.lasts fr2 (ap1.o pa0_1)
    refine WL.conv (S' := St w0 Φ_3 [(b_3, .cells #[u1, .slice none 0 0] 41 (0, 0)), (b_2, .cells #[.slice none 0 0, .slice none 0 0] 41 (0, 0)), (b_1, .cells #[pv0_0, pv0_1] 46 (0, 0))] [(D1 ++ ((ob (.slice none 0 0) ++ []))), ob v2, ob v1]) (fun w1 hw => hw.merge (js := [3, 1]) rfl (SP.eq (by simp))) ?_
    refine lq (q_fieldAddr Fld_41_0 rfl) rfl ?_
    refine ls (s_store (i := 0) (vs := [v2]) (C' := [v2, .slice none 0 0]) (O' := [(b_3, .cells #[v2, .slice none 0 0] 41 (0, 0)), (b_2, .cells #[.slice none 0 0, .slice none 0 0] 41 (0, 0)), (b_1, .cells #[pv0_0, pv0_1] 46 (0, 0))]) Sz_38 rfl rfl rfl (one_cells h2.one) rfl rfl ⟨h2.one, trivial⟩ rfl rfl) rfl ?_
    refine WL.nil ?_
    refine WT.inBlock ?_
    refine WT.region ?_
    refine lq (q_move rfl) rfl ?_
    refine lq (q_add rfl rfl) rfl ?_
    refine lq (q_assign rfl) rfl ?_
    refine WL.nil ?_
    refine WT.inLoop (WT.mono (l' := [(1, .pointer (some ⟨b_1, 0, none⟩)), (2, .pointer (some ⟨b_2, 0, none⟩)), (3, .pointer (some ⟨b_3, 0, none⟩)), (4, .int .i64 (IntKind.i64.wrap (s2 + 1)))]) (S' := St w0 Φ_3 [(b_3, .cells #[v2, .slice none 0 0] 41 (0, 0)), (b_2, .cells #[.slice none 0 0, .slice none 0 0] 41 (0, 0)), (b_1, .cells #[pv0_0, pv0_1] 46 (0, 0))] [(D1 ++ ((ob (.slice none 0 0) ++ []))), ob v2]) ⟨rfl, rfl, rfl, rfl, trivial⟩ (fun w1 hw => (hw.sel (js := [0, 0]) rfl).selO (js := [0, 0, 0]) rfl) ?_)
    exact ih1 (Φ_3, x1, v2, (D1 ++ ((ob (.slice none 0 0) ++ []))), IntKind.i64.wrap (s2 + 1)) ⟨h, h2, ph0_0, ph0_1⟩
  replace h := ite_f h c1
  refine WT.exit rfl ?_
  refine WT.seq ?_
  refine WT.seq ?_
  refine WT.region ?_
  refine lq (q_assign rfl) rfl ?_
  refine WL.nil ?_
  refine WT.block ?_
  refine WT.loop ?_
  refine WT.conv (S' := St w0 Φ_1 [(b_3, .cells #[u1, .slice none 0 0] 41 (0, 0)), (b_2, .cells #[.slice none 0 0, .slice none 0 0] 41 (0, 0)), (b_1, .cells #[pv0_0, pv0_1] 46 (0, 0))] (ob (.slice none 0 0) :: [D1, ob u1])) (fun w1 hw => hw.addNil) ?_
  refine WT.conv (S' := St w0 Φ_1 [(b_3, .cells #[u1, .slice none 0 0] 41 (0, 0)), (b_2, .cells #[.slice none 0 0, .slice none 0 0] 41 (0, 0)), (b_1, .cells #[pv0_0, pv0_1] 46 (0, 0))] ([] :: [ob (.slice none 0 0), D1, ob u1])) (fun w1 hw => hw.addNil) ?_
  have k3 := OSl.nil OTRow 133 1 Φ_1
  refine WT.mono (l' := [(1, .pointer (some ⟨b_1, 0, none⟩)), (2, .pointer (some ⟨b_2, 0, none⟩)), (3, .pointer (some ⟨b_3, 0, none⟩)), (5, .int .i64 0)]) (S' := St w0 Φ_1 [(b_3, .cells #[u1, (.slice none 0 0)] 41 (0, 0)), (b_2, .cells #[.slice none 0 0, .slice none 0 0] 41 (0, 0)), (b_1, .cells #[pv0_0, pv0_1] 46 (0, 0))] [[], ob (.slice none 0 0), D1, ob u1]) ⟨rfl, rfl, rfl, rfl, trivial⟩ (fun w1 hw => (hw.sel (js := [0, 0, 0, 0]) rfl).selO (js := [0, 0, 0]) rfl) ?_
  refine loop_ind (σ := Hp × (List TRow) × Value × List Nat × Int) (fun s => [(1, .pointer (some ⟨b_1, 0, none⟩)), (2, .pointer (some ⟨b_2, 0, none⟩)), (3, .pointer (some ⟨b_3, 0, none⟩)), (5, .int .i64 s.2.2.2.2)]) (fun s => St w0 s.1 [(b_3, .cells #[u1, s.2.2.1] 41 (0, 0)), (b_2, .cells #[.slice none 0 0, .slice none 0 0] 41 (0, 0)), (b_1, .cells #[pv0_0, pv0_1] 46 (0, 0))] [s.2.2.2.1, ob s.2.2.1, D1, ob u1]) (fun m s => m_s_MemNew_l2 N p0 s1 m s.2.1 s.2.2.2.2 = some r ∧ (OSl OTIds 130 1 s.1 D1 u1 s1) ∧ (OSl OTRow 133 1 s.1 s.2.2.2.1 s.2.2.1 s.2.1) ∧ (RSl RTAlpha 4 s.1 pG0_0 pv0_0 p0.Alphas) ∧ (RSl RTChain 2 s.1 pG0_1 pv0_1 p0.Chains)) (fun s hm => none_ne (show (none : Option (TMem)) = some r from hm.1)) (fun n2 ih2 s hm => ?_) N (Φ_1, ([] : List TRow), (.slice none 0 0), [], 0) ⟨h, k2, k3, ph0_0, ph0_1⟩
  obtain ⟨Φ_4, s3, u2, D4, s4⟩ := s
  obtain ⟨h, k2, k4, ph0_0, ph0_1⟩ := hm
  replace h : m_s_MemNew_l2 N p0 s1 (n2 + 1) s3 s4 = some r := h
  replace k2 : OSl OTIds 130 1 Φ_4 D1 u1 s1 := k2
  replace k4 : OSl OTRow 133 1 Φ_4 D4 u2 s3 := k4
  replace ph0_0 : RSl RTAlpha 4 Φ_4 pG0_0 pv0_0 p0.Alphas := ph0_0
  replace ph0_1 : RSl RTChain 2 Φ_4 pG0_1 pv0_1 p0.Chains := ph0_1
  show WT _ _ [(1, .pointer (some ⟨b_1, 0, none⟩)), (2, .pointer (some ⟨b_2, 0, none⟩)), (3, .pointer (some ⟨b_3, 0, none⟩)), (5, .int .i64 s4)] (St w0 Φ_4 [(b_3, .cells #[u1, u2] 41 (0, 0)), (b_2, .cells #[.slice none 0 0, .slice none 0 0] 41 (0, 0)), (b_1, .cells #[pv0_0, pv0_1] 46 (0, 0))] [D4, ob u2, D1, ob u1])
  unfold m_s_MemNew_l2 at h
  refine WT.seq ?_
  refine WT.seq ?_
  refine WT.region ?_
  refine lq (q_move rfl) rfl ?_
  refine lq (q_fieldAddr Fld_46_1 rfl) rfl ?_
  refine lq (q_load1 T1_44 rfl (fun w1 hw => hw.rgO (i := 2) rfl 1 1 [pv0_1] rfl)) rfl ?_
  refine lq (q_lenR Sl_44 rfl rfl ph0_1) rfl ?_
  refine lq (q_lss rfl rfl) rfl ?_
  refine WL.nil ?_
  refine WT.cond rfl (fun c2 => ?_) (fun c2 => ?_)
  · replace h := ite_t h c2
    refine WT.skip ?_
    refine WT.seq ?_
    refine WT.block ?_
    refine WT.seq ?_
    refine WT.region ?_
    refine lq (q_build (vs := []) (C := #[.slice none 0 0]) Pl_133 Zr_133 rfl (fill_nil)) rfl ?_
    refine ln (n_alloc (C := #[.slice none 0 0]) Zr_133 rfl) rfl (fun b_4 => ?_)
    refine ls (s_store (i := 0) (vs := [.slice none 0 0]) (C' := [.slice none 0 0]) (O' := [(b_4, .cells #[.slice none 0 0] 133 (0, 0)), (b_3, .cells #[u1, u2] 41 (0, 0)), (b_2, .cells #[.slice none 0 0, .slice none 0 0] 41 (0, 0)), (b_1, .cells #[pv0_0, pv0_1] 46 (0, 0))]) Sz_133 rfl rfl rfl rfl rfl rfl ⟨rfl, trivial⟩ rfl rfl) rfl ?_
    refine WL.nil ?_
    refine WT.seq ?_
    refine WT.seq ?_
    refine WT.region ?_
    refine lq (q_assign rfl) rfl ?_
    refine WL.nil ?_
    refine WT.block ?_
    refine WT.loop ?_
    refine WT.conv (S' := St w0 Φ_4 [(b_4, .cells #[.slice none 0 0] 133 (0, 0)), (b_3, .cells #[u1, u2] 41 (0, 0)), (b_2, .cells #[.slice none 0 0, .slice none 0 0] 41 (0, 0)), (b_1, .cells #[pv0_0, pv0_1] 46 (0, 0))] (ob (.slice none 0 0) :: [D4, ob u2, D1, ob u1])) (fun w1 hw => hw.addNil) ?_
    refine WT.conv (S' := St w0 Φ_4 [(b_4, .cells #[.slice none 0 0] 133 (0, 0)), (b_3, .cells #[u1, u2] 41 (0, 0)), (b_2, .cells #[.slice none 0 0, .slice none 0 0] 41 (0, 0)), (b_1, .cells #[pv0_0, pv0_1] 46 (0, 0))] ([] :: [ob (.slice none 0 0), D4, ob u2, D1, ob u1])) (fun w1 hw => hw.addNil) ?_
    have k5 := OSl.nil OTLevel 136 1 Φ_4
    refine WT.mono (l' := [(1, .pointer (some ⟨b_1, 0, none⟩)), (2, .pointer (some ⟨b_2, 0, none⟩)), (3, .pointer (some ⟨b_3, 0, none⟩)), (5, .int .i64 s4), (6, .pointer (some ⟨b_4, 0, none⟩)), (7, .int .i64 0)]) (S' := St w0 Φ_4 [(b_4, .cells #[(.slice none 0 0)] 133 (0, 0)), (b_3, .cells #[u1, u2] 41 (0, 0)), (b_2, .cells #[.slice none 0 0, .slice none 0 0] 41 (0, 0)), (b_1, .cells #[pv0_0, pv0_1] 46 (0, 0))] [[], ob (.slice none 0 0), D4, ob u2, D1, ob u1]) ⟨rfl, rfl, rfl, rfl, rfl, rfl, trivial⟩ (fun w1 hw => (hw.sel (js := [0, 0, 0, 0, 0, 0]) rfl).selO (js := [0, 0, 0, 0]) rfl) ?_
    refine loop_ind (σ := Hp × (List TLevel) × Value × List Nat × Int) (fun s => [(1, .pointer (some ⟨b_1, 0, none⟩)), (2, .pointer (some ⟨b_2, 0, none⟩)), (3, .pointer (some ⟨b_3, 0, none⟩)), (5, .int .i64 s4), (6, .pointer (some ⟨b_4, 0, none⟩)), (7, .int .i64 s.2.2.2.2)]) (fun s => St w0 s.1 [(b_4, .cells #[s.2.2.1] 133 (0, 0)), (b_3, .cells #[u1, u2] 41 (0, 0)), (b_2, .cells #[.slice none 0 0, .slice none 0 0] 41 (0, 0)), (b_1, .cells #[pv0_0, pv0_1] 46 (0, 0))] [s.2.2.2.1, ob s.2.2.1, D4, ob u2, D1, ob u1]) (fun m s => m_s_MemNew_l3 N p0 s3 s4 (m_s_MemNew_l2 N p0 s1 n2) m s.2.1 s.2.2.2.2 = some r ∧ (OSl OTIds 130 1 s.1 D1 u1 s1) ∧ (OSl OTRow 133 1 s.1 D4 u2 s3) ∧ (OSl OTLevel 136 1 s.1 s.2.2.2.1 s.2.2.1 s.2.1) ∧ (RSl RTAlpha 4 s.1 pG0_0 pv0_0 p0.Alphas) ∧ (RSl RTChain 2 s.1 pG0_1 pv0_1 p0.Chains)) (fun s hm => none_ne (show (none : Option (TMem)) = some r from hm.1)) (fun n3 ih3 s hm => ?_) N (Φ_4, ([] : List TLevel), (.slice none 0 0), [], 0) ⟨h, k2, k4, k5, ph0_0, ph0_1⟩
    obtain ⟨Φ_5, s5, u3, D5, s6⟩ := s
    obtain ⟨h, k2, k4, k6, ph0_0, ph0_1⟩ := hm
    replace h : m_s_MemNew_l3 N p0 s3 s4 (m_s_MemNew_l2 N p0 s1 n2) (n3 + 1) s5 s6 = some r := h
    replace k2 : OSl OTIds 130 1 Φ_5 D1 u1 s1 := k2
    replace k4 : OSl OTRow 133 1 Φ_5 D4 u2 s3 := k4
    replace k6 : OSl OTLevel 136 1 Φ_5 D5 u3 s5 := k6
    replace ph0_0 : RSl RTAlpha 4 Φ_5 pG0_0 pv0_0 p0.Alphas := ph0_0
    replace ph0_1 : RSl RTChain 2 Φ_5 pG0_1 pv0_1 p0.Chains := ph0_1
    show WT _ _ [(1, .pointer (some ⟨b_1, 0, none⟩)), (2, .pointer (some ⟨b_2, 0, none⟩)), (3, .pointer (some ⟨b_3, 0, none⟩)), (5, .int .i64 s4), (6, .pointer (some ⟨b_4, 0, none⟩)), (7, .int .i64 s6)] (St w0 Φ_5 [(b_4, .cells #[u3] 133 (0, 0)), (b_3, .cells #[u1, u2] 41 (0, 0)), (b_2, .cells #[.slice none 0 0, .slice none 0 0] 41 (0, 0)), (b_1, .cells #[pv0_0, pv0_1] 46 (0, 0))] [D5, ob u3, D4, ob u2, D1, ob u1])
    unfold m_s_MemNew_l3 at h
    refine WT.seq ?_
    refine WT.seq ?_
    refine WT.region ?_
    refine lq (q_move rfl) rfl ?_
    refine lq (q_fieldAddr Fld_46_1 rfl) rfl ?_
    refine lq (q_load1 T1_44 rfl (fun w1 hw => hw.rgO (i := 3) rfl 1 1 [pv0_1] rfl)) rfl ?_
    refine lq (q_move rfl) rfl ?_
    obtain ⟨x2, hx2, h⟩ := bind_some h
    obtain ⟨cs1, F1, -, g1, hb1, hs1, r1⟩ := ph0_1.el (idx_some hx2).2.2
    obtain ⟨v3, G1, v4, G2, rfl, rfl, h3, h4⟩ := r1
    refine lq (q_indexAddr Sl_44 rfl rfl ph0_1 hx2) rfl ?_
    refine lq (q_fieldAddr Fld_116_0 rfl) rfl ?_
    refine lq (q_load1 T1_78 rfl (fun w1 hw => (g1.of_eq 0 1 rfl rfl : rg _ _ _ [v3]).rangeAt hw.fro)) rfl ?_
    refine lq (q_lenR Sl_78 rfl rfl h3) rfl ?_
    refine lq (q_lss rfl rfl) rfl ?_
    refine WL.nil ?_
    refine WT.cond rfl (fun c3 => ?_) (fun c3 => ?_)
    · replace h := ite_t h c3
      refine WT.skip ?_
      refine WT.seq ?_
      refine WT.block ?_
      refine WT.region ?_
      refine lq (q_fieldAddr Fld_133_0 rfl) rfl ?_
      refine lq (q_load1 T1_131 rfl (fun w1 hw => hw.rgO (i := 0) rfl 0 1 [u3] rfl)) rfl ?_
      refine lq (q_build (vs := []) (C := #[.slice none 0 0]) Pl_136 Zr_136 rfl (fill_nil)) rfl ?_
      have rc2 : RC OTLevel 1 Φ_5 ([(ob (.slice none 0 0) ++ [])] : List (List Nat)) [.slice none 0 0] ([(⟨[]⟩ : TLevel)] : List TLevel) := RC.cons (c := [.slice none 0 0]) (cells := []) ⟨.slice none 0 0, [], rfl, rfl, OSl.nil _ _ _ _⟩ rfl (RC.nil _ _ _)
      refine le' (e_lit (vs := [(0, .agg [.slice none 0 0].toArray)]) (C := #[.slice none 0 0]) OTLevel.lasts Sl_131 Zr_136 rfl rfl rfl rfl (fill_made MC_136_1 (fill_cons (cells := [.slice none 0 0]) (c := [.slice none 0 0]) (C' := [.slice none 0 0]) rfl rfl rfl rfl rfl (fill_nil))) rfl rc2 rfl (RC.kn OTLevel.knows rc2)) rfl (fun v5 Φ_6 D6 q3 => ?_)
      obtain ⟨fr3, h5⟩ := q3
      replace h5 : OSl OTLevel 136 1 Φ_6 ((ob (.slice none 0 0) ++ [])) v5 ([(⟨[]⟩ : TLevel)] : List TLevel) := by simpa [List.append_assoc] using h5
      replace ph0_0 := ph0_0.frame RTAlpha.lasts fr3 (Dj.empty _)
      replace ph0_1 := ph0_1.frame RTChain.lasts fr3 (Dj.empty _)
      replace k2 := k2.frame OTIds.lasts fr3 (Dj.empty _) (Dj.empty _)
      replace k4 := k4.frame OTRow.lasts fr3 (Dj.empty _) (Dj.empty _)
      replace k6 := k6.frame OTLevel.lasts fr3 (Dj.empty _) (Dj.empty _)
      refine WL.conv (S' := St w0 Φ_6 [(b_4, .cells #[u3] 133 (0, 0)), (b_3, .cells #[u1, u2] 41 (0, 0)), (b_2, .cells #[.slice none 0 0, .slice none 0 0] 41 (0, 0)), (b_1, .cells #[pv0_0, pv0_1] 46 (0, 0))] [((ob (.slice none 0 0) ++ [])), ob v5, D5, ob u3, D4, ob u2, D1, ob u1]) (fun w1 hw => hw.merge (js := []) rfl (SP.eq (by simp [List.append_assoc, ob_nil]))) ?_
      obtain ⟨x3, hx3, h⟩ := bind_some h
      refine le' (e_appO OTLevel.lasts OTLevel.one Sl_131 Ei_136 rfl rfl rfl rfl rfl (js := [3]) (Rr := [((ob (.slice none 0 0) ++ [])), ob v5, D5, D4, ob u2, D1, ob u1]) rfl k6 h5 (fun ap => (ap.r (i := 2) rfl)) (fun ap => (ap.r (i := 0) rfl)) hx3) rfl (fun v6 Φ_7 D7 q4 => ?_)
      obtain ⟨⟨ap2, fr4⟩, h6⟩ := q4
      replace ph0_0 := ph0_0.frame RTAlpha.lasts fr4 (ap2.o pa0_0)
      replace ph0_1 := ph0_1.frame RTChain.lasts fr4 (ap2.o pa0_1)
      replace k2 := k2.frame OTIds.lasts fr4 (ap2.r (i := 6) rfl) (ap2.r (i := 5) rfl)
      replace k4 := k4.frame OTRow.lasts fr4 (ap2.r (i := 4) rfl) (ap2.r (i := 3) rfl)
      refine WL.conv (S' := St w0 Φ_7 [(b_4, .cells #[u3] 133 (0, 0)), (b_3, .cells #[u1, u2] 41 (0, 0)), (b_2, .cells #[.slice none 0 0, .slice none 0 0] 41 (0, 0)), (b_1, .cells #[pv0_0, pv0_1] 46 (0, 0))] [(D5 ++ ((ob (.slice none 0 0) ++ []))), ob v6, ob v5, D4, ob u2, D1, ob u1]) (fun w1 hw => hw.merge (js := [3, 1]) rfl (SP.eq (by simp))) ?_
      refine lq (q_fieldAddr Fld_133_0 rfl) rfl ?_
      refine ls (s_store (i := 0) (vs := [v6]) (C' := [v6]) (O' := [(b_4, .cells #[v6] 133 (0, 0)), (b_3, .cells #[u1, u2] 41 (0, 0)), (b_2, .cells #[.slice none 0 0, .slice none 0 0] 41 (0, 0)), (b_1, .cells #[pv0_0, pv0_1] 46 (0, 0))]) Sz_131 rfl rfl rfl (one_cells h6.one) rfl rfl ⟨h6.one, trivial⟩ rfl rfl) rfl ?_
      refine WL.nil ?_
      refine WT.inBlock ?_
      refine WT.region ?_
      refine lq (q_move rfl) rfl ?_
      refine lq (q_add rfl rfl) rfl ?_
      refine lq (q_assign rfl) rfl ?_
      refine WL.nil ?_
      refine WT.inLoop (WT.mono (l' := [(1, .pointer (some ⟨b_1, 0, none⟩)), (2, .pointer (some ⟨b_2, 0, none⟩)), (3, .pointer (some ⟨b_3, 0, none⟩)), (5, .int .i64 s4), (6, .pointer (some ⟨b_4, 0, none⟩)), (7, .int .i64 (IntKind.i64.wrap (s6 + 1)))]) (S' := St w0 Φ_7 [(b_4, .cells #[v6] 133 (0, 0)), (b_3, .cells #[u1, u2] 41 (0, 0)), (b_2, .cells #[.slice none 0 0, .slice none 0 0] 41 (0, 0)), (b_1, .cells #[pv0_0, pv0_1] 46 (0, 0))] [(D5 ++ ((ob (.slice none 0 0) ++ []))), ob v6, D4, ob u2, D1, ob u1]) ⟨rfl, rfl, rfl, rfl, rfl, rfl, trivial⟩ (fun w1 hw => (hw.sel (js := [0, 0, 1, 1, 1, 1]) rfl).selO (js := [0, 0, 0, 0]) rfl) ?_)
      exact ih3 (Φ_7, x3, v6, (D5 ++ ((ob (.slice none 0 0) ++ []))), IntKind.i64.wrap (s6 + 1)) ⟨h, k2, k4, h6, ph0_0, ph0_1⟩
    replace h := ite_f h c3
    refine WT.exit rfl ?_
    refine WT.region ?_
    refine lq (q_fieldAddr Fld_41_1 rfl) rfl ?_
    refine lq (q_load1 T1_39 rfl (fun w1 hw => hw.rgO (i := 1) rfl 1 1 [u2] rfl)) rfl ?_
    refine lq (q_loadN Tn_133 rfl (fun w1 hw => hw.rgO (i := 0) rfl 0 1 [u3] rfl) rfl) rfl ?_
    have rc3 : RC OTRow 1 Φ_5 ([(ob u3 ++ D5)] : List (List Nat)) [u3] ([(⟨s5⟩ : TRow)] : List TRow) := RC.cons (c := [u3]) (cells := []) ⟨u3, D5, rfl, rfl, k6⟩ rfl (RC.nil _ _ _)
    refine le' (e_lit (vs := [(0, .agg [u3].toArray)]) (C := #[u3]) OTRow.lasts Sl_39 Zr_133 rfl rfl rfl rfl (fill_made MC_133_1 (fill_cons (cells := [.slice none 0 0]) (c := [u3]) (C' := [u3]) rfl rfl rfl rfl rfl (fill_nil))) rfl rc3 rfl (RC.kn OTRow.knows rc3)) rfl (fun v7 Φ_8 D8 q5 => ?_)
    obtain ⟨fr5, h7⟩ := q5
    replace h7 : OSl OTRow 133 1 Φ_8 ((ob u3 ++ D5)) v7 ([(⟨s5⟩ : TRow)] : List TRow) := by simpa [List.append_assoc] using h7
    replace ph0_0 := ph0_0.frame RTAlpha.lasts fr5 (Dj.empty _)
    replace ph0_1 := ph0_1.frame RTChain.lasts fr5 (Dj.empty _)
    replace k2 := k2.frame OTIds.lasts fr5 (Dj.empty _) (Dj.empty _)
    replace k4 := k4.frame OTRow.lasts fr5 (Dj.empty _) (Dj.empty _)
    refine WL.conv (S' := St w0 Φ_8 [(b_4, .cells #[u3] 133 (0, 0)), (b_3, .cells #[u1, u2] 41 (0, 0)), (b_2, .cells #[.slice none 0 0, .slice none 0 0] 41 (0, 0)), (b_1, .cells #[pv0_0, pv0_1] 46 (0, 0))] [((ob u3 ++ D5)), ob v7, D4, ob u2, D1, ob u1]) (fun w1 hw => hw.merge (js := [2, 1]) rfl (SP.eq (by simp [List.append_assoc, ob_nil]))) ?_
    obtain ⟨x4, hx4, h⟩ := bind_some h
    refine le' (e_appO OTRow.lasts OTRow.one Sl_39 Ei_133 rfl rfl rfl rfl rfl (js := [3]) (Rr := [((ob u3 ++ D5)), ob v7, D4, D1, ob u1]) rfl k4 h7 (fun ap => (ap.r (i := 2) rfl)) (fun ap => (ap.r (i := 0) rfl)) hx4) rfl (fun v8 Φ_9 D9 q6 => ?_)
    obtain ⟨⟨ap3, fr6⟩, h8⟩ := q6
    replace ph0_0 := ph0_0.frame RTAlpha.lasts fr6 (ap3.o pa0_0)
    replace ph0_1 := ph0_1.frame RTChain.lasts fr6 (ap3.o pa0_1)
    replace k2 := k2.frame OTIds.lasts fr6 (ap3.r (i := 4) rfl) (ap3.r (i := 3) rfl)
    refine WL.conv (S' := St w0 Φ_9 [(b_4, .cells #[u3] 133 (0, 0)), (b_3, .cells #[u1, u2] 41 (0, 0)), (b_2, .cells #[.slice none 0 0, .slice none 0 0] 41 (0, 0)), (b_1, .cells #[pv0_0, pv0_1] 46 (0, 0))] [(D4 ++ ((ob u3 ++ D5))), ob v8, ob v7, D1, ob u1]) (fun w1 hw => hw.merge (js := [3, 1]) rfl (SP.eq (by simp))) ?_
    refine lq (q_fieldAddr Fld_41_1 rfl) rfl ?_
    refine ls (s_store (i := 1) (vs := [v8]) (C' := [u1, v8]) (O' := [(b_4, .cells #[u3] 133 (0, 0)), (b_3, .cells #[u1, v8] 41 (0, 0)), (b_2, .cells #[.slice none 0 0, .slice none 0 0] 41 (0, 0)), (b_1, .cells #[pv0_0, pv0_1] 46 (0, 0))]) Sz_39 rfl rfl rfl (one_cells h8.one) rfl rfl ⟨h8.one, trivial⟩ rfl rfl) rfl ?_
    refine WL.nil ?_
    refine WT.inBlock ?_
    refine WT.region ?_
    refine lq (q_move rfl) rfl ?_
    refine lq (q_add rfl rfl) rfl ?_
    refine lq (q_assign rfl) rfl ?_
    refine WL.nil ?_
    refine WT.inLoop (WT.mono (l' := [(1, .pointer (some ⟨b_1, 0, none⟩)), (2, .pointer (some ⟨b_2, 0, none⟩)), (3, .pointer (some ⟨b_3, 0, none⟩)), (5, .int .i64 (IntKind.i64.wrap (s4 + 1)))]) (S' := St w0 Φ_9 [(b_3, .cells #[u1, v8] 41 (0, 0)), (b_2, .cells #[.slice none 0 0, .slice none 0 0] 41 (0, 0)), (b_1, .cells #[pv0_0, pv0_1] 46 (0, 0))] [(D4 ++ ((ob u3 ++ D5))), ob v8, D1, ob u1]) ⟨rfl, rfl, rfl, rfl, trivial⟩ (fun w1 hw => (hw.sel (js := [0, 0, 1, 1]) rfl).selO (js := [1, 1, 1]) rfl) ?_)
    exact ih2 (Φ_9, x4, v8, (D4 ++ ((ob u3 ++ D5))), IntKind.i64.wrap (s4 + 1)) ⟨h, k2, h8, ph0_0, ph0_1⟩
  replace h := ite_f h c2
  refine WT.exit rfl ?_
  refine WT.seq ?_
  refine WT.region ?_
  refine lq (q_loadN Tn_41 rfl (fun w1 hw => hw.rgO (i := 0) rfl 0 2 [u1, u2] rfl) rfl) rfl ?_
  refine ls (s_store (i := 1) (vs := [u1, u2]) (C' := [u1, u2]) (O' := [(b_3, .cells #[u1, u2] 41 (0, 0)), (b_2, .cells #[u1, u2] 41 (0, 0)), (b_1, .cells #[pv0_0, pv0_1] 46 (0, 0))]) Sz_41 rfl rfl rfl rfl rfl rfl ⟨k2.one, k4.one, trivial⟩ rfl rfl) rfl ?_
  refine WL.nil ?_
  refine WT.ret Try.func19 (resOk.one (rv_cell Tn_41 rfl (fun w1 hw => hw.rgO (i := 1) rfl 0 2 [u1, u2] rfl) rfl)) (fun w1 hw => ?_)
  subst hb0
  cases h
  refine postG_of_St (js := [3, 2, 1, 0]) hw rfl ⟨u1, D1, u2, D4, rfl, rfl, k2, k4⟩
theorem m_l_toIntS_ok {Φ : Hp} {w : World} (hΦ : In Φ w) (N : Nat) (p0 : (List Int)) {pv0 : Value} {pG0 : List Nat} (ph0 : RSl (RI .i64) 1 Φ pG0 pv0 p0) {r : (List Int)} (h : m_l_toIntS N p0 = some r) :
    Calls Try.prog 124 [pv0].toArray w (PostG Φ w [] (fun Φ' Fs v => ∃ (sr_0_0 : Value), v = sr_0_0 ∧ Fs = [ob sr_0_0] ∧ OSl (RI .i64) 3 1 Φ' [] sr_0_0 r)) := by
  refine enter Try.func124 rfl Try.ntmps124 rfl (St.start0 hΦ) ?_
  have pa0 : Old ⟨w, [], Φ⟩ pG0 := Old.mk hΦ ph0.kn (Dj.empty _)
  revert pa0
  generalize hb0 : (⟨w, [], Φ⟩ : Base) = w0
  intro pa0
  unfold m_l_toIntS at h
  refine WT.seq ?_
  refine WT.region ?_
  refine lq (q_assign rfl) rfl ?_
  refine WL.nil ?_
  refine WT.seq ?_
  refine WT.region ?_
  refine lq (q_move rfl) rfl ?_
  refine lq (q_lenR Sl_78 rfl rfl ph0) rfl ?_
  obtain ⟨x1, hx1, h⟩ := bind_some h
  refine le' (e_make (R := (RI .i64)) Sl_78 Zr_3 By_3 rfl rfl rfl (fun _ => ⟨rfl, rfl⟩) rfl rfl (Int.le_refl _) hx1 (mk_le hx1)) rfl (fun v1 Φ_1 D1 q1 => ?_)
  obtain ⟨fr1, h1⟩ := q1
  replace ph0 := ph0.frame RI.lasts fr1 (Dj.empty _)
  refine lq (q_assign rfl) rfl ?_
  refine WL.nil ?_
  refine WT.seq ?_
  refine WT.seq ?_
  refine WT.region ?_
  refine lq (q_assign rfl) rfl ?_
  refine WL.nil ?_
  refine WT.block ?_
  refine WT.loop ?_
  refine WT.mono (l' := [(0, pv0), (3, v1), (4, .int .i64 0)]) (S' := St w0 Φ_1 [] [ob v1]) ⟨rfl, rfl, rfl, trivial⟩ (fun w1 hw => (hw.sel (js := [0]) rfl).selO (js := []) rfl) ?_
  refine loop_ind (σ := Hp × (List Int) × Int) (fun s => [(0, pv0), (3, v1), (4, .int .i64 s.2.2)]) (fun s => St w0 s.1 [] [ob v1]) (fun m s => m_l_toIntS_l1 N p0 m s.2.1 s.2.2 = some r ∧ (OSl (RI .i64) 3 1 s.1 [] v1 s.2.1) ∧ (RSl (RI .i64) 1 s.1 pG0 pv0 p0)) (fun s hm => none_ne (show (none : Option ((List Int))) = some r from hm.1)) (fun n1 ih1 s hm => ?_) N (Φ_1, x1, 0) ⟨h, h1, ph0⟩
  obtain ⟨Φ_2, s1, s2⟩ := s
  obtain ⟨h, k1, ph0⟩ := hm
  replace h : m_l_toIntS_l1 N p0 (n1 + 1) s1 s2 = some r := h
  replace k1 : OSl (RI .i64) 3 1 Φ_2 [] v1 s1 := k1
  replace ph0 : RSl (RI .i64) 1 Φ_2 pG0 pv0 p0 := ph0
  show WT _ _ [(0, pv0), (3, v1), (4, .int .i64 s2)] (St w0 Φ_2 [] [ob v1])
  unfold m_l_toIntS_l1 at h
  refine WT.seq ?_
  refine WT.seq ?_
  refine WT.region ?_
  refine lq (q_move rfl) rfl ?_
  refine lq (q_move rfl) rfl ?_
  refine lq (q_lenR Sl_78 rfl rfl ph0) rfl ?_
  refine lq (q_lss rfl rfl) rfl ?_
  refine WL.nil ?_
  refine WT.cond rfl (fun c1 => ?_) (fun c1 => ?_)
  · replace h := ite_t h c1
    refine WT.skip ?_
    refine WT.seq ?_
    refine WT.block ?_
    refine WT.region ?_
    refine lq (q_move rfl) rfl ?_
    refine lq (q_move rfl) rfl ?_
    refine lq (q_move rfl) rfl ?_
    refine lq (q_move rfl) rfl ?_
    obtain ⟨x2, hx2, h⟩ := bind_some h
    obtain ⟨cs1, F1, -, g1, hb1, hs1, r1⟩ := ph0.el (idx_some hx2).2.2
    obtain ⟨rfl, -⟩ := r1
    refine lq (q_indexAddr Sl_78 rfl rfl ph0 hx2) rfl ?_
    refine lq (q_load1 T1_3 rfl (fun w1 hw => (g1.of_eq 0 1 rfl rfl : rg _ _ _ [.int .i64 x2]).rangeAt hw.fro)) rfl ?_
    obtain ⟨x3, hx3, h⟩ := bind_some h
    obtain ⟨cs2, F2, -, g2, hb2, hs2, r2⟩ := k1.elS (idx_some hx3).2.2
    obtain ⟨rfl, -⟩ := r2
    refine lq (q_indexAddr Sl_78 rfl rfl k1.rsl hx3) rfl ?_
    refine lu (u_setF (js := [0]) (Rr := []) (vs := [.int .i64 x2]) (x' := x2) RI.lasts RI.flat Sz_3 rfl rfl rfl rfl ⟨rfl, trivial⟩ rfl k1 (idx_lt hx3) ⟨rfl, rfl⟩) rfl (fun Φ_3 D2 q2 => ?_)
    obtain ⟨⟨ap1, fr2⟩, h2⟩ := q2
    replace ph0 := ph0.frame RI.lasts fr2 (ap1.o pa0)
    refine WL.nil ?_
    refine WT.inBlock ?_
    refine WT.region ?_
    refine lq (q_move rfl) rfl ?_
    refine lq (q_add rfl rfl) rfl ?_
    refine lq (q_assign rfl) rfl ?_
    refine WL.nil ?_
    refine WT.inLoop (WT.mono (l' := [(0, pv0), (3, v1), (4, .int .i64 (IntKind.i64.wrap (s2 + 1)))]) (S' := St w0 Φ_3 [] [ob v1]) ⟨rfl, rfl, rfl, trivial⟩ (fun w1 hw => (hw.sel (js := [0]) rfl).selO (js := []) rfl) ?_)
    exact ih1 (Φ_3, (s1.set s2.toNat x2), IntKind.i64.wrap (s2 + 1)) ⟨h, h2, ph0⟩
  replace h := ite_f h c1
  refine WT.exit rfl ?_
  refine WT.seq ?_
  refine WT.region ?_
  refine lq (q_move rfl) rfl ?_
  refine lq (q_assign rfl) rfl ?_
  refine WL.nil ?_
  refine WT.ret Try.func124 (resOk.one rfl) (fun w1 hw => ?_)
  subst hb0
  cases h
  refine postG_of_St (js := [0]) hw rfl ⟨v1, rfl, rfl, k1⟩
theorem m_l_toVal_ok {Φ : Hp} {w : World} (hΦ : In Φ w) (N : Nat) (p0 : TVal)   {r : TVal} (h : m_l_toVal N p0 = some r) :
    Calls Try.prog 202 [.agg [.int .i64 p0.K, .int .i64 p0.N, .string p0.S].toArray].toArray w (Post (.agg [.int .i64 r.K, .int .i64 r.N, .string r.S].toArray) w) := by
  refine enter Try.func202 rfl Try.ntmps202 rfl (St.start0 hΦ) ?_
  unfold m_l_toVal at h
  refine WT.seq ?_
  refine WT.region ?_
  refine ln (n_box (C := #[.int .i64 p0.K, .int .i64 p0.N, .string p0.S]) rfl rfl) rfl (fun b_1 => ?_)
  refine ln (n_alloc (C := #[.int .i64 0, .int .i64 0, .string (⟨#[]⟩ : ByteArray)]) Zr_192 rfl) rfl (fun b_2 => ?_)
  refine WL.nil ?_
  refine WT.seq ?_
  refine WT.region ?_
  refine ln (n_alloc (C := #[.int .i64 0, .int .i64 0, .string (⟨#[]⟩ : ByteArray)]) Zr_192 rfl) rfl (fun b_3 => ?_)
  refine WL.nil ?_
  refine WT.seq ?_
  refine WT.region ?_
  refine lq (q_fieldAddr Fld_182_0 rfl) rfl ?_
  refine lq (q_load1 T1_3 rfl (fun w1 hw => hw.rgO (i := 2) rfl 0 1 [.int .i64 p0.K] rfl)) rfl ?_
  refine lq (q_fieldAddr Fld_192_0 rfl) rfl ?_
  refine ls (s_store (i := 0) (vs := [.int .i64 p0.K]) (C' := [.int .i64 p0.K, .int .i64 0, .string (⟨#[]⟩ : ByteArray)]) (O' := [(b_3, .cells #[.int .i64 p0.K, .int .i64 0, .string (⟨#[]⟩ : ByteArray)] 192 (0, 0)), (b_2, .cells #[.int .i64 0, .int .i64 0, .string (⟨#[]⟩ : ByteArray)] 192 (0, 0)), (b_1, .cells #[.int .i64 p0.K, .int .i64 p0.N, .string p0.S] 182 (0, 0))]) Sz_3 rfl rfl rfl rfl rfl rfl ⟨rfl, trivial⟩ rfl rfl) rfl ?_
  refine WL.nil ?_
  refine WT.seq ?_
  refine WT.region ?_
  refine lq (q_fieldAddr Fld_182_1 rfl) rfl ?_
  refine lq (q_load1 T1_3 rfl (fun w1 hw => hw.rgO (i := 2) rfl 1 1 [.int .i64 p0.N] rfl)) rfl ?_
  refine lq (q_fieldAddr Fld_192_1 rfl) rfl ?_
  refine ls (s_store (i := 0) (vs := [.int .i64 p0.N]) (C' := [.int .i64 p0.K, .int .i64 p0.N, .string (⟨#[]⟩ : ByteArray)]) (O' := [(b_3, .cells #[.int .i64 p0.K, .int .i64 p0.N, .string (⟨#[]⟩ : ByteArray)] 192 (0, 0)), (b_2, .cells #[.int .i64 0, .int .i64 0, .string (⟨#[]⟩ : ByteArray)] 192 (0, 0)), (b_1, .cells #[.int .i64 p0.K, .int .i64 p0.N, .string p0.S] 182 (0, 0))]) Sz_3 rfl rfl rfl rfl rfl rfl ⟨rfl, trivial⟩ rfl rfl) rfl ?_
  refine WL.nil ?_
  refine WT.seq ?_
  refine WT.region ?_
  refine lq (q_fieldAddr Fld_182_2 rfl) rfl ?_
  refine lq (q_load1 T1_9 rfl (fun w1 hw => hw.rgO (i := 2) rfl 2 1 [.string p0.S] rfl)) rfl ?_
  refine lq (q_fieldAddr Fld_192_2 rfl) rfl ?_
  refine ls (s_store (i := 0) (vs := [.string p0.S]) (C' := [.int .i64 p0.K, .int .i64 p0.N, .string p0.S]) (O' := [(b_3, .cells #[.int .i64 p0.K, .int .i64 p0.N, .string p0.S] 192 (0, 0)), (b_2, .cells #[.int .i64 0, .int .i64 0, .string (⟨#[]⟩ : ByteArray)] 192 (0, 0)), (b_1, .cells #[.int .i64 p0.K, .int .i64 p0.N, .string p0.S] 182 (0, 0))]) Sz_9 rfl rfl rfl rfl rfl rfl ⟨rfl, trivial⟩ rfl rfl) rfl ?_
  refine WL.nil ?_
  refine WT.seq ?_
  refine WT.region ?_
  refine lq (q_loadN Tn_192 rfl (fun w1 hw => hw.rgO (i := 0) rfl 0 3 [.int .i64 p0.K, .int .i64 p0.N, .string p0.S] rfl) rfl) rfl ?_
  refine ls (s_store (i := 1) (vs := [.int .i64 p0.K, .int .i64 p0.N, .string p0.S]) (C' := [.int .i64 p0.K, .int .i64 p0.N, .string p0.S]) (O' := [(b_3, .cells #[.int .i64 p0.K, .int .i64 p0.N, .string p0.S] 192 (0, 0)), (b_2, .cells #[.int .i64 p0.K, .int .i64 p0.N, .string p0.S] 192 (0, 0)), (b_1, .cells #[.int .i64 p0.K, .int .i64 p0.N, .string p0.S] 182 (0, 0))]) Sz_192 rfl rfl rfl rfl rfl rfl ⟨rfl, rfl, rfl, trivial⟩ rfl rfl) rfl ?_
  refine WL.nil ?_
  refine WT.ret Try.func202 (resOk.one (rv_cell Tn_192 rfl (fun w1 hw => hw.rgO (i := 1) rfl 0 3 [.int .i64 p0.K, .int .i64 p0.N, .string p0.S] rfl) rfl)) (fun w1 hw => ?_)
  cases h
  exact post_of_St hw
theorem m_l_toValS_ok {Φ : Hp} {w : World} (hΦ : In Φ w) (N : Nat) (p0 : (List TVal)) {pv0 : Value} {pG0 : List Nat} (ph0 : RSl RTVal 3 Φ pG0 pv0 p0) {r : (List TVal)} (h : m_l_toValS N p0 = some r) :
    Calls Try.prog 222 [pv0].toArray w (PostG Φ w [] (fun Φ' Fs v => ∃ (sr_0_0 : Value), v = sr_0_0 ∧ Fs = [ob sr_0_0] ∧ OSl RTVal 192 3 Φ' [] sr_0_0 r)) := by
  refine enter Try.func222 rfl Try.ntmps222 rfl (St.start0 hΦ) ?_
  have pa0 : Old ⟨w, [], Φ⟩ pG0 := Old.mk hΦ ph0.kn (Dj.empty _)
  revert pa0
  generalize hb0 : (⟨w, [], Φ⟩ : Base) = w0
  intro pa0
  unfold m_l_toValS at h
  refine WT.seq ?_
  refine WT.region ?_
  refine lq (q_assign rfl) rfl ?_
  refine WL.nil ?_
  refine WT.seq ?_
  refine WT.region ?_
  refine lq (q_move rfl) rfl ?_
  refine lq (q_lenR Sl_218 rfl rfl ph0) rfl ?_
  obtain ⟨x1, hx1, h⟩ := bind_some h
  refine le' (e_make (R := RTVal) Sl_112 Zr_192 By_192 rfl rfl rfl (fun _ => ⟨rfl, rfl⟩) rfl rfl (Int.le_refl _) hx1 (mk_le hx1)) rfl (fun v1 Φ_1 D1 q1 => ?_)
  obtain ⟨fr1, h1⟩ := q1
  replace ph0 := ph0.frame RTVal.lasts fr1 (Dj.empty _)
  refine lq (q_assign rfl) rfl ?_
  refine WL.nil ?_
  refine WT.seq ?_
  refine WT.seq ?_
  refine WT.region ?_
  refine lq (q_assign rfl) rfl ?_
  refine WL.nil ?_
  refine WT.block ?_
  refine WT.loop ?_
  refine WT.mono (l' := [(0, pv0), (3, v1), (4, .int .i64 0)]) (S' := St w0 Φ_1 [] [ob v1]) ⟨rfl, rfl, rfl, trivial⟩ (fun w1 hw => (hw.sel (js := [0]) rfl).selO (js := []) rfl) ?_
  refine loop_ind (σ := Hp × (List TVal) × Int) (fun s => [(0, pv0), (3, v1), (4, .int .i64 s.2.2)]) (fun s => St w0 s.1 [] [ob v1]) (fun m s => m_l_toValS_l1 N p0 m s.2.1 s.2.2 = some r ∧ (OSl RTVal 192 3 s.1 [] v1 s.2.1) ∧ (RSl RTVal 3 s.1 pG0 pv0 p0)) (fun s hm => none_ne (show (none : Option ((List TVal))) = some r from hm.1)) (fun n1 ih1 s hm => ?_) N (Φ_1, x1, 0) ⟨h, h1, ph0⟩
  obtain ⟨Φ_2, s1, s2⟩ := s
  obtain ⟨h, k1, ph0⟩ := hm
  replace h : m_l_toValS_l1 N p0 (n1 + 1) s1 s2 = some r := h
  replace k1 : OSl RTVal 192 3 Φ_2 [] v1 s1 := k1
  replace ph0 : RSl RTVal 3 Φ_2 pG0 pv0 p0 := ph0
  show WT _ _ [(0, pv0), (3, v1), (4, .int .i64 s2)] (St w0 Φ_2 [] [ob v1])
  unfold m_l_toValS_l1 at h
  refine WT.seq ?_
  refine WT.seq ?_
  refine WT.region ?_
  refine lq (q_move rfl) rfl ?_
  refine lq (q_move rfl) rfl ?_
  refine lq (q_lenR Sl_218 rfl rfl ph0) rfl ?_
  refine lq (q_lss rfl rfl) rfl ?_
  refine WL.nil ?_
  refine WT.cond rfl (fun c1 => ?_) (fun c1 => ?_)
  · replace h := ite_t h c1
    refine WT.skip ?_
    refine WT.seq ?_
    refine WT.block ?_
    refine WT.region ?_
    refine lq (q_move rfl) rfl ?_
    refine lq (q_move rfl) rfl ?_
    refine lq (q_move rfl) rfl ?_
    refine lq (q_move rfl) rfl ?_
    obtain ⟨x2, hx2, h⟩ := bind_some h
    obtain ⟨cs1, F1, -, g1, hb1, hs1, r1⟩ := ph0.el (idx_some hx2).2.2
    obtain ⟨rfl, -⟩ := r1
    refine lq (q_indexAddr Sl_218 rfl rfl ph0 hx2) rfl ?_
    refine lq (q_loadN Tn_182 rfl (fun w1 hw => (g1.of_eq 0 3 rfl rfl : rg _ _ _ [.int .i64 x2.K, .int .i64 x2.N, .string x2.S]).rangeAt hw.fro) rfl) rfl ?_
    obtain ⟨x3, hx3, h⟩ := bind_some h
    refine lp (p_call Fun_202 rfl (fun w1 hw => m_l_toVal_ok hw.fro N x2 hx3)) rfl ?_
    obtain ⟨x4, hx4, h⟩ := bind_some h
    obtain ⟨cs2, F2, -, g2, hb2, hs2, r2⟩ := k1.elS (idx_some hx4).2.2
    obtain ⟨rfl, -⟩ := r2
    refine lq (q_indexAddr Sl_112 rfl rfl k1.rsl hx4) rfl ?_
    refine lu (u_setF (js := [0]) (Rr := []) (vs := [.int .i64 x3.K, .int .i64 x3.N, .string x3.S]) (x' := x3) RTVal.lasts RTVal.flat Sz_192 rfl rfl rfl rfl ⟨rfl, rfl, rfl, trivial⟩ rfl k1 (idx_lt hx4) ⟨rfl, rfl⟩) rfl (fun Φ_3 D2 q2 => ?_)
    obtain ⟨⟨ap1, fr2⟩, h2⟩ := q2
    replace ph0 := ph0.frame RTVal.lasts fr2 (ap1.o pa0)
    refine WL.nil ?_
    refine WT.inBlock ?_
    refine WT.region ?_
    refine lq (q_move rfl) rfl ?_
    refine lq (q_add rfl rfl) rfl ?_
    refine lq (q_assign rfl) rfl ?_
    refine WL.nil ?_
    refine WT.inLoop (WT.mono (l' := [(0, pv0), (3, v1), (4, .int .i64 (IntKind.i64.wrap (s2 + 1)))]) (S' := St w0 Φ_3 [] [ob v1]) ⟨rfl, rfl, rfl, trivial⟩ (fun w1 hw => (hw.sel (js := [0]) rfl).selO (js := []) rfl) ?_)
    exact ih1 (Φ_3, (s1.set s2.toNat x3), IntKind.i64.wrap (s2 + 1)) ⟨h, h2, ph0⟩
  replace h := ite_f h c1
  refine WT.exit rfl ?_
  refine WT.seq ?_
  refine WT.region ?_
  refine lq (q_move rfl) rfl ?_
  refine lq (q_assign rfl) rfl ?_
  refine WL.nil ?_
  refine WT.ret Try.func222 (resOk.one rfl) (fun w1 hw => ?_)
  subst hb0
  cases h
  refine postG_of_St (js := [0]) hw rfl ⟨v1, rfl, rfl, k1⟩
theorem m_l_toAlpha_ok {Φ : Hp} {w : World} (hΦ : In Φ w) (N : Nat) (p0 : TAlpha) {pv0_0 : Value} {pG0_0 : List Nat} {pv0_1 : Value} {pG0_1 : List Nat} (ph0_0 : RSl RTVal 3 Φ pG0_0 pv0_0 p0.Consts) (ph0_1 : RSl (RI .i64) 1 Φ pG0_1 pv0_1 p0.At) {r : TAlpha} (h : m_l_toAlpha N p0 = some r) :
    Calls Try.prog 156 [.agg [.string p0.Kind, .int .i64 p0.N, pv0_0, pv0_1].toArray].toArray w (PostG Φ w [] (fun Φ' Fs v => ∃ (sr_0_0 : Value) (sr_0_1 : Value), v = .agg [.string r.Kind, .int .i64 r.N, sr_0_0, sr_0_1].toArray ∧ Fs = [ob sr_0_0, ob sr_0_1] ∧ OSl RTVal 192 3 Φ' [] sr_0_0 r.Consts ∧ OSl (RI .i64) 3 1 Φ' [] sr_0_1 r.At)) := by
  refine enter Try.func156 rfl Try.ntmps156 rfl (St.start0 hΦ) ?_
  have pa0_0 : Old ⟨w, [], Φ⟩ pG0_0 := Old.mk hΦ ph0_0.kn (Dj.empty _)
  have pa0_1 : Old ⟨w, [], Φ⟩ pG0_1 := Old.mk hΦ ph0_1.kn (Dj.empty _)
  unfold m_l_toAlpha at h
  refine WT.seq ?_
  refine WT.region ?_
  refine ln (n_box (C := #[.string p0.Kind, .int .i64 p0.N, pv0_0, pv0_1]) rfl rfl) rfl (fun b_1 => ?_)
  refine ln (n_alloc (C := #[.string (⟨#[]⟩ : ByteArray), .int .i64 0, .slice none 0 0, .slice none 0 0]) Zr_114 rfl) rfl (fun b_2 => ?_)
  refine WL.nil ?_
  refine WT.seq ?_
  refine WT.region ?_
  refine ln (n_alloc (C := #[.string (⟨#[]⟩ : ByteArray), .int .i64 0, .slice none 0 0, .slice none 0 0]) Zr_114 rfl) rfl (fun b_3 => ?_)
  refine WL.nil ?_
  refine WT.seq ?_
  refine WT.region ?_
  refine lq (q_fieldAddr Fld_220_0 rfl) rfl ?_
  refine lq (q_load1 T1_9 rfl (fun w1 hw => hw.rgO (i := 2) rfl 0 1 [.string p0.Kind] rfl)) rfl ?_
  refine lq (q_fieldAddr Fld_114_0 rfl) rfl ?_
  refine ls (s_store (i := 0) (vs := [.string p0.Kind]) (C' := [.string p0.Kind, .int .i64 0, .slice none 0 0, .slice none 0 0]) (O' := [(b_3, .cells #[.string p0.Kind, .int .i64 0, .slice none 0 0, .slice none 0 0] 114 (0, 0)), (b_2, .cells #[.string (⟨#[]⟩ : ByteArray), .int .i64 0, .slice none 0 0, .slice none 0 0] 114 (0, 0)), (b_1, .cells #[.string p0.Kind, .int .i64 p0.N, pv0_0, pv0_1] 220 (0, 0))]) Sz_9 rfl rfl rfl rfl rfl rfl ⟨rfl, trivial⟩ rfl rfl) rfl ?_
  refine WL.nil ?_
  refine WT.seq ?_
  refine WT.region ?_
  refine lq (q_fieldAddr Fld_220_1 rfl) rfl ?_
  refine lq (q_load1 T1_3 rfl (fun w1 hw => hw.rgO (i := 2) rfl 1 1 [.int .i64 p0.N] rfl)) rfl ?_
  refine lq (q_fieldAddr Fld_114_1 rfl) rfl ?_
  refine ls (s_store (i := 0) (vs := [.int .i64 p0.N]) (C' := [.string p0.Kind, .int .i64 p0.N, .slice none 0 0, .slice none 0 0]) (O' := [(b_3, .cells #[.string p0.Kind, .int .i64 p0.N, .slice none 0 0, .slice none 0 0] 114 (0, 0)), (b_2, .cells #[.string (⟨#[]⟩ : ByteArray), .int .i64 0, .slice none 0 0, .slice none 0 0] 114 (0, 0)), (b_1, .cells #[.string p0.Kind, .int .i64 p0.N, pv0_0, pv0_1] 220 (0, 0))]) Sz_3 rfl rfl rfl rfl rfl rfl ⟨rfl, trivial⟩ rfl rfl) rfl ?_
  refine WL.nil ?_
  refine WT.seq ?_
  refine WT.region ?_
  refine lq (q_fieldAddr Fld_220_2 rfl) rfl ?_
  refine lq (q_load1 T1_218 rfl (fun w1 hw => hw.rgO (i := 2) rfl 2 1 [pv0_0] rfl)) rfl ?_
  obtain ⟨x1, hx1, h⟩ := bind_some h
  refine lc (k_call (js := []) (R := []) Fun_222 rfl rfl (fun w1 hw ap hl => m_l_toValS_ok hw.fro N p0.Consts ph0_0  hx1)) rfl (fun v1 Φ_1 F1 q1 => ?_)
  obtain ⟨ap1, fr1, v2, rfl, rfl, h1⟩ := q1
  replace ph0_0 := ph0_0.frame RTVal.lasts fr1 (ap1.o pa0_0)
  replace ph0_1 := ph0_1.frame RI.lasts fr1 (ap1.o pa0_1)
  refine lq (q_fieldAddr Fld_114_2 rfl) rfl ?_
  refine ls (s_store (i := 0) (vs := [v1]) (C' := [.string p0.Kind, .int .i64 p0.N, v1, .slice none 0 0]) (O' := [(b_3, .cells #[.string p0.Kind, .int .i64 p0.N, v1, .slice none 0 0] 114 (0, 0)), (b_2, .cells #[.string (⟨#[]⟩ : ByteArray), .int .i64 0, .slice none 0 0, .slice none 0 0] 114 (0, 0)), (b_1, .cells #[.string p0.Kind, .int .i64 p0.N, pv0_0, pv0_1] 220 (0, 0))]) Sz_112 rfl rfl rfl (one_cells h1.one) rfl rfl ⟨h1.one, trivial⟩ rfl rfl) rfl ?_
  refine WL.nil ?_
  refine WT.seq ?_
  refine WT.region ?_
  refine lq (q_fieldAddr Fld_220_3 rfl) rfl ?_
  refine lq (q_load1 T1_78 rfl (fun w1 hw => hw.rgO (i := 2) rfl 3 1 [pv0_1] rfl)) rfl ?_
  obtain ⟨x2, hx2, h⟩ := bind_some h
  refine lc (k_call (js := []) (R := [ob v1]) Fun_124 rfl rfl (fun w1 hw ap hl => m_l_toIntS_ok hw.fro N p0.At ph0_1  hx2)) rfl (fun v3 Φ_2 F2 q2 => ?_)
  obtain ⟨ap2, fr2, v4, rfl, rfl, h2⟩ := q2
  replace h1 := h1.frame RTVal.lasts fr2 (ap2.r (i := 0) rfl) (Dj.nil _)
  refine lq (q_fieldAddr Fld_114_3 rfl) rfl ?_
  refine ls (s_store (i := 0) (vs := [v3]) (C' := [.string p0.Kind, .int .i64 p0.N, v1, v3]) (O' := [(b_3, .cells #[.string p0.Kind, .int .i64 p0.N, v1, v3] 114 (0, 0)), (b_2, .cells #[.string (⟨#[]⟩ : ByteArray), .int .i64 0, .slice none 0 0, .slice none 0 0] 114 (0, 0)), (b_1, .cells #[.string p0.Kind, .int .i64 p0.N, pv0_0, pv0_1] 220 (0, 0))]) Sz_78 rfl rfl rfl (one_cells h2.one) rfl rfl ⟨h2.one, trivial⟩ rfl rfl) rfl ?_
  refine WL.nil ?_
  refine WT.seq ?_
  refine WT.region ?_
  refine lq (q_loadN Tn_114 rfl (fun w1 hw => hw.rgO (i := 0) rfl 0 4 [.string p0.Kind, .int .i64 p0.N, v1, v3] rfl) rfl) rfl ?_
  refine ls (s_store (i := 1) (vs := [.string p0.Kind, .int .i64 p0.N, v1, v3]) (C' := [.string p0.Kind, .int .i64 p0.N, v1, v3]) (O' := [(b_3, .cells #[.string p0.Kind, .int .i64 p0.N, v1, v3] 114 (0, 0)), (b_2, .cells #[.string p0.Kind, .int .i64 p0.N, v1, v3] 114 (0, 0)), (b_1, .cells #[.string p0.Kind, .int .i64 p0.N, pv0_0, pv0_1] 220 (0, 0))]) Sz_114 rfl rfl rfl rfl rfl rfl ⟨rfl, rfl, h1.one, h2.one, trivial⟩ rfl rfl) rfl ?_
  refine WL.nil ?_
  refine WT.ret Try.func156 (resOk.one (rv_cell Tn_114 rfl (fun w1 hw => hw.rgO (i := 1) rfl 0 4 [.string p0.Kind, .int .i64 p0.N, v1, v3] rfl) rfl)) (fun w1 hw => ?_)
  cases h
  refine postG_of_St (js := [1, 0]) hw rfl ⟨v1, v3, rfl, rfl, h1, h2⟩
theorem m_l_toAlphaS_ok {Φ : Hp} {w : World} (hΦ : In Φ w) (N : Nat) (p0 : (List TAlpha)) {pv0 : Value} {pG0 : List Nat} (ph0 : RSl RTAlpha 4 Φ pG0 pv0 p0) {r : (List TAlpha)} (h : m_l_toAlphaS N p0 = some r) :
    Calls Try.prog 75 [pv0].toArray w (PostG Φ w [] (fun Φ' Fs v => ∃ (sr_0_0 : Value) (Dr_0_0 : List Nat), v = sr_0_0 ∧ Fs = [ob sr_0_0, Dr_0_0] ∧ OSl OTAlpha 114 4 Φ' Dr_0_0 sr_0_0 r)) := by
  refine enter Try.func75 rfl Try.ntmps75 rfl (St.start0 hΦ) ?_
  have pa0 : Old ⟨w, [], Φ⟩ pG0 := Old.mk hΦ ph0.kn (Dj.empty _)
  revert pa0
  generalize hb0 : (⟨w, [], Φ⟩ : Base) = w0
  intro pa0
  unfold m_l_toAlphaS at h
  refine WT.seq ?_
  refine WT.region ?_
  refine lq (q_assign rfl) rfl ?_
  refine WL.nil ?_
  refine WT.seq ?_
  refine WT.region ?_
  refine lq (q_move rfl) rfl ?_
  refine lq (q_lenR Sl_33 rfl rfl ph0) rfl ?_
  obtain ⟨x1, hx1, h⟩ := bind_some h
  refine le' (e_make (R := OTAlpha) Sl_43 Zr_114 By_114 rfl rfl rfl (fun _ => ⟨.slice none 0 0, .slice none 0 0, rfl, rfl, OSl.nil _ _ _ _, OSl.nil _ _ _ _⟩) rfl rfl (Int.le_refl _) hx1 (mk_le hx1)) rfl (fun v1 Φ_1 D1 q1 => ?_)
  obtain ⟨fr1, h1⟩ := q1
  replace ph0 := ph0.frame RTAlpha.lasts fr1 (Dj.empty _)
  refine WL.conv (S' := St w0 Φ_1 [] ([] :: [ob v1])) (fun w1 hw => hw.addNil) ?_
  refine lq (q_assign rfl) rfl ?_
  refine WL.nil ?_
  refine WT.seq ?_
  refine WT.seq ?_
  refine WT.region ?_
  refine lq (q_assign rfl) rfl ?_
  refine WL.nil ?_
  refine WT.block ?_
  refine WT.loop ?_
  refine WT.mono (l' := [(0, pv0), (3, v1), (4, .int .i64 0)]) (S' := St w0 Φ_1 [] [[], ob v1]) ⟨rfl, rfl, rfl, trivial⟩ (fun w1 hw => (hw.sel (js := [0, 0]) rfl).selO (js := []) rfl) ?_
  refine loop_ind (σ := Hp × (List TAlpha) × List Nat × Int) (fun s => [(0, pv0), (3, v1), (4, .int .i64 s.2.2.2)]) (fun s => St w0 s.1 [] [s.2.2.1, ob v1]) (fun m s => m_l_toAlphaS_l1 N p0 m s.2.1 s.2.2.2 = some r ∧ (OSl OTAlpha 114 4 s.1 s.2.2.1 v1 s.2.1) ∧ (RSl RTAlpha 4 s.1 pG0 pv0 p0)) (fun s hm => none_ne (show (none : Option ((List TAlpha))) = some r from hm.1)) (fun n1 ih1 s hm => ?_) N (Φ_1, x1, [], 0) ⟨h, h1, ph0⟩
  obtain ⟨Φ_2, s1, D2, s2⟩ := s
  obtain ⟨h, k1, ph0⟩ := hm
  replace h : m_l_toAlphaS_l1 N p0 (n1 + 1) s1 s2 = some r := h
  replace k1 : OSl OTAlpha 114 4 Φ_2 D2 v1 s1 := k1
  replace ph0 : RSl RTAlpha 4 Φ_2 pG0 pv0 p0 := ph0
  show WT _ _ [(0, pv0), (3, v1), (4, .int .i64 s2)] (St w0 Φ_2 [] [D2, ob v1])
  unfold m_l_toAlphaS_l1 at h
  refine WT.seq ?_
  refine WT.seq ?_
  refine WT.region ?_
  refine lq (q_move rfl) rfl ?_
  refine lq (q_move rfl) rfl ?_
  refine lq (q_lenR Sl_33 rfl rfl ph0) rfl ?_
  refine lq (q_lss rfl rfl) rfl ?_
  refine WL.nil ?_
  refine WT.cond rfl (fun c1 => ?_) (fun c1 => ?_)
  · replace h := ite_t h c1
    refine WT.skip ?_
    refine WT.seq ?_
    refine WT.block ?_
    refine WT.region ?_
    refine lq (q_move rfl) rfl ?_
    refine lq (q_move rfl) rfl ?_
    refine lq (q_move rfl) rfl ?_
    refine lq (q_move rfl) rfl ?_
    obtain ⟨x2, hx2, h⟩ := bind_some h
    obtain ⟨cs1, F1, -, g1, hb1, hs1, r1⟩ := ph0.el (idx_some hx2).2.2
    obtain ⟨v2, G1, v3, G2, rfl, rfl, h2, h3⟩ := r1
    refine lq (q_indexAddr Sl_33 rfl rfl ph0 hx2) rfl ?_
    refine lq (q_loadN Tn_220 rfl (fun w1 hw => (g1.of_eq 0 4 rfl rfl : rg _ _ _ [.string x2.Kind, .int .i64 x2.N, v2, v3]).rangeAt hw.fro) rfl) rfl ?_
    obtain ⟨x3, hx3, h⟩ := bind_some h
    refine lc (k_call (js := []) (R := [D2, ob v1]) Fun_156 rfl rfl (fun w1 hw ap hl => m_l_toAlpha_ok hw.fro N x2 h2 h3  hx3)) rfl (fun v4 Φ_3 F2 q2 => ?_)
    obtain ⟨ap1, fr2, v5, v6, rfl, rfl, h4, h5⟩ := q2
    replace ph0 := ph0.frame RTAlpha.lasts fr2 (ap1.o pa0)
    replace k1 := k1.frame OTAlpha.lasts fr2 (ap1.r (i := 1) rfl) (ap1.r (i := 0) rfl)
    obtain ⟨x4, hx4, h⟩ := bind_some h
    obtain ⟨cs2, F3, -, g2, hb2, hs2, r2⟩ := k1.elS (idx_some hx4).2.2
    obtain ⟨v7, v8, rfl, rfl, h6, h7⟩ := r2
    have h8 := h6.rsl
    have h9 := h7.rsl
    refine lq (q_indexAddr Sl_43 rfl rfl k1.rsl hx4) rfl ?_
    have r3 : OTAlpha Φ_3 ((ob v5 ++ []) ++ ((ob v6 ++ []))) [.string x3.Kind, .int .i64 x3.N, v5, v6] x3 := ⟨v5, v6, rfl, rfl, h4, h5⟩
    refine lu (u_setO (js := [3]) (Rr := [ob v5, ob v6, D2]) (vs := [.string x3.Kind, .int .i64 x3.N, v5, v6]) (x' := x3) OTAlpha.lasts Sz_114 rfl rfl rfl rfl ⟨rfl, rfl, h4.one, h5.one, trivial⟩ rfl k1 (idx_lt hx4) r3 (OTAlpha.knows _ _ _ _ r3) (fun ap => (ap.r (i := 2) rfl)) (fun ap => by simpa [ob_nil] using (Dj.app (ap.r (i := 0) rfl) (ap.r (i := 1) rfl)))) rfl (fun Φ_4 D3 q3 => ?_)
    obtain ⟨⟨ap2, fr3⟩, sp1, h10⟩ := q3
    replace ph0 := ph0.frame RTAlpha.lasts fr3 (ap2.o pa0)
    refine WL.conv (S' := St w0 Φ_4 [] [D3, ob v1]) (fun w1 hw => hw.merge (js := [3, 1, 1]) rfl (by simpa [List.append_assoc, ob_nil] using sp1)) ?_
    refine WL.nil ?_
    refine WT.inBlock ?_
    refine WT.region ?_
    refine lq (q_move rfl) rfl ?_
    refine lq (q_add rfl rfl) rfl ?_
    refine lq (q_assign rfl) rfl ?_
    refine WL.nil ?_
    refine WT.inLoop (WT.mono (l' := [(0, pv0), (3, v1), (4, .int .i64 (IntKind.i64.wrap (s2 + 1)))]) (S' := St w0 Φ_4 [] [D3, ob v1]) ⟨rfl, rfl, rfl, trivial⟩ (fun w1 hw => (hw.sel (js := [0, 0]) rfl).selO (js := []) rfl) ?_)
    exact ih1 (Φ_4, (s1.set s2.toNat x3), D3, IntKind.i64.wrap (s2 + 1)) ⟨h, h10, ph0⟩
  replace h := ite_f h c1
  refine WT.exit rfl ?_
  refine WT.seq ?_
  refine WT.region ?_
  refine lq (q_move rfl) rfl ?_
  refine lq (q_assign rfl) rfl ?_
  refine WL.nil ?_
  refine WT.ret Try.func75 (resOk.one rfl) (fun w1 hw => ?_)
  subst hb0
  cases h
  refine postG_of_St (js := [1, 0]) hw rfl ⟨v1, D2, rfl, rfl, k1⟩
theorem m_l_toChain_ok {Φ : Hp} {w : World} (hΦ : In Φ w) (N : Nat) (p0 : TChain) {pv0_0 : Value} {pG0_0 : List Nat} {pv0_1 : Value} {pG0_1 : List Nat} (ph0_0 : RSl (RI .i64) 1 Φ pG0_0 pv0_0 p0.Pos) (ph0_1 : RSl (RI .i64) 1 Φ pG0_1 pv0_1 p0.Neg) {r : TChain} (h : m_l_toChain N p0 = some r) :
    Calls Try.prog 157 [.agg [pv0_0, pv0_1].toArray].toArray w (PostG Φ w [] (fun Φ' Fs v => ∃ (sr_0_0 : Value) (sr_0_1 : Value), v = .agg [sr_0_0, sr_0_1].toArray ∧ Fs = [ob sr_0_0, ob sr_0_1] ∧ OSl (RI .i64) 3 1 Φ' [] sr_0_0 r.Pos ∧ OSl (RI .i64) 3 1 Φ' [] sr_0_1 r.Neg)) := by
  refine enter Try.func157 rfl Try.ntmps157 rfl (St.start0 hΦ) ?_
  have pa0_0 : Old ⟨w, [], Φ⟩ pG0_0 := Old.mk hΦ ph0_0.kn (Dj.empty _)
  have pa0_1 : Old ⟨w, [], Φ⟩ pG0_1 := Old.mk hΦ ph0_1.kn (Dj.empty _)
  unfold m_l_toChain at h
  refine WT.seq ?_
  refine WT.region ?_
  refine ln (n_box (C := #[pv0_0, pv0_1]) rfl rfl) rfl (fun b_1 => ?_)
  refine ln (n_alloc (C := #[.slice none 0 0, .slice none 0 0]) Zr_116 rfl) rfl (fun b_2 => ?_)
  refine WL.nil ?_
  refine WT.seq ?_
  refine WT.region ?_
  refine ln (n_alloc (C := #[.slice none 0 0, .slice none 0 0]) Zr_116 rfl) rfl (fun b_3 => ?_)
  refine WL.nil ?_
  refine WT.seq ?_
  refine WT.region ?_
  refine lq (q_fieldAddr Fld_222_0 rfl) rfl ?_
  refine lq (q_load1 T1_78 rfl (fun w1 hw => hw.rgO (i := 2) rfl 0 1 [pv0_0] rfl)) rfl ?_
  obtain ⟨x1, hx1, h⟩ := bind_some h
  refine lc (k_call (js := []) (R := []) Fun_124 rfl rfl (fun w1 hw ap hl => m_l_toIntS_ok hw.fro N p0.Pos ph0_0  hx1)) rfl (fun v1 Φ_1 F1 q1 => ?_)
  obtain ⟨ap1, fr1, v2, rfl, rfl, h1⟩ := q1
  replace ph0_0 := ph0_0.frame RI.lasts fr1 (ap1.o pa0_0)
  replace ph0_1 := ph0_1.frame RI.lasts fr1 (ap1.o pa0_1)
  refine lq (q_fieldAddr Fld_116_0 rfl) rfl ?_
  refine ls (s_store (i := 0) (vs := [v1]) (C' := [v1, .slice none 0 0]) (O' := [(b_3, .cells #[v1, .slice none 0 0] 116 (0, 0)), (b_2, .cells #[.slice none 0 0, .slice none 0 0] 116 (0, 0)), (b_1, .cells #[pv0_0, pv0_1] 222 (0, 0))]) Sz_78 rfl rfl rfl (one_cells h1.one) rfl rfl ⟨h1.one, trivial⟩ rfl rfl) rfl ?_
  refine WL.nil ?_
  refine WT.seq ?_
  refine WT.region ?_
  refine lq (q_fieldAddr Fld_222_1 rfl) rfl ?_
  refine lq (q_load1 T1_78 rfl (fun w1 hw => hw.rgO (i := 2) rfl 1 1 [pv0_1] rfl)) rfl ?_
  obtain ⟨x2, hx2, h⟩ := bind_some h
  refine lc (k_call (js := []) (R := [ob v1]) Fun_124 rfl rfl (fun w1 hw ap hl => m_l_toIntS_ok hw.fro N p0.Neg ph0_1  hx2)) rfl (fun v3 Φ_2 F2 q2 => ?_)
  obtain ⟨ap2, fr2, v4, rfl, rfl, h2⟩ := q2
  replace h1 := h1.frame RI.lasts fr2 (ap2.r (i := 0) rfl) (Dj.nil _)
  refine lq (q_fieldAddr Fld_116_1 rfl) rfl ?_
  refine ls (s_store (i := 0) (vs := [v3]) (C' := [v1, v3]) (O' := [(b_3, .cells #[v1, v3] 116 (0, 0)), (b_2, .cells #[.slice none 0 0, .slice none 0 0] 116 (0, 0)), (b_1, .cells #[pv0_0, pv0_1] 222 (0, 0))]) Sz_78 rfl rfl rfl (one_cells h2.one) rfl rfl ⟨h2.one, trivial⟩ rfl rfl) rfl ?_
  refine WL.nil ?_
  refine WT.seq ?_
  refine WT.region ?_
  refine lq (q_loadN Tn_116 rfl (fun w1 hw => hw.rgO (i := 0) rfl 0 2 [v1, v3] rfl) rfl) rfl ?_
  refine ls (s_store (i := 1) (vs := [v1, v3]) (C' := [v1, v3]) (O' := [(b_3, .cells #[v1, v3] 116 (0, 0)), (b_2, .cells #[v1, v3] 116 (0, 0)), (b_1, .cells #[pv0_0, pv0_1] 222 (0, 0))]) Sz_116 rfl rfl rfl rfl rfl rfl ⟨h1.one, h2.one, trivial⟩ rfl rfl) rfl ?_
  refine WL.nil ?_
  refine WT.ret Try.func157 (resOk.one (rv_cell Tn_116 rfl (fun w1 hw => hw.rgO (i := 1) rfl 0 2 [v1, v3] rfl) rfl)) (fun w1 hw => ?_)
  cases h
  refine postG_of_St (js := [1, 0]) hw rfl ⟨v1, v3, rfl, rfl, h1, h2⟩
theorem m_l_toChainS_ok {Φ : Hp} {w : World} (hΦ : In Φ w) (N : Nat) (p0 : (List TChain)) {pv0 : Value} {pG0 : List Nat} (ph0 : RSl RTChain 2 Φ pG0 pv0 p0) {r : (List TChain)} (h : m_l_toChainS N p0 = some r) :
    Calls Try.prog 76 [pv0].toArray w (PostG Φ w [] (fun Φ' Fs v => ∃ (sr_0_0 : Value) (Dr_0_0 : List Nat), v = sr_0_0 ∧ Fs = [ob sr_0_0, Dr_0_0] ∧ OSl OTChain 116 2 Φ' Dr_0_0 sr_0_0 r)) := by
  refine enter Try.func76 rfl Try.ntmps76 rfl (St.start0 hΦ) ?_
  have pa0 : Old ⟨w, [], Φ⟩ pG0 := Old.mk hΦ ph0.kn (Dj.empty _)
  revert pa0
  generalize hb0 : (⟨w, [], Φ⟩ : Base) = w0
  intro pa0
  unfold m_l_toChainS at h
  refine WT.seq ?_
  refine WT.region ?_
  refine lq (q_assign rfl) rfl ?_
  refine WL.nil ?_
  refine WT.seq ?_
  refine WT.region ?_
  refine lq (q_move rfl) rfl ?_
  refine lq (q_lenR Sl_34 rfl rfl ph0) rfl ?_
  obtain ⟨x1, hx1, h⟩ := bind_some h
  refine le' (e_make (R := OTChain) Sl_44 Zr_116 By_116 rfl rfl rfl (fun _ => ⟨.slice none 0 0, .slice none 0 0, rfl, rfl, OSl.nil _ _ _ _, OSl.nil _ _ _ _⟩) rfl rfl (Int.le_refl _) hx1 (mk_le hx1)) rfl (fun v1 Φ_1 D1 q1 => ?_)
  obtain ⟨fr1, h1⟩ := q1
  replace ph0 := ph0.frame RTChain.lasts fr1 (Dj.empty _)
  refine WL.conv (S' := St w0 Φ_1 [] ([] :: [ob v1])) (fun w1 hw => hw.addNil) ?_
  refine lq (q_assign rfl) rfl ?_
  refine WL.nil ?_
  refine WT.seq ?_
  refine WT.seq ?_
  refine WT.region ?_
  refine lq (q_assign rfl) rfl ?_
  refine WL.nil ?_
  refine WT.block ?_
  refine WT.loop ?_
  refine WT.mono (l' := [(0, pv0), (3, v1), (4, .int .i64 0)]) (S' := St w0 Φ_1 [] [[], ob v1]) ⟨rfl, rfl, rfl, trivial⟩ (fun w1 hw => (hw.sel (js := [0, 0]) rfl).selO (js := []) rfl) ?_
  refine loop_ind (σ := Hp × (List TChain) × List Nat × Int) (fun s => [(0, pv0), (3, v1), (4, .int .i64 s.2.2.2)]) (fun s => St w0 s.1 [] [s.2.2.1, ob v1]) (fun m s => m_l_toChainS_l1 N p0 m s.2.1 s.2.2.2 = some r ∧ (OSl OTChain 116 2 s.1 s.2.2.1 v1 s.2.1) ∧ (RSl RTChain 2 s.1 pG0 pv0 p0)) (fun s hm => none_ne (show (none : Option ((List TChain))) = some r from hm.1)) (fun n1 ih1 s hm => ?_) N (Φ_1, x1, [], 0) ⟨h, h1, ph0⟩
  obtain ⟨Φ_2, s1, D2, s2⟩ := s
  obtain ⟨h, k1, ph0⟩ := hm
  replace h : m_l_toChainS_l1 N p0 (n1 + 1) s1 s2 = some r := h
  replace k1 : OSl OTChain 116 2 Φ_2 D2 v1 s1 := k1
  replace ph0 : RSl RTChain 2 Φ_2 pG0 pv0 p0 := ph0
  show WT _ _ [(0, pv0), (3, v1), (4, .int .i64 s2)] (St w0 Φ_2 [] [D2, ob v1])
  unfold m_l_toChainS_l1 at h
  refine WT.seq ?_
  refine WT.seq ?_
  refine WT.region ?_
  refine lq (q_move rfl) rfl ?_
  refine lq (q_move rfl) rfl ?_
  refine lq (q_lenR Sl_34 rfl rfl ph0) rfl ?_
  refine lq (q_lss rfl rfl) rfl ?_
  refine WL.nil ?_
  refine WT.cond rfl (fun c1 => ?_) (fun c1 => ?_)
  · replace h := ite_t h c1
    refine WT.skip ?_
    refine WT.seq ?_
    refine WT.block ?_
    refine WT.region ?_
    refine lq (q_move rfl) rfl ?_
    refine lq (q_move rfl) rfl ?_
    refine lq (q_move rfl) rfl ?_
    refine lq (q_move rfl) rfl ?_
    obtain ⟨x2, hx2, h⟩ := bind_some h
    obtain ⟨cs1, F1, -, g1, hb1, hs1, r1⟩ := ph0.el (idx_some hx2).2.2
    obtain ⟨v2, G1, v3, G2, rfl, rfl, h2, h3⟩ := r1
    refine lq (q_indexAddr Sl_34 rfl rfl ph0 hx2) rfl ?_
    refine lq (q_loadN Tn_222 rfl (fun w1 hw => (g1.of_eq 0 2 rfl rfl : rg _ _ _ [v2, v3]).rangeAt hw.fro) rfl) rfl ?_
    obtain ⟨x3, hx3, h⟩ := bind_some h
    refine lc (k_call (js := []) (R := [D2, ob v1]) Fun_157 rfl rfl (fun w1 hw ap hl => m_l_toChain_ok hw.fro N x2 h2 h3  hx3)) rfl (fun v4 Φ_3 F2 q2 => ?_)
    obtain ⟨ap1, fr2, v5, v6, rfl, rfl, h4, h5⟩ := q2
    replace ph0 := ph0.frame RTChain.lasts fr2 (ap1.o pa0)
    replace k1 := k1.frame OTChain.lasts fr2 (ap1.r (i := 1) rfl) (ap1.r (i := 0) rfl)
    obtain ⟨x4, hx4, h⟩ := bind_some h
    obtain ⟨cs2, F3, -, g2, hb2, hs2, r2⟩ := k1.elS (idx_some hx4).2.2
    obtain ⟨v7, v8, rfl, rfl, h6, h7⟩ := r2
    have h8 := h6.rsl
    have h9 := h7.rsl
    refine lq (q_indexAddr Sl_44 rfl rfl k1.rsl hx4) rfl ?_
    have r3 : OTChain Φ_3 ((ob v5 ++ []) ++ ((ob v6 ++ []))) [v5, v6] x3 := ⟨v5, v6, rfl, rfl, h4, h5⟩
    refine lu (u_setO (js := [3]) (Rr := [ob v5, ob v6, D2]) (vs := [v5, v6]) (x' := x3) OTChain.lasts Sz_116 rfl rfl rfl rfl ⟨h4.one, h5.one, trivial⟩ rfl k1 (idx_lt hx4) r3 (OTChain.knows _ _ _ _ r3) (fun ap => (ap.r (i := 2) rfl)) (fun ap => by simpa [ob_nil] using (Dj.app (ap.r (i := 0) rfl) (ap.r (i := 1) rfl)))) rfl (fun Φ_4 D3 q3 => ?_)
    obtain ⟨⟨ap2, fr3⟩, sp1, h10⟩ := q3
    replace ph0 := ph0.frame RTChain.lasts fr3 (ap2.o pa0)
    refine WL.conv (S' := St w0 Φ_4 [] [D3, ob v1]) (fun w1 hw => hw.merge (js := [3, 1, 1]) rfl (by simpa [List.append_assoc, ob_nil] using sp1)) ?_
    refine WL.nil ?_
    refine WT.inBlock ?_
    refine WT.region ?_
    refine lq (q_move rfl) rfl ?_
    refine lq (q_add rfl rfl) rfl ?_
    refine lq (q_assign rfl) rfl ?_
    refine WL.nil ?_
    refine WT.inLoop (WT.mono (l' := [(0, pv0), (3, v1), (4, .int .i64 (IntKind.i64.wrap (s2 + 1)))]) (S' := St w0 Φ_4 [] [D3, ob v1]) ⟨rfl, rfl, rfl, trivial⟩ (fun w1 hw => (hw.sel (js := [0, 0]) rfl).selO (js := []) rfl) ?_)
    exact ih1 (Φ_4, (s1.set s2.toNat x3), D3, IntKind.i64.wrap (s2 + 1)) ⟨h, h10, ph0⟩
  replace h := ite_f h c1
  refine WT.exit rfl ?_
  refine WT.seq ?_
  refine WT.region ?_
  refine lq (q_move rfl) rfl ?_
  refine lq (q_assign rfl) rfl ?_
  refine WL.nil ?_
  refine WT.ret Try.func76 (resOk.one rfl) (fun w1 hw => ?_)
  subst hb0
  cases h
  refine postG_of_St (js := [1, 0]) hw rfl ⟨v1, D2, rfl, rfl, k1⟩
theorem m_l_toNet_ok {Φ : Hp} {w : World} (hΦ : In Φ w) (N : Nat) (p0 : TNet) {pv0_0 : Value} {pG0_0 : List Nat} {pv0_1 : Value} {pG0_1 : List Nat} (ph0_0 : RSl RTAlpha 4 Φ pG0_0 pv0_0 p0.Alphas) (ph0_1 : RSl RTChain 2 Φ pG0_1 pv0_1 p0.Chains) {r : TNet} (h : m_l_toNet N p0 = some r) :
    Calls Try.prog 20 [.agg [pv0_0, pv0_1].toArray].toArray w (PostG Φ w [] (fun Φ' Fs v => ∃ (sr_0_0 : Value) (Dr_0_0 : List Nat) (sr_0_1 : Value) (Dr_0_1 : List Nat), v = .agg [sr_0_0, sr_0_1].toArray ∧ Fs = [ob sr_0_0, Dr_0_0, ob sr_0_1, Dr_0_1] ∧ OSl OTAlpha 114 4 Φ' Dr_0_0 sr_0_0 r.Alphas ∧ OSl OTChain 116 2 Φ' Dr_0_1 sr_0_1 r.Chains)) := by
  refine enter Try.func20 rfl Try.ntmps20 rfl (St.start0 hΦ) ?_
  have pa0_0 : Old ⟨w, [], Φ⟩ pG0_0 := Old.mk hΦ ph0_0.kn (Dj.empty _)
  have pa0_1 : Old ⟨w, [], Φ⟩ pG0_1 := Old.mk hΦ ph0_1.kn (Dj.empty _)
  unfold m_l_toNet at h
  refine WT.seq ?_
  refine WT.region ?_
  refine ln (n_box (C := #[pv0_0, pv0_1]) rfl rfl) rfl (fun b_1 => ?_)
  refine ln (n_alloc (C := #[.slice none 0 0, .slice none 0 0]) Zr_46 rfl) rfl (fun b_2 => ?_)
  refine WL.nil ?_
  refine WT.seq ?_
  refine WT.region ?_
  refine ln (n_alloc (C := #[.slice none 0 0, .slice none 0 0]) Zr_46 rfl) rfl (fun b_3 => ?_)
  refine WL.nil ?_
  refine WT.seq ?_
  refine WT.region ?_
  refine lq (q_fieldAddr Fld_36_0 rfl) rfl ?_
  refine lq (q_load1 T1_33 rfl (fun w1 hw => hw.rgO (i := 2) rfl 0 1 [pv0_0] rfl)) rfl ?_
  obtain ⟨x1, hx1, h⟩ := bind_some h
  refine lc (k_call (js := []) (R := []) Fun_75 rfl rfl (fun w1 hw ap hl => m_l_toAlphaS_ok hw.fro N p0.Alphas ph0_0  hx1)) rfl (fun v1 Φ_1 F1 q1 => ?_)
  obtain ⟨ap1, fr1, v2, D1, rfl, rfl, h1⟩ := q1
  replace ph0_0 := ph0_0.frame RTAlpha.lasts fr1 (ap1.o pa0_0)
  replace ph0_1 := ph0_1.frame RTChain.lasts fr1 (ap1.o pa0_1)
  refine lq (q_fieldAddr Fld_46_0 rfl) rfl ?_
  refine ls (s_store (i := 0) (vs := [v1]) (C' := [v1, .slice none 0 0]) (O' := [(b_3, .cells #[v1, .slice none 0 0] 46 (0, 0)), (b_2, .cells #[.slice none 0 0, .slice none 0 0] 46 (0, 0)), (b_1, .cells #[pv0_0, pv0_1] 36 (0, 0))]) Sz_43 rfl rfl rfl (one_cells h1.one) rfl rfl ⟨h1.one, trivial⟩ rfl rfl) rfl ?_
  refine WL.nil ?_
  refine WT.seq ?_
  refine WT.region ?_
  refine lq (q_fieldAddr Fld_36_1 rfl) rfl ?_
  refine lq (q_load1 T1_34 rfl (fun w1 hw => hw.rgO (i := 2) rfl 1 1 [pv0_1] rfl)) rfl ?_
  obtain ⟨x2, hx2, h⟩ := bind_some h
  refine lc (k_call (js := []) (R := [ob v1, D1]) Fun_76 rfl rfl (fun w1 hw ap hl => m_l_toChainS_ok hw.fro N p0.Chains ph0_1  hx2)) rfl (fun v3 Φ_2 F2 q2 => ?_)
  obtain ⟨ap2, fr2, v4, D2, rfl, rfl, h2⟩ := q2
  replace h1 := h1.frame OTAlpha.lasts fr2 (ap2.r (i := 0) rfl) (ap2.r (i := 1) rfl)
  refine lq (q_fieldAddr Fld_46_1 rfl) rfl ?_
  refine ls (s_store (i := 0) (vs := [v3]) (C' := [v1, v3]) (O' := [(b_3, .cells #[v1, v3] 46 (0, 0)), (b_2, .cells #[.slice none 0 0, .slice none 0 0] 46 (0, 0)), (b_1, .cells #[pv0_0, pv0_1] 36 (0, 0))]) Sz_44 rfl rfl rfl (one_cells h2.one) rfl rfl ⟨h2.one, trivial⟩ rfl rfl) rfl ?_
  refine WL.nil ?_
  refine WT.seq ?_
  refine WT.region ?_
  refine lq (q_loadN Tn_46 rfl (fun w1 hw => hw.rgO (i := 0) rfl 0 2 [v1, v3] rfl) rfl) rfl ?_
  refine ls (s_store (i := 1) (vs := [v1, v3]) (C' := [v1, v3]) (O' := [(b_3, .cells #[v1, v3] 46 (0, 0)), (b_2, .cells #[v1, v3] 46 (0, 0)), (b_1, .cells #[pv0_0, pv0_1] 36 (0, 0))]) Sz_46 rfl rfl rfl rfl rfl rfl ⟨h1.one, h2.one, trivial⟩ rfl rfl) rfl ?_
  refine WL.nil ?_
  refine WT.ret Try.func20 (resOk.one (rv_cell Tn_46 rfl (fun w1 hw => hw.rgO (i := 1) rfl 0 2 [v1, v3] rfl) rfl)) (fun w1 hw => ?_)
  cases h
  refine postG_of_St (js := [2, 2, 0, 0]) hw rfl ⟨v1, D1, v3, D2, rfl, rfl, h1, h2⟩
theorem m_i_MemNew_ok {Φ : Hp} {w : World} (hΦ : In Φ w) (N : Nat) (p0 : TNet) {pv0_0 : Value} {pG0_0 : List Nat} {pv0_1 : Value} {pG0_1 : List Nat} (ph0_0 : RSl RTAlpha 4 Φ pG0_0 pv0_0 p0.Alphas) (ph0_1 : RSl RTChain 2 Φ pG0_1 pv0_1 p0.Chains) {r : TMem} (h : m_i_MemNew N p0 = some r) :
    Calls Try.prog 21 [.agg [pv0_0, pv0_1].toArray].toArray w (PostG Φ w [] (fun Φ' Fs v => ∃ (sr_0_0 : Value) (Dr_0_0 : List Nat) (sr_0_1 : Value) (Dr_0_1 : List Nat), v = .agg [sr_0_0, sr_0_1].toArray ∧ Fs = [ob sr_0_0, Dr_0_0, ob sr_0_1, Dr_0_1] ∧ OSl OTIds 130 1 Φ' Dr_0_0 sr_0_0 r.Alphas ∧ OSl OTRow 133 1 Φ' Dr_0_1 sr_0_1 r.Rules)) := by
  refine enter Try.func21 rfl Try.ntmps21 rfl (St.start0 hΦ) ?_
  have pa0_1 : Old ⟨w, [], Φ⟩ pG0_1 := Old.mk hΦ ph0_1.kn (Dj.empty _)
  revert pa0_1
  generalize hb0 : (⟨w, [], Φ⟩ : Base) = w0
  intro pa0_1
  unfold m_i_MemNew at h
  refine WT.seq ?_
  refine WT.region ?_
  refine ln (n_box (C := #[pv0_0, pv0_1]) rfl rfl) rfl (fun b_1 => ?_)
  refine ln (n_alloc (C := #[.slice none 0 0, .slice none 0 0]) Zr_41 rfl) rfl (fun b_2 => ?_)
  refine WL.nil ?_
  refine WT.seq ?_
  refine WT.region ?_
  refine lq (q_fieldAddr Fld_46_0 rfl) rfl ?_
  refine lq (q_load1 T1_43 rfl (fun w1 hw => hw.rgO (i := 1) rfl 0 1 [pv0_0] rfl)) rfl ?_
  refine lq (q_lenR Sl_43 rfl rfl ph0_0) rfl ?_
  obtain ⟨x1, hx1, h⟩ := bind_some h
  refine le' (e_make (R := OTIds) Sl_38 Zr_130 By_130 rfl rfl rfl (fun _ => ⟨.slice none 0 0, rfl, rfl, OSl.nil _ _ _ _⟩) rfl rfl (Int.le_refl _) hx1 (mk_le hx1)) rfl (fun v1 Φ_1 D1 q1 => ?_)
  obtain ⟨fr1, h1⟩ := q1
  replace ph0_0 := ph0_0.frame RTAlpha.lasts fr1 (Dj.empty _)
  replace ph0_1 := ph0_1.frame RTChain.lasts fr1 (Dj.empty _)
  refine WL.conv (S' := St w0 Φ_1 [(b_2, .cells #[.slice none 0 0, .slice none 0 0] 41 (0, 0)), (b_1, .cells #[pv0_0, pv0_1] 46 (0, 0))] ([] :: [ob v1])) (fun w1 hw => hw.addNil) ?_
  refine lq (q_build (vs := [(0, v1)]) (C := #[v1, .slice none 0 0]) Pl_41 Zr_41 rfl (fill_cons (cells := [.slice none 0 0, .slice none 0 0]) (c := [v1]) (C' := [v1, .slice none 0 0]) rfl (one_cells h1.one) rfl rfl rfl (fill_nil))) rfl ?_
  refine ln (n_alloc (C := #[.slice none 0 0, .slice none 0 0]) Zr_41 rfl) rfl (fun b_3 => ?_)
  refine ls (s_store (i := 0) (vs := [v1, .slice none 0 0]) (C' := [v1, .slice none 0 0]) (O' := [(b_3, .cells #[v1, .slice none 0 0] 41 (0, 0)), (b_2, .cells #[.slice none 0 0, .slice none 0 0] 41 (0, 0)), (b_1, .cells #[pv0_0, pv0_1] 46 (0, 0))]) Sz_41 rfl rfl rfl rfl rfl rfl ⟨h1.one, rfl, trivial⟩ rfl rfl) rfl ?_
  refine WL.nil ?_
  refine WT.seq ?_
  refine WT.seq ?_
  refine WT.region ?_
  refine lq (q_fieldAddr Fld_46_1 rfl) rfl ?_
  refine lq (q_load1 T1_44 rfl (fun w1 hw => hw.rgO (i := 2) rfl 1 1 [pv0_1] rfl)) rfl ?_
  refine lq (q_lenR Sl_44 rfl rfl ph0_1) rfl ?_
  refine lq (q_move rfl) rfl ?_
  refine WL.nil ?_
  refine WT.block ?_
  refine WT.loop ?_
  refine WT.conv (S' := St w0 Φ_1 [(b_3, .cells #[v1, .slice none 0 0] 41 (0, 0)), (b_2, .cells #[.slice none 0 0, .slice none 0 0] 41 (0, 0)), (b_1, .cells #[pv0_0, pv0_1] 46 (0, 0))] (ob (.slice none 0 0) :: [[], ob v1])) (fun w1 hw => hw.addNil) ?_
  refine WT.conv (S' := St w0 Φ_1 [(b_3, .cells #[v1, .slice none 0 0] 41 (0, 0)), (b_2, .cells #[.slice none 0 0, .slice none 0 0] 41 (0, 0)), (b_1, .cells #[pv0_0, pv0_1] 46 (0, 0))] ([] :: [ob (.slice none 0 0), [], ob v1])) (fun w1 hw => hw.addNil) ?_
  have k1 := OSl.nil OTRow 133 1 Φ_1
  refine WT.mono (l' := [(2, .pointer (some ⟨b_2, 0, none⟩)), (3, .pointer (some ⟨b_3, 0, none⟩)), (12, pv0_1), (13, .int .i64 (p0.Chains.length : Int)), (14, .int .i64 0)]) (S' := St w0 Φ_1 [(b_3, .cells #[v1, (.slice none 0 0)] 41 (0, 0)), (b_2, .cells #[.slice none 0 0, .slice none 0 0] 41 (0, 0))] [[], ob (.slice none 0 0), [], ob v1]) ⟨rfl, rfl, rfl, rfl, rfl, trivial⟩ (fun w1 hw => (hw.sel (js := [0, 0, 0, 0]) rfl).selO (js := [0, 0]) rfl) ?_
  refine loop_ind (σ := Hp × (List TRow) × Value × List Nat × Int) (fun s => [(2, .pointer (some ⟨b_2, 0, none⟩)), (3, .pointer (some ⟨b_3, 0, none⟩)), (12, pv0_1), (13, .int .i64 (p0.Chains.length : Int)), (14, .int .i64 s.2.2.2.2)]) (fun s => St w0 s.1 [(b_3, .cells #[v1, s.2.2.1] 41 (0, 0)), (b_2, .cells #[.slice none 0 0, .slice none 0 0] 41 (0, 0))] [s.2.2.2.1, ob s.2.2.1, [], ob v1]) (fun m s => m_i_MemNew_l1 N p0 x1 m s.2.1 s.2.2.2.2 = some r ∧ (OSl OTIds 130 1 s.1 [] v1 x1) ∧ (OSl OTRow 133 1 s.1 s.2.2.2.1 s.2.2.1 s.2.1) ∧ (RSl RTChain 2 s.1 pG0_1 pv0_1 p0.Chains)) (fun s hm => none_ne (show (none : Option (TMem)) = some r from hm.1)) (fun n1 ih1 s hm => ?_) N (Φ_1, ([] : List TRow), (.slice none 0 0), [], 0) ⟨h, h1, k1, ph0_1⟩
  obtain ⟨Φ_2, s1, u1, D2, s2⟩ := s
  obtain ⟨h, h1, k2, ph0_1⟩ := hm
  replace h : m_i_MemNew_l1 N p0 x1 (n1 + 1) s1 s2 = some r := h
  replace h1 : OSl OTIds 130 1 Φ_2 [] v1 x1 := h1
  replace k2 : OSl OTRow 133 1 Φ_2 D2 u1 s1 := k2
  replace ph0_1 : RSl RTChain 2 Φ_2 pG0_1 pv0_1 p0.Chains := ph0_1
  show WT _ _ [(2, .pointer (some ⟨b_2, 0, none⟩)), (3, .pointer (some ⟨b_3, 0, none⟩)), (12, pv0_1), (13, .int .i64 (p0.Chains.length : Int)), (14, .int .i64 s2)] (St w0 Φ_2 [(b_3, .cells #[v1, u1] 41 (0, 0)), (b_2, .cells #[.slice none 0 0, .slice none 0 0] 41 (0, 0))] [D2, ob u1, [], ob v1])
  unfold m_i_MemNew_l1 at h
  refine WT.seq ?_
  refine WT.region ?_
  refine lq (q_lss rfl rfl) rfl ?_
  refine WL.nil ?_
  refine WT.seq ?_
  refine WT.cond rfl (fun c1 => ?_) (fun c1 => ?_)
  · replace h := ite_t h c1
    refine WT.skip ?_
    refine WT.seq ?_
    refine WT.block ?_
    refine WT.seq ?_
    refine WT.region ?_
    obtain ⟨x2, hx2, h⟩ := bind_some h
    obtain ⟨cs1, F1, -, g1, hb1, hs1, r1⟩ := ph0_1.el (idx_some hx2).2.2
    obtain ⟨v2, G1, v3, G2, rfl, rfl, h2, h3⟩ := r1
    refine lq (q_indexAddr Sl_44 rfl rfl ph0_1 hx2) rfl ?_
    refine lq (q_loadN Tn_116 rfl (fun w1 hw => (g1.of_eq 0 2 rfl rfl : rg _ _ _ [v2, v3]).rangeAt hw.fro) rfl) rfl ?_
    refine ln (n_alloc (C := #[.slice none 0 0, .slice none 0 0]) Zr_116 rfl) rfl (fun b_4 => ?_)
    refine ls (s_store (i := 0) (vs := [v2, v3]) (C' := [v2, v3]) (O' := [(b_4, .cells #[v2, v3] 116 (0, 0)), (b_3, .cells #[v1, u1] 41 (0, 0)), (b_2, .cells #[.slice none 0 0, .slice none 0 0] 41 (0, 0))]) Sz_116 rfl rfl rfl rfl rfl rfl ⟨h2.one, h3.one, trivial⟩ rfl rfl) rfl ?_
    refine WL.nil ?_
    refine WT.mix (Kn Φ_2 [] [(b_4, .cells #[v2, v3] 116 (0, 0)), (b_3, .cells #[v1, u1] 41 (0, 0)), (b_2, .cells #[.slice none 0 0, .slice none 0 0] 41 (0, 0))]) (fun i => match i with | 10 => false | _ => true) mixed (fun _ h => h.drew) ?_
    refine mq 0 rfl (by kernel_rfl) (fun w1 hw => Kn.of (fun k hk _ _ => by simp at hk) (AllIn.mem ⟨List.mem_of_getElem? (i := 0) rfl, List.mem_of_getElem? (i := 1) rfl, List.mem_of_getElem? (i := 2) rfl, trivial⟩) hw) (q_fieldAddr Fld_41_1 rfl) rfl ?_
    refine mq 1 rfl (by kernel_rfl) (fun w1 hw => Kn.of (fun k hk _ _ => by simp at hk) (AllIn.mem ⟨List.mem_of_getElem? (i := 0) rfl, List.mem_of_getElem? (i := 1) rfl, List.mem_of_getElem? (i := 2) rfl, trivial⟩) hw) (q_load1 T1_39 rfl (fun w1 hw => hw.rgO (i := 1) rfl 1 1 [u1] rfl)) rfl ?_
    refine mq 2 rfl (by kernel_rfl) (fun w1 hw => Kn.of (fun k hk _ _ => by simp at hk) (AllIn.mem ⟨List.mem_of_getElem? (i := 0) rfl, List.mem_of_getElem? (i := 1) rfl, List.mem_of_getElem? (i := 2) rfl, trivial⟩) hw) (q_fieldAddr Fld_116_0 rfl) rfl ?_
    refine mq 3 rfl (by kernel_rfl) (fun w1 hw => Kn.of (fun k hk _ _ => by simp at hk) (AllIn.mem ⟨List.mem_of_getElem? (i := 0) rfl, List.mem_of_getElem? (i := 1) rfl, List.mem_of_getElem? (i := 2) rfl, trivial⟩) hw) (q_load1 T1_78 rfl (fun w1 hw => hw.rgO (i := 0) rfl 0 1 [v2] rfl)) rfl ?_
    refine mq 4 rfl (by kernel_rfl) (fun w1 hw => Kn.of (fun k hk _ _ => by simp at hk) (AllIn.mem ⟨List.mem_of_getElem? (i := 0) rfl, List.mem_of_getElem? (i := 1) rfl, List.mem_of_getElem? (i := 2) rfl, trivial⟩) hw) (q_lenR Sl_78 rfl rfl h2) rfl ?_
    obtain ⟨x3, hx3, h⟩ := bind_some h
    refine WM.one 5 (by kernel_rfl) (me rfl (fun _ v Φx D w1 hq hw => Kn.of (fun k hk _ _ => by simp at hk) (AllIn.mem ⟨List.mem_of_getElem? (i := 0) rfl, List.mem_of_getElem? (i := 1) rfl, List.mem_of_getElem? (i := 2) rfl, trivial⟩) hw) (e_make (R := OTLevel) Sl_131 Zr_136 By_136 rfl rfl rfl (fun _ => ⟨.slice none 0 0, [], rfl, rfl, OSl.nil _ _ _ _⟩) rfl rfl (Int.le_refl _) hx3 (mk_le hx3)) rfl (fun v4 Φ_3 D3 q2 => ?_))
    obtain ⟨fr2, h4⟩ := q2
    replace ph0_1 := ph0_1.frame RTChain.lasts fr2 (Dj.empty _)
    replace h1 := h1.frame OTIds.lasts fr2 (Dj.empty _) (Dj.empty _)
    replace k2 := k2.frame OTRow.lasts fr2 (Dj.empty _) (Dj.empty _)
    refine WM.conv (S' := St w0 Φ_3 [(b_4, .cells #[v2, v3] 116 (0, 0)), (b_3, .cells #[v1, u1] 41 (0, 0)), (b_2, .cells #[.slice none 0 0, .slice none 0 0] 41 (0, 0))] ([] :: [ob v4, D2, ob u1, [], ob v1])) (fun w1 hw => hw.addNil) ?_
    refine mq 6 rfl (by kernel_rfl) (fun w1 hw => Kn.of (fun k hk _ _ => by simp at hk) (AllIn.mem ⟨List.mem_of_getElem? (i := 0) rfl, List.mem_of_getElem? (i := 1) rfl, List.mem_of_getElem? (i := 2) rfl, trivial⟩) hw) (q_build (vs := [(0, v4)]) (C := #[v4]) Pl_133 Zr_133 rfl (fill_cons (cells := [.slice none 0 0]) (c := [v4]) (C' := [v4]) rfl (one_cells h4.one) rfl rfl rfl (fill_nil))) rfl ?_
    have rc1 : RC OTRow 1 Φ_3 ([(ob v4 ++ [])] : List (List Nat)) [v4] ([(⟨x3⟩ : TRow)] : List TRow) := RC.cons (c := [v4]) (cells := []) ⟨v4, [], rfl, rfl, h4⟩ rfl (RC.nil _ _ _)
    refine WM.one 7 (by kernel_rfl) (me rfl (fun _ v Φx D w1 hq hw => Kn.of (fun k hk _ _ => by simp at hk) (AllIn.mem ⟨List.mem_of_getElem? (i := 0) rfl, List.mem_of_getElem? (i := 1) rfl, List.mem_of_getElem? (i := 2) rfl, trivial⟩) hw) (e_lit (vs := [(0, .agg [v4].toArray)]) (C := #[v4]) OTRow.lasts Sl_39 Zr_133 rfl rfl rfl rfl (fill_made MC_133_1 (fill_cons (cells := [.slice none 0 0]) (c := [v4]) (C' := [v4]) rfl rfl rfl rfl rfl (fill_nil))) rfl rc1 rfl (RC.kn OTRow.knows rc1)) rfl (fun v5 Φ_4 D4 q3 => ?_))
    obtain ⟨fr3, h5⟩ := q3
    replace h5 : OSl OTRow 133 1 Φ_4 ((ob v4 ++ [])) v5 ([(⟨x3⟩ : TRow)] : List TRow) := by simpa [List.append_assoc] using h5
    replace ph0_1 := ph0_1.frame RTChain.lasts fr3 (Dj.empty _)
    replace h1 := h1.frame OTIds.lasts fr3 (Dj.empty _) (Dj.empty _)
    replace k2 := k2.frame OTRow.lasts fr3 (Dj.empty _) (Dj.empty _)
    refine WM.conv (S' := St w0 Φ_4 [(b_4, .cells #[v2, v3] 116 (0, 0)), (b_3, .cells #[v1, u1] 41 (0, 0)), (b_2, .cells #[.slice none 0 0, .slice none 0 0] 41 (0, 0))] [((ob v4 ++ [])), ob v5, D2, ob u1, [], ob v1]) (fun w1 hw => hw.merge (js := [2, 1]) rfl (SP.eq (by simp [List.append_assoc, ob_nil]))) ?_
    obtain ⟨x4, hx4, h⟩ := bind_some h
    refine WM.one 8 (by kernel_rfl) (me rfl (fun _ v Φx D w1 hq hw => Kn.of (fun k hk _ _ => by simp at hk) (AllIn.mem ⟨List.mem_of_getElem? (i := 0) rfl, List.mem_of_getElem? (i := 1) rfl, List.mem_of_getElem? (i := 2) rfl, trivial⟩) hw) (e_appO OTRow.lasts OTRow.one Sl_39 Ei_133 rfl rfl rfl rfl rfl (js := [3]) (Rr := [((ob v4 ++ [])), ob v5, D2, [], ob v1]) rfl k2 h5 (fun ap => (ap.r (i := 2) rfl)) (fun ap => (ap.r (i := 0) rfl)) hx4) rfl (fun v6 Φ_5 D5 q4 => ?_))
    obtain ⟨⟨ap1, fr4⟩, h6⟩ := q4
    replace ph0_1 := ph0_1.frame RTChain.lasts fr4 (ap1.o pa0_1)
    replace h1 := h1.frame OTIds.lasts fr4 (ap1.r (i := 4) rfl) (Dj.nil _)
    refine WM.conv (S' := St w0 Φ_5 [(b_4, .cells #[v2, v3] 116 (0, 0)), (b_3, .cells #[v1, u1] 41 (0, 0)), (b_2, .cells #[.slice none 0 0, .slice none 0 0] 41 (0, 0))] [(D2 ++ ((ob v4 ++ []))), ob v6, ob v5, [], ob v1]) (fun w1 hw => hw.merge (js := [3, 1]) rfl (SP.eq (by simp))) ?_
    refine mq 9 rfl (by kernel_rfl) (fun w1 hw => Kn.of (fun k hk _ _ => by simp at hk) (AllIn.mem ⟨List.mem_of_getElem? (i := 0) rfl, List.mem_of_getElem? (i := 1) rfl, List.mem_of_getElem? (i := 2) rfl, trivial⟩) hw) (q_fieldAddr Fld_41_1 rfl) rfl ?_
    refine WM.one 10 (by kernel_rfl) (ms rfl (fun hc => by cases hc) (s_store (i := 1) (vs := [v6]) (C' := [v1, v6]) (O' := [(b_4, .cells #[v2, v3] 116 (0, 0)), (b_3, .cells #[v1, v6] 41 (0, 0)), (b_2, .cells #[.slice none 0 0, .slice none 0 0] 41 (0, 0))]) Sz_39 rfl rfl rfl (one_cells h6.one) rfl rfl ⟨h6.one, trivial⟩ rfl rfl) rfl ?_)
    refine WM.nil (by kernel_rfl) ?_
    refine WT.inBlock ?_
    refine WT.region ?_
    refine lq (q_add rfl rfl) rfl ?_
    refine lq (q_move rfl) rfl ?_
    refine WL.nil ?_
    refine WT.inLoop (WT.mono (l' := [(2, .pointer (some ⟨b_2, 0, none⟩)), (3, .pointer (some ⟨b_3, 0, none⟩)), (12, pv0_1), (13, .int .i64 (p0.Chains.length : Int)), (14, .int .i64 (IntKind.i64.wrap (s2 + 1)))]) (S' := St w0 Φ_5 [(b_3, .cells #[v1, v6] 41 (0, 0)), (b_2, .cells #[.slice none 0 0, .slice none 0 0] 41 (0, 0))] [(D2 ++ ((ob v4 ++ []))), ob v6, [], ob v1]) ⟨rfl, rfl, rfl, rfl, rfl, trivial⟩ (fun w1 hw => (hw.sel (js := [0, 0, 1, 1]) rfl).selO (js := [1, 1]) rfl) ?_)
    exact ih1 (Φ_5, x4, v6, (D2 ++ ((ob v4 ++ []))), IntKind.i64.wrap (s2 + 1)) ⟨h, h1, h6, ph0_1⟩
  replace h := ite_f h c1
  refine WT.exit rfl ?_
  refine WT.seq ?_
  refine WT.region ?_
  refine lq (q_loadN Tn_41 rfl (fun w1 hw => hw.rgO (i := 0) rfl 0 2 [v1, u1] rfl) rfl) rfl ?_
  refine ls (s_store (i := 1) (vs := [v1, u1]) (C' := [v1, u1]) (O' := [(b_3, .cells #[v1, u1] 41 (0, 0)), (b_2, .cells #[v1, u1] 41 (0, 0))]) Sz_41 rfl rfl rfl rfl rfl rfl ⟨h1.one, k2.one, trivial⟩ rfl rfl) rfl ?_
  refine WL.nil ?_
  refine WT.ret Try.func21 (resOk.one (rv_cell Tn_41 rfl (fun w1 hw => hw.rgO (i := 1) rfl 0 2 [v1, u1] rfl) rfl)) (fun w1 hw => ?_)
  subst hb0
  cases h
  refine postG_of_St (js := [3, 2, 1, 0]) hw rfl ⟨v1, [], u1, D2, rfl, rfl, h1, k2⟩
theorem m_l_eqIntS_ok {Φ : Hp} {w : World} (hΦ : In Φ w) (N : Nat) (p0 : (List Int)) (p1 : (List Int)) {pv0 : Value} {pG0 : List Nat} {pv1 : Value} {pG1 : List Nat} (ph0 : RSl (RI .i64) 1 Φ pG0 pv0 p0) (ph1 : RSl (RI .i64) 1 Φ pG1 pv1 p1) {r : Bool} (h : m_l_eqIntS N p0 p1 = some r) :
    Calls Try.prog 125 [pv0, pv1].toArray w (Post (.bool r) w) := by
  refine enter Try.func125 rfl Try.ntmps125 rfl (St.start0 hΦ) ?_
  generalize hb0 : (⟨w, [], Φ⟩ : Base) = w0
  unfold m_l_eqIntS at h
  refine WT.seq ?_
  refine WT.region ?_
  refine lq (q_assign rfl) rfl ?_
  refine WL.nil ?_
  refine WT.seq ?_
  refine WT.seq ?_
  refine WT.region ?_
  refine lq (q_move rfl) rfl ?_
  refine lq (q_lenR Sl_78 rfl rfl ph0) rfl ?_
  refine lq (q_move rfl) rfl ?_
  refine lq (q_lenR Sl_78 rfl rfl ph1) rfl ?_
  refine lq (q_neq rfl rfl) rfl ?_
  refine WL.nil ?_
  refine WT.cond rfl (fun c1 => ?_) (fun c1 => ?_)
  · replace h := ite_t h c1
    refine WT.seq ?_
    refine WT.region ?_
    refine lq (q_assign rfl) rfl ?_
    refine WL.nil ?_
    refine WT.ret Try.func125 (resOk.one rfl) (fun w1 hw => ?_)
    subst hb0
    cases h
    exact post_of_St hw
  replace h := ite_f h c1
  refine WT.skip ?_
  refine WT.seq ?_
  refine WT.seq ?_
  refine WT.region ?_
  refine lq (q_assign rfl) rfl ?_
  refine WL.nil ?_
  refine WT.block ?_
  refine WT.loop ?_
  refine WT.mono (l' := [(0, pv0), (1, pv1), (5, .int .i64 0)]) (S' := St w0 Φ [] []) ⟨rfl, rfl, rfl, trivial⟩ (fun w1 hw => (hw.sel (js := []) rfl).selO (js := []) rfl) ?_
  refine loop_ind (σ := Int) (fun s => [(0, pv0), (1, pv1), (5, .int .i64 s)]) (fun s => St w0 Φ [] []) (fun m s => m_l_eqIntS_l1 N p0 p1 m s = some r) (fun s hm => none_ne (show (none : Option (Bool)) = some r from hm)) (fun n1 ih1 s hm => ?_) N (0) h
  revert hm; revert s; intro s1 hm
  have h : m_l_eqIntS_l1 N p0 p1 (n1 + 1) s1 = some r := hm
  show WT _ _ [(0, pv0), (1, pv1), (5, .int .i64 s1)] (St w0 Φ [] [])
  unfold m_l_eqIntS_l1 at h
  refine WT.seq ?_
  refine WT.seq ?_
  refine WT.region ?_
  refine lq (q_move rfl) rfl ?_
  refine lq (q_move rfl) rfl ?_
  refine lq (q_lenR Sl_78 rfl rfl ph0) rfl ?_
  refine lq (q_lss rfl rfl) rfl ?_
  refine WL.nil ?_
  refine WT.cond rfl (fun c2 => ?_) (fun c2 => ?_)
  · replace h := ite_t h c2
    refine WT.skip ?_
    refine WT.seq ?_
    refine WT.block ?_
    refine WT.seq ?_
    refine WT.draw mixed (by kernel_rfl) (fun _ h => h.drew) ?_
    refine qq (q_move rfl) rfl ?_
    refine qq (q_move rfl) rfl ?_
    obtain ⟨x1, hx1, h⟩ := bind_some h
    obtain ⟨cs1, F1, -, g1, hb1, hs1, r1⟩ := ph0.el (idx_some hx1).2.2
    obtain ⟨rfl, -⟩ := r1
    refine qq (q_indexAddr Sl_78 rfl rfl ph0 hx1) rfl ?_
    refine qq (q_load1 T1_3 rfl (fun w1 hw => (g1.of_eq 0 1 rfl rfl : rg _ _ _ [.int .i64 x1]).rangeAt hw.fro)) rfl ?_
    refine qq (q_move rfl) rfl ?_
    refine qq (q_move rfl) rfl ?_
    obtain ⟨x2, hx2, h⟩ := bind_some h
    obtain ⟨cs2, F2, -, g2, hb2, hs2, r2⟩ := ph1.el (idx_some hx2).2.2
    obtain ⟨rfl, -⟩ := r2
    refine qq (q_indexAddr Sl_78 rfl rfl ph1 hx2) rfl ?_
    refine qq (q_load1 T1_3 rfl (fun w1 hw => (g2.of_eq 0 1 rfl rfl : rg _ _ _ [.int .i64 x2]).rangeAt hw.fro)) rfl ?_
    refine qq (q_neq rfl rfl) rfl ?_
    refine WQ.nil ?_
    refine WT.cond rfl (fun c3 => ?_) (fun c3 => ?_)
    · replace h := ite_t h c3
      refine WT.seq ?_
      refine WT.region ?_
      refine lq (q_assign rfl) rfl ?_
      refine WL.nil ?_
      refine WT.ret Try.func125 (resOk.one rfl) (fun w1 hw => ?_)
      subst hb0
      cases h
      exact post_of_St hw
    replace h := ite_f h c3
    refine WT.skip ?_
    refine WT.inBlock ?_
    refine WT.region ?_
    refine lq (q_move rfl) rfl ?_
    refine lq (q_add rfl rfl) rfl ?_
    refine lq (q_assign rfl) rfl ?_
    refine WL.nil ?_
    refine WT.inLoop (WT.mono (l' := [(0, pv0), (1, pv1), (5, .int .i64 (IntKind.i64.wrap (s1 + 1)))]) (S' := St w0 Φ [] []) ⟨rfl, rfl, rfl, trivial⟩ (fun w1 hw => (hw.sel (js := []) rfl).selO (js := []) rfl) ?_)
    exact ih1 (IntKind.i64.wrap (s1 + 1)) h
  replace h := ite_f h c2
  refine WT.exit rfl ?_
  refine WT.seq ?_
  refine WT.region ?_
  refine lq (q_assign rfl) rfl ?_
  refine WL.nil ?_
  refine WT.ret Try.func125 (resOk.one rfl) (fun w1 hw => ?_)
  subst hb0
  cases h
  exact post_of_St hw
theorem m_l_eqIds_ok {Φ : Hp} {w : World} (hΦ : In Φ w) (N : Nat) (p0 : TIds) (p1 : TIds) {pv0_0 : Value} {pG0_0 : List Nat} {pv1_0 : Value} {pG1_0 : List Nat} (ph0_0 : RSl (RI .i64) 1 Φ pG0_0 pv0_0 p0.L) (ph1_0 : RSl (RI .i64) 1 Φ pG1_0 pv1_0 p1.L) {r : Bool} (h : m_l_eqIds N p0 p1 = some r) :
    Calls Try.prog 158 [.agg [pv0_0].toArray, .agg [pv1_0].toArray].toArray w (Post (.bool r) w) := by
  refine enter Try.func158 rfl Try.ntmps158 rfl (St.start0 hΦ) ?_
  unfold m_l_eqIds at h
  refine WT.seq ?_
  refine WT.region ?_
  refine ln (n_box (C := #[pv0_0]) rfl rfl) rfl (fun b_1 => ?_)
  refine ln (n_box (C := #[pv1_0]) rfl rfl) rfl (fun b_2 => ?_)
  refine lq (q_assign rfl) rfl ?_
  refine WL.nil ?_
  refine WT.seq ?_
  refine WT.seq ?_
  refine WT.region ?_
  refine lq (q_fieldAddr Fld_130_0 rfl) rfl ?_
  refine lq (q_load1 T1_78 rfl (fun w1 hw => hw.rgO (i := 1) rfl 0 1 [pv0_0] rfl)) rfl ?_
  refine lq (q_fieldAddr Fld_130_0 rfl) rfl ?_
  refine lq (q_load1 T1_78 rfl (fun w1 hw => hw.rgO (i := 0) rfl 0 1 [pv1_0] rfl)) rfl ?_
  obtain ⟨x1, hx1, h⟩ := bind_some h
  refine lp (p_call Fun_125 rfl (fun w1 hw => m_l_eqIntS_ok hw.fro N p0.L p1.L ph0_0 ph1_0 hx1)) rfl ?_
  refine lq (q_not rfl) rfl ?_
  refine WL.nil ?_
  refine WT.cond rfl (fun c1 => ?_) (fun c1 => ?_)
  · replace h := ite_t h c1
    refine WT.seq ?_
    refine WT.region ?_
    refine lq (q_assign rfl) rfl ?_
    refine WL.nil ?_
    refine WT.ret Try.func158 (resOk.one rfl) (fun w1 hw => ?_)
    cases h
    exact post_of_St hw
  replace h := ite_f h c1
  refine WT.skip ?_
  refine WT.seq ?_
  refine WT.region ?_
  refine lq (q_assign rfl) rfl ?_
  refine WL.nil ?_
  refine WT.ret Try.func158 (resOk.one rfl) (fun w1 hw => ?_)
  cases h
  exact post_of_St hw
theorem m_l_eqIdsS_ok {Φ : Hp} {w : World} (hΦ : In Φ w) (N : Nat) (p0 : (List TIds)) (p1 : (List TIds)) {pv0 : Value} {pG0 : List Nat} {pv1 : Value} {pG1 : List Nat} (ph0 : RSl RTIds 1 Φ pG0 pv0 p0) (ph1 : RSl RTIds 1 Φ pG1 pv1 p1) {r : Bool} (h : m_l_eqIdsS N p0 p1 = some r) :
    Calls Try.prog 77 [pv0, pv1].toArray w (Post (.bool r) w) := by
  refine enter Try.func77 rfl Try.ntmps77 rfl (St.start0 hΦ) ?_
  generalize hb0 : (⟨w, [], Φ⟩ : Base) = w0
  unfold m_l_eqIdsS at h
  refine WT.seq ?_
  refine WT.region ?_
  refine lq (q_assign rfl) rfl ?_
  refine WL.nil ?_
  refine WT.seq ?_
  refine WT.seq ?_
  refine WT.region ?_
  refine lq (q_move rfl) rfl ?_
  refine lq (q_lenR Sl_38 rfl rfl ph0) rfl ?_
  refine lq (q_move rfl) rfl ?_
  refine lq (q_lenR Sl_38 rfl rfl ph1) rfl ?_
  refine lq (q_neq rfl rfl) rfl ?_
  refine WL.nil ?_
  refine WT.cond rfl (fun c1 => ?_) (fun c1 => ?_)
  · replace h := ite_t h c1
    refine WT.seq ?_
    refine WT.region ?_
    refine lq (q_assign rfl) rfl ?_
    refine WL.nil ?_
    refine WT.ret Try.func77 (resOk.one rfl) (fun w1 hw => ?_)
    subst hb0
    cases h
    exact post_of_St hw
  replace h := ite_f h c1
  refine WT.skip ?_
  refine WT.seq ?_
  refine WT.seq ?_
  refine WT.region ?_
  refine lq (q_assign rfl) rfl ?_
  refine WL.nil ?_
  refine WT.block ?_
  refine WT.loop ?_
  refine WT.mono (l' := [(0, pv0), (1, pv1), (5, .int .i64 0)]) (S' := St w0 Φ [] []) ⟨rfl, rfl, rfl, trivial⟩ (fun w1 hw => (hw.sel (js := []) rfl).selO (js := []) rfl) ?_
  refine loop_ind (σ := Int) (fun s => [(0, pv0), (1, pv1), (5, .int .i64 s)]) (fun s => St w0 Φ [] []) (fun m s => m_l_eqIdsS_l1 N p0 p1 m s = some r) (fun s hm => none_ne (show (none : Option (Bool)) = some r from hm)) (fun n1 ih1 s hm => ?_) N (0) h
  revert hm; revert s; intro s1 hm
  have h : m_l_eqIdsS_l1 N p0 p1 (n1 + 1) s1 = some r := hm
  show WT _ _ [(0, pv0), (1, pv1), (5, .int .i64 s1)] (St w0 Φ [] [])
  unfold m_l_eqIdsS_l1 at h
  refine WT.seq ?_
  refine WT.seq ?_
  refine WT.region ?_
  refine lq (q_move rfl) rfl ?_
  refine lq (q_move rfl) rfl ?_
  refine lq (q_lenR Sl_38 rfl rfl ph0) rfl ?_
  refine lq (q_lss rfl rfl) rfl ?_
  refine WL.nil ?_
  refine WT.cond rfl (fun c2 => ?_) (fun c2 => ?_)
  · replace h := ite_t h c2
    refine WT.skip ?_
    refine WT.seq ?_
    refine WT.block ?_
    refine WT.seq ?_
    refine WT.draw mixed (by kernel_rfl) (fun _ h => h.drew) ?_
    refine qq (q_move rfl) rfl ?_
    refine qq (q_move rfl) rfl ?_
    obtain ⟨x1, hx1, h⟩ := bind_some h
    obtain ⟨cs1, F1, -, g1, hb1, hs1, r1⟩ := ph0.el (idx_some hx1).2.2
    obtain ⟨v1, G1, rfl, rfl, h1⟩ := r1
    refine qq (q_indexAddr Sl_38 rfl rfl ph0 hx1) rfl ?_
    refine qq (q_loadN Tn_130 rfl (fun w1 hw => (g1.of_eq 0 1 rfl rfl : rg _ _ _ [v1]).rangeAt hw.fro) rfl) rfl ?_
    refine qq (q_move rfl) rfl ?_
    refine qq (q_move rfl) rfl ?_
    obtain ⟨x2, hx2, h⟩ := bind_some h
    obtain ⟨cs2, F2, -, g2, hb2, hs2, r2⟩ := ph1.el (idx_some hx2).2.2
    obtain ⟨v2, G2, rfl, rfl, h2⟩ := r2
    refine qq (q_indexAddr Sl_38 rfl rfl ph1 hx2) rfl ?_
    refine qq (q_loadN Tn_130 rfl (fun w1 hw => (g2.of_eq 0 1 rfl rfl : rg _ _ _ [v2]).rangeAt hw.fro) rfl) rfl ?_
    obtain ⟨x3, hx3, h⟩ := bind_some h
    refine qp (p_call Fun_158 rfl (fun w1 hw => m_l_eqIds_ok hw.fro N x1 x2 h1 h2 hx3)) rfl ?_
    refine qq (q_not rfl) rfl ?_
    refine WQ.nil ?_
    refine WT.cond rfl (fun c3 => ?_) (fun c3 => ?_)
    · replace h := ite_t h c3
      refine WT.seq ?_
      refine WT.region ?_
      refine lq (q_assign rfl) rfl ?_
      refine WL.nil ?_
      refine WT.ret Try.func77 (resOk.one rfl) (fun w1 hw => ?_)
      subst hb0
      cases h
      exact post_of_St hw
    replace h := ite_f h c3
    refine WT.skip ?_
    refine WT.inBlock ?_
    refine WT.region ?_
    refine lq (q_move rfl) rfl ?_
    refine lq (q_add rfl rfl) rfl ?_
    refine lq (q_assign rfl) rfl ?_
    refine WL.nil ?_
    refine WT.inLoop (WT.mono (l' := [(0, pv0), (1, pv1), (5, .int .i64 (IntKind.i64.wrap (s1 + 1)))]) (S' := St w0 Φ [] []) ⟨rfl, rfl, rfl, trivial⟩ (fun w1 hw => (hw.sel (js := []) rfl).selO (js := []) rfl) ?_)
    exact ih1 (IntKind.i64.wrap (s1 + 1)) h
  replace h := ite_f h c2
  refine WT.exit rfl ?_
  refine WT.seq ?_
  refine WT.region ?_
  refine lq (q_assign rfl) rfl ?_
  refine WL.nil ?_
  refine WT.ret Try.func77 (resOk.one rfl) (fun w1 hw => ?_)
  subst hb0
  cases h
  exact post_of_St hw
theorem m_l_eqTok_ok {Φ : Hp} {w : World} (hΦ : In Φ w) (N : Nat) (p0 : TTok) (p1 : TTok) {pv0_0 : Value} {pG0_0 : List Nat} {pv0_1 : Value} {pG0_1 : List Nat} {pv1_0 : Value} {pG1_0 : List Nat} {pv1_1 : Value} {pG1_1 : List Nat} (ph0_0 : RSl (RI .i64) 1 Φ pG0_0 pv0_0 p0.Ids) (ph0_1 : RSl (RI .i64) 1 Φ pG0_1 pv0_1 p0.Hits) (ph1_0 : RSl (RI .i64) 1 Φ pG1_0 pv1_0 p1.Ids) (ph1_1 : RSl (RI .i64) 1 Φ pG1_1 pv1_1 p1.Hits) {r : Bool} (h : m_l_eqTok N p0 p1 = some r) :
    Calls Try.prog 289 [.agg [pv0_0, pv0_1].toArray, .agg [pv1_0, pv1_1].toArray].toArray w (Post (.bool r) w) := by
  refine enter Try.func289 rfl Try.ntmps289 rfl (St.start0 hΦ) ?_
  unfold m_l_eqTok at h
  refine WT.seq ?_
  refine WT.region ?_
  refine ln (n_box (C := #[pv0_0, pv0_1]) rfl rfl) rfl (fun b_1 => ?_)
  refine ln (n_box (C := #[pv1_0, pv1_1]) rfl rfl) rfl (fun b_2 => ?_)
  refine lq (q_assign rfl) rfl ?_
  refine WL.nil ?_
  refine WT.seq ?_
  refine WT.seq ?_
  refine WT.region ?_
  refine lq (q_fieldAddr Fld_326_0 rfl) rfl ?_
  refine lq (q_load1 T1_78 rfl (fun w1 hw => hw.rgO (i := 1) rfl 0 1 [pv0_0] rfl)) rfl ?_
  refine lq (q_fieldAddr Fld_326_0 rfl) rfl ?_
  refine lq (q_load1 T1_78 rfl (fun w1 hw => hw.rgO (i := 0) rfl 0 1 [pv1_0] rfl)) rfl ?_
  obtain ⟨x1, hx1, h⟩ := bind_some h
  refine lp (p_call Fun_125 rfl (fun w1 hw => m_l_eqIntS_ok hw.fro N p0.Ids p1.Ids ph0_0 ph1_0 hx1)) rfl ?_
  refine lq (q_not rfl) rfl ?_
  refine WL.nil ?_
  refine WT.cond rfl (fun c1 => ?_) (fun c1 => ?_)
  · replace h := ite_t h c1
    refine WT.seq ?_
    refine WT.region ?_
    refine lq (q_assign rfl) rfl ?_
    refine WL.nil ?_
    refine WT.ret Try.func289 (resOk.one rfl) (fun w1 hw => ?_)
    cases h
    exact post_of_St hw
  replace h := ite_f h c1
  refine WT.skip ?_
  refine WT.seq ?_
  refine WT.seq ?_
  refine WT.region ?_
  refine lq (q_fieldAddr Fld_326_1 rfl) rfl ?_
  refine lq (q_load1 T1_78 rfl (fun w1 hw => hw.rgO (i := 1) rfl 1 1 [pv0_1] rfl)) rfl ?_
  refine lq (q_fieldAddr Fld_326_1 rfl) rfl ?_
  refine lq (q_load1 T1_78 rfl (fun w1 hw => hw.rgO (i := 0) rfl 1 1 [pv1_1] rfl)) rfl ?_
  obtain ⟨x2, hx2, h⟩ := bind_some h
  refine lp (p_call Fun_125 rfl (fun w1 hw => m_l_eqIntS_ok hw.fro N p0.Hits p1.Hits ph0_1 ph1_1 hx2)) rfl ?_
  refine lq (q_not rfl) rfl ?_
  refine WL.nil ?_
  refine WT.cond rfl (fun c2 => ?_) (fun c2 => ?_)
  · replace h := ite_t h c2
    refine WT.seq ?_
    refine WT.region ?_
    refine lq (q_assign rfl) rfl ?_
    refine WL.nil ?_
    refine WT.ret Try.func289 (resOk.one rfl) (fun w1 hw => ?_)
    cases h
    exact post_of_St hw
  replace h := ite_f h c2
  refine WT.skip ?_
  refine WT.seq ?_
  refine WT.region ?_
  refine lq (q_assign rfl) rfl ?_
  refine WL.nil ?_
  refine WT.ret Try.func289 (resOk.one rfl) (fun w1 hw => ?_)
  cases h
  exact post_of_St hw
theorem m_l_eqTokS_ok {Φ : Hp} {w : World} (hΦ : In Φ w) (N : Nat) (p0 : (List TTok)) (p1 : (List TTok)) {pv0 : Value} {pG0 : List Nat} {pv1 : Value} {pG1 : List Nat} (ph0 : RSl RTTok 2 Φ pG0 pv0 p0) (ph1 : RSl RTTok 2 Φ pG1 pv1 p1) {r : Bool} (h : m_l_eqTokS N p0 p1 = some r) :
    Calls Try.prog 282 [pv0, pv1].toArray w (Post (.bool r) w) := by
  refine enter Try.func282 rfl Try.ntmps282 rfl (St.start0 hΦ) ?_
  generalize hb0 : (⟨w, [], Φ⟩ : Base) = w0
  unfold m_l_eqTokS at h
  refine WT.seq ?_
  refine WT.region ?_
  refine lq (q_assign rfl) rfl ?_
  refine WL.nil ?_
  refine WT.seq ?_
  refine WT.seq ?_
  refine WT.region ?_
  refine lq (q_move rfl) rfl ?_
  refine lq (q_lenR Sl_134 rfl rfl ph0) rfl ?_
  refine lq (q_move rfl) rfl ?_
  refine lq (q_lenR Sl_134 rfl rfl ph1) rfl ?_
  refine lq (q_neq rfl rfl) rfl ?_
  refine WL.nil ?_
  refine WT.cond rfl (fun c1 => ?_) (fun c1 => ?_)
  · replace h := ite_t h c1
    refine WT.seq ?_
    refine WT.region ?_
    refine lq (q_assign rfl) rfl ?_
    refine WL.nil ?_
    refine WT.ret Try.func282 (resOk.one rfl) (fun w1 hw => ?_)
    subst hb0
    cases h
    exact post_of_St hw
  replace h := ite_f h c1
  refine WT.skip ?_
  refine WT.seq ?_
  refine WT.seq ?_
  refine WT.region ?_
  refine lq (q_assign rfl) rfl ?_
  refine WL.nil ?_
  refine WT.block ?_
  refine WT.loop ?_
  refine WT.mono (l' := [(0, pv0), (1, pv1), (5, .int .i64 0)]) (S' := St w0 Φ [] []) ⟨rfl, rfl, rfl, trivial⟩ (fun w1 hw => (hw.sel (js := []) rfl).selO (js := []) rfl) ?_
  refine loop_ind (σ := Int) (fun s => [(0, pv0), (1, pv1), (5, .int .i64 s)]) (fun s => St w0 Φ [] []) (fun m s => m_l_eqTokS_l1 N p0 p1 m s = some r) (fun s hm => none_ne (show (none : Option (Bool)) = some r from hm)) (fun n1 ih1 s hm => ?_) N (0) h
  revert hm; revert s; intro s1 hm
  have h : m_l_eqTokS_l1 N p0 p1 (n1 + 1) s1 = some r := hm
  show WT _ _ [(0, pv0), (1, pv1), (5, .int .i64 s1)] (St w0 Φ [] [])
  unfold m_l_eqTokS_l1 at h
  refine WT.seq ?_
  refine WT.seq ?_
  refine WT.region ?_
  refine lq (q_move rfl) rfl ?_
  refine lq (q_move rfl) rfl ?_
  refine lq (q_lenR Sl_134 rfl rfl ph0) rfl ?_
  refine lq (q_lss rfl rfl) rfl ?_
  refine WL.nil ?_
  refine WT.cond rfl (fun c2 => ?_) (fun c2 => ?_)
  · replace h := ite_t h c2
    refine WT.skip ?_
    refine WT.seq ?_
    refine WT.block ?_
    refine WT.seq ?_
    refine WT.draw mixed (by kernel_rfl) (fun _ h => h.drew) ?_
    refine qq (q_move rfl) rfl ?_
    refine qq (q_move rfl) rfl ?_
    obtain ⟨x1, hx1, h⟩ := bind_some h
    obtain ⟨cs1, F1, -, g1, hb1, hs1, r1⟩ := ph0.el (idx_some hx1).2.2
    obtain ⟨v1, G1, v2, G2, rfl, rfl, h1, h2⟩ := r1
    refine qq (q_indexAddr Sl_134 rfl rfl ph0 hx1) rfl ?_
    refine qq (q_loadN Tn_326 rfl (fun w1 hw => (g1.of_eq 0 2 rfl rfl : rg _ _ _ [v1, v2]).rangeAt hw.fro) rfl) rfl ?_
    refine qq (q_move rfl) rfl ?_
    refine qq (q_move rfl) rfl ?_
    obtain ⟨x2, hx2, h⟩ := bind_some h
    obtain ⟨cs2, F2, -, g2, hb2, hs2, r2⟩ := ph1.el (idx_some hx2).2.2
    obtain ⟨v3, G3, v4, G4, rfl, rfl, h3, h4⟩ := r2
    refine qq (q_indexAddr Sl_134 rfl rfl ph1 hx2) rfl ?_
    refine qq (q_loadN Tn_326 rfl (fun w1 hw => (g2.of_eq 0 2 rfl rfl : rg _ _ _ [v3, v4]).rangeAt hw.fro) rfl) rfl ?_
    obtain ⟨x3, hx3, h⟩ := bind_some h
    refine qp (p_call Fun_289 rfl (fun w1 hw => m_l_eqTok_ok hw.fro N x1 x2 h1 h2 h3 h4 hx3)) rfl ?_
    refine qq (q_not rfl) rfl ?_
    refine WQ.nil ?_
    refine WT.cond rfl (fun c3 => ?_) (fun c3 => ?_)
    · replace h := ite_t h c3
      refine WT.seq ?_
      refine WT.region ?_
      refine lq (q_assign rfl) rfl ?_
      refine WL.nil ?_
      refine WT.ret Try.func282 (resOk.one rfl) (fun w1 hw => ?_)
      subst hb0
      cases h
      exact post_of_St hw
    replace h := ite_f h c3
    refine WT.skip ?_
    refine WT.inBlock ?_
    refine WT.region ?_
    refine lq (q_move rfl) rfl ?_
    refine lq (q_add rfl rfl) rfl ?_
    refine lq (q_assign rfl) rfl ?_
    refine WL.nil ?_
    refine WT.inLoop (WT.mono (l' := [(0, pv0), (1, pv1), (5, .int .i64 (IntKind.i64.wrap (s1 + 1)))]) (S' := St w0 Φ [] []) ⟨rfl, rfl, rfl, trivial⟩ (fun w1 hw => (hw.sel (js := []) rfl).selO (js := []) rfl) ?_)
    exact ih1 (IntKind.i64.wrap (s1 + 1)) h
  replace h := ite_f h c2
  refine WT.exit rfl ?_
  refine WT.seq ?_
  refine WT.region ?_
  refine lq (q_assign rfl) rfl ?_
  refine WL.nil ?_
  refine WT.ret Try.func282 (resOk.one rfl) (fun w1 hw => ?_)
  subst hb0
  cases h
  exact post_of_St hw
theorem m_l_eqLevel_ok {Φ : Hp} {w : World} (hΦ : In Φ w) (N : Nat) (p0 : TLevel) (p1 : TLevel) {pv0_0 : Value} {pG0_0 : List Nat} {pv1_0 : Value} {pG1_0 : List Nat} (ph0_0 : RSl RTTok 2 Φ pG0_0 pv0_0 p0.Toks) (ph1_0 : RSl RTTok 2 Φ pG1_0 pv1_0 p1.Toks) {r : Bool} (h : m_l_eqLevel N p0 p1 = some r) :
    Calls Try.prog 264 [.agg [pv0_0].toArray, .agg [pv1_0].toArray].toArray w (Post (.bool r) w) := by
  refine enter Try.func264 rfl Try.ntmps264 rfl (St.start0 hΦ) ?_
  unfold m_l_eqLevel at h
  refine WT.seq ?_
  refine WT.region ?_
  refine ln (n_box (C := #[pv0_0]) rfl rfl) rfl (fun b_1 => ?_)
  refine ln (n_box (C := #[pv1_0]) rfl rfl) rfl (fun b_2 => ?_)
  refine lq (q_assign rfl) rfl ?_
  refine WL.nil ?_
  refine WT.seq ?_
  refine WT.seq ?_
  refine WT.region ?_
  refine lq (q_fieldAddr Fld_136_0 rfl) rfl ?_
  refine lq (q_load1 T1_134 rfl (fun w1 hw => hw.rgO (i := 1) rfl 0 1 [pv0_0] rfl)) rfl ?_
  refine lq (q_fieldAddr Fld_136_0 rfl) rfl ?_
  refine lq (q_load1 T1_134 rfl (fun w1 hw => hw.rgO (i := 0) rfl 0 1 [pv1_0] rfl)) rfl ?_
  obtain ⟨x1, hx1, h⟩ := bind_some h
  refine lp (p_call Fun_282 rfl (fun w1 hw => m_l_eqTokS_ok hw.fro N p0.Toks p1.Toks ph0_0 ph1_0 hx1)) rfl ?_
  refine lq (q_not rfl) rfl ?_
  refine WL.nil ?_
  refine WT.cond rfl (fun c1 => ?_) (fun c1 => ?_)
  · replace h := ite_t h c1
    refine WT.seq ?_
    refine WT.region ?_
    refine lq (q_assign rfl) rfl ?_
    refine WL.nil ?_
    refine WT.ret Try.func264 (resOk.one rfl) (fun w1 hw => ?_)
    cases h
    exact post_of_St hw
  replace h := ite_f h c1
  refine WT.skip ?_
  refine WT.seq ?_
  refine WT.region ?_
  refine lq (q_assign rfl) rfl ?_
  refine WL.nil ?_
  refine WT.ret Try.func264 (resOk.one rfl) (fun w1 hw => ?_)
  cases h
  exact post_of_St hw
theorem m_l_eqLevelS_ok {Φ : Hp} {w : World} (hΦ : In Φ w) (N : Nat) (p0 : (List TLevel)) (p1 : (List TLevel)) {pv0 : Value} {pG0 : List Nat} {pv1 : Value} {pG1 : List Nat} (ph0 : RSl RTLevel 1 Φ pG0 pv0 p0) (ph1 : RSl RTLevel 1 Φ pG1 pv1 p1) {r : Bool} (h : m_l_eqLevelS N p0 p1 = some r) :
    Calls Try.prog 223 [pv0, pv1].toArray w (Post (.bool r) w) := by
  refine enter Try.func223 rfl Try.ntmps223 rfl (St.start0 hΦ) ?_
  generalize hb0 : (⟨w, [], Φ⟩ : Base) = w0
  unfold m_l_eqLevelS at h
  refine WT.seq ?_
  refine WT.region ?_
  refine lq (q_assign rfl) rfl ?_
  refine WL.nil ?_
  refine WT.seq ?_
  refine WT.seq ?_
  refine WT.region ?_
  refine lq (q_move rfl) rfl ?_
  refine lq (q_lenR Sl_131 rfl rfl ph0) rfl ?_
  refine lq (q_move rfl) rfl ?_
  refine lq (q_lenR Sl_131 rfl rfl ph1) rfl ?_
  refine lq (q_neq rfl rfl) rfl ?_
  refine WL.nil ?_
  refine WT.cond rfl (fun c1 => ?_) (fun c1 => ?_)
  · replace h := ite_t h c1
    refine WT.seq ?_
    refine WT.region ?_
    refine lq (q_assign rfl) rfl ?_
    refine WL.nil ?_
    refine WT.ret Try.func223 (resOk.one rfl) (fun w1 hw => ?_)
    subst hb0
    cases h
    exact post_of_St hw
  replace h := ite_f h c1
  refine WT.skip ?_
  refine WT.seq ?_
  refine WT.seq ?_
  refine WT.region ?_
  refine lq (q_assign rfl) rfl ?_
  refine WL.nil ?_
  refine WT.block ?_
  refine WT.loop ?_
  refine WT.mono (l' := [(0, pv0), (1, pv1), (5, .int .i64 0)]) (S' := St w0 Φ [] []) ⟨rfl, rfl, rfl, trivial⟩ (fun w1 hw => (hw.sel (js := []) rfl).selO (js := []) rfl) ?_
  refine loop_ind (σ := Int) (fun s => [(0, pv0), (1, pv1), (5, .int .i64 s)]) (fun s => St w0 Φ [] []) (fun m s => m_l_eqLevelS_l1 N p0 p1 m s = some r) (fun s hm => none_ne (show (none : Option (Bool)) = some r from hm)) (fun n1 ih1 s hm => ?_) N (0) h
  revert hm; revert s; intro s1 hm
  have h : m_l_eqLevelS_l1 N p0 p1 (n1 + 1) s1 = some r := hm
  show WT _ _ [(0, pv0), (1, pv1), (5, .int .i64 s1)] (St w0 Φ [] [])
  unfold m_l_eqLevelS_l1 at h
  refine WT.seq ?_
  refine WT.seq ?_
  refine WT.region ?_
  refine lq (q_move rfl) rfl ?_
  refine lq (q_move rfl) rfl ?_
  refine lq (q_lenR Sl_131 rfl rfl ph0) rfl ?_
  refine lq (q_lss rfl rfl) rfl ?_
  refine WL.nil ?_
  refine WT.cond rfl (fun c2 => ?_) (fun c2 => ?_)
  · replace h := ite_t h c2
    refine WT.skip ?_
    refine WT.seq ?_
    refine WT.block ?_
    refine WT.seq ?_
    refine WT.draw mixed (by kernel_rfl) (fun _ h => h.drew) ?_
    refine qq (q_move rfl) rfl ?_
    refine qq (q_move rfl) rfl ?_
    obtain ⟨x1, hx1, h⟩ := bind_some h
    obtain ⟨cs1, F1, -, g1, hb1, hs1, r1⟩ := ph0.el (idx_some hx1).2.2
    obtain ⟨v1, G1, rfl, rfl, h1⟩ := r1
    refine qq (q_indexAddr Sl_131 rfl rfl ph0 hx1) rfl ?_
    refine qq (q_loadN Tn_136 rfl (fun w1 hw => (g1.of_eq 0 1 rfl rfl : rg _ _ _ [v1]).rangeAt hw.fro) rfl) rfl ?_
    refine qq (q_move rfl) rfl ?_
    refine qq (q_move rfl) rfl ?_
    obtain ⟨x2, hx2, h⟩ := bind_some h
    obtain ⟨cs2, F2, -, g2, hb2, hs2, r2⟩ := ph1.el (idx_some hx2).2.2
    obtain ⟨v2, G2, rfl, rfl, h2⟩ := r2
    refine qq (q_indexAddr Sl_131 rfl rfl ph1 hx2) rfl ?_
    refine qq (q_loadN Tn_136 rfl (fun w1 hw => (g2.of_eq 0 1 rfl rfl : rg _ _ _ [v2]).rangeAt hw.fro) rfl) rfl ?_
    obtain ⟨x3, hx3, h⟩ := bind_some h
    refine qp (p_call Fun_264 rfl (fun w1 hw => m_l_eqLevel_ok hw.fro N x1 x2 h1 h2 hx3)) rfl ?_
    refine qq (q_not rfl) rfl ?_
    refine WQ.nil ?_
    refine WT.cond rfl (fun c3 => ?_) (fun c3 => ?_)
    · replace h := ite_t h c3
      refine WT.seq ?_
      refine WT.region ?_
      refine lq (q_assign rfl) rfl ?_
      refine WL.nil ?_
      refine WT.ret Try.func223 (resOk.one rfl) (fun w1 hw => ?_)
      subst hb0
      cases h
      exact post_of_St hw
    replace h := ite_f h c3
    refine WT.skip ?_
    refine WT.inBlock ?_
    refine WT.region ?_
    refine lq (q_move rfl) rfl ?_
    refine lq (q_add rfl rfl) rfl ?_
    refine lq (q_assign rfl) rfl ?_
    refine WL.nil ?_
    refine WT.inLoop (WT.mono (l' := [(0, pv0), (1, pv1), (5, .int .i64 (IntKind.i64.wrap (s1 + 1)))]) (S' := St w0 Φ [] []) ⟨rfl, rfl, rfl, trivial⟩ (fun w1 hw => (hw.sel (js := []) rfl).selO (js := []) rfl) ?_)
    exact ih1 (IntKind.i64.wrap (s1 + 1)) h
  replace h := ite_f h c2
  refine WT.exit rfl ?_
  refine WT.seq ?_
  refine WT.region ?_
  refine lq (q_assign rfl) rfl ?_
  refine WL.nil ?_
  refine WT.ret Try.func223 (resOk.one rfl) (fun w1 hw => ?_)
  subst hb0
  cases h
  exact post_of_St hw
theorem m_l_eqRow_ok {Φ : Hp} {w : World} (hΦ : In Φ w) (N : Nat) (p0 : TRow) (p1 : TRow) {pv0_0 : Value} {pG0_0 : List Nat} {pv1_0 : Value} {pG1_0 : List Nat} (ph0_0 : RSl RTLevel 1 Φ pG0_0 pv0_0 p0.Levels) (ph1_0 : RSl RTLevel 1 Φ pG1_0 pv1_0 p1.Levels) {r : Bool} (h : m_l_eqRow N p0 p1 = some r) :
    Calls Try.prog 159 [.agg [pv0_0].toArray, .agg [pv1_0].toArray].toArray w (Post (.bool r) w) := by
  refine enter Try.func159 rfl Try.ntmps159 rfl (St.start0 hΦ) ?_
  unfold m_l_eqRow at h
  refine WT.seq ?_
  refine WT.region ?_
  refine ln (n_box (C := #[pv0_0]) rfl rfl) rfl (fun b_1 => ?_)
  refine ln (n_box (C := #[pv1_0]) rfl rfl) rfl (fun b_2 => ?_)
  refine lq (q_assign rfl) rfl ?_
  refine WL.nil ?_
  refine WT.seq ?_
  refine WT.seq ?_
  refine WT.region ?_
  refine lq (q_fieldAddr Fld_133_0 rfl) rfl ?_
  refine lq (q_load1 T1_131 rfl (fun w1 hw => hw.rgO (i := 1) rfl 0 1 [pv0_0] rfl)) rfl ?_
  refine lq (q_fieldAddr Fld_133_0 rfl) rfl ?_
  refine lq (q_load1 T1_131 rfl (fun w1 hw => hw.rgO (i := 0) rfl 0 1 [pv1_0] rfl)) rfl ?_
  obtain ⟨x1, hx1, h⟩ := bind_some h
  refine lp (p_call Fun_223 rfl (fun w1 hw => m_l_eqLevelS_ok hw.fro N p0.Levels p1.Levels ph0_0 ph1_0 hx1)) rfl ?_
  refine lq (q_not rfl) rfl ?_
  refine WL.nil ?_
  refine WT.cond rfl (fun c1 => ?_) (fun c1 => ?_)
  · replace h := ite_t h c1
    refine WT.seq ?_
    refine WT.region ?_
    refine lq (q_assign rfl) rfl ?_
    refine WL.nil ?_
    refine WT.ret Try.func159 (resOk.one rfl) (fun w1 hw => ?_)
    cases h
    exact post_of_St hw
  replace h := ite_f h c1
  refine WT.skip ?_
  refine WT.seq ?_
  refine WT.region ?_
  refine lq (q_assign rfl) rfl ?_
  refine WL.nil ?_
  refine WT.ret Try.func159 (resOk.one rfl) (fun w1 hw => ?_)
  cases h
  exact post_of_St hw
theorem m_l_eqRowS_ok {Φ : Hp} {w : World} (hΦ : In Φ w) (N : Nat) (p0 : (List TRow)) (p1 : (List TRow)) {pv0 : Value} {pG0 : List Nat} {pv1 : Value} {pG1 : List Nat} (ph0 : RSl RTRow 1 Φ pG0 pv0 p0) (ph1 : RSl RTRow 1 Φ pG1 pv1 p1) {r : Bool} (h : m_l_eqRowS N p0 p1 = some r) :
    Calls Try.prog 78 [pv0, pv1].toArray w (Post (.bool r) w) := by
  refine enter Try.func78 rfl Try.ntmps78 rfl (St.start0 hΦ) ?_
  generalize hb0 : (⟨w, [], Φ⟩ : Base) = w0
  unfold m_l_eqRowS at h
  refine WT.seq ?_
  refine WT.region ?_
  refine lq (q_assign rfl) rfl ?_
  refine WL.nil ?_
  refine WT.seq ?_
  refine WT.seq ?_
  refine WT.region ?_
  refine lq (q_move rfl) rfl ?_
  refine lq (q_lenR Sl_39 rfl rfl ph0) rfl ?_
  refine lq (q_move rfl) rfl ?_
  refine lq (q_lenR Sl_39 rfl rfl ph1) rfl ?_
  refine lq (q_neq rfl rfl) rfl ?_
  refine WL.nil ?_
  refine WT.cond rfl (fun c1 => ?_) (fun c1 => ?_)
  · replace h := ite_t h c1
    refine WT.seq ?_
    refine WT.region ?_
    refine lq (q_assign rfl) rfl ?_
    refine WL.nil ?_
    refine WT.ret Try.func78 (resOk.one rfl) (fun w1 hw => ?_)
    subst hb0
    cases h
    exact post_of_St hw
  replace h := ite_f h c1
  refine WT.skip ?_
  refine WT.seq ?_
  refine WT.seq ?_
  refine WT.region ?_
  refine lq (q_assign rfl) rfl ?_
  refine WL.nil ?_
  refine WT.block ?_
  refine WT.loop ?_
  refine WT.mono (l' := [(0, pv0), (1, pv1), (5, .int .i64 0)]) (S' := St w0 Φ [] []) ⟨rfl, rfl, rfl, trivial⟩ (fun w1 hw => (hw.sel (js := []) rfl).selO (js := []) rfl) ?_
  refine loop_ind (σ := Int) (fun s => [(0, pv0), (1, pv1), (5, .int .i64 s)]) (fun s => St w0 Φ [] []) (fun m s => m_l_eqRowS_l1 N p0 p1 m s = some r) (fun s hm => none_ne (show (none : Option (Bool)) = some r from hm)) (fun n1 ih1 s hm => ?_) N (0) h
  revert hm; revert s; intro s1 hm
  have h : m_l_eqRowS_l1 N p0 p1 (n1 + 1) s1 = some r := hm
  show WT _ _ [(0, pv0), (1, pv1), (5, .int .i64 s1)] (St w0 Φ [] [])
  unfold m_l_eqRowS_l1 at h
  refine WT.seq ?_
  refine WT.seq ?_
  refine WT.region ?_
  refine lq (q_move rfl) rfl ?_
  refine lq (q_move rfl) rfl ?_
  refine lq (q_lenR Sl_39 rfl rfl ph0) rfl ?_
  refine lq (q_lss rfl rfl) rfl ?_
  refine WL.nil ?_
  refine WT.cond rfl (fun c2 => ?_) (fun c2 => ?_)
  · replace h := ite_t h c2
    refine WT.skip ?_
    refine WT.seq ?_
    refine WT.block ?_
    refine WT.seq ?_
    refine WT.draw mixed (by kernel_rfl) (fun _ h => h.drew) ?_
    refine qq (q_move rfl) rfl ?_
    refine qq (q_move rfl) rfl ?_
    obtain ⟨x1, hx1, h⟩ := bind_some h
    obtain ⟨cs1, F1, -, g1, hb1, hs1, r1⟩ := ph0.el (idx_some hx1).2.2
    obtain ⟨v1, G1, rfl, rfl, h1⟩ := r1
    refine qq (q_indexAddr Sl_39 rfl rfl ph0 hx1) rfl ?_
    refine qq (q_loadN Tn_133 rfl (fun w1 hw => (g1.of_eq 0 1 rfl rfl : rg _ _ _ [v1]).rangeAt hw.fro) rfl) rfl ?_
    refine qq (q_move rfl) rfl ?_
    refine qq (q_move rfl) rfl ?_
    obtain ⟨x2, hx2, h⟩ := bind_some h
    obtain ⟨cs2, F2, -, g2, hb2, hs2, r2⟩ := ph1.el (idx_some hx2).2.2
    obtain ⟨v2, G2, rfl, rfl, h2⟩ := r2
    refine qq (q_indexAddr Sl_39 rfl rfl ph1 hx2) rfl ?_
    refine qq (q_loadN Tn_133 rfl (fun w1 hw => (g2.of_eq 0 1 rfl rfl : rg _ _ _ [v2]).rangeAt hw.fro) rfl) rfl ?_
    obtain ⟨x3, hx3, h⟩ := bind_some h
    refine qp (p_call Fun_159 rfl (fun w1 hw => m_l_eqRow_ok hw.fro N x1 x2 h1 h2 hx3)) rfl ?_
    refine qq (q_not rfl) rfl ?_
    refine WQ.nil ?_
    refine WT.cond rfl (fun c3 => ?_) (fun c3 => ?_)
    · replace h := ite_t h c3
      refine WT.seq ?_
      refine WT.region ?_
      refine lq (q_assign rfl) rfl ?_
      refine WL.nil ?_
      refine WT.ret Try.func78 (resOk.one rfl) (fun w1 hw => ?_)
      subst hb0
      cases h
      exact post_of_St hw
    replace h := ite_f h c3
    refine WT.skip ?_
    refine WT.inBlock ?_
    refine WT.region ?_
    refine lq (q_move rfl) rfl ?_
    refine lq (q_add rfl rfl) rfl ?_
    refine lq (q_assign rfl) rfl ?_
    refine WL.nil ?_
    refine WT.inLoop (WT.mono (l' := [(0, pv0), (1, pv1), (5, .int .i64 (IntKind.i64.wrap (s1 + 1)))]) (S' := St w0 Φ [] []) ⟨rfl, rfl, rfl, trivial⟩ (fun w1 hw => (hw.sel (js := []) rfl).selO (js := []) rfl) ?_)
    exact ih1 (IntKind.i64.wrap (s1 + 1)) h
  replace h := ite_f h c2
  refine WT.exit rfl ?_
  refine WT.seq ?_
  refine WT.region ?_
  refine lq (q_assign rfl) rfl ?_
  refine WL.nil ?_
  refine WT.ret Try.func78 (resOk.one rfl) (fun w1 hw => ?_)
  subst hb0
  cases h
  exact post_of_St hw
theorem m_l_eqMem_ok {Φ : Hp} {w : World} (hΦ : In Φ w) (N : Nat) (p0 : TMem) (p1 : TMem) {pv0_0 : Value} {pG0_0 : List Nat} {pv0_1 : Value} {pG0_1 : List Nat} {pv1_0 : Value} {pG1_0 : List Nat} {pv1_1 : Value} {pG1_1 : List Nat} (ph0_0 : RSl RTIds 1 Φ pG0_0 pv0_0 p0.Alphas) (ph0_1 : RSl RTRow 1 Φ pG0_1 pv0_1 p0.Rules) (ph1_0 : RSl RTIds 1 Φ pG1_0 pv1_0 p1.Alphas) (ph1_1 : RSl RTRow 1 Φ pG1_1 pv1_1 p1.Rules) {r : Bool} (h : m_l_eqMem N p0 p1 = some r) :
    Calls Try.prog 22 [.agg [pv0_0, pv0_1].toArray, .agg [pv1_0, pv1_1].toArray].toArray w (Post (.bool r) w) := by
  refine enter Try.func22 rfl Try.ntmps22 rfl (St.start0 hΦ) ?_
  unfold m_l_eqMem at h
  refine WT.seq ?_
  refine WT.region ?_
  refine ln (n_box (C := #[pv0_0, pv0_1]) rfl rfl) rfl (fun b_1 => ?_)
  refine ln (n_box (C := #[pv1_0, pv1_1]) rfl rfl) rfl (fun b_2 => ?_)
  refine lq (q_assign rfl) rfl ?_
  refine WL.nil ?_
  refine WT.seq ?_
  refine WT.seq ?_
  refine WT.region ?_
  refine lq (q_fieldAddr Fld_41_0 rfl) rfl ?_
  refine lq (q_load1 T1_38 rfl (fun w1 hw => hw.rgO (i := 1) rfl 0 1 [pv0_0] rfl)) rfl ?_
  refine lq (q_fieldAddr Fld_41_0 rfl) rfl ?_
  refine lq (q_load1 T1_38 rfl (fun w1 hw => hw.rgO (i := 0) rfl 0 1 [pv1_0] rfl)) rfl ?_
  obtain ⟨x1, hx1, h⟩ := bind_some h
  refine lp (p_call Fun_77 rfl (fun w1 hw => m_l_eqIdsS_ok hw.fro N p0.Alphas p1.Alphas ph0_0 ph1_0 hx1)) rfl ?_
  refine lq (q_not rfl) rfl ?_
  refine WL.nil ?_
  refine WT.cond rfl (fun c1 => ?_) (fun c1 => ?_)
  · replace h := ite_t h c1
    refine WT.seq ?_
    refine WT.region ?_
    refine lq (q_assign rfl) rfl ?_
    refine WL.nil ?_
    refine WT.ret Try.func22 (resOk.one rfl) (fun w1 hw => ?_)
    cases h
    exact post_of_St hw
  replace h := ite_f h c1
  refine WT.skip ?_
  refine WT.seq ?_
  refine WT.seq ?_
  refine WT.region ?_
  refine lq (q_fieldAddr Fld_41_1 rfl) rfl ?_
  refine lq (q_load1 T1_39 rfl (fun w1 hw => hw.rgO (i := 1) rfl 1 1 [pv0_1] rfl)) rfl ?_
  refine lq (q_fieldAddr Fld_41_1 rfl) rfl ?_
  refine lq (q_load1 T1_39 rfl (fun w1 hw => hw.rgO (i := 0) rfl 1 1 [pv1_1] rfl)) rfl ?_
  obtain ⟨x2, hx2, h⟩ := bind_some h
  refine lp (p_call Fun_78 rfl (fun w1 hw => m_l_eqRowS_ok hw.fro N p0.Rules p1.Rules ph0_1 ph1_1 hx2)) rfl ?_
  refine lq (q_not rfl) rfl ?_
  refine WL.nil ?_
  refine WT.cond rfl (fun c2 => ?_) (fun c2 => ?_)
  · replace h := ite_t h c2
    refine WT.seq ?_
    refine WT.region ?_
    refine lq (q_assign rfl) rfl ?_
    refine WL.nil ?_
    refine WT.ret Try.func22 (resOk.one rfl) (fun w1 hw => ?_)
    cases h
    exact post_of_St hw
  replace h := ite_f h c2
  refine WT.skip ?_
  refine WT.seq ?_
  refine WT.region ?_
  refine lq (q_assign rfl) rfl ?_
  refine WL.nil ?_
  refine WT.ret Try.func22 (resOk.one rfl) (fun w1 hw => ?_)
  cases h
  exact post_of_St hw
theorem m_l_eqVal_ok {Φ : Hp} {w : World} (hΦ : In Φ w) (N : Nat) (p0 : TVal) (p1 : TVal)   {r : Bool} (h : m_l_eqVal N p0 p1 = some r) :
    Calls Try.prog 205 [.agg [.int .i64 p0.K, .int .i64 p0.N, .string p0.S].toArray, .agg [.int .i64 p1.K, .int .i64 p1.N, .string p1.S].toArray].toArray w (Post (.bool r) w) := by
  refine enter Try.func205 rfl Try.ntmps205 rfl (St.start0 hΦ) ?_
  unfold m_l_eqVal at h
  refine WT.seq ?_
  refine WT.region ?_
  refine ln (n_box (C := #[.int .i64 p0.K, .int .i64 p0.N, .string p0.S]) rfl rfl) rfl (fun b_1 => ?_)
  refine ln (n_box (C := #[.int .i64 p1.K, .int .i64 p1.N, .string p1.S]) rfl rfl) rfl (fun b_2 => ?_)
  refine lq (q_assign rfl) rfl ?_
  refine WL.nil ?_
  refine WT.seq ?_
  refine WT.seq ?_
  refine WT.region ?_
  refine lq (q_fieldAddr Fld_192_0 rfl) rfl ?_
  refine lq (q_load1 T1_3 rfl (fun w1 hw => hw.rgO (i := 1) rfl 0 1 [.int .i64 p0.K] rfl)) rfl ?_
  refine lq (q_fieldAddr Fld_192_0 rfl) rfl ?_
  refine lq (q_load1 T1_3 rfl (fun w1 hw => hw.rgO (i := 0) rfl 0 1 [.int .i64 p1.K] rfl)) rfl ?_
  refine lq (q_neq rfl rfl) rfl ?_
  refine WL.nil ?_
  refine WT.cond rfl (fun c1 => ?_) (fun c1 => ?_)
  · replace h := ite_t h c1
    refine WT.seq ?_
    refine WT.region ?_
    refine lq (q_assign rfl) rfl ?_
    refine WL.nil ?_
    refine WT.ret Try.func205 (resOk.one rfl) (fun w1 hw => ?_)
    cases h
    exact post_of_St hw
  replace h := ite_f h c1
  refine WT.skip ?_
  refine WT.seq ?_
  refine WT.seq ?_
  refine WT.region ?_
  refine lq (q_fieldAddr Fld_192_1 rfl) rfl ?_
  refine lq (q_load1 T1_3 rfl (fun w1 hw => hw.rgO (i := 1) rfl 1 1 [.int .i64 p0.N] rfl)) rfl ?_
  refine lq (q_fieldAddr Fld_192_1 rfl) rfl ?_
  refine lq (q_load1 T1_3 rfl (fun w1 hw => hw.rgO (i := 0) rfl 1 1 [.int .i64 p1.N] rfl)) rfl ?_
  refine lq (q_neq rfl rfl) rfl ?_
  refine WL.nil ?_
  refine WT.cond rfl (fun c2 => ?_) (fun c2 => ?_)
  · replace h := ite_t h c2
    refine WT.seq ?_
    refine WT.region ?_
    refine lq (q_assign rfl) rfl ?_
    refine WL.nil ?_
    refine WT.ret Try.func205 (resOk.one rfl) (fun w1 hw => ?_)
    cases h
    exact post_of_St hw
  replace h := ite_f h c2
  refine WT.skip ?_
  refine WT.seq ?_
  refine WT.seq ?_
  refine WT.region ?_
  refine lq (q_fieldAddr Fld_192_2 rfl) rfl ?_
  refine lq (q_load1 T1_9 rfl (fun w1 hw => hw.rgO (i := 1) rfl 2 1 [.string p0.S] rfl)) rfl ?_
  refine lq (q_fieldAddr Fld_192_2 rfl) rfl ?_
  refine lq (q_load1 T1_9 rfl (fun w1 hw => hw.rgO (i := 0) rfl 2 1 [.string p1.S] rfl)) rfl ?_
  refine lq (q_sne rfl rfl) rfl ?_
  refine WL.nil ?_
  refine WT.cond rfl (fun c3 => ?_) (fun c3 => ?_)
  · replace h := ite_t h c3
    refine WT.seq ?_
    refine WT.region ?_
    refine lq (q_assign rfl) rfl ?_
    refine WL.nil ?_
    refine WT.ret Try.func205 (resOk.one rfl) (fun w1 hw => ?_)
    cases h
    exact post_of_St hw
  replace h := ite_f h c3
  refine WT.skip ?_
  refine WT.seq ?_
  refine WT.region ?_
  refine lq (q_assign rfl) rfl ?_
  refine WL.nil ?_
  refine WT.ret Try.func205 (resOk.one rfl) (fun w1 hw => ?_)
  cases h
  exact post_of_St hw
theorem m_l_eqValS_ok {Φ : Hp} {w : World} (hΦ : In Φ w) (N : Nat) (p0 : (List TVal)) (p1 : (List TVal)) {pv0 : Value} {pG0 : List Nat} {pv1 : Value} {pG1 : List Nat} (ph0 : RSl RTVal 3 Φ pG0 pv0 p0) (ph1 : RSl RTVal 3 Φ pG1 pv1 p1) {r : Bool} (h : m_l_eqValS N p0 p1 = some r) :
    Calls Try.prog 224 [pv0, pv1].toArray w (Post (.bool r) w) := by
  refine enter Try.func224 rfl Try.ntmps224 rfl (St.start0 hΦ) ?_
  generalize hb0 : (⟨w, [], Φ⟩ : Base) = w0
  unfold m_l_eqValS at h
  refine WT.seq ?_
  refine WT.region ?_
  refine lq (q_assign rfl) rfl ?_
  refine WL.nil ?_
  refine WT.seq ?_
  refine WT.seq ?_
  refine WT.region ?_
  refine lq (q_move rfl) rfl ?_
  refine lq (q_lenR Sl_112 rfl rfl ph0) rfl ?_
  refine lq (q_move rfl) rfl ?_
  refine lq (q_lenR Sl_112 rfl rfl ph1) rfl ?_
  refine lq (q_neq rfl rfl) rfl ?_
  refine WL.nil ?_
  refine WT.cond rfl (fun c1 => ?_) (fun c1 => ?_)
  · replace h := ite_t h c1
    refine WT.seq ?_
    refine WT.region ?_
    refine lq (q_assign rfl) rfl ?_
    refine WL.nil ?_
    refine WT.ret Try.func224 (resOk.one rfl) (fun w1 hw => ?_)
    subst hb0
    cases h
    exact post_of_St hw
  replace h := ite_f h c1
  refine WT.skip ?_
  refine WT.seq ?_
  refine WT.seq ?_
  refine WT.region ?_
  refine lq (q_assign rfl) rfl ?_
  refine WL.nil ?_
  refine WT.block ?_
  refine WT.loop ?_
  refine WT.mono (l' := [(0, pv0), (1, pv1), (5, .int .i64 0)]) (S' := St w0 Φ [] []) ⟨rfl, rfl, rfl, trivial⟩ (fun w1 hw => (hw.sel (js := []) rfl).selO (js := []) rfl) ?_
  refine loop_ind (σ := Int) (fun s => [(0, pv0), (1, pv1), (5, .int .i64 s)]) (fun s => St w0 Φ [] []) (fun m s => m_l_eqValS_l1 N p0 p1 m s = some r) (fun s hm => none_ne (show (none : Option (Bool)) = some r from hm)) (fun n1 ih1 s hm => ?_) N (0) h
  revert hm; revert s; intro s1 hm
  have h : m_l_eqValS_l1 N p0 p1 (n1 + 1) s1 = some r := hm
  show WT _ _ [(0, pv0), (1, pv1), (5, .int .i64 s1)] (St w0 Φ [] [])
  unfold m_l_eqValS_l1 at h
  refine WT.seq ?_
  refine WT.seq ?_
  refine WT.region ?_
  refine lq (q_move rfl) rfl ?_
  refine lq (q_move rfl) rfl ?_
  refine lq (q_lenR Sl_112 rfl rfl ph0) rfl ?_
  refine lq (q_lss rfl rfl) rfl ?_
  refine WL.nil ?_
  refine WT.cond rfl (fun c2 => ?_) (fun c2 => ?_)
  · replace h := ite_t h c2
    refine WT.skip ?_
    refine WT.seq ?_
    refine WT.block ?_
    refine WT.seq ?_
    refine WT.draw mixed (by kernel_rfl) (fun _ h => h.drew) ?_
    refine qq (q_move rfl) rfl ?_
    refine qq (q_move rfl) rfl ?_
    obtain ⟨x1, hx1, h⟩ := bind_some h
    obtain ⟨cs1, F1, -, g1, hb1, hs1, r1⟩ := ph0.el (idx_some hx1).2.2
    obtain ⟨rfl, -⟩ := r1
    refine qq (q_indexAddr Sl_112 rfl rfl ph0 hx1) rfl ?_
    refine qq (q_loadN Tn_192 rfl (fun w1 hw => (g1.of_eq 0 3 rfl rfl : rg _ _ _ [.int .i64 x1.K, .int .i64 x1.N, .string x1.S]).rangeAt hw.fro) rfl) rfl ?_
    refine qq (q_move rfl) rfl ?_
    refine qq (q_move rfl) rfl ?_
    obtain ⟨x2, hx2, h⟩ := bind_some h
    obtain ⟨cs2, F2, -, g2, hb2, hs2, r2⟩ := ph1.el (idx_some hx2).2.2
    obtain ⟨rfl, -⟩ := r2
    refine qq (q_indexAddr Sl_112 rfl rfl ph1 hx2) rfl ?_
    refine qq (q_loadN Tn_192 rfl (fun w1 hw => (g2.of_eq 0 3 rfl rfl : rg _ _ _ [.int .i64 x2.K, .int .i64 x2.N, .string x2.S]).rangeAt hw.fro) rfl) rfl ?_
    obtain ⟨x3, hx3, h⟩ := bind_some h
    refine qp (p_call Fun_205 rfl (fun w1 hw => m_l_eqVal_ok hw.fro N x1 x2 hx3)) rfl ?_
    refine qq (q_not rfl) rfl ?_
    refine WQ.nil ?_
    refine WT.cond rfl (fun c3 => ?_) (fun c3 => ?_)
    · replace h := ite_t h c3
      refine WT.seq ?_
      refine WT.region ?_
      refine lq (q_assign rfl) rfl ?_
      refine WL.nil ?_
      refine WT.ret Try.func224 (resOk.one rfl) (fun w1 hw => ?_)
      subst hb0
      cases h
      exact post_of_St hw
    replace h := ite_f h c3
    refine WT.skip ?_
    refine WT.inBlock ?_
    refine WT.region ?_
    refine lq (q_move rfl) rfl ?_
    refine lq (q_add rfl rfl) rfl ?_
    refine lq (q_assign rfl) rfl ?_
    refine WL.nil ?_
    refine WT.inLoop (WT.mono (l' := [(0, pv0), (1, pv1), (5, .int .i64 (IntKind.i64.wrap (s1 + 1)))]) (S' := St w0 Φ [] []) ⟨rfl, rfl, rfl, trivial⟩ (fun w1 hw => (hw.sel (js := []) rfl).selO (js := []) rfl) ?_)
    exact ih1 (IntKind.i64.wrap (s1 + 1)) h
  replace h := ite_f h c2
  refine WT.exit rfl ?_
  refine WT.seq ?_
  refine WT.region ?_
  refine lq (q_assign rfl) rfl ?_
  refine WL.nil ?_
  refine WT.ret Try.func224 (resOk.one rfl) (fun w1 hw => ?_)
  subst hb0
  cases h
  exact post_of_St hw
theorem m_l_eqAlpha_ok {Φ : Hp} {w : World} (hΦ : In Φ w) (N : Nat) (p0 : TAlpha) (p1 : TAlpha) {pv0_0 : Value} {pG0_0 : List Nat} {pv0_1 : Value} {pG0_1 : List Nat} {pv1_0 : Value} {pG1_0 : List Nat} {pv1_1 : Value} {pG1_1 : List Nat} (ph0_0 : RSl RTVal 3 Φ pG0_0 pv0_0 p0.Consts) (ph0_1 : RSl (RI .i64) 1 Φ pG0_1 pv0_1 p0.At) (ph1_0 : RSl RTVal 3 Φ pG1_0 pv1_0 p1.Consts) (ph1_1 : RSl (RI .i64) 1 Φ pG1_1 pv1_1 p1.At) {r : Bool} (h : m_l_eqAlpha N p0 p1 = some r) :
    Calls Try.prog 160 [.agg [.string p0.Kind, .int .i64 p0.N, pv0_0, pv0_1].toArray, .agg [.string p1.Kind, .int .i64 p1.N, pv1_0, pv1_1].toArray].toArray w (Post (.bool r) w) := by
  refine enter Try.func160 rfl Try.ntmps160 rfl (St.start0 hΦ) ?_
  unfold m_l_eqAlpha at h
  refine WT.seq ?_
  refine WT.region ?_
  refine ln (n_box (C := #[.string p0.Kind, .int .i64 p0.N, pv0_0, pv0_1]) rfl rfl) rfl (fun b_1 => ?_)
  refine ln (n_box (C := #[.string p1.Kind, .int .i64 p1.N, pv1_0, pv1_1]) rfl rfl) rfl (fun b_2 => ?_)
  refine lq (q_assign rfl) rfl ?_
  refine WL.nil ?_
  refine WT.seq ?_
  refine WT.seq ?_
  refine WT.region ?_
  refine lq (q_fieldAddr Fld_114_0 rfl) rfl ?_
  refine lq (q_load1 T1_9 rfl (fun w1 hw => hw.rgO (i := 1) rfl 0 1 [.string p0.Kind] rfl)) rfl ?_
  refine lq (q_fieldAddr Fld_114_0 rfl) rfl ?_
  refine lq (q_load1 T1_9 rfl (fun w1 hw => hw.rgO (i := 0) rfl 0 1 [.string p1.Kind] rfl)) rfl ?_
  refine lq (q_sne rfl rfl) rfl ?_
  refine WL.nil ?_
  refine WT.cond rfl (fun c1 => ?_) (fun c1 => ?_)
  · replace h := ite_t h c1
    refine WT.seq ?_
    refine WT.region ?_
    refine lq (q_assign rfl) rfl ?_
    refine WL.nil ?_
    refine WT.ret Try.func160 (resOk.one rfl) (fun w1 hw => ?_)
    cases h
    exact post_of_St hw
  replace h := ite_f h c1
  refine WT.skip ?_
  refine WT.seq ?_
  refine WT.seq ?_
  refine WT.region ?_
  refine lq (q_fieldAddr Fld_114_1 rfl) rfl ?_
  refine lq (q_load1 T1_3 rfl (fun w1 hw => hw.rgO (i := 1) rfl 1 1 [.int .i64 p0.N] rfl)) rfl ?_
  refine lq (q_fieldAddr Fld_114_1 rfl) rfl ?_
  refine lq (q_load1 T1_3 rfl (fun w1 hw => hw.rgO (i := 0) rfl 1 1 [.int .i64 p1.N] rfl)) rfl ?_
  refine lq (q_neq rfl rfl) rfl ?_
  refine WL.nil ?_
  refine WT.cond rfl (fun c2 => ?_) (fun c2 => ?_)
  · replace h := ite_t h c2
    refine WT.seq ?_
    refine WT.region ?_
    refine lq (q_assign rfl) rfl ?_
    refine WL.nil ?_
    refine WT.ret Try.func160 (resOk.one rfl) (fun w1 hw => ?_)
    cases h
    exact post_of_St hw
  replace h := ite_f h c2
  refine WT.skip ?_
  refine WT.seq ?_
  refine WT.seq ?_
  refine WT.region ?_
  refine lq (q_fieldAddr Fld_114_2 rfl) rfl ?_
  refine lq (q_load1 T1_112 rfl (fun w1 hw => hw.rgO (i := 1) rfl 2 1 [pv0_0] rfl)) rfl ?_
  refine lq (q_fieldAddr Fld_114_2 rfl) rfl ?_
  refine lq (q_load1 T1_112 rfl (fun w1 hw => hw.rgO (i := 0) rfl 2 1 [pv1_0] rfl)) rfl ?_
  obtain ⟨x1, hx1, h⟩ := bind_some h
  refine lp (p_call Fun_224 rfl (fun w1 hw => m_l_eqValS_ok hw.fro N p0.Consts p1.Consts ph0_0 ph1_0 hx1)) rfl ?_
  refine lq (q_not rfl) rfl ?_
  refine WL.nil ?_
  refine WT.cond rfl (fun c3 => ?_) (fun c3 => ?_)
  · replace h := ite_t h c3
    refine WT.seq ?_
    refine WT.region ?_
    refine lq (q_assign rfl) rfl ?_
    refine WL.nil ?_
    refine WT.ret Try.func160 (resOk.one rfl) (fun w1 hw => ?_)
    cases h
    exact post_of_St hw
  replace h := ite_f h c3
  refine WT.skip ?_
  refine WT.seq ?_
  refine WT.seq ?_
  refine WT.region ?_
  refine lq (q_fieldAddr Fld_114_3 rfl) rfl ?_
  refine lq (q_load1 T1_78 rfl (fun w1 hw => hw.rgO (i := 1) rfl 3 1 [pv0_1] rfl)) rfl ?_
  refine lq (q_fieldAddr Fld_114_3 rfl) rfl ?_
  refine lq (q_load1 T1_78 rfl (fun w1 hw => hw.rgO (i := 0) rfl 3 1 [pv1_1] rfl)) rfl ?_
  obtain ⟨x2, hx2, h⟩ := bind_some h
  refine lp (p_call Fun_125 rfl (fun w1 hw => m_l_eqIntS_ok hw.fro N p0.At p1.At ph0_1 ph1_1 hx2)) rfl ?_
  refine lq (q_not rfl) rfl ?_
  refine WL.nil ?_
  refine WT.cond rfl (fun c4 => ?_) (fun c4 => ?_)
  · replace h := ite_t h c4
    refine WT.seq ?_
    refine WT.region ?_
    refine lq (q_assign rfl) rfl ?_
    refine WL.nil ?_
    refine WT.ret Try.func160 (resOk.one rfl) (fun w1 hw => ?_)
    cases h
    exact post_of_St hw
  replace h := ite_f h c4
  refine WT.skip ?_
  refine WT.seq ?_
  refine WT.region ?_
  refine lq (q_assign rfl) rfl ?_
  refine WL.nil ?_
  refine WT.ret Try.func160 (resOk.one rfl) (fun w1 hw => ?_)
  cases h
  exact post_of_St hw
theorem m_l_eqAlphaS_ok {Φ : Hp} {w : World} (hΦ : In Φ w) (N : Nat) (p0 : (List TAlpha)) (p1 : (List TAlpha)) {pv0 : Value} {pG0 : List Nat} {pv1 : Value} {pG1 : List Nat} (ph0 : RSl RTAlpha 4 Φ pG0 pv0 p0) (ph1 : RSl RTAlpha 4 Φ pG1 pv1 p1) {r : Bool} (h : m_l_eqAlphaS N p0 p1 = some r) :
    Calls Try.prog 79 [pv0, pv1].toArray w (Post (.bool r) w) := by
  refine enter Try.func79 rfl Try.ntmps79 rfl (St.start0 hΦ) ?_
  generalize hb0 : (⟨w, [], Φ⟩ : Base) = w0
  unfold m_l_eqAlphaS at h
  refine WT.seq ?_
  refine WT.region ?_
  refine lq (q_assign rfl) rfl ?_
  refine WL.nil ?_
  refine WT.seq ?_
  refine WT.seq ?_
  refine WT.region ?_
  refine lq (q_move rfl) rfl ?_
  refine lq (q_lenR Sl_43 rfl rfl ph0) rfl ?_
  refine lq (q_move rfl) rfl ?_
  refine lq (q_lenR Sl_43 rfl rfl ph1) rfl ?_
  refine lq (q_neq rfl rfl) rfl ?_
  refine WL.nil ?_
  refine WT.cond rfl (fun c1 => ?_) (fun c1 => ?_)
  · replace h := ite_t h c1
    refine WT.seq ?_
    refine WT.region ?_
    refine lq (q_assign rfl) rfl ?_
    refine WL.nil ?_
    refine WT.ret Try.func79 (resOk.one rfl) (fun w1 hw => ?_)
    subst hb0
    cases h
    exact post_of_St hw
  replace h := ite_f h c1
  refine WT.skip ?_
  refine WT.seq ?_
  refine WT.seq ?_
  refine WT.region ?_
  refine lq (q_assign rfl) rfl ?_
  refine WL.nil ?_
  refine WT.block ?_
  refine WT.loop ?_
  refine WT.mono (l' := [(0, pv0), (1, pv1), (5, .int .i64 0)]) (S' := St w0 Φ [] []) ⟨rfl, rfl, rfl, trivial⟩ (fun w1 hw => (hw.sel (js := []) rfl).selO (js := []) rfl) ?_
  refine loop_ind (σ := Int) (fun s => [(0, pv0), (1, pv1), (5, .int .i64 s)]) (fun s => St w0 Φ [] []) (fun m s => m_l_eqAlphaS_l1 N p0 p1 m s = some r) (fun s hm => none_ne (show (none : Option (Bool)) = some r from hm)) (fun n1 ih1 s hm => ?_) N (0) h
  revert hm; revert s; intro s1 hm
  have h : m_l_eqAlphaS_l1 N p0 p1 (n1 + 1) s1 = some r := hm
  show WT _ _ [(0, pv0), (1, pv1), (5, .int .i64 s1)] (St w0 Φ [] [])
  unfold m_l_eqAlphaS_l1 at h
  refine WT.seq ?_
  refine WT.seq ?_
  refine WT.region ?_
  refine lq (q_move rfl) rfl ?_
  refine lq (q_move rfl) rfl ?_
  refine lq (q_lenR Sl_43 rfl rfl ph0) rfl ?_
  refine lq (q_lss rfl rfl) rfl ?_
  refine WL.nil ?_
  refine WT.cond rfl (fun c2 => ?_) (fun c2 => ?_)
  · replace h := ite_t h c2
    refine WT.skip ?_
    refine WT.seq ?_
    refine WT.block ?_
    refine WT.seq ?_
    refine WT.draw mixed (by kernel_rfl) (fun _ h => h.drew) ?_
    refine qq (q_move rfl) rfl ?_
    refine qq (q_move rfl) rfl ?_
    obtain ⟨x1, hx1, h⟩ := bind_some h
    obtain ⟨cs1, F1, -, g1, hb1, hs1, r1⟩ := ph0.el (idx_some hx1).2.2
    obtain ⟨v1, G1, v2, G2, rfl, rfl, h1, h2⟩ := r1
    refine qq (q_indexAddr Sl_43 rfl rfl ph0 hx1) rfl ?_
    refine qq (q_loadN Tn_114 rfl (fun w1 hw => (g1.of_eq 0 4 rfl rfl : rg _ _ _ [.string x1.Kind, .int .i64 x1.N, v1, v2]).rangeAt hw.fro) rfl) rfl ?_
    refine qq (q_move rfl) rfl ?_
    refine qq (q_move rfl) rfl ?_
    obtain ⟨x2, hx2, h⟩ := bind_some h
    obtain ⟨cs2, F2, -, g2, hb2, hs2, r2⟩ := ph1.el (idx_some hx2).2.2
    obtain ⟨v3, G3, v4, G4, rfl, rfl, h3, h4⟩ := r2
    refine qq (q_indexAddr Sl_43 rfl rfl ph1 hx2) rfl ?_
    refine qq (q_loadN Tn_114 rfl (fun w1 hw => (g2.of_eq 0 4 rfl rfl : rg _ _ _ [.string x2.Kind, .int .i64 x2.N, v3, v4]).rangeAt hw.fro) rfl) rfl ?_
    obtain ⟨x3, hx3, h⟩ := bind_some h
    refine qp (p_call Fun_160 rfl (fun w1 hw => m_l_eqAlpha_ok hw.fro N x1 x2 h1 h2 h3 h4 hx3)) rfl ?_
    refine qq (q_not rfl) rfl ?_
    refine WQ.nil ?_
    refine WT.cond rfl (fun c3 => ?_) (fun c3 => ?_)
    · replace h := ite_t h c3
      refine WT.seq ?_
      refine WT.region ?_
      refine lq (q_assign rfl) rfl ?_
      refine WL.nil ?_
      refine WT.ret Try.func79 (resOk.one rfl) (fun w1 hw => ?_)
      subst hb0
      cases h
      exact post_of_St hw
    replace h := ite_f h c3
    refine WT.skip ?_
    refine WT.inBlock ?_
    refine WT.region ?_
    refine lq (q_move rfl) rfl ?_
    refine lq (q_add rfl rfl) rfl ?_
    refine lq (q_assign rfl) rfl ?_
    refine WL.nil ?_
    refine WT.inLoop (WT.mono (l' := [(0, pv0), (1, pv1), (5, .int .i64 (IntKind.i64.wrap (s1 + 1)))]) (S' := St w0 Φ [] []) ⟨rfl, rfl, rfl, trivial⟩ (fun w1 hw => (hw.sel (js := []) rfl).selO (js := []) rfl) ?_)
    exact ih1 (IntKind.i64.wrap (s1 + 1)) h
  replace h := ite_f h c2
  refine WT.exit rfl ?_
  refine WT.seq ?_
  refine WT.region ?_
  refine lq (q_assign rfl) rfl ?_
  refine WL.nil ?_
  refine WT.ret Try.func79 (resOk.one rfl) (fun w1 hw => ?_)
  subst hb0
  cases h
  exact post_of_St hw
theorem m_l_eqChain_ok {Φ : Hp} {w : World} (hΦ : In Φ w) (N : Nat) (p0 : TChain) (p1 : TChain) {pv0_0 : Value} {pG0_0 : List Nat} {pv0_1 : Value} {pG0_1 : List Nat} {pv1_0 : Value} {pG1_0 : List Nat} {pv1_1 : Value} {pG1_1 : List Nat} (ph0_0 : RSl (RI .i64) 1 Φ pG0_0 pv0_0 p0.Pos) (ph0_1 : RSl (RI .i64) 1 Φ pG0_1 pv0_1 p0.Neg) (ph1_0 : RSl (RI .i64) 1 Φ pG1_0 pv1_0 p1.Pos) (ph1_1 : RSl (RI .i64) 1 Φ pG1_1 pv1_1 p1.Neg) {r : Bool} (h : m_l_eqChain N p0 p1 = some r) :
    Calls Try.prog 161 [.agg [pv0_0, pv0_1].toArray, .agg [pv1_0, pv1_1].toArray].toArray w (Post (.bool r) w) := by
  refine enter Try.func161 rfl Try.ntmps161 rfl (St.start0 hΦ) ?_
  unfold m_l_eqChain at h
  refine WT.seq ?_
  refine WT.region ?_
  refine ln (n_box (C := #[pv0_0, pv0_1]) rfl rfl) rfl (fun b_1 => ?_)
  refine ln (n_box (C := #[pv1_0, pv1_1]) rfl rfl) rfl (fun b_2 => ?_)
  refine lq (q_assign rfl) rfl ?_
  refine WL.nil ?_
  refine WT.seq ?_
  refine WT.seq ?_
  refine WT.region ?_
  refine lq (q_fieldAddr Fld_116_0 rfl) rfl ?_
  refine lq (q_load1 T1_78 rfl (fun w1 hw => hw.rgO (i := 1) rfl 0 1 [pv0_0] rfl)) rfl ?_
  refine lq (q_fieldAddr Fld_116_0 rfl) rfl ?_
  refine lq (q_load1 T1_78 rfl (fun w1 hw => hw.rgO (i := 0) rfl 0 1 [pv1_0] rfl)) rfl ?_
  obtain ⟨x1, hx1, h⟩ := bind_some h
  refine lp (p_call Fun_125 rfl (fun w1 hw => m_l_eqIntS_ok hw.fro N p0.Pos p1.Pos ph0_0 ph1_0 hx1)) rfl ?_
  refine lq (q_not rfl) rfl ?_
  refine WL.nil ?_
  refine WT.cond rfl (fun c1 => ?_) (fun c1 => ?_)
  · replace h := ite_t h c1
    refine WT.seq ?_
    refine WT.region ?_
    refine lq (q_assign rfl) rfl ?_
    refine WL.nil ?_
    refine WT.ret Try.func161 (resOk.one rfl) (fun w1 hw => ?_)
    cases h
    exact post_of_St hw
  replace h := ite_f h c1
  refine WT.skip ?_
  refine WT.seq ?_
  refine WT.seq ?_
  refine WT.region ?_
  refine lq (q_fieldAddr Fld_116_1 rfl) rfl ?_
  refine lq (q_load1 T1_78 rfl (fun w1 hw => hw.rgO (i := 1) rfl 1 1 [pv0_1] rfl)) rfl ?_
  refine lq (q_fieldAddr Fld_116_1 rfl) rfl ?_
  refine lq (q_load1 T1_78 rfl (fun w1 hw => hw.rgO (i := 0) rfl 1 1 [pv1_1] rfl)) rfl ?_
  obtain ⟨x2, hx2, h⟩ := bind_some h
  refine lp (p_call Fun_125 rfl (fun w1 hw => m_l_eqIntS_ok hw.fro N p0.Neg p1.Neg ph0_1 ph1_1 hx2)) rfl ?_
  refine lq (q_not rfl) rfl ?_
  refine WL.nil ?_
  refine WT.cond rfl (fun c2 => ?_) (fun c2 => ?_)
  · replace h := ite_t h c2
    refine WT.seq ?_
    refine WT.region ?_
    refine lq (q_assign rfl) rfl ?_
    refine WL.nil ?_
    refine WT.ret Try.func161 (resOk.one rfl) (fun w1 hw => ?_)
    cases h
    exact post_of_St hw
  replace h := ite_f h c2
  refine WT.skip ?_
  refine WT.seq ?_
  refine WT.region ?_
  refine lq (q_assign rfl) rfl ?_
  refine WL.nil ?_
  refine WT.ret Try.func161 (resOk.one rfl) (fun w1 hw => ?_)
  cases h
  exact post_of_St hw
theorem m_l_eqChainS_ok {Φ : Hp} {w : World} (hΦ : In Φ w) (N : Nat) (p0 : (List TChain)) (p1 : (List TChain)) {pv0 : Value} {pG0 : List Nat} {pv1 : Value} {pG1 : List Nat} (ph0 : RSl RTChain 2 Φ pG0 pv0 p0) (ph1 : RSl RTChain 2 Φ pG1 pv1 p1) {r : Bool} (h : m_l_eqChainS N p0 p1 = some r) :
    Calls Try.prog 80 [pv0, pv1].toArray w (Post (.bool r) w) := by
  refine enter Try.func80 rfl Try.ntmps80 rfl (St.start0 hΦ) ?_
  generalize hb0 : (⟨w, [], Φ⟩ : Base) = w0
  unfold m_l_eqChainS at h
  refine WT.seq ?_
  refine WT.region ?_
  refine lq (q_assign rfl) rfl ?_
  refine WL.nil ?_
  refine WT.seq ?_
  refine WT.seq ?_
  refine WT.region ?_
  refine lq (q_move rfl) rfl ?_
  refine lq (q_lenR Sl_44 rfl rfl ph0) rfl ?_
  refine lq (q_move rfl) rfl ?_
  refine lq (q_lenR Sl_44 rfl rfl ph1) rfl ?_
  refine lq (q_neq rfl rfl) rfl ?_
  refine WL.nil ?_
  refine WT.cond rfl (fun c1 => ?_) (fun c1 => ?_)
  · replace h := ite_t h c1
    refine WT.seq ?_
    refine WT.region ?_
    refine lq (q_assign rfl) rfl ?_
    refine WL.nil ?_
    refine WT.ret Try.func80 (resOk.one rfl) (fun w1 hw => ?_)
    subst hb0
    cases h
    exact post_of_St hw
  replace h := ite_f h c1
  refine WT.skip ?_
  refine WT.seq ?_
  refine WT.seq ?_
  refine WT.region ?_
  refine lq (q_assign rfl) rfl ?_
  refine WL.nil ?_
  refine WT.block ?_
  refine WT.loop ?_
  refine WT.mono (l' := [(0, pv0), (1, pv1), (5, .int .i64 0)]) (S' := St w0 Φ [] []) ⟨rfl, rfl, rfl, trivial⟩ (fun w1 hw => (hw.sel (js := []) rfl).selO (js := []) rfl) ?_
  refine loop_ind (σ := Int) (fun s => [(0, pv0), (1, pv1), (5, .int .i64 s)]) (fun s => St w0 Φ [] []) (fun m s => m_l_eqChainS_l1 N p0 p1 m s = some r) (fun s hm => none_ne (show (none : Option (Bool)) = some r from hm)) (fun n1 ih1 s hm => ?_) N (0) h
  revert hm; revert s; intro s1 hm
  have h : m_l_eqChainS_l1 N p0 p1 (n1 + 1) s1 = some r := hm
  show WT _ _ [(0, pv0), (1, pv1), (5, .int .i64 s1)] (St w0 Φ [] [])
  unfold m_l_eqChainS_l1 at h
  refine WT.seq ?_
  refine WT.seq ?_
  refine WT.region ?_
  refine lq (q_move rfl) rfl ?_
  refine lq (q_move rfl) rfl ?_
  refine lq (q_lenR Sl_44 rfl rfl ph0) rfl ?_
  refine lq (q_lss rfl rfl) rfl ?_
  refine WL.nil ?_
  refine WT.cond rfl (fun c2 => ?_) (fun c2 => ?_)
  · replace h := ite_t h c2
    refine WT.skip ?_
    refine WT.seq ?_
    refine WT.block ?_
    refine WT.seq ?_
    refine WT.draw mixed (by kernel_rfl) (fun _ h => h.drew) ?_
    refine qq (q_move rfl) rfl ?_
    refine qq (q_move rfl) rfl ?_
    obtain ⟨x1, hx1, h⟩ := bind_some h
    obtain ⟨cs1, F1, -, g1, hb1, hs1, r1⟩ := ph0.el (idx_some hx1).2.2
    obtain ⟨v1, G1, v2, G2, rfl, rfl, h1, h2⟩ := r1
    refine qq (q_indexAddr Sl_44 rfl rfl ph0 hx1) rfl ?_
    refine qq (q_loadN Tn_116 rfl (fun w1 hw => (g1.of_eq 0 2 rfl rfl : rg _ _ _ [v1, v2]).rangeAt hw.fro) rfl) rfl ?_
    refine qq (q_move rfl) rfl ?_
    refine qq (q_move rfl) rfl ?_
    obtain ⟨x2, hx2, h⟩ := bind_some h
    obtain ⟨cs2, F2, -, g2, hb2, hs2, r2⟩ := ph1.el (idx_some hx2).2.2
    obtain ⟨v3, G3, v4, G4, rfl, rfl, h3, h4⟩ := r2
    refine qq (q_indexAddr Sl_44 rfl rfl ph1 hx2) rfl ?_
    refine qq (q_loadN Tn_116 rfl (fun w1 hw => (g2.of_eq 0 2 rfl rfl : rg _ _ _ [v3, v4]).rangeAt hw.fro) rfl) rfl ?_
    obtain ⟨x3, hx3, h⟩ := bind_some h
    refine qp (p_call Fun_161 rfl (fun w1 hw => m_l_eqChain_ok hw.fro N x1 x2 h1 h2 h3 h4 hx3)) rfl ?_
    refine qq (q_not rfl) rfl ?_
    refine WQ.nil ?_
    refine WT.cond rfl (fun c3 => ?_) (fun c3 => ?_)
    · replace h := ite_t h c3
      refine WT.seq ?_
      refine WT.region ?_
      refine lq (q_assign rfl) rfl ?_
      refine WL.nil ?_
      refine WT.ret Try.func80 (resOk.one rfl) (fun w1 hw => ?_)
      subst hb0
      cases h
      exact post_of_St hw
    replace h := ite_f h c3
    refine WT.skip ?_
    refine WT.inBlock ?_
    refine WT.region ?_
    refine lq (q_move rfl) rfl ?_
    refine lq (q_add rfl rfl) rfl ?_
    refine lq (q_assign rfl) rfl ?_
    refine WL.nil ?_
    refine WT.inLoop (WT.mono (l' := [(0, pv0), (1, pv1), (5, .int .i64 (IntKind.i64.wrap (s1 + 1)))]) (S' := St w0 Φ [] []) ⟨rfl, rfl, rfl, trivial⟩ (fun w1 hw => (hw.sel (js := []) rfl).selO (js := []) rfl) ?_)
    exact ih1 (IntKind.i64.wrap (s1 + 1)) h
  replace h := ite_f h c2
  refine WT.exit rfl ?_
  refine WT.seq ?_
  refine WT.region ?_
  refine lq (q_assign rfl) rfl ?_
  refine WL.nil ?_
  refine WT.ret Try.func80 (resOk.one rfl) (fun w1 hw => ?_)
  subst hb0
  cases h
  exact post_of_St hw
theorem m_l_eqNet_ok {Φ : Hp} {w : World} (hΦ : In Φ w) (N : Nat) (p0 : TNet) (p1 : TNet) {pv0_0 : Value} {pG0_0 : List Nat} {pv0_1 : Value} {pG0_1 : List Nat} {pv1_0 : Value} {pG1_0 : List Nat} {pv1_1 : Value} {pG1_1 : List Nat} (ph0_0 : RSl RTAlpha 4 Φ pG0_0 pv0_0 p0.Alphas) (ph0_1 : RSl RTChain 2 Φ pG0_1 pv0_1 p0.Chains) (ph1_0 : RSl RTAlpha 4 Φ pG1_0 pv1_0 p1.Alphas) (ph1_1 : RSl RTChain 2 Φ pG1_1 pv1_1 p1.Chains) {r : Bool} (h : m_l_eqNet N p0 p1 = some r) :
    Calls Try.prog 23 [.agg [pv0_0, pv0_1].toArray, .agg [pv1_0, pv1_1].toArray].toArray w (Post (.bool r) w) := by
  refine enter Try.func23 rfl Try.ntmps23 rfl (St.start0 hΦ) ?_
  unfold m_l_eqNet at h
  refine WT.seq ?_
  refine WT.region ?_
  refine ln (n_box (C := #[pv0_0, pv0_1]) rfl rfl) rfl (fun b_1 => ?_)
  refine ln (n_box (C := #[pv1_0, pv1_1]) rfl rfl) rfl (fun b_2 => ?_)
  refine lq (q_assign rfl) rfl ?_
  refine WL.nil ?_
  refine WT.seq ?_
  refine WT.seq ?_
  refine WT.region ?_
  refine lq (q_fieldAddr Fld_46_0 rfl) rfl ?_
  refine lq (q_load1 T1_43 rfl (fun w1 hw => hw.rgO (i := 1) rfl 0 1 [pv0_0] rfl)) rfl ?_
  refine lq (q_fieldAddr Fld_46_0 rfl) rfl ?_
  refine lq (q_load1 T1_43 rfl (fun w1 hw => hw.rgO (i := 0) rfl 0 1 [pv1_0] rfl)) rfl ?_
  obtain ⟨x1, hx1, h⟩ := bind_some h
  refine lp (p_call Fun_79 rfl (fun w1 hw => m_l_eqAlphaS_ok hw.fro N p0.Alphas p1.Alphas ph0_0 ph1_0 hx1)) rfl ?_
  refine lq (q_not rfl) rfl ?_
  refine WL.nil ?_
  refine WT.cond rfl (fun c1 => ?_) (fun c1 => ?_)
  · replace h := ite_t h c1
    refine WT.seq ?_
    refine WT.region ?_
    refine lq (q_assign rfl) rfl ?_
    refine WL.nil ?_
    refine WT.ret Try.func23 (resOk.one rfl) (fun w1 hw => ?_)
    cases h
    exact post_of_St hw
  replace h := ite_f h c1
  refine WT.skip ?_
  refine WT.seq ?_
  refine WT.seq ?_
  refine WT.region ?_
  refine lq (q_fieldAddr Fld_46_1 rfl) rfl ?_
  refine lq (q_load1 T1_44 rfl (fun w1 hw => hw.rgO (i := 1) rfl 1 1 [pv0_1] rfl)) rfl ?_
  refine lq (q_fieldAddr Fld_46_1 rfl) rfl ?_
  refine lq (q_load1 T1_44 rfl (fun w1 hw => hw.rgO (i := 0) rfl 1 1 [pv1_1] rfl)) rfl ?_
  obtain ⟨x2, hx2, h⟩ := bind_some h
  refine lp (p_call Fun_80 rfl (fun w1 hw => m_l_eqChainS_ok hw.fro N p0.Chains p1.Chains ph0_1 ph1_1 hx2)) rfl ?_
  refine lq (q_not rfl) rfl ?_
  refine WL.nil ?_
  refine WT.cond rfl (fun c2 => ?_) (fun c2 => ?_)
  · replace h := ite_t h c2
    refine WT.seq ?_
    refine WT.region ?_
    refine lq (q_assign rfl) rfl ?_
    refine WL.nil ?_
    refine WT.ret Try.func23 (resOk.one rfl) (fun w1 hw => ?_)
    cases h
    exact post_of_St hw
  replace h := ite_f h c2
  refine WT.skip ?_
  refine WT.seq ?_
  refine WT.region ?_
  refine lq (q_assign rfl) rfl ?_
  refine WL.nil ?_
  refine WT.ret Try.func23 (resOk.one rfl) (fun w1 hw => ?_)
  cases h
  exact post_of_St hw
theorem m_l_markText_ok {Φ : Hp} {w : World} (hΦ : In Φ w) (N : Nat) (p0 : Int)   {r : ByteArray} (h : m_l_markText N p0 = some r) :
    Calls Try.prog 104 [.int .i64 p0].toArray w (Post (.string r) w) := by
  refine enter Try.func104 rfl Try.ntmps104 rfl (St.start0 hΦ) ?_
  generalize hb0 : (⟨w, [], Φ⟩ : Base) = w0
  unfold m_l_markText at h
  refine WT.seq ?_
  refine WT.region ?_
  refine lq (q_assign rfl) rfl ?_
  refine WL.nil ?_
  refine WT.seq ?_
  refine WT.seq ?_
  refine WT.region ?_
  refine lq (q_move rfl) rfl ?_
  refine lq (q_leq rfl rfl) rfl ?_
  refine WL.nil ?_
  refine WT.cond rfl (fun c1 => ?_) (fun c1 => ?_)
  · replace h := ite_t h c1
    refine WT.seq ?_
    refine WT.region ?_
    refine lq (q_assign rfl) rfl ?_
    refine WL.nil ?_
    refine WT.ret Try.func104 (resOk.one rfl) (fun w1 hw => ?_)
    subst hb0
    cases h
    exact post_of_St hw
  replace h := ite_f h c1
  refine WT.skip ?_
  refine WT.seq ?_
  refine WT.region ?_
  refine lq (q_assign rfl) rfl ?_
  refine WL.nil ?_
  refine WT.seq ?_
  refine WT.block ?_
  refine WT.loop ?_
  refine WT.mono (l' := [(0, .int .i64 p0), (3, .string (⟨#[]⟩ : ByteArray))]) (S' := St w0 Φ [] []) ⟨rfl, rfl, trivial⟩ (fun w1 hw => (hw.sel (js := []) rfl).selO (js := []) rfl) ?_
  refine loop_ind (σ := Hp × Int × ByteArray) (fun s => [(0, .int .i64 s.2.1), (3, .string s.2.2)]) (fun s => St w0 s.1 [] []) (fun m s => m_l_markText_l1 N m s.2.1 s.2.2 = some r) (fun s hm => none_ne (show (none : Option (ByteArray)) = some r from hm)) (fun n1 ih1 s hm => ?_) N (Φ, p0, (⟨#[]⟩ : ByteArray)) h
  obtain ⟨Φ_1, s1, s2⟩ := s
  have h : m_l_markText_l1 N (n1 + 1) s1 s2 = some r := hm
  show WT _ _ [(0, .int .i64 s1), (3, .string s2)] (St w0 Φ_1 [] [])
  unfold m_l_markText_l1 at h
  refine WT.seq ?_
  refine WT.seq ?_
  refine WT.region ?_
  refine lq (q_move rfl) rfl ?_
  refine lq (q_gtr rfl rfl) rfl ?_
  refine WL.nil ?_
  refine WT.cond rfl (fun c2 => ?_) (fun c2 => ?_)
  · replace h := ite_t h c2
    refine WT.skip ?_
    refine WT.block ?_
    refine WT.seq ?_
    refine WT.region ?_
    refine lq (q_move rfl) rfl ?_
    refine lq (q_rem rfl rfl (by decide)) rfl ?_
    refine lq (q_add rfl rfl) rfl ?_
    refine lq (q_convI Ik_3 Ik_5 rfl) rfl ?_
    have rc1 : RC (RI .u8) 1 Φ_1 ([[]] : List (List Nat)) [.int .u8 (IntKind.u8.wrap (IntKind.i64.wrap (48 + (s1.tmod 10))))] ([(IntKind.u8.wrap (IntKind.i64.wrap (48 + (s1.tmod 10))))] : List Int) := RC.cons (c := [.int .u8 (IntKind.u8.wrap (IntKind.i64.wrap (48 + (s1.tmod 10))))]) (cells := []) ⟨rfl, rfl⟩ rfl (RC.nil _ _ _)
    refine le' (e_lit (vs := [(0, .int .u8 (IntKind.u8.wrap (IntKind.i64.wrap (48 + (s1.tmod 10)))))]) (C := #[.int .u8 (IntKind.u8.wrap (IntKind.i64.wrap (48 + (s1.tmod 10))))]) RI.lasts Sl_73 Zr_5 rfl rfl rfl rfl (fill_made MC_5_1 (fill_cons (cells := [.int .u8 0]) (c := [.int .u8 (IntKind.u8.wrap (IntKind.i64.wrap (48 + (s1.tmod 10))))]) (C' := [.int .u8 (IntKind.u8.wrap (IntKind.i64.wrap (48 + (s1.tmod 10))))]) rfl rfl rfl rfl rfl (fill_nil))) rfl rc1 rfl (by simpa using Kw.nil)) rfl (fun v1 Φ_2 D1 q1 => ?_)
    obtain ⟨fr1, h1⟩ := q1
    replace h1 : OSl (RI .u8) 5 1 Φ_2 [] v1 ([(IntKind.u8.wrap (IntKind.i64.wrap (48 + (s1.tmod 10))))] : List Int) := by simpa using h1
    refine lq (q_convB Sl_73 Ik_5 Str_9 rfl h1.rsl) rfl ?_
    refine lq (q_move rfl) rfl ?_
    obtain ⟨z1, hz1, h⟩ := bind_some h
    refine lq (q_cat rfl rfl hz1) rfl ?_
    refine lq (q_assign rfl) rfl ?_
    refine WL.nil ?_
    refine WT.region ?_
    refine lq (q_move rfl) rfl ?_
    refine lq (q_quo rfl rfl (by decide)) rfl ?_
    refine lq (q_assign rfl) rfl ?_
    refine WL.nil ?_
    refine WT.inBlock ?_
    refine WT.inLoop (WT.mono (l' := [(0, .int .i64 (IntKind.i64.wrap (s1.tdiv 10))), (3, .string z1)]) (S' := St w0 Φ_2 [] []) ⟨rfl, rfl, trivial⟩ (fun w1 hw => (hw.sel (js := []) rfl).selO (js := []) rfl) ?_)
    exact ih1 (Φ_2, (IntKind.i64.wrap (s1.tdiv 10)), z1) h
  replace h := ite_f h c2
  refine WT.exit rfl ?_
  refine WT.seq ?_
  refine WT.region ?_
  refine lq (q_move rfl) rfl ?_
  obtain ⟨z2, hz2, h⟩ := bind_some h
  refine lq (q_cat rfl rfl hz2) rfl ?_
  refine lq (q_assign rfl) rfl ?_
  refine WL.nil ?_
  refine WT.ret Try.func104 (resOk.one rfl) (fun w1 hw => ?_)
  subst hb0
  cases h
  exact post_of_St hw
theorem m_l_markValS_ok {Φ : Hp} {w : World} (hΦ : In Φ w) (N : Nat) (p0 : (List TVal)) (p1 : Int) {pv0 : Value} (ph0 : OSl RTVal 192 3 Φ [] pv0 p0) (hB : [ob pv0].flatten.Nodup) (hlt : ∀ k ∈ [ob pv0].flatten, k < w.heap.size) {r : Int × (List TVal)} (h : m_l_markValS N p0 p1 = some r) :
    Calls Try.prog 162 [pv0, .int .i64 p1].toArray w (PostG Φ w [ob pv0].flatten (fun Φ' Fs v => v = .int .i64 r.1 ∧ Fs = [ob pv0] ∧ OSl RTVal 192 3 Φ' [] pv0 r.2)) := by
  refine enter Try.func162 rfl Try.ntmps162 rfl (St.start hΦ [ob pv0] hB hlt) ?_
  generalize hb0 : (⟨w, [ob pv0].flatten, Φ⟩ : Base) = w0
  unfold m_l_markValS at h
  refine WT.seq ?_
  refine WT.region ?_
  refine lq (q_assign rfl) rfl ?_
  refine WL.nil ?_
  refine WT.seq ?_
  refine WT.seq ?_
  refine WT.region ?_
  refine lq (q_assign rfl) rfl ?_
  refine WL.nil ?_
  refine WT.block ?_
  refine WT.loop ?_
  refine WT.mono (l' := [(0, pv0), (1, .int .i64 p1), (5, .int .i64 0)]) (S' := St w0 Φ [] [ob pv0]) ⟨rfl, rfl, rfl, trivial⟩ (fun w1 hw => (hw.sel (js := [0]) rfl).selO (js := []) rfl) ?_
  refine loop_ind (σ := Hp × (List TVal) × Int × Int) (fun s => [(0, pv0), (1, .int .i64 s.2.2.1), (5, .int .i64 s.2.2.2)]) (fun s => St w0 s.1 [] [ob pv0]) (fun m s => m_l_markValS_l1 N m s.2.1 s.2.2.1 s.2.2.2 = some r ∧ (OSl RTVal 192 3 s.1 [] pv0 s.2.1)) (fun s hm => none_ne (show (none : Option (Int × (List TVal))) = some r from hm.1)) (fun n1 ih1 s hm => ?_) N (Φ, p0, p1, 0) ⟨h, ph0⟩
  obtain ⟨Φ_1, s1, s2, s3⟩ := s
  obtain ⟨h, k1⟩ := hm
  replace h : m_l_markValS_l1 N (n1 + 1) s1 s2 s3 = some r := h
  replace k1 : OSl RTVal 192 3 Φ_1 [] pv0 s1 := k1
  show WT _ _ [(0, pv0), (1, .int .i64 s2), (5, .int .i64 s3)] (St w0 Φ_1 [] [ob pv0])
  unfold m_l_markValS_l1 at h
  refine WT.seq ?_
  refine WT.seq ?_
  refine WT.region ?_
  refine lq (q_move rfl) rfl ?_
  refine lq (q_move rfl) rfl ?_
  refine lq (q_lenR Sl_112 rfl rfl k1.rsl) rfl ?_
  refine lq (q_lss rfl rfl) rfl ?_
  refine WL.nil ?_
  refine WT.cond rfl (fun c1 => ?_) (fun c1 => ?_)
  · replace h := ite_t h c1
    refine WT.skip ?_
    refine WT.seq ?_
    refine WT.block ?_
    refine WT.seq ?_
    refine WT.region ?_
    refine lq (q_move rfl) rfl ?_
    refine lq (q_move rfl) rfl ?_
    refine lq (q_move rfl) rfl ?_
    obtain ⟨x1, hx1, h⟩ := bind_some h
    obtain ⟨cs1, F1, h1, r1⟩ := k1.focusF RTVal.flat hx1
    obtain ⟨rfl, -⟩ := r1
    refine lq (q_indexAddrH Sl_112 rfl rfl h1 hx1) rfl ?_
    refine lq (q_fieldAddr Fld_192_0 rfl) rfl ?_
    refine lu (u_setH (js := [0]) (Rr := []) (o := 0) (vs := [.int .i64 s2]) (cs' := [.int .i64 s2, .int .i64 x1.N, .string x1.S]) RTVal.lasts Sz_3 rfl rfl rfl rfl ⟨rfl, trivial⟩ rfl h1 rfl rfl (fun ap => (Dj.nil _))) rfl (fun Φ_2 D2 q1 => ?_)
    obtain ⟨⟨ap1, fr1⟩, h2⟩ := q1
    refine WL.nil ?_
    refine WT.seq ?_
    refine WT.region ?_
    refine lq (q_move rfl) rfl ?_
    refine lq (q_add rfl rfl) rfl ?_
    refine lq (q_assign rfl) rfl ?_
    refine WL.nil ?_
    refine WT.seq ?_
    refine WT.region ?_
    refine lq (q_move rfl) rfl ?_
    refine lq (q_move rfl) rfl ?_
    refine lq (q_move rfl) rfl ?_
    refine lq (q_indexAddrH Sl_112 rfl rfl h2 hx1) rfl ?_
    refine lq (q_fieldAddr Fld_192_1 rfl) rfl ?_
    refine lu (u_setH (js := [0]) (Rr := []) (o := 1) (vs := [.int .i64 (IntKind.i64.wrap (s2 + 1))]) (cs' := [.int .i64 s2, .int .i64 (IntKind.i64.wrap (s2 + 1)), .string x1.S]) RTVal.lasts Sz_3 rfl rfl rfl rfl ⟨rfl, trivial⟩ rfl h2 rfl rfl (fun ap => (Dj.nil _))) rfl (fun Φ_3 D3 q2 => ?_)
    obtain ⟨⟨ap2, fr2⟩, h3⟩ := q2
    refine WL.nil ?_
    refine WT.seq ?_
    refine WT.region ?_
    refine lq (q_move rfl) rfl ?_
    refine lq (q_add rfl rfl) rfl ?_
    refine lq (q_assign rfl) rfl ?_
    refine WL.nil ?_
    refine WT.seq ?_
    refine WT.region ?_
    refine lq (q_move rfl) rfl ?_
    refine lq (q_move rfl) rfl ?_
    refine lq (q_move rfl) rfl ?_
    obtain ⟨x2, hx2, h⟩ := bind_some h
    refine lp (p_call Fun_104 rfl (fun w1 hw => m_l_markText_ok hw.fro N (IntKind.i64.wrap ((IntKind.i64.wrap (s2 + 1)) + 1)) hx2)) rfl ?_
    refine lq (q_indexAddrH Sl_112 rfl rfl h3 hx1) rfl ?_
    refine lq (q_fieldAddr Fld_192_2 rfl) rfl ?_
    refine lu (u_setH (js := [0]) (Rr := []) (o := 2) (vs := [.string x2]) (cs' := [.int .i64 s2, .int .i64 (IntKind.i64.wrap (s2 + 1)), .string x2]) RTVal.lasts Sz_9 rfl rfl rfl rfl ⟨rfl, trivial⟩ rfl h3 rfl rfl (fun ap => (Dj.nil _))) rfl (fun Φ_4 D4 q3 => ?_)
    obtain ⟨⟨ap3, fr3⟩, h4⟩ := q3
    refine WL.nil ?_
    refine WT.region ?_
    refine lq (q_move rfl) rfl ?_
    refine lq (q_add rfl rfl) rfl ?_
    refine lq (q_assign rfl) rfl ?_
    refine WL.nil ?_
    refine WT.inBlock ?_
    refine WT.region ?_
    refine lq (q_move rfl) rfl ?_
    refine lq (q_add rfl rfl) rfl ?_
    refine lq (q_assign rfl) rfl ?_
    refine WL.nil ?_
    have h5 := h4.unfocusF RTVal.flat (cs := [.int .i64 s2, .int .i64 (IntKind.i64.wrap (s2 + 1)), .string x2]) (x' := (⟨s2, IntKind.i64.wrap (s2 + 1), x2⟩ : TVal)) ⟨rfl, rfl⟩
    refine WT.inLoop (WT.mono (l' := [(0, pv0), (1, .int .i64 (IntKind.i64.wrap ((IntKind.i64.wrap ((IntKind.i64.wrap (s2 + 1)) + 1)) + 1))), (5, .int .i64 (IntKind.i64.wrap (s3 + 1)))]) (S' := St w0 Φ_4 [] [ob pv0]) ⟨rfl, rfl, rfl, trivial⟩ (fun w1 hw => (hw.sel (js := [0]) rfl).selO (js := []) rfl) ?_)
    exact ih1 (Φ_4, (s1.set s3.toNat (⟨s2, IntKind.i64.wrap (s2 + 1), x2⟩ : TVal)), IntKind.i64.wrap ((IntKind.i64.wrap ((IntKind.i64.wrap (s2 + 1)) + 1)) + 1), IntKind.i64.wrap (s3 + 1)) ⟨h, h5⟩
  replace h := ite_f h c1
  refine WT.exit rfl ?_
  refine WT.seq ?_
  refine WT.region ?_
  refine lq (q_move rfl) rfl ?_
  refine lq (q_assign rfl) rfl ?_
  refine WL.nil ?_
  refine WT.ret Try.func162 (resOk.one rfl) (fun w1 hw => ?_)
  subst hb0
  cases h
  refine postG_of_St (js := [0]) hw rfl ⟨rfl, rfl, k1⟩
theorem m_l_markIntS_ok {Φ : Hp} {w : World} (hΦ : In Φ w) (N : Nat) (p0 : (List Int)) (p1 : Int) {pv0 : Value} (ph0 : OSl (RI .i64) 3 1 Φ [] pv0 p0) (hB : [ob pv0].flatten.Nodup) (hlt : ∀ k ∈ [ob pv0].flatten, k < w.heap.size) {r : Int × (List Int)} (h : m_l_markIntS N p0 p1 = some r) :
    Calls Try.prog 163 [pv0, .int .i64 p1].toArray w (PostG Φ w [ob pv0].flatten (fun Φ' Fs v => v = .int .i64 r.1 ∧ Fs = [ob pv0] ∧ OSl (RI .i64) 3 1 Φ' [] pv0 r.2)) := by
  refine enter Try.func163 rfl Try.ntmps163 rfl (St.start hΦ [ob pv0] hB hlt) ?_
  generalize hb0 : (⟨w, [ob pv0].flatten, Φ⟩ : Base) = w0
  unfold m_l_markIntS at h
  refine WT.seq ?_
  refine WT.region ?_
  refine lq (q_assign rfl) rfl ?_
  refine WL.nil ?_
  refine WT.seq ?_
  refine WT.seq ?_
  refine WT.region ?_
  refine lq (q_assign rfl) rfl ?_
  refine WL.nil ?_
  refine WT.block ?_
  refine WT.loop ?_
  refine WT.mono (l' := [(0, pv0), (1, .int .i64 p1), (5, .int .i64 0)]) (S' := St w0 Φ [] [ob pv0]) ⟨rfl, rfl, rfl, trivial⟩ (fun w1 hw => (hw.sel (js := [0]) rfl).selO (js := []) rfl) ?_
  refine loop_ind (σ := Hp × (List Int) × Int × Int) (fun s => [(0, pv0), (1, .int .i64 s.2.2.1), (5, .int .i64 s.2.2.2)]) (fun s => St w0 s.1 [] [ob pv0]) (fun m s => m_l_markIntS_l1 N m s.2.1 s.2.2.1 s.2.2.2 = some r ∧ (OSl (RI .i64) 3 1 s.1 [] pv0 s.2.1)) (fun s hm => none_ne (show (none : Option (Int × (List Int))) = some r from hm.1)) (fun n1 ih1 s hm => ?_) N (Φ, p0, p1, 0) ⟨h, ph0⟩
  obtain ⟨Φ_1, s1, s2, s3⟩ := s
  obtain ⟨h, k1⟩ := hm
  replace h : m_l_markIntS_l1 N (n1 + 1) s1 s2 s3 = some r := h
  replace k1 : OSl (RI .i64) 3 1 Φ_1 [] pv0 s1 := k1
  show WT _ _ [(0, pv0), (1, .int .i64 s2), (5, .int .i64 s3)] (St w0 Φ_1 [] [ob pv0])
  unfold m_l_markIntS_l1 at h
  refine WT.seq ?_
  refine WT.seq ?_
  refine WT.region ?_
  refine lq (q_move rfl) rfl ?_
  refine lq (q_move rfl) rfl ?_
  refine lq (q_lenR Sl_78 rfl rfl k1.rsl) rfl ?_
  refine lq (q_lss rfl rfl) rfl ?_
  refine WL.nil ?_
  refine WT.cond rfl (fun c1 => ?_) (fun c1 => ?_)
  · replace h := ite_t h c1
    refine WT.skip ?_
    refine WT.seq ?_
    refine WT.block ?_
    refine WT.seq ?_
    refine WT.region ?_
    refine lq (q_move rfl) rfl ?_
    refine lq (q_move rfl) rfl ?_
    refine lq (q_move rfl) rfl ?_
    obtain ⟨x1, hx1, h⟩ := bind_some h
    obtain ⟨cs1, F1, -, g1, hb1, hs1, r1⟩ := k1.elS (idx_some hx1).2.2
    obtain ⟨rfl, -⟩ := r1
    refine lq (q_indexAddr Sl_78 rfl rfl k1.rsl hx1) rfl ?_
    refine lu (u_setF (js := [0]) (Rr := []) (vs := [.int .i64 s2]) (x' := s2) RI.lasts RI.flat Sz_3 rfl rfl rfl rfl ⟨rfl, trivial⟩ rfl k1 (idx_lt hx1) ⟨rfl, rfl⟩) rfl (fun Φ_2 D1 q1 => ?_)
    obtain ⟨⟨ap1, fr1⟩, h1⟩ := q1
    refine WL.nil ?_
    refine WT.region ?_
    refine lq (q_move rfl) rfl ?_
    refine lq (q_add rfl rfl) rfl ?_
    refine lq (q_assign rfl) rfl ?_
    refine WL.nil ?_
    refine WT.inBlock ?_
    refine WT.region ?_
    refine lq (q_move rfl) rfl ?_
    refine lq (q_add rfl rfl) rfl ?_
    refine lq (q_assign rfl) rfl ?_
    refine WL.nil ?_
    refine WT.inLoop (WT.mono (l' := [(0, pv0), (1, .int .i64 (IntKind.i64.wrap (s2 + 1))), (5, .int .i64 (IntKind.i64.wrap (s3 + 1)))]) (S' := St w0 Φ_2 [] [ob pv0]) ⟨rfl, rfl, rfl, trivial⟩ (fun w1 hw => (hw.sel (js := [0]) rfl).selO (js := []) rfl) ?_)
    exact ih1 (Φ_2, (s1.set s3.toNat s2), IntKind.i64.wrap (s2 + 1), IntKind.i64.wrap (s3 + 1)) ⟨h, h1⟩
  replace h := ite_f h c1
  refine WT.exit rfl ?_
  refine WT.seq ?_
  refine WT.region ?_
  refine lq (q_move rfl) rfl ?_
  refine lq (q_assign rfl) rfl ?_
  refine WL.nil ?_
  refine WT.ret Try.func163 (resOk.one rfl) (fun w1 hw => ?_)
  subst hb0
  cases h
  refine postG_of_St (js := [0]) hw rfl ⟨rfl, rfl, k1⟩
theorem m_l_markAlphaS_ok {Φ : Hp} {w : World} (hΦ : In Φ w) (N : Nat) (p0 : (List TAlpha)) (p1 : Int) {pv0 : Value} {pD0 : List Nat} (ph0 : OSl OTAlpha 114 4 Φ pD0 pv0 p0) (hB : [ob pv0, pD0].flatten.Nodup) (hlt : ∀ k ∈ [ob pv0, pD0].flatten, k < w.heap.size) {r : Int × (List TAlpha)} (h : m_l_markAlphaS N p0 p1 = some r) :
    Calls Try.prog 81 [pv0, .int .i64 p1].toArray w (PostG Φ w [ob pv0, pD0].flatten (fun Φ' Fs v => ∃ (Do_0_0 : List Nat), v = .int .i64 r.1 ∧ Fs = [ob pv0, Do_0_0] ∧ OSl OTAlpha 114 4 Φ' Do_0_0 pv0 r.2)) := by
  refine enter Try.func81 rfl Try.ntmps81 rfl (St.start hΦ [ob pv0, pD0] hB hlt) ?_
  generalize hb0 : (⟨w, [ob pv0, pD0].flatten, Φ⟩ : Base) = w0
  unfold m_l_markAlphaS at h
  refine WT.seq ?_
  refine WT.region ?_
  refine lq (q_assign rfl) rfl ?_
  refine WL.nil ?_
  refine WT.seq ?_
  refine WT.seq ?_
  refine WT.region ?_
  refine lq (q_assign rfl) rfl ?_
  refine WL.nil ?_
  refine WT.block ?_
  refine WT.loop ?_
  refine WT.mono (l' := [(0, pv0), (1, .int .i64 p1), (5, .int .i64 0)]) (S' := St w0 Φ [] [ob pv0, pD0]) ⟨rfl, rfl, rfl, trivial⟩ (fun w1 hw => (hw.sel (js := [0, 0]) rfl).selO (js := []) rfl) ?_
  refine loop_ind (σ := Hp × (List TAlpha) × List Nat × Int × Int) (fun s => [(0, pv0), (1, .int .i64 s.2.2.2.1), (5, .int .i64 s.2.2.2.2)]) (fun s => St w0 s.1 [] [ob pv0, s.2.2.1]) (fun m s => m_l_markAlphaS_l1 N m s.2.1 s.2.2.2.1 s.2.2.2.2 = some r ∧ (OSl OTAlpha 114 4 s.1 s.2.2.1 pv0 s.2.1)) (fun s hm => none_ne (show (none : Option (Int × (List TAlpha))) = some r from hm.1)) (fun n1 ih1 s hm => ?_) N (Φ, p0, pD0, p1, 0) ⟨h, ph0⟩
  obtain ⟨Φ_1, s1, D1, s2, s3⟩ := s
  obtain ⟨h, k1⟩ := hm
  replace h : m_l_markAlphaS_l1 N (n1 + 1) s1 s2 s3 = some r := h
  replace k1 : OSl OTAlpha 114 4 Φ_1 D1 pv0 s1 := k1
  show WT _ _ [(0, pv0), (1, .int .i64 s2), (5, .int .i64 s3)] (St w0 Φ_1 [] [ob pv0, D1])
  unfold m_l_markAlphaS_l1 at h
  refine WT.seq ?_
  refine WT.seq ?_
  refine WT.region ?_
  refine lq (q_move rfl) rfl ?_
  refine lq (q_move rfl) rfl ?_
  refine lq (q_lenR Sl_43 rfl rfl (k1.rslG OTAlpha.gives)) rfl ?_
  refine lq (q_lss rfl rfl) rfl ?_
  refine WL.nil ?_
  refine WT.cond rfl (fun c1 => ?_) (fun c1 => ?_)
  · replace h := ite_t h c1
    refine WT.skip ?_
    refine WT.seq ?_
    refine WT.block ?_
    refine WT.seq ?_
    refine WT.region ?_
    refine lq (q_move rfl) rfl ?_
    refine lq (q_move rfl) rfl ?_
    refine lq (q_move rfl) rfl ?_
    obtain ⟨x1, hx1, h⟩ := bind_some h
    refine lp (p_call Fun_104 rfl (fun w1 hw => m_l_markText_ok hw.fro N s2 hx1)) rfl ?_
    obtain ⟨x2, hx2, h⟩ := bind_some h
    obtain ⟨cs1, F1, D2, h1, r1, kf1, sp1⟩ := k1.focus hx2
    obtain ⟨v1, v2, rfl, rfl, h2, h3⟩ := r1
    refine WL.conv (S' := St w0 Φ_1 [] [ob v1, ob v2, D2, ob pv0]) (fun w1 hw => hw.re (js := [1]) (Bs := [ob v1, ob v2, D2]) rfl (by simpa [List.append_assoc] using sp1)) ?_
    refine lq (q_indexAddrH Sl_43 rfl rfl h1 hx2) rfl ?_
    refine lq (q_fieldAddr Fld_114_0 rfl) rfl ?_
    refine lu (u_setH (js := [3]) (Rr := [ob v1, ob v2, D2]) (o := 0) (vs := [.string x1]) (cs' := [.string x1, .int .i64 x2.N, v1, v2]) OTAlpha.lasts Sz_9 rfl rfl rfl rfl ⟨rfl, trivial⟩ rfl h1 rfl rfl (fun ap => (ap.r (i := 2) rfl))) rfl (fun Φ_2 D3 q1 => ?_)
    obtain ⟨⟨ap1, fr1⟩, h4⟩ := q1
    replace h2 := h2.frame RTVal.lasts fr1 (ap1.r (i := 0) rfl) (Dj.nil _)
    replace h3 := h3.frame RI.lasts fr1 (ap1.r (i := 1) rfl) (Dj.nil _)
    refine WL.nil ?_
    refine WT.seq ?_
    refine WT.region ?_
    refine lq (q_move rfl) rfl ?_
    refine lq (q_add rfl rfl) rfl ?_
    refine lq (q_assign rfl) rfl ?_
    refine WL.nil ?_
    refine WT.seq ?_
    refine WT.region ?_
    refine lq (q_move rfl) rfl ?_
    refine lq (q_move rfl) rfl ?_
    refine lq (q_move rfl) rfl ?_
    refine lq (q_indexAddrH Sl_43 rfl rfl h4 hx2) rfl ?_
    refine lq (q_fieldAddr Fld_114_1 rfl) rfl ?_
    refine lu (u_setH (js := [0]) (Rr := [ob v1, ob v2, D2]) (o := 1) (vs := [.int .i64 (IntKind.i64.wrap (s2 + 1))]) (cs' := [.string x1, .int .i64 (IntKind.i64.wrap (s2 + 1)), v1, v2]) OTAlpha.lasts Sz_3 rfl rfl rfl rfl ⟨rfl, trivial⟩ rfl h4 rfl rfl (fun ap => (ap.r (i := 2) rfl))) rfl (fun Φ_3 D4 q2 => ?_)
    obtain ⟨⟨ap2, fr2⟩, h5⟩ := q2
    replace h2 := h2.frame RTVal.lasts fr2 (ap2.r (i := 0) rfl) (Dj.nil _)
    replace h3 := h3.frame RI.lasts fr2 (ap2.r (i := 1) rfl) (Dj.nil _)
    refine WL.nil ?_
    refine WT.seq ?_
    refine WT.region ?_
    refine lq (q_move rfl) rfl ?_
    refine lq (q_add rfl rfl) rfl ?_
    refine lq (q_assign rfl) rfl ?_
    refine WL.nil ?_
    refine WT.seq ?_
    refine WT.region ?_
    refine lq (q_move rfl) rfl ?_
    refine lq (q_move rfl) rfl ?_
    refine lq (q_indexAddrH Sl_43 rfl rfl h5 hx2) rfl ?_
    refine lq (q_fieldAddr Fld_114_2 rfl) rfl ?_
    refine lq (q_load1 T1_112 rfl (fun w1 hw => (h5.rg.of_eq 2 1 rfl rfl : rg _ _ _ [v1]).rangeAt hw.fro)) rfl ?_
    refine lq (q_move rfl) rfl ?_
    obtain ⟨x3, hx3, h⟩ := bind_some h
    refine lc (k_call (js := [1]) (R := [ob pv0, ob v2, D2]) Fun_162 rfl rfl (fun w1 hw ap hl => m_l_markValS_ok hw.fro N x2.Consts (IntKind.i64.wrap ((IntKind.i64.wrap (s2 + 1)) + 1)) h2 ap.nd hl hx3)) rfl (fun v3 Φ_4 F2 q3 => ?_)
    obtain ⟨ap3, fr3, rfl, rfl, h6⟩ := q3
    replace h5 := h5.frame OTAlpha.lasts fr3 (ap3.r (i := 0) rfl) (ap3.r (i := 2) rfl)
    replace h3 := h3.frame RI.lasts fr3 (ap3.r (i := 1) rfl) (Dj.nil _)
    refine lq (q_assign rfl) rfl ?_
    refine WL.nil ?_
    refine WT.region ?_
    refine lq (q_move rfl) rfl ?_
    refine lq (q_move rfl) rfl ?_
    refine lq (q_indexAddrH Sl_43 rfl rfl h5 hx2) rfl ?_
    refine lq (q_fieldAddr Fld_114_3 rfl) rfl ?_
    refine lq (q_load1 T1_78 rfl (fun w1 hw => (h5.rg.of_eq 3 1 rfl rfl : rg _ _ _ [v2]).rangeAt hw.fro)) rfl ?_
    refine lq (q_move rfl) rfl ?_
    obtain ⟨x4, hx4, h⟩ := bind_some h
    refine lc (k_call (js := [2]) (R := [ob v1, ob pv0, D2]) Fun_163 rfl rfl (fun w1 hw ap hl => m_l_markIntS_ok hw.fro N x2.At x3.1 h3 ap.nd hl hx4)) rfl (fun v4 Φ_5 F3 q4 => ?_)
    obtain ⟨ap4, fr4, rfl, rfl, h7⟩ := q4
    replace h5 := h5.frame OTAlpha.lasts fr4 (ap4.r (i := 1) rfl) (ap4.r (i := 2) rfl)
    replace h6 := h6.frame RTVal.lasts fr4 (ap4.r (i := 0) rfl) (Dj.nil _)
    refine lq (q_assign rfl) rfl ?_
    refine WL.nil ?_
    refine WT.inBlock ?_
    refine WT.region ?_
    refine lq (q_move rfl) rfl ?_
    refine lq (q_add rfl rfl) rfl ?_
    refine lq (q_assign rfl) rfl ?_
    refine WL.nil ?_
    have r2 : OTAlpha Φ_5 _ [.string x1, .int .i64 (IntKind.i64.wrap (s2 + 1)), v1, v2] (⟨x1, IntKind.i64.wrap (s2 + 1), x3.2, x4.2⟩ : TAlpha) := ⟨v1, v2, rfl, rfl, h6, h7⟩
    obtain ⟨D5, h8, sp2⟩ := h5.unfocus r2 (OTAlpha.knows _ _ _ _ r2)
    refine WT.conv (S' := St w0 Φ_5 [] [D5, ob pv0]) (fun w1 hw => hw.merge (js := [1, 0, 1]) rfl (by simpa [List.append_assoc, ob_nil] using sp2)) ?_
    refine WT.inLoop (WT.mono (l' := [(0, pv0), (1, .int .i64 x4.1), (5, .int .i64 (IntKind.i64.wrap (s3 + 1)))]) (S' := St w0 Φ_5 [] [ob pv0, D5]) ⟨rfl, rfl, rfl, trivial⟩ (fun w1 hw => (hw.sel (js := [1, 0]) rfl).selO (js := []) rfl) ?_)
    exact ih1 (Φ_5, (s1.set s3.toNat (⟨x1, IntKind.i64.wrap (s2 + 1), x3.2, x4.2⟩ : TAlpha)), D5, x4.1, IntKind.i64.wrap (s3 + 1)) ⟨h, h8⟩
  replace h := ite_f h c1
  refine WT.exit rfl ?_
  refine WT.seq ?_
  refine WT.region ?_
  refine lq (q_move rfl) rfl ?_
  refine lq (q_assign rfl) rfl ?_
  refine WL.nil ?_
  refine WT.ret Try.func81 (resOk.one rfl) (fun w1 hw => ?_)
  subst hb0
  cases h
  refine postG_of_St (js := [0, 0]) hw rfl ⟨D1, rfl, rfl, k1⟩
theorem m_l_markChainS_ok {Φ : Hp} {w : World} (hΦ : In Φ w) (N : Nat) (p0 : (List TChain)) (p1 : Int) {pv0 : Value} {pD0 : List Nat} (ph0 : OSl OTChain 116 2 Φ pD0 pv0 p0) (hB : [ob pv0, pD0].flatten.Nodup) (hlt : ∀ k ∈ [ob pv0, pD0].flatten, k < w.heap.size) {r : Int × (List TChain)} (h : m_l_markChainS N p0 p1 = some r) :
    Calls Try.prog 82 [pv0, .int .i64 p1].toArray w (PostG Φ w [ob pv0, pD0].flatten (fun Φ' Fs v => ∃ (Do_0_0 : List Nat), v = .int .i64 r.1 ∧ Fs = [ob pv0, Do_0_0] ∧ OSl OTChain 116 2 Φ' Do_0_0 pv0 r.2)) := by
  refine enter Try.func82 rfl Try.ntmps82 rfl (St.start hΦ [ob pv0, pD0] hB hlt) ?_
  generalize hb0 : (⟨w, [ob pv0, pD0].flatten, Φ⟩ : Base) = w0
  unfold m_l_markChainS at h
  refine WT.seq ?_
  refine WT.region ?_
  refine lq (q_assign rfl) rfl ?_
  refine WL.nil ?_
  refine WT.seq ?_
  refine WT.seq ?_
  refine WT.region ?_
  refine lq (q_assign rfl) rfl ?_
  refine WL.nil ?_
  refine WT.block ?_
  refine WT.loop ?_
  refine WT.mono (l' := [(0, pv0), (1, .int .i64 p1), (5, .int .i64 0)]) (S' := St w0 Φ [] [ob pv0, pD0]) ⟨rfl, rfl, rfl, trivial⟩ (fun w1 hw => (hw.sel (js := [0, 0]) rfl).selO (js := []) rfl) ?_
  refine loop_ind (σ := Hp × (List TChain) × List Nat × Int × Int) (fun s => [(0, pv0), (1, .int .i64 s.2.2.2.1), (5, .int .i64 s.2.2.2.2)]) (fun s => St w0 s.1 [] [ob pv0, s.2.2.1]) (fun m s => m_l_markChainS_l1 N m s.2.1 s.2.2.2.1 s.2.2.2.2 = some r ∧ (OSl OTChain 116 2 s.1 s.2.2.1 pv0 s.2.1)) (fun s hm => none_ne (show (none : Option (Int × (List TChain))) = some r from hm.1)) (fun n1 ih1 s hm => ?_) N (Φ, p0, pD0, p1, 0) ⟨h, ph0⟩
  obtain ⟨Φ_1, s1, D1, s2, s3⟩ := s
  obtain ⟨h, k1⟩ := hm
  replace h : m_l_markChainS_l1 N (n1 + 1) s1 s2 s3 = some r := h
  replace k1 : OSl OTChain 116 2 Φ_1 D1 pv0 s1 := k1
  show WT _ _ [(0, pv0), (1, .int .i64 s2), (5, .int .i64 s3)] (St w0 Φ_1 [] [ob pv0, D1])
  unfold m_l_markChainS_l1 at h
  refine WT.seq ?_
  refine WT.seq ?_
  refine WT.region ?_
  refine lq (q_move rfl) rfl ?_
  refine lq (q_move rfl) rfl ?_
  refine lq (q_lenR Sl_44 rfl rfl (k1.rslG OTChain.gives)) rfl ?_
  refine lq (q_lss rfl rfl) rfl ?_
  refine WL.nil ?_
  refine WT.cond rfl (fun c1 => ?_) (fun c1 => ?_)
  · replace h := ite_t h c1
    refine WT.skip ?_
    refine WT.seq ?_
    refine WT.block ?_
    refine WT.seq ?_
    refine WT.region ?_
    refine lq (q_move rfl) rfl ?_
    refine lq (q_move rfl) rfl ?_
    obtain ⟨x1, hx1, h⟩ := bind_some h
    obtain ⟨cs1, F1, D2, h1, r1, kf1, sp1⟩ := k1.focus hx1
    obtain ⟨v1, v2, rfl, rfl, h2, h3⟩ := r1
    refine WL.conv (S' := St w0 Φ_1 [] [ob v1, ob v2, D2, ob pv0]) (fun w1 hw => hw.re (js := [1]) (Bs := [ob v1, ob v2, D2]) rfl (by simpa [List.append_assoc] using sp1)) ?_
    refine lq (q_indexAddrH Sl_44 rfl rfl h1 hx1) rfl ?_
    refine lq (q_fieldAddr Fld_116_0 rfl) rfl ?_
    refine lq (q_load1 T1_78 rfl (fun w1 hw => (h1.rg.of_eq 0 1 rfl rfl : rg _ _ _ [v1]).rangeAt hw.fro)) rfl ?_
    refine lq (q_move rfl) rfl ?_
    obtain ⟨x2, hx2, h⟩ := bind_some h
    refine lc (k_call (js := [0]) (R := [ob v2, D2, ob pv0]) Fun_163 rfl rfl (fun w1 hw ap hl => m_l_markIntS_ok hw.fro N x1.Pos s2 h2 ap.nd hl hx2)) rfl (fun v3 Φ_2 F2 q1 => ?_)
    obtain ⟨ap1, fr1, rfl, rfl, h4⟩ := q1
    replace h1 := h1.frame OTChain.lasts fr1 (ap1.r (i := 2) rfl) (ap1.r (i := 1) rfl)
    replace h3 := h3.frame RI.lasts fr1 (ap1.r (i := 0) rfl) (Dj.nil _)
    refine lq (q_assign rfl) rfl ?_
    refine WL.nil ?_
    refine WT.region ?_
    refine lq (q_move rfl) rfl ?_
    refine lq (q_move rfl) rfl ?_
    refine lq (q_indexAddrH Sl_44 rfl rfl h1 hx1) rfl ?_
    refine lq (q_fieldAddr Fld_116_1 rfl) rfl ?_
    refine lq (q_load1 T1_78 rfl (fun w1 hw => (h1.rg.of_eq 1 1 rfl rfl : rg _ _ _ [v2]).rangeAt hw.fro)) rfl ?_
    refine lq (q_move rfl) rfl ?_
    obtain ⟨x3, hx3, h⟩ := bind_some h
    refine lc (k_call (js := [1]) (R := [ob v1, D2, ob pv0]) Fun_163 rfl rfl (fun w1 hw ap hl => m_l_markIntS_ok hw.fro N x1.Neg x2.1 h3 ap.nd hl hx3)) rfl (fun v4 Φ_3 F3 q2 => ?_)
    obtain ⟨ap2, fr2, rfl, rfl, h5⟩ := q2
    replace h1 := h1.frame OTChain.lasts fr2 (ap2.r (i := 2) rfl) (ap2.r (i := 1) rfl)
    replace h4 := h4.frame RI.lasts fr2 (ap2.r (i := 0) rfl) (Dj.nil _)
    refine lq (q_assign rfl) rfl ?_
    refine WL.nil ?_
    refine WT.inBlock ?_
    refine WT.region ?_
    refine lq (q_move rfl) rfl ?_
    refine lq (q_add rfl rfl) rfl ?_
    refine lq (q_assign rfl) rfl ?_
    refine WL.nil ?_
    have r2 : OTChain Φ_3 _ [v1, v2] (⟨x2.2, x3.2⟩ : TChain) := ⟨v1, v2, rfl, rfl, h4, h5⟩
    obtain ⟨D3, h6, sp2⟩ := h1.unfocus r2 (OTChain.knows _ _ _ _ r2)
    refine WT.conv (S' := St w0 Φ_3 [] [D3, ob pv0]) (fun w1 hw => hw.merge (js := [1, 0, 0]) rfl (by simpa [List.append_assoc, ob_nil] using sp2)) ?_
    refine WT.inLoop (WT.mono (l' := [(0, pv0), (1, .int .i64 x3.1), (5, .int .i64 (IntKind.i64.wrap (s3 + 1)))]) (S' := St w0 Φ_3 [] [ob pv0, D3]) ⟨rfl, rfl, rfl, trivial⟩ (fun w1 hw => (hw.sel (js := [1, 0]) rfl).selO (js := []) rfl) ?_)
    exact ih1 (Φ_3, (s1.set s3.toNat (⟨x2.2, x3.2⟩ : TChain)), D3, x3.1, IntKind.i64.wrap (s3 + 1)) ⟨h, h6⟩
  replace h := ite_f h c1
  refine WT.exit rfl ?_
  refine WT.seq ?_
  refine WT.region ?_
  refine lq (q_move rfl) rfl ?_
  refine lq (q_assign rfl) rfl ?_
  refine WL.nil ?_
  refine WT.ret Try.func82 (resOk.one rfl) (fun w1 hw => ?_)
  subst hb0
  cases h
  refine postG_of_St (js := [0, 0]) hw rfl ⟨D1, rfl, rfl, k1⟩
theorem m_l_markNet_ok {Φ : Hp} {w : World} (hΦ : In Φ w) (N : Nat) (p0 : TNet) (p1 : Int) {pv0_0 : Value} {pD0_0 : List Nat} {pv0_1 : Value} {pD0_1 : List Nat} (ph0_0 : OSl OTAlpha 114 4 Φ pD0_0 pv0_0 p0.Alphas) (ph0_1 : OSl OTChain 116 2 Φ pD0_1 pv0_1 p0.Chains) (hB : [ob pv0_0, pD0_0, ob pv0_1, pD0_1].flatten.Nodup) (hlt : ∀ k ∈ [ob pv0_0, pD0_0, ob pv0_1, pD0_1].flatten, k < w.heap.size) {r : Int × (List TAlpha) × (List TChain)} (h : m_l_markNet N p0 p1 = some r) :
    Calls Try.prog 24 [.agg [pv0_0, pv0_1].toArray, .int .i64 p1].toArray w (PostG Φ w [ob pv0_0, pD0_0, ob pv0_1, pD0_1].flatten (fun Φ' Fs v => ∃ (Do_0_0 : List Nat) (Do_1_0 : List Nat), v = .int .i64 r.1 ∧ Fs = [ob pv0_0, Do_0_0, ob pv0_1, Do_1_0] ∧ OSl OTAlpha 114 4 Φ' Do_0_0 pv0_0 r.2.1 ∧ OSl OTChain 116 2 Φ' Do_1_0 pv0_1 r.2.2)) := by
  refine enter Try.func24 rfl Try.ntmps24 rfl (St.start hΦ [ob pv0_0, pD0_0, ob pv0_1, pD0_1] hB hlt) ?_
  unfold m_l_markNet at h
  refine WT.seq ?_
  refine WT.region ?_
  refine ln (n_box (C := #[pv0_0, pv0_1]) rfl rfl) rfl (fun b_1 => ?_)
  refine lq (q_assign rfl) rfl ?_
  refine WL.nil ?_
  refine WT.seq ?_
  refine WT.region ?_
  refine lq (q_fieldAddr Fld_46_0 rfl) rfl ?_
  refine lq (q_load1 T1_43 rfl (fun w1 hw => hw.rgO (i := 0) rfl 0 1 [pv0_0] rfl)) rfl ?_
  refine lq (q_move rfl) rfl ?_
  obtain ⟨x1, hx1, h⟩ := bind_some h
  refine lc (k_call (js := [0, 0]) (R := [ob pv0_1, pD0_1]) Fun_81 rfl rfl (fun w1 hw ap hl => m_l_markAlphaS_ok hw.fro N p0.Alphas p1 ph0_0 ap.nd hl hx1)) rfl (fun v1 Φ_1 F1 q1 => ?_)
  obtain ⟨ap1, fr1, D1, rfl, rfl, h1⟩ := q1
  replace ph0_1 := ph0_1.frame OTChain.lasts fr1 (ap1.r (i := 0) rfl) (ap1.r (i := 1) rfl)
  refine lq (q_assign rfl) rfl ?_
  refine WL.nil ?_
  refine WT.seq ?_
  refine WT.region ?_
  refine lq (q_fieldAddr Fld_46_1 rfl) rfl ?_
  refine lq (q_load1 T1_44 rfl (fun w1 hw => hw.rgO (i := 0) rfl 1 1 [pv0_1] rfl)) rfl ?_
  refine lq (q_move rfl) rfl ?_
  obtain ⟨x2, hx2, h⟩ := bind_some h
  refine lc (k_call (js := [2, 2]) (R := [ob pv0_0, D1]) Fun_82 rfl rfl (fun w1 hw ap hl => m_l_markChainS_ok hw.fro N p0.Chains x1.1 ph0_1 ap.nd hl hx2)) rfl (fun v2 Φ_2 F2 q2 => ?_)
  obtain ⟨ap2, fr2, D2, rfl, rfl, h2⟩ := q2
  replace h1 := h1.frame OTAlpha.lasts fr2 (ap2.r (i := 0) rfl) (ap2.r (i := 1) rfl)
  refine lq (q_assign rfl) rfl ?_
  refine WL.nil ?_
  refine WT.seq ?_
  refine WT.region ?_
  refine lq (q_move rfl) rfl ?_
  refine lq (q_assign rfl) rfl ?_
  refine WL.nil ?_
  refine WT.ret Try.func24 (resOk.one rfl) (fun w1 hw => ?_)
  cases h
  refine postG_of_St (js := [2, 2, 0, 0]) hw rfl ⟨D1, D2, rfl, rfl, h1, h2⟩
theorem m_l_markIdsS_ok {Φ : Hp} {w : World} (hΦ : In Φ w) (N : Nat) (p0 : (List TIds)) (p1 : Int) {pv0 : Value} {pD0 : List Nat} (ph0 : OSl OTIds 130 1 Φ pD0 pv0 p0) (hB : [ob pv0, pD0].flatten.Nodup) (hlt : ∀ k ∈ [ob pv0, pD0].flatten, k < w.heap.size) {r : Int × (List TIds)} (h : m_l_markIdsS N p0 p1 = some r) :
    Calls Try.prog 83 [pv0, .int .i64 p1].toArray w (PostG Φ w [ob pv0, pD0].flatten (fun Φ' Fs v => ∃ (Do_0_0 : List Nat), v = .int .i64 r.1 ∧ Fs = [ob pv0, Do_0_0] ∧ OSl OTIds 130 1 Φ' Do_0_0 pv0 r.2)) := by
  refine enter Try.func83 rfl Try.ntmps83 rfl (St.start hΦ [ob pv0, pD0] hB hlt) ?_
  generalize hb0 : (⟨w, [ob pv0, pD0].flatten, Φ⟩ : Base) = w0
  unfold m_l_markIdsS at h
  refine WT.seq ?_
  refine WT.region ?_
  refine lq (q_assign rfl) rfl ?_
  refine WL.nil ?_
  refine WT.seq ?_
  refine WT.seq ?_
  refine WT.region ?_
  refine lq (q_assign rfl) rfl ?_
  refine WL.nil ?_
  refine WT.block ?_
  refine WT.loop ?_
  refine WT.mono (l' := [(0, pv0), (1, .int .i64 p1), (5, .int .i64 0)]) (S' := St w0 Φ [] [ob pv0, pD0]) ⟨rfl, rfl, rfl, trivial⟩ (fun w1 hw => (hw.sel (js := [0, 0]) rfl).selO (js := []) rfl) ?_
  refine loop_ind (σ := Hp × (List TIds) × List Nat × Int × Int) (fun s => [(0, pv0), (1, .int .i64 s.2.2.2.1), (5, .int .i64 s.2.2.2.2)]) (fun s => St w0 s.1 [] [ob pv0, s.2.2.1]) (fun m s => m_l_markIdsS_l1 N m s.2.1 s.2.2.2.1 s.2.2.2.2 = some r ∧ (OSl OTIds 130 1 s.1 s.2.2.1 pv0 s.2.1)) (fun s hm => none_ne (show (none : Option (Int × (List TIds))) = some r from hm.1)) (fun n1 ih1 s hm => ?_) N (Φ, p0, pD0, p1, 0) ⟨h, ph0⟩
  obtain ⟨Φ_1, s1, D1, s2, s3⟩ := s
  obtain ⟨h, k1⟩ := hm
  replace h : m_l_markIdsS_l1 N (n1 + 1) s1 s2 s3 = some r := h
  replace k1 : OSl OTIds 130 1 Φ_1 D1 pv0 s1 := k1
  show WT _ _ [(0, pv0), (1, .int .i64 s2), (5, .int .i64 s3)] (St w0 Φ_1 [] [ob pv0, D1])
  unfold m_l_markIdsS_l1 at h
  refine WT.seq ?_
  refine WT.seq ?_
  refine WT.region ?_
  refine lq (q_move rfl) rfl ?_
  refine lq (q_move rfl) rfl ?_
  refine lq (q_lenR Sl_38 rfl rfl (k1.rslG OTIds.gives)) rfl ?_
  refine lq (q_lss rfl rfl) rfl ?_
  refine WL.nil ?_
  refine WT.cond rfl (fun c1 => ?_) (fun c1 => ?_)
  · replace h := ite_t h c1
    refine WT.skip ?_
    refine WT.seq ?_
    refine WT.block ?_
    refine WT.region ?_
    refine lq (q_move rfl) rfl ?_
    refine lq (q_move rfl) rfl ?_
    obtain ⟨x1, hx1, h⟩ := bind_some h
    obtain ⟨cs1, F1, D2, h1, r1, kf1, sp1⟩ := k1.focus hx1
    obtain ⟨v1, rfl, rfl, h2⟩ := r1
    refine WL.conv (S' := St w0 Φ_1 [] [ob v1, D2, ob pv0]) (fun w1 hw => hw.re (js := [1]) (Bs := [ob v1, D2]) rfl (by simpa [List.append_assoc] using sp1)) ?_
    refine lq (q_indexAddrH Sl_38 rfl rfl h1 hx1) rfl ?_
    refine lq (q_fieldAddr Fld_130_0 rfl) rfl ?_
    refine lq (q_load1 T1_78 rfl (fun w1 hw => (h1.rg.of_eq 0 1 rfl rfl : rg _ _ _ [v1]).rangeAt hw.fro)) rfl ?_
    refine lq (q_move rfl) rfl ?_
    obtain ⟨x2, hx2, h⟩ := bind_some h
    refine lc (k_call (js := [0]) (R := [D2, ob pv0]) Fun_163 rfl rfl (fun w1 hw ap hl => m_l_markIntS_ok hw.fro N x1.L s2 h2 ap.nd hl hx2)) rfl (fun v2 Φ_2 F2 q1 => ?_)
    obtain ⟨ap1, fr1, rfl, rfl, h3⟩ := q1
    replace h1 := h1.frame OTIds.lasts fr1 (ap1.r (i := 1) rfl) (ap1.r (i := 0) rfl)
    refine lq (q_assign rfl) rfl ?_
    refine WL.nil ?_
    refine WT.inBlock ?_
    refine WT.region ?_
    refine lq (q_move rfl) rfl ?_
    refine lq (q_add rfl rfl) rfl ?_
    refine lq (q_assign rfl) rfl ?_
    refine WL.nil ?_
    have r2 : OTIds Φ_2 _ [v1] (⟨x2.2⟩ : TIds) := ⟨v1, rfl, rfl, h3⟩
    obtain ⟨D3, h4, sp2⟩ := h1.unfocus r2 (OTIds.knows _ _ _ _ r2)
    refine WT.conv (S' := St w0 Φ_2 [] [D3, ob pv0]) (fun w1 hw => hw.merge (js := [0, 0]) rfl (by simpa [List.append_assoc, ob_nil] using sp2)) ?_
    refine WT.inLoop (WT.mono (l' := [(0, pv0), (1, .int .i64 x2.1), (5, .int .i64 (IntKind.i64.wrap (s3 + 1)))]) (S' := St w0 Φ_2 [] [ob pv0, D3]) ⟨rfl, rfl, rfl, trivial⟩ (fun w1 hw => (hw.sel (js := [1, 0]) rfl).selO (js := []) rfl) ?_)
    exact ih1 (Φ_2, (s1.set s3.toNat (⟨x2.2⟩ : TIds)), D3, x2.1, IntKind.i64.wrap (s3 + 1)) ⟨h, h4⟩
  replace h := ite_f h c1
  refine WT.exit rfl ?_
  refine WT.seq ?_
  refine WT.region ?_
  refine lq (q_move rfl) rfl ?_
  refine lq (q_assign rfl) rfl ?_
  refine WL.nil ?_
  refine WT.ret Try.func83 (resOk.one rfl) (fun w1 hw => ?_)
  subst hb0
  cases h
  refine postG_of_St (js := [0, 0]) hw rfl ⟨D1, rfl, rfl, k1⟩
theorem m_l_markTokS_ok {Φ : Hp} {w : World} (hΦ : In Φ w) (N : Nat) (p0 : (List TTok)) (p1 : Int) {pv0 : Value} {pD0 : List Nat} (ph0 : OSl OTTok 326 2 Φ pD0 pv0 p0) (hB : [ob pv0, pD0].flatten.Nodup) (hlt : ∀ k ∈ [ob pv0, pD0].flatten, k < w.heap.size) {r : Int × (List TTok)} (h : m_l_markTokS N p0 p1 = some r) :
    Calls Try.prog 225 [pv0, .int .i64 p1].toArray w (PostG Φ w [ob pv0, pD0].flatten (fun Φ' Fs v => ∃ (Do_0_0 : List Nat), v = .int .i64 r.1 ∧ Fs = [ob pv0, Do_0_0] ∧ OSl OTTok 326 2 Φ' Do_0_0 pv0 r.2)) := by
  refine enter Try.func225 rfl Try.ntmps225 rfl (St.start hΦ [ob pv0, pD0] hB hlt) ?_
  generalize hb0 : (⟨w, [ob pv0, pD0].flatten, Φ⟩ : Base) = w0
  unfold m_l_markTokS at h
  refine WT.seq ?_
  refine WT.region ?_
  refine lq (q_assign rfl) rfl ?_
  refine WL.nil ?_
  refine WT.seq ?_
  refine WT.seq ?_
  refine WT.region ?_
  refine lq (q_assign rfl) rfl ?_
  refine WL.nil ?_
  refine WT.block ?_
  refine WT.loop ?_
  refine WT.mono (l' := [(0, pv0), (1, .int .i64 p1), (5, .int .i64 0)]) (S' := St w0 Φ [] [ob pv0, pD0]) ⟨rfl, rfl, rfl, trivial⟩ (fun w1 hw => (hw.sel (js := [0, 0]) rfl).selO (js := []) rfl) ?_
  refine loop_ind (σ := Hp × (List TTok) × List Nat × Int × Int) (fun s => [(0, pv0), (1, .int .i64 s.2.2.2.1), (5, .int .i64 s.2.2.2.2)]) (fun s => St w0 s.1 [] [ob pv0, s.2.2.1]) (fun m s => m_l_markTokS_l1 N m s.2.1 s.2.2.2.1 s.2.2.2.2 = some r ∧ (OSl OTTok 326 2 s.1 s.2.2.1 pv0 s.2.1)) (fun s hm => none_ne (show (none : Option (Int × (List TTok))) = some r from hm.1)) (fun n1 ih1 s hm => ?_) N (Φ, p0, pD0, p1, 0) ⟨h, ph0⟩
  obtain ⟨Φ_1, s1, D1, s2, s3⟩ := s
  obtain ⟨h, k1⟩ := hm
  replace h : m_l_markTokS_l1 N (n1 + 1) s1 s2 s3 = some r := h
  replace k1 : OSl OTTok 326 2 Φ_1 D1 pv0 s1 := k1
  show WT _ _ [(0, pv0), (1, .int .i64 s2), (5, .int .i64 s3)] (St w0 Φ_1 [] [ob pv0, D1])
  unfold m_l_markTokS_l1 at h
  refine WT.seq ?_
  refine WT.seq ?_
  refine WT.region ?_
  refine lq (q_move rfl) rfl ?_
  refine lq (q_move rfl) rfl ?_
  refine lq (q_lenR Sl_134 rfl rfl (k1.rslG OTTok.gives)) rfl ?_
  refine lq (q_lss rfl rfl) rfl ?_
  refine WL.nil ?_
  refine WT.cond rfl (fun c1 => ?_) (fun c1 => ?_)
  · replace h := ite_t h c1
    refine WT.skip ?_
    refine WT.seq ?_
    refine WT.block ?_
    refine WT.seq ?_
    refine WT.region ?_
    refine lq (q_move rfl) rfl ?_
    refine lq (q_move rfl) rfl ?_
    obtain ⟨x1, hx1, h⟩ := bind_some h
    obtain ⟨cs1, F1, D2, h1, r1, kf1, sp1⟩ := k1.focus hx1
    obtain ⟨v1, v2, rfl, rfl, h2, h3⟩ := r1
    refine WL.conv (S' := St w0 Φ_1 [] [ob v1, ob v2, D2, ob pv0]) (fun w1 hw => hw.re (js := [1]) (Bs := [ob v1, ob v2, D2]) rfl (by simpa [List.append_assoc] using sp1)) ?_
    refine lq (q_indexAddrH Sl_134 rfl rfl h1 hx1) rfl ?_
    refine lq (q_fieldAddr Fld_326_0 rfl) rfl ?_
    refine lq (q_load1 T1_78 rfl (fun w1 hw => (h1.rg.of_eq 0 1 rfl rfl : rg _ _ _ [v1]).rangeAt hw.fro)) rfl ?_
    refine lq (q_move rfl) rfl ?_
    obtain ⟨x2, hx2, h⟩ := bind_some h
    refine lc (k_call (js := [0]) (R := [ob v2, D2, ob pv0]) Fun_163 rfl rfl (fun w1 hw ap hl => m_l_markIntS_ok hw.fro N x1.Ids s2 h2 ap.nd hl hx2)) rfl (fun v3 Φ_2 F2 q1 => ?_)
    obtain ⟨ap1, fr1, rfl, rfl, h4⟩ := q1
    replace h1 := h1.frame OTTok.lasts fr1 (ap1.r (i := 2) rfl) (ap1.r (i := 1) rfl)
    replace h3 := h3.frame RI.lasts fr1 (ap1.r (i := 0) rfl) (Dj.nil _)
    refine lq (q_assign rfl) rfl ?_
    refine WL.nil ?_
    refine WT.region ?_
    refine lq (q_move rfl) rfl ?_
    refine lq (q_move rfl) rfl ?_
    refine lq (q_indexAddrH Sl_134 rfl rfl h1 hx1) rfl ?_
    refine lq (q_fieldAddr Fld_326_1 rfl) rfl ?_
    refine lq (q_load1 T1_78 rfl (fun w1 hw => (h1.rg.of_eq 1 1 rfl rfl : rg _ _ _ [v2]).rangeAt hw.fro)) rfl ?_
    refine lq (q_move rfl) rfl ?_
    obtain ⟨x3, hx3, h⟩ := bind_some h
    refine lc (k_call (js := [1]) (R := [ob v1, D2, ob pv0]) Fun_163 rfl rfl (fun w1 hw ap hl => m_l_markIntS_ok hw.fro N x1.Hits x2.1 h3 ap.nd hl hx3)) rfl (fun v4 Φ_3 F3 q2 => ?_)
    obtain ⟨ap2, fr2, rfl, rfl, h5⟩ := q2
    replace h1 := h1.frame OTTok.lasts fr2 (ap2.r (i := 2) rfl) (ap2.r (i := 1) rfl)
    replace h4 := h4.frame RI.lasts fr2 (ap2.r (i := 0) rfl) (Dj.nil _)
    refine lq (q_assign rfl) rfl ?_
    refine WL.nil ?_
    refine WT.inBlock ?_
    refine WT.region ?_
    refine lq (q_move rfl) rfl ?_
    refine lq (q_add rfl rfl) rfl ?_
    refine lq (q_assign rfl) rfl ?_
    refine WL.nil ?_
    have r2 : OTTok Φ_3 _ [v1, v2] (⟨x2.2, x3.2⟩ : TTok) := ⟨v1, v2, rfl, rfl, h4, h5⟩
    obtain ⟨D3, h6, sp2⟩ := h1.unfocus r2 (OTTok.knows _ _ _ _ r2)
    refine WT.conv (S' := St w0 Φ_3 [] [D3, ob pv0]) (fun w1 hw => hw.merge (js := [1, 0, 0]) rfl (by simpa [List.append_assoc, ob_nil] using sp2)) ?_
    refine WT.inLoop (WT.mono (l' := [(0, pv0), (1, .int .i64 x3.1), (5, .int .i64 (IntKind.i64.wrap (s3 + 1)))]) (S' := St w0 Φ_3 [] [ob pv0, D3]) ⟨rfl, rfl, rfl, trivial⟩ (fun w1 hw => (hw.sel (js := [1, 0]) rfl).selO (js := []) rfl) ?_)
    exact ih1 (Φ_3, (s1.set s3.toNat (⟨x2.2, x3.2⟩ : TTok)), D3, x3.1, IntKind.i64.wrap (s3 + 1)) ⟨h, h6⟩
  replace h := ite_f h c1
  refine WT.exit rfl ?_
  refine WT.seq ?_
  refine WT.region ?_
  refine lq (q_move rfl) rfl ?_
  refine lq (q_assign rfl) rfl ?_
  refine WL.nil ?_
  refine WT.ret Try.func225 (resOk.one rfl) (fun w1 hw => ?_)
  subst hb0
  cases h
  refine postG_of_St (js := [0, 0]) hw rfl ⟨D1, rfl, rfl, k1⟩
theorem m_l_markLevelS_ok {Φ : Hp} {w : World} (hΦ : In Φ w) (N : Nat) (p0 : (List TLevel)) (p1 : Int) {pv0 : Value} {pD0 : List Nat} (ph0 : OSl OTLevel 136 1 Φ pD0 pv0 p0) (hB : [ob pv0, pD0].flatten.Nodup) (hlt : ∀ k ∈ [ob pv0, pD0].flatten, k < w.heap.size) {r : Int × (List TLevel)} (h : m_l_markLevelS N p0 p1 = some r) :
    Calls Try.prog 164 [pv0, .int .i64 p1].toArray w (PostG Φ w [ob pv0, pD0].flatten (fun Φ' Fs v => ∃ (Do_0_0 : List Nat), v = .int .i64 r.1 ∧ Fs = [ob pv0, Do_0_0] ∧ OSl OTLevel 136 1 Φ' Do_0_0 pv0 r.2)) := by
  refine enter Try.func164 rfl Try.ntmps164 rfl (St.start hΦ [ob pv0, pD0] hB hlt) ?_
  generalize hb0 : (⟨w, [ob pv0, pD0].flatten, Φ⟩ : Base) = w0
  unfold m_l_markLevelS at h
  refine WT.seq ?_
  refine WT.region ?_
  refine lq (q_assign rfl) rfl ?_
  refine WL.nil ?_
  refine WT.seq ?_
  refine WT.seq ?_
  refine WT.region ?_
  refine lq (q_assign rfl) rfl ?_
  refine WL.nil ?_
  refine WT.block ?_
  refine WT.loop ?_
  refine WT.mono (l' := [(0, pv0), (1, .int .i64 p1), (5, .int .i64 0)]) (S' := St w0 Φ [] [ob pv0, pD0]) ⟨rfl, rfl, rfl, trivial⟩ (fun w1 hw => (hw.sel (js := [0, 0]) rfl).selO (js := []) rfl) ?_
  refine loop_ind (σ := Hp × (List TLevel) × List Nat × Int × Int) (fun s => [(0, pv0), (1, .int .i64 s.2.2.2.1), (5, .int .i64 s.2.2.2.2)]) (fun s => St w0 s.1 [] [ob pv0, s.2.2.1]) (fun m s => m_l_markLevelS_l1 N m s.2.1 s.2.2.2.1 s.2.2.2.2 = some r ∧ (OSl OTLevel 136 1 s.1 s.2.2.1 pv0 s.2.1)) (fun s hm => none_ne (show (none : Option (Int × (List TLevel))) = some r from hm.1)) (fun n1 ih1 s hm => ?_) N (Φ, p0, pD0, p1, 0) ⟨h, ph0⟩
  obtain ⟨Φ_1, s1, D1, s2, s3⟩ := s
  obtain ⟨h, k1⟩ := hm
  replace h : m_l_markLevelS_l1 N (n1 + 1) s1 s2 s3 = some r := h
  replace k1 : OSl OTLevel 136 1 Φ_1 D1 pv0 s1 := k1
  show WT _ _ [(0, pv0), (1, .int .i64 s2), (5, .int .i64 s3)] (St w0 Φ_1 [] [ob pv0, D1])
  unfold m_l_markLevelS_l1 at h
  refine WT.seq ?_
  refine WT.seq ?_
  refine WT.region ?_
  refine lq (q_move rfl) rfl ?_
  refine lq (q_move rfl) rfl ?_
  refine lq (q_lenR Sl_131 rfl rfl (k1.rslG OTLevel.gives)) rfl ?_
  refine lq (q_lss rfl rfl) rfl ?_
  refine WL.nil ?_
  refine WT.cond rfl (fun c1 => ?_) (fun c1 => ?_)
  · replace h := ite_t h c1
    refine WT.skip ?_
    refine WT.seq ?_
    refine WT.block ?_
    refine WT.region ?_
    refine lq (q_move rfl) rfl ?_
    refine lq (q_move rfl) rfl ?_
    obtain ⟨x1, hx1, h⟩ := bind_some h
    obtain ⟨cs1, F1, D2, h1, r1, kf1, sp1⟩ := k1.focus hx1
    obtain ⟨v1, D3, rfl, rfl, h2⟩ := r1
    refine WL.conv (S' := St w0 Φ_1 [] [ob v1, D3, D2, ob pv0]) (fun w1 hw => hw.re (js := [1]) (Bs := [ob v1, D3, D2]) rfl (by simpa [List.append_assoc] using sp1)) ?_
    refine lq (q_indexAddrH Sl_131 rfl rfl h1 hx1) rfl ?_
    refine lq (q_fieldAddr Fld_136_0 rfl) rfl ?_
    refine lq (q_load1 T1_134 rfl (fun w1 hw => (h1.rg.of_eq 0 1 rfl rfl : rg _ _ _ [v1]).rangeAt hw.fro)) rfl ?_
    refine lq (q_move rfl) rfl ?_
    obtain ⟨x2, hx2, h⟩ := bind_some h
    refine lc (k_call (js := [0, 0]) (R := [D2, ob pv0]) Fun_225 rfl rfl (fun w1 hw ap hl => m_l_markTokS_ok hw.fro N x1.Toks s2 h2 ap.nd hl hx2)) rfl (fun v2 Φ_2 F2 q1 => ?_)
    obtain ⟨ap1, fr1, D4, rfl, rfl, h3⟩ := q1
    replace h1 := h1.frame OTLevel.lasts fr1 (ap1.r (i := 1) rfl) (ap1.r (i := 0) rfl)
    refine lq (q_assign rfl) rfl ?_
    refine WL.nil ?_
    refine WT.inBlock ?_
    refine WT.region ?_
    refine lq (q_move rfl) rfl ?_
    refine lq (q_add rfl rfl) rfl ?_
    refine lq (q_assign rfl) rfl ?_
    refine WL.nil ?_
    have r2 : OTLevel Φ_2 _ [v1] (⟨x2.2⟩ : TLevel) := ⟨v1, D4, rfl, rfl, h3⟩
    obtain ⟨D5, h4, sp2⟩ := h1.unfocus r2 (OTLevel.knows _ _ _ _ r2)
    refine WT.conv (S' := St w0 Φ_2 [] [D5, ob pv0]) (fun w1 hw => hw.merge (js := [0, 0, 0]) rfl (by simpa [List.append_assoc, ob_nil] using sp2)) ?_
    refine WT.inLoop (WT.mono (l' := [(0, pv0), (1, .int .i64 x2.1), (5, .int .i64 (IntKind.i64.wrap (s3 + 1)))]) (S' := St w0 Φ_2 [] [ob pv0, D5]) ⟨rfl, rfl, rfl, trivial⟩ (fun w1 hw => (hw.sel (js := [1, 0]) rfl).selO (js := []) rfl) ?_)
    exact ih1 (Φ_2, (s1.set s3.toNat (⟨x2.2⟩ : TLevel)), D5, x2.1, IntKind.i64.wrap (s3 + 1)) ⟨h, h4⟩
  replace h := ite_f h c1
  refine WT.exit rfl ?_
  refine WT.seq ?_
  refine WT.region ?_
  refine lq (q_move rfl) rfl ?_
  refine lq (q_assign rfl) rfl ?_
  refine WL.nil ?_
  refine WT.ret Try.func164 (resOk.one rfl) (fun w1 hw => ?_)
  subst hb0
  cases h
  refine postG_of_St (js := [0, 0]) hw rfl ⟨D1, rfl, rfl, k1⟩
theorem m_l_markRowS_ok {Φ : Hp} {w : World} (hΦ : In Φ w) (N : Nat) (p0 : (List TRow)) (p1 : Int) {pv0 : Value} {pD0 : List Nat} (ph0 : OSl OTRow 133 1 Φ pD0 pv0 p0) (hB : [ob pv0, pD0].flatten.Nodup) (hlt : ∀ k ∈ [ob pv0, pD0].flatten, k < w.heap.size) {r : Int × (List TRow)} (h : m_l_markRowS N p0 p1 = some r) :
    Calls Try.prog 84 [pv0, .int .i64 p1].toArray w (PostG Φ w [ob pv0, pD0].flatten (fun Φ' Fs v => ∃ (Do_0_0 : List Nat), v = .int .i64 r.1 ∧ Fs = [ob pv0, Do_0_0] ∧ OSl OTRow 133 1 Φ' Do_0_0 pv0 r.2)) := by
  refine enter Try.func84 rfl Try.ntmps84 rfl (St.start hΦ [ob pv0, pD0] hB hlt) ?_
  generalize hb0 : (⟨w, [ob pv0, pD0].flatten, Φ⟩ : Base) = w0
  unfold m_l_markRowS at h
  refine WT.seq ?_
  refine WT.region ?_
  refine lq (q_assign rfl) rfl ?_
  refine WL.nil ?_
  refine WT.seq ?_
  refine WT.seq ?_
  refine WT.region ?_
  refine lq (q_assign rfl) rfl ?_
  refine WL.nil ?_
  refine WT.block ?_
  refine WT.loop ?_
  refine WT.mono (l' := [(0, pv0), (1, .int .i64 p1), (5, .int .i64 0)]) (S' := St w0 Φ [] [ob pv0, pD0]) ⟨rfl, rfl, rfl, trivial⟩ (fun w1 hw => (hw.sel (js := [0, 0]) rfl).selO (js := []) rfl) ?_
  refine loop_ind (σ := Hp × (List TRow) × List Nat × Int × Int) (fun s => [(0, pv0), (1, .int .i64 s.2.2.2.1), (5, .int .i64 s.2.2.2.2)]) (fun s => St w0 s.1 [] [ob pv0, s.2.2.1]) (fun m s => m_l_markRowS_l1 N m s.2.1 s.2.2.2.1 s.2.2.2.2 = some r ∧ (OSl OTRow 133 1 s.1 s.2.2.1 pv0 s.2.1)) (fun s hm => none_ne (show (none : Option (Int × (List TRow))) = some r from hm.1)) (fun n1 ih1 s hm => ?_) N (Φ, p0, pD0, p1, 0) ⟨h, ph0⟩
  obtain ⟨Φ_1, s1, D1, s2, s3⟩ := s
  obtain ⟨h, k1⟩ := hm
  replace h : m_l_markRowS_l1 N (n1 + 1) s1 s2 s3 = some r := h
  replace k1 : OSl OTRow 133 1 Φ_1 D1 pv0 s1 := k1
  show WT _ _ [(0, pv0), (1, .int .i64 s2), (5, .int .i64 s3)] (St w0 Φ_1 [] [ob pv0, D1])
  unfold m_l_markRowS_l1 at h
  refine WT.seq ?_
  refine WT.seq ?_
  refine WT.region ?_
  refine lq (q_move rfl) rfl ?_
  refine lq (q_move rfl) rfl ?_
  refine lq (q_lenR Sl_39 rfl rfl (k1.rslG OTRow.gives)) rfl ?_
  refine lq (q_lss rfl rfl) rfl ?_
  refine WL.nil ?_
  refine WT.cond rfl (fun c1 => ?_) (fun c1 => ?_)
  · replace h := ite_t h c1
    refine WT.skip ?_
    refine WT.seq ?_
    refine WT.block ?_
    refine WT.region ?_
    refine lq (q_move rfl) rfl ?_
    refine lq (q_move rfl) rfl ?_
    obtain ⟨x1, hx1, h⟩ := bind_some h
    obtain ⟨cs1, F1, D2, h1, r1, kf1, sp1⟩ := k1.focus hx1
    obtain ⟨v1, D3, rfl, rfl, h2⟩ := r1
    refine WL.conv (S' := St w0 Φ_1 [] [ob v1, D3, D2, ob pv0]) (fun w1 hw => hw.re (js := [1]) (Bs := [ob v1, D3, D2]) rfl (by simpa [List.append_assoc] using sp1)) ?_
    refine lq (q_indexAddrH Sl_39 rfl rfl h1 hx1) rfl ?_
    refine lq (q_fieldAddr Fld_133_0 rfl) rfl ?_
    refine lq (q_load1 T1_131 rfl (fun w1 hw => (h1.rg.of_eq 0 1 rfl rfl : rg _ _ _ [v1]).rangeAt hw.fro)) rfl ?_
    refine lq (q_move rfl) rfl ?_
    obtain ⟨x2, hx2, h⟩ := bind_some h
    refine lc (k_call (js := [0, 0]) (R := [D2, ob pv0]) Fun_164 rfl rfl (fun w1 hw ap hl => m_l_markLevelS_ok hw.fro N x1.Levels s2 h2 ap.nd hl hx2)) rfl (fun v2 Φ_2 F2 q1 => ?_)
    obtain ⟨ap1, fr1, D4, rfl, rfl, h3⟩ := q1
    replace h1 := h1.frame OTRow.lasts fr1 (ap1.r (i := 1) rfl) (ap1.r (i := 0) rfl)
    refine lq (q_assign rfl) rfl ?_
    refine WL.nil ?_
    refine WT.inBlock ?_
    refine WT.region ?_
    refine lq (q_move rfl) rfl ?_
    refine lq (q_add rfl rfl) rfl ?_
    refine lq (q_assign rfl) rfl ?_
    refine WL.nil ?_
    have r2 : OTRow Φ_2 _ [v1] (⟨x2.2⟩ : TRow) := ⟨v1, D4, rfl, rfl, h3⟩
    obtain ⟨D5, h4, sp2⟩ := h1.unfocus r2 (OTRow.knows _ _ _ _ r2)
    refine WT.conv (S' := St w0 Φ_2 [] [D5, ob pv0]) (fun w1 hw => hw.merge (js := [0, 0, 0]) rfl (by simpa [List.append_assoc, ob_nil] using sp2)) ?_
    refine WT.inLoop (WT.mono (l' := [(0, pv0), (1, .int .i64 x2.1), (5, .int .i64 (IntKind.i64.wrap (s3 + 1)))]) (S' := St w0 Φ_2 [] [ob pv0, D5]) ⟨rfl, rfl, rfl, trivial⟩ (fun w1 hw => (hw.sel (js := [1, 0]) rfl).selO (js := []) rfl) ?_)
    exact ih1 (Φ_2, (s1.set s3.toNat (⟨x2.2⟩ : TRow)), D5, x2.1, IntKind.i64.wrap (s3 + 1)) ⟨h, h4⟩
  replace h := ite_f h c1
  refine WT.exit rfl ?_
  refine WT.seq ?_
  refine WT.region ?_
  refine lq (q_move rfl) rfl ?_
  refine lq (q_assign rfl) rfl ?_
  refine WL.nil ?_
  refine WT.ret Try.func84 (resOk.one rfl) (fun w1 hw => ?_)
  subst hb0
  cases h
  refine postG_of_St (js := [0, 0]) hw rfl ⟨D1, rfl, rfl, k1⟩
theorem m_l_markMem_ok {Φ : Hp} {w : World} (hΦ : In Φ w) (N : Nat) (p0 : TMem) (p1 : Int) {pv0_0 : Value} {pD0_0 : List Nat} {pv0_1 : Value} {pD0_1 : List Nat} (ph0_0 : OSl OTIds 130 1 Φ pD0_0 pv0_0 p0.Alphas) (ph0_1 : OSl OTRow 133 1 Φ pD0_1 pv0_1 p0.Rules) (hB : [ob pv0_0, pD0_0, ob pv0_1, pD0_1].flatten.Nodup) (hlt : ∀ k ∈ [ob pv0_0, pD0_0, ob pv0_1, pD0_1].flatten, k < w.heap.size) {r : Int × (List TIds) × (List TRow)} (h : m_l_markMem N p0 p1 = some r) :
    Calls Try.prog 25 [.agg [pv0_0, pv0_1].toArray, .int .i64 p1].toArray w (PostG Φ w [ob pv0_0, pD0_0, ob pv0_1, pD0_1].flatten (fun Φ' Fs v => ∃ (Do_0_0 : List Nat) (Do_1_0 : List Nat), v = .int .i64 r.1 ∧ Fs = [ob pv0_0, Do_0_0, ob pv0_1, Do_1_0] ∧ OSl OTIds 130 1 Φ' Do_0_0 pv0_0 r.2.1 ∧ OSl OTRow 133 1 Φ' Do_1_0 pv0_1 r.2.2)) := by
  refine enter Try.func25 rfl Try.ntmps25 rfl (St.start hΦ [ob pv0_0, pD0_0, ob pv0_1, pD0_1] hB hlt) ?_
  unfold m_l_markMem at h
  refine WT.seq ?_
  refine WT.region ?_
  refine ln (n_box (C := #[pv0_0, pv0_1]) rfl rfl) rfl (fun b_1 => ?_)
  refine lq (q_assign rfl) rfl ?_
  refine WL.nil ?_
  refine WT.seq ?_
  refine WT.region ?_
  refine lq (q_fieldAddr Fld_41_0 rfl) rfl ?_
  refine lq (q_load1 T1_38 rfl (fun w1 hw => hw.rgO (i := 0) rfl 0 1 [pv0_0] rfl)) rfl ?_
  refine lq (q_move rfl) rfl ?_
  obtain ⟨x1, hx1, h⟩ := bind_some h
  refine lc (k_call (js := [0, 0]) (R := [ob pv0_1, pD0_1]) Fun_83 rfl rfl (fun w1 hw ap hl => m_l_markIdsS_ok hw.fro N p0.Alphas p1 ph0_0 ap.nd hl hx1)) rfl (fun v1 Φ_1 F1 q1 => ?_)
  obtain ⟨ap1, fr1, D1, rfl, rfl, h1⟩ := q1
  replace ph0_1 := ph0_1.frame OTRow.lasts fr1 (ap1.r (i := 0) rfl) (ap1.r (i := 1) rfl)
  refine lq (q_assign rfl) rfl ?_
  refine WL.nil ?_
  refine WT.seq ?_
  refine WT.region ?_
  refine lq (q_fieldAddr Fld_41_1 rfl) rfl ?_
  refine lq (q_load1 T1_39 rfl (fun w1 hw => hw.rgO (i := 0) rfl 1 1 [pv0_1] rfl)) rfl ?_
  refine lq (q_move rfl) rfl ?_
  obtain ⟨x2, hx2, h⟩ := bind_some h
  refine lc (k_call (js := [2, 2]) (R := [ob pv0_0, D1]) Fun_84 rfl rfl (fun w1 hw ap hl => m_l_markRowS_ok hw.fro N p0.Rules x1.1 ph0_1 ap.nd hl hx2)) rfl (fun v2 Φ_2 F2 q2 => ?_)
  obtain ⟨ap2, fr2, D2, rfl, rfl, h2⟩ := q2
  replace h1 := h1.frame OTIds.lasts fr2 (ap2.r (i := 0) rfl) (ap2.r (i := 1) rfl)
  refine lq (q_assign rfl) rfl ?_
  refine WL.nil ?_
  refine WT.seq ?_
  refine WT.region ?_
  refine lq (q_move rfl) rfl ?_
  refine lq (q_assign rfl) rfl ?_
  refine WL.nil ?_
  refine WT.ret Try.func25 (resOk.one rfl) (fun w1 hw => ?_)
  cases h
  refine postG_of_St (js := [2, 2, 0, 0]) hw rfl ⟨D1, D2, rfl, rfl, h1, h2⟩
theorem m_l_heldIntS_ok {Φ : Hp} {w : World} (hΦ : In Φ w) (N : Nat) (p0 : (List Int)) (p1 : Int) {pv0 : Value} {pG0 : List Nat} (ph0 : RSl (RI .i64) 1 Φ pG0 pv0 p0) {r : Int} (h : m_l_heldIntS N p0 p1 = some r) :
    Calls Try.prog 165 [pv0, .int .i64 p1].toArray w (Post (.int .i64 r) w) := by
  refine enter Try.func165 rfl Try.ntmps165 rfl (St.start0 hΦ) ?_
  generalize hb0 : (⟨w, [], Φ⟩ : Base) = w0
  unfold m_l_heldIntS at h
  refine WT.seq ?_
  refine WT.region ?_
  refine lq (q_assign rfl) rfl ?_
  refine WL.nil ?_
  refine WT.seq ?_
  refine WT.seq ?_
  refine WT.region ?_
  refine lq (q_assign rfl) rfl ?_
  refine WL.nil ?_
  refine WT.block ?_
  refine WT.loop ?_
  refine WT.mono (l' := [(0, pv0), (1, .int .i64 p1), (5, .int .i64 0)]) (S' := St w0 Φ [] []) ⟨rfl, rfl, rfl, trivial⟩ (fun w1 hw => (hw.sel (js := []) rfl).selO (js := []) rfl) ?_
  refine loop_ind (σ := Int × Int) (fun s => [(0, pv0), (1, .int .i64 s.1), (5, .int .i64 s.2)]) (fun s => St w0 Φ [] []) (fun m s => m_l_heldIntS_l1 N p0 m s.1 s.2 = some r) (fun s hm => none_ne (show (none : Option (Int)) = some r from hm)) (fun n1 ih1 s hm => ?_) N (p1, 0) h
  obtain ⟨s1, s2⟩ := s
  have h : m_l_heldIntS_l1 N p0 (n1 + 1) s1 s2 = some r := hm
  show WT _ _ [(0, pv0), (1, .int .i64 s1), (5, .int .i64 s2)] (St w0 Φ [] [])
  unfold m_l_heldIntS_l1 at h
  refine WT.seq ?_
  refine WT.seq ?_
  refine WT.region ?_
  refine lq (q_move rfl) rfl ?_
  refine lq (q_move rfl) rfl ?_
  refine lq (q_lenR Sl_78 rfl rfl ph0) rfl ?_
  refine lq (q_lss rfl rfl) rfl ?_
  refine WL.nil ?_
  refine WT.cond rfl (fun c1 => ?_) (fun c1 => ?_)
  · replace h := ite_t h c1
    refine WT.skip ?_
    refine WT.seq ?_
    refine WT.block ?_
    refine WT.seq ?_
    refine WT.seq ?_
    refine WT.region ?_
    refine lq (q_move rfl) rfl ?_
    refine lq (q_move rfl) rfl ?_
    obtain ⟨x1, hx1, h⟩ := bind_some h
    obtain ⟨cs1, F1, -, g1, hb1, hs1, r1⟩ := ph0.el (idx_some hx1).2.2
    obtain ⟨rfl, -⟩ := r1
    refine lq (q_indexAddr Sl_78 rfl rfl ph0 hx1) rfl ?_
    refine lq (q_load1 T1_3 rfl (fun w1 hw => (g1.of_eq 0 1 rfl rfl : rg _ _ _ [.int .i64 x1]).rangeAt hw.fro)) rfl ?_
    refine lq (q_move rfl) rfl ?_
    refine lq (q_neq rfl rfl) rfl ?_
    refine WL.nil ?_
    refine WT.cond rfl (fun c2 => ?_) (fun c2 => ?_)
    · replace h := ite_t h c2
      refine WT.seq ?_
      refine WT.region ?_
      refine lq (q_assign rfl) rfl ?_
      refine WL.nil ?_
      refine WT.ret Try.func165 (resOk.one rfl) (fun w1 hw => ?_)
      subst hb0
      cases h
      exact post_of_St hw
    replace h := ite_f h c2
    refine WT.skip ?_
    refine WT.region ?_
    refine lq (q_move rfl) rfl ?_
    refine lq (q_add rfl rfl) rfl ?_
    refine lq (q_assign rfl) rfl ?_
    refine WL.nil ?_
    refine WT.inBlock ?_
    refine WT.region ?_
    refine lq (q_move rfl) rfl ?_
    refine lq (q_add rfl rfl) rfl ?_
    refine lq (q_assign rfl) rfl ?_
    refine WL.nil ?_
    refine WT.inLoop (WT.mono (l' := [(0, pv0), (1, .int .i64 (IntKind.i64.wrap (s1 + 1))), (5, .int .i64 (IntKind.i64.wrap (s2 + 1)))]) (S' := St w0 Φ [] []) ⟨rfl, rfl, rfl, trivial⟩ (fun w1 hw => (hw.sel (js := []) rfl).selO (js := []) rfl) ?_)
    exact ih1 (IntKind.i64.wrap (s1 + 1), IntKind.i64.wrap (s2 + 1)) h
  replace h := ite_f h c1
  refine WT.exit rfl ?_
  refine WT.seq ?_
  refine WT.region ?_
  refine lq (q_move rfl) rfl ?_
  refine lq (q_assign rfl) rfl ?_
  refine WL.nil ?_
  refine WT.ret Try.func165 (resOk.one rfl) (fun w1 hw => ?_)
  subst hb0
  cases h
  exact post_of_St hw
end Go.Proofs.Ytjhlmnbkfdkmpaa
