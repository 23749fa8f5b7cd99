/- Printed by a program of ours: each Go function computes its Lean function. -/
import Derived.Test.YtmhckcoabhahpaaProg
import Derived.Test.YtmhckcoabhahpaaWComputedMod
namespace Go.Proofs.Ytmhckcoabhahpaa
open Eng
open Go.RowKit (Below)
set_option linter.unusedVariables false
set_option linter.unusedSimpArgs false

set_option maxRecDepth 100000
set_option maxHeartbeats 1000000
theorem mixed : Try.prog.follows .mixedOrders = true := by kernel_rfl
theorem Sl_22 : Sl Try.prog 22 5 1 = true := by kernel_rfl
theorem T1_5 : T1 Try.prog 5 = true := by kernel_rfl
theorem Ik_5 : Ik Try.prog 5 .u8 = true := by kernel_rfl
theorem Ik_3 : Ik Try.prog 3 .i64 = true := by kernel_rfl
theorem Pl_195 : Pl Try.prog 195 #[(0, 1), (1, 1), (2, 1)] = true := by kernel_rfl
theorem Zr_195 : (Try.prog.info? 195).map (·.zero) = some (some (.agg #[.slice none 0 0, .int .i64 0, .int .i64 0])) := by kernel_rfl
theorem Fld_195_2 : Fld Try.prog 195 2 2 = true := by kernel_rfl
theorem T1_3 : T1 Try.prog 3 = true := by kernel_rfl
theorem Sz_3 : Sz Try.prog 3 1 = true := by kernel_rfl
theorem Fld_195_1 : Fld Try.prog 195 1 1 = true := by kernel_rfl
theorem Fld_195_0 : Fld Try.prog 195 0 0 = true := by kernel_rfl
theorem T1_22 : T1 Try.prog 22 = true := by kernel_rfl
theorem Fun_154 : Fun Try.prog 154 = true := by kernel_rfl
theorem Fun_92 : Fun Try.prog 92 = true := by kernel_rfl
theorem Sl_68 : Sl Try.prog 68 9 1 = true := by kernel_rfl
theorem T1_9 : T1 Try.prog 9 = true := by kernel_rfl
theorem Zr_79 : (Try.prog.info? 79).map (·.zero) = some (some (.agg #[.int .i64 0, .int .i64 0, .string ⟨#[]⟩])) := by kernel_rfl
theorem Fun_85 : Fun Try.prog 85 = true := by kernel_rfl
theorem Pl_79 : Pl Try.prog 79 #[(0, 1), (1, 1), (2, 1)] = true := by kernel_rfl
theorem Sz_79 : Sz Try.prog 79 3 = true := by kernel_rfl
theorem Tn_79 : Tn Try.prog 79 3 = true := by kernel_rfl
theorem MC_9_2 : madeCells (Value.string ⟨#[]⟩ : Value).cells (2 * 1) = #[.string ⟨#[]⟩, .string ⟨#[]⟩] := by kernel_rfl
theorem Zr_9 : (Try.prog.info? 9).map (·.zero) = some (some (.string ⟨#[]⟩)) := by kernel_rfl
theorem Fun_151 : Fun Try.prog 151 = true := by kernel_rfl
theorem MC_142_0 : madeCells (Value.agg #[.string ⟨#[]⟩, .int .i64 0, .int .i64 0, .string ⟨#[]⟩] : Value).cells (0 * 4) = #[] := by kernel_rfl
theorem Sl_28 : Sl Try.prog 28 142 4 = true := by kernel_rfl
theorem Zr_142 : (Try.prog.info? 142).map (·.zero) = some (some (.agg #[.string ⟨#[]⟩, .int .i64 0, .int .i64 0, .string ⟨#[]⟩])) := by kernel_rfl
theorem MC_9_3 : madeCells (Value.string ⟨#[]⟩ : Value).cells (3 * 1) = #[.string ⟨#[]⟩, .string ⟨#[]⟩, .string ⟨#[]⟩] := by kernel_rfl
theorem Fun_86 : Fun Try.prog 86 = true := by kernel_rfl
theorem Pl_142 : Pl Try.prog 142 #[(0, 1), (1, 3)] = true := by kernel_rfl
theorem MC_142_1 : madeCells (Value.agg #[.string ⟨#[]⟩, .int .i64 0, .int .i64 0, .string ⟨#[]⟩] : Value).cells (1 * 4) = #[.string ⟨#[]⟩, .int .i64 0, .int .i64 0, .string ⟨#[]⟩] := by kernel_rfl
theorem Ei_142 : (Try.prog.info? 142).map (fun i => (i.zero, i.size, i.bytes)) = some (some (.agg #[.string ⟨#[]⟩, .int .i64 0, .int .i64 0, .string ⟨#[]⟩]), 4, 48) := by kernel_rfl
theorem Zr_83 : (Try.prog.info? 83).map (·.zero) = some (some (.agg #[.int .i64 0, .string ⟨#[]⟩, .int .i64 0, .int .i64 0, .string ⟨#[]⟩])) := by kernel_rfl
theorem Pl_83 : Pl Try.prog 83 #[(0, 1), (1, 1), (2, 3)] = true := by kernel_rfl
theorem Sz_83 : Sz Try.prog 83 5 = true := by kernel_rfl
theorem Tn_83 : Tn Try.prog 83 5 = true := by kernel_rfl
theorem Fun_193 : Fun Try.prog 193 = true := by kernel_rfl
theorem Fun_194 : Fun Try.prog 194 = true := by kernel_rfl
theorem Zr_85 : (Try.prog.info? 85).map (·.zero) = some (some (.agg #[.string ⟨#[]⟩, .int .i64 0, .string ⟨#[]⟩, .int .i64 0, .int .i64 0, .string ⟨#[]⟩, .int .i64 0, .string ⟨#[]⟩, .int .i64 0, .int .i64 0, .string ⟨#[]⟩])) := by kernel_rfl
theorem Fun_164 : Fun Try.prog 164 = true := by kernel_rfl
theorem Pl_85 : Pl Try.prog 85 #[(0, 1), (1, 5), (6, 5)] = true := by kernel_rfl
theorem Sz_85 : Sz Try.prog 85 11 = true := by kernel_rfl
theorem Tn_85 : Tn Try.prog 85 11 = true := by kernel_rfl
theorem Fld_85_0 : Fld Try.prog 85 0 0 = true := by kernel_rfl
theorem Sz_9 : Sz Try.prog 9 1 = true := by kernel_rfl
theorem Fld_85_2 : Fld Try.prog 85 2 6 = true := by kernel_rfl
theorem Fun_75 : Fun Try.prog 75 = true := by kernel_rfl
theorem MC_85_0 : madeCells (Value.agg #[.string ⟨#[]⟩, .int .i64 0, .string ⟨#[]⟩, .int .i64 0, .int .i64 0, .string ⟨#[]⟩, .int .i64 0, .string ⟨#[]⟩, .int .i64 0, .int .i64 0, .string ⟨#[]⟩] : Value).cells (0 * 11) = #[] := by kernel_rfl
theorem Sl_73 : Sl Try.prog 73 85 11 = true := by kernel_rfl
theorem Fun_113 : Fun Try.prog 113 = true := by kernel_rfl
theorem MC_85_1 : madeCells (Value.agg #[.string ⟨#[]⟩, .int .i64 0, .string ⟨#[]⟩, .int .i64 0, .int .i64 0, .string ⟨#[]⟩, .int .i64 0, .string ⟨#[]⟩, .int .i64 0, .int .i64 0, .string ⟨#[]⟩] : Value).cells (1 * 11) = #[.string ⟨#[]⟩, .int .i64 0, .string ⟨#[]⟩, .int .i64 0, .int .i64 0, .string ⟨#[]⟩, .int .i64 0, .string ⟨#[]⟩, .int .i64 0, .int .i64 0, .string ⟨#[]⟩] := by kernel_rfl
theorem Ei_85 : (Try.prog.info? 85).map (fun i => (i.zero, i.size, i.bytes)) = some (some (.agg #[.string ⟨#[]⟩, .int .i64 0, .string ⟨#[]⟩, .int .i64 0, .int .i64 0, .string ⟨#[]⟩, .int .i64 0, .string ⟨#[]⟩, .int .i64 0, .int .i64 0, .string ⟨#[]⟩]), 11, 128) := by kernel_rfl
theorem Fun_88 : Fun Try.prog 88 = true := by kernel_rfl
theorem MC_142_2 : madeCells (Value.agg #[.string ⟨#[]⟩, .int .i64 0, .int .i64 0, .string ⟨#[]⟩] : Value).cells (2 * 4) = #[.string ⟨#[]⟩, .int .i64 0, .int .i64 0, .string ⟨#[]⟩, .string ⟨#[]⟩, .int .i64 0, .int .i64 0, .string ⟨#[]⟩] := by kernel_rfl
theorem Tn_142 : Tn Try.prog 142 4 = true := by kernel_rfl
theorem Sz_142 : Sz Try.prog 142 4 = true := by kernel_rfl
theorem Fld_142_0 : Fld Try.prog 142 0 0 = true := by kernel_rfl
theorem Fld_142_1 : Fld Try.prog 142 1 1 = true := by kernel_rfl
theorem Fld_83_0 : Fld Try.prog 83 0 0 = true := by kernel_rfl
theorem Fld_83_2 : Fld Try.prog 83 2 2 = true := by kernel_rfl
theorem Fld_83_1 : Fld Try.prog 83 1 1 = true := by kernel_rfl
theorem Fun_90 : Fun Try.prog 90 = true := by kernel_rfl
theorem Fun_198 : Fun Try.prog 198 = true := by kernel_rfl
theorem Fun_199 : Fun Try.prog 199 = true := by kernel_rfl
theorem Str_9 : Str Try.prog 9 = true := by kernel_rfl
theorem Fun_167 : Fun Try.prog 167 = true := by kernel_rfl
theorem Fld_79_0 : Fld Try.prog 79 0 0 = true := by kernel_rfl
theorem Fld_79_1 : Fld Try.prog 79 1 1 = true := by kernel_rfl
theorem Fun_117 : Fun Try.prog 117 = true := by kernel_rfl
theorem Fld_79_2 : Fld Try.prog 79 2 2 = true := by kernel_rfl
theorem Fun_118 : Fun Try.prog 118 = true := by kernel_rfl
theorem Fun_45 : Fun Try.prog 45 = true := by kernel_rfl
theorem Fun_165 : Fun Try.prog 165 = true := by kernel_rfl
theorem Fun_166 : Fun Try.prog 166 = true := by kernel_rfl
theorem Fld_85_1 : Fld Try.prog 85 1 1 = true := by kernel_rfl
theorem Fun_114 : Fun Try.prog 114 = true := by kernel_rfl
theorem Fun_115 : Fun Try.prog 115 = true := by kernel_rfl
theorem Fun_116 : Fun Try.prog 116 = true := by kernel_rfl
theorem Fun_44 : Fun Try.prog 44 = true := by kernel_rfl
theorem MC_79_1 : madeCells (Value.agg #[.int .i64 0, .int .i64 0, .string ⟨#[]⟩] : Value).cells (1 * 3) = #[.int .i64 0, .int .i64 0, .string ⟨#[]⟩] := by kernel_rfl
theorem Sl_38 : Sl Try.prog 38 79 3 = true := by kernel_rfl
theorem Ei_79 : (Try.prog.info? 79).map (fun i => (i.zero, i.size, i.bytes)) = some (some (.agg #[.int .i64 0, .int .i64 0, .string ⟨#[]⟩]), 3, 32) := by kernel_rfl
theorem MC_9_4 : madeCells (Value.string ⟨#[]⟩ : Value).cells (4 * 1) = #[.string ⟨#[]⟩, .string ⟨#[]⟩, .string ⟨#[]⟩, .string ⟨#[]⟩] := by kernel_rfl
theorem Fun_153 : Fun Try.prog 153 = true := by kernel_rfl
theorem Sl_27 : Sl Try.prog 27 3 1 = true := by kernel_rfl
theorem Fun_119 : Fun Try.prog 119 = true := by kernel_rfl
theorem MC_3_2 : madeCells (Value.int .i64 0 : Value).cells (2 * 1) = #[.int .i64 0, .int .i64 0] := by kernel_rfl
theorem Zr_3 : (Try.prog.info? 3).map (·.zero) = some (some (.int .i64 0)) := by kernel_rfl
theorem Fun_120 : Fun Try.prog 120 = true := by kernel_rfl
theorem Fun_168 : Fun Try.prog 168 = true := by kernel_rfl
theorem Fun_97 : Fun Try.prog 97 = true := by kernel_rfl
theorem Fun_172 : Fun Try.prog 172 = true := by kernel_rfl
theorem Fun_210 : Fun Try.prog 210 = true := by kernel_rfl
theorem Fun_200 : Fun Try.prog 200 = true := by kernel_rfl
theorem Fun_169 : Fun Try.prog 169 = true := by kernel_rfl
theorem Fun_121 : Fun Try.prog 121 = true := by kernel_rfl
theorem Fun_122 : Fun Try.prog 122 = true := by kernel_rfl
theorem Fun_123 : Fun Try.prog 123 = true := by kernel_rfl
theorem Fun_211 : Fun Try.prog 211 = true := by kernel_rfl
theorem Fun_201 : Fun Try.prog 201 = true := by kernel_rfl
theorem EqT_79 : EqT Try.prog 79 [.i .i64, .i .i64, .s] = true := by kernel_rfl
theorem Fun_170 : Fun Try.prog 170 = true := by kernel_rfl
theorem Fun_124 : Fun Try.prog 124 = true := by kernel_rfl
theorem EqT_83 : EqT Try.prog 83 [.i .i64, .s, .i .i64, .i .i64, .s] = true := by kernel_rfl
theorem Fun_212 : Fun Try.prog 212 = true := by kernel_rfl
theorem Fun_202 : Fun Try.prog 202 = true := by kernel_rfl
theorem Fun_171 : Fun Try.prog 171 = true := by kernel_rfl
theorem Fun_125 : Fun Try.prog 125 = true := by kernel_rfl
theorem Fun_12 : Fun Try.prog 12 = true := by kernel_rfl
theorem Fun_42 : Fun Try.prog 42 = true := by kernel_rfl
theorem Fun_43 : Fun Try.prog 43 = true := by kernel_rfl
theorem Fun_46 : Fun Try.prog 46 = true := by kernel_rfl
theorem Fun_47 : Fun Try.prog 47 = true := by kernel_rfl
theorem Bo_4 : Bo Try.prog 4 = true := by kernel_rfl
theorem Fun_48 : Fun Try.prog 48 = true := by kernel_rfl
theorem Fun_49 : Fun Try.prog 49 = true := by kernel_rfl
theorem m_l_big_ok {Φ : Hp} {w : World} (hΦ : In Φ w) (N : Nat) (p0 : (List Int)) {pv0 : Value} {pG0 : List Nat} (ph0 : RSl (RI .u8) 1 Φ pG0 pv0 p0) {r : Bool} (h : m_l_big N p0 = some r) :
  Calls Try.prog 12 [pv0].toArray w (Post (.bool r) w) := by
 refine enter Try.func12 rfl Try.ntmps12 rfl (St.start0 hΦ) ?_
 unfold m_l_big at h
 refine WT.seq <| WT.region <| lq (q_assign rfl) rfl <| WL.nil <| WT.seq <| WT.region <| lq (q_move rfl) rfl <| lq (q_lenR Sl_22 rfl rfl ph0) rfl <| lq (q_gtr rfl rfl) rfl <| lq (q_assign rfl) rfl <| WL.nil ?_
 refine WT.ret Try.func12 (resOk.one rfl) (fun w1 hw => ?_)
 cases h
 exact post_of_St hw
theorem m_s_l1New_ok {Φ : Hp} {w : World} (hΦ : In Φ w) (N : Nat) (p0 : (List Int)) {pv0 : Value} {pG0 : List Nat} (ph0 : RSl (RI .u8) 1 Φ pG0 pv0 p0) {r : Tl1Cur} (h : m_s_l1New N p0 = some r) :
  Calls Try.prog 75 [pv0].toArray w (PostG Φ w [] (fun Φ' Fs v => ∃ (b0 : Nat) (sr_0_0 : Value) (Gr_0_0 : List Nat), v = .pointer (some ⟨b0, 0, none⟩) ∧ Fs = [[b0]] ∧ RSl (RI .u8) 1 Φ' Gr_0_0 sr_0_0 r.b ∧ (∀ k ∈ Gr_0_0, k ∈ pG0) ∧ Φ' b0 = some (.cells #[sr_0_0, .int .i64 r.i, .int .i64 r.h] 195 (0, 0)))) := by
 refine enter Try.func75 rfl Try.ntmps75 rfl (St.start0 hΦ) ?_
 generalize hb0 : (⟨w, [], Φ⟩ : Base) = w0
 unfold m_s_l1New at h
 refine WT.seq <| WT.region <| lq (q_assign rfl) rfl <| WL.nil <| WT.seq <| WT.region <| lq (q_move rfl) rfl <| lq (q_lenR Sl_22 rfl rfl ph0) rfl <| lq (q_add rfl rfl) rfl <| lq (q_assign rfl) rfl <| WL.nil <| WT.seq <| WT.seq <| WT.region <| lq (q_assign rfl) rfl <| WL.nil <| WT.block <| WT.loop <| WT.mono (l' := [(0, pv0), (3, .int .i64 (IntKind.i64.wrap (354354 + (p0.length : Int)))), (4, .int .i64 0)]) (S' := St w0 Φ [] []) ⟨rfl, rfl, rfl, trivial⟩ (fun w1 hw => (hw.sel (js := []) rfl).selO (js := []) rfl) ?_
 refine loop_ind (σ := Int × Int) (fun s => [(0, pv0), (3, .int .i64 s.1), (4, .int .i64 s.2)]) (fun s => St w0 Φ [] []) (fun m s => m_s_l1New_l1 N p0 m s.1 s.2 = some r) (fun s hm => none_ne (show (none : Option (Tl1Cur)) = some r from hm)) (fun n1 ih1 s hm => ?_) N (IntKind.i64.wrap (354354 + (p0.length : Int)), 0) h
 obtain ⟨s1, s2⟩ := s
 have h : m_s_l1New_l1 N p0 (n1 + 1) s1 s2 = some r := hm
 show WT _ _ [(0, pv0), (3, .int .i64 s1), (4, .int .i64 s2)] (St w0 Φ [] [])
 unfold m_s_l1New_l1 at h
 refine WT.seq <| WT.seq <| WT.region <| lq (q_move rfl) rfl <| lq (q_move rfl) rfl <| lq (q_lenR Sl_22 rfl rfl ph0) rfl <| lq (q_lss rfl rfl) rfl <| lq (q_move rfl) rfl ?_
 obtain ⟨b1, hb_1, h⟩ := bind_some h
 refine WL.cutN 3 [(15, .bool b1), (0, pv0), (3, .int .i64 s1), (4, .int .i64 s2)] ?_ (fun K => ?_)
 rotate_left
 ·refine WL.split (d := 12) rfl (fun c1 => ?_) (fun c1 => ?_)
  ·replace hb_1 := ite_t hb_1 c1
   refine WL.yes rfl rfl <| lq (q_move rfl) rfl <| WL.yes rfl rfl <| lq (q_lss rfl rfl) rfl <| WL.q (q_pick1 rfl rfl) rfl rfl rfl ?_
   cases hb_1
   exact WL.keep (by exact ⟨rfl, rfl, rfl, rfl, trivial⟩) K
  ·replace hb_1 := ite_f hb_1 c1
   refine WL.no rfl rfl rfl rfl <| WL.no rfl rfl rfl rfl <| WL.q (q_pick0 rfl rfl) rfl rfl rfl ?_
   cases hb_1
   exact WL.keep (by exact ⟨rfl, rfl, rfl, rfl, trivial⟩) K
 refine WL.nil ?_
 refine WT.cond rfl (fun c2 => ?_) (fun c2 => ?_)
 ·replace h := ite_t h c2
  refine WT.skip <| WT.seq <| WT.block <| WT.region <| lq (q_move rfl) rfl <| lq (q_mul rfl rfl) rfl <| lq (q_move rfl) rfl <| lq (q_move rfl) rfl ?_
  obtain ⟨x1, hx1, h⟩ := bind_some h
  obtain ⟨cs1, F1, -, g1, hb1, hs1, r1⟩ := ph0.el (idx_some hx1).2.2
  obtain ⟨rfl, -⟩ := r1
  refine lq (q_indexAddr Sl_22 rfl rfl ph0 hx1) rfl <| lq (q_load1 T1_5 rfl (fun w1 hw => (g1.of_eq 0 1 rfl rfl : rg _ _ _ [.int .u8 x1]).rangeAt hw.fro)) rfl <| lq (q_convI Ik_5 Ik_3 rfl) rfl <| lq (q_add rfl rfl) rfl <| lq (q_add rfl rfl) rfl <| lq (q_and rfl rfl) rfl <| lq (q_assign rfl) rfl <| WL.nil <| WT.inBlock <| WT.region <| lq (q_move rfl) rfl <| lq (q_add rfl rfl) rfl <| lq (q_assign rfl) rfl <| WL.nil ?_
  refine WT.inLoop (WT.mono (l' := [(0, pv0), (3, .int .i64 (andI .i64 (IntKind.i64.wrap ((IntKind.i64.wrap ((IntKind.i64.wrap (s1 * 137)) + (IntKind.i64.wrap x1))) + 11)) 1073741823)), (4, .int .i64 (IntKind.i64.wrap (s2 + 1)))]) (S' := St w0 Φ [] []) ⟨rfl, rfl, rfl, trivial⟩ (fun w1 hw => (hw.sel (js := []) rfl).selO (js := []) rfl) ?_)
  exact ih1 ((andI .i64 (IntKind.i64.wrap ((IntKind.i64.wrap ((IntKind.i64.wrap (s1 * 137)) + (IntKind.i64.wrap x1))) + 11)) 1073741823), IntKind.i64.wrap (s2 + 1)) h
 replace h := ite_f h c2
 refine WT.exit rfl <| WT.seq <| WT.region <| lq (q_move rfl) rfl <| lq (q_move rfl) rfl <| lq (q_build (vs := [(0, pv0), (2, .int .i64 s1)]) (C := #[pv0, .int .i64 0, .int .i64 s1]) Pl_195 Zr_195 rfl (fill_cons (cells := [.slice none 0 0, .int .i64 0, .int .i64 0]) (c := [pv0]) (C' := [pv0, .int .i64 0, .int .i64 0]) rfl (one_cells ph0.one) rfl rfl rfl (fill_cons (cells := [pv0, .int .i64 0, .int .i64 0]) (c := [.int .i64 s1]) (C' := [pv0, .int .i64 0, .int .i64 s1]) rfl rfl rfl rfl rfl (fill_nil)))) rfl ?_
 refine ln (n_box (C := #[pv0, .int .i64 0, .int .i64 s1]) rfl rfl) rfl (fun b_1 => ?_)
 refine lq (q_assign rfl) rfl <| WL.nil ?_
 refine WT.frz (js := [0]) (R := []) rfl (fun Φ_1 fr1 k1 => ?_)
 replace ph0 := ph0.frame RI.lasts fr1 (Dj.empty _)
 refine WT.ret Try.func75 (resOk.one rfl) (fun w1 hw => ?_)
 subst hb0
 cases h
 refine postG_of_St (js := [0]) hw rfl ⟨b_1, pv0, pG0, rfl, rfl, ph0, (fun k hk => hk), k1⟩
theorem m_s_l1Byte_ok {Φ : Hp} {w : World} (hΦ : In Φ w) (N : Nat) (p0 : Tl1Cur) {pv0_0 : Value} {pG0_0 : List Nat} {pb0 : Nat} (ph0_0 : RSl (RI .u8) 1 Φ pG0_0 pv0_0 p0.b) (pp0 : Φ pb0 = some (.cells #[pv0_0, .int .i64 p0.i, .int .i64 p0.h] 195 (0, 0))) (pd0_0 : Dj pG0_0 [[pb0]].flatten) (hB : [[pb0]].flatten.Nodup) (hlt : ∀ k ∈ [[pb0]].flatten, k < w.heap.size) {r : Int × Tl1Cur} (h : m_s_l1Byte N p0 = some r) :
  Calls Try.prog 154 [.pointer (some ⟨pb0, 0, none⟩)].toArray w (PostG Φ w [[pb0]].flatten (fun Φ' Fs v => v = .int .i64 r.1 ∧ Fs = [[pb0]] ∧ r.2.b = p0.b ∧ Φ' pb0 = some (.cells #[pv0_0, .int .i64 r.2.i, .int .i64 r.2.h] 195 (0, 0)))) := by
 refine enter Try.func154 rfl Try.ntmps154 rfl (St.start hΦ [[pb0]] hB hlt) ?_
 have pa0_0 : Old ⟨w, [[pb0]].flatten, Φ⟩ pG0_0 := Old.mk hΦ ph0_0.kn pd0_0
 unfold m_s_l1Byte at h
 refine WT.seq <| WT.region <| lq (q_assign rfl) rfl <| WL.nil <| WT.seq <| WT.region <| lq (q_move rfl) rfl <| lq (q_move rfl) rfl <| lq (q_nilCheck rfl) rfl <| lq (q_fieldAddr Fld_195_2 rfl) rfl <| lq (q_load1 T1_3 rfl (fun w1 hw => ((rg_cells pp0).of_eq 2 1 rfl rfl : rg _ _ _ [.int .i64 p0.h]).rangeAt hw.fro)) rfl <| lq (q_mul rfl rfl) rfl <| lq (q_add rfl rfl) rfl <| lq (q_nilCheck rfl) rfl <| lq (q_fieldAddr Fld_195_2 rfl) rfl ?_
 refine WL.thw (js := [0]) (R := []) rfl pp0 (fun Φ_1 ap1 fr1 => ?_)
 replace ph0_0 := ph0_0.frame RI.lasts fr1 (ap1.o pa0_0)
 refine ls (s_store (i := 0) (vs := [.int .i64 (IntKind.i64.wrap ((IntKind.i64.wrap (p0.h * 6364136223846793005)) + 1442695040888963407))]) (C' := [pv0_0, .int .i64 p0.i, .int .i64 (IntKind.i64.wrap ((IntKind.i64.wrap (p0.h * 6364136223846793005)) + 1442695040888963407))]) (O' := [(pb0, .cells #[pv0_0, .int .i64 p0.i, .int .i64 (IntKind.i64.wrap ((IntKind.i64.wrap (p0.h * 6364136223846793005)) + 1442695040888963407))] 195 (0, 0))]) Sz_3 rfl rfl rfl rfl rfl rfl ⟨rfl, trivial⟩ rfl rfl) rfl ?_
 refine WL.nil <| WT.seq <| WT.draw mixed (by kernel_rfl) (fun _ h => h.drew) <| qq (q_move rfl) rfl <| qq (q_nilCheck rfl) rfl <| qq (q_fieldAddr Fld_195_2 rfl) rfl <| qq (q_load1 T1_3 rfl (fun w1 hw => hw.rgO (i := 0) rfl 2 1 [.int .i64 (IntKind.i64.wrap ((IntKind.i64.wrap (p0.h * 6364136223846793005)) + 1442695040888963407))] rfl)) rfl <| qq (q_shr rfl rfl (by decide)) rfl <| qq (q_move rfl) rfl <| qq (q_nilCheck rfl) rfl <| qq (q_fieldAddr Fld_195_2 rfl) rfl ?_
 refine qq (q_load1 T1_3 rfl (fun w1 hw => hw.rgO (i := 0) rfl 2 1 [.int .i64 (IntKind.i64.wrap ((IntKind.i64.wrap (p0.h * 6364136223846793005)) + 1442695040888963407))] rfl)) rfl <| qq (q_shr rfl rfl (by decide)) rfl <| qq (q_xor rfl rfl) rfl <| qq (q_and rfl rfl) rfl <| qq (q_assign rfl) rfl <| WQ.nil <| WT.seq <| WT.seq <| WT.draw mixed (by kernel_rfl) (fun _ h => h.drew) <| qq (q_move rfl) rfl <| qq (q_nilCheck rfl) rfl <| qq (q_fieldAddr Fld_195_1 rfl) rfl ?_
 refine qq (q_load1 T1_3 rfl (fun w1 hw => hw.rgO (i := 0) rfl 1 1 [.int .i64 p0.i] rfl)) rfl <| qq (q_move rfl) rfl <| qq (q_nilCheck rfl) rfl <| qq (q_fieldAddr Fld_195_0 rfl) rfl <| qq (q_load1 T1_22 rfl (fun w1 hw => hw.rgO (i := 0) rfl 0 1 [pv0_0] rfl)) rfl <| qq (q_lenR Sl_22 rfl rfl ph0_0) rfl <| qq (q_lss rfl rfl) rfl <| WQ.nil ?_
 refine WT.cond rfl (fun c1 => ?_) (fun c1 => ?_)
 ·replace h := ite_t h c1
  refine WT.seq <| WT.draw mixed (by kernel_rfl) (fun _ h => h.drew) <| qq (q_move rfl) rfl <| qq (q_move rfl) rfl <| qq (q_nilCheck rfl) rfl <| qq (q_fieldAddr Fld_195_0 rfl) rfl <| qq (q_load1 T1_22 rfl (fun w1 hw => hw.rgO (i := 0) rfl 0 1 [pv0_0] rfl)) rfl <| qq (q_move rfl) rfl <| qq (q_nilCheck rfl) rfl <| qq (q_fieldAddr Fld_195_1 rfl) rfl <| qq (q_load1 T1_3 rfl (fun w1 hw => hw.rgO (i := 0) rfl 1 1 [.int .i64 p0.i] rfl)) rfl ?_
  obtain ⟨x1, hx1, h⟩ := bind_some h
  obtain ⟨cs1, F1, -, g1, hb1, hs1, r1⟩ := ph0_0.el (idx_some hx1).2.2
  obtain ⟨rfl, -⟩ := r1
  refine qq (q_indexAddr Sl_22 rfl rfl ph0_0 hx1) rfl <| qq (q_load1 T1_5 rfl (fun w1 hw => (g1.of_eq 0 1 rfl rfl : rg _ _ _ [.int .u8 x1]).rangeAt hw.fro)) rfl <| qq (q_convI Ik_5 Ik_3 rfl) rfl <| qq (q_add rfl rfl) rfl <| qq (q_and rfl rfl) rfl <| qq (q_assign rfl) rfl <| WQ.nil <| WT.region <| lq (q_move rfl) rfl <| lq (q_move rfl) rfl <| lq (q_nilCheck rfl) rfl <| lq (q_fieldAddr Fld_195_1 rfl) rfl <| lq (q_load1 T1_3 rfl (fun w1 hw => hw.rgO (i := 0) rfl 1 1 [.int .i64 p0.i] rfl)) rfl ?_
  refine lq (q_add rfl rfl) rfl <| lq (q_nilCheck rfl) rfl <| lq (q_fieldAddr Fld_195_1 rfl) rfl <| ls (s_store (i := 0) (vs := [.int .i64 (IntKind.i64.wrap (p0.i + 1))]) (C' := [pv0_0, .int .i64 (IntKind.i64.wrap (p0.i + 1)), .int .i64 (IntKind.i64.wrap ((IntKind.i64.wrap (p0.h * 6364136223846793005)) + 1442695040888963407))]) (O' := [(pb0, .cells #[pv0_0, .int .i64 (IntKind.i64.wrap (p0.i + 1)), .int .i64 (IntKind.i64.wrap ((IntKind.i64.wrap (p0.h * 6364136223846793005)) + 1442695040888963407))] 195 (0, 0))]) Sz_3 rfl rfl rfl rfl rfl rfl ⟨rfl, trivial⟩ rfl rfl) rfl ?_
  refine WL.nil <| WT.seq <| WT.region <| lq (q_move rfl) rfl <| lq (q_assign rfl) rfl <| WL.nil ?_
  refine WT.frz (js := [0]) (R := []) rfl (fun Φ_2 fr2 k1 => ?_)
  replace ph0_0 := ph0_0.frame RI.lasts fr2 (Dj.empty _)
  refine WT.ret Try.func154 (resOk.one rfl) (fun w1 hw => ?_)
  cases h
  refine postG_of_St (js := [0]) hw rfl ⟨rfl, rfl, rfl, k1⟩
 replace h := ite_f h c1
 refine WT.skip <| WT.seq <| WT.region <| lq (q_move rfl) rfl <| lq (q_assign rfl) rfl <| WL.nil ?_
 refine WT.frz (js := [0]) (R := []) rfl (fun Φ_3 fr3 k2 => ?_)
 replace ph0_0 := ph0_0.frame RI.lasts fr3 (Dj.empty _)
 refine WT.ret Try.func154 (resOk.one rfl) (fun w1 hw => ?_)
 cases h
 refine postG_of_St (js := [0]) hw rfl ⟨rfl, rfl, rfl, k2⟩
theorem m_s_l1Below_ok {Φ : Hp} {w : World} (hΦ : In Φ w) (N : Nat) (p0 : Tl1Cur) (p1 : Int) {pv0_0 : Value} {pG0_0 : List Nat} {pb0 : Nat} (ph0_0 : RSl (RI .u8) 1 Φ pG0_0 pv0_0 p0.b) (pp0 : Φ pb0 = some (.cells #[pv0_0, .int .i64 p0.i, .int .i64 p0.h] 195 (0, 0))) (pd0_0 : Dj pG0_0 [[pb0]].flatten) (hB : [[pb0]].flatten.Nodup) (hlt : ∀ k ∈ [[pb0]].flatten, k < w.heap.size) {r : Int × Tl1Cur} (h : m_s_l1Below N p0 p1 = some r) :
  Calls Try.prog 92 [.pointer (some ⟨pb0, 0, none⟩), .int .i64 p1].toArray w (PostG Φ w [[pb0]].flatten (fun Φ' Fs v => v = .int .i64 r.1 ∧ Fs = [[pb0]] ∧ r.2.b = p0.b ∧ Φ' pb0 = some (.cells #[pv0_0, .int .i64 r.2.i, .int .i64 r.2.h] 195 (0, 0)))) := by
 refine enter Try.func92 rfl Try.ntmps92 rfl (St.start hΦ [[pb0]] hB hlt) ?_
 have pa0_0 : Old ⟨w, [[pb0]].flatten, Φ⟩ pG0_0 := Old.mk hΦ ph0_0.kn pd0_0
 unfold m_s_l1Below at h
 refine WT.seq <| WT.region <| lq (q_assign rfl) rfl <| WL.nil <| WT.seq <| WT.seq <| WT.region <| lq (q_move rfl) rfl <| lq (q_leq rfl rfl) rfl <| WL.nil ?_
 refine WT.cond rfl (fun c1 => ?_) (fun c1 => ?_)
 ·replace h := ite_t h c1
  refine WT.seq <| WT.region <| lq (q_assign rfl) rfl <| WL.nil ?_
  refine WT.ret Try.func92 (resOk.one rfl) (fun w1 hw => ?_)
  cases h
  refine postG_of_St (js := [0]) hw rfl ⟨rfl, rfl, rfl, pp0⟩
 replace h := ite_f h c1
 refine WT.skip <| WT.seq <| WT.seq <| WT.region <| lq (q_move rfl) rfl <| lq (q_leq rfl rfl) rfl <| WL.nil ?_
 refine WT.cond rfl (fun c2 => ?_) (fun c2 => ?_)
 ·replace h := ite_t h c2
  refine WT.seq <| WT.region <| lq (q_move rfl) rfl ?_
  obtain ⟨x1, hx1, h⟩ := bind_some h
  refine lc (k_call (js := [0]) (R := []) Fun_154 rfl rfl (fun w1 hw ap hl => m_s_l1Byte_ok hw.fro N p0 ph0_0 pp0 (ap.o pa0_0) ap.nd hl hx1)) rfl (fun v1 Φ_1 F1 q1 => ?_)
  obtain ⟨ap1, fr1, rfl, rfl, e1, h1⟩ := q1
  replace ph0_0 := ph0_0.frame RI.lasts fr1 (ap1.o pa0_0)
  refine lq (q_move rfl) rfl ?_
  obtain ⟨x2, hx2, h⟩ := bind_some h
  refine lq (q_remV rfl rfl hx2) rfl <| lq (q_assign rfl) rfl <| WL.nil ?_
  refine WT.ret Try.func92 (resOk.one rfl) (fun w1 hw => ?_)
  cases h
  refine postG_of_St (js := [0]) hw rfl ⟨rfl, rfl, rfl, h1⟩
 replace h := ite_f h c2
 refine WT.skip <| WT.seq <| WT.region <| lq (q_move rfl) rfl ?_
 obtain ⟨x3, hx3, h⟩ := bind_some h
 refine lc (k_call (js := [0]) (R := []) Fun_154 rfl rfl (fun w1 hw ap hl => m_s_l1Byte_ok hw.fro N p0 ph0_0 pp0 (ap.o pa0_0) ap.nd hl hx3)) rfl (fun v2 Φ_2 F2 q2 => ?_)
 obtain ⟨ap2, fr2, rfl, rfl, e2, h2⟩ := q2
 replace ph0_0 := ph0_0.frame RI.lasts fr2 (ap2.o pa0_0)
 refine lq (q_assign rfl) rfl <| WL.nil <| WT.seq <| WT.region <| lq (q_move rfl) rfl ?_
 obtain ⟨x4, hx4, h⟩ := bind_some h
 refine lc (k_call (js := [0]) (R := []) Fun_154 rfl rfl (fun w1 hw ap hl => m_s_l1Byte_ok hw.fro N (⟨p0.b, x3.2.i, x3.2.h⟩ : Tl1Cur) ph0_0 h2 (ap.o pa0_0) ap.nd hl hx4)) rfl (fun v3 Φ_3 F3 q3 => ?_)
 obtain ⟨ap3, fr3, rfl, rfl, e3, h3⟩ := q3
 replace ph0_0 := ph0_0.frame RI.lasts fr3 (ap3.o pa0_0)
 refine lq (q_assign rfl) rfl <| WL.nil <| WT.seq <| WT.region <| lq (q_move rfl) rfl ?_
 obtain ⟨x5, hx5, h⟩ := bind_some h
 refine lc (k_call (js := [0]) (R := []) Fun_154 rfl rfl (fun w1 hw ap hl => m_s_l1Byte_ok hw.fro N (⟨p0.b, x4.2.i, x4.2.h⟩ : Tl1Cur) ph0_0 h3 (ap.o pa0_0) ap.nd hl hx5)) rfl (fun v4 Φ_4 F4 q4 => ?_)
 obtain ⟨ap4, fr4, rfl, rfl, e4, h4⟩ := q4
 replace ph0_0 := ph0_0.frame RI.lasts fr4 (ap4.o pa0_0)
 refine lq (q_assign rfl) rfl <| WL.nil <| WT.seq <| WT.region <| lq (q_move rfl) rfl <| lq (q_mul rfl rfl) rfl <| lq (q_move rfl) rfl <| lq (q_mul rfl rfl) rfl <| lq (q_add rfl rfl) rfl <| lq (q_move rfl) rfl <| lq (q_add rfl rfl) rfl <| lq (q_move rfl) rfl ?_
 obtain ⟨x6, hx6, h⟩ := bind_some h
 refine lq (q_remV rfl rfl hx6) rfl <| lq (q_assign rfl) rfl <| WL.nil ?_
 refine WT.ret Try.func92 (resOk.one rfl) (fun w1 hw => ?_)
 cases h
 refine postG_of_St (js := [0]) hw rfl ⟨rfl, rfl, rfl, h4⟩
theorem m_s_l1Once_ok {Φ : Hp} {w : World} (hΦ : In Φ w) (N : Nat) (p0 : Tl1Cur) (p1 : Int) {pv0_0 : Value} {pG0_0 : List Nat} {pb0 : Nat} (ph0_0 : RSl (RI .u8) 1 Φ pG0_0 pv0_0 p0.b) (pp0 : Φ pb0 = some (.cells #[pv0_0, .int .i64 p0.i, .int .i64 p0.h] 195 (0, 0))) (pd0_0 : Dj pG0_0 [[pb0]].flatten) (hB : [[pb0]].flatten.Nodup) (hlt : ∀ k ∈ [[pb0]].flatten, k < w.heap.size) {r : Bool × Tl1Cur} (h : m_s_l1Once N p0 p1 = some r) :
  Calls Try.prog 85 [.pointer (some ⟨pb0, 0, none⟩), .int .i64 p1].toArray w (PostG Φ w [[pb0]].flatten (fun Φ' Fs v => v = .bool r.1 ∧ Fs = [[pb0]] ∧ r.2.b = p0.b ∧ Φ' pb0 = some (.cells #[pv0_0, .int .i64 r.2.i, .int .i64 r.2.h] 195 (0, 0)))) := by
 refine enter Try.func85 rfl Try.ntmps85 rfl (St.start hΦ [[pb0]] hB hlt) ?_
 have pa0_0 : Old ⟨w, [[pb0]].flatten, Φ⟩ pG0_0 := Old.mk hΦ ph0_0.kn pd0_0
 unfold m_s_l1Once at h
 refine WT.seq <| WT.region <| lq (q_assign rfl) rfl <| WL.nil <| WT.seq <| WT.region <| lq (q_move rfl) rfl <| lq (q_move rfl) rfl ?_
 obtain ⟨x1, hx1, h⟩ := bind_some h
 refine lc (k_call (js := [0]) (R := []) Fun_92 rfl rfl (fun w1 hw ap hl => m_s_l1Below_ok hw.fro N p0 p1 ph0_0 pp0 (ap.o pa0_0) ap.nd hl hx1)) rfl (fun v1 Φ_1 F1 q1 => ?_)
 obtain ⟨ap1, fr1, rfl, rfl, e1, h1⟩ := q1
 replace ph0_0 := ph0_0.frame RI.lasts fr1 (ap1.o pa0_0)
 refine lq (q_eql rfl rfl) rfl <| lq (q_assign rfl) rfl <| WL.nil ?_
 refine WT.ret Try.func85 (resOk.one rfl) (fun w1 hw => ?_)
 cases h
 refine postG_of_St (js := [0]) hw rfl ⟨rfl, rfl, rfl, h1⟩
theorem m_s_l1Str_ok {Φ : Hp} {w : World} (hΦ : In Φ w) (N : Nat) (p0 : Tl1Cur) (p1 : (List ByteArray)) {pv0_0 : Value} {pG0_0 : List Nat} {pb0 : Nat} {pv1 : Value} {pG1 : List Nat} (ph0_0 : RSl (RI .u8) 1 Φ pG0_0 pv0_0 p0.b) (pp0 : Φ pb0 = some (.cells #[pv0_0, .int .i64 p0.i, .int .i64 p0.h] 195 (0, 0))) (ph1 : RSl RS 1 Φ pG1 pv1 p1) (pd0_0 : Dj pG0_0 [[pb0]].flatten) (pd1 : Dj pG1 [[pb0]].flatten) (hB : [[pb0]].flatten.Nodup) (hlt : ∀ k ∈ [[pb0]].flatten, k < w.heap.size) {r : ByteArray × Tl1Cur} (h : m_s_l1Str N p0 p1 = some r) :
  Calls Try.prog 151 [.pointer (some ⟨pb0, 0, none⟩), pv1].toArray w (PostG Φ w [[pb0]].flatten (fun Φ' Fs v => v = .string r.1 ∧ Fs = [[pb0]] ∧ r.2.b = p0.b ∧ Φ' pb0 = some (.cells #[pv0_0, .int .i64 r.2.i, .int .i64 r.2.h] 195 (0, 0)))) := by
 refine enter Try.func151 rfl Try.ntmps151 rfl (St.start hΦ [[pb0]] hB hlt) ?_
 have pa0_0 : Old ⟨w, [[pb0]].flatten, Φ⟩ pG0_0 := Old.mk hΦ ph0_0.kn pd0_0
 have pa1 : Old ⟨w, [[pb0]].flatten, Φ⟩ pG1 := Old.mk hΦ ph1.kn pd1
 unfold m_s_l1Str at h
 refine WT.seq <| WT.region <| lq (q_assign rfl) rfl <| WL.nil <| WT.seq <| WT.region <| lq (q_move rfl) rfl <| lq (q_move rfl) rfl <| lq (q_move rfl) rfl <| lq (q_lenR Sl_68 rfl rfl ph1) rfl ?_
 obtain ⟨x1, hx1, h⟩ := bind_some h
 refine lc (k_call (js := [0]) (R := []) Fun_92 rfl rfl (fun w1 hw ap hl => m_s_l1Below_ok hw.fro N p0 (p1.length : Int) ph0_0 pp0 (ap.o pa0_0) ap.nd hl hx1)) rfl (fun v1 Φ_1 F1 q1 => ?_)
 obtain ⟨ap1, fr1, rfl, rfl, e1, h1⟩ := q1
 replace ph1 := ph1.frame RS.lasts fr1 (ap1.o pa1)
 replace ph0_0 := ph0_0.frame RI.lasts fr1 (ap1.o pa0_0)
 obtain ⟨x2, hx2, h⟩ := bind_some h
 obtain ⟨cs1, F2, -, g1, hb1, hs1, r1⟩ := ph1.el (idx_some hx2).2.2
 obtain ⟨rfl, -⟩ := r1
 refine lq (q_indexAddr Sl_68 rfl rfl ph1 hx2) rfl <| lq (q_load1 T1_9 rfl (fun w1 hw => (g1.of_eq 0 1 rfl rfl : rg _ _ _ [.string x2]).rangeAt hw.fro)) rfl <| lq (q_assign rfl) rfl <| WL.nil ?_
 refine WT.ret Try.func151 (resOk.one rfl) (fun w1 hw => ?_)
 cases h
 refine postG_of_St (js := [0]) hw rfl ⟨rfl, rfl, rfl, h1⟩
theorem m_s_l3Small_ok {Φ : Hp} {w : World} (hΦ : In Φ w) (N : Nat) (p0 : Tl1Cur) {pv0_0 : Value} {pG0_0 : List Nat} {pb0 : Nat} (ph0_0 : RSl (RI .u8) 1 Φ pG0_0 pv0_0 p0.b) (pp0 : Φ pb0 = some (.cells #[pv0_0, .int .i64 p0.i, .int .i64 p0.h] 195 (0, 0))) (pd0_0 : Dj pG0_0 [[pb0]].flatten) (hB : [[pb0]].flatten.Nodup) (hlt : ∀ k ∈ [[pb0]].flatten, k < w.heap.size) {r : TVal × Tl1Cur} (h : m_s_l3Small N p0 = some r) :
  Calls Try.prog 86 [.pointer (some ⟨pb0, 0, none⟩)].toArray w (PostG Φ w [[pb0]].flatten (fun Φ' Fs v => v = .agg [.int .i64 r.1.K, .int .i64 r.1.N, .string r.1.S].toArray ∧ Fs = [[pb0]] ∧ r.2.b = p0.b ∧ Φ' pb0 = some (.cells #[pv0_0, .int .i64 r.2.i, .int .i64 r.2.h] 195 (0, 0)))) := by
 refine enter Try.func86 rfl Try.ntmps86 rfl (St.start hΦ [[pb0]] hB hlt) ?_
 have pa0_0 : Old ⟨w, [[pb0]].flatten, Φ⟩ pG0_0 := Old.mk hΦ ph0_0.kn pd0_0
 unfold m_s_l3Small at h
 refine WT.seq <| WT.region ?_
 refine ln (n_alloc (C := #[.int .i64 0, .int .i64 0, .string (⟨#[]⟩ : ByteArray)]) Zr_79 rfl) rfl (fun b_1 => ?_)
 refine WL.nil <| WT.seq <| WT.seq <| WT.region <| lq (q_move rfl) rfl ?_
 obtain ⟨x1, hx1, h⟩ := bind_some h
 refine lc (k_call (js := [0]) (R := []) Fun_85 rfl rfl (fun w1 hw ap hl => m_s_l1Once_ok hw.fro N p0 2 ph0_0 pp0 (ap.o pa0_0) ap.nd hl hx1)) rfl (fun v1 Φ_1 F1 q1 => ?_)
 obtain ⟨ap1, fr1, rfl, rfl, e1, h1⟩ := q1
 replace ph0_0 := ph0_0.frame RI.lasts fr1 (ap1.o pa0_0)
 refine WL.nil ?_
 refine WT.cond rfl (fun c1 => ?_) (fun c1 => ?_)
 ·replace h := ite_t h c1
  refine WT.seq <| WT.region <| lq (q_move rfl) rfl ?_
  obtain ⟨x2, hx2, h⟩ := bind_some h
  refine lc (k_call (js := [0]) (R := []) Fun_92 rfl rfl (fun w1 hw ap hl => m_s_l1Below_ok hw.fro N (⟨p0.b, x1.2.i, x1.2.h⟩ : Tl1Cur) 3 ph0_0 h1 (ap.o pa0_0) ap.nd hl hx2)) rfl (fun v2 Φ_2 F2 q2 => ?_)
  obtain ⟨ap2, fr2, rfl, rfl, e2, h2⟩ := q2
  replace ph0_0 := ph0_0.frame RI.lasts fr2 (ap2.o pa0_0)
  refine lq (q_add rfl rfl) rfl <| lq (q_build (vs := [(0, .int .i64 1), (1, .int .i64 (IntKind.i64.wrap (1 + x2.1)))]) (C := #[.int .i64 1, .int .i64 (IntKind.i64.wrap (1 + x2.1)), .string (⟨#[]⟩ : ByteArray)]) Pl_79 Zr_79 rfl (fill_cons (cells := [.int .i64 0, .int .i64 0, .string ⟨#[]⟩]) (c := [.int .i64 1]) (C' := [.int .i64 1, .int .i64 0, .string ⟨#[]⟩]) rfl rfl rfl rfl rfl (fill_cons (cells := [.int .i64 1, .int .i64 0, .string ⟨#[]⟩]) (c := [.int .i64 (IntKind.i64.wrap (1 + x2.1))]) (C' := [.int .i64 1, .int .i64 (IntKind.i64.wrap (1 + x2.1)), .string ⟨#[]⟩]) rfl rfl rfl rfl rfl (fill_nil)))) rfl ?_
  refine ls (s_store (i := 0) (vs := [.int .i64 1, .int .i64 (IntKind.i64.wrap (1 + x2.1)), .string (⟨#[]⟩ : ByteArray)]) (C' := [.int .i64 1, .int .i64 (IntKind.i64.wrap (1 + x2.1)), .string (⟨#[]⟩ : ByteArray)]) (O' := [(b_1, .cells #[.int .i64 1, .int .i64 (IntKind.i64.wrap (1 + x2.1)), .string (⟨#[]⟩ : ByteArray)] 79 (0, 0))]) Sz_79 rfl rfl rfl rfl rfl rfl ⟨rfl, rfl, rfl, trivial⟩ rfl rfl) rfl <| WL.nil ?_
  refine WT.ret Try.func86 (resOk.one (rv_cell Tn_79 rfl (fun w1 hw => hw.rgO (i := 0) rfl 0 3 [.int .i64 1, .int .i64 (IntKind.i64.wrap (1 + x2.1)), .string (⟨#[]⟩ : ByteArray)] rfl) rfl)) (fun w1 hw => ?_)
  cases h
  refine postG_of_St (js := [0]) hw rfl ⟨rfl, rfl, rfl, h2⟩
 replace h := ite_f h c1
 refine WT.skip <| WT.seq <| WT.region <| lq (q_move rfl) rfl ?_
 have rc1 : RC RS 1 Φ_1 ([[], []] : List (List Nat)) [.string (⟨#[97]⟩ : ByteArray), .string (⟨#[98]⟩ : ByteArray)] ([(⟨#[97]⟩ : ByteArray), (⟨#[98]⟩ : ByteArray)] : List ByteArray) := RC.cons (c := [.string (⟨#[97]⟩ : ByteArray)]) (cells := [.string (⟨#[98]⟩ : ByteArray)]) ⟨rfl, rfl⟩ rfl (RC.cons (c := [.string (⟨#[98]⟩ : ByteArray)]) (cells := []) ⟨rfl, rfl⟩ rfl (RC.nil _ _ _))
 refine le' (e_lit (vs := [(0, .string (⟨#[97]⟩ : ByteArray)), (1, .string (⟨#[98]⟩ : ByteArray))]) (C := #[.string (⟨#[97]⟩ : ByteArray), .string (⟨#[98]⟩ : ByteArray)]) RS.lasts Sl_68 Zr_9 rfl rfl rfl rfl (fill_made MC_9_2 (fill_cons (cells := [.string ⟨#[]⟩, .string ⟨#[]⟩]) (c := [.string (⟨#[97]⟩ : ByteArray)]) (C' := [.string (⟨#[97]⟩ : ByteArray), .string ⟨#[]⟩]) rfl rfl rfl rfl rfl (fill_cons (cells := [.string (⟨#[97]⟩ : ByteArray), .string ⟨#[]⟩]) (c := [.string (⟨#[98]⟩ : ByteArray)]) (C' := [.string (⟨#[97]⟩ : ByteArray), .string (⟨#[98]⟩ : ByteArray)]) rfl rfl rfl rfl rfl (fill_nil)))) rfl rc1 rfl (by simpa using Kw.nil)) rfl (fun v3 Φ_3 D1 q3 => ?_)
 obtain ⟨fr3, h3⟩ := q3
 replace h3 : OSl RS 9 1 Φ_3 [] v3 ([(⟨#[97]⟩ : ByteArray), (⟨#[98]⟩ : ByteArray)] : List ByteArray) := by simpa using h3
 replace ph0_0 := ph0_0.frame RI.lasts fr3 (Dj.empty _)
 replace h1 := fr3 _ _ (by simp) h1
 obtain ⟨x3, hx3, h⟩ := bind_some h
 refine lc (k_call (js := [1]) (R := [ob v3]) Fun_151 rfl rfl (fun w1 hw ap hl => m_s_l1Str_ok hw.fro N (⟨p0.b, x1.2.i, x1.2.h⟩ : Tl1Cur) ([(⟨#[97]⟩ : ByteArray), (⟨#[98]⟩ : ByteArray)] : List ByteArray) ph0_0 h1 h3.rsl (ap.o pa0_0) (Dj.app (ap.r (i := 0) rfl) (Dj.nil _)) ap.nd hl hx3)) rfl (fun v4 Φ_4 F3 q4 => ?_)
 obtain ⟨ap3, fr4, rfl, rfl, e3, h4⟩ := q4
 replace ph0_0 := ph0_0.frame RI.lasts fr4 (ap3.o pa0_0)
 refine lq (q_build (vs := [(0, .int .i64 2), (2, .string x3.1)]) (C := #[.int .i64 2, .int .i64 0, .string x3.1]) Pl_79 Zr_79 rfl (fill_cons (cells := [.int .i64 0, .int .i64 0, .string ⟨#[]⟩]) (c := [.int .i64 2]) (C' := [.int .i64 2, .int .i64 0, .string ⟨#[]⟩]) rfl rfl rfl rfl rfl (fill_cons (cells := [.int .i64 2, .int .i64 0, .string ⟨#[]⟩]) (c := [.string x3.1]) (C' := [.int .i64 2, .int .i64 0, .string x3.1]) rfl rfl rfl rfl rfl (fill_nil)))) rfl ?_
 refine ls (s_store (i := 0) (vs := [.int .i64 2, .int .i64 0, .string x3.1]) (C' := [.int .i64 2, .int .i64 0, .string x3.1]) (O' := [(b_1, .cells #[.int .i64 2, .int .i64 0, .string x3.1] 79 (0, 0))]) Sz_79 rfl rfl rfl rfl rfl rfl ⟨rfl, rfl, rfl, trivial⟩ rfl rfl) rfl <| WL.nil ?_
 refine WT.ret Try.func86 (resOk.one (rv_cell Tn_79 rfl (fun w1 hw => hw.rgO (i := 0) rfl 0 3 [.int .i64 2, .int .i64 0, .string x3.1] rfl) rfl)) (fun w1 hw => ?_)
 cases h
 refine postG_of_St (js := [0]) hw rfl ⟨rfl, rfl, rfl, h4⟩
theorem m_s_l6Binds_ok {Φ : Hp} {w : World} (hΦ : In Φ w) (N : Nat) (p0 : Tl1Cur) {pv0_0 : Value} {pG0_0 : List Nat} {pb0 : Nat} (ph0_0 : RSl (RI .u8) 1 Φ pG0_0 pv0_0 p0.b) (pp0 : Φ pb0 = some (.cells #[pv0_0, .int .i64 p0.i, .int .i64 p0.h] 195 (0, 0))) (pd0_0 : Dj pG0_0 [[pb0]].flatten) (hB : [[pb0]].flatten.Nodup) (hlt : ∀ k ∈ [[pb0]].flatten, k < w.heap.size) {r : (List TBind) × Tl1Cur} (h : m_s_l6Binds N p0 = some r) :
  Calls Try.prog 88 [.pointer (some ⟨pb0, 0, none⟩)].toArray w (PostG Φ w [[pb0]].flatten (fun Φ' Fs v => ∃ (sr_0_0 : Value), v = sr_0_0 ∧ Fs = [ob sr_0_0, [pb0]] ∧ OSl RTBind 142 4 Φ' [] sr_0_0 r.1 ∧ r.2.b = p0.b ∧ Φ' pb0 = some (.cells #[pv0_0, .int .i64 r.2.i, .int .i64 r.2.h] 195 (0, 0)))) := by
 refine enter Try.func88 rfl Try.ntmps88 rfl (St.start hΦ [[pb0]] hB hlt) ?_
 have pa0_0 : Old ⟨w, [[pb0]].flatten, Φ⟩ pG0_0 := Old.mk hΦ ph0_0.kn pd0_0
 revert pa0_0
 generalize hb0 : (⟨w, [[pb0]].flatten, Φ⟩ : Base) = w0
 intro pa0_0
 unfold m_s_l6Binds at h
 refine WT.seq <| WT.region <| lq (q_assign rfl) rfl <| WL.nil <| WT.seq <| WT.region ?_
 have rc1 : RC RTBind 4 Φ ([] : List (List Nat)) [] ([] : List TBind) := RC.nil _ _ _
 refine le' (e_lit (vs := []) (C := #[]) RTBind.lasts Sl_28 Zr_142 rfl rfl rfl rfl (fill_made MC_142_0 (fill_nil)) rfl rc1 rfl (by simpa using Kw.nil)) rfl (fun v1 Φ_1 D1 q1 => ?_)
 obtain ⟨fr1, h1⟩ := q1
 replace h1 : OSl RTBind 142 4 Φ_1 [] v1 ([] : List TBind) := by simpa using h1
 replace ph0_0 := ph0_0.frame RI.lasts fr1 (Dj.empty _)
 replace pp0 := fr1 _ _ (by simp) pp0
 refine lq (q_assign rfl) rfl <| WL.nil <| WT.seq <| WT.seq <| WT.region <| lq (q_move rfl) rfl ?_
 obtain ⟨x1, hx1, h⟩ := bind_some h
 refine lc (k_call (js := [1]) (R := [ob v1]) Fun_92 rfl rfl (fun w1 hw ap hl => m_s_l1Below_ok hw.fro N p0 3 ph0_0 pp0 (ap.o pa0_0) ap.nd hl hx1)) rfl (fun v2 Φ_2 F1 q2 => ?_)
 obtain ⟨ap1, fr2, rfl, rfl, e1, h2⟩ := q2
 replace ph0_0 := ph0_0.frame RI.lasts fr2 (ap1.o pa0_0)
 replace h1 := h1.frame RTBind.lasts fr2 (ap1.r (i := 0) rfl) (Dj.nil _)
 refine lq (q_assign rfl) rfl <| WL.nil <| WT.block <| WT.loop <| WT.mono (l' := [(0, .pointer (some ⟨pb0, 0, none⟩)), (3, v1), (4, .int .i64 x1.1)]) (S' := St w0 Φ_2 [] [[pb0], ob v1]) ⟨rfl, rfl, rfl, trivial⟩ (fun w1 hw => (hw.sel (js := [0, 0]) rfl).selO (js := []) rfl) ?_
 refine loop_ind (σ := Hp × (List TBind) × Value × Int × Int × Int) (fun s => [(0, .pointer (some ⟨pb0, 0, none⟩)), (3, s.2.2.1), (4, .int .i64 s.2.2.2.1)]) (fun s => St w0 s.1 [] [[pb0], ob s.2.2.1]) (fun m s => m_s_l6Binds_l1 N p0 m s.2.1 s.2.2.2.1 s.2.2.2.2.1 s.2.2.2.2.2 = some r ∧ (OSl RTBind 142 4 s.1 [] s.2.2.1 s.2.1) ∧ (s.1 pb0 = some (.cells #[pv0_0, .int .i64 s.2.2.2.2.1, .int .i64 s.2.2.2.2.2] 195 (0, 0))) ∧ (RSl (RI .u8) 1 s.1 pG0_0 pv0_0 p0.b)) (fun s hm => none_ne (show (none : Option ((List TBind) × Tl1Cur)) = some r from hm.1)) (fun n1 ih1 s hm => ?_) N (Φ_2, ([] : List TBind), v1, x1.1, x1.2.i, x1.2.h) ⟨h, h1, h2, ph0_0⟩
 obtain ⟨Φ_3, s1, u1, s2, s3, s4⟩ := s
 obtain ⟨h, k1, k2, ph0_0⟩ := hm
 replace h : m_s_l6Binds_l1 N p0 (n1 + 1) s1 s2 s3 s4 = some r := h
 replace k1 : OSl RTBind 142 4 Φ_3 [] u1 s1 := k1
 replace k2 : Φ_3 pb0 = some (.cells #[pv0_0, .int .i64 s3, .int .i64 s4] 195 (0, 0)) := k2
 replace ph0_0 : RSl (RI .u8) 1 Φ_3 pG0_0 pv0_0 p0.b := ph0_0
 show WT _ _ [(0, .pointer (some ⟨pb0, 0, none⟩)), (3, u1), (4, .int .i64 s2)] (St w0 Φ_3 [] [[pb0], ob u1])
 unfold m_s_l6Binds_l1 at h
 refine WT.seq <| WT.seq <| WT.region <| lq (q_move rfl) rfl <| lq (q_gtr rfl rfl) rfl <| WL.nil ?_
 refine WT.cond rfl (fun c1 => ?_) (fun c1 => ?_)
 ·replace h := ite_t h c1
  refine WT.skip <| WT.seq <| WT.block <| WT.region <| lq (q_move rfl) rfl <| lq (q_move rfl) rfl ?_
  have rc2 : RC RS 1 Φ_3 ([[], [], []] : List (List Nat)) [.string (⟨#[88]⟩ : ByteArray), .string (⟨#[89]⟩ : ByteArray), .string (⟨#[87]⟩ : ByteArray)] ([(⟨#[88]⟩ : ByteArray), (⟨#[89]⟩ : ByteArray), (⟨#[87]⟩ : ByteArray)] : List ByteArray) := RC.cons (c := [.string (⟨#[88]⟩ : ByteArray)]) (cells := [.string (⟨#[89]⟩ : ByteArray), .string (⟨#[87]⟩ : ByteArray)]) ⟨rfl, rfl⟩ rfl (RC.cons (c := [.string (⟨#[89]⟩ : ByteArray)]) (cells := [.string (⟨#[87]⟩ : ByteArray)]) ⟨rfl, rfl⟩ rfl (RC.cons (c := [.string (⟨#[87]⟩ : ByteArray)]) (cells := []) ⟨rfl, rfl⟩ rfl (RC.nil _ _ _)))
  refine le' (e_lit (vs := [(0, .string (⟨#[88]⟩ : ByteArray)), (1, .string (⟨#[89]⟩ : ByteArray)), (2, .string (⟨#[87]⟩ : ByteArray))]) (C := #[.string (⟨#[88]⟩ : ByteArray), .string (⟨#[89]⟩ : ByteArray), .string (⟨#[87]⟩ : ByteArray)]) RS.lasts Sl_68 Zr_9 rfl rfl rfl rfl (fill_made MC_9_3 (fill_cons (cells := [.string ⟨#[]⟩, .string ⟨#[]⟩, .string ⟨#[]⟩]) (c := [.string (⟨#[88]⟩ : ByteArray)]) (C' := [.string (⟨#[88]⟩ : ByteArray), .string ⟨#[]⟩, .string ⟨#[]⟩]) rfl rfl rfl rfl rfl (fill_cons (cells := [.string (⟨#[88]⟩ : ByteArray), .string ⟨#[]⟩, .string ⟨#[]⟩]) (c := [.string (⟨#[89]⟩ : ByteArray)]) (C' := [.string (⟨#[88]⟩ : ByteArray), .string (⟨#[89]⟩ : ByteArray), .string ⟨#[]⟩]) rfl rfl rfl rfl rfl (fill_cons (cells := [.string (⟨#[88]⟩ : ByteArray), .string (⟨#[89]⟩ : ByteArray), .string ⟨#[]⟩]) (c := [.string (⟨#[87]⟩ : ByteArray)]) (C' := [.string (⟨#[88]⟩ : ByteArray), .string (⟨#[89]⟩ : ByteArray), .string (⟨#[87]⟩ : ByteArray)]) rfl rfl rfl rfl rfl (fill_nil))))) rfl rc2 rfl (by simpa using Kw.nil)) rfl (fun v3 Φ_4 D2 q3 => ?_)
  obtain ⟨fr3, h3⟩ := q3
  replace h3 : OSl RS 9 1 Φ_4 [] v3 ([(⟨#[88]⟩ : ByteArray), (⟨#[89]⟩ : ByteArray), (⟨#[87]⟩ : ByteArray)] : List ByteArray) := by simpa using h3
  replace ph0_0 := ph0_0.frame RI.lasts fr3 (Dj.empty _)
  replace k1 := k1.frame RTBind.lasts fr3 (Dj.empty _) (Dj.empty _)
  replace k2 := fr3 _ _ (by simp) k2
  obtain ⟨x2, hx2, h⟩ := bind_some h
  refine lc (k_call (js := [1]) (R := [ob v3, ob u1]) Fun_151 rfl rfl (fun w1 hw ap hl => m_s_l1Str_ok hw.fro N (⟨p0.b, s3, s4⟩ : Tl1Cur) ([(⟨#[88]⟩ : ByteArray), (⟨#[89]⟩ : ByteArray), (⟨#[87]⟩ : ByteArray)] : List ByteArray) ph0_0 k2 h3.rsl (ap.o pa0_0) (Dj.app (ap.r (i := 0) rfl) (Dj.nil _)) ap.nd hl hx2)) rfl (fun v4 Φ_5 F2 q4 => ?_)
  obtain ⟨ap2, fr4, rfl, rfl, e2, h4⟩ := q4
  replace ph0_0 := ph0_0.frame RI.lasts fr4 (ap2.o pa0_0)
  replace k1 := k1.frame RTBind.lasts fr4 (ap2.r (i := 1) rfl) (Dj.nil _)
  refine lq (q_move rfl) rfl ?_
  obtain ⟨x3, hx3, h⟩ := bind_some h
  refine lc (k_call (js := [0]) (R := [ob v3, ob u1]) Fun_86 rfl rfl (fun w1 hw ap hl => m_s_l3Small_ok hw.fro N (⟨p0.b, x2.2.i, x2.2.h⟩ : Tl1Cur) ph0_0 h4 (ap.o pa0_0) ap.nd hl hx3)) rfl (fun v5 Φ_6 F3 q5 => ?_)
  obtain ⟨ap3, fr5, rfl, rfl, e3, h5⟩ := q5
  replace ph0_0 := ph0_0.frame RI.lasts fr5 (ap3.o pa0_0)
  replace k1 := k1.frame RTBind.lasts fr5 (ap3.r (i := 1) rfl) (Dj.nil _)
  refine lq (q_build (vs := [(0, .string x2.1), (1, .agg [.int .i64 x3.1.K, .int .i64 x3.1.N, .string x3.1.S].toArray)]) (C := #[.string x2.1, .int .i64 x3.1.K, .int .i64 x3.1.N, .string x3.1.S]) Pl_142 Zr_142 rfl (fill_cons (cells := [.string ⟨#[]⟩, .int .i64 0, .int .i64 0, .string ⟨#[]⟩]) (c := [.string x2.1]) (C' := [.string x2.1, .int .i64 0, .int .i64 0, .string ⟨#[]⟩]) rfl rfl rfl rfl rfl (fill_cons (cells := [.string x2.1, .int .i64 0, .int .i64 0, .string ⟨#[]⟩]) (c := [.int .i64 x3.1.K, .int .i64 x3.1.N, .string x3.1.S]) (C' := [.string x2.1, .int .i64 x3.1.K, .int .i64 x3.1.N, .string x3.1.S]) rfl rfl rfl rfl rfl (fill_nil)))) rfl ?_
  have rc3 : RC RTBind 4 Φ_6 ([[]] : List (List Nat)) [.string x2.1, .int .i64 x3.1.K, .int .i64 x3.1.N, .string x3.1.S] ([(⟨x2.1, x3.1⟩ : TBind)] : List TBind) := RC.cons (c := [.string x2.1, .int .i64 x3.1.K, .int .i64 x3.1.N, .string x3.1.S]) (cells := []) ⟨rfl, rfl⟩ rfl (RC.nil _ _ _)
  refine le' (e_lit (vs := [(0, .agg [.string x2.1, .int .i64 x3.1.K, .int .i64 x3.1.N, .string x3.1.S].toArray)]) (C := #[.string x2.1, .int .i64 x3.1.K, .int .i64 x3.1.N, .string x3.1.S]) RTBind.lasts Sl_28 Zr_142 rfl rfl rfl rfl (fill_made MC_142_1 (fill_cons (cells := [.string ⟨#[]⟩, .int .i64 0, .int .i64 0, .string ⟨#[]⟩]) (c := [.string x2.1, .int .i64 x3.1.K, .int .i64 x3.1.N, .string x3.1.S]) (C' := [.string x2.1, .int .i64 x3.1.K, .int .i64 x3.1.N, .string x3.1.S]) rfl rfl rfl rfl rfl (fill_nil))) rfl rc3 rfl (by simpa using Kw.nil)) rfl (fun v6 Φ_7 D3 q6 => ?_)
  obtain ⟨fr6, h6⟩ := q6
  replace h6 : OSl RTBind 142 4 Φ_7 [] v6 ([(⟨x2.1, x3.1⟩ : TBind)] : List TBind) := by simpa using h6
  replace ph0_0 := ph0_0.frame RI.lasts fr6 (Dj.empty _)
  replace k1 := k1.frame RTBind.lasts fr6 (Dj.empty _) (Dj.empty _)
  replace h5 := fr6 _ _ (by simp) h5
  obtain ⟨x4, hx4, h⟩ := bind_some h
  refine le' (e_appF RTBind.lasts RTBind.one RTBind.flat Sl_28 Ei_142 rfl rfl rfl rfl rfl (js := [3]) (Rr := [ob v6, [pb0], ob v3]) rfl k1 h6.rsl hx4) rfl (fun v7 Φ_8 D4 q7 => ?_)
  obtain ⟨⟨ap4, fr7⟩, h7⟩ := q7
  replace ph0_0 := ph0_0.frame RI.lasts fr7 (ap4.o pa0_0)
  replace h5 := fr7 _ _ ((ap4.r (i := 1) rfl) _ (by simp)) h5
  refine lq (q_assign rfl) rfl <| WL.nil <| WT.inBlock <| WT.region <| lq (q_move rfl) rfl <| lq (q_sub rfl rfl) rfl <| lq (q_assign rfl) rfl <| WL.nil ?_
  refine WT.inLoop (WT.mono (l' := [(0, .pointer (some ⟨pb0, 0, none⟩)), (3, v7), (4, .int .i64 (IntKind.i64.wrap (s2 - 1)))]) (S' := St w0 Φ_8 [] [[pb0], ob v7]) ⟨rfl, rfl, rfl, trivial⟩ (fun w1 hw => (hw.sel (js := [2, 0]) rfl).selO (js := []) rfl) ?_)
  exact ih1 (Φ_8, x4, v7, IntKind.i64.wrap (s2 - 1), x3.2.i, x3.2.h) ⟨h, h7, h5, ph0_0⟩
 replace h := ite_f h c1
 refine WT.exit rfl <| WT.seq <| WT.region <| lq (q_move rfl) rfl <| lq (q_assign rfl) rfl <| WL.nil ?_
 refine WT.ret Try.func88 (resOk.one rfl) (fun w1 hw => ?_)
 subst hb0
 cases h
 refine postG_of_St (js := [1, 0]) hw rfl ⟨u1, rfl, rfl, k1, rfl, k2⟩
theorem m_s_l6Val_ok {Φ : Hp} {w : World} (hΦ : In Φ w) (N : Nat) (p0 : TVal)   {r : TArg} (h : m_s_l6Val N p0 = some r) :
  Calls Try.prog 193 [.agg [.int .i64 p0.K, .int .i64 p0.N, .string p0.S].toArray].toArray w (Post (.agg [.int .i64 r.K, .string r.S, .int .i64 r.V.K, .int .i64 r.V.N, .string r.V.S].toArray) w) := by
 refine enter Try.func193 rfl Try.ntmps193 rfl (St.start0 hΦ) ?_
 unfold m_s_l6Val at h
 refine WT.seq <| WT.region ?_
 refine ln (n_box (C := #[.int .i64 p0.K, .int .i64 p0.N, .string p0.S]) rfl rfl) rfl (fun b_1 => ?_)
 refine ln (n_alloc (C := #[.int .i64 0, .string (⟨#[]⟩ : ByteArray), .int .i64 0, .int .i64 0, .string (⟨#[]⟩ : ByteArray)]) Zr_83 rfl) rfl (fun b_2 => ?_)
 refine WL.nil <| WT.seq <| WT.region <| lq (q_loadN Tn_79 rfl (fun w1 hw => hw.rgO (i := 1) rfl 0 3 [.int .i64 p0.K, .int .i64 p0.N, .string p0.S] rfl) rfl) rfl <| lq (q_build (vs := [(0, .int .i64 2), (2, .agg [.int .i64 p0.K, .int .i64 p0.N, .string p0.S].toArray)]) (C := #[.int .i64 2, .string (⟨#[]⟩ : ByteArray), .int .i64 p0.K, .int .i64 p0.N, .string p0.S]) Pl_83 Zr_83 rfl (fill_cons (cells := [.int .i64 0, .string ⟨#[]⟩, .int .i64 0, .int .i64 0, .string ⟨#[]⟩]) (c := [.int .i64 2]) (C' := [.int .i64 2, .string ⟨#[]⟩, .int .i64 0, .int .i64 0, .string ⟨#[]⟩]) rfl rfl rfl rfl rfl (fill_cons (cells := [.int .i64 2, .string ⟨#[]⟩, .int .i64 0, .int .i64 0, .string ⟨#[]⟩]) (c := [.int .i64 p0.K, .int .i64 p0.N, .string p0.S]) (C' := [.int .i64 2, .string ⟨#[]⟩, .int .i64 p0.K, .int .i64 p0.N, .string p0.S]) rfl rfl rfl rfl rfl (fill_nil)))) rfl ?_
 refine ls (s_store (i := 0) (vs := [.int .i64 2, .string (⟨#[]⟩ : ByteArray), .int .i64 p0.K, .int .i64 p0.N, .string p0.S]) (C' := [.int .i64 2, .string (⟨#[]⟩ : ByteArray), .int .i64 p0.K, .int .i64 p0.N, .string p0.S]) (O' := [(b_2, .cells #[.int .i64 2, .string (⟨#[]⟩ : ByteArray), .int .i64 p0.K, .int .i64 p0.N, .string p0.S] 83 (0, 0)), (b_1, .cells #[.int .i64 p0.K, .int .i64 p0.N, .string p0.S] 79 (0, 0))]) Sz_83 rfl rfl rfl rfl rfl rfl ⟨rfl, rfl, rfl, rfl, rfl, trivial⟩ rfl rfl) rfl ?_
 refine WL.nil ?_
 refine WT.ret Try.func193 (resOk.one (rv_cell Tn_83 rfl (fun w1 hw => hw.rgO (i := 0) rfl 0 5 [.int .i64 2, .string (⟨#[]⟩ : ByteArray), .int .i64 p0.K, .int .i64 p0.N, .string p0.S] rfl) rfl)) (fun w1 hw => ?_)
 cases h
 exact post_of_St hw
theorem m_s_l6Var_ok {Φ : Hp} {w : World} (hΦ : In Φ w) (N : Nat) (p0 : ByteArray)   {r : TArg} (h : m_s_l6Var N p0 = some r) :
  Calls Try.prog 194 [.string p0].toArray w (Post (.agg [.int .i64 r.K, .string r.S, .int .i64 r.V.K, .int .i64 r.V.N, .string r.V.S].toArray) w) := by
 refine enter Try.func194 rfl Try.ntmps194 rfl (St.start0 hΦ) ?_
 unfold m_s_l6Var at h
 refine WT.seq <| WT.region ?_
 refine ln (n_alloc (C := #[.int .i64 0, .string (⟨#[]⟩ : ByteArray), .int .i64 0, .int .i64 0, .string (⟨#[]⟩ : ByteArray)]) Zr_83 rfl) rfl (fun b_1 => ?_)
 refine WL.nil <| WT.seq <| WT.region <| lq (q_move rfl) rfl <| lq (q_build (vs := [(0, .int .i64 1), (1, .string p0)]) (C := #[.int .i64 1, .string p0, .int .i64 0, .int .i64 0, .string (⟨#[]⟩ : ByteArray)]) Pl_83 Zr_83 rfl (fill_cons (cells := [.int .i64 0, .string ⟨#[]⟩, .int .i64 0, .int .i64 0, .string ⟨#[]⟩]) (c := [.int .i64 1]) (C' := [.int .i64 1, .string ⟨#[]⟩, .int .i64 0, .int .i64 0, .string ⟨#[]⟩]) rfl rfl rfl rfl rfl (fill_cons (cells := [.int .i64 1, .string ⟨#[]⟩, .int .i64 0, .int .i64 0, .string ⟨#[]⟩]) (c := [.string p0]) (C' := [.int .i64 1, .string p0, .int .i64 0, .int .i64 0, .string ⟨#[]⟩]) rfl rfl rfl rfl rfl (fill_nil)))) rfl ?_
 refine ls (s_store (i := 0) (vs := [.int .i64 1, .string p0, .int .i64 0, .int .i64 0, .string (⟨#[]⟩ : ByteArray)]) (C' := [.int .i64 1, .string p0, .int .i64 0, .int .i64 0, .string (⟨#[]⟩ : ByteArray)]) (O' := [(b_1, .cells #[.int .i64 1, .string p0, .int .i64 0, .int .i64 0, .string (⟨#[]⟩ : ByteArray)] 83 (0, 0))]) Sz_83 rfl rfl rfl rfl rfl rfl ⟨rfl, rfl, rfl, rfl, rfl, trivial⟩ rfl rfl) rfl <| WL.nil ?_
 refine WT.ret Try.func194 (resOk.one (rv_cell Tn_83 rfl (fun w1 hw => hw.rgO (i := 0) rfl 0 5 [.int .i64 1, .string p0, .int .i64 0, .int .i64 0, .string (⟨#[]⟩ : ByteArray)] rfl) rfl)) (fun w1 hw => ?_)
 cases h
 exact post_of_St hw
theorem m_s_l7Arg_ok {Φ : Hp} {w : World} (hΦ : In Φ w) (N : Nat) (p0 : Tl1Cur) {pv0_0 : Value} {pG0_0 : List Nat} {pb0 : Nat} (ph0_0 : RSl (RI .u8) 1 Φ pG0_0 pv0_0 p0.b) (pp0 : Φ pb0 = some (.cells #[pv0_0, .int .i64 p0.i, .int .i64 p0.h] 195 (0, 0))) (pd0_0 : Dj pG0_0 [[pb0]].flatten) (hB : [[pb0]].flatten.Nodup) (hlt : ∀ k ∈ [[pb0]].flatten, k < w.heap.size) {r : TArg × Tl1Cur} (h : m_s_l7Arg N p0 = some r) :
  Calls Try.prog 164 [.pointer (some ⟨pb0, 0, none⟩)].toArray w (PostG Φ w [[pb0]].flatten (fun Φ' Fs v => v = .agg [.int .i64 r.1.K, .string r.1.S, .int .i64 r.1.V.K, .int .i64 r.1.V.N, .string r.1.V.S].toArray ∧ Fs = [[pb0]] ∧ r.2.b = p0.b ∧ Φ' pb0 = some (.cells #[pv0_0, .int .i64 r.2.i, .int .i64 r.2.h] 195 (0, 0)))) := by
 refine enter Try.func164 rfl Try.ntmps164 rfl (St.start hΦ [[pb0]] hB hlt) ?_
 have pa0_0 : Old ⟨w, [[pb0]].flatten, Φ⟩ pG0_0 := Old.mk hΦ ph0_0.kn pd0_0
 unfold m_s_l7Arg at h
 refine WT.seq <| WT.region ?_
 refine ln (n_alloc (C := #[.int .i64 0, .string (⟨#[]⟩ : ByteArray), .int .i64 0, .int .i64 0, .string (⟨#[]⟩ : ByteArray)]) Zr_83 rfl) rfl (fun b_1 => ?_)
 refine WL.nil <| WT.seq <| WT.seq <| WT.region <| lq (q_move rfl) rfl ?_
 obtain ⟨x1, hx1, h⟩ := bind_some h
 refine lc (k_call (js := [0]) (R := []) Fun_85 rfl rfl (fun w1 hw ap hl => m_s_l1Once_ok hw.fro N p0 3 ph0_0 pp0 (ap.o pa0_0) ap.nd hl hx1)) rfl (fun v1 Φ_1 F1 q1 => ?_)
 obtain ⟨ap1, fr1, rfl, rfl, e1, h1⟩ := q1
 replace ph0_0 := ph0_0.frame RI.lasts fr1 (ap1.o pa0_0)
 refine WL.nil ?_
 refine WT.cond rfl (fun c1 => ?_) (fun c1 => ?_)
 ·replace h := ite_t h c1
  refine WT.seq <| WT.region <| lq (q_move rfl) rfl ?_
  obtain ⟨x2, hx2, h⟩ := bind_some h
  refine lc (k_call (js := [0]) (R := []) Fun_86 rfl rfl (fun w1 hw ap hl => m_s_l3Small_ok hw.fro N (⟨p0.b, x1.2.i, x1.2.h⟩ : Tl1Cur) ph0_0 h1 (ap.o pa0_0) ap.nd hl hx2)) rfl (fun v2 Φ_2 F2 q2 => ?_)
  obtain ⟨ap2, fr2, rfl, rfl, e2, h2⟩ := q2
  replace ph0_0 := ph0_0.frame RI.lasts fr2 (ap2.o pa0_0)
  obtain ⟨x3, hx3, h⟩ := bind_some h
  refine lp (p_call Fun_193 rfl (fun w1 hw => m_s_l6Val_ok hw.fro N x2.1 hx3)) rfl <| ls (s_store (i := 0) (vs := [.int .i64 x3.K, .string x3.S, .int .i64 x3.V.K, .int .i64 x3.V.N, .string x3.V.S]) (C' := [.int .i64 x3.K, .string x3.S, .int .i64 x3.V.K, .int .i64 x3.V.N, .string x3.V.S]) (O' := [(b_1, .cells #[.int .i64 x3.K, .string x3.S, .int .i64 x3.V.K, .int .i64 x3.V.N, .string x3.V.S] 83 (0, 0))]) Sz_83 rfl rfl rfl rfl rfl rfl ⟨rfl, rfl, rfl, rfl, rfl, trivial⟩ rfl rfl) rfl ?_
  refine WL.nil ?_
  refine WT.ret Try.func164 (resOk.one (rv_cell Tn_83 rfl (fun w1 hw => hw.rgO (i := 0) rfl 0 5 [.int .i64 x3.K, .string x3.S, .int .i64 x3.V.K, .int .i64 x3.V.N, .string x3.V.S] rfl) rfl)) (fun w1 hw => ?_)
  cases h
  refine postG_of_St (js := [0]) hw rfl ⟨rfl, rfl, rfl, h2⟩
 replace h := ite_f h c1
 refine WT.skip <| WT.seq <| WT.region <| lq (q_move rfl) rfl ?_
 have rc1 : RC RS 1 Φ_1 ([[], []] : List (List Nat)) [.string (⟨#[88]⟩ : ByteArray), .string (⟨#[89]⟩ : ByteArray)] ([(⟨#[88]⟩ : ByteArray), (⟨#[89]⟩ : ByteArray)] : List ByteArray) := RC.cons (c := [.string (⟨#[88]⟩ : ByteArray)]) (cells := [.string (⟨#[89]⟩ : ByteArray)]) ⟨rfl, rfl⟩ rfl (RC.cons (c := [.string (⟨#[89]⟩ : ByteArray)]) (cells := []) ⟨rfl, rfl⟩ rfl (RC.nil _ _ _))
 refine le' (e_lit (vs := [(0, .string (⟨#[88]⟩ : ByteArray)), (1, .string (⟨#[89]⟩ : ByteArray))]) (C := #[.string (⟨#[88]⟩ : ByteArray), .string (⟨#[89]⟩ : ByteArray)]) RS.lasts Sl_68 Zr_9 rfl rfl rfl rfl (fill_made MC_9_2 (fill_cons (cells := [.string ⟨#[]⟩, .string ⟨#[]⟩]) (c := [.string (⟨#[88]⟩ : ByteArray)]) (C' := [.string (⟨#[88]⟩ : ByteArray), .string ⟨#[]⟩]) rfl rfl rfl rfl rfl (fill_cons (cells := [.string (⟨#[88]⟩ : ByteArray), .string ⟨#[]⟩]) (c := [.string (⟨#[89]⟩ : ByteArray)]) (C' := [.string (⟨#[88]⟩ : ByteArray), .string (⟨#[89]⟩ : ByteArray)]) rfl rfl rfl rfl rfl (fill_nil)))) rfl rc1 rfl (by simpa using Kw.nil)) rfl (fun v3 Φ_3 D1 q3 => ?_)
 obtain ⟨fr3, h3⟩ := q3
 replace h3 : OSl RS 9 1 Φ_3 [] v3 ([(⟨#[88]⟩ : ByteArray), (⟨#[89]⟩ : ByteArray)] : List ByteArray) := by simpa using h3
 replace ph0_0 := ph0_0.frame RI.lasts fr3 (Dj.empty _)
 replace h1 := fr3 _ _ (by simp) h1
 obtain ⟨x4, hx4, h⟩ := bind_some h
 refine lc (k_call (js := [1]) (R := [ob v3]) Fun_151 rfl rfl (fun w1 hw ap hl => m_s_l1Str_ok hw.fro N (⟨p0.b, x1.2.i, x1.2.h⟩ : Tl1Cur) ([(⟨#[88]⟩ : ByteArray), (⟨#[89]⟩ : ByteArray)] : List ByteArray) ph0_0 h1 h3.rsl (ap.o pa0_0) (Dj.app (ap.r (i := 0) rfl) (Dj.nil _)) ap.nd hl hx4)) rfl (fun v4 Φ_4 F3 q4 => ?_)
 obtain ⟨ap3, fr4, rfl, rfl, e3, h4⟩ := q4
 replace ph0_0 := ph0_0.frame RI.lasts fr4 (ap3.o pa0_0)
 obtain ⟨x5, hx5, h⟩ := bind_some h
 refine lp (p_call Fun_194 rfl (fun w1 hw => m_s_l6Var_ok hw.fro N x4.1 hx5)) rfl <| ls (s_store (i := 0) (vs := [.int .i64 x5.K, .string x5.S, .int .i64 x5.V.K, .int .i64 x5.V.N, .string x5.V.S]) (C' := [.int .i64 x5.K, .string x5.S, .int .i64 x5.V.K, .int .i64 x5.V.N, .string x5.V.S]) (O' := [(b_1, .cells #[.int .i64 x5.K, .string x5.S, .int .i64 x5.V.K, .int .i64 x5.V.N, .string x5.V.S] 83 (0, 0))]) Sz_83 rfl rfl rfl rfl rfl rfl ⟨rfl, rfl, rfl, rfl, rfl, trivial⟩ rfl rfl) rfl ?_
 refine WL.nil ?_
 refine WT.ret Try.func164 (resOk.one (rv_cell Tn_83 rfl (fun w1 hw => hw.rgO (i := 0) rfl 0 5 [.int .i64 x5.K, .string x5.S, .int .i64 x5.V.K, .int .i64 x5.V.N, .string x5.V.S] rfl) rfl)) (fun w1 hw => ?_)
 cases h
 refine postG_of_St (js := [0]) hw rfl ⟨rfl, rfl, rfl, h4⟩
theorem m_s_l8Expr_ok {Φ : Hp} {w : World} (hΦ : In Φ w) (N : Nat) (p0 : Tl1Cur) {pv0_0 : Value} {pG0_0 : List Nat} {pb0 : Nat} (ph0_0 : RSl (RI .u8) 1 Φ pG0_0 pv0_0 p0.b) (pp0 : Φ pb0 = some (.cells #[pv0_0, .int .i64 p0.i, .int .i64 p0.h] 195 (0, 0))) (pd0_0 : Dj pG0_0 [[pb0]].flatten) (hB : [[pb0]].flatten.Nodup) (hlt : ∀ k ∈ [[pb0]].flatten, k < w.heap.size) {r : TExpr × Tl1Cur} (h : m_s_l8Expr N p0 = some r) :
  Calls Try.prog 113 [.pointer (some ⟨pb0, 0, none⟩)].toArray w (PostG Φ w [[pb0]].flatten (fun Φ' Fs v => v = .agg [.string r.1.Op, .int .i64 r.1.L.K, .string r.1.L.S, .int .i64 r.1.L.V.K, .int .i64 r.1.L.V.N, .string r.1.L.V.S, .int .i64 r.1.R.K, .string r.1.R.S, .int .i64 r.1.R.V.K, .int .i64 r.1.R.V.N, .string r.1.R.V.S].toArray ∧ Fs = [[pb0]] ∧ r.2.b = p0.b ∧ Φ' pb0 = some (.cells #[pv0_0, .int .i64 r.2.i, .int .i64 r.2.h] 195 (0, 0)))) := by
 refine enter Try.func113 rfl Try.ntmps113 rfl (St.start hΦ [[pb0]] hB hlt) ?_
 have pa0_0 : Old ⟨w, [[pb0]].flatten, Φ⟩ pG0_0 := Old.mk hΦ ph0_0.kn pd0_0
 revert pa0_0
 generalize hb0 : (⟨w, [[pb0]].flatten, Φ⟩ : Base) = w0
 intro pa0_0
 unfold m_s_l8Expr at h
 refine WT.seq <| WT.region ?_
 refine ln (n_alloc (C := #[.string (⟨#[]⟩ : ByteArray), .int .i64 0, .string (⟨#[]⟩ : ByteArray), .int .i64 0, .int .i64 0, .string (⟨#[]⟩ : ByteArray), .int .i64 0, .string (⟨#[]⟩ : ByteArray), .int .i64 0, .int .i64 0, .string (⟨#[]⟩ : ByteArray)]) Zr_85 rfl) rfl (fun b_1 => ?_)
 refine WL.nil <| WT.seq <| WT.region <| lq (q_move rfl) rfl ?_
 obtain ⟨x1, hx1, h⟩ := bind_some h
 refine lc (k_call (js := [0]) (R := []) Fun_164 rfl rfl (fun w1 hw ap hl => m_s_l7Arg_ok hw.fro N p0 ph0_0 pp0 (ap.o pa0_0) ap.nd hl hx1)) rfl (fun v1 Φ_1 F1 q1 => ?_)
 obtain ⟨ap1, fr1, rfl, rfl, e1, h1⟩ := q1
 replace ph0_0 := ph0_0.frame RI.lasts fr1 (ap1.o pa0_0)
 refine lq (q_build (vs := [(1, .agg [.int .i64 x1.1.K, .string x1.1.S, .int .i64 x1.1.V.K, .int .i64 x1.1.V.N, .string x1.1.V.S].toArray)]) (C := #[.string (⟨#[]⟩ : ByteArray), .int .i64 x1.1.K, .string x1.1.S, .int .i64 x1.1.V.K, .int .i64 x1.1.V.N, .string x1.1.V.S, .int .i64 0, .string (⟨#[]⟩ : ByteArray), .int .i64 0, .int .i64 0, .string (⟨#[]⟩ : ByteArray)]) Pl_85 Zr_85 rfl (fill_cons (cells := [.string ⟨#[]⟩, .int .i64 0, .string ⟨#[]⟩, .int .i64 0, .int .i64 0, .string ⟨#[]⟩, .int .i64 0, .string ⟨#[]⟩, .int .i64 0, .int .i64 0, .string ⟨#[]⟩]) (c := [.int .i64 x1.1.K, .string x1.1.S, .int .i64 x1.1.V.K, .int .i64 x1.1.V.N, .string x1.1.V.S]) (C' := [.string ⟨#[]⟩, .int .i64 x1.1.K, .string x1.1.S, .int .i64 x1.1.V.K, .int .i64 x1.1.V.N, .string x1.1.V.S, .int .i64 0, .string ⟨#[]⟩, .int .i64 0, .int .i64 0, .string ⟨#[]⟩]) rfl rfl rfl rfl rfl (fill_nil))) rfl ?_
 refine ln (n_alloc (C := #[.string (⟨#[]⟩ : ByteArray), .int .i64 0, .string (⟨#[]⟩ : ByteArray), .int .i64 0, .int .i64 0, .string (⟨#[]⟩ : ByteArray), .int .i64 0, .string (⟨#[]⟩ : ByteArray), .int .i64 0, .int .i64 0, .string (⟨#[]⟩ : ByteArray)]) Zr_85 rfl) rfl (fun b_2 => ?_)
 refine ls (s_store (i := 0) (vs := [.string (⟨#[]⟩ : ByteArray), .int .i64 x1.1.K, .string x1.1.S, .int .i64 x1.1.V.K, .int .i64 x1.1.V.N, .string x1.1.V.S, .int .i64 0, .string (⟨#[]⟩ : ByteArray), .int .i64 0, .int .i64 0, .string (⟨#[]⟩ : ByteArray)]) (C' := [.string (⟨#[]⟩ : ByteArray), .int .i64 x1.1.K, .string x1.1.S, .int .i64 x1.1.V.K, .int .i64 x1.1.V.N, .string x1.1.V.S, .int .i64 0, .string (⟨#[]⟩ : ByteArray), .int .i64 0, .int .i64 0, .string (⟨#[]⟩ : ByteArray)]) (O' := [(b_2, .cells #[.string (⟨#[]⟩ : ByteArray), .int .i64 x1.1.K, .string x1.1.S, .int .i64 x1.1.V.K, .int .i64 x1.1.V.N, .string x1.1.V.S, .int .i64 0, .string (⟨#[]⟩ : ByteArray), .int .i64 0, .int .i64 0, .string (⟨#[]⟩ : ByteArray)] 85 (0, 0)), (b_1, .cells #[.string (⟨#[]⟩ : ByteArray), .int .i64 0, .string (⟨#[]⟩ : ByteArray), .int .i64 0, .int .i64 0, .string (⟨#[]⟩ : ByteArray), .int .i64 0, .string (⟨#[]⟩ : ByteArray), .int .i64 0, .int .i64 0, .string (⟨#[]⟩ : ByteArray)] 85 (0, 0))]) Sz_85 rfl rfl rfl rfl rfl rfl ⟨rfl, rfl, rfl, rfl, rfl, rfl, rfl, rfl, rfl, rfl, rfl, trivial⟩ rfl rfl) rfl ?_
 refine WL.nil <| WT.seq <| WT.seq <| WT.region <| lq (q_move rfl) rfl ?_
 obtain ⟨x2, hx2, h⟩ := bind_some h
 refine lc (k_call (js := [0]) (R := []) Fun_85 rfl rfl (fun w1 hw ap hl => m_s_l1Once_ok hw.fro N (⟨p0.b, x1.2.i, x1.2.h⟩ : Tl1Cur) 4 ph0_0 h1 (ap.o pa0_0) ap.nd hl hx2)) rfl (fun v2 Φ_2 F2 q2 => ?_)
 obtain ⟨ap2, fr2, rfl, rfl, e2, h2⟩ := q2
 replace ph0_0 := ph0_0.frame RI.lasts fr2 (ap2.o pa0_0)
 refine WL.nil ?_
 refine cut (σ := Hp × Int × Int × ByteArray × Int × ByteArray × Int × Int × ByteArray) (fun s => [(2, .pointer (some ⟨b_1, 0, none⟩)), (3, .pointer (some ⟨b_2, 0, none⟩))]) (fun s => St w0 s.1 [(b_2, .cells #[.string s.2.2.2.1, .int .i64 x1.1.K, .string x1.1.S, .int .i64 x1.1.V.K, .int .i64 x1.1.V.N, .string x1.1.V.S, .int .i64 s.2.2.2.2.1, .string s.2.2.2.2.2.1, .int .i64 s.2.2.2.2.2.2.1, .int .i64 s.2.2.2.2.2.2.2.1, .string s.2.2.2.2.2.2.2.2] 85 (0, 0)), (b_1, .cells #[.string (⟨#[]⟩ : ByteArray), .int .i64 0, .string (⟨#[]⟩ : ByteArray), .int .i64 0, .int .i64 0, .string (⟨#[]⟩ : ByteArray), .int .i64 0, .string (⟨#[]⟩ : ByteArray), .int .i64 0, .int .i64 0, .string (⟨#[]⟩ : ByteArray)] 85 (0, 0))] [[pb0]]) (fun s => m_s_l8Expr_j1 N p0 x1 s.2.1 s.2.2.1 s.2.2.2.1 s.2.2.2.2.1 s.2.2.2.2.2.1 s.2.2.2.2.2.2.1 s.2.2.2.2.2.2.2.1 s.2.2.2.2.2.2.2.2 = some r ∧ (s.1 pb0 = some (.cells #[pv0_0, .int .i64 s.2.1, .int .i64 s.2.2.1] 195 (0, 0))) ∧ (RSl (RI .u8) 1 s.1 pG0_0 pv0_0 p0.b)) (fun s hm => ?_) (fun K => ?_)
 ·clear h
  obtain ⟨Φ_3, s1, s2, s3, s4, s5, s6, s7, s8⟩ := s
  obtain ⟨h, k1, ph0_0⟩ := hm
  replace h : m_s_l8Expr_j1 N p0 x1 s1 s2 s3 s4 s5 s6 s7 s8 = some r := h
  replace k1 : Φ_3 pb0 = some (.cells #[pv0_0, .int .i64 s1, .int .i64 s2] 195 (0, 0)) := k1
  replace ph0_0 : RSl (RI .u8) 1 Φ_3 pG0_0 pv0_0 p0.b := ph0_0
  show WT _ _ [(2, .pointer (some ⟨b_1, 0, none⟩)), (3, .pointer (some ⟨b_2, 0, none⟩))] (St w0 Φ_3 [(b_2, .cells #[.string s3, .int .i64 x1.1.K, .string x1.1.S, .int .i64 x1.1.V.K, .int .i64 x1.1.V.N, .string x1.1.V.S, .int .i64 s4, .string s5, .int .i64 s6, .int .i64 s7, .string s8] 85 (0, 0)), (b_1, .cells #[.string (⟨#[]⟩ : ByteArray), .int .i64 0, .string (⟨#[]⟩ : ByteArray), .int .i64 0, .int .i64 0, .string (⟨#[]⟩ : ByteArray), .int .i64 0, .string (⟨#[]⟩ : ByteArray), .int .i64 0, .int .i64 0, .string (⟨#[]⟩ : ByteArray)] 85 (0, 0))] [[pb0]])
  unfold m_s_l8Expr_j1 at h
  refine WT.seq <| WT.region <| lq (q_loadN Tn_85 rfl (fun w1 hw => hw.rgO (i := 0) rfl 0 11 [.string s3, .int .i64 x1.1.K, .string x1.1.S, .int .i64 x1.1.V.K, .int .i64 x1.1.V.N, .string x1.1.V.S, .int .i64 s4, .string s5, .int .i64 s6, .int .i64 s7, .string s8] rfl) rfl) rfl <| ls (s_store (i := 1) (vs := [.string s3, .int .i64 x1.1.K, .string x1.1.S, .int .i64 x1.1.V.K, .int .i64 x1.1.V.N, .string x1.1.V.S, .int .i64 s4, .string s5, .int .i64 s6, .int .i64 s7, .string s8]) (C' := [.string s3, .int .i64 x1.1.K, .string x1.1.S, .int .i64 x1.1.V.K, .int .i64 x1.1.V.N, .string x1.1.V.S, .int .i64 s4, .string s5, .int .i64 s6, .int .i64 s7, .string s8]) (O' := [(b_2, .cells #[.string s3, .int .i64 x1.1.K, .string x1.1.S, .int .i64 x1.1.V.K, .int .i64 x1.1.V.N, .string x1.1.V.S, .int .i64 s4, .string s5, .int .i64 s6, .int .i64 s7, .string s8] 85 (0, 0)), (b_1, .cells #[.string s3, .int .i64 x1.1.K, .string x1.1.S, .int .i64 x1.1.V.K, .int .i64 x1.1.V.N, .string x1.1.V.S, .int .i64 s4, .string s5, .int .i64 s6, .int .i64 s7, .string s8] 85 (0, 0))]) Sz_85 rfl rfl rfl rfl rfl rfl ⟨rfl, rfl, rfl, rfl, rfl, rfl, rfl, rfl, rfl, rfl, rfl, trivial⟩ rfl rfl) rfl ?_
  refine WL.nil ?_
  refine WT.ret Try.func113 (resOk.one (rv_cell Tn_85 rfl (fun w1 hw => hw.rgO (i := 1) rfl 0 11 [.string s3, .int .i64 x1.1.K, .string x1.1.S, .int .i64 x1.1.V.K, .int .i64 x1.1.V.N, .string x1.1.V.S, .int .i64 s4, .string s5, .int .i64 s6, .int .i64 s7, .string s8] rfl) rfl)) (fun w1 hw => ?_)
  subst hb0
  cases h
  refine postG_of_St (js := [0]) hw rfl ⟨rfl, rfl, rfl, k1⟩
 refine WT.cond rfl (fun c1 => ?_) (fun c1 => ?_)
 ·replace h := ite_t h c1
  refine WT.seq <| WT.region <| lq (q_move rfl) rfl ?_
  have rc1 : RC RS 1 Φ_2 ([[], []] : List (List Nat)) [.string (⟨#[43]⟩ : ByteArray), .string (⟨#[45]⟩ : ByteArray)] ([(⟨#[43]⟩ : ByteArray), (⟨#[45]⟩ : ByteArray)] : List ByteArray) := RC.cons (c := [.string (⟨#[43]⟩ : ByteArray)]) (cells := [.string (⟨#[45]⟩ : ByteArray)]) ⟨rfl, rfl⟩ rfl (RC.cons (c := [.string (⟨#[45]⟩ : ByteArray)]) (cells := []) ⟨rfl, rfl⟩ rfl (RC.nil _ _ _))
  refine le' (e_lit (vs := [(0, .string (⟨#[43]⟩ : ByteArray)), (1, .string (⟨#[45]⟩ : ByteArray))]) (C := #[.string (⟨#[43]⟩ : ByteArray), .string (⟨#[45]⟩ : ByteArray)]) RS.lasts Sl_68 Zr_9 rfl rfl rfl rfl (fill_made MC_9_2 (fill_cons (cells := [.string ⟨#[]⟩, .string ⟨#[]⟩]) (c := [.string (⟨#[43]⟩ : ByteArray)]) (C' := [.string (⟨#[43]⟩ : ByteArray), .string ⟨#[]⟩]) rfl rfl rfl rfl rfl (fill_cons (cells := [.string (⟨#[43]⟩ : ByteArray), .string ⟨#[]⟩]) (c := [.string (⟨#[45]⟩ : ByteArray)]) (C' := [.string (⟨#[43]⟩ : ByteArray), .string (⟨#[45]⟩ : ByteArray)]) rfl rfl rfl rfl rfl (fill_nil)))) rfl rc1 rfl (by simpa using Kw.nil)) rfl (fun v3 Φ_4 D1 q3 => ?_)
  obtain ⟨fr3, h3⟩ := q3
  replace h3 : OSl RS 9 1 Φ_4 [] v3 ([(⟨#[43]⟩ : ByteArray), (⟨#[45]⟩ : ByteArray)] : List ByteArray) := by simpa using h3
  replace ph0_0 := ph0_0.frame RI.lasts fr3 (Dj.empty _)
  replace h2 := fr3 _ _ (by simp) h2
  obtain ⟨x3, hx3, h⟩ := bind_some h
  refine lc (k_call (js := [1]) (R := [ob v3]) Fun_151 rfl rfl (fun w1 hw ap hl => m_s_l1Str_ok hw.fro N (⟨p0.b, x2.2.i, x2.2.h⟩ : Tl1Cur) ([(⟨#[43]⟩ : ByteArray), (⟨#[45]⟩ : ByteArray)] : List ByteArray) ph0_0 h2 h3.rsl (ap.o pa0_0) (Dj.app (ap.r (i := 0) rfl) (Dj.nil _)) ap.nd hl hx3)) rfl (fun v4 Φ_5 F3 q4 => ?_)
  obtain ⟨ap3, fr4, rfl, rfl, e3, h4⟩ := q4
  replace ph0_0 := ph0_0.frame RI.lasts fr4 (ap3.o pa0_0)
  refine lq (q_fieldAddr Fld_85_0 rfl) rfl <| ls (s_store (i := 0) (vs := [.string x3.1]) (C' := [.string x3.1, .int .i64 x1.1.K, .string x1.1.S, .int .i64 x1.1.V.K, .int .i64 x1.1.V.N, .string x1.1.V.S, .int .i64 0, .string (⟨#[]⟩ : ByteArray), .int .i64 0, .int .i64 0, .string (⟨#[]⟩ : ByteArray)]) (O' := [(b_2, .cells #[.string x3.1, .int .i64 x1.1.K, .string x1.1.S, .int .i64 x1.1.V.K, .int .i64 x1.1.V.N, .string x1.1.V.S, .int .i64 0, .string (⟨#[]⟩ : ByteArray), .int .i64 0, .int .i64 0, .string (⟨#[]⟩ : ByteArray)] 85 (0, 0)), (b_1, .cells #[.string (⟨#[]⟩ : ByteArray), .int .i64 0, .string (⟨#[]⟩ : ByteArray), .int .i64 0, .int .i64 0, .string (⟨#[]⟩ : ByteArray), .int .i64 0, .string (⟨#[]⟩ : ByteArray), .int .i64 0, .int .i64 0, .string (⟨#[]⟩ : ByteArray)] 85 (0, 0))]) Sz_9 rfl rfl rfl rfl rfl rfl ⟨rfl, trivial⟩ rfl rfl) rfl ?_
  refine WL.nil <| WT.region <| lq (q_move rfl) rfl ?_
  obtain ⟨x4, hx4, h⟩ := bind_some h
  refine lc (k_call (js := [0]) (R := [ob v3]) Fun_164 rfl rfl (fun w1 hw ap hl => m_s_l7Arg_ok hw.fro N (⟨p0.b, x3.2.i, x3.2.h⟩ : Tl1Cur) ph0_0 h4 (ap.o pa0_0) ap.nd hl hx4)) rfl (fun v5 Φ_6 F4 q5 => ?_)
  obtain ⟨ap4, fr5, rfl, rfl, e4, h5⟩ := q5
  replace ph0_0 := ph0_0.frame RI.lasts fr5 (ap4.o pa0_0)
  refine lq (q_fieldAddr Fld_85_2 rfl) rfl <| ls (s_store (i := 0) (vs := [.int .i64 x4.1.K, .string x4.1.S, .int .i64 x4.1.V.K, .int .i64 x4.1.V.N, .string x4.1.V.S]) (C' := [.string x3.1, .int .i64 x1.1.K, .string x1.1.S, .int .i64 x1.1.V.K, .int .i64 x1.1.V.N, .string x1.1.V.S, .int .i64 x4.1.K, .string x4.1.S, .int .i64 x4.1.V.K, .int .i64 x4.1.V.N, .string x4.1.V.S]) (O' := [(b_2, .cells #[.string x3.1, .int .i64 x1.1.K, .string x1.1.S, .int .i64 x1.1.V.K, .int .i64 x1.1.V.N, .string x1.1.V.S, .int .i64 x4.1.K, .string x4.1.S, .int .i64 x4.1.V.K, .int .i64 x4.1.V.N, .string x4.1.V.S] 85 (0, 0)), (b_1, .cells #[.string (⟨#[]⟩ : ByteArray), .int .i64 0, .string (⟨#[]⟩ : ByteArray), .int .i64 0, .int .i64 0, .string (⟨#[]⟩ : ByteArray), .int .i64 0, .string (⟨#[]⟩ : ByteArray), .int .i64 0, .int .i64 0, .string (⟨#[]⟩ : ByteArray)] 85 (0, 0))]) Sz_83 rfl rfl rfl rfl rfl rfl ⟨rfl, rfl, rfl, rfl, rfl, trivial⟩ rfl rfl) rfl ?_
  refine WL.nil <| WT.mono (l' := [(2, .pointer (some ⟨b_1, 0, none⟩)), (3, .pointer (some ⟨b_2, 0, none⟩))]) (S' := St w0 Φ_6 [(b_2, .cells #[.string x3.1, .int .i64 x1.1.K, .string x1.1.S, .int .i64 x1.1.V.K, .int .i64 x1.1.V.N, .string x1.1.V.S, .int .i64 x4.1.K, .string x4.1.S, .int .i64 x4.1.V.K, .int .i64 x4.1.V.N, .string x4.1.V.S] 85 (0, 0)), (b_1, .cells #[.string (⟨#[]⟩ : ByteArray), .int .i64 0, .string (⟨#[]⟩ : ByteArray), .int .i64 0, .int .i64 0, .string (⟨#[]⟩ : ByteArray), .int .i64 0, .string (⟨#[]⟩ : ByteArray), .int .i64 0, .int .i64 0, .string (⟨#[]⟩ : ByteArray)] 85 (0, 0))] [[pb0]]) ⟨rfl, rfl, trivial⟩ (fun w1 hw => (hw.sel (js := [0]) rfl).selO (js := [0, 0]) rfl) ?_
  exact K (Φ_6, x4.2.i, x4.2.h, x3.1, x4.1.K, x4.1.S, x4.1.V.K, x4.1.V.N, x4.1.V.S) ⟨h, h5, ph0_0⟩
 replace h := ite_f h c1
 refine WT.skip <| WT.mono (l' := [(2, .pointer (some ⟨b_1, 0, none⟩)), (3, .pointer (some ⟨b_2, 0, none⟩))]) (S' := St w0 Φ_2 [(b_2, .cells #[.string (⟨#[]⟩ : ByteArray), .int .i64 x1.1.K, .string x1.1.S, .int .i64 x1.1.V.K, .int .i64 x1.1.V.N, .string x1.1.V.S, .int .i64 0, .string (⟨#[]⟩ : ByteArray), .int .i64 0, .int .i64 0, .string (⟨#[]⟩ : ByteArray)] 85 (0, 0)), (b_1, .cells #[.string (⟨#[]⟩ : ByteArray), .int .i64 0, .string (⟨#[]⟩ : ByteArray), .int .i64 0, .int .i64 0, .string (⟨#[]⟩ : ByteArray), .int .i64 0, .string (⟨#[]⟩ : ByteArray), .int .i64 0, .int .i64 0, .string (⟨#[]⟩ : ByteArray)] 85 (0, 0))] [[pb0]]) ⟨rfl, rfl, trivial⟩ (fun w1 hw => (hw.sel (js := [0]) rfl).selO (js := [0, 0]) rfl) ?_
 exact K (Φ_2, x2.2.i, x2.2.h, (⟨#[]⟩ : ByteArray), 0, (⟨#[]⟩ : ByteArray), 0, 0, (⟨#[]⟩ : ByteArray)) ⟨h, h2, ph0_0⟩
theorem m_s_DrawComputeAll_ok {Φ : Hp} {w : World} (hΦ : In Φ w) (N : Nat) (p0 : (List Int)) {pv0 : Value} {pG0 : List Nat} (ph0 : RSl (RI .u8) 1 Φ pG0 pv0 p0) {r : (List TExpr) × (List TBind)} (h : m_s_DrawComputeAll N p0 = some r) :
  Calls Try.prog 42 [pv0].toArray w (PostG Φ w [] (fun Φ' Fs v => ∃ (sr_0_0 : Value) (sr_1_0 : Value), v = .tuple #[sr_0_0, sr_1_0] ∧ Fs = [ob sr_0_0, ob sr_1_0] ∧ OSl RTExpr 85 11 Φ' [] sr_0_0 r.1 ∧ OSl RTBind 142 4 Φ' [] sr_1_0 r.2)) := by
 refine enter Try.func42 rfl Try.ntmps42 rfl (St.start0 hΦ) ?_
 have pa0 : Old ⟨w, [], Φ⟩ pG0 := Old.mk hΦ ph0.kn (Dj.empty _)
 revert pa0
 generalize hb0 : (⟨w, [], Φ⟩ : Base) = w0
 intro pa0
 unfold m_s_DrawComputeAll at h
 refine WT.seq <| WT.region <| lq (q_assign rfl) rfl <| lq (q_assign rfl) rfl <| WL.nil <| WT.seq <| WT.region <| lq (q_move rfl) rfl ?_
 obtain ⟨x1, hx1, h⟩ := bind_some h
 refine lc (k_call (js := []) (R := []) Fun_75 rfl rfl (fun w1 hw ap hl => m_s_l1New_ok hw.fro N p0 ph0  hx1)) rfl (fun v1 Φ_1 F1 q1 => ?_)
 obtain ⟨ap1, fr1, b_1, v2, G1, rfl, rfl, h1, i1, h2⟩ := q1
 refine lq (q_assign rfl) rfl <| WL.nil <| WT.seq <| WT.region ?_
 have rc1 : RC RTExpr 11 Φ_1 ([] : List (List Nat)) [] ([] : List TExpr) := RC.nil _ _ _
 refine le' (e_lit (vs := []) (C := #[]) RTExpr.lasts Sl_73 Zr_85 rfl rfl rfl rfl (fill_made MC_85_0 (fill_nil)) rfl rc1 rfl (by simpa using Kw.nil)) rfl (fun v3 Φ_2 D1 q2 => ?_)
 obtain ⟨fr2, h3⟩ := q2
 replace h3 : OSl RTExpr 85 11 Φ_2 [] v3 ([] : List TExpr) := by simpa using h3
 replace h1 := h1.frame RI.lasts fr2 (Dj.empty _)
 replace h2 := fr2 _ _ (by simp) h2
 refine lq (q_assign rfl) rfl <| WL.nil <| WT.seq <| WT.seq <| WT.region <| lq (q_move rfl) rfl ?_
 obtain ⟨x2, hx2, h⟩ := bind_some h
 refine lc (k_call (js := [1]) (R := [ob v3]) Fun_92 rfl rfl (fun w1 hw ap hl => m_s_l1Below_ok hw.fro N x1 3 h1 h2 (Dj.sub (ap.o pa0) i1) ap.nd hl hx2)) rfl (fun v4 Φ_3 F2 q3 => ?_)
 obtain ⟨ap2, fr3, rfl, rfl, e1, h4⟩ := q3
 replace h1 := h1.frame RI.lasts fr3 (Dj.sub (ap2.o pa0) i1)
 replace h3 := h3.frame RTExpr.lasts fr3 (ap2.r (i := 0) rfl) (Dj.nil _)
 refine lq (q_assign rfl) rfl <| WL.nil <| WT.block <| WT.loop <| WT.mono (l' := [(4, .pointer (some ⟨b_1, 0, none⟩)), (5, v3), (6, .int .i64 x2.1)]) (S' := St w0 Φ_3 [] [[b_1], ob v3]) ⟨rfl, rfl, rfl, trivial⟩ (fun w1 hw => (hw.sel (js := [0, 0]) rfl).selO (js := []) rfl) ?_
 refine loop_ind (σ := Hp × (List TExpr) × Value × Int × Int × Int) (fun s => [(4, .pointer (some ⟨b_1, 0, none⟩)), (5, s.2.2.1), (6, .int .i64 s.2.2.2.1)]) (fun s => St w0 s.1 [] [[b_1], ob s.2.2.1]) (fun m s => m_s_DrawComputeAll_l1 N x1 m s.2.1 s.2.2.2.1 s.2.2.2.2.1 s.2.2.2.2.2 = some r ∧ (OSl RTExpr 85 11 s.1 [] s.2.2.1 s.2.1) ∧ (s.1 b_1 = some (.cells #[v2, .int .i64 s.2.2.2.2.1, .int .i64 s.2.2.2.2.2] 195 (0, 0))) ∧ (RSl (RI .u8) 1 s.1 G1 v2 x1.b)) (fun s hm => none_ne (show (none : Option ((List TExpr) × (List TBind))) = some r from hm.1)) (fun n1 ih1 s hm => ?_) N (Φ_3, ([] : List TExpr), v3, x2.1, x2.2.i, x2.2.h) ⟨h, h3, h4, h1⟩
 obtain ⟨Φ_4, s1, u1, s2, s3, s4⟩ := s
 obtain ⟨h, k1, k2, h1⟩ := hm
 replace h : m_s_DrawComputeAll_l1 N x1 (n1 + 1) s1 s2 s3 s4 = some r := h
 replace k1 : OSl RTExpr 85 11 Φ_4 [] u1 s1 := k1
 replace k2 : Φ_4 b_1 = some (.cells #[v2, .int .i64 s3, .int .i64 s4] 195 (0, 0)) := k2
 replace h1 : RSl (RI .u8) 1 Φ_4 G1 v2 x1.b := h1
 show WT _ _ [(4, .pointer (some ⟨b_1, 0, none⟩)), (5, u1), (6, .int .i64 s2)] (St w0 Φ_4 [] [[b_1], ob u1])
 unfold m_s_DrawComputeAll_l1 at h
 refine WT.seq <| WT.seq <| WT.region <| lq (q_move rfl) rfl <| lq (q_gtr rfl rfl) rfl <| WL.nil ?_
 refine WT.cond rfl (fun c1 => ?_) (fun c1 => ?_)
 ·replace h := ite_t h c1
  refine WT.skip <| WT.seq <| WT.block <| WT.region <| lq (q_move rfl) rfl <| lq (q_move rfl) rfl ?_
  obtain ⟨x3, hx3, h⟩ := bind_some h
  refine lc (k_call (js := [0]) (R := [ob u1]) Fun_113 rfl rfl (fun w1 hw ap hl => m_s_l8Expr_ok hw.fro N (⟨x1.b, s3, s4⟩ : Tl1Cur) h1 k2 (Dj.sub (ap.o pa0) i1) ap.nd hl hx3)) rfl (fun v5 Φ_5 F3 q4 => ?_)
  obtain ⟨ap3, fr4, rfl, rfl, e2, h5⟩ := q4
  replace h1 := h1.frame RI.lasts fr4 (Dj.sub (ap3.o pa0) i1)
  replace k1 := k1.frame RTExpr.lasts fr4 (ap3.r (i := 0) rfl) (Dj.nil _)
  have rc2 : RC RTExpr 11 Φ_5 ([[]] : List (List Nat)) [.string x3.1.Op, .int .i64 x3.1.L.K, .string x3.1.L.S, .int .i64 x3.1.L.V.K, .int .i64 x3.1.L.V.N, .string x3.1.L.V.S, .int .i64 x3.1.R.K, .string x3.1.R.S, .int .i64 x3.1.R.V.K, .int .i64 x3.1.R.V.N, .string x3.1.R.V.S] ([x3.1] : List TExpr) := RC.cons (c := [.string x3.1.Op, .int .i64 x3.1.L.K, .string x3.1.L.S, .int .i64 x3.1.L.V.K, .int .i64 x3.1.L.V.N, .string x3.1.L.V.S, .int .i64 x3.1.R.K, .string x3.1.R.S, .int .i64 x3.1.R.V.K, .int .i64 x3.1.R.V.N, .string x3.1.R.V.S]) (cells := []) ⟨rfl, rfl⟩ rfl (RC.nil _ _ _)
  refine le' (e_lit (vs := [(0, .agg [.string x3.1.Op, .int .i64 x3.1.L.K, .string x3.1.L.S, .int .i64 x3.1.L.V.K, .int .i64 x3.1.L.V.N, .string x3.1.L.V.S, .int .i64 x3.1.R.K, .string x3.1.R.S, .int .i64 x3.1.R.V.K, .int .i64 x3.1.R.V.N, .string x3.1.R.V.S].toArray)]) (C := #[.string x3.1.Op, .int .i64 x3.1.L.K, .string x3.1.L.S, .int .i64 x3.1.L.V.K, .int .i64 x3.1.L.V.N, .string x3.1.L.V.S, .int .i64 x3.1.R.K, .string x3.1.R.S, .int .i64 x3.1.R.V.K, .int .i64 x3.1.R.V.N, .string x3.1.R.V.S]) RTExpr.lasts Sl_73 Zr_85 rfl rfl rfl rfl (fill_made MC_85_1 (fill_cons (cells := [.string ⟨#[]⟩, .int .i64 0, .string ⟨#[]⟩, .int .i64 0, .int .i64 0, .string ⟨#[]⟩, .int .i64 0, .string ⟨#[]⟩, .int .i64 0, .int .i64 0, .string ⟨#[]⟩]) (c := [.string x3.1.Op, .int .i64 x3.1.L.K, .string x3.1.L.S, .int .i64 x3.1.L.V.K, .int .i64 x3.1.L.V.N, .string x3.1.L.V.S, .int .i64 x3.1.R.K, .string x3.1.R.S, .int .i64 x3.1.R.V.K, .int .i64 x3.1.R.V.N, .string x3.1.R.V.S]) (C' := [.string x3.1.Op, .int .i64 x3.1.L.K, .string x3.1.L.S, .int .i64 x3.1.L.V.K, .int .i64 x3.1.L.V.N, .string x3.1.L.V.S, .int .i64 x3.1.R.K, .string x3.1.R.S, .int .i64 x3.1.R.V.K, .int .i64 x3.1.R.V.N, .string x3.1.R.V.S]) rfl rfl rfl rfl rfl (fill_nil))) rfl rc2 rfl (by simpa using Kw.nil)) rfl (fun v6 Φ_6 D2 q5 => ?_)
  obtain ⟨fr5, h6⟩ := q5
  replace h6 : OSl RTExpr 85 11 Φ_6 [] v6 ([x3.1] : List TExpr) := by simpa using h6
  replace h1 := h1.frame RI.lasts fr5 (Dj.empty _)
  replace k1 := k1.frame RTExpr.lasts fr5 (Dj.empty _) (Dj.empty _)
  replace h5 := fr5 _ _ (by simp) h5
  obtain ⟨x4, hx4, h⟩ := bind_some h
  refine le' (e_appF RTExpr.lasts RTExpr.one RTExpr.flat Sl_73 Ei_85 rfl rfl rfl rfl rfl (js := [2]) (Rr := [ob v6, [b_1]]) rfl k1 h6.rsl hx4) rfl (fun v7 Φ_7 D3 q6 => ?_)
  obtain ⟨⟨ap4, fr6⟩, h7⟩ := q6
  replace h1 := h1.frame RI.lasts fr6 (Dj.sub (ap4.o pa0) i1)
  replace h5 := fr6 _ _ ((ap4.r (i := 1) rfl) _ (by simp)) h5
  refine lq (q_assign rfl) rfl <| WL.nil <| WT.inBlock <| WT.region <| lq (q_move rfl) rfl <| lq (q_sub rfl rfl) rfl <| lq (q_assign rfl) rfl <| WL.nil ?_
  refine WT.inLoop (WT.mono (l' := [(4, .pointer (some ⟨b_1, 0, none⟩)), (5, v7), (6, .int .i64 (IntKind.i64.wrap (s2 - 1)))]) (S' := St w0 Φ_7 [] [[b_1], ob v7]) ⟨rfl, rfl, rfl, trivial⟩ (fun w1 hw => (hw.sel (js := [2, 0]) rfl).selO (js := []) rfl) ?_)
  exact ih1 (Φ_7, x4, v7, IntKind.i64.wrap (s2 - 1), x3.2.i, x3.2.h) ⟨h, h7, h5, h1⟩
 replace h := ite_f h c1
 refine WT.exit rfl <| WT.seq <| WT.region <| lq (q_move rfl) rfl <| lq (q_move rfl) rfl ?_
 obtain ⟨x5, hx5, h⟩ := bind_some h
 refine lc (k_call (js := [0]) (R := [ob u1]) Fun_88 rfl rfl (fun w1 hw ap hl => m_s_l6Binds_ok hw.fro N (⟨x1.b, s3, s4⟩ : Tl1Cur) h1 k2 (Dj.sub (ap.o pa0) i1) ap.nd hl hx5)) rfl (fun v8 Φ_8 F4 q7 => ?_)
 obtain ⟨ap5, fr7, v9, rfl, rfl, h8, e3, h9⟩ := q7
 replace k1 := k1.frame RTExpr.lasts fr7 (ap5.r (i := 0) rfl) (Dj.nil _)
 refine lq (q_build (vs := [(0, .int .i64 1), (1, .int .i64 3)]) (C := #[.int .i64 1, .int .i64 3, .string (⟨#[]⟩ : ByteArray)]) Pl_79 Zr_79 rfl (fill_cons (cells := [.int .i64 0, .int .i64 0, .string ⟨#[]⟩]) (c := [.int .i64 1]) (C' := [.int .i64 1, .int .i64 0, .string ⟨#[]⟩]) rfl rfl rfl rfl rfl (fill_cons (cells := [.int .i64 1, .int .i64 0, .string ⟨#[]⟩]) (c := [.int .i64 3]) (C' := [.int .i64 1, .int .i64 3, .string ⟨#[]⟩]) rfl rfl rfl rfl rfl (fill_nil)))) rfl ?_
 refine lq (q_build (vs := [(0, .string (⟨#[88]⟩ : ByteArray)), (1, .agg [.int .i64 1, .int .i64 3, .string (⟨#[]⟩ : ByteArray)].toArray)]) (C := #[.string (⟨#[88]⟩ : ByteArray), .int .i64 1, .int .i64 3, .string (⟨#[]⟩ : ByteArray)]) Pl_142 Zr_142 rfl (fill_cons (cells := [.string ⟨#[]⟩, .int .i64 0, .int .i64 0, .string ⟨#[]⟩]) (c := [.string (⟨#[88]⟩ : ByteArray)]) (C' := [.string (⟨#[88]⟩ : ByteArray), .int .i64 0, .int .i64 0, .string ⟨#[]⟩]) rfl rfl rfl rfl rfl (fill_cons (cells := [.string (⟨#[88]⟩ : ByteArray), .int .i64 0, .int .i64 0, .string ⟨#[]⟩]) (c := [.int .i64 1, .int .i64 3, .string (⟨#[]⟩ : ByteArray)]) (C' := [.string (⟨#[88]⟩ : ByteArray), .int .i64 1, .int .i64 3, .string (⟨#[]⟩ : ByteArray)]) rfl rfl rfl rfl rfl (fill_nil)))) rfl ?_
 refine lq (q_build (vs := [(0, .int .i64 1), (1, .int .i64 2)]) (C := #[.int .i64 1, .int .i64 2, .string (⟨#[]⟩ : ByteArray)]) Pl_79 Zr_79 rfl (fill_cons (cells := [.int .i64 0, .int .i64 0, .string ⟨#[]⟩]) (c := [.int .i64 1]) (C' := [.int .i64 1, .int .i64 0, .string ⟨#[]⟩]) rfl rfl rfl rfl rfl (fill_cons (cells := [.int .i64 1, .int .i64 0, .string ⟨#[]⟩]) (c := [.int .i64 2]) (C' := [.int .i64 1, .int .i64 2, .string ⟨#[]⟩]) rfl rfl rfl rfl rfl (fill_nil)))) rfl ?_
 refine lq (q_build (vs := [(0, .string (⟨#[89]⟩ : ByteArray)), (1, .agg [.int .i64 1, .int .i64 2, .string (⟨#[]⟩ : ByteArray)].toArray)]) (C := #[.string (⟨#[89]⟩ : ByteArray), .int .i64 1, .int .i64 2, .string (⟨#[]⟩ : ByteArray)]) Pl_142 Zr_142 rfl (fill_cons (cells := [.string ⟨#[]⟩, .int .i64 0, .int .i64 0, .string ⟨#[]⟩]) (c := [.string (⟨#[89]⟩ : ByteArray)]) (C' := [.string (⟨#[89]⟩ : ByteArray), .int .i64 0, .int .i64 0, .string ⟨#[]⟩]) rfl rfl rfl rfl rfl (fill_cons (cells := [.string (⟨#[89]⟩ : ByteArray), .int .i64 0, .int .i64 0, .string ⟨#[]⟩]) (c := [.int .i64 1, .int .i64 2, .string (⟨#[]⟩ : ByteArray)]) (C' := [.string (⟨#[89]⟩ : ByteArray), .int .i64 1, .int .i64 2, .string (⟨#[]⟩ : ByteArray)]) rfl rfl rfl rfl rfl (fill_nil)))) rfl ?_
 have rc3 : RC RTBind 4 Φ_8 ([[], []] : List (List Nat)) [.string (⟨#[88]⟩ : ByteArray), .int .i64 1, .int .i64 3, .string (⟨#[]⟩ : ByteArray), .string (⟨#[89]⟩ : ByteArray), .int .i64 1, .int .i64 2, .string (⟨#[]⟩ : ByteArray)] ([(⟨(⟨#[88]⟩ : ByteArray), (⟨1, 3, (⟨#[]⟩ : ByteArray)⟩ : TVal)⟩ : TBind), (⟨(⟨#[89]⟩ : ByteArray), (⟨1, 2, (⟨#[]⟩ : ByteArray)⟩ : TVal)⟩ : TBind)] : List TBind) := RC.cons (c := [.string (⟨#[88]⟩ : ByteArray), .int .i64 1, .int .i64 3, .string (⟨#[]⟩ : ByteArray)]) (cells := [.string (⟨#[89]⟩ : ByteArray), .int .i64 1, .int .i64 2, .string (⟨#[]⟩ : ByteArray)]) ⟨rfl, rfl⟩ rfl (RC.cons (c := [.string (⟨#[89]⟩ : ByteArray), .int .i64 1, .int .i64 2, .string (⟨#[]⟩ : ByteArray)]) (cells := []) ⟨rfl, rfl⟩ rfl (RC.nil _ _ _))
 refine le' (e_lit (vs := [(0, .agg [.string (⟨#[88]⟩ : ByteArray), .int .i64 1, .int .i64 3, .string (⟨#[]⟩ : ByteArray)].toArray), (1, .agg [.string (⟨#[89]⟩ : ByteArray), .int .i64 1, .int .i64 2, .string (⟨#[]⟩ : ByteArray)].toArray)]) (C := #[.string (⟨#[88]⟩ : ByteArray), .int .i64 1, .int .i64 3, .string (⟨#[]⟩ : ByteArray), .string (⟨#[89]⟩ : ByteArray), .int .i64 1, .int .i64 2, .string (⟨#[]⟩ : ByteArray)]) RTBind.lasts Sl_28 Zr_142 rfl rfl rfl rfl (fill_made MC_142_2 (fill_cons (cells := [.string ⟨#[]⟩, .int .i64 0, .int .i64 0, .string ⟨#[]⟩, .string ⟨#[]⟩, .int .i64 0, .int .i64 0, .string ⟨#[]⟩]) (c := [.string (⟨#[88]⟩ : ByteArray), .int .i64 1, .int .i64 3, .string (⟨#[]⟩ : ByteArray)]) (C' := [.string (⟨#[88]⟩ : ByteArray), .int .i64 1, .int .i64 3, .string (⟨#[]⟩ : ByteArray), .string ⟨#[]⟩, .int .i64 0, .int .i64 0, .string ⟨#[]⟩]) rfl rfl rfl rfl rfl (fill_cons (cells := [.string (⟨#[88]⟩ : ByteArray), .int .i64 1, .int .i64 3, .string (⟨#[]⟩ : ByteArray), .string ⟨#[]⟩, .int .i64 0, .int .i64 0, .string ⟨#[]⟩]) (c := [.string (⟨#[89]⟩ : ByteArray), .int .i64 1, .int .i64 2, .string (⟨#[]⟩ : ByteArray)]) (C' := [.string (⟨#[88]⟩ : ByteArray), .int .i64 1, .int .i64 3, .string (⟨#[]⟩ : ByteArray), .string (⟨#[89]⟩ : ByteArray), .int .i64 1, .int .i64 2, .string (⟨#[]⟩ : ByteArray)]) rfl rfl rfl rfl rfl (fill_nil)))) rfl rc3 rfl (by simpa using Kw.nil)) rfl (fun v10 Φ_9 D4 q8 => ?_)
 obtain ⟨fr8, h10⟩ := q8
 replace h10 : OSl RTBind 142 4 Φ_9 [] v10 ([(⟨(⟨#[88]⟩ : ByteArray), (⟨1, 3, (⟨#[]⟩ : ByteArray)⟩ : TVal)⟩ : TBind), (⟨(⟨#[89]⟩ : ByteArray), (⟨1, 2, (⟨#[]⟩ : ByteArray)⟩ : TVal)⟩ : TBind)] : List TBind) := by simpa using h10
 replace k1 := k1.frame RTExpr.lasts fr8 (Dj.empty _) (Dj.empty _)
 replace h8 := h8.frame RTBind.lasts fr8 (Dj.empty _) (Dj.empty _)
 obtain ⟨x6, hx6, h⟩ := bind_some h
 refine le' (e_appF RTBind.lasts RTBind.one RTBind.flat Sl_28 Ei_142 rfl rfl rfl rfl rfl (js := [1]) (Rr := [ob v10, [b_1], ob u1]) rfl h8 h10.rsl hx6) rfl (fun v11 Φ_10 D5 q9 => ?_)
 obtain ⟨⟨ap6, fr9⟩, h11⟩ := q9
 replace k1 := k1.frame RTExpr.lasts fr9 (ap6.r (i := 2) rfl) (Dj.nil _)
 refine lq (q_assign rfl) rfl <| lq (q_assign rfl) rfl <| WL.nil ?_
 refine WT.ret Try.func42 (resOk.two rfl rfl) (fun w1 hw => ?_)
 subst hb0
 cases h
 refine postG_of_St (js := [3, 0]) hw rfl ⟨u1, v11, rfl, rfl, k1, h11⟩
theorem m_i_BindOf_ok {Φ : Hp} {w : World} (hΦ : In Φ w) (N : Nat) (p0 : (List TBind)) (p1 : ByteArray) {pv0 : Value} {pG0 : List Nat} (ph0 : RSl RTBind 4 Φ pG0 pv0 p0) {r : TVal × Bool} (h : m_i_BindOf N p0 p1 = some r) :
  Calls Try.prog 90 [pv0, .string p1].toArray w (Post (.tuple #[.agg [.int .i64 r.1.K, .int .i64 r.1.N, .string r.1.S].toArray, .bool r.2]) w) := by
 refine enter Try.func90 rfl Try.ntmps90 rfl (St.start0 hΦ) ?_
 generalize hb0 : (⟨w, [], Φ⟩ : Base) = w0
 unfold m_i_BindOf at h
 refine WT.seq <| WT.region ?_
 refine ln (n_alloc (C := #[.int .i64 0, .int .i64 0, .string (⟨#[]⟩ : ByteArray)]) Zr_79 rfl) rfl (fun b_1 => ?_)
 refine lq (q_assign rfl) rfl <| WL.nil <| WT.seq <| WT.seq <| WT.region <| lq (q_move rfl) rfl <| lq (q_lenR Sl_28 rfl rfl ph0) rfl <| lq (q_move rfl) rfl <| WL.nil <| WT.block <| WT.loop <| WT.mono (l' := [(1, .string p1), (4, .pointer (some ⟨b_1, 0, none⟩)), (8, pv0), (9, .int .i64 (p0.length : Int)), (10, .int .i64 0)]) (S' := St w0 Φ [(b_1, .cells #[.int .i64 0, .int .i64 0, .string (⟨#[]⟩ : ByteArray)] 79 (0, 0))] []) ⟨rfl, rfl, rfl, rfl, rfl, trivial⟩ (fun w1 hw => (hw.sel (js := []) rfl).selO (js := [0]) rfl) ?_
 refine loop_ind (σ := Int) (fun s => [(1, .string p1), (4, .pointer (some ⟨b_1, 0, none⟩)), (8, pv0), (9, .int .i64 (p0.length : Int)), (10, .int .i64 s)]) (fun s => St w0 Φ [(b_1, .cells #[.int .i64 0, .int .i64 0, .string (⟨#[]⟩ : ByteArray)] 79 (0, 0))] []) (fun m s => m_i_BindOf_l1 N p0 p1 m s = some r) (fun s hm => none_ne (show (none : Option (TVal × Bool)) = some r from hm)) (fun n1 ih1 s hm => ?_) N (0) h
 revert hm; revert s; intro s1 hm
 have h : m_i_BindOf_l1 N p0 p1 (n1 + 1) s1 = some r := hm
 show WT _ _ [(1, .string p1), (4, .pointer (some ⟨b_1, 0, none⟩)), (8, pv0), (9, .int .i64 (p0.length : Int)), (10, .int .i64 s1)] (St w0 Φ [(b_1, .cells #[.int .i64 0, .int .i64 0, .string (⟨#[]⟩ : ByteArray)] 79 (0, 0))] [])
 unfold m_i_BindOf_l1 at h
 refine WT.seq <| WT.region <| lq (q_lss rfl rfl) rfl <| WL.nil <| WT.seq ?_
 refine WT.cond rfl (fun c1 => ?_) (fun c1 => ?_)
 ·replace h := ite_t h c1
  refine WT.skip <| WT.seq <| WT.block <| WT.seq <| WT.region ?_
  obtain ⟨x1, hx1, h⟩ := bind_some h
  obtain ⟨cs1, F1, -, g1, hb1, hs1, r1⟩ := ph0.el (idx_some hx1).2.2
  obtain ⟨rfl, -⟩ := r1
  refine lq (q_indexAddr Sl_28 rfl rfl ph0 hx1) rfl <| lq (q_loadN Tn_142 rfl (fun w1 hw => (g1.of_eq 0 4 rfl rfl : rg _ _ _ [.string x1.Name, .int .i64 x1.V.K, .int .i64 x1.V.N, .string x1.V.S]).rangeAt hw.fro) rfl) rfl ?_
  refine ln (n_alloc (C := #[.string (⟨#[]⟩ : ByteArray), .int .i64 0, .int .i64 0, .string (⟨#[]⟩ : ByteArray)]) Zr_142 rfl) rfl (fun b_2 => ?_)
  refine ls (s_store (i := 0) (vs := [.string x1.Name, .int .i64 x1.V.K, .int .i64 x1.V.N, .string x1.V.S]) (C' := [.string x1.Name, .int .i64 x1.V.K, .int .i64 x1.V.N, .string x1.V.S]) (O' := [(b_2, .cells #[.string x1.Name, .int .i64 x1.V.K, .int .i64 x1.V.N, .string x1.V.S] 142 (0, 0)), (b_1, .cells #[.int .i64 0, .int .i64 0, .string (⟨#[]⟩ : ByteArray)] 79 (0, 0))]) Sz_142 rfl rfl rfl rfl rfl rfl ⟨rfl, rfl, rfl, rfl, trivial⟩ rfl rfl) rfl ?_
  refine WL.nil <| WT.seq <| WT.region <| lq (q_fieldAddr Fld_142_0 rfl) rfl <| lq (q_load1 T1_9 rfl (fun w1 hw => hw.rgO (i := 0) rfl 0 1 [.string x1.Name] rfl)) rfl <| lq (q_move rfl) rfl <| lq (q_seq rfl rfl) rfl <| WL.nil ?_
  refine WT.cond rfl (fun c2 => ?_) (fun c2 => ?_)
  ·replace h := ite_t h c2
   refine WT.seq <| WT.region <| lq (q_fieldAddr Fld_142_1 rfl) rfl <| lq (q_loadN Tn_79 rfl (fun w1 hw => hw.rgO (i := 0) rfl 1 3 [.int .i64 x1.V.K, .int .i64 x1.V.N, .string x1.V.S] rfl) rfl) rfl <| ls (s_store (i := 1) (vs := [.int .i64 x1.V.K, .int .i64 x1.V.N, .string x1.V.S]) (C' := [.int .i64 x1.V.K, .int .i64 x1.V.N, .string x1.V.S]) (O' := [(b_2, .cells #[.string x1.Name, .int .i64 x1.V.K, .int .i64 x1.V.N, .string x1.V.S] 142 (0, 0)), (b_1, .cells #[.int .i64 x1.V.K, .int .i64 x1.V.N, .string x1.V.S] 79 (0, 0))]) Sz_79 rfl rfl rfl rfl rfl rfl ⟨rfl, rfl, rfl, trivial⟩ rfl rfl) rfl ?_
   refine lq (q_assign rfl) rfl <| WL.nil ?_
   refine WT.ret Try.func90 (resOk.two (rv_cell Tn_79 rfl (fun w1 hw => hw.rgO (i := 1) rfl 0 3 [.int .i64 x1.V.K, .int .i64 x1.V.N, .string x1.V.S] rfl) rfl) rfl) (fun w1 hw => ?_)
   subst hb0
   cases h
   exact post_of_St hw
  replace h := ite_f h c2
  refine WT.skip <| WT.inBlock <| WT.region <| lq (q_add rfl rfl) rfl <| lq (q_move rfl) rfl <| WL.nil ?_
  refine WT.inLoop (WT.mono (l' := [(1, .string p1), (4, .pointer (some ⟨b_1, 0, none⟩)), (8, pv0), (9, .int .i64 (p0.length : Int)), (10, .int .i64 (IntKind.i64.wrap (s1 + 1)))]) (S' := St w0 Φ [(b_1, .cells #[.int .i64 0, .int .i64 0, .string (⟨#[]⟩ : ByteArray)] 79 (0, 0))] []) ⟨rfl, rfl, rfl, rfl, rfl, trivial⟩ (fun w1 hw => (hw.sel (js := []) rfl).selO (js := [1]) rfl) ?_)
  exact ih1 (IntKind.i64.wrap (s1 + 1)) h
 replace h := ite_f h c1
 refine WT.exit rfl <| WT.seq <| WT.region <| lq (q_build (vs := []) (C := #[.int .i64 0, .int .i64 0, .string (⟨#[]⟩ : ByteArray)]) Pl_79 Zr_79 rfl (fill_nil)) rfl <| ls (s_store (i := 0) (vs := [.int .i64 0, .int .i64 0, .string (⟨#[]⟩ : ByteArray)]) (C' := [.int .i64 0, .int .i64 0, .string (⟨#[]⟩ : ByteArray)]) (O' := [(b_1, .cells #[.int .i64 0, .int .i64 0, .string (⟨#[]⟩ : ByteArray)] 79 (0, 0))]) Sz_79 rfl rfl rfl rfl rfl rfl ⟨rfl, rfl, rfl, trivial⟩ rfl rfl) rfl ?_
 refine lq (q_assign rfl) rfl <| WL.nil ?_
 refine WT.ret Try.func90 (resOk.two (rv_cell Tn_79 rfl (fun w1 hw => hw.rgO (i := 0) rfl 0 3 [.int .i64 0, .int .i64 0, .string (⟨#[]⟩ : ByteArray)] rfl) rfl) rfl) (fun w1 hw => ?_)
 subst hb0
 cases h
 exact post_of_St hw
theorem m_i_ArgVal_ok {Φ : Hp} {w : World} (hΦ : In Φ w) (N : Nat) (p0 : TArg) (p1 : (List TBind)) {pv1 : Value} {pG1 : List Nat} (ph1 : RSl RTBind 4 Φ pG1 pv1 p1) {r : TVal × Bool} (h : m_i_ArgVal N p0 p1 = some r) :
  Calls Try.prog 114 [.agg [.int .i64 p0.K, .string p0.S, .int .i64 p0.V.K, .int .i64 p0.V.N, .string p0.V.S].toArray, pv1].toArray w (Post (.tuple #[.agg [.int .i64 r.1.K, .int .i64 r.1.N, .string r.1.S].toArray, .bool r.2]) w) := by
 refine enter Try.func114 rfl Try.ntmps114 rfl (St.start0 hΦ) ?_
 unfold m_i_ArgVal at h
 refine WT.seq <| WT.region ?_
 refine ln (n_box (C := #[.int .i64 p0.K, .string p0.S, .int .i64 p0.V.K, .int .i64 p0.V.N, .string p0.V.S]) rfl rfl) rfl (fun b_1 => ?_)
 refine ln (n_alloc (C := #[.int .i64 0, .int .i64 0, .string (⟨#[]⟩ : ByteArray)]) Zr_79 rfl) rfl (fun b_2 => ?_)
 refine lq (q_assign rfl) rfl <| WL.nil <| WT.seq <| WT.seq <| WT.region <| lq (q_fieldAddr Fld_83_0 rfl) rfl <| lq (q_load1 T1_3 rfl (fun w1 hw => hw.rgO (i := 1) rfl 0 1 [.int .i64 p0.K] rfl)) rfl <| WL.nil <| WT.block <| WT.seq <| WT.region <| lq (q_eql rfl rfl) rfl <| lq (q_assign rfl) rfl <| WL.nil ?_
 refine WT.cond rfl (fun c1 => ?_) (fun c1 => ?_)
 ·replace h := ite_t h c1
  refine WT.seq <| WT.region <| lq (q_fieldAddr Fld_83_2 rfl) rfl <| lq (q_loadN Tn_79 rfl (fun w1 hw => hw.rgO (i := 1) rfl 2 3 [.int .i64 p0.V.K, .int .i64 p0.V.N, .string p0.V.S] rfl) rfl) rfl <| ls (s_store (i := 0) (vs := [.int .i64 p0.V.K, .int .i64 p0.V.N, .string p0.V.S]) (C' := [.int .i64 p0.V.K, .int .i64 p0.V.N, .string p0.V.S]) (O' := [(b_2, .cells #[.int .i64 p0.V.K, .int .i64 p0.V.N, .string p0.V.S] 79 (0, 0)), (b_1, .cells #[.int .i64 p0.K, .string p0.S, .int .i64 p0.V.K, .int .i64 p0.V.N, .string p0.V.S] 83 (0, 0))]) Sz_79 rfl rfl rfl rfl rfl rfl ⟨rfl, rfl, rfl, trivial⟩ rfl rfl) rfl ?_
  refine lq (q_assign rfl) rfl <| WL.nil ?_
  refine WT.ret Try.func114 (resOk.two (rv_cell Tn_79 rfl (fun w1 hw => hw.rgO (i := 0) rfl 0 3 [.int .i64 p0.V.K, .int .i64 p0.V.N, .string p0.V.S] rfl) rfl) rfl) (fun w1 hw => ?_)
  cases h
  exact post_of_St hw
 replace h := ite_f h c1
 refine WT.seq <| WT.region <| lq (q_eql rfl rfl) rfl <| lq (q_assign rfl) rfl <| WL.nil ?_
 refine WT.cond rfl (fun c2 => ?_) (fun c2 => ?_)
 ·replace h := ite_t h c2
  refine WT.seq <| WT.region <| lq (q_move rfl) rfl <| lq (q_fieldAddr Fld_83_1 rfl) rfl <| lq (q_load1 T1_9 rfl (fun w1 hw => hw.rgO (i := 1) rfl 1 1 [.string p0.S] rfl)) rfl ?_
  obtain ⟨x1, hx1, h⟩ := bind_some h
  refine lp (p_call Fun_90 rfl (fun w1 hw => m_i_BindOf_ok hw.fro N p1 p0.S ph1 hx1)) rfl <| lq (q_extract rfl rfl) rfl <| lq (q_extract rfl rfl) rfl <| ls (s_store (i := 0) (vs := [.int .i64 x1.1.K, .int .i64 x1.1.N, .string x1.1.S]) (C' := [.int .i64 x1.1.K, .int .i64 x1.1.N, .string x1.1.S]) (O' := [(b_2, .cells #[.int .i64 x1.1.K, .int .i64 x1.1.N, .string x1.1.S] 79 (0, 0)), (b_1, .cells #[.int .i64 p0.K, .string p0.S, .int .i64 p0.V.K, .int .i64 p0.V.N, .string p0.V.S] 83 (0, 0))]) Sz_79 rfl rfl rfl rfl rfl rfl ⟨rfl, rfl, rfl, trivial⟩ rfl rfl) rfl ?_
  refine lq (q_assign rfl) rfl <| WL.nil ?_
  refine WT.ret Try.func114 (resOk.two (rv_cell Tn_79 rfl (fun w1 hw => hw.rgO (i := 0) rfl 0 3 [.int .i64 x1.1.K, .int .i64 x1.1.N, .string x1.1.S] rfl) rfl) rfl) (fun w1 hw => ?_)
  cases h
  exact post_of_St hw
 replace h := ite_f h c2
 refine WT.skip <| WT.inBlock <| WT.seq <| WT.region <| lq (q_build (vs := []) (C := #[.int .i64 0, .int .i64 0, .string (⟨#[]⟩ : ByteArray)]) Pl_79 Zr_79 rfl (fill_nil)) rfl <| ls (s_store (i := 0) (vs := [.int .i64 0, .int .i64 0, .string (⟨#[]⟩ : ByteArray)]) (C' := [.int .i64 0, .int .i64 0, .string (⟨#[]⟩ : ByteArray)]) (O' := [(b_2, .cells #[.int .i64 0, .int .i64 0, .string (⟨#[]⟩ : ByteArray)] 79 (0, 0)), (b_1, .cells #[.int .i64 p0.K, .string p0.S, .int .i64 p0.V.K, .int .i64 p0.V.N, .string p0.V.S] 83 (0, 0))]) Sz_79 rfl rfl rfl rfl rfl rfl ⟨rfl, rfl, rfl, trivial⟩ rfl rfl) rfl ?_
 refine lq (q_assign rfl) rfl <| WL.nil ?_
 refine WT.ret Try.func114 (resOk.two (rv_cell Tn_79 rfl (fun w1 hw => hw.rgO (i := 0) rfl 0 3 [.int .i64 0, .int .i64 0, .string (⟨#[]⟩ : ByteArray)] rfl) rfl) rfl) (fun w1 hw => ?_)
 cases h
 exact post_of_St hw
theorem m_i_inRange_ok {Φ : Hp} {w : World} (hΦ : In Φ w) (N : Nat) (p0 : Int) (p1 : Int) (p2 : Int)   {r : Bool} (h : m_i_inRange N p0 p1 p2 = some r) :
  Calls Try.prog 117 [.int .i64 p0, .int .i64 p1, .int .i64 p2].toArray w (Post (.bool r) w) := by
 refine enter Try.func117 rfl Try.ntmps117 rfl (St.start0 hΦ) ?_
 unfold m_i_inRange at h
 refine WT.seq <| WT.region <| lq (q_assign rfl) rfl <| WL.nil <| WT.seq <| WT.region <| lq (q_move rfl) rfl <| lq (q_move rfl) rfl <| lq (q_geq rfl rfl) rfl <| lq (q_move rfl) rfl ?_
 obtain ⟨b1, hb_1, h⟩ := bind_some h
 refine WL.cutN 4 [(14, .bool b1), (6, .bool false)] ?_ (fun K => ?_)
 rotate_left
 ·refine WL.split (d := 10) rfl (fun c1 => ?_) (fun c1 => ?_)
  ·replace hb_1 := ite_t hb_1 c1
   refine WL.yes rfl rfl <| lq (q_move rfl) rfl <| WL.yes rfl rfl <| lq (q_move rfl) rfl <| WL.yes rfl rfl <| lq (q_leq rfl rfl) rfl <| WL.q (q_pick1 rfl rfl) rfl rfl rfl ?_
   cases hb_1
   exact WL.keep (by exact ⟨rfl, rfl, trivial⟩) K
  ·replace hb_1 := ite_f hb_1 c1
   refine WL.no rfl rfl rfl rfl <| WL.no rfl rfl rfl rfl <| WL.no rfl rfl rfl rfl <| WL.q (q_pick0 rfl rfl) rfl rfl rfl ?_
   cases hb_1
   exact WL.keep (by exact ⟨rfl, rfl, trivial⟩) K
 refine lq (q_assign rfl) rfl <| WL.nil ?_
 refine WT.ret Try.func117 (resOk.one rfl) (fun w1 hw => ?_)
 cases h
 exact post_of_St hw
theorem m_i_isSmall_ok {Φ : Hp} {w : World} (hΦ : In Φ w) (N : Nat) (p0 : Int)   {r : Bool} (h : m_i_isSmall N p0 = some r) :
  Calls Try.prog 198 [.int .u8 p0].toArray w (Post (.bool r) w) := by
 refine enter Try.func198 rfl Try.ntmps198 rfl (St.start0 hΦ) ?_
 unfold m_i_isSmall at h
 refine WT.seq <| WT.region <| lq (q_assign rfl) rfl <| WL.nil <| WT.seq <| WT.region <| lq (q_move rfl) rfl <| lq (q_geq rfl rfl) rfl <| lq (q_move rfl) rfl ?_
 obtain ⟨b1, hb_1, h⟩ := bind_some h
 refine WL.cutN 3 [(8, .bool b1), (2, .bool false)] ?_ (fun K => ?_)
 rotate_left
 ·refine WL.split (d := 5) rfl (fun c1 => ?_) (fun c1 => ?_)
  ·replace hb_1 := ite_t hb_1 c1
   refine WL.yes rfl rfl <| lq (q_move rfl) rfl <| WL.yes rfl rfl <| lq (q_leq rfl rfl) rfl <| WL.q (q_pick1 rfl rfl) rfl rfl rfl ?_
   cases hb_1
   exact WL.keep (by exact ⟨rfl, rfl, trivial⟩) K
  ·replace hb_1 := ite_f hb_1 c1
   refine WL.no rfl rfl rfl rfl <| WL.no rfl rfl rfl rfl <| WL.q (q_pick0 rfl rfl) rfl rfl rfl ?_
   cases hb_1
   exact WL.keep (by exact ⟨rfl, rfl, trivial⟩) K
 refine lq (q_assign rfl) rfl <| WL.nil ?_
 refine WT.ret Try.func198 (resOk.one rfl) (fun w1 hw => ?_)
 cases h
 exact post_of_St hw
theorem m_i_isDigit_ok {Φ : Hp} {w : World} (hΦ : In Φ w) (N : Nat) (p0 : Int)   {r : Bool} (h : m_i_isDigit N p0 = some r) :
  Calls Try.prog 199 [.int .u8 p0].toArray w (Post (.bool r) w) := by
 refine enter Try.func199 rfl Try.ntmps199 rfl (St.start0 hΦ) ?_
 unfold m_i_isDigit at h
 refine WT.seq <| WT.region <| lq (q_assign rfl) rfl <| WL.nil <| WT.seq <| WT.region <| lq (q_move rfl) rfl <| lq (q_geq rfl rfl) rfl <| lq (q_move rfl) rfl ?_
 obtain ⟨b1, hb_1, h⟩ := bind_some h
 refine WL.cutN 3 [(8, .bool b1), (2, .bool false)] ?_ (fun K => ?_)
 rotate_left
 ·refine WL.split (d := 5) rfl (fun c1 => ?_) (fun c1 => ?_)
  ·replace hb_1 := ite_t hb_1 c1
   refine WL.yes rfl rfl <| lq (q_move rfl) rfl <| WL.yes rfl rfl <| lq (q_leq rfl rfl) rfl <| WL.q (q_pick1 rfl rfl) rfl rfl rfl ?_
   cases hb_1
   exact WL.keep (by exact ⟨rfl, rfl, trivial⟩) K
  ·replace hb_1 := ite_f hb_1 c1
   refine WL.no rfl rfl rfl rfl <| WL.no rfl rfl rfl rfl <| WL.q (q_pick0 rfl rfl) rfl rfl rfl ?_
   cases hb_1
   exact WL.keep (by exact ⟨rfl, rfl, trivial⟩) K
 refine lq (q_assign rfl) rfl <| WL.nil ?_
 refine WT.ret Try.func199 (resOk.one rfl) (fun w1 hw => ?_)
 cases h
 exact post_of_St hw
theorem m_i_isWordByte_ok {Φ : Hp} {w : World} (hΦ : In Φ w) (N : Nat) (p0 : Int)   {r : Bool} (h : m_i_isWordByte N p0 = some r) :
  Calls Try.prog 167 [.int .u8 p0].toArray w (Post (.bool r) w) := by
 refine enter Try.func167 rfl Try.ntmps167 rfl (St.start0 hΦ) ?_
 unfold m_i_isWordByte at h
 refine WT.seq <| WT.region <| lq (q_assign rfl) rfl <| WL.nil <| WT.seq <| WT.region <| lq (q_move rfl) rfl ?_
 obtain ⟨x1, hx1, h⟩ := bind_some h
 refine lp (p_call Fun_198 rfl (fun w1 hw => m_i_isSmall_ok hw.fro N p0 hx1)) rfl <| lq (q_move rfl) rfl ?_
 obtain ⟨b1, hb_1, h⟩ := bind_some h
 refine WL.cutN 3 [(8, .bool b1), (0, .int .u8 p0), (2, .bool false)] ?_ (fun K => ?_)
 rotate_left
 ·refine WL.split (d := 5) rfl (fun c1 => ?_) (fun c1 => ?_)
  ·replace hb_1 := ite_t hb_1 c1
   refine WL.no rfl rfl rfl rfl <| WL.no rfl rfl rfl rfl <| WL.q (q_pick1 rfl rfl) rfl rfl rfl ?_
   cases hb_1
   exact WL.keep (by exact ⟨rfl, rfl, rfl, trivial⟩) K
  ·replace hb_1 := ite_f hb_1 c1
   refine WL.yes rfl rfl <| lq (q_move rfl) rfl <| WL.yes rfl rfl ?_
   obtain ⟨x2, hx2, hb_1⟩ := bind_some hb_1
   refine lp (p_call Fun_199 rfl (fun w1 hw => m_i_isDigit_ok hw.fro N p0 hx2)) rfl <| WL.q (q_pick0 rfl rfl) rfl rfl rfl ?_
   cases hb_1
   exact WL.keep (by exact ⟨rfl, rfl, rfl, trivial⟩) K
 refine lq (q_move rfl) rfl ?_
 obtain ⟨b2, hb_2, h⟩ := bind_some h
 refine WL.cutN 3 [(12, .bool b2), (2, .bool false)] ?_ (fun K => ?_)
 rotate_left
 ·refine WL.split (d := 9) rfl (fun c2 => ?_) (fun c2 => ?_)
  ·replace hb_2 := ite_t hb_2 c2
   refine WL.no rfl rfl rfl rfl <| WL.no rfl rfl rfl rfl <| WL.q (q_pick1 rfl rfl) rfl rfl rfl ?_
   cases hb_2
   exact WL.keep (by exact ⟨rfl, rfl, trivial⟩) K
  ·replace hb_2 := ite_f hb_2 c2
   refine WL.yes rfl rfl <| lq (q_move rfl) rfl <| WL.yes rfl rfl <| lq (q_eql rfl rfl) rfl <| WL.q (q_pick0 rfl rfl) rfl rfl rfl ?_
   cases hb_2
   exact WL.keep (by exact ⟨rfl, rfl, trivial⟩) K
 refine lq (q_assign rfl) rfl <| WL.nil ?_
 refine WT.ret Try.func167 (resOk.one rfl) (fun w1 hw => ?_)
 cases h
 exact post_of_St hw
theorem m_i_isWord_ok {Φ : Hp} {w : World} (hΦ : In Φ w) (N : Nat) (p0 : ByteArray) (p1 : Int)   {r : Bool} (h : m_i_isWord N p0 p1 = some r) :
  Calls Try.prog 118 [.string p0, .int .i64 p1].toArray w (Post (.bool r) w) := by
 refine enter Try.func118 rfl Try.ntmps118 rfl (St.start0 hΦ) ?_
 generalize hb0 : (⟨w, [], Φ⟩ : Base) = w0
 unfold m_i_isWord at h
 refine WT.seq <| WT.region <| lq (q_assign rfl) rfl <| WL.nil <| WT.seq <| WT.seq <| WT.region <| lq (q_move rfl) rfl <| lq (q_lenS Str_9 rfl rfl) rfl <| lq (q_move rfl) rfl <| lq (q_gtr rfl rfl) rfl <| WL.nil ?_
 refine WT.cond rfl (fun c1 => ?_) (fun c1 => ?_)
 ·replace h := ite_t h c1
  refine WT.seq <| WT.region <| lq (q_assign rfl) rfl <| WL.nil ?_
  refine WT.ret Try.func118 (resOk.one rfl) (fun w1 hw => ?_)
  subst hb0
  cases h
  exact post_of_St hw
 replace h := ite_f h c1
 refine WT.skip <| WT.seq <| WT.seq <| WT.region <| lq (q_assign rfl) rfl <| WL.nil <| WT.block <| WT.loop <| WT.mono (l' := [(0, .string p0), (5, .int .i64 0)]) (S' := St w0 Φ [] []) ⟨rfl, rfl, trivial⟩ (fun w1 hw => (hw.sel (js := []) rfl).selO (js := []) rfl) ?_
 refine loop_ind (σ := Int) (fun s => [(0, .string p0), (5, .int .i64 s)]) (fun s => St w0 Φ [] []) (fun m s => m_i_isWord_l1 N p0 m s = some r) (fun s hm => none_ne (show (none : Option (Bool)) = some r from hm)) (fun n1 ih1 s hm => ?_) N (0) h
 revert hm; revert s; intro s1 hm
 have h : m_i_isWord_l1 N p0 (n1 + 1) s1 = some r := hm
 show WT _ _ [(0, .string p0), (5, .int .i64 s1)] (St w0 Φ [] [])
 unfold m_i_isWord_l1 at h
 refine WT.seq <| WT.seq <| WT.region <| lq (q_move rfl) rfl <| lq (q_move rfl) rfl <| lq (q_lenS Str_9 rfl rfl) rfl <| lq (q_lss rfl rfl) rfl <| WL.nil ?_
 refine WT.cond rfl (fun c2 => ?_) (fun c2 => ?_)
 ·replace h := ite_t h c2
  refine WT.skip <| WT.seq <| WT.block <| WT.seq <| WT.region <| lq (q_move rfl) rfl <| lq (q_move rfl) rfl ?_
  obtain ⟨y1, hy1, h⟩ := bind_some h
  refine lq (q_indexS Str_9 rfl rfl hy1) rfl ?_
  obtain ⟨x1, hx1, h⟩ := bind_some h
  refine lp (p_call Fun_167 rfl (fun w1 hw => m_i_isWordByte_ok hw.fro N (y1.toNat : Int) hx1)) rfl <| lq (q_not rfl) rfl <| WL.nil ?_
  refine WT.cond rfl (fun c3 => ?_) (fun c3 => ?_)
  ·replace h := ite_t h c3
   refine WT.seq <| WT.region <| lq (q_assign rfl) rfl <| WL.nil ?_
   refine WT.ret Try.func118 (resOk.one rfl) (fun w1 hw => ?_)
   subst hb0
   cases h
   exact post_of_St hw
  replace h := ite_f h c3
  refine WT.skip <| WT.inBlock <| WT.region <| lq (q_move rfl) rfl <| lq (q_add rfl rfl) rfl <| lq (q_assign rfl) rfl <| WL.nil ?_
  refine WT.inLoop (WT.mono (l' := [(0, .string p0), (5, .int .i64 (IntKind.i64.wrap (s1 + 1)))]) (S' := St w0 Φ [] []) ⟨rfl, rfl, trivial⟩ (fun w1 hw => (hw.sel (js := []) rfl).selO (js := []) rfl) ?_)
  exact ih1 (IntKind.i64.wrap (s1 + 1)) h
 replace h := ite_f h c2
 refine WT.exit rfl <| WT.seq <| WT.region <| lq (q_assign rfl) rfl <| WL.nil ?_
 refine WT.ret Try.func118 (resOk.one rfl) (fun w1 hw => ?_)
 subst hb0
 cases h
 exact post_of_St hw
theorem m_i_ValOk_ok {Φ : Hp} {w : World} (hΦ : In Φ w) (N : Nat) (p0 : TVal)   {r : Bool} (h : m_i_ValOk N p0 = some r) :
  Calls Try.prog 45 [.agg [.int .i64 p0.K, .int .i64 p0.N, .string p0.S].toArray].toArray w (Post (.bool r) w) := by
 refine enter Try.func45 rfl Try.ntmps45 rfl (St.start0 hΦ) ?_
 unfold m_i_ValOk at h
 refine WT.seq <| WT.region ?_
 refine ln (n_box (C := #[.int .i64 p0.K, .int .i64 p0.N, .string p0.S]) rfl rfl) rfl (fun b_1 => ?_)
 refine lq (q_assign rfl) rfl <| WL.nil <| WT.seq <| WT.seq <| WT.region <| lq (q_fieldAddr Fld_79_0 rfl) rfl <| lq (q_load1 T1_3 rfl (fun w1 hw => hw.rgO (i := 0) rfl 0 1 [.int .i64 p0.K] rfl)) rfl <| WL.nil <| WT.block <| WT.seq <| WT.region <| lq (q_eql rfl rfl) rfl <| lq (q_assign rfl) rfl <| WL.nil ?_
 refine WT.cond rfl (fun c1 => ?_) (fun c1 => ?_)
 ·replace h := ite_t h c1
  refine WT.seq <| WT.region <| lq (q_fieldAddr Fld_79_1 rfl) rfl <| lq (q_load1 T1_3 rfl (fun w1 hw => hw.rgO (i := 0) rfl 1 1 [.int .i64 p0.N] rfl)) rfl ?_
  obtain ⟨x1, hx1, h⟩ := bind_some h
  refine lp (p_call Fun_117 rfl (fun w1 hw => m_i_inRange_ok hw.fro N p0.N (-1000000000) 1000000000 hx1)) rfl <| lq (q_move rfl) rfl ?_
  obtain ⟨b1, hb_1, h⟩ := bind_some h
  refine WL.cutN 4 [(14, .bool b1), (2, .bool false)] ?_ (fun K => ?_)
  rotate_left
  ·refine WL.split (d := 10) rfl (fun c2 => ?_) (fun c2 => ?_)
   ·replace hb_1 := ite_t hb_1 c2
    refine WL.yes rfl rfl <| lq (q_fieldAddr Fld_79_2 rfl) rfl <| WL.yes rfl rfl <| lq (q_load1 T1_9 rfl (fun w1 hw => hw.rgO (i := 0) rfl 2 1 [.string p0.S] rfl)) rfl <| WL.yes rfl rfl <| lq (q_seq rfl rfl) rfl <| WL.q (q_pick1 rfl rfl) rfl rfl rfl ?_
    cases hb_1
    exact WL.keep (by exact ⟨rfl, rfl, trivial⟩) K
   ·replace hb_1 := ite_f hb_1 c2
    refine WL.no rfl rfl rfl rfl <| WL.no rfl rfl rfl rfl <| WL.no rfl rfl rfl rfl <| WL.q (q_pick0 rfl rfl) rfl rfl rfl ?_
    cases hb_1
    exact WL.keep (by exact ⟨rfl, rfl, trivial⟩) K
  refine lq (q_assign rfl) rfl <| WL.nil ?_
  refine WT.ret Try.func45 (resOk.one rfl) (fun w1 hw => ?_)
  cases h
  exact post_of_St hw
 replace h := ite_f h c1
 refine WT.seq <| WT.region <| lq (q_eql rfl rfl) rfl <| lq (q_assign rfl) rfl <| WL.nil ?_
 refine WT.cond rfl (fun c3 => ?_) (fun c3 => ?_)
 ·replace h := ite_t h c3
  refine WT.seq <| WT.region <| lq (q_fieldAddr Fld_79_1 rfl) rfl <| lq (q_load1 T1_3 rfl (fun w1 hw => hw.rgO (i := 0) rfl 1 1 [.int .i64 p0.N] rfl)) rfl <| lq (q_eql rfl rfl) rfl <| lq (q_move rfl) rfl ?_
  obtain ⟨b2, hb_2, h⟩ := bind_some h
  refine WL.cutN 4 [(24, .bool b2), (2, .bool false)] ?_ (fun K => ?_)
  rotate_left
  ·refine WL.split (d := 20) rfl (fun c4 => ?_) (fun c4 => ?_)
   ·replace hb_2 := ite_t hb_2 c4
    refine WL.yes rfl rfl <| lq (q_fieldAddr Fld_79_2 rfl) rfl <| WL.yes rfl rfl <| lq (q_load1 T1_9 rfl (fun w1 hw => hw.rgO (i := 0) rfl 2 1 [.string p0.S] rfl)) rfl <| WL.yes rfl rfl ?_
    obtain ⟨x2, hx2, hb_2⟩ := bind_some hb_2
    refine lp (p_call Fun_118 rfl (fun w1 hw => m_i_isWord_ok hw.fro N p0.S 20 hx2)) rfl <| WL.q (q_pick1 rfl rfl) rfl rfl rfl ?_
    cases hb_2
    exact WL.keep (by exact ⟨rfl, rfl, trivial⟩) K
   ·replace hb_2 := ite_f hb_2 c4
    refine WL.no rfl rfl rfl rfl <| WL.no rfl rfl rfl rfl <| WL.no rfl rfl rfl rfl <| WL.q (q_pick0 rfl rfl) rfl rfl rfl ?_
    cases hb_2
    exact WL.keep (by exact ⟨rfl, rfl, trivial⟩) K
  refine lq (q_assign rfl) rfl <| WL.nil ?_
  refine WT.ret Try.func45 (resOk.one rfl) (fun w1 hw => ?_)
  cases h
  exact post_of_St hw
 replace h := ite_f h c3
 refine WT.skip <| WT.inBlock <| WT.seq <| WT.region <| lq (q_assign rfl) rfl <| WL.nil ?_
 refine WT.ret Try.func45 (resOk.one rfl) (fun w1 hw => ?_)
 cases h
 exact post_of_St hw
theorem m_i_areInts_ok {Φ : Hp} {w : World} (hΦ : In Φ w) (N : Nat) (p0 : TVal) (p1 : TVal)   {r : Bool} (h : m_i_areInts N p0 p1 = some r) :
  Calls Try.prog 165 [.agg [.int .i64 p0.K, .int .i64 p0.N, .string p0.S].toArray, .agg [.int .i64 p1.K, .int .i64 p1.N, .string p1.S].toArray].toArray w (Post (.bool r) w) := by
 refine enter Try.func165 rfl Try.ntmps165 rfl (St.start0 hΦ) ?_
 unfold m_i_areInts at h
 refine WT.seq <| WT.region ?_
 refine ln (n_box (C := #[.int .i64 p0.K, .int .i64 p0.N, .string p0.S]) rfl rfl) rfl (fun b_1 => ?_)
 refine ln (n_box (C := #[.int .i64 p1.K, .int .i64 p1.N, .string p1.S]) rfl rfl) rfl (fun b_2 => ?_)
 refine lq (q_assign rfl) rfl <| WL.nil <| WT.seq <| WT.region <| lq (q_fieldAddr Fld_79_0 rfl) rfl <| lq (q_load1 T1_3 rfl (fun w1 hw => hw.rgO (i := 1) rfl 0 1 [.int .i64 p0.K] rfl)) rfl <| lq (q_eql rfl rfl) rfl <| lq (q_move rfl) rfl ?_
 obtain ⟨b1, hb_1, h⟩ := bind_some h
 refine WL.cutN 4 [(12, .bool b1), (2, .pointer (some ⟨b_1, 0, none⟩)), (3, .pointer (some ⟨b_2, 0, none⟩)), (4, .bool false)] ?_ (fun K => ?_)
 rotate_left
 ·refine WL.split (d := 8) rfl (fun c1 => ?_) (fun c1 => ?_)
  ·replace hb_1 := ite_t hb_1 c1
   refine WL.yes rfl rfl <| lq (q_fieldAddr Fld_79_0 rfl) rfl <| WL.yes rfl rfl <| lq (q_load1 T1_3 rfl (fun w1 hw => hw.rgO (i := 0) rfl 0 1 [.int .i64 p1.K] rfl)) rfl <| WL.yes rfl rfl <| lq (q_eql rfl rfl) rfl <| WL.q (q_pick1 rfl rfl) rfl rfl rfl ?_
   cases hb_1
   exact WL.keep (by exact ⟨rfl, rfl, rfl, rfl, trivial⟩) K
  ·replace hb_1 := ite_f hb_1 c1
   refine WL.no rfl rfl rfl rfl <| WL.no rfl rfl rfl rfl <| WL.no rfl rfl rfl rfl <| WL.q (q_pick0 rfl rfl) rfl rfl rfl ?_
   cases hb_1
   exact WL.keep (by exact ⟨rfl, rfl, rfl, rfl, trivial⟩) K
 refine lq (q_move rfl) rfl ?_
 obtain ⟨b2, hb_2, h⟩ := bind_some h
 refine WL.cutN 3 [(16, .bool b2), (3, .pointer (some ⟨b_2, 0, none⟩)), (4, .bool false)] ?_ (fun K => ?_)
 rotate_left
 ·refine WL.split (d := 13) rfl (fun c2 => ?_) (fun c2 => ?_)
  ·replace hb_2 := ite_t hb_2 c2
   refine WL.yes rfl rfl <| lq (q_loadN Tn_79 rfl (fun w1 hw => hw.rgO (i := 1) rfl 0 3 [.int .i64 p0.K, .int .i64 p0.N, .string p0.S] rfl) rfl) rfl <| WL.yes rfl rfl ?_
   obtain ⟨x1, hx1, hb_2⟩ := bind_some hb_2
   refine lp (p_call Fun_45 rfl (fun w1 hw => m_i_ValOk_ok hw.fro N p0 hx1)) rfl <| WL.q (q_pick1 rfl rfl) rfl rfl rfl ?_
   cases hb_2
   exact WL.keep (by exact ⟨rfl, rfl, rfl, trivial⟩) K
  ·replace hb_2 := ite_f hb_2 c2
   refine WL.no rfl rfl rfl rfl <| WL.no rfl rfl rfl rfl <| WL.q (q_pick0 rfl rfl) rfl rfl rfl ?_
   cases hb_2
   exact WL.keep (by exact ⟨rfl, rfl, rfl, trivial⟩) K
 refine lq (q_move rfl) rfl ?_
 obtain ⟨b3, hb_3, h⟩ := bind_some h
 refine WL.cutN 3 [(20, .bool b3), (4, .bool false)] ?_ (fun K => ?_)
 rotate_left
 ·refine WL.split (d := 17) rfl (fun c3 => ?_) (fun c3 => ?_)
  ·replace hb_3 := ite_t hb_3 c3
   refine WL.yes rfl rfl <| lq (q_loadN Tn_79 rfl (fun w1 hw => hw.rgO (i := 0) rfl 0 3 [.int .i64 p1.K, .int .i64 p1.N, .string p1.S] rfl) rfl) rfl <| WL.yes rfl rfl ?_
   obtain ⟨x2, hx2, hb_3⟩ := bind_some hb_3
   refine lp (p_call Fun_45 rfl (fun w1 hw => m_i_ValOk_ok hw.fro N p1 hx2)) rfl <| WL.q (q_pick1 rfl rfl) rfl rfl rfl ?_
   cases hb_3
   exact WL.keep (by exact ⟨rfl, rfl, trivial⟩) K
  ·replace hb_3 := ite_f hb_3 c3
   refine WL.no rfl rfl rfl rfl <| WL.no rfl rfl rfl rfl <| WL.q (q_pick0 rfl rfl) rfl rfl rfl ?_
   cases hb_3
   exact WL.keep (by exact ⟨rfl, rfl, trivial⟩) K
 refine lq (q_assign rfl) rfl <| WL.nil ?_
 refine WT.ret Try.func165 (resOk.one rfl) (fun w1 hw => ?_)
 cases h
 exact post_of_St hw
theorem m_i_intVal_ok {Φ : Hp} {w : World} (hΦ : In Φ w) (N : Nat) (p0 : Int)   {r : TVal × Bool} (h : m_i_intVal N p0 = some r) :
  Calls Try.prog 166 [.int .i64 p0].toArray w (Post (.tuple #[.agg [.int .i64 r.1.K, .int .i64 r.1.N, .string r.1.S].toArray, .bool r.2]) w) := by
 refine enter Try.func166 rfl Try.ntmps166 rfl (St.start0 hΦ) ?_
 unfold m_i_intVal at h
 refine WT.seq <| WT.region ?_
 refine ln (n_alloc (C := #[.int .i64 0, .int .i64 0, .string (⟨#[]⟩ : ByteArray)]) Zr_79 rfl) rfl (fun b_1 => ?_)
 refine lq (q_assign rfl) rfl <| WL.nil <| WT.seq <| WT.region <| lq (q_move rfl) rfl <| lq (q_build (vs := [(0, .int .i64 1), (1, .int .i64 p0)]) (C := #[.int .i64 1, .int .i64 p0, .string (⟨#[]⟩ : ByteArray)]) Pl_79 Zr_79 rfl (fill_cons (cells := [.int .i64 0, .int .i64 0, .string ⟨#[]⟩]) (c := [.int .i64 1]) (C' := [.int .i64 1, .int .i64 0, .string ⟨#[]⟩]) rfl rfl rfl rfl rfl (fill_cons (cells := [.int .i64 1, .int .i64 0, .string ⟨#[]⟩]) (c := [.int .i64 p0]) (C' := [.int .i64 1, .int .i64 p0, .string ⟨#[]⟩]) rfl rfl rfl rfl rfl (fill_nil)))) rfl ?_
 refine ln (n_alloc (C := #[.int .i64 0, .int .i64 0, .string (⟨#[]⟩ : ByteArray)]) Zr_79 rfl) rfl (fun b_2 => ?_)
 refine ls (s_store (i := 0) (vs := [.int .i64 1, .int .i64 p0, .string (⟨#[]⟩ : ByteArray)]) (C' := [.int .i64 1, .int .i64 p0, .string (⟨#[]⟩ : ByteArray)]) (O' := [(b_2, .cells #[.int .i64 1, .int .i64 p0, .string (⟨#[]⟩ : ByteArray)] 79 (0, 0)), (b_1, .cells #[.int .i64 0, .int .i64 0, .string (⟨#[]⟩ : ByteArray)] 79 (0, 0))]) Sz_79 rfl rfl rfl rfl rfl rfl ⟨rfl, rfl, rfl, trivial⟩ rfl rfl) rfl <| WL.nil <| WT.seq ?_
 refine WT.seq <| WT.region <| lq (q_loadN Tn_79 rfl (fun w1 hw => hw.rgO (i := 0) rfl 0 3 [.int .i64 1, .int .i64 p0, .string (⟨#[]⟩ : ByteArray)] rfl) rfl) rfl ?_
 obtain ⟨x1, hx1, h⟩ := bind_some h
 refine lp (p_call Fun_45 rfl (fun w1 hw => m_i_ValOk_ok hw.fro N (⟨1, p0, (⟨#[]⟩ : ByteArray)⟩ : TVal) hx1)) rfl <| lq (q_not rfl) rfl <| WL.nil ?_
 refine WT.cond rfl (fun c1 => ?_) (fun c1 => ?_)
 ·replace h := ite_t h c1
  refine WT.seq <| WT.region <| lq (q_build (vs := []) (C := #[.int .i64 0, .int .i64 0, .string (⟨#[]⟩ : ByteArray)]) Pl_79 Zr_79 rfl (fill_nil)) rfl <| ls (s_store (i := 1) (vs := [.int .i64 0, .int .i64 0, .string (⟨#[]⟩ : ByteArray)]) (C' := [.int .i64 0, .int .i64 0, .string (⟨#[]⟩ : ByteArray)]) (O' := [(b_2, .cells #[.int .i64 1, .int .i64 p0, .string (⟨#[]⟩ : ByteArray)] 79 (0, 0)), (b_1, .cells #[.int .i64 0, .int .i64 0, .string (⟨#[]⟩ : ByteArray)] 79 (0, 0))]) Sz_79 rfl rfl rfl rfl rfl rfl ⟨rfl, rfl, rfl, trivial⟩ rfl rfl) rfl ?_
  refine lq (q_assign rfl) rfl <| WL.nil ?_
  refine WT.ret Try.func166 (resOk.two (rv_cell Tn_79 rfl (fun w1 hw => hw.rgO (i := 1) rfl 0 3 [.int .i64 0, .int .i64 0, .string (⟨#[]⟩ : ByteArray)] rfl) rfl) rfl) (fun w1 hw => ?_)
  cases h
  exact post_of_St hw
 replace h := ite_f h c1
 refine WT.skip <| WT.seq <| WT.region <| lq (q_loadN Tn_79 rfl (fun w1 hw => hw.rgO (i := 0) rfl 0 3 [.int .i64 1, .int .i64 p0, .string (⟨#[]⟩ : ByteArray)] rfl) rfl) rfl <| ls (s_store (i := 1) (vs := [.int .i64 1, .int .i64 p0, .string (⟨#[]⟩ : ByteArray)]) (C' := [.int .i64 1, .int .i64 p0, .string (⟨#[]⟩ : ByteArray)]) (O' := [(b_2, .cells #[.int .i64 1, .int .i64 p0, .string (⟨#[]⟩ : ByteArray)] 79 (0, 0)), (b_1, .cells #[.int .i64 1, .int .i64 p0, .string (⟨#[]⟩ : ByteArray)] 79 (0, 0))]) Sz_79 rfl rfl rfl rfl rfl rfl ⟨rfl, rfl, rfl, trivial⟩ rfl rfl) rfl ?_
 refine lq (q_assign rfl) rfl <| WL.nil ?_
 refine WT.ret Try.func166 (resOk.two (rv_cell Tn_79 rfl (fun w1 hw => hw.rgO (i := 1) rfl 0 3 [.int .i64 1, .int .i64 p0, .string (⟨#[]⟩ : ByteArray)] rfl) rfl) rfl) (fun w1 hw => ?_)
 cases h
 exact post_of_St hw
theorem m_i_AddVals_ok {Φ : Hp} {w : World} (hΦ : In Φ w) (N : Nat) (p0 : TVal) (p1 : TVal)   {r : TVal × Bool} (h : m_i_AddVals N p0 p1 = some r) :
  Calls Try.prog 115 [.agg [.int .i64 p0.K, .int .i64 p0.N, .string p0.S].toArray, .agg [.int .i64 p1.K, .int .i64 p1.N, .string p1.S].toArray].toArray w (Post (.tuple #[.agg [.int .i64 r.1.K, .int .i64 r.1.N, .string r.1.S].toArray, .bool r.2]) w) := by
 refine enter Try.func115 rfl Try.ntmps115 rfl (St.start0 hΦ) ?_
 unfold m_i_AddVals at h
 refine WT.seq <| WT.region ?_
 refine ln (n_box (C := #[.int .i64 p0.K, .int .i64 p0.N, .string p0.S]) rfl rfl) rfl (fun b_1 => ?_)
 refine ln (n_box (C := #[.int .i64 p1.K, .int .i64 p1.N, .string p1.S]) rfl rfl) rfl (fun b_2 => ?_)
 refine ln (n_alloc (C := #[.int .i64 0, .int .i64 0, .string (⟨#[]⟩ : ByteArray)]) Zr_79 rfl) rfl (fun b_3 => ?_)
 refine lq (q_assign rfl) rfl <| WL.nil <| WT.seq <| WT.seq <| WT.region <| lq (q_loadN Tn_79 rfl (fun w1 hw => hw.rgO (i := 2) rfl 0 3 [.int .i64 p0.K, .int .i64 p0.N, .string p0.S] rfl) rfl) rfl <| lq (q_loadN Tn_79 rfl (fun w1 hw => hw.rgO (i := 1) rfl 0 3 [.int .i64 p1.K, .int .i64 p1.N, .string p1.S] rfl) rfl) rfl ?_
 obtain ⟨x1, hx1, h⟩ := bind_some h
 refine lp (p_call Fun_165 rfl (fun w1 hw => m_i_areInts_ok hw.fro N p0 p1 hx1)) rfl <| lq (q_not rfl) rfl <| WL.nil ?_
 refine WT.cond rfl (fun c1 => ?_) (fun c1 => ?_)
 ·replace h := ite_t h c1
  refine WT.seq <| WT.region <| lq (q_build (vs := []) (C := #[.int .i64 0, .int .i64 0, .string (⟨#[]⟩ : ByteArray)]) Pl_79 Zr_79 rfl (fill_nil)) rfl <| ls (s_store (i := 0) (vs := [.int .i64 0, .int .i64 0, .string (⟨#[]⟩ : ByteArray)]) (C' := [.int .i64 0, .int .i64 0, .string (⟨#[]⟩ : ByteArray)]) (O' := [(b_3, .cells #[.int .i64 0, .int .i64 0, .string (⟨#[]⟩ : ByteArray)] 79 (0, 0)), (b_2, .cells #[.int .i64 p1.K, .int .i64 p1.N, .string p1.S] 79 (0, 0)), (b_1, .cells #[.int .i64 p0.K, .int .i64 p0.N, .string p0.S] 79 (0, 0))]) Sz_79 rfl rfl rfl rfl rfl rfl ⟨rfl, rfl, rfl, trivial⟩ rfl rfl) rfl ?_
  refine lq (q_assign rfl) rfl <| WL.nil ?_
  refine WT.ret Try.func115 (resOk.two (rv_cell Tn_79 rfl (fun w1 hw => hw.rgO (i := 0) rfl 0 3 [.int .i64 0, .int .i64 0, .string (⟨#[]⟩ : ByteArray)] rfl) rfl) rfl) (fun w1 hw => ?_)
  cases h
  exact post_of_St hw
 replace h := ite_f h c1
 refine WT.skip <| WT.seq <| WT.region <| lq (q_fieldAddr Fld_79_1 rfl) rfl <| lq (q_load1 T1_3 rfl (fun w1 hw => hw.rgO (i := 2) rfl 1 1 [.int .i64 p0.N] rfl)) rfl <| lq (q_fieldAddr Fld_79_1 rfl) rfl <| lq (q_load1 T1_3 rfl (fun w1 hw => hw.rgO (i := 1) rfl 1 1 [.int .i64 p1.N] rfl)) rfl <| lq (q_add rfl rfl) rfl ?_
 obtain ⟨x2, hx2, h⟩ := bind_some h
 refine lp (p_call Fun_166 rfl (fun w1 hw => m_i_intVal_ok hw.fro N (IntKind.i64.wrap (p0.N + p1.N)) hx2)) rfl <| lq (q_extract rfl rfl) rfl <| lq (q_extract rfl rfl) rfl <| ls (s_store (i := 0) (vs := [.int .i64 x2.1.K, .int .i64 x2.1.N, .string x2.1.S]) (C' := [.int .i64 x2.1.K, .int .i64 x2.1.N, .string x2.1.S]) (O' := [(b_3, .cells #[.int .i64 x2.1.K, .int .i64 x2.1.N, .string x2.1.S] 79 (0, 0)), (b_2, .cells #[.int .i64 p1.K, .int .i64 p1.N, .string p1.S] 79 (0, 0)), (b_1, .cells #[.int .i64 p0.K, .int .i64 p0.N, .string p0.S] 79 (0, 0))]) Sz_79 rfl rfl rfl rfl rfl rfl ⟨rfl, rfl, rfl, trivial⟩ rfl rfl) rfl ?_
 refine lq (q_assign rfl) rfl <| WL.nil ?_
 refine WT.ret Try.func115 (resOk.two (rv_cell Tn_79 rfl (fun w1 hw => hw.rgO (i := 0) rfl 0 3 [.int .i64 x2.1.K, .int .i64 x2.1.N, .string x2.1.S] rfl) rfl) rfl) (fun w1 hw => ?_)
 cases h
 exact post_of_St hw
theorem m_i_SubVals_ok {Φ : Hp} {w : World} (hΦ : In Φ w) (N : Nat) (p0 : TVal) (p1 : TVal)   {r : TVal × Bool} (h : m_i_SubVals N p0 p1 = some r) :
  Calls Try.prog 116 [.agg [.int .i64 p0.K, .int .i64 p0.N, .string p0.S].toArray, .agg [.int .i64 p1.K, .int .i64 p1.N, .string p1.S].toArray].toArray w (Post (.tuple #[.agg [.int .i64 r.1.K, .int .i64 r.1.N, .string r.1.S].toArray, .bool r.2]) w) := by
 refine enter Try.func116 rfl Try.ntmps116 rfl (St.start0 hΦ) ?_
 unfold m_i_SubVals at h
 refine WT.seq <| WT.region ?_
 refine ln (n_box (C := #[.int .i64 p0.K, .int .i64 p0.N, .string p0.S]) rfl rfl) rfl (fun b_1 => ?_)
 refine ln (n_box (C := #[.int .i64 p1.K, .int .i64 p1.N, .string p1.S]) rfl rfl) rfl (fun b_2 => ?_)
 refine ln (n_alloc (C := #[.int .i64 0, .int .i64 0, .string (⟨#[]⟩ : ByteArray)]) Zr_79 rfl) rfl (fun b_3 => ?_)
 refine lq (q_assign rfl) rfl <| WL.nil <| WT.seq <| WT.seq <| WT.region <| lq (q_loadN Tn_79 rfl (fun w1 hw => hw.rgO (i := 2) rfl 0 3 [.int .i64 p0.K, .int .i64 p0.N, .string p0.S] rfl) rfl) rfl <| lq (q_loadN Tn_79 rfl (fun w1 hw => hw.rgO (i := 1) rfl 0 3 [.int .i64 p1.K, .int .i64 p1.N, .string p1.S] rfl) rfl) rfl ?_
 obtain ⟨x1, hx1, h⟩ := bind_some h
 refine lp (p_call Fun_165 rfl (fun w1 hw => m_i_areInts_ok hw.fro N p0 p1 hx1)) rfl <| lq (q_not rfl) rfl <| WL.nil ?_
 refine WT.cond rfl (fun c1 => ?_) (fun c1 => ?_)
 ·replace h := ite_t h c1
  refine WT.seq <| WT.region <| lq (q_build (vs := []) (C := #[.int .i64 0, .int .i64 0, .string (⟨#[]⟩ : ByteArray)]) Pl_79 Zr_79 rfl (fill_nil)) rfl <| ls (s_store (i := 0) (vs := [.int .i64 0, .int .i64 0, .string (⟨#[]⟩ : ByteArray)]) (C' := [.int .i64 0, .int .i64 0, .string (⟨#[]⟩ : ByteArray)]) (O' := [(b_3, .cells #[.int .i64 0, .int .i64 0, .string (⟨#[]⟩ : ByteArray)] 79 (0, 0)), (b_2, .cells #[.int .i64 p1.K, .int .i64 p1.N, .string p1.S] 79 (0, 0)), (b_1, .cells #[.int .i64 p0.K, .int .i64 p0.N, .string p0.S] 79 (0, 0))]) Sz_79 rfl rfl rfl rfl rfl rfl ⟨rfl, rfl, rfl, trivial⟩ rfl rfl) rfl ?_
  refine lq (q_assign rfl) rfl <| WL.nil ?_
  refine WT.ret Try.func116 (resOk.two (rv_cell Tn_79 rfl (fun w1 hw => hw.rgO (i := 0) rfl 0 3 [.int .i64 0, .int .i64 0, .string (⟨#[]⟩ : ByteArray)] rfl) rfl) rfl) (fun w1 hw => ?_)
  cases h
  exact post_of_St hw
 replace h := ite_f h c1
 refine WT.skip <| WT.seq <| WT.region <| lq (q_fieldAddr Fld_79_1 rfl) rfl <| lq (q_load1 T1_3 rfl (fun w1 hw => hw.rgO (i := 2) rfl 1 1 [.int .i64 p0.N] rfl)) rfl <| lq (q_fieldAddr Fld_79_1 rfl) rfl <| lq (q_load1 T1_3 rfl (fun w1 hw => hw.rgO (i := 1) rfl 1 1 [.int .i64 p1.N] rfl)) rfl <| lq (q_sub rfl rfl) rfl ?_
 obtain ⟨x2, hx2, h⟩ := bind_some h
 refine lp (p_call Fun_166 rfl (fun w1 hw => m_i_intVal_ok hw.fro N (IntKind.i64.wrap (p0.N - p1.N)) hx2)) rfl <| lq (q_extract rfl rfl) rfl <| lq (q_extract rfl rfl) rfl <| ls (s_store (i := 0) (vs := [.int .i64 x2.1.K, .int .i64 x2.1.N, .string x2.1.S]) (C' := [.int .i64 x2.1.K, .int .i64 x2.1.N, .string x2.1.S]) (O' := [(b_3, .cells #[.int .i64 x2.1.K, .int .i64 x2.1.N, .string x2.1.S] 79 (0, 0)), (b_2, .cells #[.int .i64 p1.K, .int .i64 p1.N, .string p1.S] 79 (0, 0)), (b_1, .cells #[.int .i64 p0.K, .int .i64 p0.N, .string p0.S] 79 (0, 0))]) Sz_79 rfl rfl rfl rfl rfl rfl ⟨rfl, rfl, rfl, trivial⟩ rfl rfl) rfl ?_
 refine lq (q_assign rfl) rfl <| WL.nil ?_
 refine WT.ret Try.func116 (resOk.two (rv_cell Tn_79 rfl (fun w1 hw => hw.rgO (i := 0) rfl 0 3 [.int .i64 x2.1.K, .int .i64 x2.1.N, .string x2.1.S] rfl) rfl) rfl) (fun w1 hw => ?_)
 cases h
 exact post_of_St hw
theorem m_i_Compute_ok {Φ : Hp} {w : World} (hΦ : In Φ w) (N : Nat) (p0 : TExpr) (p1 : (List TBind)) {pv1 : Value} {pG1 : List Nat} (ph1 : RSl RTBind 4 Φ pG1 pv1 p1) {r : TVal × Bool} (h : m_i_Compute N p0 p1 = some r) :
  Calls Try.prog 44 [.agg [.string p0.Op, .int .i64 p0.L.K, .string p0.L.S, .int .i64 p0.L.V.K, .int .i64 p0.L.V.N, .string p0.L.V.S, .int .i64 p0.R.K, .string p0.R.S, .int .i64 p0.R.V.K, .int .i64 p0.R.V.N, .string p0.R.V.S].toArray, pv1].toArray w (Post (.tuple #[.agg [.int .i64 r.1.K, .int .i64 r.1.N, .string r.1.S].toArray, .bool r.2]) w) := by
 refine enter Try.func44 rfl Try.ntmps44 rfl (St.start0 hΦ) ?_
 unfold m_i_Compute at h
 refine WT.seq <| WT.region ?_
 refine ln (n_box (C := #[.string p0.Op, .int .i64 p0.L.K, .string p0.L.S, .int .i64 p0.L.V.K, .int .i64 p0.L.V.N, .string p0.L.V.S, .int .i64 p0.R.K, .string p0.R.S, .int .i64 p0.R.V.K, .int .i64 p0.R.V.N, .string p0.R.V.S]) rfl rfl) rfl (fun b_1 => ?_)
 refine ln (n_alloc (C := #[.int .i64 0, .int .i64 0, .string (⟨#[]⟩ : ByteArray)]) Zr_79 rfl) rfl (fun b_2 => ?_)
 refine lq (q_assign rfl) rfl <| WL.nil <| WT.seq <| WT.region <| lq (q_fieldAddr Fld_85_1 rfl) rfl <| lq (q_loadN Tn_83 rfl (fun w1 hw => hw.rgO (i := 1) rfl 1 5 [.int .i64 p0.L.K, .string p0.L.S, .int .i64 p0.L.V.K, .int .i64 p0.L.V.N, .string p0.L.V.S] rfl) rfl) rfl <| lq (q_move rfl) rfl ?_
 obtain ⟨x1, hx1, h⟩ := bind_some h
 refine lp (p_call Fun_114 rfl (fun w1 hw => m_i_ArgVal_ok hw.fro N p0.L p1 ph1 hx1)) rfl <| lq (q_move rfl) rfl <| lq (q_extract rfl rfl) rfl <| lq (q_extract rfl rfl) rfl ?_
 refine ln (n_alloc (C := #[.int .i64 0, .int .i64 0, .string (⟨#[]⟩ : ByteArray)]) Zr_79 rfl) rfl (fun b_3 => ?_)
 refine ls (s_store (i := 0) (vs := [.int .i64 x1.1.K, .int .i64 x1.1.N, .string x1.1.S]) (C' := [.int .i64 x1.1.K, .int .i64 x1.1.N, .string x1.1.S]) (O' := [(b_3, .cells #[.int .i64 x1.1.K, .int .i64 x1.1.N, .string x1.1.S] 79 (0, 0)), (b_2, .cells #[.int .i64 0, .int .i64 0, .string (⟨#[]⟩ : ByteArray)] 79 (0, 0)), (b_1, .cells #[.string p0.Op, .int .i64 p0.L.K, .string p0.L.S, .int .i64 p0.L.V.K, .int .i64 p0.L.V.N, .string p0.L.V.S, .int .i64 p0.R.K, .string p0.R.S, .int .i64 p0.R.V.K, .int .i64 p0.R.V.N, .string p0.R.V.S] 85 (0, 0))]) Sz_79 rfl rfl rfl rfl rfl rfl ⟨rfl, rfl, rfl, trivial⟩ rfl rfl) rfl ?_
 refine lq (q_assign rfl) rfl <| WL.nil <| WT.seq <| WT.seq <| WT.region <| lq (q_move rfl) rfl <| lq (q_not rfl) rfl <| lq (q_move rfl) rfl ?_
 obtain ⟨b1, hb_1, h⟩ := bind_some h
 refine WL.cutN 4 [(22, .bool b1), (1, pv1), (2, .pointer (some ⟨b_1, 0, none⟩)), (4, .pointer (some ⟨b_2, 0, none⟩)), (6, .pointer (some ⟨b_3, 0, none⟩)), (7, .bool x1.2)] ?_ (fun K => ?_)
 rotate_left
 ·refine WL.split (d := 18) rfl (fun c1 => ?_) (fun c1 => ?_)
  ·replace hb_1 := ite_t hb_1 c1
   refine WL.no rfl rfl rfl rfl <| WL.no rfl rfl rfl rfl <| WL.no rfl rfl rfl rfl <| WL.q (q_pick1 rfl rfl) rfl rfl rfl ?_
   cases hb_1
   exact WL.keep (by exact ⟨rfl, rfl, rfl, rfl, rfl, rfl, trivial⟩) K
  ·replace hb_1 := ite_f hb_1 c1
   refine WL.yes rfl rfl <| lq (q_fieldAddr Fld_85_0 rfl) rfl <| WL.yes rfl rfl <| lq (q_load1 T1_9 rfl (fun w1 hw => hw.rgO (i := 2) rfl 0 1 [.string p0.Op] rfl)) rfl <| WL.yes rfl rfl <| lq (q_seq rfl rfl) rfl <| WL.q (q_pick0 rfl rfl) rfl rfl rfl ?_
   cases hb_1
   exact WL.keep (by exact ⟨rfl, rfl, rfl, rfl, rfl, rfl, trivial⟩) K
 refine WL.nil ?_
 refine WT.cond rfl (fun c2 => ?_) (fun c2 => ?_)
 ·replace h := ite_t h c2
  refine WT.seq <| WT.region <| lq (q_loadN Tn_79 rfl (fun w1 hw => hw.rgO (i := 0) rfl 0 3 [.int .i64 x1.1.K, .int .i64 x1.1.N, .string x1.1.S] rfl) rfl) rfl <| lq (q_move rfl) rfl <| ls (s_store (i := 1) (vs := [.int .i64 x1.1.K, .int .i64 x1.1.N, .string x1.1.S]) (C' := [.int .i64 x1.1.K, .int .i64 x1.1.N, .string x1.1.S]) (O' := [(b_3, .cells #[.int .i64 x1.1.K, .int .i64 x1.1.N, .string x1.1.S] 79 (0, 0)), (b_2, .cells #[.int .i64 x1.1.K, .int .i64 x1.1.N, .string x1.1.S] 79 (0, 0)), (b_1, .cells #[.string p0.Op, .int .i64 p0.L.K, .string p0.L.S, .int .i64 p0.L.V.K, .int .i64 p0.L.V.N, .string p0.L.V.S, .int .i64 p0.R.K, .string p0.R.S, .int .i64 p0.R.V.K, .int .i64 p0.R.V.N, .string p0.R.V.S] 85 (0, 0))]) Sz_79 rfl rfl rfl rfl rfl rfl ⟨rfl, rfl, rfl, trivial⟩ rfl rfl) rfl ?_
  refine lq (q_assign rfl) rfl <| WL.nil ?_
  refine WT.ret Try.func44 (resOk.two (rv_cell Tn_79 rfl (fun w1 hw => hw.rgO (i := 1) rfl 0 3 [.int .i64 x1.1.K, .int .i64 x1.1.N, .string x1.1.S] rfl) rfl) rfl) (fun w1 hw => ?_)
  cases h
  exact post_of_St hw
 replace h := ite_f h c2
 refine WT.skip <| WT.seq <| WT.region <| lq (q_fieldAddr Fld_85_2 rfl) rfl <| lq (q_loadN Tn_83 rfl (fun w1 hw => hw.rgO (i := 2) rfl 6 5 [.int .i64 p0.R.K, .string p0.R.S, .int .i64 p0.R.V.K, .int .i64 p0.R.V.N, .string p0.R.V.S] rfl) rfl) rfl <| lq (q_move rfl) rfl ?_
 obtain ⟨x2, hx2, h⟩ := bind_some h
 refine lp (p_call Fun_114 rfl (fun w1 hw => m_i_ArgVal_ok hw.fro N p0.R p1 ph1 hx2)) rfl <| lq (q_move rfl) rfl <| lq (q_extract rfl rfl) rfl <| lq (q_extract rfl rfl) rfl ?_
 refine ln (n_alloc (C := #[.int .i64 0, .int .i64 0, .string (⟨#[]⟩ : ByteArray)]) Zr_79 rfl) rfl (fun b_4 => ?_)
 refine ls (s_store (i := 0) (vs := [.int .i64 x2.1.K, .int .i64 x2.1.N, .string x2.1.S]) (C' := [.int .i64 x2.1.K, .int .i64 x2.1.N, .string x2.1.S]) (O' := [(b_4, .cells #[.int .i64 x2.1.K, .int .i64 x2.1.N, .string x2.1.S] 79 (0, 0)), (b_3, .cells #[.int .i64 x1.1.K, .int .i64 x1.1.N, .string x1.1.S] 79 (0, 0)), (b_2, .cells #[.int .i64 0, .int .i64 0, .string (⟨#[]⟩ : ByteArray)] 79 (0, 0)), (b_1, .cells #[.string p0.Op, .int .i64 p0.L.K, .string p0.L.S, .int .i64 p0.L.V.K, .int .i64 p0.L.V.N, .string p0.L.V.S, .int .i64 p0.R.K, .string p0.R.S, .int .i64 p0.R.V.K, .int .i64 p0.R.V.N, .string p0.R.V.S] 85 (0, 0))]) Sz_79 rfl rfl rfl rfl rfl rfl ⟨rfl, rfl, rfl, trivial⟩ rfl rfl) rfl ?_
 refine lq (q_assign rfl) rfl <| WL.nil <| WT.seq <| WT.seq <| WT.region <| lq (q_move rfl) rfl <| lq (q_move rfl) rfl ?_
 obtain ⟨b2, hb_2, h⟩ := bind_some h
 refine WL.cutN 4 [(37, .bool b2), (2, .pointer (some ⟨b_1, 0, none⟩)), (4, .pointer (some ⟨b_2, 0, none⟩)), (6, .pointer (some ⟨b_3, 0, none⟩)), (7, .bool x2.2), (8, .pointer (some ⟨b_4, 0, none⟩))] ?_ (fun K => ?_)
 rotate_left
 ·refine WL.split (d := 33) rfl (fun c3 => ?_) (fun c3 => ?_)
  ·replace hb_2 := ite_t hb_2 c3
   refine WL.yes rfl rfl <| lq (q_fieldAddr Fld_85_0 rfl) rfl <| WL.yes rfl rfl <| lq (q_load1 T1_9 rfl (fun w1 hw => hw.rgO (i := 3) rfl 0 1 [.string p0.Op] rfl)) rfl <| WL.yes rfl rfl <| lq (q_seq rfl rfl) rfl <| WL.q (q_pick1 rfl rfl) rfl rfl rfl ?_
   cases hb_2
   exact WL.keep (by exact ⟨rfl, rfl, rfl, rfl, rfl, rfl, trivial⟩) K
  ·replace hb_2 := ite_f hb_2 c3
   refine WL.no rfl rfl rfl rfl <| WL.no rfl rfl rfl rfl <| WL.no rfl rfl rfl rfl <| WL.q (q_pick0 rfl rfl) rfl rfl rfl ?_
   cases hb_2
   exact WL.keep (by exact ⟨rfl, rfl, rfl, rfl, rfl, rfl, trivial⟩) K
 refine WL.nil ?_
 refine WT.cond rfl (fun c4 => ?_) (fun c4 => ?_)
 ·replace h := ite_t h c4
  refine WT.seq <| WT.region <| lq (q_loadN Tn_79 rfl (fun w1 hw => hw.rgO (i := 1) rfl 0 3 [.int .i64 x1.1.K, .int .i64 x1.1.N, .string x1.1.S] rfl) rfl) rfl <| lq (q_loadN Tn_79 rfl (fun w1 hw => hw.rgO (i := 0) rfl 0 3 [.int .i64 x2.1.K, .int .i64 x2.1.N, .string x2.1.S] rfl) rfl) rfl ?_
  obtain ⟨x3, hx3, h⟩ := bind_some h
  refine lp (p_call Fun_115 rfl (fun w1 hw => m_i_AddVals_ok hw.fro N x1.1 x2.1 hx3)) rfl <| lq (q_extract rfl rfl) rfl <| lq (q_extract rfl rfl) rfl <| ls (s_store (i := 2) (vs := [.int .i64 x3.1.K, .int .i64 x3.1.N, .string x3.1.S]) (C' := [.int .i64 x3.1.K, .int .i64 x3.1.N, .string x3.1.S]) (O' := [(b_4, .cells #[.int .i64 x2.1.K, .int .i64 x2.1.N, .string x2.1.S] 79 (0, 0)), (b_3, .cells #[.int .i64 x1.1.K, .int .i64 x1.1.N, .string x1.1.S] 79 (0, 0)), (b_2, .cells #[.int .i64 x3.1.K, .int .i64 x3.1.N, .string x3.1.S] 79 (0, 0)), (b_1, .cells #[.string p0.Op, .int .i64 p0.L.K, .string p0.L.S, .int .i64 p0.L.V.K, .int .i64 p0.L.V.N, .string p0.L.V.S, .int .i64 p0.R.K, .string p0.R.S, .int .i64 p0.R.V.K, .int .i64 p0.R.V.N, .string p0.R.V.S] 85 (0, 0))]) Sz_79 rfl rfl rfl rfl rfl rfl ⟨rfl, rfl, rfl, trivial⟩ rfl rfl) rfl ?_
  refine lq (q_assign rfl) rfl <| WL.nil ?_
  refine WT.ret Try.func44 (resOk.two (rv_cell Tn_79 rfl (fun w1 hw => hw.rgO (i := 2) rfl 0 3 [.int .i64 x3.1.K, .int .i64 x3.1.N, .string x3.1.S] rfl) rfl) rfl) (fun w1 hw => ?_)
  cases h
  exact post_of_St hw
 replace h := ite_f h c4
 refine WT.skip <| WT.seq <| WT.seq <| WT.region <| lq (q_move rfl) rfl <| lq (q_move rfl) rfl ?_
 obtain ⟨b3, hb_3, h⟩ := bind_some h
 refine WL.cutN 4 [(48, .bool b3), (4, .pointer (some ⟨b_2, 0, none⟩)), (6, .pointer (some ⟨b_3, 0, none⟩)), (8, .pointer (some ⟨b_4, 0, none⟩))] ?_ (fun K => ?_)
 rotate_left
 ·refine WL.split (d := 44) rfl (fun c5 => ?_) (fun c5 => ?_)
  ·replace hb_3 := ite_t hb_3 c5
   refine WL.yes rfl rfl <| lq (q_fieldAddr Fld_85_0 rfl) rfl <| WL.yes rfl rfl <| lq (q_load1 T1_9 rfl (fun w1 hw => hw.rgO (i := 3) rfl 0 1 [.string p0.Op] rfl)) rfl <| WL.yes rfl rfl <| lq (q_seq rfl rfl) rfl <| WL.q (q_pick1 rfl rfl) rfl rfl rfl ?_
   cases hb_3
   exact WL.keep (by exact ⟨rfl, rfl, rfl, rfl, trivial⟩) K
  ·replace hb_3 := ite_f hb_3 c5
   refine WL.no rfl rfl rfl rfl <| WL.no rfl rfl rfl rfl <| WL.no rfl rfl rfl rfl <| WL.q (q_pick0 rfl rfl) rfl rfl rfl ?_
   cases hb_3
   exact WL.keep (by exact ⟨rfl, rfl, rfl, rfl, trivial⟩) K
 refine WL.nil ?_
 refine WT.cond rfl (fun c6 => ?_) (fun c6 => ?_)
 ·replace h := ite_t h c6
  refine WT.seq <| WT.region <| lq (q_loadN Tn_79 rfl (fun w1 hw => hw.rgO (i := 1) rfl 0 3 [.int .i64 x1.1.K, .int .i64 x1.1.N, .string x1.1.S] rfl) rfl) rfl <| lq (q_loadN Tn_79 rfl (fun w1 hw => hw.rgO (i := 0) rfl 0 3 [.int .i64 x2.1.K, .int .i64 x2.1.N, .string x2.1.S] rfl) rfl) rfl ?_
  obtain ⟨x4, hx4, h⟩ := bind_some h
  refine lp (p_call Fun_116 rfl (fun w1 hw => m_i_SubVals_ok hw.fro N x1.1 x2.1 hx4)) rfl <| lq (q_extract rfl rfl) rfl <| lq (q_extract rfl rfl) rfl <| ls (s_store (i := 2) (vs := [.int .i64 x4.1.K, .int .i64 x4.1.N, .string x4.1.S]) (C' := [.int .i64 x4.1.K, .int .i64 x4.1.N, .string x4.1.S]) (O' := [(b_4, .cells #[.int .i64 x2.1.K, .int .i64 x2.1.N, .string x2.1.S] 79 (0, 0)), (b_3, .cells #[.int .i64 x1.1.K, .int .i64 x1.1.N, .string x1.1.S] 79 (0, 0)), (b_2, .cells #[.int .i64 x4.1.K, .int .i64 x4.1.N, .string x4.1.S] 79 (0, 0)), (b_1, .cells #[.string p0.Op, .int .i64 p0.L.K, .string p0.L.S, .int .i64 p0.L.V.K, .int .i64 p0.L.V.N, .string p0.L.V.S, .int .i64 p0.R.K, .string p0.R.S, .int .i64 p0.R.V.K, .int .i64 p0.R.V.N, .string p0.R.V.S] 85 (0, 0))]) Sz_79 rfl rfl rfl rfl rfl rfl ⟨rfl, rfl, rfl, trivial⟩ rfl rfl) rfl ?_
  refine lq (q_assign rfl) rfl <| WL.nil ?_
  refine WT.ret Try.func44 (resOk.two (rv_cell Tn_79 rfl (fun w1 hw => hw.rgO (i := 2) rfl 0 3 [.int .i64 x4.1.K, .int .i64 x4.1.N, .string x4.1.S] rfl) rfl) rfl) (fun w1 hw => ?_)
  cases h
  exact post_of_St hw
 replace h := ite_f h c6
 refine WT.skip <| WT.seq <| WT.region <| lq (q_build (vs := []) (C := #[.int .i64 0, .int .i64 0, .string (⟨#[]⟩ : ByteArray)]) Pl_79 Zr_79 rfl (fill_nil)) rfl <| ls (s_store (i := 2) (vs := [.int .i64 0, .int .i64 0, .string (⟨#[]⟩ : ByteArray)]) (C' := [.int .i64 0, .int .i64 0, .string (⟨#[]⟩ : ByteArray)]) (O' := [(b_4, .cells #[.int .i64 x2.1.K, .int .i64 x2.1.N, .string x2.1.S] 79 (0, 0)), (b_3, .cells #[.int .i64 x1.1.K, .int .i64 x1.1.N, .string x1.1.S] 79 (0, 0)), (b_2, .cells #[.int .i64 0, .int .i64 0, .string (⟨#[]⟩ : ByteArray)] 79 (0, 0)), (b_1, .cells #[.string p0.Op, .int .i64 p0.L.K, .string p0.L.S, .int .i64 p0.L.V.K, .int .i64 p0.L.V.N, .string p0.L.V.S, .int .i64 p0.R.K, .string p0.R.S, .int .i64 p0.R.V.K, .int .i64 p0.R.V.N, .string p0.R.V.S] 85 (0, 0))]) Sz_79 rfl rfl rfl rfl rfl rfl ⟨rfl, rfl, rfl, trivial⟩ rfl rfl) rfl ?_
 refine lq (q_assign rfl) rfl <| WL.nil ?_
 refine WT.ret Try.func44 (resOk.two (rv_cell Tn_79 rfl (fun w1 hw => hw.rgO (i := 2) rfl 0 3 [.int .i64 0, .int .i64 0, .string (⟨#[]⟩ : ByteArray)] rfl) rfl) rfl) (fun w1 hw => ?_)
 cases h
 exact post_of_St hw
theorem m_i_ComputeAll_ok {Φ : Hp} {w : World} (hΦ : In Φ w) (N : Nat) (p0 : (List TExpr)) (p1 : (List TBind)) {pv0 : Value} {pG0 : List Nat} {pv1 : Value} {pG1 : List Nat} (ph0 : RSl RTExpr 11 Φ pG0 pv0 p0) (ph1 : RSl RTBind 4 Φ pG1 pv1 p1) {r : (List TVal) × Bool} (h : m_i_ComputeAll N p0 p1 = some r) :
  Calls Try.prog 43 [pv0, pv1].toArray w (PostG Φ w [] (fun Φ' Fs v => ∃ (sr_0_0 : Value), v = .tuple #[sr_0_0, .bool r.2] ∧ Fs = [ob sr_0_0] ∧ OSl RTVal 79 3 Φ' [] sr_0_0 r.1)) := by
 refine enter Try.func43 rfl Try.ntmps43 rfl (St.start0 hΦ) ?_
 have pa0 : Old ⟨w, [], Φ⟩ pG0 := Old.mk hΦ ph0.kn (Dj.empty _)
 have pa1 : Old ⟨w, [], Φ⟩ pG1 := Old.mk hΦ ph1.kn (Dj.empty _)
 revert pa0 pa1
 generalize hb0 : (⟨w, [], Φ⟩ : Base) = w0
 intro pa0 pa1
 unfold m_i_ComputeAll at h
 refine WT.seq <| WT.region <| lq (q_assign rfl) rfl <| lq (q_assign rfl) rfl <| WL.nil <| WT.seq <| WT.region <| lq (q_assign rfl) rfl <| WL.nil <| WT.seq <| WT.seq <| WT.region <| lq (q_move rfl) rfl <| lq (q_lenR Sl_73 rfl rfl ph0) rfl <| lq (q_move rfl) rfl <| WL.nil <| WT.block <| WT.loop <| WT.conv (S' := St w0 Φ [] (ob (.slice none 0 0) :: [])) (fun w1 hw => hw.addNil) ?_
 have k1 := OSl.nil RTVal 79 3 Φ
 refine WT.mono (l' := [(1, pv1), (6, (.slice none 0 0)), (11, pv0), (12, .int .i64 (p0.length : Int)), (13, .int .i64 0)]) (S' := St w0 Φ [] [ob (.slice none 0 0)]) ⟨rfl, rfl, rfl, rfl, rfl, trivial⟩ (fun w1 hw => (hw.sel (js := [0]) rfl).selO (js := []) rfl) ?_
 refine loop_ind (σ := Hp × (List TVal) × Value × Int) (fun s => [(1, pv1), (6, s.2.2.1), (11, pv0), (12, .int .i64 (p0.length : Int)), (13, .int .i64 s.2.2.2)]) (fun s => St w0 s.1 [] [ob s.2.2.1]) (fun m s => m_i_ComputeAll_l1 N p0 p1 m s.2.1 s.2.2.2 = some r ∧ (OSl RTVal 79 3 s.1 [] s.2.2.1 s.2.1) ∧ (RSl RTBind 4 s.1 pG1 pv1 p1) ∧ (RSl RTExpr 11 s.1 pG0 pv0 p0)) (fun s hm => none_ne (show (none : Option ((List TVal) × Bool)) = some r from hm.1)) (fun n1 ih1 s hm => ?_) N (Φ, ([] : List TVal), (.slice none 0 0), 0) ⟨h, k1, ph1, ph0⟩
 obtain ⟨Φ_1, s1, u1, s2⟩ := s
 obtain ⟨h, k2, ph1, ph0⟩ := hm
 replace h : m_i_ComputeAll_l1 N p0 p1 (n1 + 1) s1 s2 = some r := h
 replace k2 : OSl RTVal 79 3 Φ_1 [] u1 s1 := k2
 replace ph1 : RSl RTBind 4 Φ_1 pG1 pv1 p1 := ph1
 replace ph0 : RSl RTExpr 11 Φ_1 pG0 pv0 p0 := ph0
 show WT _ _ [(1, pv1), (6, u1), (11, pv0), (12, .int .i64 (p0.length : Int)), (13, .int .i64 s2)] (St w0 Φ_1 [] [ob u1])
 unfold m_i_ComputeAll_l1 at h
 refine WT.seq <| WT.region <| lq (q_lss rfl rfl) rfl <| WL.nil <| WT.seq ?_
 refine WT.cond rfl (fun c1 => ?_) (fun c1 => ?_)
 ·replace h := ite_t h c1
  refine WT.skip <| WT.seq <| WT.block <| WT.seq <| WT.region ?_
  obtain ⟨x1, hx1, h⟩ := bind_some h
  obtain ⟨cs1, F1, -, g1, hb1, hs1, r1⟩ := ph0.el (idx_some hx1).2.2
  obtain ⟨rfl, -⟩ := r1
  refine lq (q_indexAddr Sl_73 rfl rfl ph0 hx1) rfl <| lq (q_loadN Tn_85 rfl (fun w1 hw => (g1.of_eq 0 11 rfl rfl : rg _ _ _ [.string x1.Op, .int .i64 x1.L.K, .string x1.L.S, .int .i64 x1.L.V.K, .int .i64 x1.L.V.N, .string x1.L.V.S, .int .i64 x1.R.K, .string x1.R.S, .int .i64 x1.R.V.K, .int .i64 x1.R.V.N, .string x1.R.V.S]).rangeAt hw.fro) rfl) rfl ?_
  refine ln (n_alloc (C := #[.string (⟨#[]⟩ : ByteArray), .int .i64 0, .string (⟨#[]⟩ : ByteArray), .int .i64 0, .int .i64 0, .string (⟨#[]⟩ : ByteArray), .int .i64 0, .string (⟨#[]⟩ : ByteArray), .int .i64 0, .int .i64 0, .string (⟨#[]⟩ : ByteArray)]) Zr_85 rfl) rfl (fun b_1 => ?_)
  refine ls (s_store (i := 0) (vs := [.string x1.Op, .int .i64 x1.L.K, .string x1.L.S, .int .i64 x1.L.V.K, .int .i64 x1.L.V.N, .string x1.L.V.S, .int .i64 x1.R.K, .string x1.R.S, .int .i64 x1.R.V.K, .int .i64 x1.R.V.N, .string x1.R.V.S]) (C' := [.string x1.Op, .int .i64 x1.L.K, .string x1.L.S, .int .i64 x1.L.V.K, .int .i64 x1.L.V.N, .string x1.L.V.S, .int .i64 x1.R.K, .string x1.R.S, .int .i64 x1.R.V.K, .int .i64 x1.R.V.N, .string x1.R.V.S]) (O' := [(b_1, .cells #[.string x1.Op, .int .i64 x1.L.K, .string x1.L.S, .int .i64 x1.L.V.K, .int .i64 x1.L.V.N, .string x1.L.V.S, .int .i64 x1.R.K, .string x1.R.S, .int .i64 x1.R.V.K, .int .i64 x1.R.V.N, .string x1.R.V.S] 85 (0, 0))]) Sz_85 rfl rfl rfl rfl rfl rfl ⟨rfl, rfl, rfl, rfl, rfl, rfl, rfl, rfl, rfl, rfl, rfl, trivial⟩ rfl rfl) rfl ?_
  refine WL.nil <| WT.seq <| WT.region <| lq (q_loadN Tn_85 rfl (fun w1 hw => hw.rgO (i := 0) rfl 0 11 [.string x1.Op, .int .i64 x1.L.K, .string x1.L.S, .int .i64 x1.L.V.K, .int .i64 x1.L.V.N, .string x1.L.V.S, .int .i64 x1.R.K, .string x1.R.S, .int .i64 x1.R.V.K, .int .i64 x1.R.V.N, .string x1.R.V.S] rfl) rfl) rfl <| lq (q_move rfl) rfl ?_
  obtain ⟨x2, hx2, h⟩ := bind_some h
  refine lp (p_call Fun_44 rfl (fun w1 hw => m_i_Compute_ok hw.fro N x1 p1 ph1 hx2)) rfl <| lq (q_move rfl) rfl <| lq (q_extract rfl rfl) rfl <| lq (q_extract rfl rfl) rfl ?_
  refine ln (n_alloc (C := #[.int .i64 0, .int .i64 0, .string (⟨#[]⟩ : ByteArray)]) Zr_79 rfl) rfl (fun b_2 => ?_)
  refine ls (s_store (i := 0) (vs := [.int .i64 x2.1.K, .int .i64 x2.1.N, .string x2.1.S]) (C' := [.int .i64 x2.1.K, .int .i64 x2.1.N, .string x2.1.S]) (O' := [(b_2, .cells #[.int .i64 x2.1.K, .int .i64 x2.1.N, .string x2.1.S] 79 (0, 0)), (b_1, .cells #[.string x1.Op, .int .i64 x1.L.K, .string x1.L.S, .int .i64 x1.L.V.K, .int .i64 x1.L.V.N, .string x1.L.V.S, .int .i64 x1.R.K, .string x1.R.S, .int .i64 x1.R.V.K, .int .i64 x1.R.V.N, .string x1.R.V.S] 85 (0, 0))]) Sz_79 rfl rfl rfl rfl rfl rfl ⟨rfl, rfl, rfl, trivial⟩ rfl rfl) rfl ?_
  refine lq (q_assign rfl) rfl <| WL.nil <| WT.seq <| WT.seq <| WT.region <| lq (q_move rfl) rfl <| lq (q_not rfl) rfl <| WL.nil ?_
  refine WT.cond rfl (fun c2 => ?_) (fun c2 => ?_)
  ·replace h := ite_t h c2
   refine WT.seq <| WT.region <| lq (q_assign rfl) rfl <| lq (q_assign rfl) rfl <| WL.nil ?_
   refine WT.ret Try.func43 (resOk.two rfl rfl) (fun w1 hw => ?_)
   subst hb0
   cases h
   replace hw := hw.addNil
   refine postG_of_St (js := [0]) hw rfl ⟨.slice none 0 0, rfl, rfl, OSl.nil _ _ _ _⟩
  replace h := ite_f h c2
  refine WT.skip <| WT.region <| lq (q_move rfl) rfl <| lq (q_loadN Tn_79 rfl (fun w1 hw => hw.rgO (i := 0) rfl 0 3 [.int .i64 x2.1.K, .int .i64 x2.1.N, .string x2.1.S] rfl) rfl) rfl ?_
  have rc1 : RC RTVal 3 Φ_1 ([[]] : List (List Nat)) [.int .i64 x2.1.K, .int .i64 x2.1.N, .string x2.1.S] ([x2.1] : List TVal) := RC.cons (c := [.int .i64 x2.1.K, .int .i64 x2.1.N, .string x2.1.S]) (cells := []) ⟨rfl, rfl⟩ rfl (RC.nil _ _ _)
  refine le' (e_lit (vs := [(0, .agg [.int .i64 x2.1.K, .int .i64 x2.1.N, .string x2.1.S].toArray)]) (C := #[.int .i64 x2.1.K, .int .i64 x2.1.N, .string x2.1.S]) RTVal.lasts Sl_38 Zr_79 rfl rfl rfl rfl (fill_made MC_79_1 (fill_cons (cells := [.int .i64 0, .int .i64 0, .string ⟨#[]⟩]) (c := [.int .i64 x2.1.K, .int .i64 x2.1.N, .string x2.1.S]) (C' := [.int .i64 x2.1.K, .int .i64 x2.1.N, .string x2.1.S]) rfl rfl rfl rfl rfl (fill_nil))) rfl rc1 rfl (by simpa using Kw.nil)) rfl (fun v1 Φ_2 D1 q1 => ?_)
  obtain ⟨fr1, h1⟩ := q1
  replace h1 : OSl RTVal 79 3 Φ_2 [] v1 ([x2.1] : List TVal) := by simpa using h1
  replace ph1 := ph1.frame RTBind.lasts fr1 (Dj.empty _)
  replace ph0 := ph0.frame RTExpr.lasts fr1 (Dj.empty _)
  replace k2 := k2.frame RTVal.lasts fr1 (Dj.empty _) (Dj.empty _)
  obtain ⟨x3, hx3, h⟩ := bind_some h
  refine le' (e_appF RTVal.lasts RTVal.one RTVal.flat Sl_38 Ei_79 rfl rfl rfl rfl rfl (js := [1]) (Rr := [ob v1]) rfl k2 h1.rsl hx3) rfl (fun v2 Φ_3 D2 q2 => ?_)
  obtain ⟨⟨ap1, fr2⟩, h2⟩ := q2
  replace ph1 := ph1.frame RTBind.lasts fr2 (ap1.o pa1)
  replace ph0 := ph0.frame RTExpr.lasts fr2 (ap1.o pa0)
  refine lq (q_assign rfl) rfl <| WL.nil <| WT.inBlock <| WT.region <| lq (q_add rfl rfl) rfl <| lq (q_move rfl) rfl <| WL.nil ?_
  refine WT.inLoop (WT.mono (l' := [(1, pv1), (6, v2), (11, pv0), (12, .int .i64 (p0.length : Int)), (13, .int .i64 (IntKind.i64.wrap (s2 + 1)))]) (S' := St w0 Φ_3 [] [ob v2]) ⟨rfl, rfl, rfl, rfl, rfl, trivial⟩ (fun w1 hw => (hw.sel (js := [0]) rfl).selO (js := []) rfl) ?_)
  exact ih1 (Φ_3, x3, v2, IntKind.i64.wrap (s2 + 1)) ⟨h, h2, ph1, ph0⟩
 replace h := ite_f h c1
 refine WT.exit rfl <| WT.seq <| WT.region <| lq (q_move rfl) rfl <| lq (q_assign rfl) rfl <| lq (q_assign rfl) rfl <| WL.nil ?_
 refine WT.ret Try.func43 (resOk.two rfl rfl) (fun w1 hw => ?_)
 subst hb0
 cases h
 refine postG_of_St (js := [0]) hw rfl ⟨u1, rfl, rfl, k2⟩
theorem m_s_l6Arg_ok {Φ : Hp} {w : World} (hΦ : In Φ w) (N : Nat) (p0 : Tl1Cur) {pv0_0 : Value} {pG0_0 : List Nat} {pb0 : Nat} (ph0_0 : RSl (RI .u8) 1 Φ pG0_0 pv0_0 p0.b) (pp0 : Φ pb0 = some (.cells #[pv0_0, .int .i64 p0.i, .int .i64 p0.h] 195 (0, 0))) (pd0_0 : Dj pG0_0 [[pb0]].flatten) (hB : [[pb0]].flatten.Nodup) (hlt : ∀ k ∈ [[pb0]].flatten, k < w.heap.size) {r : TArg × Tl1Cur} (h : m_s_l6Arg N p0 = some r) :
  Calls Try.prog 153 [.pointer (some ⟨pb0, 0, none⟩)].toArray w (PostG Φ w [[pb0]].flatten (fun Φ' Fs v => v = .agg [.int .i64 r.1.K, .string r.1.S, .int .i64 r.1.V.K, .int .i64 r.1.V.N, .string r.1.V.S].toArray ∧ Fs = [[pb0]] ∧ r.2.b = p0.b ∧ Φ' pb0 = some (.cells #[pv0_0, .int .i64 r.2.i, .int .i64 r.2.h] 195 (0, 0)))) := by
 refine enter Try.func153 rfl Try.ntmps153 rfl (St.start hΦ [[pb0]] hB hlt) ?_
 have pa0_0 : Old ⟨w, [[pb0]].flatten, Φ⟩ pG0_0 := Old.mk hΦ ph0_0.kn pd0_0
 unfold m_s_l6Arg at h
 refine WT.seq <| WT.region ?_
 refine ln (n_alloc (C := #[.int .i64 0, .string (⟨#[]⟩ : ByteArray), .int .i64 0, .int .i64 0, .string (⟨#[]⟩ : ByteArray)]) Zr_83 rfl) rfl (fun b_1 => ?_)
 refine WL.nil <| WT.seq <| WT.seq <| WT.region <| lq (q_move rfl) rfl ?_
 obtain ⟨x1, hx1, h⟩ := bind_some h
 refine lc (k_call (js := [0]) (R := []) Fun_92 rfl rfl (fun w1 hw ap hl => m_s_l1Below_ok hw.fro N p0 6 ph0_0 pp0 (ap.o pa0_0) ap.nd hl hx1)) rfl (fun v1 Φ_1 F1 q1 => ?_)
 obtain ⟨ap1, fr1, rfl, rfl, e1, h1⟩ := q1
 replace ph0_0 := ph0_0.frame RI.lasts fr1 (ap1.o pa0_0)
 refine WL.nil <| WT.block <| WT.seq <| WT.region <| lq (q_eql rfl rfl) rfl <| lq (q_assign rfl) rfl <| WL.nil ?_
 refine WT.cond rfl (fun c1 => ?_) (fun c1 => ?_)
 ·replace h := ite_t h c1
  refine WT.seq <| WT.region <| lq (q_build (vs := [(0, .int .i64 3)]) (C := #[.int .i64 3, .string (⟨#[]⟩ : ByteArray), .int .i64 0, .int .i64 0, .string (⟨#[]⟩ : ByteArray)]) Pl_83 Zr_83 rfl (fill_cons (cells := [.int .i64 0, .string ⟨#[]⟩, .int .i64 0, .int .i64 0, .string ⟨#[]⟩]) (c := [.int .i64 3]) (C' := [.int .i64 3, .string ⟨#[]⟩, .int .i64 0, .int .i64 0, .string ⟨#[]⟩]) rfl rfl rfl rfl rfl (fill_nil))) rfl ?_
  refine ls (s_store (i := 0) (vs := [.int .i64 3, .string (⟨#[]⟩ : ByteArray), .int .i64 0, .int .i64 0, .string (⟨#[]⟩ : ByteArray)]) (C' := [.int .i64 3, .string (⟨#[]⟩ : ByteArray), .int .i64 0, .int .i64 0, .string (⟨#[]⟩ : ByteArray)]) (O' := [(b_1, .cells #[.int .i64 3, .string (⟨#[]⟩ : ByteArray), .int .i64 0, .int .i64 0, .string (⟨#[]⟩ : ByteArray)] 83 (0, 0))]) Sz_83 rfl rfl rfl rfl rfl rfl ⟨rfl, rfl, rfl, rfl, rfl, trivial⟩ rfl rfl) rfl ?_
  refine WL.nil ?_
  refine WT.ret Try.func153 (resOk.one (rv_cell Tn_83 rfl (fun w1 hw => hw.rgO (i := 0) rfl 0 5 [.int .i64 3, .string (⟨#[]⟩ : ByteArray), .int .i64 0, .int .i64 0, .string (⟨#[]⟩ : ByteArray)] rfl) rfl)) (fun w1 hw => ?_)
  cases h
  refine postG_of_St (js := [0]) hw rfl ⟨rfl, rfl, rfl, h1⟩
 replace h := ite_f h c1
 refine WT.seq <| WT.region <| lq (q_eql rfl rfl) rfl <| lq (q_assign rfl) rfl <| WL.nil ?_
 refine WT.cond rfl (fun c2 => ?_) (fun c2 => ?_)
 ·replace h := ite_t h c2
  refine WT.seq <| WT.region <| lq (q_move rfl) rfl ?_
  obtain ⟨x2, hx2, h⟩ := bind_some h
  refine lc (k_call (js := [0]) (R := []) Fun_86 rfl rfl (fun w1 hw ap hl => m_s_l3Small_ok hw.fro N (⟨p0.b, x1.2.i, x1.2.h⟩ : Tl1Cur) ph0_0 h1 (ap.o pa0_0) ap.nd hl hx2)) rfl (fun v2 Φ_2 F2 q2 => ?_)
  obtain ⟨ap2, fr2, rfl, rfl, e2, h2⟩ := q2
  replace ph0_0 := ph0_0.frame RI.lasts fr2 (ap2.o pa0_0)
  obtain ⟨x3, hx3, h⟩ := bind_some h
  refine lp (p_call Fun_193 rfl (fun w1 hw => m_s_l6Val_ok hw.fro N x2.1 hx3)) rfl <| ls (s_store (i := 0) (vs := [.int .i64 x3.K, .string x3.S, .int .i64 x3.V.K, .int .i64 x3.V.N, .string x3.V.S]) (C' := [.int .i64 x3.K, .string x3.S, .int .i64 x3.V.K, .int .i64 x3.V.N, .string x3.V.S]) (O' := [(b_1, .cells #[.int .i64 x3.K, .string x3.S, .int .i64 x3.V.K, .int .i64 x3.V.N, .string x3.V.S] 83 (0, 0))]) Sz_83 rfl rfl rfl rfl rfl rfl ⟨rfl, rfl, rfl, rfl, rfl, trivial⟩ rfl rfl) rfl ?_
  refine WL.nil ?_
  refine WT.ret Try.func153 (resOk.one (rv_cell Tn_83 rfl (fun w1 hw => hw.rgO (i := 0) rfl 0 5 [.int .i64 x3.K, .string x3.S, .int .i64 x3.V.K, .int .i64 x3.V.N, .string x3.V.S] rfl) rfl)) (fun w1 hw => ?_)
  cases h
  refine postG_of_St (js := [0]) hw rfl ⟨rfl, rfl, rfl, h2⟩
 replace h := ite_f h c2
 refine WT.skip <| WT.inBlock <| WT.seq <| WT.region <| lq (q_move rfl) rfl ?_
 have rc1 : RC RS 1 Φ_1 ([[], [], [], []] : List (List Nat)) [.string (⟨#[88]⟩ : ByteArray), .string (⟨#[89]⟩ : ByteArray), .string (⟨#[90]⟩ : ByteArray), .string (⟨#[88]⟩ : ByteArray)] ([(⟨#[88]⟩ : ByteArray), (⟨#[89]⟩ : ByteArray), (⟨#[90]⟩ : ByteArray), (⟨#[88]⟩ : ByteArray)] : List ByteArray) := RC.cons (c := [.string (⟨#[88]⟩ : ByteArray)]) (cells := [.string (⟨#[89]⟩ : ByteArray), .string (⟨#[90]⟩ : ByteArray), .string (⟨#[88]⟩ : ByteArray)]) ⟨rfl, rfl⟩ rfl (RC.cons (c := [.string (⟨#[89]⟩ : ByteArray)]) (cells := [.string (⟨#[90]⟩ : ByteArray), .string (⟨#[88]⟩ : ByteArray)]) ⟨rfl, rfl⟩ rfl (RC.cons (c := [.string (⟨#[90]⟩ : ByteArray)]) (cells := [.string (⟨#[88]⟩ : ByteArray)]) ⟨rfl, rfl⟩ rfl (RC.cons (c := [.string (⟨#[88]⟩ : ByteArray)]) (cells := []) ⟨rfl, rfl⟩ rfl (RC.nil _ _ _))))
 refine le' (e_lit (vs := [(0, .string (⟨#[88]⟩ : ByteArray)), (1, .string (⟨#[89]⟩ : ByteArray)), (2, .string (⟨#[90]⟩ : ByteArray)), (3, .string (⟨#[88]⟩ : ByteArray))]) (C := #[.string (⟨#[88]⟩ : ByteArray), .string (⟨#[89]⟩ : ByteArray), .string (⟨#[90]⟩ : ByteArray), .string (⟨#[88]⟩ : ByteArray)]) RS.lasts Sl_68 Zr_9 rfl rfl rfl rfl (fill_made MC_9_4 (fill_cons (cells := [.string ⟨#[]⟩, .string ⟨#[]⟩, .string ⟨#[]⟩, .string ⟨#[]⟩]) (c := [.string (⟨#[88]⟩ : ByteArray)]) (C' := [.string (⟨#[88]⟩ : ByteArray), .string ⟨#[]⟩, .string ⟨#[]⟩, .string ⟨#[]⟩]) rfl rfl rfl rfl rfl (fill_cons (cells := [.string (⟨#[88]⟩ : ByteArray), .string ⟨#[]⟩, .string ⟨#[]⟩, .string ⟨#[]⟩]) (c := [.string (⟨#[89]⟩ : ByteArray)]) (C' := [.string (⟨#[88]⟩ : ByteArray), .string (⟨#[89]⟩ : ByteArray), .string ⟨#[]⟩, .string ⟨#[]⟩]) rfl rfl rfl rfl rfl (fill_cons (cells := [.string (⟨#[88]⟩ : ByteArray), .string (⟨#[89]⟩ : ByteArray), .string ⟨#[]⟩, .string ⟨#[]⟩]) (c := [.string (⟨#[90]⟩ : ByteArray)]) (C' := [.string (⟨#[88]⟩ : ByteArray), .string (⟨#[89]⟩ : ByteArray), .string (⟨#[90]⟩ : ByteArray), .string ⟨#[]⟩]) rfl rfl rfl rfl rfl (fill_cons (cells := [.string (⟨#[88]⟩ : ByteArray), .string (⟨#[89]⟩ : ByteArray), .string (⟨#[90]⟩ : ByteArray), .string ⟨#[]⟩]) (c := [.string (⟨#[88]⟩ : ByteArray)]) (C' := [.string (⟨#[88]⟩ : ByteArray), .string (⟨#[89]⟩ : ByteArray), .string (⟨#[90]⟩ : ByteArray), .string (⟨#[88]⟩ : ByteArray)]) rfl rfl rfl rfl rfl (fill_nil)))))) rfl rc1 rfl (by simpa using Kw.nil)) rfl (fun v3 Φ_3 D1 q3 => ?_)
 obtain ⟨fr3, h3⟩ := q3
 replace h3 : OSl RS 9 1 Φ_3 [] v3 ([(⟨#[88]⟩ : ByteArray), (⟨#[89]⟩ : ByteArray), (⟨#[90]⟩ : ByteArray), (⟨#[88]⟩ : ByteArray)] : List ByteArray) := by simpa using h3
 replace ph0_0 := ph0_0.frame RI.lasts fr3 (Dj.empty _)
 replace h1 := fr3 _ _ (by simp) h1
 obtain ⟨x4, hx4, h⟩ := bind_some h
 refine lc (k_call (js := [1]) (R := [ob v3]) Fun_151 rfl rfl (fun w1 hw ap hl => m_s_l1Str_ok hw.fro N (⟨p0.b, x1.2.i, x1.2.h⟩ : Tl1Cur) ([(⟨#[88]⟩ : ByteArray), (⟨#[89]⟩ : ByteArray), (⟨#[90]⟩ : ByteArray), (⟨#[88]⟩ : ByteArray)] : List ByteArray) ph0_0 h1 h3.rsl (ap.o pa0_0) (Dj.app (ap.r (i := 0) rfl) (Dj.nil _)) ap.nd hl hx4)) rfl (fun v4 Φ_4 F3 q4 => ?_)
 obtain ⟨ap3, fr4, rfl, rfl, e3, h4⟩ := q4
 replace ph0_0 := ph0_0.frame RI.lasts fr4 (ap3.o pa0_0)
 obtain ⟨x5, hx5, h⟩ := bind_some h
 refine lp (p_call Fun_194 rfl (fun w1 hw => m_s_l6Var_ok hw.fro N x4.1 hx5)) rfl <| ls (s_store (i := 0) (vs := [.int .i64 x5.K, .string x5.S, .int .i64 x5.V.K, .int .i64 x5.V.N, .string x5.V.S]) (C' := [.int .i64 x5.K, .string x5.S, .int .i64 x5.V.K, .int .i64 x5.V.N, .string x5.V.S]) (O' := [(b_1, .cells #[.int .i64 x5.K, .string x5.S, .int .i64 x5.V.K, .int .i64 x5.V.N, .string x5.V.S] 83 (0, 0))]) Sz_83 rfl rfl rfl rfl rfl rfl ⟨rfl, rfl, rfl, rfl, rfl, trivial⟩ rfl rfl) rfl ?_
 refine WL.nil ?_
 refine WT.ret Try.func153 (resOk.one (rv_cell Tn_83 rfl (fun w1 hw => hw.rgO (i := 0) rfl 0 5 [.int .i64 x5.K, .string x5.S, .int .i64 x5.V.K, .int .i64 x5.V.N, .string x5.V.S] rfl) rfl)) (fun w1 hw => ?_)
 cases h
 refine postG_of_St (js := [0]) hw rfl ⟨rfl, rfl, rfl, h4⟩
theorem m_s_DrawExprOk_ok {Φ : Hp} {w : World} (hΦ : In Φ w) (N : Nat) (p0 : (List Int)) {pv0 : Value} {pG0 : List Nat} (ph0 : RSl (RI .u8) 1 Φ pG0 pv0 p0) {r : TExpr} (h : m_s_DrawExprOk N p0 = some r) :
  Calls Try.prog 119 [pv0].toArray w (Post (.agg [.string r.Op, .int .i64 r.L.K, .string r.L.S, .int .i64 r.L.V.K, .int .i64 r.L.V.N, .string r.L.V.S, .int .i64 r.R.K, .string r.R.S, .int .i64 r.R.V.K, .int .i64 r.R.V.N, .string r.R.V.S].toArray) w) := by
 refine enter Try.func119 rfl Try.ntmps119 rfl (St.start0 hΦ) ?_
 have pa0 : Old ⟨w, [], Φ⟩ pG0 := Old.mk hΦ ph0.kn (Dj.empty _)
 revert pa0
 generalize hb0 : (⟨w, [], Φ⟩ : Base) = w0
 intro pa0
 unfold m_s_DrawExprOk at h
 refine WT.seq <| WT.region ?_
 refine ln (n_alloc (C := #[.string (⟨#[]⟩ : ByteArray), .int .i64 0, .string (⟨#[]⟩ : ByteArray), .int .i64 0, .int .i64 0, .string (⟨#[]⟩ : ByteArray), .int .i64 0, .string (⟨#[]⟩ : ByteArray), .int .i64 0, .int .i64 0, .string (⟨#[]⟩ : ByteArray)]) Zr_85 rfl) rfl (fun b_1 => ?_)
 refine WL.nil <| WT.seq <| WT.region <| lq (q_move rfl) rfl ?_
 obtain ⟨x1, hx1, h⟩ := bind_some h
 refine lc (k_call (js := []) (R := []) Fun_75 rfl rfl (fun w1 hw ap hl => m_s_l1New_ok hw.fro N p0 ph0  hx1)) rfl (fun v1 Φ_1 F1 q1 => ?_)
 obtain ⟨ap1, fr1, b_2, v2, G1, rfl, rfl, h1, i1, h2⟩ := q1
 refine lq (q_assign rfl) rfl <| WL.nil <| WT.seq <| WT.region <| lq (q_move rfl) rfl ?_
 obtain ⟨x2, hx2, h⟩ := bind_some h
 refine lc (k_call (js := [0]) (R := []) Fun_113 rfl rfl (fun w1 hw ap hl => m_s_l8Expr_ok hw.fro N x1 h1 h2 (Dj.sub (ap.o pa0) i1) ap.nd hl hx2)) rfl (fun v3 Φ_2 F2 q2 => ?_)
 obtain ⟨ap2, fr2, rfl, rfl, e1, h3⟩ := q2
 replace h1 := h1.frame RI.lasts fr2 (Dj.sub (ap2.o pa0) i1)
 refine ln (n_alloc (C := #[.string (⟨#[]⟩ : ByteArray), .int .i64 0, .string (⟨#[]⟩ : ByteArray), .int .i64 0, .int .i64 0, .string (⟨#[]⟩ : ByteArray), .int .i64 0, .string (⟨#[]⟩ : ByteArray), .int .i64 0, .int .i64 0, .string (⟨#[]⟩ : ByteArray)]) Zr_85 rfl) rfl (fun b_3 => ?_)
 refine ls (s_store (i := 0) (vs := [.string x2.1.Op, .int .i64 x2.1.L.K, .string x2.1.L.S, .int .i64 x2.1.L.V.K, .int .i64 x2.1.L.V.N, .string x2.1.L.V.S, .int .i64 x2.1.R.K, .string x2.1.R.S, .int .i64 x2.1.R.V.K, .int .i64 x2.1.R.V.N, .string x2.1.R.V.S]) (C' := [.string x2.1.Op, .int .i64 x2.1.L.K, .string x2.1.L.S, .int .i64 x2.1.L.V.K, .int .i64 x2.1.L.V.N, .string x2.1.L.V.S, .int .i64 x2.1.R.K, .string x2.1.R.S, .int .i64 x2.1.R.V.K, .int .i64 x2.1.R.V.N, .string x2.1.R.V.S]) (O' := [(b_3, .cells #[.string x2.1.Op, .int .i64 x2.1.L.K, .string x2.1.L.S, .int .i64 x2.1.L.V.K, .int .i64 x2.1.L.V.N, .string x2.1.L.V.S, .int .i64 x2.1.R.K, .string x2.1.R.S, .int .i64 x2.1.R.V.K, .int .i64 x2.1.R.V.N, .string x2.1.R.V.S] 85 (0, 0)), (b_1, .cells #[.string (⟨#[]⟩ : ByteArray), .int .i64 0, .string (⟨#[]⟩ : ByteArray), .int .i64 0, .int .i64 0, .string (⟨#[]⟩ : ByteArray), .int .i64 0, .string (⟨#[]⟩ : ByteArray), .int .i64 0, .int .i64 0, .string (⟨#[]⟩ : ByteArray)] 85 (0, 0))]) Sz_85 rfl rfl rfl rfl rfl rfl ⟨rfl, rfl, rfl, rfl, rfl, rfl, rfl, rfl, rfl, rfl, rfl, trivial⟩ rfl rfl) rfl ?_
 refine WL.nil <| WT.seq <| WT.seq <| WT.region <| lq (q_move rfl) rfl ?_
 obtain ⟨x3, hx3, h⟩ := bind_some h
 refine lc (k_call (js := [0]) (R := []) Fun_92 rfl rfl (fun w1 hw ap hl => m_s_l1Below_ok hw.fro N (⟨x1.b, x2.2.i, x2.2.h⟩ : Tl1Cur) 6 h1 h3 (Dj.sub (ap.o pa0) i1) ap.nd hl hx3)) rfl (fun v4 Φ_3 F3 q3 => ?_)
 obtain ⟨ap3, fr3, rfl, rfl, e2, h4⟩ := q3
 replace h1 := h1.frame RI.lasts fr3 (Dj.sub (ap3.o pa0) i1)
 refine WL.nil <| WT.block <| WT.seq <| WT.region <| lq (q_eql rfl rfl) rfl <| lq (q_assign rfl) rfl <| WL.nil ?_
 refine cut (σ := Hp × ByteArray × Int × ByteArray × Int × Int × ByteArray × Int × ByteArray × Int × Int × ByteArray) (fun s => [(2, .pointer (some ⟨b_1, 0, none⟩)), (4, .pointer (some ⟨b_3, 0, none⟩))]) (fun s => St w0 s.1 [(b_3, .cells #[.string s.2.1, .int .i64 s.2.2.1, .string s.2.2.2.1, .int .i64 s.2.2.2.2.1, .int .i64 s.2.2.2.2.2.1, .string s.2.2.2.2.2.2.1, .int .i64 s.2.2.2.2.2.2.2.1, .string s.2.2.2.2.2.2.2.2.1, .int .i64 s.2.2.2.2.2.2.2.2.2.1, .int .i64 s.2.2.2.2.2.2.2.2.2.2.1, .string s.2.2.2.2.2.2.2.2.2.2.2] 85 (0, 0)), (b_1, .cells #[.string (⟨#[]⟩ : ByteArray), .int .i64 0, .string (⟨#[]⟩ : ByteArray), .int .i64 0, .int .i64 0, .string (⟨#[]⟩ : ByteArray), .int .i64 0, .string (⟨#[]⟩ : ByteArray), .int .i64 0, .int .i64 0, .string (⟨#[]⟩ : ByteArray)] 85 (0, 0))] []) (fun s => m_s_DrawExprOk_j1 N s.2.1 s.2.2.1 s.2.2.2.1 s.2.2.2.2.1 s.2.2.2.2.2.1 s.2.2.2.2.2.2.1 s.2.2.2.2.2.2.2.1 s.2.2.2.2.2.2.2.2.1 s.2.2.2.2.2.2.2.2.2.1 s.2.2.2.2.2.2.2.2.2.2.1 s.2.2.2.2.2.2.2.2.2.2.2 = some r) (fun s hm => ?_) (fun K => ?_)
 ·clear h
  obtain ⟨Φ_4, s1, s2, s3, s4, s5, s6, s7, s8, s9, s10, s11⟩ := s
  have h : m_s_DrawExprOk_j1 N s1 s2 s3 s4 s5 s6 s7 s8 s9 s10 s11 = some r := hm
  show WT _ _ [(2, .pointer (some ⟨b_1, 0, none⟩)), (4, .pointer (some ⟨b_3, 0, none⟩))] (St w0 Φ_4 [(b_3, .cells #[.string s1, .int .i64 s2, .string s3, .int .i64 s4, .int .i64 s5, .string s6, .int .i64 s7, .string s8, .int .i64 s9, .int .i64 s10, .string s11] 85 (0, 0)), (b_1, .cells #[.string (⟨#[]⟩ : ByteArray), .int .i64 0, .string (⟨#[]⟩ : ByteArray), .int .i64 0, .int .i64 0, .string (⟨#[]⟩ : ByteArray), .int .i64 0, .string (⟨#[]⟩ : ByteArray), .int .i64 0, .int .i64 0, .string (⟨#[]⟩ : ByteArray)] 85 (0, 0))] [])
  unfold m_s_DrawExprOk_j1 at h
  refine WT.inBlock <| WT.seq <| WT.region <| lq (q_loadN Tn_85 rfl (fun w1 hw => hw.rgO (i := 0) rfl 0 11 [.string s1, .int .i64 s2, .string s3, .int .i64 s4, .int .i64 s5, .string s6, .int .i64 s7, .string s8, .int .i64 s9, .int .i64 s10, .string s11] rfl) rfl) rfl <| ls (s_store (i := 1) (vs := [.string s1, .int .i64 s2, .string s3, .int .i64 s4, .int .i64 s5, .string s6, .int .i64 s7, .string s8, .int .i64 s9, .int .i64 s10, .string s11]) (C' := [.string s1, .int .i64 s2, .string s3, .int .i64 s4, .int .i64 s5, .string s6, .int .i64 s7, .string s8, .int .i64 s9, .int .i64 s10, .string s11]) (O' := [(b_3, .cells #[.string s1, .int .i64 s2, .string s3, .int .i64 s4, .int .i64 s5, .string s6, .int .i64 s7, .string s8, .int .i64 s9, .int .i64 s10, .string s11] 85 (0, 0)), (b_1, .cells #[.string s1, .int .i64 s2, .string s3, .int .i64 s4, .int .i64 s5, .string s6, .int .i64 s7, .string s8, .int .i64 s9, .int .i64 s10, .string s11] 85 (0, 0))]) Sz_85 rfl rfl rfl rfl rfl rfl ⟨rfl, rfl, rfl, rfl, rfl, rfl, rfl, rfl, rfl, rfl, rfl, trivial⟩ rfl rfl) rfl ?_
  refine WL.nil ?_
  refine WT.ret Try.func119 (resOk.one (rv_cell Tn_85 rfl (fun w1 hw => hw.rgO (i := 1) rfl 0 11 [.string s1, .int .i64 s2, .string s3, .int .i64 s4, .int .i64 s5, .string s6, .int .i64 s7, .string s8, .int .i64 s9, .int .i64 s10, .string s11] rfl) rfl)) (fun w1 hw => ?_)
  subst hb0
  cases h
  exact post_of_St hw
 refine WT.cond rfl (fun c1 => ?_) (fun c1 => ?_)
 ·replace h := ite_t h c1
  refine WT.region <| lq (q_move rfl) rfl ?_
  have rc1 : RC RS 1 Φ_3 ([[], [], []] : List (List Nat)) [.string (⟨#[]⟩ : ByteArray), .string (⟨#[42]⟩ : ByteArray), .string (⟨#[45]⟩ : ByteArray)] ([(⟨#[]⟩ : ByteArray), (⟨#[42]⟩ : ByteArray), (⟨#[45]⟩ : ByteArray)] : List ByteArray) := RC.cons (c := [.string (⟨#[]⟩ : ByteArray)]) (cells := [.string (⟨#[42]⟩ : ByteArray), .string (⟨#[45]⟩ : ByteArray)]) ⟨rfl, rfl⟩ rfl (RC.cons (c := [.string (⟨#[42]⟩ : ByteArray)]) (cells := [.string (⟨#[45]⟩ : ByteArray)]) ⟨rfl, rfl⟩ rfl (RC.cons (c := [.string (⟨#[45]⟩ : ByteArray)]) (cells := []) ⟨rfl, rfl⟩ rfl (RC.nil _ _ _)))
  refine le' (e_lit (vs := [(0, .string (⟨#[]⟩ : ByteArray)), (1, .string (⟨#[42]⟩ : ByteArray)), (2, .string (⟨#[45]⟩ : ByteArray))]) (C := #[.string (⟨#[]⟩ : ByteArray), .string (⟨#[42]⟩ : ByteArray), .string (⟨#[45]⟩ : ByteArray)]) RS.lasts Sl_68 Zr_9 rfl rfl rfl rfl (fill_made MC_9_3 (fill_cons (cells := [.string ⟨#[]⟩, .string ⟨#[]⟩, .string ⟨#[]⟩]) (c := [.string (⟨#[]⟩ : ByteArray)]) (C' := [.string (⟨#[]⟩ : ByteArray), .string ⟨#[]⟩, .string ⟨#[]⟩]) rfl rfl rfl rfl rfl (fill_cons (cells := [.string (⟨#[]⟩ : ByteArray), .string ⟨#[]⟩, .string ⟨#[]⟩]) (c := [.string (⟨#[42]⟩ : ByteArray)]) (C' := [.string (⟨#[]⟩ : ByteArray), .string (⟨#[42]⟩ : ByteArray), .string ⟨#[]⟩]) rfl rfl rfl rfl rfl (fill_cons (cells := [.string (⟨#[]⟩ : ByteArray), .string (⟨#[42]⟩ : ByteArray), .string ⟨#[]⟩]) (c := [.string (⟨#[45]⟩ : ByteArray)]) (C' := [.string (⟨#[]⟩ : ByteArray), .string (⟨#[42]⟩ : ByteArray), .string (⟨#[45]⟩ : ByteArray)]) rfl rfl rfl rfl rfl (fill_nil))))) rfl rc1 rfl (by simpa using Kw.nil)) rfl (fun v5 Φ_5 D1 q4 => ?_)
  obtain ⟨fr4, h5⟩ := q4
  replace h5 : OSl RS 9 1 Φ_5 [] v5 ([(⟨#[]⟩ : ByteArray), (⟨#[42]⟩ : ByteArray), (⟨#[45]⟩ : ByteArray)] : List ByteArray) := by simpa using h5
  replace h1 := h1.frame RI.lasts fr4 (Dj.empty _)
  replace h4 := fr4 _ _ (by simp) h4
  obtain ⟨x4, hx4, h⟩ := bind_some h
  refine lc (k_call (js := [1]) (R := [ob v5]) Fun_151 rfl rfl (fun w1 hw ap hl => m_s_l1Str_ok hw.fro N (⟨x1.b, x3.2.i, x3.2.h⟩ : Tl1Cur) ([(⟨#[]⟩ : ByteArray), (⟨#[42]⟩ : ByteArray), (⟨#[45]⟩ : ByteArray)] : List ByteArray) h1 h4 h5.rsl (Dj.sub (ap.o pa0) i1) (Dj.app (ap.r (i := 0) rfl) (Dj.nil _)) ap.nd hl hx4)) rfl (fun v6 Φ_6 F4 q5 => ?_)
  obtain ⟨ap4, fr5, rfl, rfl, e3, h6⟩ := q5
  refine lq (q_fieldAddr Fld_85_0 rfl) rfl <| ls (s_store (i := 0) (vs := [.string x4.1]) (C' := [.string x4.1, .int .i64 x2.1.L.K, .string x2.1.L.S, .int .i64 x2.1.L.V.K, .int .i64 x2.1.L.V.N, .string x2.1.L.V.S, .int .i64 x2.1.R.K, .string x2.1.R.S, .int .i64 x2.1.R.V.K, .int .i64 x2.1.R.V.N, .string x2.1.R.V.S]) (O' := [(b_3, .cells #[.string x4.1, .int .i64 x2.1.L.K, .string x2.1.L.S, .int .i64 x2.1.L.V.K, .int .i64 x2.1.L.V.N, .string x2.1.L.V.S, .int .i64 x2.1.R.K, .string x2.1.R.S, .int .i64 x2.1.R.V.K, .int .i64 x2.1.R.V.N, .string x2.1.R.V.S] 85 (0, 0)), (b_1, .cells #[.string (⟨#[]⟩ : ByteArray), .int .i64 0, .string (⟨#[]⟩ : ByteArray), .int .i64 0, .int .i64 0, .string (⟨#[]⟩ : ByteArray), .int .i64 0, .string (⟨#[]⟩ : ByteArray), .int .i64 0, .int .i64 0, .string (⟨#[]⟩ : ByteArray)] 85 (0, 0))]) Sz_9 rfl rfl rfl rfl rfl rfl ⟨rfl, trivial⟩ rfl rfl) rfl ?_
  refine WL.nil <| WT.mono (l' := [(2, .pointer (some ⟨b_1, 0, none⟩)), (4, .pointer (some ⟨b_3, 0, none⟩))]) (S' := St w0 Φ_6 [(b_3, .cells #[.string x4.1, .int .i64 x2.1.L.K, .string x2.1.L.S, .int .i64 x2.1.L.V.K, .int .i64 x2.1.L.V.N, .string x2.1.L.V.S, .int .i64 x2.1.R.K, .string x2.1.R.S, .int .i64 x2.1.R.V.K, .int .i64 x2.1.R.V.N, .string x2.1.R.V.S] 85 (0, 0)), (b_1, .cells #[.string (⟨#[]⟩ : ByteArray), .int .i64 0, .string (⟨#[]⟩ : ByteArray), .int .i64 0, .int .i64 0, .string (⟨#[]⟩ : ByteArray), .int .i64 0, .string (⟨#[]⟩ : ByteArray), .int .i64 0, .int .i64 0, .string (⟨#[]⟩ : ByteArray)] 85 (0, 0))] []) ⟨rfl, rfl, trivial⟩ (fun w1 hw => (hw.sel (js := []) rfl).selO (js := [0, 0]) rfl) ?_
  exact K (Φ_6, x4.1, x2.1.L.K, x2.1.L.S, x2.1.L.V.K, x2.1.L.V.N, x2.1.L.V.S, x2.1.R.K, x2.1.R.S, x2.1.R.V.K, x2.1.R.V.N, x2.1.R.V.S) h
 replace h := ite_f h c1
 refine WT.seq <| WT.region <| lq (q_eql rfl rfl) rfl <| lq (q_assign rfl) rfl <| WL.nil ?_
 refine WT.cond rfl (fun c2 => ?_) (fun c2 => ?_)
 ·replace h := ite_t h c2
  refine WT.region <| lq (q_move rfl) rfl ?_
  obtain ⟨x5, hx5, h⟩ := bind_some h
  refine lc (k_call (js := [0]) (R := []) Fun_153 rfl rfl (fun w1 hw ap hl => m_s_l6Arg_ok hw.fro N (⟨x1.b, x3.2.i, x3.2.h⟩ : Tl1Cur) h1 h4 (Dj.sub (ap.o pa0) i1) ap.nd hl hx5)) rfl (fun v7 Φ_7 F5 q6 => ?_)
  obtain ⟨ap5, fr6, rfl, rfl, e4, h7⟩ := q6
  refine lq (q_fieldAddr Fld_85_1 rfl) rfl <| ls (s_store (i := 0) (vs := [.int .i64 x5.1.K, .string x5.1.S, .int .i64 x5.1.V.K, .int .i64 x5.1.V.N, .string x5.1.V.S]) (C' := [.string x2.1.Op, .int .i64 x5.1.K, .string x5.1.S, .int .i64 x5.1.V.K, .int .i64 x5.1.V.N, .string x5.1.V.S, .int .i64 x2.1.R.K, .string x2.1.R.S, .int .i64 x2.1.R.V.K, .int .i64 x2.1.R.V.N, .string x2.1.R.V.S]) (O' := [(b_3, .cells #[.string x2.1.Op, .int .i64 x5.1.K, .string x5.1.S, .int .i64 x5.1.V.K, .int .i64 x5.1.V.N, .string x5.1.V.S, .int .i64 x2.1.R.K, .string x2.1.R.S, .int .i64 x2.1.R.V.K, .int .i64 x2.1.R.V.N, .string x2.1.R.V.S] 85 (0, 0)), (b_1, .cells #[.string (⟨#[]⟩ : ByteArray), .int .i64 0, .string (⟨#[]⟩ : ByteArray), .int .i64 0, .int .i64 0, .string (⟨#[]⟩ : ByteArray), .int .i64 0, .string (⟨#[]⟩ : ByteArray), .int .i64 0, .int .i64 0, .string (⟨#[]⟩ : ByteArray)] 85 (0, 0))]) Sz_83 rfl rfl rfl rfl rfl rfl ⟨rfl, rfl, rfl, rfl, rfl, trivial⟩ rfl rfl) rfl ?_
  refine WL.nil <| WT.mono (l' := [(2, .pointer (some ⟨b_1, 0, none⟩)), (4, .pointer (some ⟨b_3, 0, none⟩))]) (S' := St w0 Φ_7 [(b_3, .cells #[.string x2.1.Op, .int .i64 x5.1.K, .string x5.1.S, .int .i64 x5.1.V.K, .int .i64 x5.1.V.N, .string x5.1.V.S, .int .i64 x2.1.R.K, .string x2.1.R.S, .int .i64 x2.1.R.V.K, .int .i64 x2.1.R.V.N, .string x2.1.R.V.S] 85 (0, 0)), (b_1, .cells #[.string (⟨#[]⟩ : ByteArray), .int .i64 0, .string (⟨#[]⟩ : ByteArray), .int .i64 0, .int .i64 0, .string (⟨#[]⟩ : ByteArray), .int .i64 0, .string (⟨#[]⟩ : ByteArray), .int .i64 0, .int .i64 0, .string (⟨#[]⟩ : ByteArray)] 85 (0, 0))] []) ⟨rfl, rfl, trivial⟩ (fun w1 hw => (hw.sel (js := []) rfl).selO (js := [0, 0]) rfl) ?_
  exact K (Φ_7, x2.1.Op, x5.1.K, x5.1.S, x5.1.V.K, x5.1.V.N, x5.1.V.S, x2.1.R.K, x2.1.R.S, x2.1.R.V.K, x2.1.R.V.N, x2.1.R.V.S) h
 replace h := ite_f h c2
 refine WT.seq <| WT.region <| lq (q_eql rfl rfl) rfl <| lq (q_assign rfl) rfl <| WL.nil ?_
 refine WT.cond rfl (fun c3 => ?_) (fun c3 => ?_)
 ·replace h := ite_t h c3
  refine WT.region <| lq (q_move rfl) rfl ?_
  obtain ⟨x6, hx6, h⟩ := bind_some h
  refine lc (k_call (js := [0]) (R := []) Fun_153 rfl rfl (fun w1 hw ap hl => m_s_l6Arg_ok hw.fro N (⟨x1.b, x3.2.i, x3.2.h⟩ : Tl1Cur) h1 h4 (Dj.sub (ap.o pa0) i1) ap.nd hl hx6)) rfl (fun v8 Φ_8 F6 q7 => ?_)
  obtain ⟨ap6, fr7, rfl, rfl, e5, h8⟩ := q7
  refine lq (q_fieldAddr Fld_85_2 rfl) rfl <| ls (s_store (i := 0) (vs := [.int .i64 x6.1.K, .string x6.1.S, .int .i64 x6.1.V.K, .int .i64 x6.1.V.N, .string x6.1.V.S]) (C' := [.string x2.1.Op, .int .i64 x2.1.L.K, .string x2.1.L.S, .int .i64 x2.1.L.V.K, .int .i64 x2.1.L.V.N, .string x2.1.L.V.S, .int .i64 x6.1.K, .string x6.1.S, .int .i64 x6.1.V.K, .int .i64 x6.1.V.N, .string x6.1.V.S]) (O' := [(b_3, .cells #[.string x2.1.Op, .int .i64 x2.1.L.K, .string x2.1.L.S, .int .i64 x2.1.L.V.K, .int .i64 x2.1.L.V.N, .string x2.1.L.V.S, .int .i64 x6.1.K, .string x6.1.S, .int .i64 x6.1.V.K, .int .i64 x6.1.V.N, .string x6.1.V.S] 85 (0, 0)), (b_1, .cells #[.string (⟨#[]⟩ : ByteArray), .int .i64 0, .string (⟨#[]⟩ : ByteArray), .int .i64 0, .int .i64 0, .string (⟨#[]⟩ : ByteArray), .int .i64 0, .string (⟨#[]⟩ : ByteArray), .int .i64 0, .int .i64 0, .string (⟨#[]⟩ : ByteArray)] 85 (0, 0))]) Sz_83 rfl rfl rfl rfl rfl rfl ⟨rfl, rfl, rfl, rfl, rfl, trivial⟩ rfl rfl) rfl ?_
  refine WL.nil <| WT.mono (l' := [(2, .pointer (some ⟨b_1, 0, none⟩)), (4, .pointer (some ⟨b_3, 0, none⟩))]) (S' := St w0 Φ_8 [(b_3, .cells #[.string x2.1.Op, .int .i64 x2.1.L.K, .string x2.1.L.S, .int .i64 x2.1.L.V.K, .int .i64 x2.1.L.V.N, .string x2.1.L.V.S, .int .i64 x6.1.K, .string x6.1.S, .int .i64 x6.1.V.K, .int .i64 x6.1.V.N, .string x6.1.V.S] 85 (0, 0)), (b_1, .cells #[.string (⟨#[]⟩ : ByteArray), .int .i64 0, .string (⟨#[]⟩ : ByteArray), .int .i64 0, .int .i64 0, .string (⟨#[]⟩ : ByteArray), .int .i64 0, .string (⟨#[]⟩ : ByteArray), .int .i64 0, .int .i64 0, .string (⟨#[]⟩ : ByteArray)] 85 (0, 0))] []) ⟨rfl, rfl, trivial⟩ (fun w1 hw => (hw.sel (js := []) rfl).selO (js := [0, 0]) rfl) ?_
  exact K (Φ_8, x2.1.Op, x2.1.L.K, x2.1.L.S, x2.1.L.V.K, x2.1.L.V.N, x2.1.L.V.S, x6.1.K, x6.1.S, x6.1.V.K, x6.1.V.N, x6.1.V.S) h
 replace h := ite_f h c3
 refine WT.skip <| WT.mono (l' := [(2, .pointer (some ⟨b_1, 0, none⟩)), (4, .pointer (some ⟨b_3, 0, none⟩))]) (S' := St w0 Φ_3 [(b_3, .cells #[.string x2.1.Op, .int .i64 x2.1.L.K, .string x2.1.L.S, .int .i64 x2.1.L.V.K, .int .i64 x2.1.L.V.N, .string x2.1.L.V.S, .int .i64 x2.1.R.K, .string x2.1.R.S, .int .i64 x2.1.R.V.K, .int .i64 x2.1.R.V.N, .string x2.1.R.V.S] 85 (0, 0)), (b_1, .cells #[.string (⟨#[]⟩ : ByteArray), .int .i64 0, .string (⟨#[]⟩ : ByteArray), .int .i64 0, .int .i64 0, .string (⟨#[]⟩ : ByteArray), .int .i64 0, .string (⟨#[]⟩ : ByteArray), .int .i64 0, .int .i64 0, .string (⟨#[]⟩ : ByteArray)] 85 (0, 0))] []) ⟨rfl, rfl, trivial⟩ (fun w1 hw => (hw.sel (js := []) rfl).selO (js := [0, 0]) rfl) ?_
 exact K (Φ_3, x2.1.Op, x2.1.L.K, x2.1.L.S, x2.1.L.V.K, x2.1.L.V.N, x2.1.L.V.S, x2.1.R.K, x2.1.R.S, x2.1.R.V.K, x2.1.R.V.N, x2.1.R.V.S) h
theorem m_s_l1Int_ok {Φ : Hp} {w : World} (hΦ : In Φ w) (N : Nat) (p0 : Tl1Cur) (p1 : (List Int)) {pv0_0 : Value} {pG0_0 : List Nat} {pb0 : Nat} {pv1 : Value} {pG1 : List Nat} (ph0_0 : RSl (RI .u8) 1 Φ pG0_0 pv0_0 p0.b) (pp0 : Φ pb0 = some (.cells #[pv0_0, .int .i64 p0.i, .int .i64 p0.h] 195 (0, 0))) (ph1 : RSl (RI .i64) 1 Φ pG1 pv1 p1) (pd0_0 : Dj pG0_0 [[pb0]].flatten) (pd1 : Dj pG1 [[pb0]].flatten) (hB : [[pb0]].flatten.Nodup) (hlt : ∀ k ∈ [[pb0]].flatten, k < w.heap.size) {r : Int × Tl1Cur} (h : m_s_l1Int N p0 p1 = some r) :
  Calls Try.prog 120 [.pointer (some ⟨pb0, 0, none⟩), pv1].toArray w (PostG Φ w [[pb0]].flatten (fun Φ' Fs v => v = .int .i64 r.1 ∧ Fs = [[pb0]] ∧ r.2.b = p0.b ∧ Φ' pb0 = some (.cells #[pv0_0, .int .i64 r.2.i, .int .i64 r.2.h] 195 (0, 0)))) := by
 refine enter Try.func120 rfl Try.ntmps120 rfl (St.start hΦ [[pb0]] hB hlt) ?_
 have pa0_0 : Old ⟨w, [[pb0]].flatten, Φ⟩ pG0_0 := Old.mk hΦ ph0_0.kn pd0_0
 have pa1 : Old ⟨w, [[pb0]].flatten, Φ⟩ pG1 := Old.mk hΦ ph1.kn pd1
 unfold m_s_l1Int at h
 refine WT.seq <| WT.region <| lq (q_assign rfl) rfl <| WL.nil <| WT.seq <| WT.region <| lq (q_move rfl) rfl <| lq (q_move rfl) rfl <| lq (q_move rfl) rfl <| lq (q_lenR Sl_27 rfl rfl ph1) rfl ?_
 obtain ⟨x1, hx1, h⟩ := bind_some h
 refine lc (k_call (js := [0]) (R := []) Fun_92 rfl rfl (fun w1 hw ap hl => m_s_l1Below_ok hw.fro N p0 (p1.length : Int) ph0_0 pp0 (ap.o pa0_0) ap.nd hl hx1)) rfl (fun v1 Φ_1 F1 q1 => ?_)
 obtain ⟨ap1, fr1, rfl, rfl, e1, h1⟩ := q1
 replace ph1 := ph1.frame RI.lasts fr1 (ap1.o pa1)
 replace ph0_0 := ph0_0.frame RI.lasts fr1 (ap1.o pa0_0)
 obtain ⟨x2, hx2, h⟩ := bind_some h
 obtain ⟨cs1, F2, -, g1, hb1, hs1, r1⟩ := ph1.el (idx_some hx2).2.2
 obtain ⟨rfl, -⟩ := r1
 refine lq (q_indexAddr Sl_27 rfl rfl ph1 hx2) rfl <| lq (q_load1 T1_3 rfl (fun w1 hw => (g1.of_eq 0 1 rfl rfl : rg _ _ _ [.int .i64 x2]).rangeAt hw.fro)) rfl <| lq (q_assign rfl) rfl <| WL.nil ?_
 refine WT.ret Try.func120 (resOk.one rfl) (fun w1 hw => ?_)
 cases h
 refine postG_of_St (js := [0]) hw rfl ⟨rfl, rfl, rfl, h1⟩
theorem m_s_DrawCompute_ok {Φ : Hp} {w : World} (hΦ : In Φ w) (N : Nat) (p0 : (List Int)) {pv0 : Value} {pG0 : List Nat} (ph0 : RSl (RI .u8) 1 Φ pG0 pv0 p0) {r : TExpr × (List TBind)} (h : m_s_DrawCompute N p0 = some r) :
  Calls Try.prog 46 [pv0].toArray w (PostG Φ w [] (fun Φ' Fs v => ∃ (sr_1_0 : Value), v = .tuple #[.agg [.string r.1.Op, .int .i64 r.1.L.K, .string r.1.L.S, .int .i64 r.1.L.V.K, .int .i64 r.1.L.V.N, .string r.1.L.V.S, .int .i64 r.1.R.K, .string r.1.R.S, .int .i64 r.1.R.V.K, .int .i64 r.1.R.V.N, .string r.1.R.V.S].toArray, sr_1_0] ∧ Fs = [ob sr_1_0] ∧ OSl RTBind 142 4 Φ' [] sr_1_0 r.2)) := by
 refine enter Try.func46 rfl Try.ntmps46 rfl (St.start0 hΦ) ?_
 have pa0 : Old ⟨w, [], Φ⟩ pG0 := Old.mk hΦ ph0.kn (Dj.empty _)
 revert pa0
 generalize hb0 : (⟨w, [], Φ⟩ : Base) = w0
 intro pa0
 unfold m_s_DrawCompute at h
 refine WT.seq <| WT.region ?_
 refine ln (n_alloc (C := #[.string (⟨#[]⟩ : ByteArray), .int .i64 0, .string (⟨#[]⟩ : ByteArray), .int .i64 0, .int .i64 0, .string (⟨#[]⟩ : ByteArray), .int .i64 0, .string (⟨#[]⟩ : ByteArray), .int .i64 0, .int .i64 0, .string (⟨#[]⟩ : ByteArray)]) Zr_85 rfl) rfl (fun b_1 => ?_)
 refine lq (q_assign rfl) rfl <| WL.nil <| WT.seq <| WT.region <| lq (q_move rfl) rfl ?_
 obtain ⟨x1, hx1, h⟩ := bind_some h
 refine lp (p_call Fun_119 rfl (fun w1 hw => m_s_DrawExprOk_ok hw.fro N p0 ph0 hx1)) rfl ?_
 refine ln (n_alloc (C := #[.string (⟨#[]⟩ : ByteArray), .int .i64 0, .string (⟨#[]⟩ : ByteArray), .int .i64 0, .int .i64 0, .string (⟨#[]⟩ : ByteArray), .int .i64 0, .string (⟨#[]⟩ : ByteArray), .int .i64 0, .int .i64 0, .string (⟨#[]⟩ : ByteArray)]) Zr_85 rfl) rfl (fun b_2 => ?_)
 refine ls (s_store (i := 0) (vs := [.string x1.Op, .int .i64 x1.L.K, .string x1.L.S, .int .i64 x1.L.V.K, .int .i64 x1.L.V.N, .string x1.L.V.S, .int .i64 x1.R.K, .string x1.R.S, .int .i64 x1.R.V.K, .int .i64 x1.R.V.N, .string x1.R.V.S]) (C' := [.string x1.Op, .int .i64 x1.L.K, .string x1.L.S, .int .i64 x1.L.V.K, .int .i64 x1.L.V.N, .string x1.L.V.S, .int .i64 x1.R.K, .string x1.R.S, .int .i64 x1.R.V.K, .int .i64 x1.R.V.N, .string x1.R.V.S]) (O' := [(b_2, .cells #[.string x1.Op, .int .i64 x1.L.K, .string x1.L.S, .int .i64 x1.L.V.K, .int .i64 x1.L.V.N, .string x1.L.V.S, .int .i64 x1.R.K, .string x1.R.S, .int .i64 x1.R.V.K, .int .i64 x1.R.V.N, .string x1.R.V.S] 85 (0, 0)), (b_1, .cells #[.string (⟨#[]⟩ : ByteArray), .int .i64 0, .string (⟨#[]⟩ : ByteArray), .int .i64 0, .int .i64 0, .string (⟨#[]⟩ : ByteArray), .int .i64 0, .string (⟨#[]⟩ : ByteArray), .int .i64 0, .int .i64 0, .string (⟨#[]⟩ : ByteArray)] 85 (0, 0))]) Sz_85 rfl rfl rfl rfl rfl rfl ⟨rfl, rfl, rfl, rfl, rfl, rfl, rfl, rfl, rfl, rfl, rfl, trivial⟩ rfl rfl) rfl ?_
 refine WL.nil <| WT.seq <| WT.region <| lq (q_move rfl) rfl ?_
 obtain ⟨x2, hx2, h⟩ := bind_some h
 refine lc (k_call (js := []) (R := []) Fun_75 rfl rfl (fun w1 hw ap hl => m_s_l1New_ok hw.fro N p0 ph0  hx2)) rfl (fun v1 Φ_1 F1 q1 => ?_)
 obtain ⟨ap1, fr1, b_3, v2, G1, rfl, rfl, h1, i1, h2⟩ := q1
 refine lq (q_assign rfl) rfl <| WL.nil <| WT.seq <| WT.region <| lq (q_move rfl) rfl ?_
 obtain ⟨x3, hx3, h⟩ := bind_some h
 refine lc (k_call (js := [0]) (R := []) Fun_88 rfl rfl (fun w1 hw ap hl => m_s_l6Binds_ok hw.fro N x2 h1 h2 (Dj.sub (ap.o pa0) i1) ap.nd hl hx3)) rfl (fun v3 Φ_2 F2 q2 => ?_)
 obtain ⟨ap2, fr2, v4, rfl, rfl, h3, e1, h4⟩ := q2
 replace h1 := h1.frame RI.lasts fr2 (Dj.sub (ap2.o pa0) i1)
 refine lq (q_assign rfl) rfl <| WL.nil <| WT.seq <| WT.seq <| WT.region <| lq (q_move rfl) rfl ?_
 obtain ⟨x4, hx4, h⟩ := bind_some h
 refine lc (k_call (js := [1]) (R := [ob v3]) Fun_85 rfl rfl (fun w1 hw ap hl => m_s_l1Once_ok hw.fro N (⟨x2.b, x3.2.i, x3.2.h⟩ : Tl1Cur) 2 h1 h4 (Dj.sub (ap.o pa0) i1) ap.nd hl hx4)) rfl (fun v5 Φ_3 F3 q3 => ?_)
 obtain ⟨ap3, fr3, rfl, rfl, e2, h5⟩ := q3
 replace h1 := h1.frame RI.lasts fr3 (Dj.sub (ap3.o pa0) i1)
 replace h3 := h3.frame RTBind.lasts fr3 (ap3.r (i := 0) rfl) (Dj.nil _)
 refine WL.nil ?_
 refine cut (σ := Hp × (List TBind) × Value) (fun s => [(2, .pointer (some ⟨b_1, 0, none⟩)), (4, .pointer (some ⟨b_2, 0, none⟩)), (6, s.2.2)]) (fun s => St w0 s.1 [(b_2, .cells #[.string x1.Op, .int .i64 x1.L.K, .string x1.L.S, .int .i64 x1.L.V.K, .int .i64 x1.L.V.N, .string x1.L.V.S, .int .i64 x1.R.K, .string x1.R.S, .int .i64 x1.R.V.K, .int .i64 x1.R.V.N, .string x1.R.V.S] 85 (0, 0)), (b_1, .cells #[.string (⟨#[]⟩ : ByteArray), .int .i64 0, .string (⟨#[]⟩ : ByteArray), .int .i64 0, .int .i64 0, .string (⟨#[]⟩ : ByteArray), .int .i64 0, .string (⟨#[]⟩ : ByteArray), .int .i64 0, .int .i64 0, .string (⟨#[]⟩ : ByteArray)] 85 (0, 0))] [ob s.2.2]) (fun s => m_s_DrawCompute_j1 N x1 s.2.1 = some r ∧ (OSl RTBind 142 4 s.1 [] s.2.2 s.2.1)) (fun s hm => ?_) (fun K => ?_)
 ·clear h
  obtain ⟨Φ_4, s1, u1⟩ := s
  obtain ⟨h, k1⟩ := hm
  replace h : m_s_DrawCompute_j1 N x1 s1 = some r := h
  replace k1 : OSl RTBind 142 4 Φ_4 [] u1 s1 := k1
  show WT _ _ [(2, .pointer (some ⟨b_1, 0, none⟩)), (4, .pointer (some ⟨b_2, 0, none⟩)), (6, u1)] (St w0 Φ_4 [(b_2, .cells #[.string x1.Op, .int .i64 x1.L.K, .string x1.L.S, .int .i64 x1.L.V.K, .int .i64 x1.L.V.N, .string x1.L.V.S, .int .i64 x1.R.K, .string x1.R.S, .int .i64 x1.R.V.K, .int .i64 x1.R.V.N, .string x1.R.V.S] 85 (0, 0)), (b_1, .cells #[.string (⟨#[]⟩ : ByteArray), .int .i64 0, .string (⟨#[]⟩ : ByteArray), .int .i64 0, .int .i64 0, .string (⟨#[]⟩ : ByteArray), .int .i64 0, .string (⟨#[]⟩ : ByteArray), .int .i64 0, .int .i64 0, .string (⟨#[]⟩ : ByteArray)] 85 (0, 0))] [ob u1])
  unfold m_s_DrawCompute_j1 at h
  refine WT.seq <| WT.region <| lq (q_loadN Tn_85 rfl (fun w1 hw => hw.rgO (i := 0) rfl 0 11 [.string x1.Op, .int .i64 x1.L.K, .string x1.L.S, .int .i64 x1.L.V.K, .int .i64 x1.L.V.N, .string x1.L.V.S, .int .i64 x1.R.K, .string x1.R.S, .int .i64 x1.R.V.K, .int .i64 x1.R.V.N, .string x1.R.V.S] rfl) rfl) rfl <| lq (q_move rfl) rfl <| ls (s_store (i := 1) (vs := [.string x1.Op, .int .i64 x1.L.K, .string x1.L.S, .int .i64 x1.L.V.K, .int .i64 x1.L.V.N, .string x1.L.V.S, .int .i64 x1.R.K, .string x1.R.S, .int .i64 x1.R.V.K, .int .i64 x1.R.V.N, .string x1.R.V.S]) (C' := [.string x1.Op, .int .i64 x1.L.K, .string x1.L.S, .int .i64 x1.L.V.K, .int .i64 x1.L.V.N, .string x1.L.V.S, .int .i64 x1.R.K, .string x1.R.S, .int .i64 x1.R.V.K, .int .i64 x1.R.V.N, .string x1.R.V.S]) (O' := [(b_2, .cells #[.string x1.Op, .int .i64 x1.L.K, .string x1.L.S, .int .i64 x1.L.V.K, .int .i64 x1.L.V.N, .string x1.L.V.S, .int .i64 x1.R.K, .string x1.R.S, .int .i64 x1.R.V.K, .int .i64 x1.R.V.N, .string x1.R.V.S] 85 (0, 0)), (b_1, .cells #[.string x1.Op, .int .i64 x1.L.K, .string x1.L.S, .int .i64 x1.L.V.K, .int .i64 x1.L.V.N, .string x1.L.V.S, .int .i64 x1.R.K, .string x1.R.S, .int .i64 x1.R.V.K, .int .i64 x1.R.V.N, .string x1.R.V.S] 85 (0, 0))]) Sz_85 rfl rfl rfl rfl rfl rfl ⟨rfl, rfl, rfl, rfl, rfl, rfl, rfl, rfl, rfl, rfl, rfl, trivial⟩ rfl rfl) rfl ?_
  refine lq (q_assign rfl) rfl <| WL.nil ?_
  refine WT.ret Try.func46 (resOk.two (rv_cell Tn_85 rfl (fun w1 hw => hw.rgO (i := 1) rfl 0 11 [.string x1.Op, .int .i64 x1.L.K, .string x1.L.S, .int .i64 x1.L.V.K, .int .i64 x1.L.V.N, .string x1.L.V.S, .int .i64 x1.R.K, .string x1.R.S, .int .i64 x1.R.V.K, .int .i64 x1.R.V.N, .string x1.R.V.S] rfl) rfl) rfl) (fun w1 hw => ?_)
  subst hb0
  cases h
  refine postG_of_St (js := [0]) hw rfl ⟨u1, rfl, rfl, k1⟩
 refine WT.cond rfl (fun c1 => ?_) (fun c1 => ?_)
 ·replace h := ite_t h c1
  refine WT.region <| lq (q_move rfl) rfl <| lq (q_move rfl) rfl ?_
  have rc1 : RC (RI .i64) 1 Φ_3 ([[], []] : List (List Nat)) [.int .i64 1, .int .i64 1000000000] ([1, 1000000000] : List Int) := RC.cons (c := [.int .i64 1]) (cells := [.int .i64 1000000000]) ⟨rfl, rfl⟩ rfl (RC.cons (c := [.int .i64 1000000000]) (cells := []) ⟨rfl, rfl⟩ rfl (RC.nil _ _ _))
  refine le' (e_lit (vs := [(0, .int .i64 1), (1, .int .i64 1000000000)]) (C := #[.int .i64 1, .int .i64 1000000000]) RI.lasts Sl_27 Zr_3 rfl rfl rfl rfl (fill_made MC_3_2 (fill_cons (cells := [.int .i64 0, .int .i64 0]) (c := [.int .i64 1]) (C' := [.int .i64 1, .int .i64 0]) rfl rfl rfl rfl rfl (fill_cons (cells := [.int .i64 1, .int .i64 0]) (c := [.int .i64 1000000000]) (C' := [.int .i64 1, .int .i64 1000000000]) rfl rfl rfl rfl rfl (fill_nil)))) rfl rc1 rfl (by simpa using Kw.nil)) rfl (fun v6 Φ_5 D1 q4 => ?_)
  obtain ⟨fr4, h6⟩ := q4
  replace h6 : OSl (RI .i64) 3 1 Φ_5 [] v6 ([1, 1000000000] : List Int) := by simpa using h6
  replace h1 := h1.frame RI.lasts fr4 (Dj.empty _)
  replace h3 := h3.frame RTBind.lasts fr4 (Dj.empty _) (Dj.empty _)
  replace h5 := fr4 _ _ (by simp) h5
  obtain ⟨x5, hx5, h⟩ := bind_some h
  refine lc (k_call (js := [1]) (R := [ob v6, ob v3]) Fun_120 rfl rfl (fun w1 hw ap hl => m_s_l1Int_ok hw.fro N (⟨x2.b, x4.2.i, x4.2.h⟩ : Tl1Cur) ([1, 1000000000] : List Int) h1 h5 h6.rsl (Dj.sub (ap.o pa0) i1) (Dj.app (ap.r (i := 0) rfl) (Dj.nil _)) ap.nd hl hx5)) rfl (fun v7 Φ_6 F4 q5 => ?_)
  obtain ⟨ap4, fr5, rfl, rfl, e3, h7⟩ := q5
  replace h3 := h3.frame RTBind.lasts fr5 (ap4.r (i := 1) rfl) (Dj.nil _)
  refine lq (q_build (vs := [(0, .int .i64 1), (1, .int .i64 x5.1)]) (C := #[.int .i64 1, .int .i64 x5.1, .string (⟨#[]⟩ : ByteArray)]) Pl_79 Zr_79 rfl (fill_cons (cells := [.int .i64 0, .int .i64 0, .string ⟨#[]⟩]) (c := [.int .i64 1]) (C' := [.int .i64 1, .int .i64 0, .string ⟨#[]⟩]) rfl rfl rfl rfl rfl (fill_cons (cells := [.int .i64 1, .int .i64 0, .string ⟨#[]⟩]) (c := [.int .i64 x5.1]) (C' := [.int .i64 1, .int .i64 x5.1, .string ⟨#[]⟩]) rfl rfl rfl rfl rfl (fill_nil)))) rfl ?_
  refine lq (q_build (vs := [(0, .string (⟨#[88]⟩ : ByteArray)), (1, .agg [.int .i64 1, .int .i64 x5.1, .string (⟨#[]⟩ : ByteArray)].toArray)]) (C := #[.string (⟨#[88]⟩ : ByteArray), .int .i64 1, .int .i64 x5.1, .string (⟨#[]⟩ : ByteArray)]) Pl_142 Zr_142 rfl (fill_cons (cells := [.string ⟨#[]⟩, .int .i64 0, .int .i64 0, .string ⟨#[]⟩]) (c := [.string (⟨#[88]⟩ : ByteArray)]) (C' := [.string (⟨#[88]⟩ : ByteArray), .int .i64 0, .int .i64 0, .string ⟨#[]⟩]) rfl rfl rfl rfl rfl (fill_cons (cells := [.string (⟨#[88]⟩ : ByteArray), .int .i64 0, .int .i64 0, .string ⟨#[]⟩]) (c := [.int .i64 1, .int .i64 x5.1, .string (⟨#[]⟩ : ByteArray)]) (C' := [.string (⟨#[88]⟩ : ByteArray), .int .i64 1, .int .i64 x5.1, .string (⟨#[]⟩ : ByteArray)]) rfl rfl rfl rfl rfl (fill_nil)))) rfl ?_
  refine lq (q_build (vs := [(0, .int .i64 1), (1, .int .i64 2)]) (C := #[.int .i64 1, .int .i64 2, .string (⟨#[]⟩ : ByteArray)]) Pl_79 Zr_79 rfl (fill_cons (cells := [.int .i64 0, .int .i64 0, .string ⟨#[]⟩]) (c := [.int .i64 1]) (C' := [.int .i64 1, .int .i64 0, .string ⟨#[]⟩]) rfl rfl rfl rfl rfl (fill_cons (cells := [.int .i64 1, .int .i64 0, .string ⟨#[]⟩]) (c := [.int .i64 2]) (C' := [.int .i64 1, .int .i64 2, .string ⟨#[]⟩]) rfl rfl rfl rfl rfl (fill_nil)))) rfl ?_
  refine lq (q_build (vs := [(0, .string (⟨#[89]⟩ : ByteArray)), (1, .agg [.int .i64 1, .int .i64 2, .string (⟨#[]⟩ : ByteArray)].toArray)]) (C := #[.string (⟨#[89]⟩ : ByteArray), .int .i64 1, .int .i64 2, .string (⟨#[]⟩ : ByteArray)]) Pl_142 Zr_142 rfl (fill_cons (cells := [.string ⟨#[]⟩, .int .i64 0, .int .i64 0, .string ⟨#[]⟩]) (c := [.string (⟨#[89]⟩ : ByteArray)]) (C' := [.string (⟨#[89]⟩ : ByteArray), .int .i64 0, .int .i64 0, .string ⟨#[]⟩]) rfl rfl rfl rfl rfl (fill_cons (cells := [.string (⟨#[89]⟩ : ByteArray), .int .i64 0, .int .i64 0, .string ⟨#[]⟩]) (c := [.int .i64 1, .int .i64 2, .string (⟨#[]⟩ : ByteArray)]) (C' := [.string (⟨#[89]⟩ : ByteArray), .int .i64 1, .int .i64 2, .string (⟨#[]⟩ : ByteArray)]) rfl rfl rfl rfl rfl (fill_nil)))) rfl ?_
  have rc2 : RC RTBind 4 Φ_6 ([[], []] : List (List Nat)) [.string (⟨#[88]⟩ : ByteArray), .int .i64 1, .int .i64 x5.1, .string (⟨#[]⟩ : ByteArray), .string (⟨#[89]⟩ : ByteArray), .int .i64 1, .int .i64 2, .string (⟨#[]⟩ : ByteArray)] ([(⟨(⟨#[88]⟩ : ByteArray), (⟨1, x5.1, (⟨#[]⟩ : ByteArray)⟩ : TVal)⟩ : TBind), (⟨(⟨#[89]⟩ : ByteArray), (⟨1, 2, (⟨#[]⟩ : ByteArray)⟩ : TVal)⟩ : TBind)] : List TBind) := RC.cons (c := [.string (⟨#[88]⟩ : ByteArray), .int .i64 1, .int .i64 x5.1, .string (⟨#[]⟩ : ByteArray)]) (cells := [.string (⟨#[89]⟩ : ByteArray), .int .i64 1, .int .i64 2, .string (⟨#[]⟩ : ByteArray)]) ⟨rfl, rfl⟩ rfl (RC.cons (c := [.string (⟨#[89]⟩ : ByteArray), .int .i64 1, .int .i64 2, .string (⟨#[]⟩ : ByteArray)]) (cells := []) ⟨rfl, rfl⟩ rfl (RC.nil _ _ _))
  refine le' (e_lit (vs := [(0, .agg [.string (⟨#[88]⟩ : ByteArray), .int .i64 1, .int .i64 x5.1, .string (⟨#[]⟩ : ByteArray)].toArray), (1, .agg [.string (⟨#[89]⟩ : ByteArray), .int .i64 1, .int .i64 2, .string (⟨#[]⟩ : ByteArray)].toArray)]) (C := #[.string (⟨#[88]⟩ : ByteArray), .int .i64 1, .int .i64 x5.1, .string (⟨#[]⟩ : ByteArray), .string (⟨#[89]⟩ : ByteArray), .int .i64 1, .int .i64 2, .string (⟨#[]⟩ : ByteArray)]) RTBind.lasts Sl_28 Zr_142 rfl rfl rfl rfl (fill_made MC_142_2 (fill_cons (cells := [.string ⟨#[]⟩, .int .i64 0, .int .i64 0, .string ⟨#[]⟩, .string ⟨#[]⟩, .int .i64 0, .int .i64 0, .string ⟨#[]⟩]) (c := [.string (⟨#[88]⟩ : ByteArray), .int .i64 1, .int .i64 x5.1, .string (⟨#[]⟩ : ByteArray)]) (C' := [.string (⟨#[88]⟩ : ByteArray), .int .i64 1, .int .i64 x5.1, .string (⟨#[]⟩ : ByteArray), .string ⟨#[]⟩, .int .i64 0, .int .i64 0, .string ⟨#[]⟩]) rfl rfl rfl rfl rfl (fill_cons (cells := [.string (⟨#[88]⟩ : ByteArray), .int .i64 1, .int .i64 x5.1, .string (⟨#[]⟩ : ByteArray), .string ⟨#[]⟩, .int .i64 0, .int .i64 0, .string ⟨#[]⟩]) (c := [.string (⟨#[89]⟩ : ByteArray), .int .i64 1, .int .i64 2, .string (⟨#[]⟩ : ByteArray)]) (C' := [.string (⟨#[88]⟩ : ByteArray), .int .i64 1, .int .i64 x5.1, .string (⟨#[]⟩ : ByteArray), .string (⟨#[89]⟩ : ByteArray), .int .i64 1, .int .i64 2, .string (⟨#[]⟩ : ByteArray)]) rfl rfl rfl rfl rfl (fill_nil)))) rfl rc2 rfl (by simpa using Kw.nil)) rfl (fun v8 Φ_7 D2 q6 => ?_)
  obtain ⟨fr6, h8⟩ := q6
  replace h8 : OSl RTBind 142 4 Φ_7 [] v8 ([(⟨(⟨#[88]⟩ : ByteArray), (⟨1, x5.1, (⟨#[]⟩ : ByteArray)⟩ : TVal)⟩ : TBind), (⟨(⟨#[89]⟩ : ByteArray), (⟨1, 2, (⟨#[]⟩ : ByteArray)⟩ : TVal)⟩ : TBind)] : List TBind) := by simpa using h8
  replace h3 := h3.frame RTBind.lasts fr6 (Dj.empty _) (Dj.empty _)
  obtain ⟨x6, hx6, h⟩ := bind_some h
  refine le' (e_appF RTBind.lasts RTBind.one RTBind.flat Sl_28 Ei_142 rfl rfl rfl rfl rfl (js := [3]) (Rr := [ob v8, [b_3], ob v6]) rfl h3 h8.rsl hx6) rfl (fun v9 Φ_8 D3 q7 => ?_)
  obtain ⟨⟨ap5, fr7⟩, h9⟩ := q7
  refine lq (q_assign rfl) rfl <| WL.nil <| WT.mono (l' := [(2, .pointer (some ⟨b_1, 0, none⟩)), (4, .pointer (some ⟨b_2, 0, none⟩)), (6, v9)]) (S' := St w0 Φ_8 [(b_2, .cells #[.string x1.Op, .int .i64 x1.L.K, .string x1.L.S, .int .i64 x1.L.V.K, .int .i64 x1.L.V.N, .string x1.L.V.S, .int .i64 x1.R.K, .string x1.R.S, .int .i64 x1.R.V.K, .int .i64 x1.R.V.N, .string x1.R.V.S] 85 (0, 0)), (b_1, .cells #[.string (⟨#[]⟩ : ByteArray), .int .i64 0, .string (⟨#[]⟩ : ByteArray), .int .i64 0, .int .i64 0, .string (⟨#[]⟩ : ByteArray), .int .i64 0, .string (⟨#[]⟩ : ByteArray), .int .i64 0, .int .i64 0, .string (⟨#[]⟩ : ByteArray)] 85 (0, 0))] [ob v9]) ⟨rfl, rfl, rfl, trivial⟩ (fun w1 hw => (hw.sel (js := [0]) rfl).selO (js := [0, 0]) rfl) ?_
  exact K (Φ_8, x6, v9) ⟨h, h9⟩
 replace h := ite_f h c1
 refine WT.skip <| WT.mono (l' := [(2, .pointer (some ⟨b_1, 0, none⟩)), (4, .pointer (some ⟨b_2, 0, none⟩)), (6, v3)]) (S' := St w0 Φ_3 [(b_2, .cells #[.string x1.Op, .int .i64 x1.L.K, .string x1.L.S, .int .i64 x1.L.V.K, .int .i64 x1.L.V.N, .string x1.L.V.S, .int .i64 x1.R.K, .string x1.R.S, .int .i64 x1.R.V.K, .int .i64 x1.R.V.N, .string x1.R.V.S] 85 (0, 0)), (b_1, .cells #[.string (⟨#[]⟩ : ByteArray), .int .i64 0, .string (⟨#[]⟩ : ByteArray), .int .i64 0, .int .i64 0, .string (⟨#[]⟩ : ByteArray), .int .i64 0, .string (⟨#[]⟩ : ByteArray), .int .i64 0, .int .i64 0, .string (⟨#[]⟩ : ByteArray)] 85 (0, 0))] [ob v3]) ⟨rfl, rfl, rfl, trivial⟩ (fun w1 hw => (hw.sel (js := [1]) rfl).selO (js := [0, 0]) rfl) ?_
 exact K (Φ_3, x3.1, v3) ⟨h, h3⟩
theorem m_s_BindOf_ok {Φ : Hp} {w : World} (hΦ : In Φ w) (N : Nat) (p0 : (List TBind)) (p1 : ByteArray) {pv0 : Value} {pG0 : List Nat} (ph0 : RSl RTBind 4 Φ pG0 pv0 p0) {r : TVal × Bool} (h : m_s_BindOf N p0 p1 = some r) :
  Calls Try.prog 168 [pv0, .string p1].toArray w (Post (.tuple #[.agg [.int .i64 r.1.K, .int .i64 r.1.N, .string r.1.S].toArray, .bool r.2]) w) := by
 refine enter Try.func168 rfl Try.ntmps168 rfl (St.start0 hΦ) ?_
 generalize hb0 : (⟨w, [], Φ⟩ : Base) = w0
 unfold m_s_BindOf at h
 refine WT.seq <| WT.region ?_
 refine ln (n_alloc (C := #[.int .i64 0, .int .i64 0, .string (⟨#[]⟩ : ByteArray)]) Zr_79 rfl) rfl (fun b_1 => ?_)
 refine lq (q_assign rfl) rfl <| WL.nil <| WT.seq <| WT.seq <| WT.region <| lq (q_assign rfl) rfl <| WL.nil <| WT.block <| WT.loop <| WT.mono (l' := [(0, pv0), (1, .string p1), (4, .pointer (some ⟨b_1, 0, none⟩)), (6, .int .i64 0)]) (S' := St w0 Φ [(b_1, .cells #[.int .i64 0, .int .i64 0, .string (⟨#[]⟩ : ByteArray)] 79 (0, 0))] []) ⟨rfl, rfl, rfl, rfl, trivial⟩ (fun w1 hw => (hw.sel (js := []) rfl).selO (js := [0]) rfl) ?_
 refine loop_ind (σ := Int) (fun s => [(0, pv0), (1, .string p1), (4, .pointer (some ⟨b_1, 0, none⟩)), (6, .int .i64 s)]) (fun s => St w0 Φ [(b_1, .cells #[.int .i64 0, .int .i64 0, .string (⟨#[]⟩ : ByteArray)] 79 (0, 0))] []) (fun m s => m_s_BindOf_l1 N p0 p1 m s = some r) (fun s hm => none_ne (show (none : Option (TVal × Bool)) = some r from hm)) (fun n1 ih1 s hm => ?_) N (0) h
 revert hm; revert s; intro s1 hm
 have h : m_s_BindOf_l1 N p0 p1 (n1 + 1) s1 = some r := hm
 show WT _ _ [(0, pv0), (1, .string p1), (4, .pointer (some ⟨b_1, 0, none⟩)), (6, .int .i64 s1)] (St w0 Φ [(b_1, .cells #[.int .i64 0, .int .i64 0, .string (⟨#[]⟩ : ByteArray)] 79 (0, 0))] [])
 unfold m_s_BindOf_l1 at h
 refine WT.seq <| WT.seq <| WT.region <| lq (q_move rfl) rfl <| lq (q_move rfl) rfl <| lq (q_lenR Sl_28 rfl rfl ph0) rfl <| lq (q_lss rfl rfl) rfl <| WL.nil ?_
 refine WT.cond rfl (fun c1 => ?_) (fun c1 => ?_)
 ·replace h := ite_t h c1
  refine WT.skip <| WT.seq <| WT.block <| WT.seq <| WT.region <| lq (q_move rfl) rfl <| lq (q_move rfl) rfl ?_
  obtain ⟨x1, hx1, h⟩ := bind_some h
  obtain ⟨cs1, F1, -, g1, hb1, hs1, r1⟩ := ph0.el (idx_some hx1).2.2
  obtain ⟨rfl, -⟩ := r1
  refine lq (q_indexAddr Sl_28 rfl rfl ph0 hx1) rfl <| lq (q_fieldAddr Fld_142_0 rfl) rfl <| lq (q_load1 T1_9 rfl (fun w1 hw => (g1.of_eq 0 1 rfl rfl : rg _ _ _ [.string x1.Name]).rangeAt hw.fro)) rfl <| lq (q_move rfl) rfl <| lq (q_seq rfl rfl) rfl <| WL.nil ?_
  refine WT.cond rfl (fun c2 => ?_) (fun c2 => ?_)
  ·replace h := ite_t h c2
   refine WT.seq <| WT.region <| lq (q_move rfl) rfl <| lq (q_move rfl) rfl ?_
   obtain ⟨x2, hx2, h⟩ := bind_some h
   obtain ⟨cs2, F2, -, g2, hb2, hs2, r2⟩ := ph0.el (idx_some hx2).2.2
   obtain ⟨rfl, -⟩ := r2
   refine lq (q_indexAddr Sl_28 rfl rfl ph0 hx2) rfl <| lq (q_fieldAddr Fld_142_1 rfl) rfl <| lq (q_loadN Tn_79 rfl (fun w1 hw => (g2.of_eq 1 3 rfl rfl : rg _ _ _ [.int .i64 x2.V.K, .int .i64 x2.V.N, .string x2.V.S]).rangeAt hw.fro) rfl) rfl <| ls (s_store (i := 0) (vs := [.int .i64 x2.V.K, .int .i64 x2.V.N, .string x2.V.S]) (C' := [.int .i64 x2.V.K, .int .i64 x2.V.N, .string x2.V.S]) (O' := [(b_1, .cells #[.int .i64 x2.V.K, .int .i64 x2.V.N, .string x2.V.S] 79 (0, 0))]) Sz_79 rfl rfl rfl rfl rfl rfl ⟨rfl, rfl, rfl, trivial⟩ rfl rfl) rfl ?_
   refine lq (q_assign rfl) rfl <| WL.nil ?_
   refine WT.ret Try.func168 (resOk.two (rv_cell Tn_79 rfl (fun w1 hw => hw.rgO (i := 0) rfl 0 3 [.int .i64 x2.V.K, .int .i64 x2.V.N, .string x2.V.S] rfl) rfl) rfl) (fun w1 hw => ?_)
   subst hb0
   cases h
   exact post_of_St hw
  replace h := ite_f h c2
  refine WT.skip <| WT.inBlock <| WT.region <| lq (q_move rfl) rfl <| lq (q_add rfl rfl) rfl <| lq (q_assign rfl) rfl <| WL.nil ?_
  refine WT.inLoop (WT.mono (l' := [(0, pv0), (1, .string p1), (4, .pointer (some ⟨b_1, 0, none⟩)), (6, .int .i64 (IntKind.i64.wrap (s1 + 1)))]) (S' := St w0 Φ [(b_1, .cells #[.int .i64 0, .int .i64 0, .string (⟨#[]⟩ : ByteArray)] 79 (0, 0))] []) ⟨rfl, rfl, rfl, rfl, trivial⟩ (fun w1 hw => (hw.sel (js := []) rfl).selO (js := [0]) rfl) ?_)
  exact ih1 (IntKind.i64.wrap (s1 + 1)) h
 replace h := ite_f h c1
 refine WT.exit rfl <| WT.seq <| WT.region <| lq (q_build (vs := []) (C := #[.int .i64 0, .int .i64 0, .string (⟨#[]⟩ : ByteArray)]) Pl_79 Zr_79 rfl (fill_nil)) rfl <| ls (s_store (i := 0) (vs := [.int .i64 0, .int .i64 0, .string (⟨#[]⟩ : ByteArray)]) (C' := [.int .i64 0, .int .i64 0, .string (⟨#[]⟩ : ByteArray)]) (O' := [(b_1, .cells #[.int .i64 0, .int .i64 0, .string (⟨#[]⟩ : ByteArray)] 79 (0, 0))]) Sz_79 rfl rfl rfl rfl rfl rfl ⟨rfl, rfl, rfl, trivial⟩ rfl rfl) rfl ?_
 refine lq (q_assign rfl) rfl <| WL.nil ?_
 refine WT.ret Try.func168 (resOk.two (rv_cell Tn_79 rfl (fun w1 hw => hw.rgO (i := 0) rfl 0 3 [.int .i64 0, .int .i64 0, .string (⟨#[]⟩ : ByteArray)] rfl) rfl) rfl) (fun w1 hw => ?_)
 subst hb0
 cases h
 exact post_of_St hw
theorem m_s_ArgVal_ok {Φ : Hp} {w : World} (hΦ : In Φ w) (N : Nat) (p0 : TArg) (p1 : (List TBind)) {pv1 : Value} {pG1 : List Nat} (ph1 : RSl RTBind 4 Φ pG1 pv1 p1) {r : TVal × Bool} (h : m_s_ArgVal N p0 p1 = some r) :
  Calls Try.prog 121 [.agg [.int .i64 p0.K, .string p0.S, .int .i64 p0.V.K, .int .i64 p0.V.N, .string p0.V.S].toArray, pv1].toArray w (Post (.tuple #[.agg [.int .i64 r.1.K, .int .i64 r.1.N, .string r.1.S].toArray, .bool r.2]) w) := by
 refine enter Try.func121 rfl Try.ntmps121 rfl (St.start0 hΦ) ?_
 unfold m_s_ArgVal at h
 refine WT.seq <| WT.region ?_
 refine ln (n_box (C := #[.int .i64 p0.K, .string p0.S, .int .i64 p0.V.K, .int .i64 p0.V.N, .string p0.V.S]) rfl rfl) rfl (fun b_1 => ?_)
 refine ln (n_alloc (C := #[.int .i64 0, .int .i64 0, .string (⟨#[]⟩ : ByteArray)]) Zr_79 rfl) rfl (fun b_2 => ?_)
 refine lq (q_assign rfl) rfl <| WL.nil <| WT.seq <| WT.seq <| WT.region <| lq (q_fieldAddr Fld_83_0 rfl) rfl <| lq (q_load1 T1_3 rfl (fun w1 hw => hw.rgO (i := 1) rfl 0 1 [.int .i64 p0.K] rfl)) rfl <| WL.nil <| WT.block <| WT.seq <| WT.region <| lq (q_eql rfl rfl) rfl <| lq (q_assign rfl) rfl <| WL.nil ?_
 refine WT.cond rfl (fun c1 => ?_) (fun c1 => ?_)
 ·replace h := ite_t h c1
  refine WT.seq <| WT.region <| lq (q_fieldAddr Fld_83_2 rfl) rfl <| lq (q_loadN Tn_79 rfl (fun w1 hw => hw.rgO (i := 1) rfl 2 3 [.int .i64 p0.V.K, .int .i64 p0.V.N, .string p0.V.S] rfl) rfl) rfl <| ls (s_store (i := 0) (vs := [.int .i64 p0.V.K, .int .i64 p0.V.N, .string p0.V.S]) (C' := [.int .i64 p0.V.K, .int .i64 p0.V.N, .string p0.V.S]) (O' := [(b_2, .cells #[.int .i64 p0.V.K, .int .i64 p0.V.N, .string p0.V.S] 79 (0, 0)), (b_1, .cells #[.int .i64 p0.K, .string p0.S, .int .i64 p0.V.K, .int .i64 p0.V.N, .string p0.V.S] 83 (0, 0))]) Sz_79 rfl rfl rfl rfl rfl rfl ⟨rfl, rfl, rfl, trivial⟩ rfl rfl) rfl ?_
  refine lq (q_assign rfl) rfl <| WL.nil ?_
  refine WT.ret Try.func121 (resOk.two (rv_cell Tn_79 rfl (fun w1 hw => hw.rgO (i := 0) rfl 0 3 [.int .i64 p0.V.K, .int .i64 p0.V.N, .string p0.V.S] rfl) rfl) rfl) (fun w1 hw => ?_)
  cases h
  exact post_of_St hw
 replace h := ite_f h c1
 refine WT.seq <| WT.region <| lq (q_eql rfl rfl) rfl <| lq (q_assign rfl) rfl <| WL.nil ?_
 refine WT.cond rfl (fun c2 => ?_) (fun c2 => ?_)
 ·replace h := ite_t h c2
  refine WT.seq <| WT.region <| lq (q_move rfl) rfl <| lq (q_fieldAddr Fld_83_1 rfl) rfl <| lq (q_load1 T1_9 rfl (fun w1 hw => hw.rgO (i := 1) rfl 1 1 [.string p0.S] rfl)) rfl ?_
  obtain ⟨x1, hx1, h⟩ := bind_some h
  refine lp (p_call Fun_168 rfl (fun w1 hw => m_s_BindOf_ok hw.fro N p1 p0.S ph1 hx1)) rfl <| lq (q_extract rfl rfl) rfl <| lq (q_extract rfl rfl) rfl <| ls (s_store (i := 0) (vs := [.int .i64 x1.1.K, .int .i64 x1.1.N, .string x1.1.S]) (C' := [.int .i64 x1.1.K, .int .i64 x1.1.N, .string x1.1.S]) (O' := [(b_2, .cells #[.int .i64 x1.1.K, .int .i64 x1.1.N, .string x1.1.S] 79 (0, 0)), (b_1, .cells #[.int .i64 p0.K, .string p0.S, .int .i64 p0.V.K, .int .i64 p0.V.N, .string p0.V.S] 83 (0, 0))]) Sz_79 rfl rfl rfl rfl rfl rfl ⟨rfl, rfl, rfl, trivial⟩ rfl rfl) rfl ?_
  refine lq (q_assign rfl) rfl <| WL.nil ?_
  refine WT.ret Try.func121 (resOk.two (rv_cell Tn_79 rfl (fun w1 hw => hw.rgO (i := 0) rfl 0 3 [.int .i64 x1.1.K, .int .i64 x1.1.N, .string x1.1.S] rfl) rfl) rfl) (fun w1 hw => ?_)
  cases h
  exact post_of_St hw
 replace h := ite_f h c2
 refine WT.skip <| WT.inBlock <| WT.seq <| WT.region <| lq (q_build (vs := []) (C := #[.int .i64 0, .int .i64 0, .string (⟨#[]⟩ : ByteArray)]) Pl_79 Zr_79 rfl (fill_nil)) rfl <| ls (s_store (i := 0) (vs := [.int .i64 0, .int .i64 0, .string (⟨#[]⟩ : ByteArray)]) (C' := [.int .i64 0, .int .i64 0, .string (⟨#[]⟩ : ByteArray)]) (O' := [(b_2, .cells #[.int .i64 0, .int .i64 0, .string (⟨#[]⟩ : ByteArray)] 79 (0, 0)), (b_1, .cells #[.int .i64 p0.K, .string p0.S, .int .i64 p0.V.K, .int .i64 p0.V.N, .string p0.V.S] 83 (0, 0))]) Sz_79 rfl rfl rfl rfl rfl rfl ⟨rfl, rfl, rfl, trivial⟩ rfl rfl) rfl ?_
 refine lq (q_assign rfl) rfl <| WL.nil ?_
 refine WT.ret Try.func121 (resOk.two (rv_cell Tn_79 rfl (fun w1 hw => hw.rgO (i := 0) rfl 0 3 [.int .i64 0, .int .i64 0, .string (⟨#[]⟩ : ByteArray)] rfl) rfl) rfl) (fun w1 hw => ?_)
 cases h
 exact post_of_St hw
theorem m_s_l1In_ok {Φ : Hp} {w : World} (hΦ : In Φ w) (N : Nat) (p0 : Int) (p1 : Int) (p2 : Int)   {r : Bool} (h : m_s_l1In N p0 p1 p2 = some r) :
  Calls Try.prog 97 [.int .i64 p0, .int .i64 p1, .int .i64 p2].toArray w (Post (.bool r) w) := by
 refine enter Try.func97 rfl Try.ntmps97 rfl (St.start0 hΦ) ?_
 unfold m_s_l1In at h
 refine WT.seq <| WT.region <| lq (q_assign rfl) rfl <| WL.nil <| WT.seq <| WT.region <| lq (q_move rfl) rfl <| lq (q_move rfl) rfl <| lq (q_geq rfl rfl) rfl <| lq (q_move rfl) rfl ?_
 obtain ⟨b1, hb_1, h⟩ := bind_some h
 refine WL.cutN 4 [(14, .bool b1), (6, .bool false)] ?_ (fun K => ?_)
 rotate_left
 ·refine WL.split (d := 10) rfl (fun c1 => ?_) (fun c1 => ?_)
  ·replace hb_1 := ite_t hb_1 c1
   refine WL.yes rfl rfl <| lq (q_move rfl) rfl <| WL.yes rfl rfl <| lq (q_move rfl) rfl <| WL.yes rfl rfl <| lq (q_leq rfl rfl) rfl <| WL.q (q_pick1 rfl rfl) rfl rfl rfl ?_
   cases hb_1
   exact WL.keep (by exact ⟨rfl, rfl, trivial⟩) K
  ·replace hb_1 := ite_f hb_1 c1
   refine WL.no rfl rfl rfl rfl <| WL.no rfl rfl rfl rfl <| WL.no rfl rfl rfl rfl <| WL.q (q_pick0 rfl rfl) rfl rfl rfl ?_
   cases hb_1
   exact WL.keep (by exact ⟨rfl, rfl, trivial⟩) K
 refine lq (q_assign rfl) rfl <| WL.nil ?_
 refine WT.ret Try.func97 (resOk.one rfl) (fun w1 hw => ?_)
 cases h
 exact post_of_St hw
theorem m_s_l1Letter_ok {Φ : Hp} {w : World} (hΦ : In Φ w) (N : Nat) (p0 : Int)   {r : Bool} (h : m_s_l1Letter N p0 = some r) :
  Calls Try.prog 172 [.int .u8 p0].toArray w (Post (.bool r) w) := by
 refine enter Try.func172 rfl Try.ntmps172 rfl (St.start0 hΦ) ?_
 unfold m_s_l1Letter at h
 refine WT.seq <| WT.region <| lq (q_assign rfl) rfl <| WL.nil <| WT.seq <| WT.region <| lq (q_move rfl) rfl <| lq (q_convI Ik_5 Ik_3 rfl) rfl ?_
 obtain ⟨x1, hx1, h⟩ := bind_some h
 refine lp (p_call Fun_97 rfl (fun w1 hw => m_s_l1In_ok hw.fro N (IntKind.i64.wrap p0) 97 122 hx1)) rfl <| lq (q_move rfl) rfl ?_
 obtain ⟨b1, hb_1, h⟩ := bind_some h
 refine WL.cutN 4 [(10, .bool b1), (0, .int .u8 p0), (2, .bool false)] ?_ (fun K => ?_)
 rotate_left
 ·refine WL.split (d := 6) rfl (fun c1 => ?_) (fun c1 => ?_)
  ·replace hb_1 := ite_t hb_1 c1
   refine WL.no rfl rfl rfl rfl <| WL.no rfl rfl rfl rfl <| WL.no rfl rfl rfl rfl <| WL.q (q_pick1 rfl rfl) rfl rfl rfl ?_
   cases hb_1
   exact WL.keep (by exact ⟨rfl, rfl, rfl, trivial⟩) K
  ·replace hb_1 := ite_f hb_1 c1
   refine WL.yes rfl rfl <| lq (q_move rfl) rfl <| WL.yes rfl rfl <| lq (q_convI Ik_5 Ik_3 rfl) rfl <| WL.yes rfl rfl ?_
   obtain ⟨x2, hx2, hb_1⟩ := bind_some hb_1
   refine lp (p_call Fun_97 rfl (fun w1 hw => m_s_l1In_ok hw.fro N (IntKind.i64.wrap p0) 48 57 hx2)) rfl <| WL.q (q_pick0 rfl rfl) rfl rfl rfl ?_
   cases hb_1
   exact WL.keep (by exact ⟨rfl, rfl, rfl, trivial⟩) K
 refine lq (q_move rfl) rfl ?_
 obtain ⟨b2, hb_2, h⟩ := bind_some h
 refine WL.cutN 3 [(14, .bool b2), (2, .bool false)] ?_ (fun K => ?_)
 rotate_left
 ·refine WL.split (d := 11) rfl (fun c2 => ?_) (fun c2 => ?_)
  ·replace hb_2 := ite_t hb_2 c2
   refine WL.no rfl rfl rfl rfl <| WL.no rfl rfl rfl rfl <| WL.q (q_pick1 rfl rfl) rfl rfl rfl ?_
   cases hb_2
   exact WL.keep (by exact ⟨rfl, rfl, trivial⟩) K
  ·replace hb_2 := ite_f hb_2 c2
   refine WL.yes rfl rfl <| lq (q_move rfl) rfl <| WL.yes rfl rfl <| lq (q_eql rfl rfl) rfl <| WL.q (q_pick0 rfl rfl) rfl rfl rfl ?_
   cases hb_2
   exact WL.keep (by exact ⟨rfl, rfl, trivial⟩) K
 refine lq (q_assign rfl) rfl <| WL.nil ?_
 refine WT.ret Try.func172 (resOk.one rfl) (fun w1 hw => ?_)
 cases h
 exact post_of_St hw
theorem m_s_l2Plain_ok {Φ : Hp} {w : World} (hΦ : In Φ w) (N : Nat) (p0 : ByteArray)   {r : Bool} (h : m_s_l2Plain N p0 = some r) :
  Calls Try.prog 210 [.string p0].toArray w (Post (.bool r) w) := by
 refine enter Try.func210 rfl Try.ntmps210 rfl (St.start0 hΦ) ?_
 generalize hb0 : (⟨w, [], Φ⟩ : Base) = w0
 unfold m_s_l2Plain at h
 refine WT.seq <| WT.region <| lq (q_assign rfl) rfl <| WL.nil <| WT.seq <| WT.seq <| WT.region <| lq (q_assign rfl) rfl <| WL.nil <| WT.block <| WT.loop <| WT.mono (l' := [(0, .string p0), (3, .int .i64 0)]) (S' := St w0 Φ [] []) ⟨rfl, rfl, trivial⟩ (fun w1 hw => (hw.sel (js := []) rfl).selO (js := []) rfl) ?_
 refine loop_ind (σ := Int) (fun s => [(0, .string p0), (3, .int .i64 s)]) (fun s => St w0 Φ [] []) (fun m s => m_s_l2Plain_l1 N p0 m s = some r) (fun s hm => none_ne (show (none : Option (Bool)) = some r from hm)) (fun n1 ih1 s hm => ?_) N (0) h
 revert hm; revert s; intro s1 hm
 have h : m_s_l2Plain_l1 N p0 (n1 + 1) s1 = some r := hm
 show WT _ _ [(0, .string p0), (3, .int .i64 s1)] (St w0 Φ [] [])
 unfold m_s_l2Plain_l1 at h
 refine WT.seq <| WT.seq <| WT.region <| lq (q_move rfl) rfl <| lq (q_move rfl) rfl <| lq (q_lenS Str_9 rfl rfl) rfl <| lq (q_lss rfl rfl) rfl <| WL.nil ?_
 refine WT.cond rfl (fun c1 => ?_) (fun c1 => ?_)
 ·replace h := ite_t h c1
  refine WT.skip <| WT.seq <| WT.block <| WT.seq <| WT.region <| lq (q_move rfl) rfl <| lq (q_move rfl) rfl ?_
  obtain ⟨y1, hy1, h⟩ := bind_some h
  refine lq (q_indexS Str_9 rfl rfl hy1) rfl ?_
  obtain ⟨x1, hx1, h⟩ := bind_some h
  refine lp (p_call Fun_172 rfl (fun w1 hw => m_s_l1Letter_ok hw.fro N (y1.toNat : Int) hx1)) rfl <| lq (q_not rfl) rfl <| WL.nil ?_
  refine WT.cond rfl (fun c2 => ?_) (fun c2 => ?_)
  ·replace h := ite_t h c2
   refine WT.seq <| WT.region <| lq (q_assign rfl) rfl <| WL.nil ?_
   refine WT.ret Try.func210 (resOk.one rfl) (fun w1 hw => ?_)
   subst hb0
   cases h
   exact post_of_St hw
  replace h := ite_f h c2
  refine WT.skip <| WT.inBlock <| WT.region <| lq (q_move rfl) rfl <| lq (q_add rfl rfl) rfl <| lq (q_assign rfl) rfl <| WL.nil ?_
  refine WT.inLoop (WT.mono (l' := [(0, .string p0), (3, .int .i64 (IntKind.i64.wrap (s1 + 1)))]) (S' := St w0 Φ [] []) ⟨rfl, rfl, trivial⟩ (fun w1 hw => (hw.sel (js := []) rfl).selO (js := []) rfl) ?_)
  exact ih1 (IntKind.i64.wrap (s1 + 1)) h
 replace h := ite_f h c1
 refine WT.exit rfl <| WT.seq <| WT.region <| lq (q_move rfl) rfl <| lq (q_lenS Str_9 rfl rfl) rfl <| lq (q_leq rfl rfl) rfl <| lq (q_assign rfl) rfl <| WL.nil ?_
 refine WT.ret Try.func210 (resOk.one rfl) (fun w1 hw => ?_)
 subst hb0
 cases h
 exact post_of_St hw
theorem m_s_ValOk_ok {Φ : Hp} {w : World} (hΦ : In Φ w) (N : Nat) (p0 : TVal)   {r : Bool} (h : m_s_ValOk N p0 = some r) :
  Calls Try.prog 200 [.agg [.int .i64 p0.K, .int .i64 p0.N, .string p0.S].toArray].toArray w (Post (.bool r) w) := by
 refine enter Try.func200 rfl Try.ntmps200 rfl (St.start0 hΦ) ?_
 unfold m_s_ValOk at h
 refine WT.seq <| WT.region ?_
 refine ln (n_box (C := #[.int .i64 p0.K, .int .i64 p0.N, .string p0.S]) rfl rfl) rfl (fun b_1 => ?_)
 refine lq (q_assign rfl) rfl <| WL.nil <| WT.seq <| WT.seq <| WT.region <| lq (q_fieldAddr Fld_79_0 rfl) rfl <| lq (q_load1 T1_3 rfl (fun w1 hw => hw.rgO (i := 0) rfl 0 1 [.int .i64 p0.K] rfl)) rfl <| WL.nil <| WT.block <| WT.seq <| WT.region <| lq (q_eql rfl rfl) rfl <| lq (q_assign rfl) rfl <| WL.nil ?_
 refine WT.cond rfl (fun c1 => ?_) (fun c1 => ?_)
 ·replace h := ite_t h c1
  refine WT.seq <| WT.region <| lq (q_fieldAddr Fld_79_1 rfl) rfl <| lq (q_load1 T1_3 rfl (fun w1 hw => hw.rgO (i := 0) rfl 1 1 [.int .i64 p0.N] rfl)) rfl ?_
  obtain ⟨x1, hx1, h⟩ := bind_some h
  refine lp (p_call Fun_97 rfl (fun w1 hw => m_s_l1In_ok hw.fro N p0.N (-1000000000) 1000000000 hx1)) rfl <| lq (q_move rfl) rfl ?_
  obtain ⟨b1, hb_1, h⟩ := bind_some h
  refine WL.cutN 4 [(14, .bool b1), (2, .bool false)] ?_ (fun K => ?_)
  rotate_left
  ·refine WL.split (d := 10) rfl (fun c2 => ?_) (fun c2 => ?_)
   ·replace hb_1 := ite_t hb_1 c2
    refine WL.yes rfl rfl <| lq (q_fieldAddr Fld_79_2 rfl) rfl <| WL.yes rfl rfl <| lq (q_load1 T1_9 rfl (fun w1 hw => hw.rgO (i := 0) rfl 2 1 [.string p0.S] rfl)) rfl <| WL.yes rfl rfl <| lq (q_seq rfl rfl) rfl <| WL.q (q_pick1 rfl rfl) rfl rfl rfl ?_
    cases hb_1
    exact WL.keep (by exact ⟨rfl, rfl, trivial⟩) K
   ·replace hb_1 := ite_f hb_1 c2
    refine WL.no rfl rfl rfl rfl <| WL.no rfl rfl rfl rfl <| WL.no rfl rfl rfl rfl <| WL.q (q_pick0 rfl rfl) rfl rfl rfl ?_
    cases hb_1
    exact WL.keep (by exact ⟨rfl, rfl, trivial⟩) K
  refine lq (q_assign rfl) rfl <| WL.nil ?_
  refine WT.ret Try.func200 (resOk.one rfl) (fun w1 hw => ?_)
  cases h
  exact post_of_St hw
 replace h := ite_f h c1
 refine WT.seq <| WT.region <| lq (q_eql rfl rfl) rfl <| lq (q_assign rfl) rfl <| WL.nil ?_
 refine WT.cond rfl (fun c3 => ?_) (fun c3 => ?_)
 ·replace h := ite_t h c3
  refine WT.seq <| WT.region <| lq (q_fieldAddr Fld_79_2 rfl) rfl <| lq (q_load1 T1_9 rfl (fun w1 hw => hw.rgO (i := 0) rfl 2 1 [.string p0.S] rfl)) rfl ?_
  obtain ⟨x2, hx2, h⟩ := bind_some h
  refine lp (p_call Fun_210 rfl (fun w1 hw => m_s_l2Plain_ok hw.fro N p0.S hx2)) rfl <| lq (q_move rfl) rfl ?_
  obtain ⟨b2, hb_2, h⟩ := bind_some h
  refine WL.cutN 4 [(24, .bool b2), (2, .bool false)] ?_ (fun K => ?_)
  rotate_left
  ·refine WL.split (d := 20) rfl (fun c4 => ?_) (fun c4 => ?_)
   ·replace hb_2 := ite_t hb_2 c4
    refine WL.yes rfl rfl <| lq (q_fieldAddr Fld_79_1 rfl) rfl <| WL.yes rfl rfl <| lq (q_load1 T1_3 rfl (fun w1 hw => hw.rgO (i := 0) rfl 1 1 [.int .i64 p0.N] rfl)) rfl <| WL.yes rfl rfl <| lq (q_eql rfl rfl) rfl <| WL.q (q_pick1 rfl rfl) rfl rfl rfl ?_
    cases hb_2
    exact WL.keep (by exact ⟨rfl, rfl, trivial⟩) K
   ·replace hb_2 := ite_f hb_2 c4
    refine WL.no rfl rfl rfl rfl <| WL.no rfl rfl rfl rfl <| WL.no rfl rfl rfl rfl <| WL.q (q_pick0 rfl rfl) rfl rfl rfl ?_
    cases hb_2
    exact WL.keep (by exact ⟨rfl, rfl, trivial⟩) K
  refine lq (q_assign rfl) rfl <| WL.nil ?_
  refine WT.ret Try.func200 (resOk.one rfl) (fun w1 hw => ?_)
  cases h
  exact post_of_St hw
 replace h := ite_f h c3
 refine WT.skip <| WT.inBlock <| WT.seq <| WT.region <| lq (q_assign rfl) rfl <| WL.nil ?_
 refine WT.ret Try.func200 (resOk.one rfl) (fun w1 hw => ?_)
 cases h
 exact post_of_St hw
theorem m_s_l2Sum_ok {Φ : Hp} {w : World} (hΦ : In Φ w) (N : Nat) (p0 : TVal) (p1 : TVal) (p2 : Int)   {r : TVal × Bool} (h : m_s_l2Sum N p0 p1 p2 = some r) :
  Calls Try.prog 169 [.agg [.int .i64 p0.K, .int .i64 p0.N, .string p0.S].toArray, .agg [.int .i64 p1.K, .int .i64 p1.N, .string p1.S].toArray, .int .i64 p2].toArray w (Post (.tuple #[.agg [.int .i64 r.1.K, .int .i64 r.1.N, .string r.1.S].toArray, .bool r.2]) w) := by
 refine enter Try.func169 rfl Try.ntmps169 rfl (St.start0 hΦ) ?_
 unfold m_s_l2Sum at h
 refine WT.seq <| WT.region ?_
 refine ln (n_box (C := #[.int .i64 p0.K, .int .i64 p0.N, .string p0.S]) rfl rfl) rfl (fun b_1 => ?_)
 refine ln (n_box (C := #[.int .i64 p1.K, .int .i64 p1.N, .string p1.S]) rfl rfl) rfl (fun b_2 => ?_)
 refine ln (n_alloc (C := #[.int .i64 0, .int .i64 0, .string (⟨#[]⟩ : ByteArray)]) Zr_79 rfl) rfl (fun b_3 => ?_)
 refine lq (q_assign rfl) rfl <| WL.nil <| WT.seq <| WT.region <| lq (q_move rfl) rfl <| lq (q_build (vs := [(0, .int .i64 1), (1, .int .i64 p2)]) (C := #[.int .i64 1, .int .i64 p2, .string (⟨#[]⟩ : ByteArray)]) Pl_79 Zr_79 rfl (fill_cons (cells := [.int .i64 0, .int .i64 0, .string ⟨#[]⟩]) (c := [.int .i64 1]) (C' := [.int .i64 1, .int .i64 0, .string ⟨#[]⟩]) rfl rfl rfl rfl rfl (fill_cons (cells := [.int .i64 1, .int .i64 0, .string ⟨#[]⟩]) (c := [.int .i64 p2]) (C' := [.int .i64 1, .int .i64 p2, .string ⟨#[]⟩]) rfl rfl rfl rfl rfl (fill_nil)))) rfl ?_
 refine ln (n_alloc (C := #[.int .i64 0, .int .i64 0, .string (⟨#[]⟩ : ByteArray)]) Zr_79 rfl) rfl (fun b_4 => ?_)
 refine ls (s_store (i := 0) (vs := [.int .i64 1, .int .i64 p2, .string (⟨#[]⟩ : ByteArray)]) (C' := [.int .i64 1, .int .i64 p2, .string (⟨#[]⟩ : ByteArray)]) (O' := [(b_4, .cells #[.int .i64 1, .int .i64 p2, .string (⟨#[]⟩ : ByteArray)] 79 (0, 0)), (b_3, .cells #[.int .i64 0, .int .i64 0, .string (⟨#[]⟩ : ByteArray)] 79 (0, 0)), (b_2, .cells #[.int .i64 p1.K, .int .i64 p1.N, .string p1.S] 79 (0, 0)), (b_1, .cells #[.int .i64 p0.K, .int .i64 p0.N, .string p0.S] 79 (0, 0))]) Sz_79 rfl rfl rfl rfl rfl rfl ⟨rfl, rfl, rfl, trivial⟩ rfl rfl) rfl ?_
 refine WL.nil <| WT.seq <| WT.seq <| WT.region <| lq (q_fieldAddr Fld_79_0 rfl) rfl <| lq (q_load1 T1_3 rfl (fun w1 hw => hw.rgO (i := 3) rfl 0 1 [.int .i64 p0.K] rfl)) rfl <| lq (q_neq rfl rfl) rfl <| lq (q_move rfl) rfl ?_
 obtain ⟨b1, hb_1, h⟩ := bind_some h
 refine WL.cutN 4 [(18, .bool b1), (3, .pointer (some ⟨b_1, 0, none⟩)), (4, .pointer (some ⟨b_2, 0, none⟩)), (6, .pointer (some ⟨b_3, 0, none⟩)), (8, .pointer (some ⟨b_4, 0, none⟩))] ?_ (fun K => ?_)
 rotate_left
 ·refine WL.split (d := 14) rfl (fun c1 => ?_) (fun c1 => ?_)
  ·replace hb_1 := ite_t hb_1 c1
   refine WL.no rfl rfl rfl rfl <| WL.no rfl rfl rfl rfl <| WL.no rfl rfl rfl rfl <| WL.q (q_pick1 rfl rfl) rfl rfl rfl ?_
   cases hb_1
   exact WL.keep (by exact ⟨rfl, rfl, rfl, rfl, rfl, trivial⟩) K
  ·replace hb_1 := ite_f hb_1 c1
   refine WL.yes rfl rfl <| lq (q_fieldAddr Fld_79_0 rfl) rfl <| WL.yes rfl rfl <| lq (q_load1 T1_3 rfl (fun w1 hw => hw.rgO (i := 2) rfl 0 1 [.int .i64 p1.K] rfl)) rfl <| WL.yes rfl rfl <| lq (q_neq rfl rfl) rfl <| WL.q (q_pick0 rfl rfl) rfl rfl rfl ?_
   cases hb_1
   exact WL.keep (by exact ⟨rfl, rfl, rfl, rfl, rfl, trivial⟩) K
 refine lq (q_move rfl) rfl ?_
 obtain ⟨b2, hb_2, h⟩ := bind_some h
 refine WL.cutN 4 [(23, .bool b2), (4, .pointer (some ⟨b_2, 0, none⟩)), (6, .pointer (some ⟨b_3, 0, none⟩)), (8, .pointer (some ⟨b_4, 0, none⟩))] ?_ (fun K => ?_)
 rotate_left
 ·refine WL.split (d := 19) rfl (fun c2 => ?_) (fun c2 => ?_)
  ·replace hb_2 := ite_t hb_2 c2
   refine WL.no rfl rfl rfl rfl <| WL.no rfl rfl rfl rfl <| WL.no rfl rfl rfl rfl <| WL.q (q_pick1 rfl rfl) rfl rfl rfl ?_
   cases hb_2
   exact WL.keep (by exact ⟨rfl, rfl, rfl, rfl, trivial⟩) K
  ·replace hb_2 := ite_f hb_2 c2
   refine WL.yes rfl rfl <| lq (q_loadN Tn_79 rfl (fun w1 hw => hw.rgO (i := 3) rfl 0 3 [.int .i64 p0.K, .int .i64 p0.N, .string p0.S] rfl) rfl) rfl <| WL.yes rfl rfl ?_
   obtain ⟨x1, hx1, hb_2⟩ := bind_some hb_2
   refine lp (p_call Fun_200 rfl (fun w1 hw => m_s_ValOk_ok hw.fro N p0 hx1)) rfl <| WL.yes rfl rfl <| lq (q_not rfl) rfl <| WL.q (q_pick0 rfl rfl) rfl rfl rfl ?_
   cases hb_2
   exact WL.keep (by exact ⟨rfl, rfl, rfl, rfl, trivial⟩) K
 refine lq (q_move rfl) rfl ?_
 obtain ⟨b3, hb_3, h⟩ := bind_some h
 refine WL.cutN 4 [(28, .bool b3), (6, .pointer (some ⟨b_3, 0, none⟩)), (8, .pointer (some ⟨b_4, 0, none⟩))] ?_ (fun K => ?_)
 rotate_left
 ·refine WL.split (d := 24) rfl (fun c3 => ?_) (fun c3 => ?_)
  ·replace hb_3 := ite_t hb_3 c3
   refine WL.no rfl rfl rfl rfl <| WL.no rfl rfl rfl rfl <| WL.no rfl rfl rfl rfl <| WL.q (q_pick1 rfl rfl) rfl rfl rfl ?_
   cases hb_3
   exact WL.keep (by exact ⟨rfl, rfl, rfl, trivial⟩) K
  ·replace hb_3 := ite_f hb_3 c3
   refine WL.yes rfl rfl <| lq (q_loadN Tn_79 rfl (fun w1 hw => hw.rgO (i := 2) rfl 0 3 [.int .i64 p1.K, .int .i64 p1.N, .string p1.S] rfl) rfl) rfl <| WL.yes rfl rfl ?_
   obtain ⟨x2, hx2, hb_3⟩ := bind_some hb_3
   refine lp (p_call Fun_200 rfl (fun w1 hw => m_s_ValOk_ok hw.fro N p1 hx2)) rfl <| WL.yes rfl rfl <| lq (q_not rfl) rfl <| WL.q (q_pick0 rfl rfl) rfl rfl rfl ?_
   cases hb_3
   exact WL.keep (by exact ⟨rfl, rfl, rfl, trivial⟩) K
 refine lq (q_move rfl) rfl ?_
 obtain ⟨b4, hb_4, h⟩ := bind_some h
 refine WL.cutN 4 [(33, .bool b4), (6, .pointer (some ⟨b_3, 0, none⟩)), (8, .pointer (some ⟨b_4, 0, none⟩))] ?_ (fun K => ?_)
 rotate_left
 ·refine WL.split (d := 29) rfl (fun c4 => ?_) (fun c4 => ?_)
  ·replace hb_4 := ite_t hb_4 c4
   refine WL.no rfl rfl rfl rfl <| WL.no rfl rfl rfl rfl <| WL.no rfl rfl rfl rfl <| WL.q (q_pick1 rfl rfl) rfl rfl rfl ?_
   cases hb_4
   exact WL.keep (by exact ⟨rfl, rfl, rfl, trivial⟩) K
  ·replace hb_4 := ite_f hb_4 c4
   refine WL.yes rfl rfl <| lq (q_loadN Tn_79 rfl (fun w1 hw => hw.rgO (i := 0) rfl 0 3 [.int .i64 1, .int .i64 p2, .string (⟨#[]⟩ : ByteArray)] rfl) rfl) rfl <| WL.yes rfl rfl ?_
   obtain ⟨x3, hx3, hb_4⟩ := bind_some hb_4
   refine lp (p_call Fun_200 rfl (fun w1 hw => m_s_ValOk_ok hw.fro N (⟨1, p2, (⟨#[]⟩ : ByteArray)⟩ : TVal) hx3)) rfl <| WL.yes rfl rfl <| lq (q_not rfl) rfl <| WL.q (q_pick0 rfl rfl) rfl rfl rfl ?_
   cases hb_4
   exact WL.keep (by exact ⟨rfl, rfl, rfl, trivial⟩) K
 refine WL.nil ?_
 refine WT.cond rfl (fun c5 => ?_) (fun c5 => ?_)
 ·replace h := ite_t h c5
  refine WT.seq <| WT.region <| lq (q_build (vs := []) (C := #[.int .i64 0, .int .i64 0, .string (⟨#[]⟩ : ByteArray)]) Pl_79 Zr_79 rfl (fill_nil)) rfl <| ls (s_store (i := 1) (vs := [.int .i64 0, .int .i64 0, .string (⟨#[]⟩ : ByteArray)]) (C' := [.int .i64 0, .int .i64 0, .string (⟨#[]⟩ : ByteArray)]) (O' := [(b_4, .cells #[.int .i64 1, .int .i64 p2, .string (⟨#[]⟩ : ByteArray)] 79 (0, 0)), (b_3, .cells #[.int .i64 0, .int .i64 0, .string (⟨#[]⟩ : ByteArray)] 79 (0, 0)), (b_2, .cells #[.int .i64 p1.K, .int .i64 p1.N, .string p1.S] 79 (0, 0)), (b_1, .cells #[.int .i64 p0.K, .int .i64 p0.N, .string p0.S] 79 (0, 0))]) Sz_79 rfl rfl rfl rfl rfl rfl ⟨rfl, rfl, rfl, trivial⟩ rfl rfl) rfl ?_
  refine lq (q_assign rfl) rfl <| WL.nil ?_
  refine WT.ret Try.func169 (resOk.two (rv_cell Tn_79 rfl (fun w1 hw => hw.rgO (i := 1) rfl 0 3 [.int .i64 0, .int .i64 0, .string (⟨#[]⟩ : ByteArray)] rfl) rfl) rfl) (fun w1 hw => ?_)
  cases h
  exact post_of_St hw
 replace h := ite_f h c5
 refine WT.skip <| WT.seq <| WT.region <| lq (q_loadN Tn_79 rfl (fun w1 hw => hw.rgO (i := 0) rfl 0 3 [.int .i64 1, .int .i64 p2, .string (⟨#[]⟩ : ByteArray)] rfl) rfl) rfl <| ls (s_store (i := 1) (vs := [.int .i64 1, .int .i64 p2, .string (⟨#[]⟩ : ByteArray)]) (C' := [.int .i64 1, .int .i64 p2, .string (⟨#[]⟩ : ByteArray)]) (O' := [(b_4, .cells #[.int .i64 1, .int .i64 p2, .string (⟨#[]⟩ : ByteArray)] 79 (0, 0)), (b_3, .cells #[.int .i64 1, .int .i64 p2, .string (⟨#[]⟩ : ByteArray)] 79 (0, 0)), (b_2, .cells #[.int .i64 p1.K, .int .i64 p1.N, .string p1.S] 79 (0, 0)), (b_1, .cells #[.int .i64 p0.K, .int .i64 p0.N, .string p0.S] 79 (0, 0))]) Sz_79 rfl rfl rfl rfl rfl rfl ⟨rfl, rfl, rfl, trivial⟩ rfl rfl) rfl ?_
 refine lq (q_assign rfl) rfl <| WL.nil ?_
 refine WT.ret Try.func169 (resOk.two (rv_cell Tn_79 rfl (fun w1 hw => hw.rgO (i := 1) rfl 0 3 [.int .i64 1, .int .i64 p2, .string (⟨#[]⟩ : ByteArray)] rfl) rfl) rfl) (fun w1 hw => ?_)
 cases h
 exact post_of_St hw
end Go.Proofs.Ytmhckcoabhahpaa
