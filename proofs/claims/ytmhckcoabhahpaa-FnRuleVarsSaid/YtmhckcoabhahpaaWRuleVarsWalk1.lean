/- Printed by a program of ours: each Go function computes its Lean function. -/
import Derived.Test.YtmhckcoabhahpaaProg
import Derived.Test.YtmhckcoabhahpaaWRuleVarsMod
namespace Go.Proofs.Ytmhckcoabhahpaa
open Eng
open Go.RowKit (Below)
set_option linter.unusedVariables false
set_option linter.unusedSimpArgs false

set_option maxRecDepth 100000
set_option maxHeartbeats 1000000
theorem mixed : Try.prog.follows .mixedOrders = true := by kernel_rfl
theorem Sl_22 : Sl Try.prog 22 5 1 = true := by kernel_rfl
theorem T1_5 : T1 Try.prog 5 = true := by kernel_rfl
theorem Ik_5 : Ik Try.prog 5 .u8 = true := by kernel_rfl
theorem Ik_3 : Ik Try.prog 3 .i64 = true := by kernel_rfl
theorem Pl_195 : Pl Try.prog 195 #[(0, 1), (1, 1), (2, 1)] = true := by kernel_rfl
theorem Zr_195 : (Try.prog.info? 195).map (·.zero) = some (some (.agg #[.slice none 0 0, .int .i64 0, .int .i64 0])) := by kernel_rfl
theorem Fld_195_2 : Fld Try.prog 195 2 2 = true := by kernel_rfl
theorem T1_3 : T1 Try.prog 3 = true := by kernel_rfl
theorem Sz_3 : Sz Try.prog 3 1 = true := by kernel_rfl
theorem Fld_195_1 : Fld Try.prog 195 1 1 = true := by kernel_rfl
theorem Fld_195_0 : Fld Try.prog 195 0 0 = true := by kernel_rfl
theorem T1_22 : T1 Try.prog 22 = true := by kernel_rfl
theorem Fun_154 : Fun Try.prog 154 = true := by kernel_rfl
theorem Fun_92 : Fun Try.prog 92 = true := by kernel_rfl
theorem Sl_68 : Sl Try.prog 68 9 1 = true := by kernel_rfl
theorem T1_9 : T1 Try.prog 9 = true := by kernel_rfl
theorem MC_9_0 : madeCells (Value.string ⟨#[]⟩ : Value).cells (0 * 1) = #[] := by kernel_rfl
theorem Zr_9 : (Try.prog.info? 9).map (·.zero) = some (some (.string ⟨#[]⟩)) := by kernel_rfl
theorem Fld_37_1 : Fld Try.prog 37 1 1 = true := by kernel_rfl
theorem T1_35 : T1 Try.prog 35 = true := by kernel_rfl
theorem Sl_35 : Sl Try.prog 35 83 5 = true := by kernel_rfl
theorem Fld_83_0 : Fld Try.prog 83 0 0 = true := by kernel_rfl
theorem Fld_83_1 : Fld Try.prog 83 1 1 = true := by kernel_rfl
theorem Fun_112 : Fun Try.prog 112 = true := by kernel_rfl
theorem MC_9_1 : madeCells (Value.string ⟨#[]⟩ : Value).cells (1 * 1) = #[.string ⟨#[]⟩] := by kernel_rfl
theorem Ei_9 : (Try.prog.info? 9).map (fun i => (i.zero, i.size, i.bytes)) = some (some (.string ⟨#[]⟩), 1, 16) := by kernel_rfl
theorem Fld_66_2 : Fld Try.prog 66 2 2 = true := by kernel_rfl
theorem T1_62 : T1 Try.prog 62 = true := by kernel_rfl
theorem Sl_62 : Sl Try.prog 62 37 3 = true := by kernel_rfl
theorem Tn_37 : Tn Try.prog 37 3 = true := by kernel_rfl
theorem Fun_111 : Fun Try.prog 111 = true := by kernel_rfl
theorem Fld_37_2 : Fld Try.prog 37 2 2 = true := by kernel_rfl
theorem T1_4 : T1 Try.prog 4 = true := by kernel_rfl
theorem Zr_79 : (Try.prog.info? 79).map (·.zero) = some (some (.agg #[.int .i64 0, .int .i64 0, .string ⟨#[]⟩])) := by kernel_rfl
theorem Fun_85 : Fun Try.prog 85 = true := by kernel_rfl
theorem Pl_79 : Pl Try.prog 79 #[(0, 1), (1, 1), (2, 1)] = true := by kernel_rfl
theorem Sz_79 : Sz Try.prog 79 3 = true := by kernel_rfl
theorem Tn_79 : Tn Try.prog 79 3 = true := by kernel_rfl
theorem MC_9_2 : madeCells (Value.string ⟨#[]⟩ : Value).cells (2 * 1) = #[.string ⟨#[]⟩, .string ⟨#[]⟩] := by kernel_rfl
theorem Fun_151 : Fun Try.prog 151 = true := by kernel_rfl
theorem Zr_83 : (Try.prog.info? 83).map (·.zero) = some (some (.agg #[.int .i64 0, .string ⟨#[]⟩, .int .i64 0, .int .i64 0, .string ⟨#[]⟩])) := by kernel_rfl
theorem Pl_83 : Pl Try.prog 83 #[(0, 1), (1, 1), (2, 3)] = true := by kernel_rfl
theorem Sz_83 : Sz Try.prog 83 5 = true := by kernel_rfl
theorem Tn_83 : Tn Try.prog 83 5 = true := by kernel_rfl
theorem Fun_86 : Fun Try.prog 86 = true := by kernel_rfl
theorem Fun_193 : Fun Try.prog 193 = true := by kernel_rfl
theorem MC_9_4 : madeCells (Value.string ⟨#[]⟩ : Value).cells (4 * 1) = #[.string ⟨#[]⟩, .string ⟨#[]⟩, .string ⟨#[]⟩, .string ⟨#[]⟩] := by kernel_rfl
theorem Fun_194 : Fun Try.prog 194 = true := by kernel_rfl
theorem Zr_37 : (Try.prog.info? 37).map (·.zero) = some (some (.agg #[.string ⟨#[]⟩, .slice none 0 0, .bool false])) := by kernel_rfl
theorem Pl_37 : Pl Try.prog 37 #[(0, 1), (1, 1), (2, 1)] = true := by kernel_rfl
theorem Sz_37 : Sz Try.prog 37 3 = true := by kernel_rfl
theorem Fld_37_0 : Fld Try.prog 37 0 0 = true := by kernel_rfl
theorem Fun_153 : Fun Try.prog 153 = true := by kernel_rfl
theorem MC_83_1 : madeCells (Value.agg #[.int .i64 0, .string ⟨#[]⟩, .int .i64 0, .int .i64 0, .string ⟨#[]⟩] : Value).cells (1 * 5) = #[.int .i64 0, .string ⟨#[]⟩, .int .i64 0, .int .i64 0, .string ⟨#[]⟩] := by kernel_rfl
theorem Ei_83 : (Try.prog.info? 83).map (fun i => (i.zero, i.size, i.bytes)) = some (some (.agg #[.int .i64 0, .string ⟨#[]⟩, .int .i64 0, .int .i64 0, .string ⟨#[]⟩]), 5, 56) := by kernel_rfl
theorem Sz_35 : Sz Try.prog 35 1 = true := by kernel_rfl
theorem Sl_27 : Sl Try.prog 27 3 1 = true := by kernel_rfl
theorem Zr_206 : (Try.prog.info? 206).map (·.zero) = some (some (.agg #[.int .i64 0, .int .i64 0, .string ⟨#[]⟩, .int .i64 0, .int .i64 0, .string ⟨#[]⟩, .int .i64 0, .string ⟨#[]⟩, .int .i64 0, .int .i64 0, .string ⟨#[]⟩])) := by kernel_rfl
theorem Fun_164 : Fun Try.prog 164 = true := by kernel_rfl
theorem Pl_206 : Pl Try.prog 206 #[(0, 1), (1, 5), (6, 5)] = true := by kernel_rfl
theorem Sz_206 : Sz Try.prog 206 11 = true := by kernel_rfl
theorem Tn_206 : Tn Try.prog 206 11 = true := by kernel_rfl
theorem Fun_203 : Fun Try.prog 203 = true := by kernel_rfl
theorem Zr_85 : (Try.prog.info? 85).map (·.zero) = some (some (.agg #[.string ⟨#[]⟩, .int .i64 0, .string ⟨#[]⟩, .int .i64 0, .int .i64 0, .string ⟨#[]⟩, .int .i64 0, .string ⟨#[]⟩, .int .i64 0, .int .i64 0, .string ⟨#[]⟩])) := by kernel_rfl
theorem Pl_85 : Pl Try.prog 85 #[(0, 1), (1, 5), (6, 5)] = true := by kernel_rfl
theorem Sz_85 : Sz Try.prog 85 11 = true := by kernel_rfl
theorem Tn_85 : Tn Try.prog 85 11 = true := by kernel_rfl
theorem Fld_85_0 : Fld Try.prog 85 0 0 = true := by kernel_rfl
theorem Sz_9 : Sz Try.prog 9 1 = true := by kernel_rfl
theorem Fld_85_2 : Fld Try.prog 85 2 6 = true := by kernel_rfl
theorem Zr_96 : (Try.prog.info? 96).map (·.zero) = some (some (.agg #[.int .i64 0, .string ⟨#[]⟩, .slice none 0 0, .int .i64 0, .string ⟨#[]⟩])) := by kernel_rfl
theorem MC_3_8 : madeCells (Value.int .i64 0 : Value).cells (8 * 1) = #[.int .i64 0, .int .i64 0, .int .i64 0, .int .i64 0, .int .i64 0, .int .i64 0, .int .i64 0, .int .i64 0] := by kernel_rfl
theorem Zr_3 : (Try.prog.info? 3).map (·.zero) = some (some (.int .i64 0)) := by kernel_rfl
theorem Fun_120 : Fun Try.prog 120 = true := by kernel_rfl
theorem Pl_96 : Pl Try.prog 96 #[(0, 1), (1, 1), (2, 1), (3, 1), (4, 1)] = true := by kernel_rfl
theorem Sz_96 : Sz Try.prog 96 5 = true := by kernel_rfl
theorem Fld_96_0 : Fld Try.prog 96 0 0 = true := by kernel_rfl
theorem Fld_96_3 : Fld Try.prog 96 3 3 = true := by kernel_rfl
theorem Tn_96 : Tn Try.prog 96 5 = true := by kernel_rfl
theorem MC_9_5 : madeCells (Value.string ⟨#[]⟩ : Value).cells (5 * 1) = #[.string ⟨#[]⟩, .string ⟨#[]⟩, .string ⟨#[]⟩, .string ⟨#[]⟩, .string ⟨#[]⟩] := by kernel_rfl
theorem Fld_96_1 : Fld Try.prog 96 1 1 = true := by kernel_rfl
theorem Fld_96_2 : Fld Try.prog 96 2 2 = true := by kernel_rfl
theorem T1_73 : T1 Try.prog 73 = true := by kernel_rfl
theorem Fun_113 : Fun Try.prog 113 = true := by kernel_rfl
theorem MC_85_1 : madeCells (Value.agg #[.string ⟨#[]⟩, .int .i64 0, .string ⟨#[]⟩, .int .i64 0, .int .i64 0, .string ⟨#[]⟩, .int .i64 0, .string ⟨#[]⟩, .int .i64 0, .int .i64 0, .string ⟨#[]⟩] : Value).cells (1 * 11) = #[.string ⟨#[]⟩, .int .i64 0, .string ⟨#[]⟩, .int .i64 0, .int .i64 0, .string ⟨#[]⟩, .int .i64 0, .string ⟨#[]⟩, .int .i64 0, .int .i64 0, .string ⟨#[]⟩] := by kernel_rfl
theorem Sl_73 : Sl Try.prog 73 85 11 = true := by kernel_rfl
theorem Ei_85 : (Try.prog.info? 85).map (fun i => (i.zero, i.size, i.bytes)) = some (some (.agg #[.string ⟨#[]⟩, .int .i64 0, .string ⟨#[]⟩, .int .i64 0, .int .i64 0, .string ⟨#[]⟩, .int .i64 0, .string ⟨#[]⟩, .int .i64 0, .int .i64 0, .string ⟨#[]⟩]), 11, 128) := by kernel_rfl
theorem Sz_73 : Sz Try.prog 73 1 = true := by kernel_rfl
theorem Fld_96_4 : Fld Try.prog 96 4 4 = true := by kernel_rfl
theorem MC_3_4 : madeCells (Value.int .i64 0 : Value).cells (4 * 1) = #[.int .i64 0, .int .i64 0, .int .i64 0, .int .i64 0] := by kernel_rfl
theorem Zr_66 : (Try.prog.info? 66).map (·.zero) = some (some (.agg #[.string ⟨#[]⟩, .int .i64 0, .slice none 0 0, .slice none 0 0, .slice none 0 0])) := by kernel_rfl
theorem MC_3_5 : madeCells (Value.int .i64 0 : Value).cells (5 * 1) = #[.int .i64 0, .int .i64 0, .int .i64 0, .int .i64 0, .int .i64 0] := by kernel_rfl
theorem Pl_66 : Pl Try.prog 66 #[(0, 1), (1, 1), (2, 1), (3, 1), (4, 1)] = true := by kernel_rfl
theorem Sz_66 : Sz Try.prog 66 5 = true := by kernel_rfl
theorem Fun_83 : Fun Try.prog 83 = true := by kernel_rfl
theorem MC_37_1 : madeCells (Value.agg #[.string ⟨#[]⟩, .slice none 0 0, .bool false] : Value).cells (1 * 3) = #[.string ⟨#[]⟩, .slice none 0 0, .bool false] := by kernel_rfl
theorem Ei_37 : (Try.prog.info? 37).map (fun i => (i.zero, i.size, i.bytes)) = some (some (.agg #[.string ⟨#[]⟩, .slice none 0 0, .bool false]), 3, 48) := by kernel_rfl
theorem Sz_62 : Sz Try.prog 62 1 = true := by kernel_rfl
theorem Tn_66 : Tn Try.prog 66 5 = true := by kernel_rfl
theorem Fun_40 : Fun Try.prog 40 = true := by kernel_rfl
theorem Fun_59 : Fun Try.prog 59 = true := by kernel_rfl
theorem Fun_176 : Fun Try.prog 176 = true := by kernel_rfl
theorem Fld_85_1 : Fld Try.prog 85 1 1 = true := by kernel_rfl
theorem Fun_175 : Fun Try.prog 175 = true := by kernel_rfl
theorem Fld_66_4 : Fld Try.prog 66 4 4 = true := by kernel_rfl
theorem T1_64 : T1 Try.prog 64 = true := by kernel_rfl
theorem MC_96_1 : madeCells (Value.agg #[.int .i64 0, .string ⟨#[]⟩, .slice none 0 0, .int .i64 0, .string ⟨#[]⟩] : Value).cells (1 * 5) = #[.int .i64 0, .string ⟨#[]⟩, .slice none 0 0, .int .i64 0, .string ⟨#[]⟩] := by kernel_rfl
theorem Sl_64 : Sl Try.prog 64 96 5 = true := by kernel_rfl
theorem Ei_96 : (Try.prog.info? 96).map (fun i => (i.zero, i.size, i.bytes)) = some (some (.agg #[.int .i64 0, .string ⟨#[]⟩, .slice none 0 0, .int .i64 0, .string ⟨#[]⟩]), 5, 72) := by kernel_rfl
theorem Sz_64 : Sz Try.prog 64 1 = true := by kernel_rfl
theorem Fun_174 : Fun Try.prog 174 = true := by kernel_rfl
theorem Fld_206_1 : Fld Try.prog 206 1 1 = true := by kernel_rfl
theorem Fld_206_2 : Fld Try.prog 206 2 6 = true := by kernel_rfl
theorem Fld_66_3 : Fld Try.prog 66 3 3 = true := by kernel_rfl
theorem T1_63 : T1 Try.prog 63 = true := by kernel_rfl
theorem MC_206_1 : madeCells (Value.agg #[.int .i64 0, .int .i64 0, .string ⟨#[]⟩, .int .i64 0, .int .i64 0, .string ⟨#[]⟩, .int .i64 0, .string ⟨#[]⟩, .int .i64 0, .int .i64 0, .string ⟨#[]⟩] : Value).cells (1 * 11) = #[.int .i64 0, .int .i64 0, .string ⟨#[]⟩, .int .i64 0, .int .i64 0, .string ⟨#[]⟩, .int .i64 0, .string ⟨#[]⟩, .int .i64 0, .int .i64 0, .string ⟨#[]⟩] := by kernel_rfl
theorem Sl_63 : Sl Try.prog 63 206 11 = true := by kernel_rfl
theorem Ei_206 : (Try.prog.info? 206).map (fun i => (i.zero, i.size, i.bytes)) = some (some (.agg #[.int .i64 0, .int .i64 0, .string ⟨#[]⟩, .int .i64 0, .int .i64 0, .string ⟨#[]⟩, .int .i64 0, .string ⟨#[]⟩, .int .i64 0, .int .i64 0, .string ⟨#[]⟩]), 11, 120) := by kernel_rfl
theorem Sz_63 : Sz Try.prog 63 1 = true := by kernel_rfl
theorem MC_9_3 : madeCells (Value.string ⟨#[]⟩ : Value).cells (3 * 1) = #[.string ⟨#[]⟩, .string ⟨#[]⟩, .string ⟨#[]⟩] := by kernel_rfl
theorem Fld_206_0 : Fld Try.prog 206 0 0 = true := by kernel_rfl
theorem MC_37_0 : madeCells (Value.agg #[.string ⟨#[]⟩, .slice none 0 0, .bool false] : Value).cells (0 * 3) = #[] := by kernel_rfl
theorem Fld_66_0 : Fld Try.prog 66 0 0 = true := by kernel_rfl
theorem MC_3_3 : madeCells (Value.int .i64 0 : Value).cells (3 * 1) = #[.int .i64 0, .int .i64 0, .int .i64 0] := by kernel_rfl
theorem Fld_66_1 : Fld Try.prog 66 1 1 = true := by kernel_rfl
theorem Fun_87 : Fun Try.prog 87 = true := by kernel_rfl
theorem MC_206_0 : madeCells (Value.agg #[.int .i64 0, .int .i64 0, .string ⟨#[]⟩, .int .i64 0, .int .i64 0, .string ⟨#[]⟩, .int .i64 0, .string ⟨#[]⟩, .int .i64 0, .int .i64 0, .string ⟨#[]⟩] : Value).cells (0 * 11) = #[] := by kernel_rfl
theorem Fun_195 : Fun Try.prog 195 = true := by kernel_rfl
theorem MC_96_0 : madeCells (Value.agg #[.int .i64 0, .string ⟨#[]⟩, .slice none 0 0, .int .i64 0, .string ⟨#[]⟩] : Value).cells (0 * 5) = #[] := by kernel_rfl
theorem Fun_196 : Fun Try.prog 196 = true := by kernel_rfl
theorem Sz_4 : Sz Try.prog 4 1 = true := by kernel_rfl
theorem Fun_130 : Fun Try.prog 130 = true := by kernel_rfl
theorem Fun_162 : Fun Try.prog 162 = true := by kernel_rfl
theorem Fun_75 : Fun Try.prog 75 = true := by kernel_rfl
theorem Fun_108 : Fun Try.prog 108 = true := by kernel_rfl
theorem Fun_197 : Fun Try.prog 197 = true := by kernel_rfl
theorem Fun_163 : Fun Try.prog 163 = true := by kernel_rfl
theorem Fun_110 : Fun Try.prog 110 = true := by kernel_rfl
theorem Fun_109 : Fun Try.prog 109 = true := by kernel_rfl
theorem Fun_12 : Fun Try.prog 12 = true := by kernel_rfl
theorem Fun_34 : Fun Try.prog 34 = true := by kernel_rfl
theorem Fun_35 : Fun Try.prog 35 = true := by kernel_rfl
theorem Fun_36 : Fun Try.prog 36 = true := by kernel_rfl
theorem Fun_37 : Fun Try.prog 37 = true := by kernel_rfl
theorem Fun_38 : Fun Try.prog 38 = true := by kernel_rfl
theorem Fun_39 : Fun Try.prog 39 = true := by kernel_rfl
theorem Fun_41 : Fun Try.prog 41 = true := by kernel_rfl
theorem m_l_big_ok {Φ : Hp} {w : World} (hΦ : In Φ w) (N : Nat) (p0 : (List Int)) {pv0 : Value} {pG0 : List Nat} (ph0 : RSl (RI .u8) 1 Φ pG0 pv0 p0) {r : Bool} (h : m_l_big N p0 = some r) :
  Calls Try.prog 12 [pv0].toArray w (Post (.bool r) w) := by
 refine enter Try.func12 rfl Try.ntmps12 rfl (St.start0 hΦ) ?_
 unfold m_l_big at h
 refine WT.seq <| WT.region <| lq (q_assign rfl) rfl <| WL.nil <| WT.seq <| WT.region <| lq (q_move rfl) rfl <| lq (q_lenR Sl_22 rfl rfl ph0) rfl <| lq (q_gtr rfl rfl) rfl <| lq (q_assign rfl) rfl <| WL.nil ?_
 refine WT.ret Try.func12 (resOk.one rfl) (fun w1 hw => ?_)
 cases h
 exact post_of_St hw
theorem m_s_l1New_ok {Φ : Hp} {w : World} (hΦ : In Φ w) (N : Nat) (p0 : (List Int)) {pv0 : Value} {pG0 : List Nat} (ph0 : RSl (RI .u8) 1 Φ pG0 pv0 p0) {r : Tl1Cur} (h : m_s_l1New N p0 = some r) :
  Calls Try.prog 75 [pv0].toArray w (PostG Φ w [] (fun Φ' Fs v => ∃ (b0 : Nat) (sr_0_0 : Value) (Gr_0_0 : List Nat), v = .pointer (some ⟨b0, 0, none⟩) ∧ Fs = [[b0]] ∧ RSl (RI .u8) 1 Φ' Gr_0_0 sr_0_0 r.b ∧ (∀ k ∈ Gr_0_0, k ∈ pG0) ∧ Φ' b0 = some (.cells #[sr_0_0, .int .i64 r.i, .int .i64 r.h] 195 (0, 0)))) := by
 refine enter Try.func75 rfl Try.ntmps75 rfl (St.start0 hΦ) ?_
 generalize hb0 : (⟨w, [], Φ⟩ : Base) = w0
 unfold m_s_l1New at h
 refine WT.seq <| WT.region <| lq (q_assign rfl) rfl <| WL.nil <| WT.seq <| WT.region <| lq (q_move rfl) rfl <| lq (q_lenR Sl_22 rfl rfl ph0) rfl <| lq (q_add rfl rfl) rfl <| lq (q_assign rfl) rfl <| WL.nil <| WT.seq <| WT.seq <| WT.region <| lq (q_assign rfl) rfl <| WL.nil <| WT.block <| WT.loop <| WT.mono (l' := [(0, pv0), (3, .int .i64 (IntKind.i64.wrap (354354 + (p0.length : Int)))), (4, .int .i64 0)]) (S' := St w0 Φ [] []) ⟨rfl, rfl, rfl, trivial⟩ (fun w1 hw => (hw.sel (js := []) rfl).selO (js := []) rfl) ?_
 refine loop_ind (σ := Int × Int) (fun s => [(0, pv0), (3, .int .i64 s.1), (4, .int .i64 s.2)]) (fun s => St w0 Φ [] []) (fun m s => m_s_l1New_l1 N p0 m s.1 s.2 = some r) (fun s hm => none_ne (show (none : Option (Tl1Cur)) = some r from hm)) (fun n1 ih1 s hm => ?_) N (IntKind.i64.wrap (354354 + (p0.length : Int)), 0) h
 obtain ⟨s1, s2⟩ := s
 have h : m_s_l1New_l1 N p0 (n1 + 1) s1 s2 = some r := hm
 show WT _ _ [(0, pv0), (3, .int .i64 s1), (4, .int .i64 s2)] (St w0 Φ [] [])
 unfold m_s_l1New_l1 at h
 refine WT.seq <| WT.seq <| WT.region <| lq (q_move rfl) rfl <| lq (q_move rfl) rfl <| lq (q_lenR Sl_22 rfl rfl ph0) rfl <| lq (q_lss rfl rfl) rfl <| lq (q_move rfl) rfl ?_
 obtain ⟨b1, hb_1, h⟩ := bind_some h
 refine WL.cutN 3 [(15, .bool b1), (0, pv0), (3, .int .i64 s1), (4, .int .i64 s2)] ?_ (fun K => ?_)
 rotate_left
 ·refine WL.split (d := 12) rfl (fun c1 => ?_) (fun c1 => ?_)
  ·replace hb_1 := ite_t hb_1 c1
   refine WL.yes rfl rfl <| lq (q_move rfl) rfl <| WL.yes rfl rfl <| lq (q_lss rfl rfl) rfl <| WL.q (q_pick1 rfl rfl) rfl rfl rfl ?_
   cases hb_1
   exact WL.keep (by exact ⟨rfl, rfl, rfl, rfl, trivial⟩) K
  ·replace hb_1 := ite_f hb_1 c1
   refine WL.no rfl rfl rfl rfl <| WL.no rfl rfl rfl rfl <| WL.q (q_pick0 rfl rfl) rfl rfl rfl ?_
   cases hb_1
   exact WL.keep (by exact ⟨rfl, rfl, rfl, rfl, trivial⟩) K
 refine WL.nil ?_
 refine WT.cond rfl (fun c2 => ?_) (fun c2 => ?_)
 ·replace h := ite_t h c2
  refine WT.skip <| WT.seq <| WT.block <| WT.region <| lq (q_move rfl) rfl <| lq (q_mul rfl rfl) rfl <| lq (q_move rfl) rfl <| lq (q_move rfl) rfl ?_
  obtain ⟨x1, hx1, h⟩ := bind_some h
  obtain ⟨cs1, F1, -, g1, hb1, hs1, r1⟩ := ph0.el (idx_some hx1).2.2
  obtain ⟨rfl, -⟩ := r1
  refine lq (q_indexAddr Sl_22 rfl rfl ph0 hx1) rfl <| lq (q_load1 T1_5 rfl (fun w1 hw => (g1.of_eq 0 1 rfl rfl : rg _ _ _ [.int .u8 x1]).rangeAt hw.fro)) rfl <| lq (q_convI Ik_5 Ik_3 rfl) rfl <| lq (q_add rfl rfl) rfl <| lq (q_add rfl rfl) rfl <| lq (q_and rfl rfl) rfl <| lq (q_assign rfl) rfl <| WL.nil <| WT.inBlock <| WT.region <| lq (q_move rfl) rfl <| lq (q_add rfl rfl) rfl <| lq (q_assign rfl) rfl <| WL.nil ?_
  refine WT.inLoop (WT.mono (l' := [(0, pv0), (3, .int .i64 (andI .i64 (IntKind.i64.wrap ((IntKind.i64.wrap ((IntKind.i64.wrap (s1 * 137)) + (IntKind.i64.wrap x1))) + 11)) 1073741823)), (4, .int .i64 (IntKind.i64.wrap (s2 + 1)))]) (S' := St w0 Φ [] []) ⟨rfl, rfl, rfl, trivial⟩ (fun w1 hw => (hw.sel (js := []) rfl).selO (js := []) rfl) ?_)
  exact ih1 ((andI .i64 (IntKind.i64.wrap ((IntKind.i64.wrap ((IntKind.i64.wrap (s1 * 137)) + (IntKind.i64.wrap x1))) + 11)) 1073741823), IntKind.i64.wrap (s2 + 1)) h
 replace h := ite_f h c2
 refine WT.exit rfl <| WT.seq <| WT.region <| lq (q_move rfl) rfl <| lq (q_move rfl) rfl <| lq (q_build (vs := [(0, pv0), (2, .int .i64 s1)]) (C := #[pv0, .int .i64 0, .int .i64 s1]) Pl_195 Zr_195 rfl (fill_cons (cells := [.slice none 0 0, .int .i64 0, .int .i64 0]) (c := [pv0]) (C' := [pv0, .int .i64 0, .int .i64 0]) rfl (one_cells ph0.one) rfl rfl rfl (fill_cons (cells := [pv0, .int .i64 0, .int .i64 0]) (c := [.int .i64 s1]) (C' := [pv0, .int .i64 0, .int .i64 s1]) rfl rfl rfl rfl rfl (fill_nil)))) rfl ?_
 refine ln (n_box (C := #[pv0, .int .i64 0, .int .i64 s1]) rfl rfl) rfl (fun b_1 => ?_)
 refine lq (q_assign rfl) rfl <| WL.nil ?_
 refine WT.frz (js := [0]) (R := []) rfl (fun Φ_1 fr1 k1 => ?_)
 replace ph0 := ph0.frame RI.lasts fr1 (Dj.empty _)
 refine WT.ret Try.func75 (resOk.one rfl) (fun w1 hw => ?_)
 subst hb0
 cases h
 refine postG_of_St (js := [0]) hw rfl ⟨b_1, pv0, pG0, rfl, rfl, ph0, (fun k hk => hk), k1⟩
theorem m_s_l1Byte_ok {Φ : Hp} {w : World} (hΦ : In Φ w) (N : Nat) (p0 : Tl1Cur) {pv0_0 : Value} {pG0_0 : List Nat} {pb0 : Nat} (ph0_0 : RSl (RI .u8) 1 Φ pG0_0 pv0_0 p0.b) (pp0 : Φ pb0 = some (.cells #[pv0_0, .int .i64 p0.i, .int .i64 p0.h] 195 (0, 0))) (pd0_0 : Dj pG0_0 [[pb0]].flatten) (hB : [[pb0]].flatten.Nodup) (hlt : ∀ k ∈ [[pb0]].flatten, k < w.heap.size) {r : Int × Tl1Cur} (h : m_s_l1Byte N p0 = some r) :
  Calls Try.prog 154 [.pointer (some ⟨pb0, 0, none⟩)].toArray w (PostG Φ w [[pb0]].flatten (fun Φ' Fs v => v = .int .i64 r.1 ∧ Fs = [[pb0]] ∧ r.2.b = p0.b ∧ Φ' pb0 = some (.cells #[pv0_0, .int .i64 r.2.i, .int .i64 r.2.h] 195 (0, 0)))) := by
 refine enter Try.func154 rfl Try.ntmps154 rfl (St.start hΦ [[pb0]] hB hlt) ?_
 have pa0_0 : Old ⟨w, [[pb0]].flatten, Φ⟩ pG0_0 := Old.mk hΦ ph0_0.kn pd0_0
 unfold m_s_l1Byte at h
 refine WT.seq <| WT.region <| lq (q_assign rfl) rfl <| WL.nil <| WT.seq <| WT.region <| lq (q_move rfl) rfl <| lq (q_move rfl) rfl <| lq (q_nilCheck rfl) rfl <| lq (q_fieldAddr Fld_195_2 rfl) rfl <| lq (q_load1 T1_3 rfl (fun w1 hw => ((rg_cells pp0).of_eq 2 1 rfl rfl : rg _ _ _ [.int .i64 p0.h]).rangeAt hw.fro)) rfl <| lq (q_mul rfl rfl) rfl <| lq (q_add rfl rfl) rfl <| lq (q_nilCheck rfl) rfl <| lq (q_fieldAddr Fld_195_2 rfl) rfl ?_
 refine WL.thw (js := [0]) (R := []) rfl pp0 (fun Φ_1 ap1 fr1 => ?_)
 replace ph0_0 := ph0_0.frame RI.lasts fr1 (ap1.o pa0_0)
 refine ls (s_store (i := 0) (vs := [.int .i64 (IntKind.i64.wrap ((IntKind.i64.wrap (p0.h * 6364136223846793005)) + 1442695040888963407))]) (C' := [pv0_0, .int .i64 p0.i, .int .i64 (IntKind.i64.wrap ((IntKind.i64.wrap (p0.h * 6364136223846793005)) + 1442695040888963407))]) (O' := [(pb0, .cells #[pv0_0, .int .i64 p0.i, .int .i64 (IntKind.i64.wrap ((IntKind.i64.wrap (p0.h * 6364136223846793005)) + 1442695040888963407))] 195 (0, 0))]) Sz_3 rfl rfl rfl rfl rfl rfl ⟨rfl, trivial⟩ rfl rfl) rfl ?_
 refine WL.nil <| WT.seq <| WT.draw mixed (by kernel_rfl) (fun _ h => h.drew) <| qq (q_move rfl) rfl <| qq (q_nilCheck rfl) rfl <| qq (q_fieldAddr Fld_195_2 rfl) rfl <| qq (q_load1 T1_3 rfl (fun w1 hw => hw.rgO (i := 0) rfl 2 1 [.int .i64 (IntKind.i64.wrap ((IntKind.i64.wrap (p0.h * 6364136223846793005)) + 1442695040888963407))] rfl)) rfl <| qq (q_shr rfl rfl (by decide)) rfl <| qq (q_move rfl) rfl <| qq (q_nilCheck rfl) rfl <| qq (q_fieldAddr Fld_195_2 rfl) rfl ?_
 refine qq (q_load1 T1_3 rfl (fun w1 hw => hw.rgO (i := 0) rfl 2 1 [.int .i64 (IntKind.i64.wrap ((IntKind.i64.wrap (p0.h * 6364136223846793005)) + 1442695040888963407))] rfl)) rfl <| qq (q_shr rfl rfl (by decide)) rfl <| qq (q_xor rfl rfl) rfl <| qq (q_and rfl rfl) rfl <| qq (q_assign rfl) rfl <| WQ.nil <| WT.seq <| WT.seq <| WT.draw mixed (by kernel_rfl) (fun _ h => h.drew) <| qq (q_move rfl) rfl <| qq (q_nilCheck rfl) rfl <| qq (q_fieldAddr Fld_195_1 rfl) rfl ?_
 refine qq (q_load1 T1_3 rfl (fun w1 hw => hw.rgO (i := 0) rfl 1 1 [.int .i64 p0.i] rfl)) rfl <| qq (q_move rfl) rfl <| qq (q_nilCheck rfl) rfl <| qq (q_fieldAddr Fld_195_0 rfl) rfl <| qq (q_load1 T1_22 rfl (fun w1 hw => hw.rgO (i := 0) rfl 0 1 [pv0_0] rfl)) rfl <| qq (q_lenR Sl_22 rfl rfl ph0_0) rfl <| qq (q_lss rfl rfl) rfl <| WQ.nil ?_
 refine WT.cond rfl (fun c1 => ?_) (fun c1 => ?_)
 ·replace h := ite_t h c1
  refine WT.seq <| WT.draw mixed (by kernel_rfl) (fun _ h => h.drew) <| qq (q_move rfl) rfl <| qq (q_move rfl) rfl <| qq (q_nilCheck rfl) rfl <| qq (q_fieldAddr Fld_195_0 rfl) rfl <| qq (q_load1 T1_22 rfl (fun w1 hw => hw.rgO (i := 0) rfl 0 1 [pv0_0] rfl)) rfl <| qq (q_move rfl) rfl <| qq (q_nilCheck rfl) rfl <| qq (q_fieldAddr Fld_195_1 rfl) rfl <| qq (q_load1 T1_3 rfl (fun w1 hw => hw.rgO (i := 0) rfl 1 1 [.int .i64 p0.i] rfl)) rfl ?_
  obtain ⟨x1, hx1, h⟩ := bind_some h
  obtain ⟨cs1, F1, -, g1, hb1, hs1, r1⟩ := ph0_0.el (idx_some hx1).2.2
  obtain ⟨rfl, -⟩ := r1
  refine qq (q_indexAddr Sl_22 rfl rfl ph0_0 hx1) rfl <| qq (q_load1 T1_5 rfl (fun w1 hw => (g1.of_eq 0 1 rfl rfl : rg _ _ _ [.int .u8 x1]).rangeAt hw.fro)) rfl <| qq (q_convI Ik_5 Ik_3 rfl) rfl <| qq (q_add rfl rfl) rfl <| qq (q_and rfl rfl) rfl <| qq (q_assign rfl) rfl <| WQ.nil <| WT.region <| lq (q_move rfl) rfl <| lq (q_move rfl) rfl <| lq (q_nilCheck rfl) rfl <| lq (q_fieldAddr Fld_195_1 rfl) rfl <| lq (q_load1 T1_3 rfl (fun w1 hw => hw.rgO (i := 0) rfl 1 1 [.int .i64 p0.i] rfl)) rfl ?_
  refine lq (q_add rfl rfl) rfl <| lq (q_nilCheck rfl) rfl <| lq (q_fieldAddr Fld_195_1 rfl) rfl <| ls (s_store (i := 0) (vs := [.int .i64 (IntKind.i64.wrap (p0.i + 1))]) (C' := [pv0_0, .int .i64 (IntKind.i64.wrap (p0.i + 1)), .int .i64 (IntKind.i64.wrap ((IntKind.i64.wrap (p0.h * 6364136223846793005)) + 1442695040888963407))]) (O' := [(pb0, .cells #[pv0_0, .int .i64 (IntKind.i64.wrap (p0.i + 1)), .int .i64 (IntKind.i64.wrap ((IntKind.i64.wrap (p0.h * 6364136223846793005)) + 1442695040888963407))] 195 (0, 0))]) Sz_3 rfl rfl rfl rfl rfl rfl ⟨rfl, trivial⟩ rfl rfl) rfl ?_
  refine WL.nil <| WT.seq <| WT.region <| lq (q_move rfl) rfl <| lq (q_assign rfl) rfl <| WL.nil ?_
  refine WT.frz (js := [0]) (R := []) rfl (fun Φ_2 fr2 k1 => ?_)
  replace ph0_0 := ph0_0.frame RI.lasts fr2 (Dj.empty _)
  refine WT.ret Try.func154 (resOk.one rfl) (fun w1 hw => ?_)
  cases h
  refine postG_of_St (js := [0]) hw rfl ⟨rfl, rfl, rfl, k1⟩
 replace h := ite_f h c1
 refine WT.skip <| WT.seq <| WT.region <| lq (q_move rfl) rfl <| lq (q_assign rfl) rfl <| WL.nil ?_
 refine WT.frz (js := [0]) (R := []) rfl (fun Φ_3 fr3 k2 => ?_)
 replace ph0_0 := ph0_0.frame RI.lasts fr3 (Dj.empty _)
 refine WT.ret Try.func154 (resOk.one rfl) (fun w1 hw => ?_)
 cases h
 refine postG_of_St (js := [0]) hw rfl ⟨rfl, rfl, rfl, k2⟩
theorem m_s_l1Below_ok {Φ : Hp} {w : World} (hΦ : In Φ w) (N : Nat) (p0 : Tl1Cur) (p1 : Int) {pv0_0 : Value} {pG0_0 : List Nat} {pb0 : Nat} (ph0_0 : RSl (RI .u8) 1 Φ pG0_0 pv0_0 p0.b) (pp0 : Φ pb0 = some (.cells #[pv0_0, .int .i64 p0.i, .int .i64 p0.h] 195 (0, 0))) (pd0_0 : Dj pG0_0 [[pb0]].flatten) (hB : [[pb0]].flatten.Nodup) (hlt : ∀ k ∈ [[pb0]].flatten, k < w.heap.size) {r : Int × Tl1Cur} (h : m_s_l1Below N p0 p1 = some r) :
  Calls Try.prog 92 [.pointer (some ⟨pb0, 0, none⟩), .int .i64 p1].toArray w (PostG Φ w [[pb0]].flatten (fun Φ' Fs v => v = .int .i64 r.1 ∧ Fs = [[pb0]] ∧ r.2.b = p0.b ∧ Φ' pb0 = some (.cells #[pv0_0, .int .i64 r.2.i, .int .i64 r.2.h] 195 (0, 0)))) := by
 refine enter Try.func92 rfl Try.ntmps92 rfl (St.start hΦ [[pb0]] hB hlt) ?_
 have pa0_0 : Old ⟨w, [[pb0]].flatten, Φ⟩ pG0_0 := Old.mk hΦ ph0_0.kn pd0_0
 unfold m_s_l1Below at h
 refine WT.seq <| WT.region <| lq (q_assign rfl) rfl <| WL.nil <| WT.seq <| WT.seq <| WT.region <| lq (q_move rfl) rfl <| lq (q_leq rfl rfl) rfl <| WL.nil ?_
 refine WT.cond rfl (fun c1 => ?_) (fun c1 => ?_)
 ·replace h := ite_t h c1
  refine WT.seq <| WT.region <| lq (q_assign rfl) rfl <| WL.nil ?_
  refine WT.ret Try.func92 (resOk.one rfl) (fun w1 hw => ?_)
  cases h
  refine postG_of_St (js := [0]) hw rfl ⟨rfl, rfl, rfl, pp0⟩
 replace h := ite_f h c1
 refine WT.skip <| WT.seq <| WT.seq <| WT.region <| lq (q_move rfl) rfl <| lq (q_leq rfl rfl) rfl <| WL.nil ?_
 refine WT.cond rfl (fun c2 => ?_) (fun c2 => ?_)
 ·replace h := ite_t h c2
  refine WT.seq <| WT.region <| lq (q_move rfl) rfl ?_
  obtain ⟨x1, hx1, h⟩ := bind_some h
  refine lc (k_call (js := [0]) (R := []) Fun_154 rfl rfl (fun w1 hw ap hl => m_s_l1Byte_ok hw.fro N p0 ph0_0 pp0 (ap.o pa0_0) ap.nd hl hx1)) rfl (fun v1 Φ_1 F1 q1 => ?_)
  obtain ⟨ap1, fr1, rfl, rfl, e1, h1⟩ := q1
  replace ph0_0 := ph0_0.frame RI.lasts fr1 (ap1.o pa0_0)
  refine lq (q_move rfl) rfl ?_
  obtain ⟨x2, hx2, h⟩ := bind_some h
  refine lq (q_remV rfl rfl hx2) rfl <| lq (q_assign rfl) rfl <| WL.nil ?_
  refine WT.ret Try.func92 (resOk.one rfl) (fun w1 hw => ?_)
  cases h
  refine postG_of_St (js := [0]) hw rfl ⟨rfl, rfl, rfl, h1⟩
 replace h := ite_f h c2
 refine WT.skip <| WT.seq <| WT.region <| lq (q_move rfl) rfl ?_
 obtain ⟨x3, hx3, h⟩ := bind_some h
 refine lc (k_call (js := [0]) (R := []) Fun_154 rfl rfl (fun w1 hw ap hl => m_s_l1Byte_ok hw.fro N p0 ph0_0 pp0 (ap.o pa0_0) ap.nd hl hx3)) rfl (fun v2 Φ_2 F2 q2 => ?_)
 obtain ⟨ap2, fr2, rfl, rfl, e2, h2⟩ := q2
 replace ph0_0 := ph0_0.frame RI.lasts fr2 (ap2.o pa0_0)
 refine lq (q_assign rfl) rfl <| WL.nil <| WT.seq <| WT.region <| lq (q_move rfl) rfl ?_
 obtain ⟨x4, hx4, h⟩ := bind_some h
 refine lc (k_call (js := [0]) (R := []) Fun_154 rfl rfl (fun w1 hw ap hl => m_s_l1Byte_ok hw.fro N (⟨p0.b, x3.2.i, x3.2.h⟩ : Tl1Cur) ph0_0 h2 (ap.o pa0_0) ap.nd hl hx4)) rfl (fun v3 Φ_3 F3 q3 => ?_)
 obtain ⟨ap3, fr3, rfl, rfl, e3, h3⟩ := q3
 replace ph0_0 := ph0_0.frame RI.lasts fr3 (ap3.o pa0_0)
 refine lq (q_assign rfl) rfl <| WL.nil <| WT.seq <| WT.region <| lq (q_move rfl) rfl ?_
 obtain ⟨x5, hx5, h⟩ := bind_some h
 refine lc (k_call (js := [0]) (R := []) Fun_154 rfl rfl (fun w1 hw ap hl => m_s_l1Byte_ok hw.fro N (⟨p0.b, x4.2.i, x4.2.h⟩ : Tl1Cur) ph0_0 h3 (ap.o pa0_0) ap.nd hl hx5)) rfl (fun v4 Φ_4 F4 q4 => ?_)
 obtain ⟨ap4, fr4, rfl, rfl, e4, h4⟩ := q4
 replace ph0_0 := ph0_0.frame RI.lasts fr4 (ap4.o pa0_0)
 refine lq (q_assign rfl) rfl <| WL.nil <| WT.seq <| WT.region <| lq (q_move rfl) rfl <| lq (q_mul rfl rfl) rfl <| lq (q_move rfl) rfl <| lq (q_mul rfl rfl) rfl <| lq (q_add rfl rfl) rfl <| lq (q_move rfl) rfl <| lq (q_add rfl rfl) rfl <| lq (q_move rfl) rfl ?_
 obtain ⟨x6, hx6, h⟩ := bind_some h
 refine lq (q_remV rfl rfl hx6) rfl <| lq (q_assign rfl) rfl <| WL.nil ?_
 refine WT.ret Try.func92 (resOk.one rfl) (fun w1 hw => ?_)
 cases h
 refine postG_of_St (js := [0]) hw rfl ⟨rfl, rfl, rfl, h4⟩
theorem m_s_l1Once_ok {Φ : Hp} {w : World} (hΦ : In Φ w) (N : Nat) (p0 : Tl1Cur) (p1 : Int) {pv0_0 : Value} {pG0_0 : List Nat} {pb0 : Nat} (ph0_0 : RSl (RI .u8) 1 Φ pG0_0 pv0_0 p0.b) (pp0 : Φ pb0 = some (.cells #[pv0_0, .int .i64 p0.i, .int .i64 p0.h] 195 (0, 0))) (pd0_0 : Dj pG0_0 [[pb0]].flatten) (hB : [[pb0]].flatten.Nodup) (hlt : ∀ k ∈ [[pb0]].flatten, k < w.heap.size) {r : Bool × Tl1Cur} (h : m_s_l1Once N p0 p1 = some r) :
  Calls Try.prog 85 [.pointer (some ⟨pb0, 0, none⟩), .int .i64 p1].toArray w (PostG Φ w [[pb0]].flatten (fun Φ' Fs v => v = .bool r.1 ∧ Fs = [[pb0]] ∧ r.2.b = p0.b ∧ Φ' pb0 = some (.cells #[pv0_0, .int .i64 r.2.i, .int .i64 r.2.h] 195 (0, 0)))) := by
 refine enter Try.func85 rfl Try.ntmps85 rfl (St.start hΦ [[pb0]] hB hlt) ?_
 have pa0_0 : Old ⟨w, [[pb0]].flatten, Φ⟩ pG0_0 := Old.mk hΦ ph0_0.kn pd0_0
 unfold m_s_l1Once at h
 refine WT.seq <| WT.region <| lq (q_assign rfl) rfl <| WL.nil <| WT.seq <| WT.region <| lq (q_move rfl) rfl <| lq (q_move rfl) rfl ?_
 obtain ⟨x1, hx1, h⟩ := bind_some h
 refine lc (k_call (js := [0]) (R := []) Fun_92 rfl rfl (fun w1 hw ap hl => m_s_l1Below_ok hw.fro N p0 p1 ph0_0 pp0 (ap.o pa0_0) ap.nd hl hx1)) rfl (fun v1 Φ_1 F1 q1 => ?_)
 obtain ⟨ap1, fr1, rfl, rfl, e1, h1⟩ := q1
 replace ph0_0 := ph0_0.frame RI.lasts fr1 (ap1.o pa0_0)
 refine lq (q_eql rfl rfl) rfl <| lq (q_assign rfl) rfl <| WL.nil ?_
 refine WT.ret Try.func85 (resOk.one rfl) (fun w1 hw => ?_)
 cases h
 refine postG_of_St (js := [0]) hw rfl ⟨rfl, rfl, rfl, h1⟩
theorem m_s_l6Has_ok {Φ : Hp} {w : World} (hΦ : In Φ w) (N : Nat) (p0 : (List ByteArray)) (p1 : ByteArray) {pv0 : Value} {pG0 : List Nat} (ph0 : RSl RS 1 Φ pG0 pv0 p0) {r : Bool} (h : m_s_l6Has N p0 p1 = some r) :
  Calls Try.prog 112 [pv0, .string p1].toArray w (Post (.bool r) w) := by
 refine enter Try.func112 rfl Try.ntmps112 rfl (St.start0 hΦ) ?_
 generalize hb0 : (⟨w, [], Φ⟩ : Base) = w0
 unfold m_s_l6Has at h
 refine WT.seq <| WT.region <| lq (q_assign rfl) rfl <| WL.nil <| WT.seq <| WT.seq <| WT.region <| lq (q_assign rfl) rfl <| WL.nil <| WT.block <| WT.loop <| WT.mono (l' := [(0, pv0), (1, .string p1), (5, .int .i64 0)]) (S' := St w0 Φ [] []) ⟨rfl, rfl, rfl, trivial⟩ (fun w1 hw => (hw.sel (js := []) rfl).selO (js := []) rfl) ?_
 refine loop_ind (σ := Int) (fun s => [(0, pv0), (1, .string p1), (5, .int .i64 s)]) (fun s => St w0 Φ [] []) (fun m s => m_s_l6Has_l1 N p0 p1 m s = some r) (fun s hm => none_ne (show (none : Option (Bool)) = some r from hm)) (fun n1 ih1 s hm => ?_) N (0) h
 revert hm; revert s; intro s1 hm
 have h : m_s_l6Has_l1 N p0 p1 (n1 + 1) s1 = some r := hm
 show WT _ _ [(0, pv0), (1, .string p1), (5, .int .i64 s1)] (St w0 Φ [] [])
 unfold m_s_l6Has_l1 at h
 refine WT.seq <| WT.seq <| WT.region <| lq (q_move rfl) rfl <| lq (q_move rfl) rfl <| lq (q_lenR Sl_68 rfl rfl ph0) rfl <| lq (q_lss rfl rfl) rfl <| WL.nil ?_
 refine WT.cond rfl (fun c1 => ?_) (fun c1 => ?_)
 ·replace h := ite_t h c1
  refine WT.skip <| WT.seq <| WT.block <| WT.seq <| WT.region <| lq (q_move rfl) rfl <| lq (q_move rfl) rfl ?_
  obtain ⟨x1, hx1, h⟩ := bind_some h
  obtain ⟨cs1, F1, -, g1, hb1, hs1, r1⟩ := ph0.el (idx_some hx1).2.2
  obtain ⟨rfl, -⟩ := r1
  refine lq (q_indexAddr Sl_68 rfl rfl ph0 hx1) rfl <| lq (q_load1 T1_9 rfl (fun w1 hw => (g1.of_eq 0 1 rfl rfl : rg _ _ _ [.string x1]).rangeAt hw.fro)) rfl <| lq (q_move rfl) rfl <| lq (q_seq rfl rfl) rfl <| WL.nil ?_
  refine WT.cond rfl (fun c2 => ?_) (fun c2 => ?_)
  ·replace h := ite_t h c2
   refine WT.seq <| WT.region <| lq (q_assign rfl) rfl <| WL.nil ?_
   refine WT.ret Try.func112 (resOk.one rfl) (fun w1 hw => ?_)
   subst hb0
   cases h
   exact post_of_St hw
  replace h := ite_f h c2
  refine WT.skip <| WT.inBlock <| WT.region <| lq (q_move rfl) rfl <| lq (q_add rfl rfl) rfl <| lq (q_assign rfl) rfl <| WL.nil ?_
  refine WT.inLoop (WT.mono (l' := [(0, pv0), (1, .string p1), (5, .int .i64 (IntKind.i64.wrap (s1 + 1)))]) (S' := St w0 Φ [] []) ⟨rfl, rfl, rfl, trivial⟩ (fun w1 hw => (hw.sel (js := []) rfl).selO (js := []) rfl) ?_)
  exact ih1 (IntKind.i64.wrap (s1 + 1)) h
 replace h := ite_f h c1
 refine WT.exit rfl <| WT.seq <| WT.region <| lq (q_assign rfl) rfl <| WL.nil ?_
 refine WT.ret Try.func112 (resOk.one rfl) (fun w1 hw => ?_)
 subst hb0
 cases h
 exact post_of_St hw
theorem m_s_VarsOf_ok {Φ : Hp} {w : World} (hΦ : In Φ w) (N : Nat) (p0 : TPat) {pv0_0 : Value} {pG0_0 : List Nat} (ph0_0 : RSl RTArg 5 Φ pG0_0 pv0_0 p0.Args) {r : (List ByteArray)} (h : m_s_VarsOf N p0 = some r) :
  Calls Try.prog 111 [.agg [.string p0.Kind, pv0_0, .bool p0.Not].toArray].toArray w (PostG Φ w [] (fun Φ' Fs v => ∃ (sr_0_0 : Value), v = sr_0_0 ∧ Fs = [ob sr_0_0] ∧ OSl RS 9 1 Φ' [] sr_0_0 r)) := by
 refine enter Try.func111 rfl Try.ntmps111 rfl (St.start0 hΦ) ?_
 have pa0_0 : Old ⟨w, [], Φ⟩ pG0_0 := Old.mk hΦ ph0_0.kn (Dj.empty _)
 revert pa0_0
 generalize hb0 : (⟨w, [], Φ⟩ : Base) = w0
 intro pa0_0
 unfold m_s_VarsOf at h
 refine WT.seq <| WT.region ?_
 refine ln (n_box (C := #[.string p0.Kind, pv0_0, .bool p0.Not]) rfl rfl) rfl (fun b_1 => ?_)
 refine lq (q_assign rfl) rfl <| WL.nil <| WT.seq <| WT.region ?_
 have rc1 : RC RS 1 Φ ([] : List (List Nat)) [] ([] : List ByteArray) := RC.nil _ _ _
 refine le' (e_lit (vs := []) (C := #[]) RS.lasts Sl_68 Zr_9 rfl rfl rfl rfl (fill_made MC_9_0 (fill_nil)) rfl rc1 rfl (by simpa using Kw.nil)) rfl (fun v1 Φ_1 D1 q1 => ?_)
 obtain ⟨fr1, h1⟩ := q1
 replace h1 : OSl RS 9 1 Φ_1 [] v1 ([] : List ByteArray) := by simpa using h1
 replace ph0_0 := ph0_0.frame RTArg.lasts fr1 (Dj.empty _)
 refine lq (q_assign rfl) rfl <| WL.nil <| WT.seq <| WT.seq <| WT.region <| lq (q_assign rfl) rfl <| WL.nil <| WT.block <| WT.loop <| WT.mono (l' := [(1, .pointer (some ⟨b_1, 0, none⟩)), (3, v1), (4, .int .i64 0)]) (S' := St w0 Φ_1 [(b_1, .cells #[.string p0.Kind, pv0_0, .bool p0.Not] 37 (0, 0))] [ob v1]) ⟨rfl, rfl, rfl, trivial⟩ (fun w1 hw => (hw.sel (js := [0]) rfl).selO (js := [0]) rfl) ?_
 refine loop_ind (σ := Hp × (List ByteArray) × Value × Int) (fun s => [(1, .pointer (some ⟨b_1, 0, none⟩)), (3, s.2.2.1), (4, .int .i64 s.2.2.2)]) (fun s => St w0 s.1 [(b_1, .cells #[.string p0.Kind, pv0_0, .bool p0.Not] 37 (0, 0))] [ob s.2.2.1]) (fun m s => m_s_VarsOf_l1 N p0 m s.2.1 s.2.2.2 = some r ∧ (OSl RS 9 1 s.1 [] s.2.2.1 s.2.1) ∧ (RSl RTArg 5 s.1 pG0_0 pv0_0 p0.Args)) (fun s hm => none_ne (show (none : Option ((List ByteArray))) = some r from hm.1)) (fun n1 ih1 s hm => ?_) N (Φ_1, ([] : List ByteArray), v1, 0) ⟨h, h1, ph0_0⟩
 obtain ⟨Φ_2, s1, u1, s2⟩ := s
 obtain ⟨h, k1, ph0_0⟩ := hm
 replace h : m_s_VarsOf_l1 N p0 (n1 + 1) s1 s2 = some r := h
 replace k1 : OSl RS 9 1 Φ_2 [] u1 s1 := k1
 replace ph0_0 : RSl RTArg 5 Φ_2 pG0_0 pv0_0 p0.Args := ph0_0
 show WT _ _ [(1, .pointer (some ⟨b_1, 0, none⟩)), (3, u1), (4, .int .i64 s2)] (St w0 Φ_2 [(b_1, .cells #[.string p0.Kind, pv0_0, .bool p0.Not] 37 (0, 0))] [ob u1])
 unfold m_s_VarsOf_l1 at h
 refine WT.seq <| WT.seq <| WT.region <| lq (q_move rfl) rfl <| lq (q_fieldAddr Fld_37_1 rfl) rfl <| lq (q_load1 T1_35 rfl (fun w1 hw => hw.rgO (i := 0) rfl 1 1 [pv0_0] rfl)) rfl <| lq (q_lenR Sl_35 rfl rfl ph0_0) rfl <| lq (q_lss rfl rfl) rfl <| WL.nil ?_
 refine WT.cond rfl (fun c1 => ?_) (fun c1 => ?_)
 ·replace h := ite_t h c1
  refine WT.skip <| WT.seq <| WT.block <| WT.seq <| WT.region <| lq (q_fieldAddr Fld_37_1 rfl) rfl <| lq (q_load1 T1_35 rfl (fun w1 hw => hw.rgO (i := 0) rfl 1 1 [pv0_0] rfl)) rfl <| lq (q_move rfl) rfl ?_
  obtain ⟨x1, hx1, h⟩ := bind_some h
  obtain ⟨cs1, F1, -, g1, hb1, hs1, r1⟩ := ph0_0.el (idx_some hx1).2.2
  obtain ⟨rfl, -⟩ := r1
  refine lq (q_indexAddr Sl_35 rfl rfl ph0_0 hx1) rfl <| lq (q_fieldAddr Fld_83_0 rfl) rfl <| lq (q_load1 T1_3 rfl (fun w1 hw => (g1.of_eq 0 1 rfl rfl : rg _ _ _ [.int .i64 x1.K]).rangeAt hw.fro)) rfl <| lq (q_eql rfl rfl) rfl <| lq (q_move rfl) rfl ?_
  obtain ⟨b1, hb_1, h⟩ := bind_some h
  refine WL.cutN 10 [(30, .bool b1), (1, .pointer (some ⟨b_1, 0, none⟩)), (3, u1), (4, .int .i64 s2)] ?_ (fun K => ?_)
  rotate_left
  ·refine WL.split (d := 20) rfl (fun c2 => ?_) (fun c2 => ?_)
   ·replace hb_1 := ite_t hb_1 c2
    refine WL.yes rfl rfl <| lq (q_move rfl) rfl <| WL.yes rfl rfl <| lq (q_fieldAddr Fld_37_1 rfl) rfl <| WL.yes rfl rfl <| lq (q_load1 T1_35 rfl (fun w1 hw => hw.rgO (i := 0) rfl 1 1 [pv0_0] rfl)) rfl <| WL.yes rfl rfl <| lq (q_move rfl) rfl <| WL.yes rfl rfl ?_
    obtain ⟨x2, hx2, hb_1⟩ := bind_some hb_1
    obtain ⟨cs2, F2, -, g2, hb2, hs2, r2⟩ := ph0_0.el (idx_some hx2).2.2
    obtain ⟨rfl, -⟩ := r2
    refine lq (q_indexAddr Sl_35 rfl rfl ph0_0 hx2) rfl <| WL.yes rfl rfl <| lq (q_fieldAddr Fld_83_1 rfl) rfl <| WL.yes rfl rfl <| lq (q_load1 T1_9 rfl (fun w1 hw => (g2.of_eq 1 1 rfl rfl : rg _ _ _ [.string x2.S]).rangeAt hw.fro)) rfl <| WL.yes rfl rfl ?_
    obtain ⟨x3, hx3, hb_1⟩ := bind_some hb_1
    refine lp (p_call Fun_112 rfl (fun w1 hw => m_s_l6Has_ok hw.fro N s1 x2.S k1.rsl hx3)) rfl <| WL.yes rfl rfl <| lq (q_not rfl) rfl <| WL.q (q_pick1 rfl rfl) rfl rfl rfl ?_
    cases hb_1
    exact WL.keep (by exact ⟨rfl, rfl, rfl, rfl, trivial⟩) K
   ·replace hb_1 := ite_f hb_1 c2
    refine WL.no rfl rfl rfl rfl <| WL.no rfl rfl rfl rfl <| WL.no rfl rfl rfl rfl <| WL.no rfl rfl rfl rfl <| WL.no rfl rfl rfl rfl <| WL.no rfl rfl rfl rfl <| WL.no rfl rfl rfl rfl <| WL.no rfl rfl rfl rfl <| WL.no rfl rfl rfl rfl <| WL.q (q_pick0 rfl rfl) rfl rfl rfl ?_
    cases hb_1
    exact WL.keep (by exact ⟨rfl, rfl, rfl, rfl, trivial⟩) K
  refine WL.nil ?_
  refine WT.cond rfl (fun c3 => ?_) (fun c3 => ?_)
  ·replace h := ite_t h c3
   refine WT.region <| lq (q_move rfl) rfl <| lq (q_fieldAddr Fld_37_1 rfl) rfl <| lq (q_load1 T1_35 rfl (fun w1 hw => hw.rgO (i := 0) rfl 1 1 [pv0_0] rfl)) rfl <| lq (q_move rfl) rfl ?_
   obtain ⟨x4, hx4, h⟩ := bind_some h
   obtain ⟨cs3, F3, -, g3, hb3, hs3, r3⟩ := ph0_0.el (idx_some hx4).2.2
   obtain ⟨rfl, -⟩ := r3
   refine lq (q_indexAddr Sl_35 rfl rfl ph0_0 hx4) rfl <| lq (q_fieldAddr Fld_83_1 rfl) rfl <| lq (q_load1 T1_9 rfl (fun w1 hw => (g3.of_eq 1 1 rfl rfl : rg _ _ _ [.string x4.S]).rangeAt hw.fro)) rfl ?_
   have rc2 : RC RS 1 Φ_2 ([[]] : List (List Nat)) [.string x4.S] ([x4.S] : List ByteArray) := RC.cons (c := [.string x4.S]) (cells := []) ⟨rfl, rfl⟩ rfl (RC.nil _ _ _)
   refine le' (e_lit (vs := [(0, .string x4.S)]) (C := #[.string x4.S]) RS.lasts Sl_68 Zr_9 rfl rfl rfl rfl (fill_made MC_9_1 (fill_cons (cells := [.string ⟨#[]⟩]) (c := [.string x4.S]) (C' := [.string x4.S]) rfl rfl rfl rfl rfl (fill_nil))) rfl rc2 rfl (by simpa using Kw.nil)) rfl (fun v2 Φ_3 D2 q2 => ?_)
   obtain ⟨fr2, h2⟩ := q2
   replace h2 : OSl RS 9 1 Φ_3 [] v2 ([x4.S] : List ByteArray) := by simpa using h2
   replace ph0_0 := ph0_0.frame RTArg.lasts fr2 (Dj.empty _)
   replace k1 := k1.frame RS.lasts fr2 (Dj.empty _) (Dj.empty _)
   obtain ⟨x5, hx5, h⟩ := bind_some h
   refine le' (e_appF RS.lasts RS.one RS.flat Sl_68 Ei_9 rfl rfl rfl rfl rfl (js := [1]) (Rr := [ob v2]) rfl k1 h2.rsl hx5) rfl (fun v3 Φ_4 D3 q3 => ?_)
   obtain ⟨⟨ap1, fr3⟩, h3⟩ := q3
   replace ph0_0 := ph0_0.frame RTArg.lasts fr3 (ap1.o pa0_0)
   refine lq (q_assign rfl) rfl <| WL.nil <| WT.inBlock <| WT.region <| lq (q_move rfl) rfl <| lq (q_add rfl rfl) rfl <| lq (q_assign rfl) rfl <| WL.nil ?_
   refine WT.inLoop (WT.mono (l' := [(1, .pointer (some ⟨b_1, 0, none⟩)), (3, v3), (4, .int .i64 (IntKind.i64.wrap (s2 + 1)))]) (S' := St w0 Φ_4 [(b_1, .cells #[.string p0.Kind, pv0_0, .bool p0.Not] 37 (0, 0))] [ob v3]) ⟨rfl, rfl, rfl, trivial⟩ (fun w1 hw => (hw.sel (js := [0]) rfl).selO (js := [0]) rfl) ?_)
   exact ih1 (Φ_4, x5, v3, IntKind.i64.wrap (s2 + 1)) ⟨h, h3, ph0_0⟩
  replace h := ite_f h c3
  refine WT.skip <| WT.inBlock <| WT.region <| lq (q_move rfl) rfl <| lq (q_add rfl rfl) rfl <| lq (q_assign rfl) rfl <| WL.nil ?_
  refine WT.inLoop (WT.mono (l' := [(1, .pointer (some ⟨b_1, 0, none⟩)), (3, u1), (4, .int .i64 (IntKind.i64.wrap (s2 + 1)))]) (S' := St w0 Φ_2 [(b_1, .cells #[.string p0.Kind, pv0_0, .bool p0.Not] 37 (0, 0))] [ob u1]) ⟨rfl, rfl, rfl, trivial⟩ (fun w1 hw => (hw.sel (js := [0]) rfl).selO (js := [0]) rfl) ?_)
  exact ih1 (Φ_2, s1, u1, IntKind.i64.wrap (s2 + 1)) ⟨h, k1, ph0_0⟩
 replace h := ite_f h c1
 refine WT.exit rfl <| WT.seq <| WT.region <| lq (q_move rfl) rfl <| lq (q_assign rfl) rfl <| WL.nil ?_
 refine WT.ret Try.func111 (resOk.one rfl) (fun w1 hw => ?_)
 subst hb0
 cases h
 refine postG_of_St (js := [0]) hw rfl ⟨u1, rfl, rfl, k1⟩
theorem m_s_PosVars_ok {Φ : Hp} {w : World} (hΦ : In Φ w) (N : Nat) (p0 : TRule) {pv0_0 : Value} {pG0_0 : List Nat} {pv0_1 : Value} {pG0_1 : List Nat} {pv0_2 : Value} {pG0_2 : List Nat} (ph0_0 : RSl RTPat 3 Φ pG0_0 pv0_0 p0.Pats) (ph0_1 : RSl RTCond 11 Φ pG0_1 pv0_1 p0.Conds) (ph0_2 : RSl RTAct 5 Φ pG0_2 pv0_2 p0.Acts) {r : (List ByteArray)} (h : m_s_PosVars N p0 = some r) :
  Calls Try.prog 40 [.agg [.string p0.Name, .int .i64 p0.Sal, pv0_0, pv0_1, pv0_2].toArray].toArray w (PostG Φ w [] (fun Φ' Fs v => ∃ (sr_0_0 : Value), v = sr_0_0 ∧ Fs = [ob sr_0_0] ∧ OSl RS 9 1 Φ' [] sr_0_0 r)) := by
 refine enter Try.func40 rfl Try.ntmps40 rfl (St.start0 hΦ) ?_
 have pa0_0 : Old ⟨w, [], Φ⟩ pG0_0 := Old.mk hΦ ph0_0.kn (Dj.empty _)
 have pa0_1 : Old ⟨w, [], Φ⟩ pG0_1 := Old.mk hΦ ph0_1.kn (Dj.empty _)
 have pa0_2 : Old ⟨w, [], Φ⟩ pG0_2 := Old.mk hΦ ph0_2.kn (Dj.empty _)
 revert pa0_0 pa0_1 pa0_2
 generalize hb0 : (⟨w, [], Φ⟩ : Base) = w0
 intro pa0_0 pa0_1 pa0_2
 unfold m_s_PosVars at h
 refine WT.seq <| WT.region ?_
 refine ln (n_box (C := #[.string p0.Name, .int .i64 p0.Sal, pv0_0, pv0_1, pv0_2]) rfl rfl) rfl (fun b_1 => ?_)
 refine lq (q_assign rfl) rfl <| WL.nil <| WT.seq <| WT.region ?_
 have rc1 : RC RS 1 Φ ([] : List (List Nat)) [] ([] : List ByteArray) := RC.nil _ _ _
 refine le' (e_lit (vs := []) (C := #[]) RS.lasts Sl_68 Zr_9 rfl rfl rfl rfl (fill_made MC_9_0 (fill_nil)) rfl rc1 rfl (by simpa using Kw.nil)) rfl (fun v1 Φ_1 D1 q1 => ?_)
 obtain ⟨fr1, h1⟩ := q1
 replace h1 : OSl RS 9 1 Φ_1 [] v1 ([] : List ByteArray) := by simpa using h1
 replace ph0_0 := ph0_0.frame RTPat.lasts fr1 (Dj.empty _)
 replace ph0_1 := ph0_1.frame RTCond.lasts fr1 (Dj.empty _)
 replace ph0_2 := ph0_2.frame RTAct.lasts fr1 (Dj.empty _)
 refine lq (q_assign rfl) rfl <| WL.nil <| WT.seq <| WT.seq <| WT.region <| lq (q_assign rfl) rfl <| WL.nil <| WT.block <| WT.loop <| WT.mono (l' := [(1, .pointer (some ⟨b_1, 0, none⟩)), (3, v1), (4, .int .i64 0)]) (S' := St w0 Φ_1 [(b_1, .cells #[.string p0.Name, .int .i64 p0.Sal, pv0_0, pv0_1, pv0_2] 66 (0, 0))] [ob v1]) ⟨rfl, rfl, rfl, trivial⟩ (fun w1 hw => (hw.sel (js := [0]) rfl).selO (js := [0]) rfl) ?_
 refine loop_ind (σ := Hp × (List ByteArray) × Value × Int) (fun s => [(1, .pointer (some ⟨b_1, 0, none⟩)), (3, s.2.2.1), (4, .int .i64 s.2.2.2)]) (fun s => St w0 s.1 [(b_1, .cells #[.string p0.Name, .int .i64 p0.Sal, pv0_0, pv0_1, pv0_2] 66 (0, 0))] [ob s.2.2.1]) (fun m s => m_s_PosVars_l1 N p0 m s.2.1 s.2.2.2 = some r ∧ (OSl RS 9 1 s.1 [] s.2.2.1 s.2.1) ∧ (RSl RTPat 3 s.1 pG0_0 pv0_0 p0.Pats) ∧ (RSl RTCond 11 s.1 pG0_1 pv0_1 p0.Conds) ∧ (RSl RTAct 5 s.1 pG0_2 pv0_2 p0.Acts)) (fun s hm => none_ne (show (none : Option ((List ByteArray))) = some r from hm.1)) (fun n1 ih1 s hm => ?_) N (Φ_1, ([] : List ByteArray), v1, 0) ⟨h, h1, ph0_0, ph0_1, ph0_2⟩
 obtain ⟨Φ_2, s1, u1, s2⟩ := s
 obtain ⟨h, k1, ph0_0, ph0_1, ph0_2⟩ := hm
 replace h : m_s_PosVars_l1 N p0 (n1 + 1) s1 s2 = some r := h
 replace k1 : OSl RS 9 1 Φ_2 [] u1 s1 := k1
 replace ph0_0 : RSl RTPat 3 Φ_2 pG0_0 pv0_0 p0.Pats := ph0_0
 replace ph0_1 : RSl RTCond 11 Φ_2 pG0_1 pv0_1 p0.Conds := ph0_1
 replace ph0_2 : RSl RTAct 5 Φ_2 pG0_2 pv0_2 p0.Acts := ph0_2
 show WT _ _ [(1, .pointer (some ⟨b_1, 0, none⟩)), (3, u1), (4, .int .i64 s2)] (St w0 Φ_2 [(b_1, .cells #[.string p0.Name, .int .i64 p0.Sal, pv0_0, pv0_1, pv0_2] 66 (0, 0))] [ob u1])
 unfold m_s_PosVars_l1 at h
 refine WT.seq <| WT.seq <| WT.region <| lq (q_move rfl) rfl <| lq (q_fieldAddr Fld_66_2 rfl) rfl <| lq (q_load1 T1_62 rfl (fun w1 hw => hw.rgO (i := 0) rfl 2 1 [pv0_0] rfl)) rfl <| lq (q_lenR Sl_62 rfl rfl ph0_0) rfl <| lq (q_lss rfl rfl) rfl <| WL.nil ?_
 refine WT.cond rfl (fun c1 => ?_) (fun c1 => ?_)
 ·replace h := ite_t h c1
  refine WT.skip <| WT.seq <| WT.block <| WT.seq <| WT.region <| lq (q_fieldAddr Fld_66_2 rfl) rfl <| lq (q_load1 T1_62 rfl (fun w1 hw => hw.rgO (i := 0) rfl 2 1 [pv0_0] rfl)) rfl <| lq (q_move rfl) rfl ?_
  obtain ⟨x1, hx1, h⟩ := bind_some h
  obtain ⟨cs1, F1, -, g1, hb1, hs1, r1⟩ := ph0_0.el (idx_some hx1).2.2
  obtain ⟨v2, G1, rfl, hq1, h2⟩ := r1
  obtain rfl := hq1.symm
  refine lq (q_indexAddr Sl_62 rfl rfl ph0_0 hx1) rfl <| lq (q_loadN Tn_37 rfl (fun w1 hw => (g1.of_eq 0 3 rfl rfl : rg _ _ _ [.string x1.Kind, v2, .bool x1.Not]).rangeAt hw.fro) rfl) rfl ?_
  obtain ⟨x2, hx2, h⟩ := bind_some h
  refine lc (k_call (js := []) (R := [ob u1]) Fun_111 rfl rfl (fun w1 hw ap hl => m_s_VarsOf_ok hw.fro N x1 h2  hx2)) rfl (fun v3 Φ_3 F2 q2 => ?_)
  obtain ⟨ap1, fr2, v4, rfl, rfl, h3⟩ := q2
  replace ph0_0 := ph0_0.frame RTPat.lasts fr2 (ap1.o pa0_0)
  replace ph0_1 := ph0_1.frame RTCond.lasts fr2 (ap1.o pa0_1)
  replace ph0_2 := ph0_2.frame RTAct.lasts fr2 (ap1.o pa0_2)
  replace k1 := k1.frame RS.lasts fr2 (ap1.r (i := 0) rfl) (Dj.nil _)
  refine lq (q_assign rfl) rfl <| WL.nil <| WT.seq <| WT.region <| lq (q_assign rfl) rfl <| WL.nil <| WT.block <| WT.loop <| WT.mono (l' := [(1, .pointer (some ⟨b_1, 0, none⟩)), (3, u1), (4, .int .i64 s2), (5, v3), (6, .int .i64 0)]) (S' := St w0 Φ_3 [(b_1, .cells #[.string p0.Name, .int .i64 p0.Sal, pv0_0, pv0_1, pv0_2] 66 (0, 0))] [ob v3, ob u1]) ⟨rfl, rfl, rfl, rfl, rfl, trivial⟩ (fun w1 hw => (hw.sel (js := [0, 0]) rfl).selO (js := [0]) rfl) ?_
  refine loop_ind (σ := Hp × (List ByteArray) × Value × Int) (fun s => [(1, .pointer (some ⟨b_1, 0, none⟩)), (3, s.2.2.1), (4, .int .i64 s2), (5, v3), (6, .int .i64 s.2.2.2)]) (fun s => St w0 s.1 [(b_1, .cells #[.string p0.Name, .int .i64 p0.Sal, pv0_0, pv0_1, pv0_2] 66 (0, 0))] [ob v3, ob s.2.2.1]) (fun m s => m_s_PosVars_l2 N p0 s2 (m_s_PosVars_l1 N p0 n1) x2 m s.2.1 s.2.2.2 = some r ∧ (OSl RS 9 1 s.1 [] s.2.2.1 s.2.1) ∧ (OSl RS 9 1 s.1 [] v3 x2) ∧ (RSl RTPat 3 s.1 pG0_0 pv0_0 p0.Pats) ∧ (RSl RTCond 11 s.1 pG0_1 pv0_1 p0.Conds) ∧ (RSl RTAct 5 s.1 pG0_2 pv0_2 p0.Acts)) (fun s hm => none_ne (show (none : Option ((List ByteArray))) = some r from hm.1)) (fun n2 ih2 s hm => ?_) N (Φ_3, s1, u1, 0) ⟨h, k1, h3, ph0_0, ph0_1, ph0_2⟩
  obtain ⟨Φ_4, s3, u2, s4⟩ := s
  obtain ⟨h, k2, h3, ph0_0, ph0_1, ph0_2⟩ := hm
  replace h : m_s_PosVars_l2 N p0 s2 (m_s_PosVars_l1 N p0 n1) x2 (n2 + 1) s3 s4 = some r := h
  replace k2 : OSl RS 9 1 Φ_4 [] u2 s3 := k2
  replace h3 : OSl RS 9 1 Φ_4 [] v3 x2 := h3
  replace ph0_0 : RSl RTPat 3 Φ_4 pG0_0 pv0_0 p0.Pats := ph0_0
  replace ph0_1 : RSl RTCond 11 Φ_4 pG0_1 pv0_1 p0.Conds := ph0_1
  replace ph0_2 : RSl RTAct 5 Φ_4 pG0_2 pv0_2 p0.Acts := ph0_2
  show WT _ _ [(1, .pointer (some ⟨b_1, 0, none⟩)), (3, u2), (4, .int .i64 s2), (5, v3), (6, .int .i64 s4)] (St w0 Φ_4 [(b_1, .cells #[.string p0.Name, .int .i64 p0.Sal, pv0_0, pv0_1, pv0_2] 66 (0, 0))] [ob v3, ob u2])
  unfold m_s_PosVars_l2 at h
  refine WT.seq <| WT.seq <| WT.region <| lq (q_move rfl) rfl <| lq (q_move rfl) rfl <| lq (q_lenR Sl_68 rfl rfl h3.rsl) rfl <| lq (q_lss rfl rfl) rfl <| lq (q_move rfl) rfl ?_
  obtain ⟨b1, hb_1, h⟩ := bind_some h
  refine WL.cutN 8 [(33, .bool b1), (1, .pointer (some ⟨b_1, 0, none⟩)), (3, u2), (4, .int .i64 s2), (5, v3), (6, .int .i64 s4)] ?_ (fun K => ?_)
  rotate_left
  ·refine WL.split (d := 25) rfl (fun c2 => ?_) (fun c2 => ?_)
   ·replace hb_1 := ite_t hb_1 c2
    refine WL.yes rfl rfl <| lq (q_fieldAddr Fld_66_2 rfl) rfl <| WL.yes rfl rfl <| lq (q_load1 T1_62 rfl (fun w1 hw => hw.rgO (i := 0) rfl 2 1 [pv0_0] rfl)) rfl <| WL.yes rfl rfl <| lq (q_move rfl) rfl <| WL.yes rfl rfl ?_
    obtain ⟨x3, hx3, hb_1⟩ := bind_some hb_1
    obtain ⟨cs2, F3, -, g2, hb2, hs2, r2⟩ := ph0_0.el (idx_some hx3).2.2
    obtain ⟨v5, G2, rfl, hq2, h4⟩ := r2
    obtain rfl := hq2.symm
    refine lq (q_indexAddr Sl_62 rfl rfl ph0_0 hx3) rfl <| WL.yes rfl rfl <| lq (q_fieldAddr Fld_37_2 rfl) rfl <| WL.yes rfl rfl <| lq (q_load1 T1_4 rfl (fun w1 hw => (g2.of_eq 2 1 rfl rfl : rg _ _ _ [.bool x3.Not]).rangeAt hw.fro)) rfl <| WL.yes rfl rfl <| lq (q_not rfl) rfl <| WL.q (q_pick1 rfl rfl) rfl rfl rfl ?_
    cases hb_1
    exact WL.keep (by exact ⟨rfl, rfl, rfl, rfl, rfl, rfl, trivial⟩) K
   ·replace hb_1 := ite_f hb_1 c2
    refine WL.no rfl rfl rfl rfl <| WL.no rfl rfl rfl rfl <| WL.no rfl rfl rfl rfl <| WL.no rfl rfl rfl rfl <| WL.no rfl rfl rfl rfl <| WL.no rfl rfl rfl rfl <| WL.no rfl rfl rfl rfl <| WL.q (q_pick0 rfl rfl) rfl rfl rfl ?_
    cases hb_1
    exact WL.keep (by exact ⟨rfl, rfl, rfl, rfl, rfl, rfl, trivial⟩) K
  refine WL.nil ?_
  refine WT.cond rfl (fun c3 => ?_) (fun c3 => ?_)
  ·replace h := ite_t h c3
   refine WT.skip <| WT.seq <| WT.block <| WT.seq <| WT.region <| lq (q_move rfl) rfl <| lq (q_move rfl) rfl <| lq (q_move rfl) rfl ?_
   obtain ⟨x4, hx4, h⟩ := bind_some h
   obtain ⟨cs3, F4, -, g3, hb3, hs3, r3⟩ := h3.elS (idx_some hx4).2.2
   obtain ⟨rfl, -⟩ := r3
   refine lq (q_indexAddr Sl_68 rfl rfl h3.rsl hx4) rfl <| lq (q_load1 T1_9 rfl (fun w1 hw => (g3.of_eq 0 1 rfl rfl : rg _ _ _ [.string x4]).rangeAt hw.fro)) rfl ?_
   obtain ⟨x5, hx5, h⟩ := bind_some h
   refine lp (p_call Fun_112 rfl (fun w1 hw => m_s_l6Has_ok hw.fro N s3 x4 k2.rsl hx5)) rfl <| lq (q_not rfl) rfl <| WL.nil ?_
   refine WT.cond rfl (fun c4 => ?_) (fun c4 => ?_)
   ·replace h := ite_t h c4
    refine WT.region <| lq (q_move rfl) rfl <| lq (q_move rfl) rfl <| lq (q_move rfl) rfl ?_
    obtain ⟨x6, hx6, h⟩ := bind_some h
    obtain ⟨cs4, F5, -, g4, hb4, hs4, r4⟩ := h3.elS (idx_some hx6).2.2
    obtain ⟨rfl, -⟩ := r4
    refine lq (q_indexAddr Sl_68 rfl rfl h3.rsl hx6) rfl <| lq (q_load1 T1_9 rfl (fun w1 hw => (g4.of_eq 0 1 rfl rfl : rg _ _ _ [.string x6]).rangeAt hw.fro)) rfl ?_
    have rc2 : RC RS 1 Φ_4 ([[]] : List (List Nat)) [.string x6] ([x6] : List ByteArray) := RC.cons (c := [.string x6]) (cells := []) ⟨rfl, rfl⟩ rfl (RC.nil _ _ _)
    refine le' (e_lit (vs := [(0, .string x6)]) (C := #[.string x6]) RS.lasts Sl_68 Zr_9 rfl rfl rfl rfl (fill_made MC_9_1 (fill_cons (cells := [.string ⟨#[]⟩]) (c := [.string x6]) (C' := [.string x6]) rfl rfl rfl rfl rfl (fill_nil))) rfl rc2 rfl (by simpa using Kw.nil)) rfl (fun v6 Φ_5 D2 q3 => ?_)
    obtain ⟨fr3, h5⟩ := q3
    replace h5 : OSl RS 9 1 Φ_5 [] v6 ([x6] : List ByteArray) := by simpa using h5
    replace ph0_0 := ph0_0.frame RTPat.lasts fr3 (Dj.empty _)
    replace ph0_1 := ph0_1.frame RTCond.lasts fr3 (Dj.empty _)
    replace ph0_2 := ph0_2.frame RTAct.lasts fr3 (Dj.empty _)
    replace k2 := k2.frame RS.lasts fr3 (Dj.empty _) (Dj.empty _)
    replace h3 := h3.frame RS.lasts fr3 (Dj.empty _) (Dj.empty _)
    obtain ⟨x7, hx7, h⟩ := bind_some h
    refine le' (e_appF RS.lasts RS.one RS.flat Sl_68 Ei_9 rfl rfl rfl rfl rfl (js := [2]) (Rr := [ob v6, ob v3]) rfl k2 h5.rsl hx7) rfl (fun v7 Φ_6 D3 q4 => ?_)
    obtain ⟨⟨ap2, fr4⟩, h6⟩ := q4
    replace ph0_0 := ph0_0.frame RTPat.lasts fr4 (ap2.o pa0_0)
    replace ph0_1 := ph0_1.frame RTCond.lasts fr4 (ap2.o pa0_1)
    replace ph0_2 := ph0_2.frame RTAct.lasts fr4 (ap2.o pa0_2)
    replace h3 := h3.frame RS.lasts fr4 (ap2.r (i := 1) rfl) (Dj.nil _)
    refine lq (q_assign rfl) rfl <| WL.nil <| WT.inBlock <| WT.region <| lq (q_move rfl) rfl <| lq (q_add rfl rfl) rfl <| lq (q_assign rfl) rfl <| WL.nil ?_
    refine WT.inLoop (WT.mono (l' := [(1, .pointer (some ⟨b_1, 0, none⟩)), (3, v7), (4, .int .i64 s2), (5, v3), (6, .int .i64 (IntKind.i64.wrap (s4 + 1)))]) (S' := St w0 Φ_6 [(b_1, .cells #[.string p0.Name, .int .i64 p0.Sal, pv0_0, pv0_1, pv0_2] 66 (0, 0))] [ob v3, ob v7]) ⟨rfl, rfl, rfl, rfl, rfl, trivial⟩ (fun w1 hw => (hw.sel (js := [2, 0]) rfl).selO (js := [0]) rfl) ?_)
    exact ih2 (Φ_6, x7, v7, IntKind.i64.wrap (s4 + 1)) ⟨h, h6, h3, ph0_0, ph0_1, ph0_2⟩
   replace h := ite_f h c4
   refine WT.skip <| WT.inBlock <| WT.region <| lq (q_move rfl) rfl <| lq (q_add rfl rfl) rfl <| lq (q_assign rfl) rfl <| WL.nil ?_
   refine WT.inLoop (WT.mono (l' := [(1, .pointer (some ⟨b_1, 0, none⟩)), (3, u2), (4, .int .i64 s2), (5, v3), (6, .int .i64 (IntKind.i64.wrap (s4 + 1)))]) (S' := St w0 Φ_4 [(b_1, .cells #[.string p0.Name, .int .i64 p0.Sal, pv0_0, pv0_1, pv0_2] 66 (0, 0))] [ob v3, ob u2]) ⟨rfl, rfl, rfl, rfl, rfl, trivial⟩ (fun w1 hw => (hw.sel (js := [0, 0]) rfl).selO (js := [0]) rfl) ?_)
   exact ih2 (Φ_4, s3, u2, IntKind.i64.wrap (s4 + 1)) ⟨h, k2, h3, ph0_0, ph0_1, ph0_2⟩
  replace h := ite_f h c3
  refine WT.exit rfl <| WT.inBlock <| WT.region <| lq (q_move rfl) rfl <| lq (q_add rfl rfl) rfl <| lq (q_assign rfl) rfl <| WL.nil ?_
  refine WT.inLoop (WT.mono (l' := [(1, .pointer (some ⟨b_1, 0, none⟩)), (3, u2), (4, .int .i64 (IntKind.i64.wrap (s2 + 1)))]) (S' := St w0 Φ_4 [(b_1, .cells #[.string p0.Name, .int .i64 p0.Sal, pv0_0, pv0_1, pv0_2] 66 (0, 0))] [ob u2]) ⟨rfl, rfl, rfl, trivial⟩ (fun w1 hw => (hw.sel (js := [1]) rfl).selO (js := [0]) rfl) ?_)
  exact ih1 (Φ_4, s3, u2, IntKind.i64.wrap (s2 + 1)) ⟨h, k2, ph0_0, ph0_1, ph0_2⟩
 replace h := ite_f h c1
 refine WT.exit rfl <| WT.seq <| WT.region <| lq (q_move rfl) rfl <| lq (q_assign rfl) rfl <| WL.nil ?_
 refine WT.ret Try.func40 (resOk.one rfl) (fun w1 hw => ?_)
 subst hb0
 cases h
 refine postG_of_St (js := [0]) hw rfl ⟨u1, rfl, rfl, k1⟩
theorem m_s_PosCount_ok {Φ : Hp} {w : World} (hΦ : In Φ w) (N : Nat) (p0 : TRule) {pv0_0 : Value} {pG0_0 : List Nat} {pv0_1 : Value} {pG0_1 : List Nat} {pv0_2 : Value} {pG0_2 : List Nat} (ph0_0 : RSl RTPat 3 Φ pG0_0 pv0_0 p0.Pats) (ph0_1 : RSl RTCond 11 Φ pG0_1 pv0_1 p0.Conds) (ph0_2 : RSl RTAct 5 Φ pG0_2 pv0_2 p0.Acts) {r : Int} (h : m_s_PosCount N p0 = some r) :
  Calls Try.prog 59 [.agg [.string p0.Name, .int .i64 p0.Sal, pv0_0, pv0_1, pv0_2].toArray].toArray w (Post (.int .i64 r) w) := by
 refine enter Try.func59 rfl Try.ntmps59 rfl (St.start0 hΦ) ?_
 generalize hb0 : (⟨w, [], Φ⟩ : Base) = w0
 unfold m_s_PosCount at h
 refine WT.seq <| WT.region ?_
 refine ln (n_box (C := #[.string p0.Name, .int .i64 p0.Sal, pv0_0, pv0_1, pv0_2]) rfl rfl) rfl (fun b_1 => ?_)
 refine lq (q_assign rfl) rfl <| WL.nil <| WT.seq <| WT.region <| lq (q_assign rfl) rfl <| WL.nil <| WT.seq <| WT.seq <| WT.region <| lq (q_assign rfl) rfl <| WL.nil <| WT.block <| WT.loop <| WT.mono (l' := [(1, .pointer (some ⟨b_1, 0, none⟩)), (3, .int .i64 0), (4, .int .i64 0)]) (S' := St w0 Φ [(b_1, .cells #[.string p0.Name, .int .i64 p0.Sal, pv0_0, pv0_1, pv0_2] 66 (0, 0))] []) ⟨rfl, rfl, rfl, trivial⟩ (fun w1 hw => (hw.sel (js := []) rfl).selO (js := [0]) rfl) ?_
 refine loop_ind (σ := Int × Int) (fun s => [(1, .pointer (some ⟨b_1, 0, none⟩)), (3, .int .i64 s.1), (4, .int .i64 s.2)]) (fun s => St w0 Φ [(b_1, .cells #[.string p0.Name, .int .i64 p0.Sal, pv0_0, pv0_1, pv0_2] 66 (0, 0))] []) (fun m s => m_s_PosCount_l1 N p0 m s.1 s.2 = some r) (fun s hm => none_ne (show (none : Option (Int)) = some r from hm)) (fun n1 ih1 s hm => ?_) N (0, 0) h
 obtain ⟨s1, s2⟩ := s
 have h : m_s_PosCount_l1 N p0 (n1 + 1) s1 s2 = some r := hm
 show WT _ _ [(1, .pointer (some ⟨b_1, 0, none⟩)), (3, .int .i64 s1), (4, .int .i64 s2)] (St w0 Φ [(b_1, .cells #[.string p0.Name, .int .i64 p0.Sal, pv0_0, pv0_1, pv0_2] 66 (0, 0))] [])
 unfold m_s_PosCount_l1 at h
 refine WT.seq <| WT.seq <| WT.region <| lq (q_move rfl) rfl <| lq (q_fieldAddr Fld_66_2 rfl) rfl <| lq (q_load1 T1_62 rfl (fun w1 hw => hw.rgO (i := 0) rfl 2 1 [pv0_0] rfl)) rfl <| lq (q_lenR Sl_62 rfl rfl ph0_0) rfl <| lq (q_lss rfl rfl) rfl <| WL.nil ?_
 refine WT.cond rfl (fun c1 => ?_) (fun c1 => ?_)
 ·replace h := ite_t h c1
  refine WT.skip <| WT.seq <| WT.block <| WT.seq <| WT.region <| lq (q_fieldAddr Fld_66_2 rfl) rfl <| lq (q_load1 T1_62 rfl (fun w1 hw => hw.rgO (i := 0) rfl 2 1 [pv0_0] rfl)) rfl <| lq (q_move rfl) rfl ?_
  obtain ⟨x1, hx1, h⟩ := bind_some h
  obtain ⟨cs1, F1, -, g1, hb1, hs1, r1⟩ := ph0_0.el (idx_some hx1).2.2
  obtain ⟨v1, G1, rfl, hq1, h1⟩ := r1
  obtain rfl := hq1.symm
  refine lq (q_indexAddr Sl_62 rfl rfl ph0_0 hx1) rfl <| lq (q_fieldAddr Fld_37_2 rfl) rfl <| lq (q_load1 T1_4 rfl (fun w1 hw => (g1.of_eq 2 1 rfl rfl : rg _ _ _ [.bool x1.Not]).rangeAt hw.fro)) rfl <| lq (q_not rfl) rfl <| WL.nil ?_
  refine WT.cond rfl (fun c2 => ?_) (fun c2 => ?_)
  ·replace h := ite_t h c2
   refine WT.region <| lq (q_move rfl) rfl <| lq (q_add rfl rfl) rfl <| lq (q_assign rfl) rfl <| WL.nil <| WT.inBlock <| WT.region <| lq (q_move rfl) rfl <| lq (q_add rfl rfl) rfl <| lq (q_assign rfl) rfl <| WL.nil ?_
   refine WT.inLoop (WT.mono (l' := [(1, .pointer (some ⟨b_1, 0, none⟩)), (3, .int .i64 (IntKind.i64.wrap (s1 + 1))), (4, .int .i64 (IntKind.i64.wrap (s2 + 1)))]) (S' := St w0 Φ [(b_1, .cells #[.string p0.Name, .int .i64 p0.Sal, pv0_0, pv0_1, pv0_2] 66 (0, 0))] []) ⟨rfl, rfl, rfl, trivial⟩ (fun w1 hw => (hw.sel (js := []) rfl).selO (js := [0]) rfl) ?_)
   exact ih1 (IntKind.i64.wrap (s1 + 1), IntKind.i64.wrap (s2 + 1)) h
  replace h := ite_f h c2
  refine WT.skip <| WT.inBlock <| WT.region <| lq (q_move rfl) rfl <| lq (q_add rfl rfl) rfl <| lq (q_assign rfl) rfl <| WL.nil ?_
  refine WT.inLoop (WT.mono (l' := [(1, .pointer (some ⟨b_1, 0, none⟩)), (3, .int .i64 s1), (4, .int .i64 (IntKind.i64.wrap (s2 + 1)))]) (S' := St w0 Φ [(b_1, .cells #[.string p0.Name, .int .i64 p0.Sal, pv0_0, pv0_1, pv0_2] 66 (0, 0))] []) ⟨rfl, rfl, rfl, trivial⟩ (fun w1 hw => (hw.sel (js := []) rfl).selO (js := [0]) rfl) ?_)
  exact ih1 (s1, IntKind.i64.wrap (s2 + 1)) h
 replace h := ite_f h c1
 refine WT.exit rfl <| WT.seq <| WT.region <| lq (q_move rfl) rfl <| lq (q_assign rfl) rfl <| WL.nil ?_
 refine WT.ret Try.func59 (resOk.one rfl) (fun w1 hw => ?_)
 subst hb0
 cases h
 exact post_of_St hw
theorem m_s_l1Str_ok {Φ : Hp} {w : World} (hΦ : In Φ w) (N : Nat) (p0 : Tl1Cur) (p1 : (List ByteArray)) {pv0_0 : Value} {pG0_0 : List Nat} {pb0 : Nat} {pv1 : Value} {pG1 : List Nat} (ph0_0 : RSl (RI .u8) 1 Φ pG0_0 pv0_0 p0.b) (pp0 : Φ pb0 = some (.cells #[pv0_0, .int .i64 p0.i, .int .i64 p0.h] 195 (0, 0))) (ph1 : RSl RS 1 Φ pG1 pv1 p1) (pd0_0 : Dj pG0_0 [[pb0]].flatten) (pd1 : Dj pG1 [[pb0]].flatten) (hB : [[pb0]].flatten.Nodup) (hlt : ∀ k ∈ [[pb0]].flatten, k < w.heap.size) {r : ByteArray × Tl1Cur} (h : m_s_l1Str N p0 p1 = some r) :
  Calls Try.prog 151 [.pointer (some ⟨pb0, 0, none⟩), pv1].toArray w (PostG Φ w [[pb0]].flatten (fun Φ' Fs v => v = .string r.1 ∧ Fs = [[pb0]] ∧ r.2.b = p0.b ∧ Φ' pb0 = some (.cells #[pv0_0, .int .i64 r.2.i, .int .i64 r.2.h] 195 (0, 0)))) := by
 refine enter Try.func151 rfl Try.ntmps151 rfl (St.start hΦ [[pb0]] hB hlt) ?_
 have pa0_0 : Old ⟨w, [[pb0]].flatten, Φ⟩ pG0_0 := Old.mk hΦ ph0_0.kn pd0_0
 have pa1 : Old ⟨w, [[pb0]].flatten, Φ⟩ pG1 := Old.mk hΦ ph1.kn pd1
 unfold m_s_l1Str at h
 refine WT.seq <| WT.region <| lq (q_assign rfl) rfl <| WL.nil <| WT.seq <| WT.region <| lq (q_move rfl) rfl <| lq (q_move rfl) rfl <| lq (q_move rfl) rfl <| lq (q_lenR Sl_68 rfl rfl ph1) rfl ?_
 obtain ⟨x1, hx1, h⟩ := bind_some h
 refine lc (k_call (js := [0]) (R := []) Fun_92 rfl rfl (fun w1 hw ap hl => m_s_l1Below_ok hw.fro N p0 (p1.length : Int) ph0_0 pp0 (ap.o pa0_0) ap.nd hl hx1)) rfl (fun v1 Φ_1 F1 q1 => ?_)
 obtain ⟨ap1, fr1, rfl, rfl, e1, h1⟩ := q1
 replace ph1 := ph1.frame RS.lasts fr1 (ap1.o pa1)
 replace ph0_0 := ph0_0.frame RI.lasts fr1 (ap1.o pa0_0)
 obtain ⟨x2, hx2, h⟩ := bind_some h
 obtain ⟨cs1, F2, -, g1, hb1, hs1, r1⟩ := ph1.el (idx_some hx2).2.2
 obtain ⟨rfl, -⟩ := r1
 refine lq (q_indexAddr Sl_68 rfl rfl ph1 hx2) rfl <| lq (q_load1 T1_9 rfl (fun w1 hw => (g1.of_eq 0 1 rfl rfl : rg _ _ _ [.string x2]).rangeAt hw.fro)) rfl <| lq (q_assign rfl) rfl <| WL.nil ?_
 refine WT.ret Try.func151 (resOk.one rfl) (fun w1 hw => ?_)
 cases h
 refine postG_of_St (js := [0]) hw rfl ⟨rfl, rfl, rfl, h1⟩
theorem m_s_l3Small_ok {Φ : Hp} {w : World} (hΦ : In Φ w) (N : Nat) (p0 : Tl1Cur) {pv0_0 : Value} {pG0_0 : List Nat} {pb0 : Nat} (ph0_0 : RSl (RI .u8) 1 Φ pG0_0 pv0_0 p0.b) (pp0 : Φ pb0 = some (.cells #[pv0_0, .int .i64 p0.i, .int .i64 p0.h] 195 (0, 0))) (pd0_0 : Dj pG0_0 [[pb0]].flatten) (hB : [[pb0]].flatten.Nodup) (hlt : ∀ k ∈ [[pb0]].flatten, k < w.heap.size) {r : TVal × Tl1Cur} (h : m_s_l3Small N p0 = some r) :
  Calls Try.prog 86 [.pointer (some ⟨pb0, 0, none⟩)].toArray w (PostG Φ w [[pb0]].flatten (fun Φ' Fs v => v = .agg [.int .i64 r.1.K, .int .i64 r.1.N, .string r.1.S].toArray ∧ Fs = [[pb0]] ∧ r.2.b = p0.b ∧ Φ' pb0 = some (.cells #[pv0_0, .int .i64 r.2.i, .int .i64 r.2.h] 195 (0, 0)))) := by
 refine enter Try.func86 rfl Try.ntmps86 rfl (St.start hΦ [[pb0]] hB hlt) ?_
 have pa0_0 : Old ⟨w, [[pb0]].flatten, Φ⟩ pG0_0 := Old.mk hΦ ph0_0.kn pd0_0
 unfold m_s_l3Small at h
 refine WT.seq <| WT.region ?_
 refine ln (n_alloc (C := #[.int .i64 0, .int .i64 0, .string (⟨#[]⟩ : ByteArray)]) Zr_79 rfl) rfl (fun b_1 => ?_)
 refine WL.nil <| WT.seq <| WT.seq <| WT.region <| lq (q_move rfl) rfl ?_
 obtain ⟨x1, hx1, h⟩ := bind_some h
 refine lc (k_call (js := [0]) (R := []) Fun_85 rfl rfl (fun w1 hw ap hl => m_s_l1Once_ok hw.fro N p0 2 ph0_0 pp0 (ap.o pa0_0) ap.nd hl hx1)) rfl (fun v1 Φ_1 F1 q1 => ?_)
 obtain ⟨ap1, fr1, rfl, rfl, e1, h1⟩ := q1
 replace ph0_0 := ph0_0.frame RI.lasts fr1 (ap1.o pa0_0)
 refine WL.nil ?_
 refine WT.cond rfl (fun c1 => ?_) (fun c1 => ?_)
 ·replace h := ite_t h c1
  refine WT.seq <| WT.region <| lq (q_move rfl) rfl ?_
  obtain ⟨x2, hx2, h⟩ := bind_some h
  refine lc (k_call (js := [0]) (R := []) Fun_92 rfl rfl (fun w1 hw ap hl => m_s_l1Below_ok hw.fro N (⟨p0.b, x1.2.i, x1.2.h⟩ : Tl1Cur) 3 ph0_0 h1 (ap.o pa0_0) ap.nd hl hx2)) rfl (fun v2 Φ_2 F2 q2 => ?_)
  obtain ⟨ap2, fr2, rfl, rfl, e2, h2⟩ := q2
  replace ph0_0 := ph0_0.frame RI.lasts fr2 (ap2.o pa0_0)
  refine lq (q_add rfl rfl) rfl <| lq (q_build (vs := [(0, .int .i64 1), (1, .int .i64 (IntKind.i64.wrap (1 + x2.1)))]) (C := #[.int .i64 1, .int .i64 (IntKind.i64.wrap (1 + x2.1)), .string (⟨#[]⟩ : ByteArray)]) Pl_79 Zr_79 rfl (fill_cons (cells := [.int .i64 0, .int .i64 0, .string ⟨#[]⟩]) (c := [.int .i64 1]) (C' := [.int .i64 1, .int .i64 0, .string ⟨#[]⟩]) rfl rfl rfl rfl rfl (fill_cons (cells := [.int .i64 1, .int .i64 0, .string ⟨#[]⟩]) (c := [.int .i64 (IntKind.i64.wrap (1 + x2.1))]) (C' := [.int .i64 1, .int .i64 (IntKind.i64.wrap (1 + x2.1)), .string ⟨#[]⟩]) rfl rfl rfl rfl rfl (fill_nil)))) rfl ?_
  refine ls (s_store (i := 0) (vs := [.int .i64 1, .int .i64 (IntKind.i64.wrap (1 + x2.1)), .string (⟨#[]⟩ : ByteArray)]) (C' := [.int .i64 1, .int .i64 (IntKind.i64.wrap (1 + x2.1)), .string (⟨#[]⟩ : ByteArray)]) (O' := [(b_1, .cells #[.int .i64 1, .int .i64 (IntKind.i64.wrap (1 + x2.1)), .string (⟨#[]⟩ : ByteArray)] 79 (0, 0))]) Sz_79 rfl rfl rfl rfl rfl rfl ⟨rfl, rfl, rfl, trivial⟩ rfl rfl) rfl <| WL.nil ?_
  refine WT.ret Try.func86 (resOk.one (rv_cell Tn_79 rfl (fun w1 hw => hw.rgO (i := 0) rfl 0 3 [.int .i64 1, .int .i64 (IntKind.i64.wrap (1 + x2.1)), .string (⟨#[]⟩ : ByteArray)] rfl) rfl)) (fun w1 hw => ?_)
  cases h
  refine postG_of_St (js := [0]) hw rfl ⟨rfl, rfl, rfl, h2⟩
 replace h := ite_f h c1
 refine WT.skip <| WT.seq <| WT.region <| lq (q_move rfl) rfl ?_
 have rc1 : RC RS 1 Φ_1 ([[], []] : List (List Nat)) [.string (⟨#[97]⟩ : ByteArray), .string (⟨#[98]⟩ : ByteArray)] ([(⟨#[97]⟩ : ByteArray), (⟨#[98]⟩ : ByteArray)] : List ByteArray) := RC.cons (c := [.string (⟨#[97]⟩ : ByteArray)]) (cells := [.string (⟨#[98]⟩ : ByteArray)]) ⟨rfl, rfl⟩ rfl (RC.cons (c := [.string (⟨#[98]⟩ : ByteArray)]) (cells := []) ⟨rfl, rfl⟩ rfl (RC.nil _ _ _))
 refine le' (e_lit (vs := [(0, .string (⟨#[97]⟩ : ByteArray)), (1, .string (⟨#[98]⟩ : ByteArray))]) (C := #[.string (⟨#[97]⟩ : ByteArray), .string (⟨#[98]⟩ : ByteArray)]) RS.lasts Sl_68 Zr_9 rfl rfl rfl rfl (fill_made MC_9_2 (fill_cons (cells := [.string ⟨#[]⟩, .string ⟨#[]⟩]) (c := [.string (⟨#[97]⟩ : ByteArray)]) (C' := [.string (⟨#[97]⟩ : ByteArray), .string ⟨#[]⟩]) rfl rfl rfl rfl rfl (fill_cons (cells := [.string (⟨#[97]⟩ : ByteArray), .string ⟨#[]⟩]) (c := [.string (⟨#[98]⟩ : ByteArray)]) (C' := [.string (⟨#[97]⟩ : ByteArray), .string (⟨#[98]⟩ : ByteArray)]) rfl rfl rfl rfl rfl (fill_nil)))) rfl rc1 rfl (by simpa using Kw.nil)) rfl (fun v3 Φ_3 D1 q3 => ?_)
 obtain ⟨fr3, h3⟩ := q3
 replace h3 : OSl RS 9 1 Φ_3 [] v3 ([(⟨#[97]⟩ : ByteArray), (⟨#[98]⟩ : ByteArray)] : List ByteArray) := by simpa using h3
 replace ph0_0 := ph0_0.frame RI.lasts fr3 (Dj.empty _)
 replace h1 := fr3 _ _ (by simp) h1
 obtain ⟨x3, hx3, h⟩ := bind_some h
 refine lc (k_call (js := [1]) (R := [ob v3]) Fun_151 rfl rfl (fun w1 hw ap hl => m_s_l1Str_ok hw.fro N (⟨p0.b, x1.2.i, x1.2.h⟩ : Tl1Cur) ([(⟨#[97]⟩ : ByteArray), (⟨#[98]⟩ : ByteArray)] : List ByteArray) ph0_0 h1 h3.rsl (ap.o pa0_0) (Dj.app (ap.r (i := 0) rfl) (Dj.nil _)) ap.nd hl hx3)) rfl (fun v4 Φ_4 F3 q4 => ?_)
 obtain ⟨ap3, fr4, rfl, rfl, e3, h4⟩ := q4
 replace ph0_0 := ph0_0.frame RI.lasts fr4 (ap3.o pa0_0)
 refine lq (q_build (vs := [(0, .int .i64 2), (2, .string x3.1)]) (C := #[.int .i64 2, .int .i64 0, .string x3.1]) Pl_79 Zr_79 rfl (fill_cons (cells := [.int .i64 0, .int .i64 0, .string ⟨#[]⟩]) (c := [.int .i64 2]) (C' := [.int .i64 2, .int .i64 0, .string ⟨#[]⟩]) rfl rfl rfl rfl rfl (fill_cons (cells := [.int .i64 2, .int .i64 0, .string ⟨#[]⟩]) (c := [.string x3.1]) (C' := [.int .i64 2, .int .i64 0, .string x3.1]) rfl rfl rfl rfl rfl (fill_nil)))) rfl ?_
 refine ls (s_store (i := 0) (vs := [.int .i64 2, .int .i64 0, .string x3.1]) (C' := [.int .i64 2, .int .i64 0, .string x3.1]) (O' := [(b_1, .cells #[.int .i64 2, .int .i64 0, .string x3.1] 79 (0, 0))]) Sz_79 rfl rfl rfl rfl rfl rfl ⟨rfl, rfl, rfl, trivial⟩ rfl rfl) rfl <| WL.nil ?_
 refine WT.ret Try.func86 (resOk.one (rv_cell Tn_79 rfl (fun w1 hw => hw.rgO (i := 0) rfl 0 3 [.int .i64 2, .int .i64 0, .string x3.1] rfl) rfl)) (fun w1 hw => ?_)
 cases h
 refine postG_of_St (js := [0]) hw rfl ⟨rfl, rfl, rfl, h4⟩
theorem m_s_l6Val_ok {Φ : Hp} {w : World} (hΦ : In Φ w) (N : Nat) (p0 : TVal)   {r : TArg} (h : m_s_l6Val N p0 = some r) :
  Calls Try.prog 193 [.agg [.int .i64 p0.K, .int .i64 p0.N, .string p0.S].toArray].toArray w (Post (.agg [.int .i64 r.K, .string r.S, .int .i64 r.V.K, .int .i64 r.V.N, .string r.V.S].toArray) w) := by
 refine enter Try.func193 rfl Try.ntmps193 rfl (St.start0 hΦ) ?_
 unfold m_s_l6Val at h
 refine WT.seq <| WT.region ?_
 refine ln (n_box (C := #[.int .i64 p0.K, .int .i64 p0.N, .string p0.S]) rfl rfl) rfl (fun b_1 => ?_)
 refine ln (n_alloc (C := #[.int .i64 0, .string (⟨#[]⟩ : ByteArray), .int .i64 0, .int .i64 0, .string (⟨#[]⟩ : ByteArray)]) Zr_83 rfl) rfl (fun b_2 => ?_)
 refine WL.nil <| WT.seq <| WT.region <| lq (q_loadN Tn_79 rfl (fun w1 hw => hw.rgO (i := 1) rfl 0 3 [.int .i64 p0.K, .int .i64 p0.N, .string p0.S] rfl) rfl) rfl <| lq (q_build (vs := [(0, .int .i64 2), (2, .agg [.int .i64 p0.K, .int .i64 p0.N, .string p0.S].toArray)]) (C := #[.int .i64 2, .string (⟨#[]⟩ : ByteArray), .int .i64 p0.K, .int .i64 p0.N, .string p0.S]) Pl_83 Zr_83 rfl (fill_cons (cells := [.int .i64 0, .string ⟨#[]⟩, .int .i64 0, .int .i64 0, .string ⟨#[]⟩]) (c := [.int .i64 2]) (C' := [.int .i64 2, .string ⟨#[]⟩, .int .i64 0, .int .i64 0, .string ⟨#[]⟩]) rfl rfl rfl rfl rfl (fill_cons (cells := [.int .i64 2, .string ⟨#[]⟩, .int .i64 0, .int .i64 0, .string ⟨#[]⟩]) (c := [.int .i64 p0.K, .int .i64 p0.N, .string p0.S]) (C' := [.int .i64 2, .string ⟨#[]⟩, .int .i64 p0.K, .int .i64 p0.N, .string p0.S]) rfl rfl rfl rfl rfl (fill_nil)))) rfl ?_
 refine ls (s_store (i := 0) (vs := [.int .i64 2, .string (⟨#[]⟩ : ByteArray), .int .i64 p0.K, .int .i64 p0.N, .string p0.S]) (C' := [.int .i64 2, .string (⟨#[]⟩ : ByteArray), .int .i64 p0.K, .int .i64 p0.N, .string p0.S]) (O' := [(b_2, .cells #[.int .i64 2, .string (⟨#[]⟩ : ByteArray), .int .i64 p0.K, .int .i64 p0.N, .string p0.S] 83 (0, 0)), (b_1, .cells #[.int .i64 p0.K, .int .i64 p0.N, .string p0.S] 79 (0, 0))]) Sz_83 rfl rfl rfl rfl rfl rfl ⟨rfl, rfl, rfl, rfl, rfl, trivial⟩ rfl rfl) rfl ?_
 refine WL.nil ?_
 refine WT.ret Try.func193 (resOk.one (rv_cell Tn_83 rfl (fun w1 hw => hw.rgO (i := 0) rfl 0 5 [.int .i64 2, .string (⟨#[]⟩ : ByteArray), .int .i64 p0.K, .int .i64 p0.N, .string p0.S] rfl) rfl)) (fun w1 hw => ?_)
 cases h
 exact post_of_St hw
theorem m_s_l6Var_ok {Φ : Hp} {w : World} (hΦ : In Φ w) (N : Nat) (p0 : ByteArray)   {r : TArg} (h : m_s_l6Var N p0 = some r) :
  Calls Try.prog 194 [.string p0].toArray w (Post (.agg [.int .i64 r.K, .string r.S, .int .i64 r.V.K, .int .i64 r.V.N, .string r.V.S].toArray) w) := by
 refine enter Try.func194 rfl Try.ntmps194 rfl (St.start0 hΦ) ?_
 unfold m_s_l6Var at h
 refine WT.seq <| WT.region ?_
 refine ln (n_alloc (C := #[.int .i64 0, .string (⟨#[]⟩ : ByteArray), .int .i64 0, .int .i64 0, .string (⟨#[]⟩ : ByteArray)]) Zr_83 rfl) rfl (fun b_1 => ?_)
 refine WL.nil <| WT.seq <| WT.region <| lq (q_move rfl) rfl <| lq (q_build (vs := [(0, .int .i64 1), (1, .string p0)]) (C := #[.int .i64 1, .string p0, .int .i64 0, .int .i64 0, .string (⟨#[]⟩ : ByteArray)]) Pl_83 Zr_83 rfl (fill_cons (cells := [.int .i64 0, .string ⟨#[]⟩, .int .i64 0, .int .i64 0, .string ⟨#[]⟩]) (c := [.int .i64 1]) (C' := [.int .i64 1, .string ⟨#[]⟩, .int .i64 0, .int .i64 0, .string ⟨#[]⟩]) rfl rfl rfl rfl rfl (fill_cons (cells := [.int .i64 1, .string ⟨#[]⟩, .int .i64 0, .int .i64 0, .string ⟨#[]⟩]) (c := [.string p0]) (C' := [.int .i64 1, .string p0, .int .i64 0, .int .i64 0, .string ⟨#[]⟩]) rfl rfl rfl rfl rfl (fill_nil)))) rfl ?_
 refine ls (s_store (i := 0) (vs := [.int .i64 1, .string p0, .int .i64 0, .int .i64 0, .string (⟨#[]⟩ : ByteArray)]) (C' := [.int .i64 1, .string p0, .int .i64 0, .int .i64 0, .string (⟨#[]⟩ : ByteArray)]) (O' := [(b_1, .cells #[.int .i64 1, .string p0, .int .i64 0, .int .i64 0, .string (⟨#[]⟩ : ByteArray)] 83 (0, 0))]) Sz_83 rfl rfl rfl rfl rfl rfl ⟨rfl, rfl, rfl, rfl, rfl, trivial⟩ rfl rfl) rfl <| WL.nil ?_
 refine WT.ret Try.func194 (resOk.one (rv_cell Tn_83 rfl (fun w1 hw => hw.rgO (i := 0) rfl 0 5 [.int .i64 1, .string p0, .int .i64 0, .int .i64 0, .string (⟨#[]⟩ : ByteArray)] rfl) rfl)) (fun w1 hw => ?_)
 cases h
 exact post_of_St hw
theorem m_s_l6Arg_ok {Φ : Hp} {w : World} (hΦ : In Φ w) (N : Nat) (p0 : Tl1Cur) {pv0_0 : Value} {pG0_0 : List Nat} {pb0 : Nat} (ph0_0 : RSl (RI .u8) 1 Φ pG0_0 pv0_0 p0.b) (pp0 : Φ pb0 = some (.cells #[pv0_0, .int .i64 p0.i, .int .i64 p0.h] 195 (0, 0))) (pd0_0 : Dj pG0_0 [[pb0]].flatten) (hB : [[pb0]].flatten.Nodup) (hlt : ∀ k ∈ [[pb0]].flatten, k < w.heap.size) {r : TArg × Tl1Cur} (h : m_s_l6Arg N p0 = some r) :
  Calls Try.prog 153 [.pointer (some ⟨pb0, 0, none⟩)].toArray w (PostG Φ w [[pb0]].flatten (fun Φ' Fs v => v = .agg [.int .i64 r.1.K, .string r.1.S, .int .i64 r.1.V.K, .int .i64 r.1.V.N, .string r.1.V.S].toArray ∧ Fs = [[pb0]] ∧ r.2.b = p0.b ∧ Φ' pb0 = some (.cells #[pv0_0, .int .i64 r.2.i, .int .i64 r.2.h] 195 (0, 0)))) := by
 refine enter Try.func153 rfl Try.ntmps153 rfl (St.start hΦ [[pb0]] hB hlt) ?_
 have pa0_0 : Old ⟨w, [[pb0]].flatten, Φ⟩ pG0_0 := Old.mk hΦ ph0_0.kn pd0_0
 unfold m_s_l6Arg at h
 refine WT.seq <| WT.region ?_
 refine ln (n_alloc (C := #[.int .i64 0, .string (⟨#[]⟩ : ByteArray), .int .i64 0, .int .i64 0, .string (⟨#[]⟩ : ByteArray)]) Zr_83 rfl) rfl (fun b_1 => ?_)
 refine WL.nil <| WT.seq <| WT.seq <| WT.region <| lq (q_move rfl) rfl ?_
 obtain ⟨x1, hx1, h⟩ := bind_some h
 refine lc (k_call (js := [0]) (R := []) Fun_92 rfl rfl (fun w1 hw ap hl => m_s_l1Below_ok hw.fro N p0 6 ph0_0 pp0 (ap.o pa0_0) ap.nd hl hx1)) rfl (fun v1 Φ_1 F1 q1 => ?_)
 obtain ⟨ap1, fr1, rfl, rfl, e1, h1⟩ := q1
 replace ph0_0 := ph0_0.frame RI.lasts fr1 (ap1.o pa0_0)
 refine WL.nil <| WT.block <| WT.seq <| WT.region <| lq (q_eql rfl rfl) rfl <| lq (q_assign rfl) rfl <| WL.nil ?_
 refine WT.cond rfl (fun c1 => ?_) (fun c1 => ?_)
 ·replace h := ite_t h c1
  refine WT.seq <| WT.region <| lq (q_build (vs := [(0, .int .i64 3)]) (C := #[.int .i64 3, .string (⟨#[]⟩ : ByteArray), .int .i64 0, .int .i64 0, .string (⟨#[]⟩ : ByteArray)]) Pl_83 Zr_83 rfl (fill_cons (cells := [.int .i64 0, .string ⟨#[]⟩, .int .i64 0, .int .i64 0, .string ⟨#[]⟩]) (c := [.int .i64 3]) (C' := [.int .i64 3, .string ⟨#[]⟩, .int .i64 0, .int .i64 0, .string ⟨#[]⟩]) rfl rfl rfl rfl rfl (fill_nil))) rfl ?_
  refine ls (s_store (i := 0) (vs := [.int .i64 3, .string (⟨#[]⟩ : ByteArray), .int .i64 0, .int .i64 0, .string (⟨#[]⟩ : ByteArray)]) (C' := [.int .i64 3, .string (⟨#[]⟩ : ByteArray), .int .i64 0, .int .i64 0, .string (⟨#[]⟩ : ByteArray)]) (O' := [(b_1, .cells #[.int .i64 3, .string (⟨#[]⟩ : ByteArray), .int .i64 0, .int .i64 0, .string (⟨#[]⟩ : ByteArray)] 83 (0, 0))]) Sz_83 rfl rfl rfl rfl rfl rfl ⟨rfl, rfl, rfl, rfl, rfl, trivial⟩ rfl rfl) rfl ?_
  refine WL.nil ?_
  refine WT.ret Try.func153 (resOk.one (rv_cell Tn_83 rfl (fun w1 hw => hw.rgO (i := 0) rfl 0 5 [.int .i64 3, .string (⟨#[]⟩ : ByteArray), .int .i64 0, .int .i64 0, .string (⟨#[]⟩ : ByteArray)] rfl) rfl)) (fun w1 hw => ?_)
  cases h
  refine postG_of_St (js := [0]) hw rfl ⟨rfl, rfl, rfl, h1⟩
 replace h := ite_f h c1
 refine WT.seq <| WT.region <| lq (q_eql rfl rfl) rfl <| lq (q_assign rfl) rfl <| WL.nil ?_
 refine WT.cond rfl (fun c2 => ?_) (fun c2 => ?_)
 ·replace h := ite_t h c2
  refine WT.seq <| WT.region <| lq (q_move rfl) rfl ?_
  obtain ⟨x2, hx2, h⟩ := bind_some h
  refine lc (k_call (js := [0]) (R := []) Fun_86 rfl rfl (fun w1 hw ap hl => m_s_l3Small_ok hw.fro N (⟨p0.b, x1.2.i, x1.2.h⟩ : Tl1Cur) ph0_0 h1 (ap.o pa0_0) ap.nd hl hx2)) rfl (fun v2 Φ_2 F2 q2 => ?_)
  obtain ⟨ap2, fr2, rfl, rfl, e2, h2⟩ := q2
  replace ph0_0 := ph0_0.frame RI.lasts fr2 (ap2.o pa0_0)
  obtain ⟨x3, hx3, h⟩ := bind_some h
  refine lp (p_call Fun_193 rfl (fun w1 hw => m_s_l6Val_ok hw.fro N x2.1 hx3)) rfl <| ls (s_store (i := 0) (vs := [.int .i64 x3.K, .string x3.S, .int .i64 x3.V.K, .int .i64 x3.V.N, .string x3.V.S]) (C' := [.int .i64 x3.K, .string x3.S, .int .i64 x3.V.K, .int .i64 x3.V.N, .string x3.V.S]) (O' := [(b_1, .cells #[.int .i64 x3.K, .string x3.S, .int .i64 x3.V.K, .int .i64 x3.V.N, .string x3.V.S] 83 (0, 0))]) Sz_83 rfl rfl rfl rfl rfl rfl ⟨rfl, rfl, rfl, rfl, rfl, trivial⟩ rfl rfl) rfl ?_
  refine WL.nil ?_
  refine WT.ret Try.func153 (resOk.one (rv_cell Tn_83 rfl (fun w1 hw => hw.rgO (i := 0) rfl 0 5 [.int .i64 x3.K, .string x3.S, .int .i64 x3.V.K, .int .i64 x3.V.N, .string x3.V.S] rfl) rfl)) (fun w1 hw => ?_)
  cases h
  refine postG_of_St (js := [0]) hw rfl ⟨rfl, rfl, rfl, h2⟩
 replace h := ite_f h c2
 refine WT.skip <| WT.inBlock <| WT.seq <| WT.region <| lq (q_move rfl) rfl ?_
 have rc1 : RC RS 1 Φ_1 ([[], [], [], []] : List (List Nat)) [.string (⟨#[88]⟩ : ByteArray), .string (⟨#[89]⟩ : ByteArray), .string (⟨#[90]⟩ : ByteArray), .string (⟨#[88]⟩ : ByteArray)] ([(⟨#[88]⟩ : ByteArray), (⟨#[89]⟩ : ByteArray), (⟨#[90]⟩ : ByteArray), (⟨#[88]⟩ : ByteArray)] : List ByteArray) := RC.cons (c := [.string (⟨#[88]⟩ : ByteArray)]) (cells := [.string (⟨#[89]⟩ : ByteArray), .string (⟨#[90]⟩ : ByteArray), .string (⟨#[88]⟩ : ByteArray)]) ⟨rfl, rfl⟩ rfl (RC.cons (c := [.string (⟨#[89]⟩ : ByteArray)]) (cells := [.string (⟨#[90]⟩ : ByteArray), .string (⟨#[88]⟩ : ByteArray)]) ⟨rfl, rfl⟩ rfl (RC.cons (c := [.string (⟨#[90]⟩ : ByteArray)]) (cells := [.string (⟨#[88]⟩ : ByteArray)]) ⟨rfl, rfl⟩ rfl (RC.cons (c := [.string (⟨#[88]⟩ : ByteArray)]) (cells := []) ⟨rfl, rfl⟩ rfl (RC.nil _ _ _))))
 refine le' (e_lit (vs := [(0, .string (⟨#[88]⟩ : ByteArray)), (1, .string (⟨#[89]⟩ : ByteArray)), (2, .string (⟨#[90]⟩ : ByteArray)), (3, .string (⟨#[88]⟩ : ByteArray))]) (C := #[.string (⟨#[88]⟩ : ByteArray), .string (⟨#[89]⟩ : ByteArray), .string (⟨#[90]⟩ : ByteArray), .string (⟨#[88]⟩ : ByteArray)]) RS.lasts Sl_68 Zr_9 rfl rfl rfl rfl (fill_made MC_9_4 (fill_cons (cells := [.string ⟨#[]⟩, .string ⟨#[]⟩, .string ⟨#[]⟩, .string ⟨#[]⟩]) (c := [.string (⟨#[88]⟩ : ByteArray)]) (C' := [.string (⟨#[88]⟩ : ByteArray), .string ⟨#[]⟩, .string ⟨#[]⟩, .string ⟨#[]⟩]) rfl rfl rfl rfl rfl (fill_cons (cells := [.string (⟨#[88]⟩ : ByteArray), .string ⟨#[]⟩, .string ⟨#[]⟩, .string ⟨#[]⟩]) (c := [.string (⟨#[89]⟩ : ByteArray)]) (C' := [.string (⟨#[88]⟩ : ByteArray), .string (⟨#[89]⟩ : ByteArray), .string ⟨#[]⟩, .string ⟨#[]⟩]) rfl rfl rfl rfl rfl (fill_cons (cells := [.string (⟨#[88]⟩ : ByteArray), .string (⟨#[89]⟩ : ByteArray), .string ⟨#[]⟩, .string ⟨#[]⟩]) (c := [.string (⟨#[90]⟩ : ByteArray)]) (C' := [.string (⟨#[88]⟩ : ByteArray), .string (⟨#[89]⟩ : ByteArray), .string (⟨#[90]⟩ : ByteArray), .string ⟨#[]⟩]) rfl rfl rfl rfl rfl (fill_cons (cells := [.string (⟨#[88]⟩ : ByteArray), .string (⟨#[89]⟩ : ByteArray), .string (⟨#[90]⟩ : ByteArray), .string ⟨#[]⟩]) (c := [.string (⟨#[88]⟩ : ByteArray)]) (C' := [.string (⟨#[88]⟩ : ByteArray), .string (⟨#[89]⟩ : ByteArray), .string (⟨#[90]⟩ : ByteArray), .string (⟨#[88]⟩ : ByteArray)]) rfl rfl rfl rfl rfl (fill_nil)))))) rfl rc1 rfl (by simpa using Kw.nil)) rfl (fun v3 Φ_3 D1 q3 => ?_)
 obtain ⟨fr3, h3⟩ := q3
 replace h3 : OSl RS 9 1 Φ_3 [] v3 ([(⟨#[88]⟩ : ByteArray), (⟨#[89]⟩ : ByteArray), (⟨#[90]⟩ : ByteArray), (⟨#[88]⟩ : ByteArray)] : List ByteArray) := by simpa using h3
 replace ph0_0 := ph0_0.frame RI.lasts fr3 (Dj.empty _)
 replace h1 := fr3 _ _ (by simp) h1
 obtain ⟨x4, hx4, h⟩ := bind_some h
 refine lc (k_call (js := [1]) (R := [ob v3]) Fun_151 rfl rfl (fun w1 hw ap hl => m_s_l1Str_ok hw.fro N (⟨p0.b, x1.2.i, x1.2.h⟩ : Tl1Cur) ([(⟨#[88]⟩ : ByteArray), (⟨#[89]⟩ : ByteArray), (⟨#[90]⟩ : ByteArray), (⟨#[88]⟩ : ByteArray)] : List ByteArray) ph0_0 h1 h3.rsl (ap.o pa0_0) (Dj.app (ap.r (i := 0) rfl) (Dj.nil _)) ap.nd hl hx4)) rfl (fun v4 Φ_4 F3 q4 => ?_)
 obtain ⟨ap3, fr4, rfl, rfl, e3, h4⟩ := q4
 replace ph0_0 := ph0_0.frame RI.lasts fr4 (ap3.o pa0_0)
 obtain ⟨x5, hx5, h⟩ := bind_some h
 refine lp (p_call Fun_194 rfl (fun w1 hw => m_s_l6Var_ok hw.fro N x4.1 hx5)) rfl <| ls (s_store (i := 0) (vs := [.int .i64 x5.K, .string x5.S, .int .i64 x5.V.K, .int .i64 x5.V.N, .string x5.V.S]) (C' := [.int .i64 x5.K, .string x5.S, .int .i64 x5.V.K, .int .i64 x5.V.N, .string x5.V.S]) (O' := [(b_1, .cells #[.int .i64 x5.K, .string x5.S, .int .i64 x5.V.K, .int .i64 x5.V.N, .string x5.V.S] 83 (0, 0))]) Sz_83 rfl rfl rfl rfl rfl rfl ⟨rfl, rfl, rfl, rfl, rfl, trivial⟩ rfl rfl) rfl ?_
 refine WL.nil ?_
 refine WT.ret Try.func153 (resOk.one (rv_cell Tn_83 rfl (fun w1 hw => hw.rgO (i := 0) rfl 0 5 [.int .i64 x5.K, .string x5.S, .int .i64 x5.V.K, .int .i64 x5.V.N, .string x5.V.S] rfl) rfl)) (fun w1 hw => ?_)
 cases h
 refine postG_of_St (js := [0]) hw rfl ⟨rfl, rfl, rfl, h4⟩
theorem m_s_l6Draw_ok {Φ : Hp} {w : World} (hΦ : In Φ w) (N : Nat) (p0 : Tl1Cur) (p1 : Bool) {pv0_0 : Value} {pG0_0 : List Nat} {pb0 : Nat} (ph0_0 : RSl (RI .u8) 1 Φ pG0_0 pv0_0 p0.b) (pp0 : Φ pb0 = some (.cells #[pv0_0, .int .i64 p0.i, .int .i64 p0.h] 195 (0, 0))) (pd0_0 : Dj pG0_0 [[pb0]].flatten) (hB : [[pb0]].flatten.Nodup) (hlt : ∀ k ∈ [[pb0]].flatten, k < w.heap.size) {r : TPat × Tl1Cur} (h : m_s_l6Draw N p0 p1 = some r) :
  Calls Try.prog 83 [.pointer (some ⟨pb0, 0, none⟩), .bool p1].toArray w (PostG Φ w [[pb0]].flatten (fun Φ' Fs v => ∃ (sr_0_0 : Value), v = .agg [.string r.1.Kind, sr_0_0, .bool r.1.Not].toArray ∧ Fs = [ob sr_0_0, [pb0]] ∧ OSl RTArg 83 5 Φ' [] sr_0_0 r.1.Args ∧ r.2.b = p0.b ∧ Φ' pb0 = some (.cells #[pv0_0, .int .i64 r.2.i, .int .i64 r.2.h] 195 (0, 0)))) := by
 refine enter Try.func83 rfl Try.ntmps83 rfl (St.start hΦ [[pb0]] hB hlt) ?_
 have pa0_0 : Old ⟨w, [[pb0]].flatten, Φ⟩ pG0_0 := Old.mk hΦ ph0_0.kn pd0_0
 revert pa0_0
 generalize hb0 : (⟨w, [[pb0]].flatten, Φ⟩ : Base) = w0
 intro pa0_0
 unfold m_s_l6Draw at h
 refine WT.seq <| WT.region ?_
 refine ln (n_alloc (C := #[.string (⟨#[]⟩ : ByteArray), .slice none 0 0, .bool false]) Zr_37 rfl) rfl (fun b_1 => ?_)
 refine WL.nil <| WT.seq <| WT.region <| lq (q_move rfl) rfl ?_
 have rc1 : RC RS 1 Φ ([[], [], [], []] : List (List Nat)) [.string (⟨#[111, 114, 100, 101, 114]⟩ : ByteArray), .string (⟨#[112, 97, 105, 100]⟩ : ByteArray), .string (⟨#[105, 116, 101, 109]⟩ : ByteArray), .string (⟨#[111, 114, 100, 101, 114]⟩ : ByteArray)] ([(⟨#[111, 114, 100, 101, 114]⟩ : ByteArray), (⟨#[112, 97, 105, 100]⟩ : ByteArray), (⟨#[105, 116, 101, 109]⟩ : ByteArray), (⟨#[111, 114, 100, 101, 114]⟩ : ByteArray)] : List ByteArray) := RC.cons (c := [.string (⟨#[111, 114, 100, 101, 114]⟩ : ByteArray)]) (cells := [.string (⟨#[112, 97, 105, 100]⟩ : ByteArray), .string (⟨#[105, 116, 101, 109]⟩ : ByteArray), .string (⟨#[111, 114, 100, 101, 114]⟩ : ByteArray)]) ⟨rfl, rfl⟩ rfl (RC.cons (c := [.string (⟨#[112, 97, 105, 100]⟩ : ByteArray)]) (cells := [.string (⟨#[105, 116, 101, 109]⟩ : ByteArray), .string (⟨#[111, 114, 100, 101, 114]⟩ : ByteArray)]) ⟨rfl, rfl⟩ rfl (RC.cons (c := [.string (⟨#[105, 116, 101, 109]⟩ : ByteArray)]) (cells := [.string (⟨#[111, 114, 100, 101, 114]⟩ : ByteArray)]) ⟨rfl, rfl⟩ rfl (RC.cons (c := [.string (⟨#[111, 114, 100, 101, 114]⟩ : ByteArray)]) (cells := []) ⟨rfl, rfl⟩ rfl (RC.nil _ _ _))))
 refine le' (e_lit (vs := [(0, .string (⟨#[111, 114, 100, 101, 114]⟩ : ByteArray)), (1, .string (⟨#[112, 97, 105, 100]⟩ : ByteArray)), (2, .string (⟨#[105, 116, 101, 109]⟩ : ByteArray)), (3, .string (⟨#[111, 114, 100, 101, 114]⟩ : ByteArray))]) (C := #[.string (⟨#[111, 114, 100, 101, 114]⟩ : ByteArray), .string (⟨#[112, 97, 105, 100]⟩ : ByteArray), .string (⟨#[105, 116, 101, 109]⟩ : ByteArray), .string (⟨#[111, 114, 100, 101, 114]⟩ : ByteArray)]) RS.lasts Sl_68 Zr_9 rfl rfl rfl rfl (fill_made MC_9_4 (fill_cons (cells := [.string ⟨#[]⟩, .string ⟨#[]⟩, .string ⟨#[]⟩, .string ⟨#[]⟩]) (c := [.string (⟨#[111, 114, 100, 101, 114]⟩ : ByteArray)]) (C' := [.string (⟨#[111, 114, 100, 101, 114]⟩ : ByteArray), .string ⟨#[]⟩, .string ⟨#[]⟩, .string ⟨#[]⟩]) rfl rfl rfl rfl rfl (fill_cons (cells := [.string (⟨#[111, 114, 100, 101, 114]⟩ : ByteArray), .string ⟨#[]⟩, .string ⟨#[]⟩, .string ⟨#[]⟩]) (c := [.string (⟨#[112, 97, 105, 100]⟩ : ByteArray)]) (C' := [.string (⟨#[111, 114, 100, 101, 114]⟩ : ByteArray), .string (⟨#[112, 97, 105, 100]⟩ : ByteArray), .string ⟨#[]⟩, .string ⟨#[]⟩]) rfl rfl rfl rfl rfl (fill_cons (cells := [.string (⟨#[111, 114, 100, 101, 114]⟩ : ByteArray), .string (⟨#[112, 97, 105, 100]⟩ : ByteArray), .string ⟨#[]⟩, .string ⟨#[]⟩]) (c := [.string (⟨#[105, 116, 101, 109]⟩ : ByteArray)]) (C' := [.string (⟨#[111, 114, 100, 101, 114]⟩ : ByteArray), .string (⟨#[112, 97, 105, 100]⟩ : ByteArray), .string (⟨#[105, 116, 101, 109]⟩ : ByteArray), .string ⟨#[]⟩]) rfl rfl rfl rfl rfl (fill_cons (cells := [.string (⟨#[111, 114, 100, 101, 114]⟩ : ByteArray), .string (⟨#[112, 97, 105, 100]⟩ : ByteArray), .string (⟨#[105, 116, 101, 109]⟩ : ByteArray), .string ⟨#[]⟩]) (c := [.string (⟨#[111, 114, 100, 101, 114]⟩ : ByteArray)]) (C' := [.string (⟨#[111, 114, 100, 101, 114]⟩ : ByteArray), .string (⟨#[112, 97, 105, 100]⟩ : ByteArray), .string (⟨#[105, 116, 101, 109]⟩ : ByteArray), .string (⟨#[111, 114, 100, 101, 114]⟩ : ByteArray)]) rfl rfl rfl rfl rfl (fill_nil)))))) rfl rc1 rfl (by simpa using Kw.nil)) rfl (fun v1 Φ_1 D1 q1 => ?_)
 obtain ⟨fr1, h1⟩ := q1
 replace h1 : OSl RS 9 1 Φ_1 [] v1 ([(⟨#[111, 114, 100, 101, 114]⟩ : ByteArray), (⟨#[112, 97, 105, 100]⟩ : ByteArray), (⟨#[105, 116, 101, 109]⟩ : ByteArray), (⟨#[111, 114, 100, 101, 114]⟩ : ByteArray)] : List ByteArray) := by simpa using h1
 replace ph0_0 := ph0_0.frame RI.lasts fr1 (Dj.empty _)
 replace pp0 := fr1 _ _ (by simp) pp0
 obtain ⟨x1, hx1, h⟩ := bind_some h
 refine lc (k_call (js := [1]) (R := [ob v1]) Fun_151 rfl rfl (fun w1 hw ap hl => m_s_l1Str_ok hw.fro N p0 ([(⟨#[111, 114, 100, 101, 114]⟩ : ByteArray), (⟨#[112, 97, 105, 100]⟩ : ByteArray), (⟨#[105, 116, 101, 109]⟩ : ByteArray), (⟨#[111, 114, 100, 101, 114]⟩ : ByteArray)] : List ByteArray) ph0_0 pp0 h1.rsl (ap.o pa0_0) (Dj.app (ap.r (i := 0) rfl) (Dj.nil _)) ap.nd hl hx1)) rfl (fun v2 Φ_2 F1 q2 => ?_)
 obtain ⟨ap1, fr2, rfl, rfl, e1, h2⟩ := q2
 replace ph0_0 := ph0_0.frame RI.lasts fr2 (ap1.o pa0_0)
 refine lq (q_move rfl) rfl <| lq (q_build (vs := [(0, .string x1.1), (2, .bool p1)]) (C := #[.string x1.1, .slice none 0 0, .bool p1]) Pl_37 Zr_37 rfl (fill_cons (cells := [.string ⟨#[]⟩, .slice none 0 0, .bool false]) (c := [.string x1.1]) (C' := [.string x1.1, .slice none 0 0, .bool false]) rfl rfl rfl rfl rfl (fill_cons (cells := [.string x1.1, .slice none 0 0, .bool false]) (c := [.bool p1]) (C' := [.string x1.1, .slice none 0 0, .bool p1]) rfl rfl rfl rfl rfl (fill_nil)))) rfl ?_
 refine ln (n_alloc (C := #[.string (⟨#[]⟩ : ByteArray), .slice none 0 0, .bool false]) Zr_37 rfl) rfl (fun b_2 => ?_)
 refine ls (s_store (i := 0) (vs := [.string x1.1, .slice none 0 0, .bool p1]) (C' := [.string x1.1, .slice none 0 0, .bool p1]) (O' := [(b_2, .cells #[.string x1.1, .slice none 0 0, .bool p1] 37 (0, 0)), (b_1, .cells #[.string (⟨#[]⟩ : ByteArray), .slice none 0 0, .bool false] 37 (0, 0))]) Sz_37 rfl rfl rfl rfl rfl rfl ⟨rfl, rfl, rfl, trivial⟩ rfl rfl) rfl <| WL.nil <| WT.seq <| WT.region <| lq (q_assign rfl) rfl <| WL.nil <| WT.seq ?_
 refine WT.seq <| WT.region <| lq (q_fieldAddr Fld_37_0 rfl) rfl <| lq (q_load1 T1_9 rfl (fun w1 hw => hw.rgO (i := 0) rfl 0 1 [.string x1.1] rfl)) rfl <| lq (q_seq rfl rfl) rfl <| WL.nil ?_
 refine cut (σ := Int) (fun s => [(0, .pointer (some ⟨pb0, 0, none⟩)), (4, .pointer (some ⟨b_1, 0, none⟩)), (5, .pointer (some ⟨b_2, 0, none⟩)), (6, .int .i64 s)]) (fun s => St w0 Φ_2 [(b_2, .cells #[.string x1.1, .slice none 0 0, .bool p1] 37 (0, 0)), (b_1, .cells #[.string (⟨#[]⟩ : ByteArray), .slice none 0 0, .bool false] 37 (0, 0))] [[pb0]]) (fun s => m_s_l6Draw_j1 N p0 p1 x1 s = some r) (fun s hm => ?_) (fun K => ?_)
 ·clear h
  revert hm; revert s; intro s1 hm
  have h : m_s_l6Draw_j1 N p0 p1 x1 s1 = some r := hm
  show WT _ _ [(0, .pointer (some ⟨pb0, 0, none⟩)), (4, .pointer (some ⟨b_1, 0, none⟩)), (5, .pointer (some ⟨b_2, 0, none⟩)), (6, .int .i64 s1)] (St w0 Φ_2 [(b_2, .cells #[.string x1.1, .slice none 0 0, .bool p1] 37 (0, 0)), (b_1, .cells #[.string (⟨#[]⟩ : ByteArray), .slice none 0 0, .bool false] 37 (0, 0))] [[pb0]])
  unfold m_s_l6Draw_j1 at h
  refine WT.seq <| WT.seq <| WT.region <| lq (q_assign rfl) rfl <| WL.nil <| WT.block <| WT.loop <| WT.conv (S' := St w0 Φ_2 [(b_2, .cells #[.string x1.1, .slice none 0 0, .bool p1] 37 (0, 0)), (b_1, .cells #[.string (⟨#[]⟩ : ByteArray), .slice none 0 0, .bool false] 37 (0, 0))] (ob (.slice none 0 0) :: [[pb0]])) (fun w1 hw => hw.addNil) ?_
  have k1 := OSl.nil RTArg 83 5 Φ_2
  refine WT.mono (l' := [(0, .pointer (some ⟨pb0, 0, none⟩)), (4, .pointer (some ⟨b_1, 0, none⟩)), (5, .pointer (some ⟨b_2, 0, none⟩)), (6, .int .i64 s1), (7, .int .i64 0)]) (S' := St w0 Φ_2 [(b_2, .cells #[.string x1.1, (.slice none 0 0), .bool p1] 37 (0, 0)), (b_1, .cells #[.string (⟨#[]⟩ : ByteArray), .slice none 0 0, .bool false] 37 (0, 0))] [ob (.slice none 0 0), [pb0]]) ⟨rfl, rfl, rfl, rfl, rfl, trivial⟩ (fun w1 hw => (hw.sel (js := [0, 0]) rfl).selO (js := [0, 0]) rfl) ?_
  refine loop_ind (σ := Hp × (List TArg) × Value × Int × Int × Int) (fun s => [(0, .pointer (some ⟨pb0, 0, none⟩)), (4, .pointer (some ⟨b_1, 0, none⟩)), (5, .pointer (some ⟨b_2, 0, none⟩)), (6, .int .i64 s1), (7, .int .i64 s.2.2.2.1)]) (fun s => St w0 s.1 [(b_2, .cells #[.string x1.1, s.2.2.1, .bool p1] 37 (0, 0)), (b_1, .cells #[.string (⟨#[]⟩ : ByteArray), .slice none 0 0, .bool false] 37 (0, 0))] [ob s.2.2.1, [pb0]]) (fun m s => m_s_l6Draw_l2 N p0 p1 x1 s1 m s.2.1 s.2.2.2.1 s.2.2.2.2.1 s.2.2.2.2.2 = some r ∧ (OSl RTArg 83 5 s.1 [] s.2.2.1 s.2.1) ∧ (s.1 pb0 = some (.cells #[pv0_0, .int .i64 s.2.2.2.2.1, .int .i64 s.2.2.2.2.2] 195 (0, 0))) ∧ (RSl (RI .u8) 1 s.1 pG0_0 pv0_0 p0.b)) (fun s hm => none_ne (show (none : Option (TPat × Tl1Cur)) = some r from hm.1)) (fun n2 ih2 s hm => ?_) N (Φ_2, ([] : List TArg), (.slice none 0 0), 0, x1.2.i, x1.2.h) ⟨h, k1, h2, ph0_0⟩
  obtain ⟨Φ_3, s2, u1, s3, s4, s5⟩ := s
  obtain ⟨h, k2, k3, ph0_0⟩ := hm
  replace h : m_s_l6Draw_l2 N p0 p1 x1 s1 (n2 + 1) s2 s3 s4 s5 = some r := h
  replace k2 : OSl RTArg 83 5 Φ_3 [] u1 s2 := k2
  replace k3 : Φ_3 pb0 = some (.cells #[pv0_0, .int .i64 s4, .int .i64 s5] 195 (0, 0)) := k3
  replace ph0_0 : RSl (RI .u8) 1 Φ_3 pG0_0 pv0_0 p0.b := ph0_0
  show WT _ _ [(0, .pointer (some ⟨pb0, 0, none⟩)), (4, .pointer (some ⟨b_1, 0, none⟩)), (5, .pointer (some ⟨b_2, 0, none⟩)), (6, .int .i64 s1), (7, .int .i64 s3)] (St w0 Φ_3 [(b_2, .cells #[.string x1.1, u1, .bool p1] 37 (0, 0)), (b_1, .cells #[.string (⟨#[]⟩ : ByteArray), .slice none 0 0, .bool false] 37 (0, 0))] [ob u1, [pb0]])
  unfold m_s_l6Draw_l2 at h
  refine WT.seq <| WT.seq <| WT.region <| lq (q_move rfl) rfl <| lq (q_move rfl) rfl <| lq (q_lss rfl rfl) rfl <| WL.nil ?_
  refine WT.cond rfl (fun c1 => ?_) (fun c1 => ?_)
  ·replace h := ite_t h c1
   refine WT.skip <| WT.seq <| WT.block <| WT.mix (Kn Φ_3 [] [(b_2, .cells #[.string x1.1, u1, .bool p1] 37 (0, 0)), (b_1, .cells #[.string (⟨#[]⟩ : ByteArray), .slice none 0 0, .bool false] 37 (0, 0))]) (fun i => match i with | 7 => false | _ => true) mixed (fun _ h => h.drew) <| mq 0 rfl (by kernel_rfl) (fun w1 hw => Kn.of (fun k hk _ _ => by simp at hk) (AllIn.mem ⟨gM 0 rfl, gM 1 rfl, trivial⟩) hw) (q_fieldAddr Fld_37_1 rfl) rfl ?_
   refine mq 1 rfl (by kernel_rfl) (fun w1 hw => Kn.of (fun k hk _ _ => by simp at hk) (AllIn.mem ⟨gM 0 rfl, gM 1 rfl, trivial⟩) hw) (q_load1 T1_35 rfl (fun w1 hw => hw.rgO (i := 0) rfl 1 1 [u1] rfl)) rfl <| mq 2 rfl (by kernel_rfl) (fun w1 hw => Kn.of (fun k hk _ _ => by simp at hk) (AllIn.mem ⟨gM 0 rfl, gM 1 rfl, trivial⟩) hw) (q_move rfl) rfl ?_
   obtain ⟨x2, hx2, h⟩ := bind_some h
   refine WM.one 3 (by kernel_rfl) (mc rfl (fun _ v Φx D w1 hq hw => Kn.of (fun k hk _ _ => by simp at hk) (AllIn.mem ⟨gM 0 rfl, gM 1 rfl, trivial⟩) hw) (k_call (js := [1]) (R := [ob u1]) Fun_153 rfl rfl (fun w1 hw ap hl => m_s_l6Arg_ok hw.fro N (⟨p0.b, s4, s5⟩ : Tl1Cur) ph0_0 k3 (ap.o pa0_0) ap.nd hl hx2)) rfl (fun v3 Φ_4 F2 q3 => ?_))
   obtain ⟨ap2, fr3, rfl, rfl, e2, h3⟩ := q3
   replace ph0_0 := ph0_0.frame RI.lasts fr3 (ap2.o pa0_0)
   replace k2 := k2.frame RTArg.lasts fr3 (ap2.r (i := 0) rfl) (Dj.nil _)
   have rc2 : RC RTArg 5 Φ_4 ([[]] : List (List Nat)) [.int .i64 x2.1.K, .string x2.1.S, .int .i64 x2.1.V.K, .int .i64 x2.1.V.N, .string x2.1.V.S] ([x2.1] : List TArg) := RC.cons (c := [.int .i64 x2.1.K, .string x2.1.S, .int .i64 x2.1.V.K, .int .i64 x2.1.V.N, .string x2.1.V.S]) (cells := []) ⟨rfl, rfl⟩ rfl (RC.nil _ _ _)
   refine WM.one 4 (by kernel_rfl) (me rfl (fun _ v Φx D w1 hq hw => Kn.of (fun k hk _ _ => by simp at hk) (AllIn.mem ⟨gM 0 rfl, gM 1 rfl, trivial⟩) hw) (e_lit (vs := [(0, .agg [.int .i64 x2.1.K, .string x2.1.S, .int .i64 x2.1.V.K, .int .i64 x2.1.V.N, .string x2.1.V.S].toArray)]) (C := #[.int .i64 x2.1.K, .string x2.1.S, .int .i64 x2.1.V.K, .int .i64 x2.1.V.N, .string x2.1.V.S]) RTArg.lasts Sl_35 Zr_83 rfl rfl rfl rfl (fill_made MC_83_1 (fill_cons (cells := [.int .i64 0, .string ⟨#[]⟩, .int .i64 0, .int .i64 0, .string ⟨#[]⟩]) (c := [.int .i64 x2.1.K, .string x2.1.S, .int .i64 x2.1.V.K, .int .i64 x2.1.V.N, .string x2.1.V.S]) (C' := [.int .i64 x2.1.K, .string x2.1.S, .int .i64 x2.1.V.K, .int .i64 x2.1.V.N, .string x2.1.V.S]) rfl rfl rfl rfl rfl (fill_nil))) rfl rc2 rfl (by simpa using Kw.nil)) rfl (fun v4 Φ_5 D2 q4 => ?_))
   obtain ⟨fr4, h4⟩ := q4
   replace h4 : OSl RTArg 83 5 Φ_5 [] v4 ([x2.1] : List TArg) := by simpa using h4
   replace ph0_0 := ph0_0.frame RI.lasts fr4 (Dj.empty _)
   replace k2 := k2.frame RTArg.lasts fr4 (Dj.empty _) (Dj.empty _)
   replace h3 := fr4 _ _ (by simp) h3
   obtain ⟨x3, hx3, h⟩ := bind_some h
   refine WM.one 5 (by kernel_rfl) (me rfl (fun _ v Φx D w1 hq hw => Kn.of (fun k hk _ _ => by simp at hk) (AllIn.mem ⟨gM 0 rfl, gM 1 rfl, trivial⟩) hw) (e_appF RTArg.lasts RTArg.one RTArg.flat Sl_35 Ei_83 rfl rfl rfl rfl rfl (js := [2]) (Rr := [ob v4, [pb0]]) rfl k2 h4.rsl hx3) rfl (fun v5 Φ_6 D3 q5 => ?_))
   obtain ⟨⟨ap3, fr5⟩, h5⟩ := q5
   replace ph0_0 := ph0_0.frame RI.lasts fr5 (ap3.o pa0_0)
   replace h3 := fr5 _ _ ((ap3.r (i := 1) rfl) _ (by simp)) h3
   refine mq 6 rfl (by kernel_rfl) (fun w1 hw => Kn.of (fun k hk _ _ => by simp at hk) (AllIn.mem ⟨gM 0 rfl, gM 1 rfl, trivial⟩) hw) (q_fieldAddr Fld_37_1 rfl) rfl ?_
   refine WM.one 7 (by kernel_rfl) (ms rfl (fun hc => by cases hc) (s_store (i := 0) (vs := [v5]) (C' := [.string x1.1, v5, .bool p1]) (O' := [(b_2, .cells #[.string x1.1, v5, .bool p1] 37 (0, 0)), (b_1, .cells #[.string (⟨#[]⟩ : ByteArray), .slice none 0 0, .bool false] 37 (0, 0))]) Sz_35 rfl rfl rfl (one_cells h5.one) rfl rfl ⟨h5.one, trivial⟩ rfl rfl) rfl ?_)
   refine WM.nil (by kernel_rfl) <| WT.inBlock <| WT.region <| lq (q_move rfl) rfl <| lq (q_add rfl rfl) rfl <| lq (q_assign rfl) rfl <| WL.nil ?_
   refine WT.inLoop (WT.mono (l' := [(0, .pointer (some ⟨pb0, 0, none⟩)), (4, .pointer (some ⟨b_1, 0, none⟩)), (5, .pointer (some ⟨b_2, 0, none⟩)), (6, .int .i64 s1), (7, .int .i64 (IntKind.i64.wrap (s3 + 1)))]) (S' := St w0 Φ_6 [(b_2, .cells #[.string x1.1, v5, .bool p1] 37 (0, 0)), (b_1, .cells #[.string (⟨#[]⟩ : ByteArray), .slice none 0 0, .bool false] 37 (0, 0))] [ob v5, [pb0]]) ⟨rfl, rfl, rfl, rfl, rfl, trivial⟩ (fun w1 hw => (hw.sel (js := [0, 1]) rfl).selO (js := [0, 0]) rfl) ?_)
   exact ih2 (Φ_6, x3, v5, IntKind.i64.wrap (s3 + 1), x2.2.i, x2.2.h) ⟨h, h5, h3, ph0_0⟩
  replace h := ite_f h c1
  refine WT.exit rfl <| WT.seq <| WT.region <| lq (q_loadN Tn_37 rfl (fun w1 hw => hw.rgO (i := 0) rfl 0 3 [.string x1.1, u1, .bool p1] rfl) rfl) rfl <| ls (s_store (i := 1) (vs := [.string x1.1, u1, .bool p1]) (C' := [.string x1.1, u1, .bool p1]) (O' := [(b_2, .cells #[.string x1.1, u1, .bool p1] 37 (0, 0)), (b_1, .cells #[.string x1.1, u1, .bool p1] 37 (0, 0))]) Sz_37 rfl rfl rfl rfl rfl rfl ⟨rfl, k2.one, rfl, trivial⟩ rfl rfl) rfl ?_
  refine WL.nil ?_
  refine WT.ret Try.func83 (resOk.one (rv_cell Tn_37 rfl (fun w1 hw => hw.rgO (i := 1) rfl 0 3 [.string x1.1, u1, .bool p1] rfl) rfl)) (fun w1 hw => ?_)
  subst hb0
  cases h
  refine postG_of_St (js := [0, 0]) hw rfl ⟨u1, rfl, rfl, k2, rfl, k3⟩
 refine WT.cond rfl (fun c2 => ?_) (fun c2 => ?_)
 ·replace h := ite_t h c2
  refine WT.region <| lq (q_assign rfl) rfl <| WL.nil <| WT.mono (l' := [(0, .pointer (some ⟨pb0, 0, none⟩)), (4, .pointer (some ⟨b_1, 0, none⟩)), (5, .pointer (some ⟨b_2, 0, none⟩)), (6, .int .i64 2)]) (S' := St w0 Φ_2 [(b_2, .cells #[.string x1.1, .slice none 0 0, .bool p1] 37 (0, 0)), (b_1, .cells #[.string (⟨#[]⟩ : ByteArray), .slice none 0 0, .bool false] 37 (0, 0))] [[pb0]]) ⟨rfl, rfl, rfl, rfl, trivial⟩ (fun w1 hw => (hw.sel (js := [0]) rfl).selO (js := [0, 0]) rfl) ?_
  exact K (2) h
 replace h := ite_f h c2
 refine WT.skip <| WT.mono (l' := [(0, .pointer (some ⟨pb0, 0, none⟩)), (4, .pointer (some ⟨b_1, 0, none⟩)), (5, .pointer (some ⟨b_2, 0, none⟩)), (6, .int .i64 1)]) (S' := St w0 Φ_2 [(b_2, .cells #[.string x1.1, .slice none 0 0, .bool p1] 37 (0, 0)), (b_1, .cells #[.string (⟨#[]⟩ : ByteArray), .slice none 0 0, .bool false] 37 (0, 0))] [[pb0]]) ⟨rfl, rfl, rfl, rfl, trivial⟩ (fun w1 hw => (hw.sel (js := [0]) rfl).selO (js := [0, 0]) rfl) ?_
 exact K (1) h
theorem m_s_l1Int_ok {Φ : Hp} {w : World} (hΦ : In Φ w) (N : Nat) (p0 : Tl1Cur) (p1 : (List Int)) {pv0_0 : Value} {pG0_0 : List Nat} {pb0 : Nat} {pv1 : Value} {pG1 : List Nat} (ph0_0 : RSl (RI .u8) 1 Φ pG0_0 pv0_0 p0.b) (pp0 : Φ pb0 = some (.cells #[pv0_0, .int .i64 p0.i, .int .i64 p0.h] 195 (0, 0))) (ph1 : RSl (RI .i64) 1 Φ pG1 pv1 p1) (pd0_0 : Dj pG0_0 [[pb0]].flatten) (pd1 : Dj pG1 [[pb0]].flatten) (hB : [[pb0]].flatten.Nodup) (hlt : ∀ k ∈ [[pb0]].flatten, k < w.heap.size) {r : Int × Tl1Cur} (h : m_s_l1Int N p0 p1 = some r) :
  Calls Try.prog 120 [.pointer (some ⟨pb0, 0, none⟩), pv1].toArray w (PostG Φ w [[pb0]].flatten (fun Φ' Fs v => v = .int .i64 r.1 ∧ Fs = [[pb0]] ∧ r.2.b = p0.b ∧ Φ' pb0 = some (.cells #[pv0_0, .int .i64 r.2.i, .int .i64 r.2.h] 195 (0, 0)))) := by
 refine enter Try.func120 rfl Try.ntmps120 rfl (St.start hΦ [[pb0]] hB hlt) ?_
 have pa0_0 : Old ⟨w, [[pb0]].flatten, Φ⟩ pG0_0 := Old.mk hΦ ph0_0.kn pd0_0
 have pa1 : Old ⟨w, [[pb0]].flatten, Φ⟩ pG1 := Old.mk hΦ ph1.kn pd1
 unfold m_s_l1Int at h
 refine WT.seq <| WT.region <| lq (q_assign rfl) rfl <| WL.nil <| WT.seq <| WT.region <| lq (q_move rfl) rfl <| lq (q_move rfl) rfl <| lq (q_move rfl) rfl <| lq (q_lenR Sl_27 rfl rfl ph1) rfl ?_
 obtain ⟨x1, hx1, h⟩ := bind_some h
 refine lc (k_call (js := [0]) (R := []) Fun_92 rfl rfl (fun w1 hw ap hl => m_s_l1Below_ok hw.fro N p0 (p1.length : Int) ph0_0 pp0 (ap.o pa0_0) ap.nd hl hx1)) rfl (fun v1 Φ_1 F1 q1 => ?_)
 obtain ⟨ap1, fr1, rfl, rfl, e1, h1⟩ := q1
 replace ph1 := ph1.frame RI.lasts fr1 (ap1.o pa1)
 replace ph0_0 := ph0_0.frame RI.lasts fr1 (ap1.o pa0_0)
 obtain ⟨x2, hx2, h⟩ := bind_some h
 obtain ⟨cs1, F2, -, g1, hb1, hs1, r1⟩ := ph1.el (idx_some hx2).2.2
 obtain ⟨rfl, -⟩ := r1
 refine lq (q_indexAddr Sl_27 rfl rfl ph1 hx2) rfl <| lq (q_load1 T1_3 rfl (fun w1 hw => (g1.of_eq 0 1 rfl rfl : rg _ _ _ [.int .i64 x2]).rangeAt hw.fro)) rfl <| lq (q_assign rfl) rfl <| WL.nil ?_
 refine WT.ret Try.func120 (resOk.one rfl) (fun w1 hw => ?_)
 cases h
 refine postG_of_St (js := [0]) hw rfl ⟨rfl, rfl, rfl, h1⟩
theorem m_s_l7Arg_ok {Φ : Hp} {w : World} (hΦ : In Φ w) (N : Nat) (p0 : Tl1Cur) {pv0_0 : Value} {pG0_0 : List Nat} {pb0 : Nat} (ph0_0 : RSl (RI .u8) 1 Φ pG0_0 pv0_0 p0.b) (pp0 : Φ pb0 = some (.cells #[pv0_0, .int .i64 p0.i, .int .i64 p0.h] 195 (0, 0))) (pd0_0 : Dj pG0_0 [[pb0]].flatten) (hB : [[pb0]].flatten.Nodup) (hlt : ∀ k ∈ [[pb0]].flatten, k < w.heap.size) {r : TArg × Tl1Cur} (h : m_s_l7Arg N p0 = some r) :
  Calls Try.prog 164 [.pointer (some ⟨pb0, 0, none⟩)].toArray w (PostG Φ w [[pb0]].flatten (fun Φ' Fs v => v = .agg [.int .i64 r.1.K, .string r.1.S, .int .i64 r.1.V.K, .int .i64 r.1.V.N, .string r.1.V.S].toArray ∧ Fs = [[pb0]] ∧ r.2.b = p0.b ∧ Φ' pb0 = some (.cells #[pv0_0, .int .i64 r.2.i, .int .i64 r.2.h] 195 (0, 0)))) := by
 refine enter Try.func164 rfl Try.ntmps164 rfl (St.start hΦ [[pb0]] hB hlt) ?_
 have pa0_0 : Old ⟨w, [[pb0]].flatten, Φ⟩ pG0_0 := Old.mk hΦ ph0_0.kn pd0_0
 unfold m_s_l7Arg at h
 refine WT.seq <| WT.region ?_
 refine ln (n_alloc (C := #[.int .i64 0, .string (⟨#[]⟩ : ByteArray), .int .i64 0, .int .i64 0, .string (⟨#[]⟩ : ByteArray)]) Zr_83 rfl) rfl (fun b_1 => ?_)
 refine WL.nil <| WT.seq <| WT.seq <| WT.region <| lq (q_move rfl) rfl ?_
 obtain ⟨x1, hx1, h⟩ := bind_some h
 refine lc (k_call (js := [0]) (R := []) Fun_85 rfl rfl (fun w1 hw ap hl => m_s_l1Once_ok hw.fro N p0 3 ph0_0 pp0 (ap.o pa0_0) ap.nd hl hx1)) rfl (fun v1 Φ_1 F1 q1 => ?_)
 obtain ⟨ap1, fr1, rfl, rfl, e1, h1⟩ := q1
 replace ph0_0 := ph0_0.frame RI.lasts fr1 (ap1.o pa0_0)
 refine WL.nil ?_
 refine WT.cond rfl (fun c1 => ?_) (fun c1 => ?_)
 ·replace h := ite_t h c1
  refine WT.seq <| WT.region <| lq (q_move rfl) rfl ?_
  obtain ⟨x2, hx2, h⟩ := bind_some h
  refine lc (k_call (js := [0]) (R := []) Fun_86 rfl rfl (fun w1 hw ap hl => m_s_l3Small_ok hw.fro N (⟨p0.b, x1.2.i, x1.2.h⟩ : Tl1Cur) ph0_0 h1 (ap.o pa0_0) ap.nd hl hx2)) rfl (fun v2 Φ_2 F2 q2 => ?_)
  obtain ⟨ap2, fr2, rfl, rfl, e2, h2⟩ := q2
  replace ph0_0 := ph0_0.frame RI.lasts fr2 (ap2.o pa0_0)
  obtain ⟨x3, hx3, h⟩ := bind_some h
  refine lp (p_call Fun_193 rfl (fun w1 hw => m_s_l6Val_ok hw.fro N x2.1 hx3)) rfl <| ls (s_store (i := 0) (vs := [.int .i64 x3.K, .string x3.S, .int .i64 x3.V.K, .int .i64 x3.V.N, .string x3.V.S]) (C' := [.int .i64 x3.K, .string x3.S, .int .i64 x3.V.K, .int .i64 x3.V.N, .string x3.V.S]) (O' := [(b_1, .cells #[.int .i64 x3.K, .string x3.S, .int .i64 x3.V.K, .int .i64 x3.V.N, .string x3.V.S] 83 (0, 0))]) Sz_83 rfl rfl rfl rfl rfl rfl ⟨rfl, rfl, rfl, rfl, rfl, trivial⟩ rfl rfl) rfl ?_
  refine WL.nil ?_
  refine WT.ret Try.func164 (resOk.one (rv_cell Tn_83 rfl (fun w1 hw => hw.rgO (i := 0) rfl 0 5 [.int .i64 x3.K, .string x3.S, .int .i64 x3.V.K, .int .i64 x3.V.N, .string x3.V.S] rfl) rfl)) (fun w1 hw => ?_)
  cases h
  refine postG_of_St (js := [0]) hw rfl ⟨rfl, rfl, rfl, h2⟩
 replace h := ite_f h c1
 refine WT.skip <| WT.seq <| WT.region <| lq (q_move rfl) rfl ?_
 have rc1 : RC RS 1 Φ_1 ([[], []] : List (List Nat)) [.string (⟨#[88]⟩ : ByteArray), .string (⟨#[89]⟩ : ByteArray)] ([(⟨#[88]⟩ : ByteArray), (⟨#[89]⟩ : ByteArray)] : List ByteArray) := RC.cons (c := [.string (⟨#[88]⟩ : ByteArray)]) (cells := [.string (⟨#[89]⟩ : ByteArray)]) ⟨rfl, rfl⟩ rfl (RC.cons (c := [.string (⟨#[89]⟩ : ByteArray)]) (cells := []) ⟨rfl, rfl⟩ rfl (RC.nil _ _ _))
 refine le' (e_lit (vs := [(0, .string (⟨#[88]⟩ : ByteArray)), (1, .string (⟨#[89]⟩ : ByteArray))]) (C := #[.string (⟨#[88]⟩ : ByteArray), .string (⟨#[89]⟩ : ByteArray)]) RS.lasts Sl_68 Zr_9 rfl rfl rfl rfl (fill_made MC_9_2 (fill_cons (cells := [.string ⟨#[]⟩, .string ⟨#[]⟩]) (c := [.string (⟨#[88]⟩ : ByteArray)]) (C' := [.string (⟨#[88]⟩ : ByteArray), .string ⟨#[]⟩]) rfl rfl rfl rfl rfl (fill_cons (cells := [.string (⟨#[88]⟩ : ByteArray), .string ⟨#[]⟩]) (c := [.string (⟨#[89]⟩ : ByteArray)]) (C' := [.string (⟨#[88]⟩ : ByteArray), .string (⟨#[89]⟩ : ByteArray)]) rfl rfl rfl rfl rfl (fill_nil)))) rfl rc1 rfl (by simpa using Kw.nil)) rfl (fun v3 Φ_3 D1 q3 => ?_)
 obtain ⟨fr3, h3⟩ := q3
 replace h3 : OSl RS 9 1 Φ_3 [] v3 ([(⟨#[88]⟩ : ByteArray), (⟨#[89]⟩ : ByteArray)] : List ByteArray) := by simpa using h3
 replace ph0_0 := ph0_0.frame RI.lasts fr3 (Dj.empty _)
 replace h1 := fr3 _ _ (by simp) h1
 obtain ⟨x4, hx4, h⟩ := bind_some h
 refine lc (k_call (js := [1]) (R := [ob v3]) Fun_151 rfl rfl (fun w1 hw ap hl => m_s_l1Str_ok hw.fro N (⟨p0.b, x1.2.i, x1.2.h⟩ : Tl1Cur) ([(⟨#[88]⟩ : ByteArray), (⟨#[89]⟩ : ByteArray)] : List ByteArray) ph0_0 h1 h3.rsl (ap.o pa0_0) (Dj.app (ap.r (i := 0) rfl) (Dj.nil _)) ap.nd hl hx4)) rfl (fun v4 Φ_4 F3 q4 => ?_)
 obtain ⟨ap3, fr4, rfl, rfl, e3, h4⟩ := q4
 replace ph0_0 := ph0_0.frame RI.lasts fr4 (ap3.o pa0_0)
 obtain ⟨x5, hx5, h⟩ := bind_some h
 refine lp (p_call Fun_194 rfl (fun w1 hw => m_s_l6Var_ok hw.fro N x4.1 hx5)) rfl <| ls (s_store (i := 0) (vs := [.int .i64 x5.K, .string x5.S, .int .i64 x5.V.K, .int .i64 x5.V.N, .string x5.V.S]) (C' := [.int .i64 x5.K, .string x5.S, .int .i64 x5.V.K, .int .i64 x5.V.N, .string x5.V.S]) (O' := [(b_1, .cells #[.int .i64 x5.K, .string x5.S, .int .i64 x5.V.K, .int .i64 x5.V.N, .string x5.V.S] 83 (0, 0))]) Sz_83 rfl rfl rfl rfl rfl rfl ⟨rfl, rfl, rfl, rfl, rfl, trivial⟩ rfl rfl) rfl ?_
 refine WL.nil ?_
 refine WT.ret Try.func164 (resOk.one (rv_cell Tn_83 rfl (fun w1 hw => hw.rgO (i := 0) rfl 0 5 [.int .i64 x5.K, .string x5.S, .int .i64 x5.V.K, .int .i64 x5.V.N, .string x5.V.S] rfl) rfl)) (fun w1 hw => ?_)
 cases h
 refine postG_of_St (js := [0]) hw rfl ⟨rfl, rfl, rfl, h4⟩
theorem m_s_l7Draw_ok {Φ : Hp} {w : World} (hΦ : In Φ w) (N : Nat) (p0 : Tl1Cur) {pv0_0 : Value} {pG0_0 : List Nat} {pb0 : Nat} (ph0_0 : RSl (RI .u8) 1 Φ pG0_0 pv0_0 p0.b) (pp0 : Φ pb0 = some (.cells #[pv0_0, .int .i64 p0.i, .int .i64 p0.h] 195 (0, 0))) (pd0_0 : Dj pG0_0 [[pb0]].flatten) (hB : [[pb0]].flatten.Nodup) (hlt : ∀ k ∈ [[pb0]].flatten, k < w.heap.size) {r : TCond × Tl1Cur} (h : m_s_l7Draw N p0 = some r) :
  Calls Try.prog 174 [.pointer (some ⟨pb0, 0, none⟩)].toArray w (PostG Φ w [[pb0]].flatten (fun Φ' Fs v => v = .agg [.int .i64 r.1.Op, .int .i64 r.1.L.K, .string r.1.L.S, .int .i64 r.1.L.V.K, .int .i64 r.1.L.V.N, .string r.1.L.V.S, .int .i64 r.1.R.K, .string r.1.R.S, .int .i64 r.1.R.V.K, .int .i64 r.1.R.V.N, .string r.1.R.V.S].toArray ∧ Fs = [[pb0]] ∧ r.2.b = p0.b ∧ Φ' pb0 = some (.cells #[pv0_0, .int .i64 r.2.i, .int .i64 r.2.h] 195 (0, 0)))) := by
 refine enter Try.func174 rfl Try.ntmps174 rfl (St.start hΦ [[pb0]] hB hlt) ?_
 have pa0_0 : Old ⟨w, [[pb0]].flatten, Φ⟩ pG0_0 := Old.mk hΦ ph0_0.kn pd0_0
 unfold m_s_l7Draw at h
 refine WT.seq <| WT.region ?_
 refine ln (n_alloc (C := #[.int .i64 0, .int .i64 0, .string (⟨#[]⟩ : ByteArray), .int .i64 0, .int .i64 0, .string (⟨#[]⟩ : ByteArray), .int .i64 0, .string (⟨#[]⟩ : ByteArray), .int .i64 0, .int .i64 0, .string (⟨#[]⟩ : ByteArray)]) Zr_206 rfl) rfl (fun b_1 => ?_)
 refine WL.nil <| WT.seq <| WT.region <| lq (q_move rfl) rfl ?_
 obtain ⟨x1, hx1, h⟩ := bind_some h
 refine lc (k_call (js := [0]) (R := []) Fun_92 rfl rfl (fun w1 hw ap hl => m_s_l1Below_ok hw.fro N p0 3 ph0_0 pp0 (ap.o pa0_0) ap.nd hl hx1)) rfl (fun v1 Φ_1 F1 q1 => ?_)
 obtain ⟨ap1, fr1, rfl, rfl, e1, h1⟩ := q1
 replace ph0_0 := ph0_0.frame RI.lasts fr1 (ap1.o pa0_0)
 refine lq (q_add rfl rfl) rfl <| lq (q_move rfl) rfl ?_
 obtain ⟨x2, hx2, h⟩ := bind_some h
 refine lc (k_call (js := [0]) (R := []) Fun_164 rfl rfl (fun w1 hw ap hl => m_s_l7Arg_ok hw.fro N (⟨p0.b, x1.2.i, x1.2.h⟩ : Tl1Cur) ph0_0 h1 (ap.o pa0_0) ap.nd hl hx2)) rfl (fun v2 Φ_2 F2 q2 => ?_)
 obtain ⟨ap2, fr2, rfl, rfl, e2, h2⟩ := q2
 replace ph0_0 := ph0_0.frame RI.lasts fr2 (ap2.o pa0_0)
 refine lq (q_move rfl) rfl ?_
 obtain ⟨x3, hx3, h⟩ := bind_some h
 refine lc (k_call (js := [0]) (R := []) Fun_164 rfl rfl (fun w1 hw ap hl => m_s_l7Arg_ok hw.fro N (⟨p0.b, x2.2.i, x2.2.h⟩ : Tl1Cur) ph0_0 h2 (ap.o pa0_0) ap.nd hl hx3)) rfl (fun v3 Φ_3 F3 q3 => ?_)
 obtain ⟨ap3, fr3, rfl, rfl, e3, h3⟩ := q3
 replace ph0_0 := ph0_0.frame RI.lasts fr3 (ap3.o pa0_0)
 refine lq (q_build (vs := [(0, .int .i64 (IntKind.i64.wrap (1 + x1.1))), (1, .agg [.int .i64 x2.1.K, .string x2.1.S, .int .i64 x2.1.V.K, .int .i64 x2.1.V.N, .string x2.1.V.S].toArray), (2, .agg [.int .i64 x3.1.K, .string x3.1.S, .int .i64 x3.1.V.K, .int .i64 x3.1.V.N, .string x3.1.V.S].toArray)]) (C := #[.int .i64 (IntKind.i64.wrap (1 + x1.1)), .int .i64 x2.1.K, .string x2.1.S, .int .i64 x2.1.V.K, .int .i64 x2.1.V.N, .string x2.1.V.S, .int .i64 x3.1.K, .string x3.1.S, .int .i64 x3.1.V.K, .int .i64 x3.1.V.N, .string x3.1.V.S]) Pl_206 Zr_206 rfl (fill_cons (cells := [.int .i64 0, .int .i64 0, .string ⟨#[]⟩, .int .i64 0, .int .i64 0, .string ⟨#[]⟩, .int .i64 0, .string ⟨#[]⟩, .int .i64 0, .int .i64 0, .string ⟨#[]⟩]) (c := [.int .i64 (IntKind.i64.wrap (1 + x1.1))]) (C' := [.int .i64 (IntKind.i64.wrap (1 + x1.1)), .int .i64 0, .string ⟨#[]⟩, .int .i64 0, .int .i64 0, .string ⟨#[]⟩, .int .i64 0, .string ⟨#[]⟩, .int .i64 0, .int .i64 0, .string ⟨#[]⟩]) rfl rfl rfl rfl rfl (fill_cons (cells := [.int .i64 (IntKind.i64.wrap (1 + x1.1)), .int .i64 0, .string ⟨#[]⟩, .int .i64 0, .int .i64 0, .string ⟨#[]⟩, .int .i64 0, .string ⟨#[]⟩, .int .i64 0, .int .i64 0, .string ⟨#[]⟩]) (c := [.int .i64 x2.1.K, .string x2.1.S, .int .i64 x2.1.V.K, .int .i64 x2.1.V.N, .string x2.1.V.S]) (C' := [.int .i64 (IntKind.i64.wrap (1 + x1.1)), .int .i64 x2.1.K, .string x2.1.S, .int .i64 x2.1.V.K, .int .i64 x2.1.V.N, .string x2.1.V.S, .int .i64 0, .string ⟨#[]⟩, .int .i64 0, .int .i64 0, .string ⟨#[]⟩]) rfl rfl rfl rfl rfl (fill_cons (cells := [.int .i64 (IntKind.i64.wrap (1 + x1.1)), .int .i64 x2.1.K, .string x2.1.S, .int .i64 x2.1.V.K, .int .i64 x2.1.V.N, .string x2.1.V.S, .int .i64 0, .string ⟨#[]⟩, .int .i64 0, .int .i64 0, .string ⟨#[]⟩]) (c := [.int .i64 x3.1.K, .string x3.1.S, .int .i64 x3.1.V.K, .int .i64 x3.1.V.N, .string x3.1.V.S]) (C' := [.int .i64 (IntKind.i64.wrap (1 + x1.1)), .int .i64 x2.1.K, .string x2.1.S, .int .i64 x2.1.V.K, .int .i64 x2.1.V.N, .string x2.1.V.S, .int .i64 x3.1.K, .string x3.1.S, .int .i64 x3.1.V.K, .int .i64 x3.1.V.N, .string x3.1.V.S]) rfl rfl rfl rfl rfl (fill_nil))))) rfl ?_
 refine ls (s_store (i := 0) (vs := [.int .i64 (IntKind.i64.wrap (1 + x1.1)), .int .i64 x2.1.K, .string x2.1.S, .int .i64 x2.1.V.K, .int .i64 x2.1.V.N, .string x2.1.V.S, .int .i64 x3.1.K, .string x3.1.S, .int .i64 x3.1.V.K, .int .i64 x3.1.V.N, .string x3.1.V.S]) (C' := [.int .i64 (IntKind.i64.wrap (1 + x1.1)), .int .i64 x2.1.K, .string x2.1.S, .int .i64 x2.1.V.K, .int .i64 x2.1.V.N, .string x2.1.V.S, .int .i64 x3.1.K, .string x3.1.S, .int .i64 x3.1.V.K, .int .i64 x3.1.V.N, .string x3.1.V.S]) (O' := [(b_1, .cells #[.int .i64 (IntKind.i64.wrap (1 + x1.1)), .int .i64 x2.1.K, .string x2.1.S, .int .i64 x2.1.V.K, .int .i64 x2.1.V.N, .string x2.1.V.S, .int .i64 x3.1.K, .string x3.1.S, .int .i64 x3.1.V.K, .int .i64 x3.1.V.N, .string x3.1.V.S] 206 (0, 0))]) Sz_206 rfl rfl rfl rfl rfl rfl ⟨rfl, rfl, rfl, rfl, rfl, rfl, rfl, rfl, rfl, rfl, rfl, trivial⟩ rfl rfl) rfl ?_
 refine WL.nil ?_
 refine WT.ret Try.func174 (resOk.one (rv_cell Tn_206 rfl (fun w1 hw => hw.rgO (i := 0) rfl 0 11 [.int .i64 (IntKind.i64.wrap (1 + x1.1)), .int .i64 x2.1.K, .string x2.1.S, .int .i64 x2.1.V.K, .int .i64 x2.1.V.N, .string x2.1.V.S, .int .i64 x3.1.K, .string x3.1.S, .int .i64 x3.1.V.K, .int .i64 x3.1.V.N, .string x3.1.V.S] rfl) rfl)) (fun w1 hw => ?_)
 cases h
 refine postG_of_St (js := [0]) hw rfl ⟨rfl, rfl, rfl, h3⟩
theorem m_s_l9Known_ok {Φ : Hp} {w : World} (hΦ : In Φ w) (N : Nat) (p0 : TArg) (p1 : (List ByteArray)) {pv1 : Value} {pG1 : List Nat} (ph1 : RSl RS 1 Φ pG1 pv1 p1) {r : Bool} (h : m_s_l9Known N p0 p1 = some r) :
  Calls Try.prog 203 [.agg [.int .i64 p0.K, .string p0.S, .int .i64 p0.V.K, .int .i64 p0.V.N, .string p0.V.S].toArray, pv1].toArray w (Post (.bool r) w) := by
 refine enter Try.func203 rfl Try.ntmps203 rfl (St.start0 hΦ) ?_
 unfold m_s_l9Known at h
 refine WT.seq <| WT.region ?_
 refine ln (n_box (C := #[.int .i64 p0.K, .string p0.S, .int .i64 p0.V.K, .int .i64 p0.V.N, .string p0.V.S]) rfl rfl) rfl (fun b_1 => ?_)
 refine lq (q_assign rfl) rfl <| WL.nil <| WT.seq <| WT.region <| lq (q_fieldAddr Fld_83_0 rfl) rfl <| lq (q_load1 T1_3 rfl (fun w1 hw => hw.rgO (i := 0) rfl 0 1 [.int .i64 p0.K] rfl)) rfl <| lq (q_neq rfl rfl) rfl <| lq (q_move rfl) rfl ?_
 obtain ⟨b1, hb_1, h⟩ := bind_some h
 refine WL.cutN 5 [(13, .bool b1), (4, .bool false)] ?_ (fun K => ?_)
 rotate_left
 ·refine WL.split (d := 8) rfl (fun c1 => ?_) (fun c1 => ?_)
  ·replace hb_1 := ite_t hb_1 c1
   refine WL.no rfl rfl rfl rfl <| WL.no rfl rfl rfl rfl <| WL.no rfl rfl rfl rfl <| WL.no rfl rfl rfl rfl <| WL.q (q_pick1 rfl rfl) rfl rfl rfl ?_
   cases hb_1
   exact WL.keep (by exact ⟨rfl, rfl, trivial⟩) K
  ·replace hb_1 := ite_f hb_1 c1
   refine WL.yes rfl rfl <| lq (q_move rfl) rfl <| WL.yes rfl rfl <| lq (q_fieldAddr Fld_83_1 rfl) rfl <| WL.yes rfl rfl <| lq (q_load1 T1_9 rfl (fun w1 hw => hw.rgO (i := 0) rfl 1 1 [.string p0.S] rfl)) rfl <| WL.yes rfl rfl ?_
   obtain ⟨x1, hx1, hb_1⟩ := bind_some hb_1
   refine lp (p_call Fun_112 rfl (fun w1 hw => m_s_l6Has_ok hw.fro N p1 p0.S ph1 hx1)) rfl <| WL.q (q_pick0 rfl rfl) rfl rfl rfl ?_
   cases hb_1
   exact WL.keep (by exact ⟨rfl, rfl, trivial⟩) K
 refine lq (q_assign rfl) rfl <| WL.nil ?_
 refine WT.ret Try.func203 (resOk.one rfl) (fun w1 hw => ?_)
 cases h
 exact post_of_St hw
theorem m_s_l9Fit_ok {Φ : Hp} {w : World} (hΦ : In Φ w) (N : Nat) (p0 : TArg) (p1 : (List ByteArray)) {pv1 : Value} {pG1 : List Nat} (ph1 : RSl RS 1 Φ pG1 pv1 p1) {r : TArg} (h : m_s_l9Fit N p0 p1 = some r) :
  Calls Try.prog 175 [.agg [.int .i64 p0.K, .string p0.S, .int .i64 p0.V.K, .int .i64 p0.V.N, .string p0.V.S].toArray, pv1].toArray w (Post (.agg [.int .i64 r.K, .string r.S, .int .i64 r.V.K, .int .i64 r.V.N, .string r.V.S].toArray) w) := by
 refine enter Try.func175 rfl Try.ntmps175 rfl (St.start0 hΦ) ?_
 unfold m_s_l9Fit at h
 refine WT.seq <| WT.region ?_
 refine ln (n_box (C := #[.int .i64 p0.K, .string p0.S, .int .i64 p0.V.K, .int .i64 p0.V.N, .string p0.V.S]) rfl rfl) rfl (fun b_1 => ?_)
 refine ln (n_alloc (C := #[.int .i64 0, .string (⟨#[]⟩ : ByteArray), .int .i64 0, .int .i64 0, .string (⟨#[]⟩ : ByteArray)]) Zr_83 rfl) rfl (fun b_2 => ?_)
 refine WL.nil <| WT.seq <| WT.seq <| WT.region <| lq (q_loadN Tn_83 rfl (fun w1 hw => hw.rgO (i := 1) rfl 0 5 [.int .i64 p0.K, .string p0.S, .int .i64 p0.V.K, .int .i64 p0.V.N, .string p0.V.S] rfl) rfl) rfl <| lq (q_move rfl) rfl ?_
 obtain ⟨x1, hx1, h⟩ := bind_some h
 refine lp (p_call Fun_203 rfl (fun w1 hw => m_s_l9Known_ok hw.fro N p0 p1 ph1 hx1)) rfl <| WL.nil ?_
 refine WT.cond rfl (fun c1 => ?_) (fun c1 => ?_)
 ·replace h := ite_t h c1
  refine WT.seq <| WT.region <| lq (q_loadN Tn_83 rfl (fun w1 hw => hw.rgO (i := 1) rfl 0 5 [.int .i64 p0.K, .string p0.S, .int .i64 p0.V.K, .int .i64 p0.V.N, .string p0.V.S] rfl) rfl) rfl <| ls (s_store (i := 0) (vs := [.int .i64 p0.K, .string p0.S, .int .i64 p0.V.K, .int .i64 p0.V.N, .string p0.V.S]) (C' := [.int .i64 p0.K, .string p0.S, .int .i64 p0.V.K, .int .i64 p0.V.N, .string p0.V.S]) (O' := [(b_2, .cells #[.int .i64 p0.K, .string p0.S, .int .i64 p0.V.K, .int .i64 p0.V.N, .string p0.V.S] 83 (0, 0)), (b_1, .cells #[.int .i64 p0.K, .string p0.S, .int .i64 p0.V.K, .int .i64 p0.V.N, .string p0.V.S] 83 (0, 0))]) Sz_83 rfl rfl rfl rfl rfl rfl ⟨rfl, rfl, rfl, rfl, rfl, trivial⟩ rfl rfl) rfl ?_
  refine WL.nil ?_
  refine WT.ret Try.func175 (resOk.one (rv_cell Tn_83 rfl (fun w1 hw => hw.rgO (i := 0) rfl 0 5 [.int .i64 p0.K, .string p0.S, .int .i64 p0.V.K, .int .i64 p0.V.N, .string p0.V.S] rfl) rfl)) (fun w1 hw => ?_)
  cases h
  exact post_of_St hw
 replace h := ite_f h c1
 refine WT.skip <| WT.seq <| WT.seq <| WT.region <| lq (q_move rfl) rfl <| lq (q_lenR Sl_68 rfl rfl ph1) rfl <| lq (q_eql rfl rfl) rfl <| WL.nil ?_
 refine WT.cond rfl (fun c2 => ?_) (fun c2 => ?_)
 ·replace h := ite_t h c2
  refine WT.seq <| WT.region <| lq (q_build (vs := [(0, .int .i64 1), (1, .int .i64 1)]) (C := #[.int .i64 1, .int .i64 1, .string (⟨#[]⟩ : ByteArray)]) Pl_79 Zr_79 rfl (fill_cons (cells := [.int .i64 0, .int .i64 0, .string ⟨#[]⟩]) (c := [.int .i64 1]) (C' := [.int .i64 1, .int .i64 0, .string ⟨#[]⟩]) rfl rfl rfl rfl rfl (fill_cons (cells := [.int .i64 1, .int .i64 0, .string ⟨#[]⟩]) (c := [.int .i64 1]) (C' := [.int .i64 1, .int .i64 1, .string ⟨#[]⟩]) rfl rfl rfl rfl rfl (fill_nil)))) rfl ?_
  obtain ⟨x2, hx2, h⟩ := bind_some h
  refine lp (p_call Fun_193 rfl (fun w1 hw => m_s_l6Val_ok hw.fro N (⟨1, 1, (⟨#[]⟩ : ByteArray)⟩ : TVal) hx2)) rfl <| ls (s_store (i := 0) (vs := [.int .i64 x2.K, .string x2.S, .int .i64 x2.V.K, .int .i64 x2.V.N, .string x2.V.S]) (C' := [.int .i64 x2.K, .string x2.S, .int .i64 x2.V.K, .int .i64 x2.V.N, .string x2.V.S]) (O' := [(b_2, .cells #[.int .i64 x2.K, .string x2.S, .int .i64 x2.V.K, .int .i64 x2.V.N, .string x2.V.S] 83 (0, 0)), (b_1, .cells #[.int .i64 p0.K, .string p0.S, .int .i64 p0.V.K, .int .i64 p0.V.N, .string p0.V.S] 83 (0, 0))]) Sz_83 rfl rfl rfl rfl rfl rfl ⟨rfl, rfl, rfl, rfl, rfl, trivial⟩ rfl rfl) rfl ?_
  refine WL.nil ?_
  refine WT.ret Try.func175 (resOk.one (rv_cell Tn_83 rfl (fun w1 hw => hw.rgO (i := 0) rfl 0 5 [.int .i64 x2.K, .string x2.S, .int .i64 x2.V.K, .int .i64 x2.V.N, .string x2.V.S] rfl) rfl)) (fun w1 hw => ?_)
  cases h
  exact post_of_St hw
 replace h := ite_f h c2
 refine WT.skip <| WT.seq <| WT.region <| lq (q_move rfl) rfl ?_
 obtain ⟨x3, hx3, h⟩ := bind_some h
 obtain ⟨cs1, F1, -, g1, hb1, hs1, r1⟩ := ph1.el (idx_some hx3).2.2
 obtain ⟨rfl, -⟩ := r1
 refine lq (q_indexAddr Sl_68 rfl rfl ph1 hx3) rfl <| lq (q_load1 T1_9 rfl (fun w1 hw => (g1.of_eq 0 1 rfl rfl : rg _ _ _ [.string x3]).rangeAt hw.fro)) rfl ?_
 obtain ⟨x4, hx4, h⟩ := bind_some h
 refine lp (p_call Fun_194 rfl (fun w1 hw => m_s_l6Var_ok hw.fro N x3 hx4)) rfl <| ls (s_store (i := 0) (vs := [.int .i64 x4.K, .string x4.S, .int .i64 x4.V.K, .int .i64 x4.V.N, .string x4.V.S]) (C' := [.int .i64 x4.K, .string x4.S, .int .i64 x4.V.K, .int .i64 x4.V.N, .string x4.V.S]) (O' := [(b_2, .cells #[.int .i64 x4.K, .string x4.S, .int .i64 x4.V.K, .int .i64 x4.V.N, .string x4.V.S] 83 (0, 0)), (b_1, .cells #[.int .i64 p0.K, .string p0.S, .int .i64 p0.V.K, .int .i64 p0.V.N, .string p0.V.S] 83 (0, 0))]) Sz_83 rfl rfl rfl rfl rfl rfl ⟨rfl, rfl, rfl, rfl, rfl, trivial⟩ rfl rfl) rfl ?_
 refine WL.nil ?_
 refine WT.ret Try.func175 (resOk.one (rv_cell Tn_83 rfl (fun w1 hw => hw.rgO (i := 0) rfl 0 5 [.int .i64 x4.K, .string x4.S, .int .i64 x4.V.K, .int .i64 x4.V.N, .string x4.V.S] rfl) rfl)) (fun w1 hw => ?_)
 cases h
 exact post_of_St hw
theorem m_s_l8Expr_ok {Φ : Hp} {w : World} (hΦ : In Φ w) (N : Nat) (p0 : Tl1Cur) {pv0_0 : Value} {pG0_0 : List Nat} {pb0 : Nat} (ph0_0 : RSl (RI .u8) 1 Φ pG0_0 pv0_0 p0.b) (pp0 : Φ pb0 = some (.cells #[pv0_0, .int .i64 p0.i, .int .i64 p0.h] 195 (0, 0))) (pd0_0 : Dj pG0_0 [[pb0]].flatten) (hB : [[pb0]].flatten.Nodup) (hlt : ∀ k ∈ [[pb0]].flatten, k < w.heap.size) {r : TExpr × Tl1Cur} (h : m_s_l8Expr N p0 = some r) :
  Calls Try.prog 113 [.pointer (some ⟨pb0, 0, none⟩)].toArray w (PostG Φ w [[pb0]].flatten (fun Φ' Fs v => v = .agg [.string r.1.Op, .int .i64 r.1.L.K, .string r.1.L.S, .int .i64 r.1.L.V.K, .int .i64 r.1.L.V.N, .string r.1.L.V.S, .int .i64 r.1.R.K, .string r.1.R.S, .int .i64 r.1.R.V.K, .int .i64 r.1.R.V.N, .string r.1.R.V.S].toArray ∧ Fs = [[pb0]] ∧ r.2.b = p0.b ∧ Φ' pb0 = some (.cells #[pv0_0, .int .i64 r.2.i, .int .i64 r.2.h] 195 (0, 0)))) := by
 refine enter Try.func113 rfl Try.ntmps113 rfl (St.start hΦ [[pb0]] hB hlt) ?_
 have pa0_0 : Old ⟨w, [[pb0]].flatten, Φ⟩ pG0_0 := Old.mk hΦ ph0_0.kn pd0_0
 revert pa0_0
 generalize hb0 : (⟨w, [[pb0]].flatten, Φ⟩ : Base) = w0
 intro pa0_0
 unfold m_s_l8Expr at h
 refine WT.seq <| WT.region ?_
 refine ln (n_alloc (C := #[.string (⟨#[]⟩ : ByteArray), .int .i64 0, .string (⟨#[]⟩ : ByteArray), .int .i64 0, .int .i64 0, .string (⟨#[]⟩ : ByteArray), .int .i64 0, .string (⟨#[]⟩ : ByteArray), .int .i64 0, .int .i64 0, .string (⟨#[]⟩ : ByteArray)]) Zr_85 rfl) rfl (fun b_1 => ?_)
 refine WL.nil <| WT.seq <| WT.region <| lq (q_move rfl) rfl ?_
 obtain ⟨x1, hx1, h⟩ := bind_some h
 refine lc (k_call (js := [0]) (R := []) Fun_164 rfl rfl (fun w1 hw ap hl => m_s_l7Arg_ok hw.fro N p0 ph0_0 pp0 (ap.o pa0_0) ap.nd hl hx1)) rfl (fun v1 Φ_1 F1 q1 => ?_)
 obtain ⟨ap1, fr1, rfl, rfl, e1, h1⟩ := q1
 replace ph0_0 := ph0_0.frame RI.lasts fr1 (ap1.o pa0_0)
 refine lq (q_build (vs := [(1, .agg [.int .i64 x1.1.K, .string x1.1.S, .int .i64 x1.1.V.K, .int .i64 x1.1.V.N, .string x1.1.V.S].toArray)]) (C := #[.string (⟨#[]⟩ : ByteArray), .int .i64 x1.1.K, .string x1.1.S, .int .i64 x1.1.V.K, .int .i64 x1.1.V.N, .string x1.1.V.S, .int .i64 0, .string (⟨#[]⟩ : ByteArray), .int .i64 0, .int .i64 0, .string (⟨#[]⟩ : ByteArray)]) Pl_85 Zr_85 rfl (fill_cons (cells := [.string ⟨#[]⟩, .int .i64 0, .string ⟨#[]⟩, .int .i64 0, .int .i64 0, .string ⟨#[]⟩, .int .i64 0, .string ⟨#[]⟩, .int .i64 0, .int .i64 0, .string ⟨#[]⟩]) (c := [.int .i64 x1.1.K, .string x1.1.S, .int .i64 x1.1.V.K, .int .i64 x1.1.V.N, .string x1.1.V.S]) (C' := [.string ⟨#[]⟩, .int .i64 x1.1.K, .string x1.1.S, .int .i64 x1.1.V.K, .int .i64 x1.1.V.N, .string x1.1.V.S, .int .i64 0, .string ⟨#[]⟩, .int .i64 0, .int .i64 0, .string ⟨#[]⟩]) rfl rfl rfl rfl rfl (fill_nil))) rfl ?_
 refine ln (n_alloc (C := #[.string (⟨#[]⟩ : ByteArray), .int .i64 0, .string (⟨#[]⟩ : ByteArray), .int .i64 0, .int .i64 0, .string (⟨#[]⟩ : ByteArray), .int .i64 0, .string (⟨#[]⟩ : ByteArray), .int .i64 0, .int .i64 0, .string (⟨#[]⟩ : ByteArray)]) Zr_85 rfl) rfl (fun b_2 => ?_)
 refine ls (s_store (i := 0) (vs := [.string (⟨#[]⟩ : ByteArray), .int .i64 x1.1.K, .string x1.1.S, .int .i64 x1.1.V.K, .int .i64 x1.1.V.N, .string x1.1.V.S, .int .i64 0, .string (⟨#[]⟩ : ByteArray), .int .i64 0, .int .i64 0, .string (⟨#[]⟩ : ByteArray)]) (C' := [.string (⟨#[]⟩ : ByteArray), .int .i64 x1.1.K, .string x1.1.S, .int .i64 x1.1.V.K, .int .i64 x1.1.V.N, .string x1.1.V.S, .int .i64 0, .string (⟨#[]⟩ : ByteArray), .int .i64 0, .int .i64 0, .string (⟨#[]⟩ : ByteArray)]) (O' := [(b_2, .cells #[.string (⟨#[]⟩ : ByteArray), .int .i64 x1.1.K, .string x1.1.S, .int .i64 x1.1.V.K, .int .i64 x1.1.V.N, .string x1.1.V.S, .int .i64 0, .string (⟨#[]⟩ : ByteArray), .int .i64 0, .int .i64 0, .string (⟨#[]⟩ : ByteArray)] 85 (0, 0)), (b_1, .cells #[.string (⟨#[]⟩ : ByteArray), .int .i64 0, .string (⟨#[]⟩ : ByteArray), .int .i64 0, .int .i64 0, .string (⟨#[]⟩ : ByteArray), .int .i64 0, .string (⟨#[]⟩ : ByteArray), .int .i64 0, .int .i64 0, .string (⟨#[]⟩ : ByteArray)] 85 (0, 0))]) Sz_85 rfl rfl rfl rfl rfl rfl ⟨rfl, rfl, rfl, rfl, rfl, rfl, rfl, rfl, rfl, rfl, rfl, trivial⟩ rfl rfl) rfl ?_
 refine WL.nil <| WT.seq <| WT.seq <| WT.region <| lq (q_move rfl) rfl ?_
 obtain ⟨x2, hx2, h⟩ := bind_some h
 refine lc (k_call (js := [0]) (R := []) Fun_85 rfl rfl (fun w1 hw ap hl => m_s_l1Once_ok hw.fro N (⟨p0.b, x1.2.i, x1.2.h⟩ : Tl1Cur) 4 ph0_0 h1 (ap.o pa0_0) ap.nd hl hx2)) rfl (fun v2 Φ_2 F2 q2 => ?_)
 obtain ⟨ap2, fr2, rfl, rfl, e2, h2⟩ := q2
 replace ph0_0 := ph0_0.frame RI.lasts fr2 (ap2.o pa0_0)
 refine WL.nil ?_
 refine cut (σ := Hp × Int × Int × ByteArray × Int × ByteArray × Int × Int × ByteArray) (fun s => [(2, .pointer (some ⟨b_1, 0, none⟩)), (3, .pointer (some ⟨b_2, 0, none⟩))]) (fun s => St w0 s.1 [(b_2, .cells #[.string s.2.2.2.1, .int .i64 x1.1.K, .string x1.1.S, .int .i64 x1.1.V.K, .int .i64 x1.1.V.N, .string x1.1.V.S, .int .i64 s.2.2.2.2.1, .string s.2.2.2.2.2.1, .int .i64 s.2.2.2.2.2.2.1, .int .i64 s.2.2.2.2.2.2.2.1, .string s.2.2.2.2.2.2.2.2] 85 (0, 0)), (b_1, .cells #[.string (⟨#[]⟩ : ByteArray), .int .i64 0, .string (⟨#[]⟩ : ByteArray), .int .i64 0, .int .i64 0, .string (⟨#[]⟩ : ByteArray), .int .i64 0, .string (⟨#[]⟩ : ByteArray), .int .i64 0, .int .i64 0, .string (⟨#[]⟩ : ByteArray)] 85 (0, 0))] [[pb0]]) (fun s => m_s_l8Expr_j1 N p0 x1 s.2.1 s.2.2.1 s.2.2.2.1 s.2.2.2.2.1 s.2.2.2.2.2.1 s.2.2.2.2.2.2.1 s.2.2.2.2.2.2.2.1 s.2.2.2.2.2.2.2.2 = some r ∧ (s.1 pb0 = some (.cells #[pv0_0, .int .i64 s.2.1, .int .i64 s.2.2.1] 195 (0, 0))) ∧ (RSl (RI .u8) 1 s.1 pG0_0 pv0_0 p0.b)) (fun s hm => ?_) (fun K => ?_)
 ·clear h
  obtain ⟨Φ_3, s1, s2, s3, s4, s5, s6, s7, s8⟩ := s
  obtain ⟨h, k1, ph0_0⟩ := hm
  replace h : m_s_l8Expr_j1 N p0 x1 s1 s2 s3 s4 s5 s6 s7 s8 = some r := h
  replace k1 : Φ_3 pb0 = some (.cells #[pv0_0, .int .i64 s1, .int .i64 s2] 195 (0, 0)) := k1
  replace ph0_0 : RSl (RI .u8) 1 Φ_3 pG0_0 pv0_0 p0.b := ph0_0
  show WT _ _ [(2, .pointer (some ⟨b_1, 0, none⟩)), (3, .pointer (some ⟨b_2, 0, none⟩))] (St w0 Φ_3 [(b_2, .cells #[.string s3, .int .i64 x1.1.K, .string x1.1.S, .int .i64 x1.1.V.K, .int .i64 x1.1.V.N, .string x1.1.V.S, .int .i64 s4, .string s5, .int .i64 s6, .int .i64 s7, .string s8] 85 (0, 0)), (b_1, .cells #[.string (⟨#[]⟩ : ByteArray), .int .i64 0, .string (⟨#[]⟩ : ByteArray), .int .i64 0, .int .i64 0, .string (⟨#[]⟩ : ByteArray), .int .i64 0, .string (⟨#[]⟩ : ByteArray), .int .i64 0, .int .i64 0, .string (⟨#[]⟩ : ByteArray)] 85 (0, 0))] [[pb0]])
  unfold m_s_l8Expr_j1 at h
  refine WT.seq <| WT.region <| lq (q_loadN Tn_85 rfl (fun w1 hw => hw.rgO (i := 0) rfl 0 11 [.string s3, .int .i64 x1.1.K, .string x1.1.S, .int .i64 x1.1.V.K, .int .i64 x1.1.V.N, .string x1.1.V.S, .int .i64 s4, .string s5, .int .i64 s6, .int .i64 s7, .string s8] rfl) rfl) rfl <| ls (s_store (i := 1) (vs := [.string s3, .int .i64 x1.1.K, .string x1.1.S, .int .i64 x1.1.V.K, .int .i64 x1.1.V.N, .string x1.1.V.S, .int .i64 s4, .string s5, .int .i64 s6, .int .i64 s7, .string s8]) (C' := [.string s3, .int .i64 x1.1.K, .string x1.1.S, .int .i64 x1.1.V.K, .int .i64 x1.1.V.N, .string x1.1.V.S, .int .i64 s4, .string s5, .int .i64 s6, .int .i64 s7, .string s8]) (O' := [(b_2, .cells #[.string s3, .int .i64 x1.1.K, .string x1.1.S, .int .i64 x1.1.V.K, .int .i64 x1.1.V.N, .string x1.1.V.S, .int .i64 s4, .string s5, .int .i64 s6, .int .i64 s7, .string s8] 85 (0, 0)), (b_1, .cells #[.string s3, .int .i64 x1.1.K, .string x1.1.S, .int .i64 x1.1.V.K, .int .i64 x1.1.V.N, .string x1.1.V.S, .int .i64 s4, .string s5, .int .i64 s6, .int .i64 s7, .string s8] 85 (0, 0))]) Sz_85 rfl rfl rfl rfl rfl rfl ⟨rfl, rfl, rfl, rfl, rfl, rfl, rfl, rfl, rfl, rfl, rfl, trivial⟩ rfl rfl) rfl ?_
  refine WL.nil ?_
  refine WT.ret Try.func113 (resOk.one (rv_cell Tn_85 rfl (fun w1 hw => hw.rgO (i := 1) rfl 0 11 [.string s3, .int .i64 x1.1.K, .string x1.1.S, .int .i64 x1.1.V.K, .int .i64 x1.1.V.N, .string x1.1.V.S, .int .i64 s4, .string s5, .int .i64 s6, .int .i64 s7, .string s8] rfl) rfl)) (fun w1 hw => ?_)
  subst hb0
  cases h
  refine postG_of_St (js := [0]) hw rfl ⟨rfl, rfl, rfl, k1⟩
 refine WT.cond rfl (fun c1 => ?_) (fun c1 => ?_)
 ·replace h := ite_t h c1
  refine WT.seq <| WT.region <| lq (q_move rfl) rfl ?_
  have rc1 : RC RS 1 Φ_2 ([[], []] : List (List Nat)) [.string (⟨#[43]⟩ : ByteArray), .string (⟨#[45]⟩ : ByteArray)] ([(⟨#[43]⟩ : ByteArray), (⟨#[45]⟩ : ByteArray)] : List ByteArray) := RC.cons (c := [.string (⟨#[43]⟩ : ByteArray)]) (cells := [.string (⟨#[45]⟩ : ByteArray)]) ⟨rfl, rfl⟩ rfl (RC.cons (c := [.string (⟨#[45]⟩ : ByteArray)]) (cells := []) ⟨rfl, rfl⟩ rfl (RC.nil _ _ _))
  refine le' (e_lit (vs := [(0, .string (⟨#[43]⟩ : ByteArray)), (1, .string (⟨#[45]⟩ : ByteArray))]) (C := #[.string (⟨#[43]⟩ : ByteArray), .string (⟨#[45]⟩ : ByteArray)]) RS.lasts Sl_68 Zr_9 rfl rfl rfl rfl (fill_made MC_9_2 (fill_cons (cells := [.string ⟨#[]⟩, .string ⟨#[]⟩]) (c := [.string (⟨#[43]⟩ : ByteArray)]) (C' := [.string (⟨#[43]⟩ : ByteArray), .string ⟨#[]⟩]) rfl rfl rfl rfl rfl (fill_cons (cells := [.string (⟨#[43]⟩ : ByteArray), .string ⟨#[]⟩]) (c := [.string (⟨#[45]⟩ : ByteArray)]) (C' := [.string (⟨#[43]⟩ : ByteArray), .string (⟨#[45]⟩ : ByteArray)]) rfl rfl rfl rfl rfl (fill_nil)))) rfl rc1 rfl (by simpa using Kw.nil)) rfl (fun v3 Φ_4 D1 q3 => ?_)
  obtain ⟨fr3, h3⟩ := q3
  replace h3 : OSl RS 9 1 Φ_4 [] v3 ([(⟨#[43]⟩ : ByteArray), (⟨#[45]⟩ : ByteArray)] : List ByteArray) := by simpa using h3
  replace ph0_0 := ph0_0.frame RI.lasts fr3 (Dj.empty _)
  replace h2 := fr3 _ _ (by simp) h2
  obtain ⟨x3, hx3, h⟩ := bind_some h
  refine lc (k_call (js := [1]) (R := [ob v3]) Fun_151 rfl rfl (fun w1 hw ap hl => m_s_l1Str_ok hw.fro N (⟨p0.b, x2.2.i, x2.2.h⟩ : Tl1Cur) ([(⟨#[43]⟩ : ByteArray), (⟨#[45]⟩ : ByteArray)] : List ByteArray) ph0_0 h2 h3.rsl (ap.o pa0_0) (Dj.app (ap.r (i := 0) rfl) (Dj.nil _)) ap.nd hl hx3)) rfl (fun v4 Φ_5 F3 q4 => ?_)
  obtain ⟨ap3, fr4, rfl, rfl, e3, h4⟩ := q4
  replace ph0_0 := ph0_0.frame RI.lasts fr4 (ap3.o pa0_0)
  refine lq (q_fieldAddr Fld_85_0 rfl) rfl <| ls (s_store (i := 0) (vs := [.string x3.1]) (C' := [.string x3.1, .int .i64 x1.1.K, .string x1.1.S, .int .i64 x1.1.V.K, .int .i64 x1.1.V.N, .string x1.1.V.S, .int .i64 0, .string (⟨#[]⟩ : ByteArray), .int .i64 0, .int .i64 0, .string (⟨#[]⟩ : ByteArray)]) (O' := [(b_2, .cells #[.string x3.1, .int .i64 x1.1.K, .string x1.1.S, .int .i64 x1.1.V.K, .int .i64 x1.1.V.N, .string x1.1.V.S, .int .i64 0, .string (⟨#[]⟩ : ByteArray), .int .i64 0, .int .i64 0, .string (⟨#[]⟩ : ByteArray)] 85 (0, 0)), (b_1, .cells #[.string (⟨#[]⟩ : ByteArray), .int .i64 0, .string (⟨#[]⟩ : ByteArray), .int .i64 0, .int .i64 0, .string (⟨#[]⟩ : ByteArray), .int .i64 0, .string (⟨#[]⟩ : ByteArray), .int .i64 0, .int .i64 0, .string (⟨#[]⟩ : ByteArray)] 85 (0, 0))]) Sz_9 rfl rfl rfl rfl rfl rfl ⟨rfl, trivial⟩ rfl rfl) rfl ?_
  refine WL.nil <| WT.region <| lq (q_move rfl) rfl ?_
  obtain ⟨x4, hx4, h⟩ := bind_some h
  refine lc (k_call (js := [0]) (R := [ob v3]) Fun_164 rfl rfl (fun w1 hw ap hl => m_s_l7Arg_ok hw.fro N (⟨p0.b, x3.2.i, x3.2.h⟩ : Tl1Cur) ph0_0 h4 (ap.o pa0_0) ap.nd hl hx4)) rfl (fun v5 Φ_6 F4 q5 => ?_)
  obtain ⟨ap4, fr5, rfl, rfl, e4, h5⟩ := q5
  replace ph0_0 := ph0_0.frame RI.lasts fr5 (ap4.o pa0_0)
  refine lq (q_fieldAddr Fld_85_2 rfl) rfl <| ls (s_store (i := 0) (vs := [.int .i64 x4.1.K, .string x4.1.S, .int .i64 x4.1.V.K, .int .i64 x4.1.V.N, .string x4.1.V.S]) (C' := [.string x3.1, .int .i64 x1.1.K, .string x1.1.S, .int .i64 x1.1.V.K, .int .i64 x1.1.V.N, .string x1.1.V.S, .int .i64 x4.1.K, .string x4.1.S, .int .i64 x4.1.V.K, .int .i64 x4.1.V.N, .string x4.1.V.S]) (O' := [(b_2, .cells #[.string x3.1, .int .i64 x1.1.K, .string x1.1.S, .int .i64 x1.1.V.K, .int .i64 x1.1.V.N, .string x1.1.V.S, .int .i64 x4.1.K, .string x4.1.S, .int .i64 x4.1.V.K, .int .i64 x4.1.V.N, .string x4.1.V.S] 85 (0, 0)), (b_1, .cells #[.string (⟨#[]⟩ : ByteArray), .int .i64 0, .string (⟨#[]⟩ : ByteArray), .int .i64 0, .int .i64 0, .string (⟨#[]⟩ : ByteArray), .int .i64 0, .string (⟨#[]⟩ : ByteArray), .int .i64 0, .int .i64 0, .string (⟨#[]⟩ : ByteArray)] 85 (0, 0))]) Sz_83 rfl rfl rfl rfl rfl rfl ⟨rfl, rfl, rfl, rfl, rfl, trivial⟩ rfl rfl) rfl ?_
  refine WL.nil <| WT.mono (l' := [(2, .pointer (some ⟨b_1, 0, none⟩)), (3, .pointer (some ⟨b_2, 0, none⟩))]) (S' := St w0 Φ_6 [(b_2, .cells #[.string x3.1, .int .i64 x1.1.K, .string x1.1.S, .int .i64 x1.1.V.K, .int .i64 x1.1.V.N, .string x1.1.V.S, .int .i64 x4.1.K, .string x4.1.S, .int .i64 x4.1.V.K, .int .i64 x4.1.V.N, .string x4.1.V.S] 85 (0, 0)), (b_1, .cells #[.string (⟨#[]⟩ : ByteArray), .int .i64 0, .string (⟨#[]⟩ : ByteArray), .int .i64 0, .int .i64 0, .string (⟨#[]⟩ : ByteArray), .int .i64 0, .string (⟨#[]⟩ : ByteArray), .int .i64 0, .int .i64 0, .string (⟨#[]⟩ : ByteArray)] 85 (0, 0))] [[pb0]]) ⟨rfl, rfl, trivial⟩ (fun w1 hw => (hw.sel (js := [0]) rfl).selO (js := [0, 0]) rfl) ?_
  exact K (Φ_6, x4.2.i, x4.2.h, x3.1, x4.1.K, x4.1.S, x4.1.V.K, x4.1.V.N, x4.1.V.S) ⟨h, h5, ph0_0⟩
 replace h := ite_f h c1
 refine WT.skip <| WT.mono (l' := [(2, .pointer (some ⟨b_1, 0, none⟩)), (3, .pointer (some ⟨b_2, 0, none⟩))]) (S' := St w0 Φ_2 [(b_2, .cells #[.string (⟨#[]⟩ : ByteArray), .int .i64 x1.1.K, .string x1.1.S, .int .i64 x1.1.V.K, .int .i64 x1.1.V.N, .string x1.1.V.S, .int .i64 0, .string (⟨#[]⟩ : ByteArray), .int .i64 0, .int .i64 0, .string (⟨#[]⟩ : ByteArray)] 85 (0, 0)), (b_1, .cells #[.string (⟨#[]⟩ : ByteArray), .int .i64 0, .string (⟨#[]⟩ : ByteArray), .int .i64 0, .int .i64 0, .string (⟨#[]⟩ : ByteArray), .int .i64 0, .string (⟨#[]⟩ : ByteArray), .int .i64 0, .int .i64 0, .string (⟨#[]⟩ : ByteArray)] 85 (0, 0))] [[pb0]]) ⟨rfl, rfl, trivial⟩ (fun w1 hw => (hw.sel (js := [0]) rfl).selO (js := [0, 0]) rfl) ?_
 exact K (Φ_2, x2.2.i, x2.2.h, (⟨#[]⟩ : ByteArray), 0, (⟨#[]⟩ : ByteArray), 0, 0, (⟨#[]⟩ : ByteArray)) ⟨h, h2, ph0_0⟩
theorem m_s_l8Draw_ok {Φ : Hp} {w : World} (hΦ : In Φ w) (N : Nat) (p0 : Tl1Cur) (p1 : Int) {pv0_0 : Value} {pG0_0 : List Nat} {pb0 : Nat} (ph0_0 : RSl (RI .u8) 1 Φ pG0_0 pv0_0 p0.b) (pp0 : Φ pb0 = some (.cells #[pv0_0, .int .i64 p0.i, .int .i64 p0.h] 195 (0, 0))) (pd0_0 : Dj pG0_0 [[pb0]].flatten) (hB : [[pb0]].flatten.Nodup) (hlt : ∀ k ∈ [[pb0]].flatten, k < w.heap.size) {r : TAct × Tl1Cur} (h : m_s_l8Draw N p0 p1 = some r) :
  Calls Try.prog 176 [.pointer (some ⟨pb0, 0, none⟩), .int .i64 p1].toArray w (PostG Φ w [[pb0]].flatten (fun Φ' Fs v => ∃ (sr_0_0 : Value), v = .agg [.int .i64 r.1.Kind, .string r.1.Name, sr_0_0, .int .i64 r.1.N, .string r.1.Undo].toArray ∧ Fs = [ob sr_0_0, [pb0]] ∧ OSl RTExpr 85 11 Φ' [] sr_0_0 r.1.Args ∧ r.2.b = p0.b ∧ Φ' pb0 = some (.cells #[pv0_0, .int .i64 r.2.i, .int .i64 r.2.h] 195 (0, 0)))) := by
 refine enter Try.func176 rfl Try.ntmps176 rfl (St.start hΦ [[pb0]] hB hlt) ?_
 have pa0_0 : Old ⟨w, [[pb0]].flatten, Φ⟩ pG0_0 := Old.mk hΦ ph0_0.kn pd0_0
 revert pa0_0
 generalize hb0 : (⟨w, [[pb0]].flatten, Φ⟩ : Base) = w0
 intro pa0_0
 unfold m_s_l8Draw at h
 refine WT.seq <| WT.region ?_
 refine ln (n_alloc (C := #[.int .i64 0, .string (⟨#[]⟩ : ByteArray), .slice none 0 0, .int .i64 0, .string (⟨#[]⟩ : ByteArray)]) Zr_96 rfl) rfl (fun b_1 => ?_)
 refine WL.nil <| WT.seq <| WT.region <| lq (q_move rfl) rfl ?_
 have rc1 : RC (RI .i64) 1 Φ ([[], [], [], [], [], [], [], []] : List (List Nat)) [.int .i64 1, .int .i64 1, .int .i64 2, .int .i64 3, .int .i64 3, .int .i64 4, .int .i64 5, .int .i64 6] ([1, 1, 2, 3, 3, 4, 5, 6] : List Int) := RC.cons (c := [.int .i64 1]) (cells := [.int .i64 1, .int .i64 2, .int .i64 3, .int .i64 3, .int .i64 4, .int .i64 5, .int .i64 6]) ⟨rfl, rfl⟩ rfl (RC.cons (c := [.int .i64 1]) (cells := [.int .i64 2, .int .i64 3, .int .i64 3, .int .i64 4, .int .i64 5, .int .i64 6]) ⟨rfl, rfl⟩ rfl (RC.cons (c := [.int .i64 2]) (cells := [.int .i64 3, .int .i64 3, .int .i64 4, .int .i64 5, .int .i64 6]) ⟨rfl, rfl⟩ rfl (RC.cons (c := [.int .i64 3]) (cells := [.int .i64 3, .int .i64 4, .int .i64 5, .int .i64 6]) ⟨rfl, rfl⟩ rfl (RC.cons (c := [.int .i64 3]) (cells := [.int .i64 4, .int .i64 5, .int .i64 6]) ⟨rfl, rfl⟩ rfl (RC.cons (c := [.int .i64 4]) (cells := [.int .i64 5, .int .i64 6]) ⟨rfl, rfl⟩ rfl (RC.cons (c := [.int .i64 5]) (cells := [.int .i64 6]) ⟨rfl, rfl⟩ rfl (RC.cons (c := [.int .i64 6]) (cells := []) ⟨rfl, rfl⟩ rfl (RC.nil _ _ _))))))))
 refine le' (e_lit (vs := [(0, .int .i64 1), (1, .int .i64 1), (2, .int .i64 2), (3, .int .i64 3), (4, .int .i64 3), (5, .int .i64 4), (6, .int .i64 5), (7, .int .i64 6)]) (C := #[.int .i64 1, .int .i64 1, .int .i64 2, .int .i64 3, .int .i64 3, .int .i64 4, .int .i64 5, .int .i64 6]) RI.lasts Sl_27 Zr_3 rfl rfl rfl rfl (fill_made MC_3_8 (fill_cons (cells := [.int .i64 0, .int .i64 0, .int .i64 0, .int .i64 0, .int .i64 0, .int .i64 0, .int .i64 0, .int .i64 0]) (c := [.int .i64 1]) (C' := [.int .i64 1, .int .i64 0, .int .i64 0, .int .i64 0, .int .i64 0, .int .i64 0, .int .i64 0, .int .i64 0]) rfl rfl rfl rfl rfl (fill_cons (cells := [.int .i64 1, .int .i64 0, .int .i64 0, .int .i64 0, .int .i64 0, .int .i64 0, .int .i64 0, .int .i64 0]) (c := [.int .i64 1]) (C' := [.int .i64 1, .int .i64 1, .int .i64 0, .int .i64 0, .int .i64 0, .int .i64 0, .int .i64 0, .int .i64 0]) rfl rfl rfl rfl rfl (fill_cons (cells := [.int .i64 1, .int .i64 1, .int .i64 0, .int .i64 0, .int .i64 0, .int .i64 0, .int .i64 0, .int .i64 0]) (c := [.int .i64 2]) (C' := [.int .i64 1, .int .i64 1, .int .i64 2, .int .i64 0, .int .i64 0, .int .i64 0, .int .i64 0, .int .i64 0]) rfl rfl rfl rfl rfl (fill_cons (cells := [.int .i64 1, .int .i64 1, .int .i64 2, .int .i64 0, .int .i64 0, .int .i64 0, .int .i64 0, .int .i64 0]) (c := [.int .i64 3]) (C' := [.int .i64 1, .int .i64 1, .int .i64 2, .int .i64 3, .int .i64 0, .int .i64 0, .int .i64 0, .int .i64 0]) rfl rfl rfl rfl rfl (fill_cons (cells := [.int .i64 1, .int .i64 1, .int .i64 2, .int .i64 3, .int .i64 0, .int .i64 0, .int .i64 0, .int .i64 0]) (c := [.int .i64 3]) (C' := [.int .i64 1, .int .i64 1, .int .i64 2, .int .i64 3, .int .i64 3, .int .i64 0, .int .i64 0, .int .i64 0]) rfl rfl rfl rfl rfl (fill_cons (cells := [.int .i64 1, .int .i64 1, .int .i64 2, .int .i64 3, .int .i64 3, .int .i64 0, .int .i64 0, .int .i64 0]) (c := [.int .i64 4]) (C' := [.int .i64 1, .int .i64 1, .int .i64 2, .int .i64 3, .int .i64 3, .int .i64 4, .int .i64 0, .int .i64 0]) rfl rfl rfl rfl rfl (fill_cons (cells := [.int .i64 1, .int .i64 1, .int .i64 2, .int .i64 3, .int .i64 3, .int .i64 4, .int .i64 0, .int .i64 0]) (c := [.int .i64 5]) (C' := [.int .i64 1, .int .i64 1, .int .i64 2, .int .i64 3, .int .i64 3, .int .i64 4, .int .i64 5, .int .i64 0]) rfl rfl rfl rfl rfl (fill_cons (cells := [.int .i64 1, .int .i64 1, .int .i64 2, .int .i64 3, .int .i64 3, .int .i64 4, .int .i64 5, .int .i64 0]) (c := [.int .i64 6]) (C' := [.int .i64 1, .int .i64 1, .int .i64 2, .int .i64 3, .int .i64 3, .int .i64 4, .int .i64 5, .int .i64 6]) rfl rfl rfl rfl rfl (fill_nil)))))))))) rfl rc1 rfl (by simpa using Kw.nil)) rfl (fun v1 Φ_1 D1 q1 => ?_)
 obtain ⟨fr1, h1⟩ := q1
 replace h1 : OSl (RI .i64) 3 1 Φ_1 [] v1 ([1, 1, 2, 3, 3, 4, 5, 6] : List Int) := by simpa using h1
 replace ph0_0 := ph0_0.frame RI.lasts fr1 (Dj.empty _)
 replace pp0 := fr1 _ _ (by simp) pp0
 obtain ⟨x1, hx1, h⟩ := bind_some h
 refine lc (k_call (js := [1]) (R := [ob v1]) Fun_120 rfl rfl (fun w1 hw ap hl => m_s_l1Int_ok hw.fro N p0 ([1, 1, 2, 3, 3, 4, 5, 6] : List Int) ph0_0 pp0 h1.rsl (ap.o pa0_0) (Dj.app (ap.r (i := 0) rfl) (Dj.nil _)) ap.nd hl hx1)) rfl (fun v2 Φ_2 F1 q2 => ?_)
 obtain ⟨ap1, fr2, rfl, rfl, e1, h2⟩ := q2
 replace ph0_0 := ph0_0.frame RI.lasts fr2 (ap1.o pa0_0)
 refine lq (q_build (vs := [(0, .int .i64 x1.1)]) (C := #[.int .i64 x1.1, .string (⟨#[]⟩ : ByteArray), .slice none 0 0, .int .i64 0, .string (⟨#[]⟩ : ByteArray)]) Pl_96 Zr_96 rfl (fill_cons (cells := [.int .i64 0, .string ⟨#[]⟩, .slice none 0 0, .int .i64 0, .string ⟨#[]⟩]) (c := [.int .i64 x1.1]) (C' := [.int .i64 x1.1, .string ⟨#[]⟩, .slice none 0 0, .int .i64 0, .string ⟨#[]⟩]) rfl rfl rfl rfl rfl (fill_nil))) rfl ?_
 refine ln (n_alloc (C := #[.int .i64 0, .string (⟨#[]⟩ : ByteArray), .slice none 0 0, .int .i64 0, .string (⟨#[]⟩ : ByteArray)]) Zr_96 rfl) rfl (fun b_2 => ?_)
 refine ls (s_store (i := 0) (vs := [.int .i64 x1.1, .string (⟨#[]⟩ : ByteArray), .slice none 0 0, .int .i64 0, .string (⟨#[]⟩ : ByteArray)]) (C' := [.int .i64 x1.1, .string (⟨#[]⟩ : ByteArray), .slice none 0 0, .int .i64 0, .string (⟨#[]⟩ : ByteArray)]) (O' := [(b_2, .cells #[.int .i64 x1.1, .string (⟨#[]⟩ : ByteArray), .slice none 0 0, .int .i64 0, .string (⟨#[]⟩ : ByteArray)] 96 (0, 0)), (b_1, .cells #[.int .i64 0, .string (⟨#[]⟩ : ByteArray), .slice none 0 0, .int .i64 0, .string (⟨#[]⟩ : ByteArray)] 96 (0, 0))]) Sz_96 rfl rfl rfl rfl rfl rfl ⟨rfl, rfl, rfl, rfl, rfl, trivial⟩ rfl rfl) rfl ?_
 refine WL.nil <| WT.seq <| WT.seq <| WT.region <| lq (q_fieldAddr Fld_96_0 rfl) rfl <| lq (q_load1 T1_3 rfl (fun w1 hw => hw.rgO (i := 0) rfl 0 1 [.int .i64 x1.1] rfl)) rfl <| WL.nil <| WT.block <| WT.seq <| WT.region <| lq (q_eql rfl rfl) rfl <| lq (q_assign rfl) rfl <| WL.nil ?_
 refine WT.cond rfl (fun c1 => ?_) (fun c1 => ?_)
 ·replace h := ite_t h c1
  refine WT.seq <| WT.region <| lq (q_move rfl) rfl <| lq (q_move rfl) rfl ?_
  obtain ⟨x2, hx2, h⟩ := bind_some h
  refine lc (k_call (js := [0]) (R := [ob v1]) Fun_92 rfl rfl (fun w1 hw ap hl => m_s_l1Below_ok hw.fro N (⟨p0.b, x1.2.i, x1.2.h⟩ : Tl1Cur) p1 ph0_0 h2 (ap.o pa0_0) ap.nd hl hx2)) rfl (fun v3 Φ_3 F2 q3 => ?_)
  obtain ⟨ap2, fr3, rfl, rfl, e2, h3⟩ := q3
  replace ph0_0 := ph0_0.frame RI.lasts fr3 (ap2.o pa0_0)
  refine lq (q_fieldAddr Fld_96_3 rfl) rfl <| ls (s_store (i := 0) (vs := [.int .i64 x2.1]) (C' := [.int .i64 x1.1, .string (⟨#[]⟩ : ByteArray), .slice none 0 0, .int .i64 x2.1, .string (⟨#[]⟩ : ByteArray)]) (O' := [(b_2, .cells #[.int .i64 x1.1, .string (⟨#[]⟩ : ByteArray), .slice none 0 0, .int .i64 x2.1, .string (⟨#[]⟩ : ByteArray)] 96 (0, 0)), (b_1, .cells #[.int .i64 0, .string (⟨#[]⟩ : ByteArray), .slice none 0 0, .int .i64 0, .string (⟨#[]⟩ : ByteArray)] 96 (0, 0))]) Sz_3 rfl rfl rfl rfl rfl rfl ⟨rfl, trivial⟩ rfl rfl) rfl ?_
  refine WL.nil <| WT.seq <| WT.region <| lq (q_loadN Tn_96 rfl (fun w1 hw => hw.rgO (i := 0) rfl 0 5 [.int .i64 x1.1, .string (⟨#[]⟩ : ByteArray), .slice none 0 0, .int .i64 x2.1, .string (⟨#[]⟩ : ByteArray)] rfl) rfl) rfl <| ls (s_store (i := 1) (vs := [.int .i64 x1.1, .string (⟨#[]⟩ : ByteArray), .slice none 0 0, .int .i64 x2.1, .string (⟨#[]⟩ : ByteArray)]) (C' := [.int .i64 x1.1, .string (⟨#[]⟩ : ByteArray), .slice none 0 0, .int .i64 x2.1, .string (⟨#[]⟩ : ByteArray)]) (O' := [(b_2, .cells #[.int .i64 x1.1, .string (⟨#[]⟩ : ByteArray), .slice none 0 0, .int .i64 x2.1, .string (⟨#[]⟩ : ByteArray)] 96 (0, 0)), (b_1, .cells #[.int .i64 x1.1, .string (⟨#[]⟩ : ByteArray), .slice none 0 0, .int .i64 x2.1, .string (⟨#[]⟩ : ByteArray)] 96 (0, 0))]) Sz_96 rfl rfl rfl rfl rfl rfl ⟨rfl, rfl, rfl, rfl, rfl, trivial⟩ rfl rfl) rfl ?_
  refine WL.nil ?_
  refine WT.ret Try.func176 (resOk.one (rv_cell Tn_96 rfl (fun w1 hw => hw.rgO (i := 1) rfl 0 5 [.int .i64 x1.1, .string (⟨#[]⟩ : ByteArray), .slice none 0 0, .int .i64 x2.1, .string (⟨#[]⟩ : ByteArray)] rfl) rfl)) (fun w1 hw => ?_)
  subst hb0
  cases h
  replace hw := hw.addNil
  refine postG_of_St (js := [0, 0]) hw rfl ⟨.slice none 0 0, rfl, rfl, OSl.nil _ _ _ _, rfl, h3⟩
 replace h := ite_f h c1
 refine WT.seq <| WT.seq <| WT.region <| lq (q_eql rfl rfl) rfl <| lq (q_assign rfl) rfl <| WL.nil ?_
 refine cut (σ := Bool) (fun s => [(0, .pointer (some ⟨pb0, 0, none⟩)), (4, .pointer (some ⟨b_1, 0, none⟩)), (5, .pointer (some ⟨b_2, 0, none⟩)), (21, .bool s)]) (fun s => St w0 Φ_2 [(b_2, .cells #[.int .i64 x1.1, .string (⟨#[]⟩ : ByteArray), .slice none 0 0, .int .i64 0, .string (⟨#[]⟩ : ByteArray)] 96 (0, 0)), (b_1, .cells #[.int .i64 0, .string (⟨#[]⟩ : ByteArray), .slice none 0 0, .int .i64 0, .string (⟨#[]⟩ : ByteArray)] 96 (0, 0))] [[pb0]]) (fun s => m_s_l8Draw_j1 N p0 x1 s = some r) (fun s hm => ?_) (fun K => ?_)
 ·clear h
  revert hm; revert s; intro s1 hm
  have h : m_s_l8Draw_j1 N p0 x1 s1 = some r := hm
  show WT _ _ [(0, .pointer (some ⟨pb0, 0, none⟩)), (4, .pointer (some ⟨b_1, 0, none⟩)), (5, .pointer (some ⟨b_2, 0, none⟩)), (21, .bool s1)] (St w0 Φ_2 [(b_2, .cells #[.int .i64 x1.1, .string (⟨#[]⟩ : ByteArray), .slice none 0 0, .int .i64 0, .string (⟨#[]⟩ : ByteArray)] 96 (0, 0)), (b_1, .cells #[.int .i64 0, .string (⟨#[]⟩ : ByteArray), .slice none 0 0, .int .i64 0, .string (⟨#[]⟩ : ByteArray)] 96 (0, 0))] [[pb0]])
  unfold m_s_l8Draw_j1 at h
  refine WT.cond rfl (fun c2 => ?_) (fun c2 => ?_)
  ·replace h := ite_t h c2
   refine WT.seq <| WT.region <| lq (q_loadN Tn_96 rfl (fun w1 hw => hw.rgO (i := 0) rfl 0 5 [.int .i64 x1.1, .string (⟨#[]⟩ : ByteArray), .slice none 0 0, .int .i64 0, .string (⟨#[]⟩ : ByteArray)] rfl) rfl) rfl <| ls (s_store (i := 1) (vs := [.int .i64 x1.1, .string (⟨#[]⟩ : ByteArray), .slice none 0 0, .int .i64 0, .string (⟨#[]⟩ : ByteArray)]) (C' := [.int .i64 x1.1, .string (⟨#[]⟩ : ByteArray), .slice none 0 0, .int .i64 0, .string (⟨#[]⟩ : ByteArray)]) (O' := [(b_2, .cells #[.int .i64 x1.1, .string (⟨#[]⟩ : ByteArray), .slice none 0 0, .int .i64 0, .string (⟨#[]⟩ : ByteArray)] 96 (0, 0)), (b_1, .cells #[.int .i64 x1.1, .string (⟨#[]⟩ : ByteArray), .slice none 0 0, .int .i64 0, .string (⟨#[]⟩ : ByteArray)] 96 (0, 0))]) Sz_96 rfl rfl rfl rfl rfl rfl ⟨rfl, rfl, rfl, rfl, rfl, trivial⟩ rfl rfl) rfl ?_
   refine WL.nil ?_
   refine WT.ret Try.func176 (resOk.one (rv_cell Tn_96 rfl (fun w1 hw => hw.rgO (i := 1) rfl 0 5 [.int .i64 x1.1, .string (⟨#[]⟩ : ByteArray), .slice none 0 0, .int .i64 0, .string (⟨#[]⟩ : ByteArray)] rfl) rfl)) (fun w1 hw => ?_)
   subst hb0
   cases h
   replace hw := hw.addNil
   refine postG_of_St (js := [0, 0]) hw rfl ⟨.slice none 0 0, rfl, rfl, OSl.nil _ _ _ _, rfl, h2⟩
  replace h := ite_f h c2
  refine WT.skip <| WT.inBlock <| WT.seq <| WT.region <| lq (q_move rfl) rfl ?_
  have rc2 : RC RS 1 Φ_2 ([[], [], [], [], []] : List (List Nat)) [.string (⟨#[111, 114, 100, 101, 114]⟩ : ByteArray), .string (⟨#[112, 97, 105, 100]⟩ : ByteArray), .string (⟨#[105, 116, 101, 109]⟩ : ByteArray), .string (⟨#[115, 104, 105, 112]⟩ : ByteArray), .string (⟨#[99, 104, 97, 114, 103, 101]⟩ : ByteArray)] ([(⟨#[111, 114, 100, 101, 114]⟩ : ByteArray), (⟨#[112, 97, 105, 100]⟩ : ByteArray), (⟨#[105, 116, 101, 109]⟩ : ByteArray), (⟨#[115, 104, 105, 112]⟩ : ByteArray), (⟨#[99, 104, 97, 114, 103, 101]⟩ : ByteArray)] : List ByteArray) := RC.cons (c := [.string (⟨#[111, 114, 100, 101, 114]⟩ : ByteArray)]) (cells := [.string (⟨#[112, 97, 105, 100]⟩ : ByteArray), .string (⟨#[105, 116, 101, 109]⟩ : ByteArray), .string (⟨#[115, 104, 105, 112]⟩ : ByteArray), .string (⟨#[99, 104, 97, 114, 103, 101]⟩ : ByteArray)]) ⟨rfl, rfl⟩ rfl (RC.cons (c := [.string (⟨#[112, 97, 105, 100]⟩ : ByteArray)]) (cells := [.string (⟨#[105, 116, 101, 109]⟩ : ByteArray), .string (⟨#[115, 104, 105, 112]⟩ : ByteArray), .string (⟨#[99, 104, 97, 114, 103, 101]⟩ : ByteArray)]) ⟨rfl, rfl⟩ rfl (RC.cons (c := [.string (⟨#[105, 116, 101, 109]⟩ : ByteArray)]) (cells := [.string (⟨#[115, 104, 105, 112]⟩ : ByteArray), .string (⟨#[99, 104, 97, 114, 103, 101]⟩ : ByteArray)]) ⟨rfl, rfl⟩ rfl (RC.cons (c := [.string (⟨#[115, 104, 105, 112]⟩ : ByteArray)]) (cells := [.string (⟨#[99, 104, 97, 114, 103, 101]⟩ : ByteArray)]) ⟨rfl, rfl⟩ rfl (RC.cons (c := [.string (⟨#[99, 104, 97, 114, 103, 101]⟩ : ByteArray)]) (cells := []) ⟨rfl, rfl⟩ rfl (RC.nil _ _ _)))))
  refine le' (e_lit (vs := [(0, .string (⟨#[111, 114, 100, 101, 114]⟩ : ByteArray)), (1, .string (⟨#[112, 97, 105, 100]⟩ : ByteArray)), (2, .string (⟨#[105, 116, 101, 109]⟩ : ByteArray)), (3, .string (⟨#[115, 104, 105, 112]⟩ : ByteArray)), (4, .string (⟨#[99, 104, 97, 114, 103, 101]⟩ : ByteArray))]) (C := #[.string (⟨#[111, 114, 100, 101, 114]⟩ : ByteArray), .string (⟨#[112, 97, 105, 100]⟩ : ByteArray), .string (⟨#[105, 116, 101, 109]⟩ : ByteArray), .string (⟨#[115, 104, 105, 112]⟩ : ByteArray), .string (⟨#[99, 104, 97, 114, 103, 101]⟩ : ByteArray)]) RS.lasts Sl_68 Zr_9 rfl rfl rfl rfl (fill_made MC_9_5 (fill_cons (cells := [.string ⟨#[]⟩, .string ⟨#[]⟩, .string ⟨#[]⟩, .string ⟨#[]⟩, .string ⟨#[]⟩]) (c := [.string (⟨#[111, 114, 100, 101, 114]⟩ : ByteArray)]) (C' := [.string (⟨#[111, 114, 100, 101, 114]⟩ : ByteArray), .string ⟨#[]⟩, .string ⟨#[]⟩, .string ⟨#[]⟩, .string ⟨#[]⟩]) rfl rfl rfl rfl rfl (fill_cons (cells := [.string (⟨#[111, 114, 100, 101, 114]⟩ : ByteArray), .string ⟨#[]⟩, .string ⟨#[]⟩, .string ⟨#[]⟩, .string ⟨#[]⟩]) (c := [.string (⟨#[112, 97, 105, 100]⟩ : ByteArray)]) (C' := [.string (⟨#[111, 114, 100, 101, 114]⟩ : ByteArray), .string (⟨#[112, 97, 105, 100]⟩ : ByteArray), .string ⟨#[]⟩, .string ⟨#[]⟩, .string ⟨#[]⟩]) rfl rfl rfl rfl rfl (fill_cons (cells := [.string (⟨#[111, 114, 100, 101, 114]⟩ : ByteArray), .string (⟨#[112, 97, 105, 100]⟩ : ByteArray), .string ⟨#[]⟩, .string ⟨#[]⟩, .string ⟨#[]⟩]) (c := [.string (⟨#[105, 116, 101, 109]⟩ : ByteArray)]) (C' := [.string (⟨#[111, 114, 100, 101, 114]⟩ : ByteArray), .string (⟨#[112, 97, 105, 100]⟩ : ByteArray), .string (⟨#[105, 116, 101, 109]⟩ : ByteArray), .string ⟨#[]⟩, .string ⟨#[]⟩]) rfl rfl rfl rfl rfl (fill_cons (cells := [.string (⟨#[111, 114, 100, 101, 114]⟩ : ByteArray), .string (⟨#[112, 97, 105, 100]⟩ : ByteArray), .string (⟨#[105, 116, 101, 109]⟩ : ByteArray), .string ⟨#[]⟩, .string ⟨#[]⟩]) (c := [.string (⟨#[115, 104, 105, 112]⟩ : ByteArray)]) (C' := [.string (⟨#[111, 114, 100, 101, 114]⟩ : ByteArray), .string (⟨#[112, 97, 105, 100]⟩ : ByteArray), .string (⟨#[105, 116, 101, 109]⟩ : ByteArray), .string (⟨#[115, 104, 105, 112]⟩ : ByteArray), .string ⟨#[]⟩]) rfl rfl rfl rfl rfl (fill_cons (cells := [.string (⟨#[111, 114, 100, 101, 114]⟩ : ByteArray), .string (⟨#[112, 97, 105, 100]⟩ : ByteArray), .string (⟨#[105, 116, 101, 109]⟩ : ByteArray), .string (⟨#[115, 104, 105, 112]⟩ : ByteArray), .string ⟨#[]⟩]) (c := [.string (⟨#[99, 104, 97, 114, 103, 101]⟩ : ByteArray)]) (C' := [.string (⟨#[111, 114, 100, 101, 114]⟩ : ByteArray), .string (⟨#[112, 97, 105, 100]⟩ : ByteArray), .string (⟨#[105, 116, 101, 109]⟩ : ByteArray), .string (⟨#[115, 104, 105, 112]⟩ : ByteArray), .string (⟨#[99, 104, 97, 114, 103, 101]⟩ : ByteArray)]) rfl rfl rfl rfl rfl (fill_nil))))))) rfl rc2 rfl (by simpa using Kw.nil)) rfl (fun v4 Φ_4 D2 q4 => ?_)
  obtain ⟨fr4, h4⟩ := q4
  replace h4 : OSl RS 9 1 Φ_4 [] v4 ([(⟨#[111, 114, 100, 101, 114]⟩ : ByteArray), (⟨#[112, 97, 105, 100]⟩ : ByteArray), (⟨#[105, 116, 101, 109]⟩ : ByteArray), (⟨#[115, 104, 105, 112]⟩ : ByteArray), (⟨#[99, 104, 97, 114, 103, 101]⟩ : ByteArray)] : List ByteArray) := by simpa using h4
  replace ph0_0 := ph0_0.frame RI.lasts fr4 (Dj.empty _)
  replace h2 := fr4 _ _ (by simp) h2
  obtain ⟨x3, hx3, h⟩ := bind_some h
  refine lc (k_call (js := [1]) (R := [ob v4]) Fun_151 rfl rfl (fun w1 hw ap hl => m_s_l1Str_ok hw.fro N (⟨p0.b, x1.2.i, x1.2.h⟩ : Tl1Cur) ([(⟨#[111, 114, 100, 101, 114]⟩ : ByteArray), (⟨#[112, 97, 105, 100]⟩ : ByteArray), (⟨#[105, 116, 101, 109]⟩ : ByteArray), (⟨#[115, 104, 105, 112]⟩ : ByteArray), (⟨#[99, 104, 97, 114, 103, 101]⟩ : ByteArray)] : List ByteArray) ph0_0 h2 h4.rsl (ap.o pa0_0) (Dj.app (ap.r (i := 0) rfl) (Dj.nil _)) ap.nd hl hx3)) rfl (fun v5 Φ_5 F3 q5 => ?_)
  obtain ⟨ap3, fr5, rfl, rfl, e3, h5⟩ := q5
  replace ph0_0 := ph0_0.frame RI.lasts fr5 (ap3.o pa0_0)
  refine lq (q_fieldAddr Fld_96_1 rfl) rfl <| ls (s_store (i := 0) (vs := [.string x3.1]) (C' := [.int .i64 x1.1, .string x3.1, .slice none 0 0, .int .i64 0, .string (⟨#[]⟩ : ByteArray)]) (O' := [(b_2, .cells #[.int .i64 x1.1, .string x3.1, .slice none 0 0, .int .i64 0, .string (⟨#[]⟩ : ByteArray)] 96 (0, 0)), (b_1, .cells #[.int .i64 0, .string (⟨#[]⟩ : ByteArray), .slice none 0 0, .int .i64 0, .string (⟨#[]⟩ : ByteArray)] 96 (0, 0))]) Sz_9 rfl rfl rfl rfl rfl rfl ⟨rfl, trivial⟩ rfl rfl) rfl ?_
  refine WL.nil <| WT.seq <| WT.region <| lq (q_assign rfl) rfl <| WL.nil <| WT.seq <| WT.seq <| WT.region <| lq (q_fieldAddr Fld_96_1 rfl) rfl <| lq (q_load1 T1_9 rfl (fun w1 hw => hw.rgO (i := 0) rfl 1 1 [.string x3.1] rfl)) rfl <| lq (q_seq rfl rfl) rfl <| WL.nil ?_
  refine cut (σ := Int) (fun s => [(0, .pointer (some ⟨pb0, 0, none⟩)), (4, .pointer (some ⟨b_1, 0, none⟩)), (5, .pointer (some ⟨b_2, 0, none⟩)), (6, .int .i64 s)]) (fun s => St w0 Φ_5 [(b_2, .cells #[.int .i64 x1.1, .string x3.1, .slice none 0 0, .int .i64 0, .string (⟨#[]⟩ : ByteArray)] 96 (0, 0)), (b_1, .cells #[.int .i64 0, .string (⟨#[]⟩ : ByteArray), .slice none 0 0, .int .i64 0, .string (⟨#[]⟩ : ByteArray)] 96 (0, 0))] [[pb0]]) (fun s => m_s_l8Draw_j2 N p0 x1 x3 s = some r) (fun s hm => ?_) (fun K => ?_)
  ·clear h
   revert hm; revert s; intro s2 hm
   have h : m_s_l8Draw_j2 N p0 x1 x3 s2 = some r := hm
   show WT _ _ [(0, .pointer (some ⟨pb0, 0, none⟩)), (4, .pointer (some ⟨b_1, 0, none⟩)), (5, .pointer (some ⟨b_2, 0, none⟩)), (6, .int .i64 s2)] (St w0 Φ_5 [(b_2, .cells #[.int .i64 x1.1, .string x3.1, .slice none 0 0, .int .i64 0, .string (⟨#[]⟩ : ByteArray)] 96 (0, 0)), (b_1, .cells #[.int .i64 0, .string (⟨#[]⟩ : ByteArray), .slice none 0 0, .int .i64 0, .string (⟨#[]⟩ : ByteArray)] 96 (0, 0))] [[pb0]])
   unfold m_s_l8Draw_j2 at h
   refine WT.seq <| WT.seq <| WT.region <| lq (q_assign rfl) rfl <| WL.nil <| WT.block <| WT.loop <| WT.conv (S' := St w0 Φ_5 [(b_2, .cells #[.int .i64 x1.1, .string x3.1, .slice none 0 0, .int .i64 0, .string (⟨#[]⟩ : ByteArray)] 96 (0, 0)), (b_1, .cells #[.int .i64 0, .string (⟨#[]⟩ : ByteArray), .slice none 0 0, .int .i64 0, .string (⟨#[]⟩ : ByteArray)] 96 (0, 0))] (ob (.slice none 0 0) :: [[pb0]])) (fun w1 hw => hw.addNil) ?_
   have k1 := OSl.nil RTExpr 85 11 Φ_5
   refine WT.mono (l' := [(0, .pointer (some ⟨pb0, 0, none⟩)), (4, .pointer (some ⟨b_1, 0, none⟩)), (5, .pointer (some ⟨b_2, 0, none⟩)), (6, .int .i64 s2), (7, .int .i64 0)]) (S' := St w0 Φ_5 [(b_2, .cells #[.int .i64 x1.1, .string x3.1, (.slice none 0 0), .int .i64 0, .string (⟨#[]⟩ : ByteArray)] 96 (0, 0)), (b_1, .cells #[.int .i64 0, .string (⟨#[]⟩ : ByteArray), .slice none 0 0, .int .i64 0, .string (⟨#[]⟩ : ByteArray)] 96 (0, 0))] [ob (.slice none 0 0), [pb0]]) ⟨rfl, rfl, rfl, rfl, rfl, trivial⟩ (fun w1 hw => (hw.sel (js := [0, 0]) rfl).selO (js := [0, 0]) rfl) ?_
   refine loop_ind (σ := Hp × (List TExpr) × Value × Int × Int × Int) (fun s => [(0, .pointer (some ⟨pb0, 0, none⟩)), (4, .pointer (some ⟨b_1, 0, none⟩)), (5, .pointer (some ⟨b_2, 0, none⟩)), (6, .int .i64 s2), (7, .int .i64 s.2.2.2.1)]) (fun s => St w0 s.1 [(b_2, .cells #[.int .i64 x1.1, .string x3.1, s.2.2.1, .int .i64 0, .string (⟨#[]⟩ : ByteArray)] 96 (0, 0)), (b_1, .cells #[.int .i64 0, .string (⟨#[]⟩ : ByteArray), .slice none 0 0, .int .i64 0, .string (⟨#[]⟩ : ByteArray)] 96 (0, 0))] [ob s.2.2.1, [pb0]]) (fun m s => m_s_l8Draw_l3 N p0 x1 x3 s2 m s.2.1 s.2.2.2.1 s.2.2.2.2.1 s.2.2.2.2.2 = some r ∧ (OSl RTExpr 85 11 s.1 [] s.2.2.1 s.2.1) ∧ (s.1 pb0 = some (.cells #[pv0_0, .int .i64 s.2.2.2.2.1, .int .i64 s.2.2.2.2.2] 195 (0, 0))) ∧ (RSl (RI .u8) 1 s.1 pG0_0 pv0_0 p0.b)) (fun s hm => none_ne (show (none : Option (TAct × Tl1Cur)) = some r from hm.1)) (fun n3 ih3 s hm => ?_) N (Φ_5, ([] : List TExpr), (.slice none 0 0), 0, x3.2.i, x3.2.h) ⟨h, k1, h5, ph0_0⟩
   obtain ⟨Φ_6, s3, u1, s4, s5, s6⟩ := s
   obtain ⟨h, k2, k3, ph0_0⟩ := hm
   replace h : m_s_l8Draw_l3 N p0 x1 x3 s2 (n3 + 1) s3 s4 s5 s6 = some r := h
   replace k2 : OSl RTExpr 85 11 Φ_6 [] u1 s3 := k2
   replace k3 : Φ_6 pb0 = some (.cells #[pv0_0, .int .i64 s5, .int .i64 s6] 195 (0, 0)) := k3
   replace ph0_0 : RSl (RI .u8) 1 Φ_6 pG0_0 pv0_0 p0.b := ph0_0
   show WT _ _ [(0, .pointer (some ⟨pb0, 0, none⟩)), (4, .pointer (some ⟨b_1, 0, none⟩)), (5, .pointer (some ⟨b_2, 0, none⟩)), (6, .int .i64 s2), (7, .int .i64 s4)] (St w0 Φ_6 [(b_2, .cells #[.int .i64 x1.1, .string x3.1, u1, .int .i64 0, .string (⟨#[]⟩ : ByteArray)] 96 (0, 0)), (b_1, .cells #[.int .i64 0, .string (⟨#[]⟩ : ByteArray), .slice none 0 0, .int .i64 0, .string (⟨#[]⟩ : ByteArray)] 96 (0, 0))] [ob u1, [pb0]])
   unfold m_s_l8Draw_l3 at h
   refine WT.seq <| WT.seq <| WT.region <| lq (q_move rfl) rfl <| lq (q_move rfl) rfl <| lq (q_lss rfl rfl) rfl <| WL.nil ?_
   refine WT.cond rfl (fun c3 => ?_) (fun c3 => ?_)
   ·replace h := ite_t h c3
    refine WT.skip <| WT.seq <| WT.block <| WT.mix (Kn Φ_6 [] [(b_2, .cells #[.int .i64 x1.1, .string x3.1, u1, .int .i64 0, .string (⟨#[]⟩ : ByteArray)] 96 (0, 0)), (b_1, .cells #[.int .i64 0, .string (⟨#[]⟩ : ByteArray), .slice none 0 0, .int .i64 0, .string (⟨#[]⟩ : ByteArray)] 96 (0, 0))]) (fun i => match i with | 7 => false | _ => true) mixed (fun _ h => h.drew) <| mq 0 rfl (by kernel_rfl) (fun w1 hw => Kn.of (fun k hk _ _ => by simp at hk) (AllIn.mem ⟨gM 0 rfl, gM 1 rfl, trivial⟩) hw) (q_fieldAddr Fld_96_2 rfl) rfl ?_
    refine mq 1 rfl (by kernel_rfl) (fun w1 hw => Kn.of (fun k hk _ _ => by simp at hk) (AllIn.mem ⟨gM 0 rfl, gM 1 rfl, trivial⟩) hw) (q_load1 T1_73 rfl (fun w1 hw => hw.rgO (i := 0) rfl 2 1 [u1] rfl)) rfl <| mq 2 rfl (by kernel_rfl) (fun w1 hw => Kn.of (fun k hk _ _ => by simp at hk) (AllIn.mem ⟨gM 0 rfl, gM 1 rfl, trivial⟩) hw) (q_move rfl) rfl ?_
    obtain ⟨x4, hx4, h⟩ := bind_some h
    refine WM.one 3 (by kernel_rfl) (mc rfl (fun _ v Φx D w1 hq hw => Kn.of (fun k hk _ _ => by simp at hk) (AllIn.mem ⟨gM 0 rfl, gM 1 rfl, trivial⟩) hw) (k_call (js := [1]) (R := [ob u1]) Fun_113 rfl rfl (fun w1 hw ap hl => m_s_l8Expr_ok hw.fro N (⟨p0.b, s5, s6⟩ : Tl1Cur) ph0_0 k3 (ap.o pa0_0) ap.nd hl hx4)) rfl (fun v6 Φ_7 F4 q6 => ?_))
    obtain ⟨ap4, fr6, rfl, rfl, e4, h6⟩ := q6
    replace ph0_0 := ph0_0.frame RI.lasts fr6 (ap4.o pa0_0)
    replace k2 := k2.frame RTExpr.lasts fr6 (ap4.r (i := 0) rfl) (Dj.nil _)
    have rc3 : RC RTExpr 11 Φ_7 ([[]] : List (List Nat)) [.string x4.1.Op, .int .i64 x4.1.L.K, .string x4.1.L.S, .int .i64 x4.1.L.V.K, .int .i64 x4.1.L.V.N, .string x4.1.L.V.S, .int .i64 x4.1.R.K, .string x4.1.R.S, .int .i64 x4.1.R.V.K, .int .i64 x4.1.R.V.N, .string x4.1.R.V.S] ([x4.1] : List TExpr) := RC.cons (c := [.string x4.1.Op, .int .i64 x4.1.L.K, .string x4.1.L.S, .int .i64 x4.1.L.V.K, .int .i64 x4.1.L.V.N, .string x4.1.L.V.S, .int .i64 x4.1.R.K, .string x4.1.R.S, .int .i64 x4.1.R.V.K, .int .i64 x4.1.R.V.N, .string x4.1.R.V.S]) (cells := []) ⟨rfl, rfl⟩ rfl (RC.nil _ _ _)
    refine WM.one 4 (by kernel_rfl) (me rfl (fun _ v Φx D w1 hq hw => Kn.of (fun k hk _ _ => by simp at hk) (AllIn.mem ⟨gM 0 rfl, gM 1 rfl, trivial⟩) hw) (e_lit (vs := [(0, .agg [.string x4.1.Op, .int .i64 x4.1.L.K, .string x4.1.L.S, .int .i64 x4.1.L.V.K, .int .i64 x4.1.L.V.N, .string x4.1.L.V.S, .int .i64 x4.1.R.K, .string x4.1.R.S, .int .i64 x4.1.R.V.K, .int .i64 x4.1.R.V.N, .string x4.1.R.V.S].toArray)]) (C := #[.string x4.1.Op, .int .i64 x4.1.L.K, .string x4.1.L.S, .int .i64 x4.1.L.V.K, .int .i64 x4.1.L.V.N, .string x4.1.L.V.S, .int .i64 x4.1.R.K, .string x4.1.R.S, .int .i64 x4.1.R.V.K, .int .i64 x4.1.R.V.N, .string x4.1.R.V.S]) RTExpr.lasts Sl_73 Zr_85 rfl rfl rfl rfl (fill_made MC_85_1 (fill_cons (cells := [.string ⟨#[]⟩, .int .i64 0, .string ⟨#[]⟩, .int .i64 0, .int .i64 0, .string ⟨#[]⟩, .int .i64 0, .string ⟨#[]⟩, .int .i64 0, .int .i64 0, .string ⟨#[]⟩]) (c := [.string x4.1.Op, .int .i64 x4.1.L.K, .string x4.1.L.S, .int .i64 x4.1.L.V.K, .int .i64 x4.1.L.V.N, .string x4.1.L.V.S, .int .i64 x4.1.R.K, .string x4.1.R.S, .int .i64 x4.1.R.V.K, .int .i64 x4.1.R.V.N, .string x4.1.R.V.S]) (C' := [.string x4.1.Op, .int .i64 x4.1.L.K, .string x4.1.L.S, .int .i64 x4.1.L.V.K, .int .i64 x4.1.L.V.N, .string x4.1.L.V.S, .int .i64 x4.1.R.K, .string x4.1.R.S, .int .i64 x4.1.R.V.K, .int .i64 x4.1.R.V.N, .string x4.1.R.V.S]) rfl rfl rfl rfl rfl (fill_nil))) rfl rc3 rfl (by simpa using Kw.nil)) rfl (fun v7 Φ_8 D3 q7 => ?_))
    obtain ⟨fr7, h7⟩ := q7
    replace h7 : OSl RTExpr 85 11 Φ_8 [] v7 ([x4.1] : List TExpr) := by simpa using h7
    replace ph0_0 := ph0_0.frame RI.lasts fr7 (Dj.empty _)
    replace k2 := k2.frame RTExpr.lasts fr7 (Dj.empty _) (Dj.empty _)
    replace h6 := fr7 _ _ (by simp) h6
    obtain ⟨x5, hx5, h⟩ := bind_some h
    refine WM.one 5 (by kernel_rfl) (me rfl (fun _ v Φx D w1 hq hw => Kn.of (fun k hk _ _ => by simp at hk) (AllIn.mem ⟨gM 0 rfl, gM 1 rfl, trivial⟩) hw) (e_appF RTExpr.lasts RTExpr.one RTExpr.flat Sl_73 Ei_85 rfl rfl rfl rfl rfl (js := [2]) (Rr := [ob v7, [pb0]]) rfl k2 h7.rsl hx5) rfl (fun v8 Φ_9 D4 q8 => ?_))
    obtain ⟨⟨ap5, fr8⟩, h8⟩ := q8
    replace ph0_0 := ph0_0.frame RI.lasts fr8 (ap5.o pa0_0)
    replace h6 := fr8 _ _ ((ap5.r (i := 1) rfl) _ (by simp)) h6
    refine mq 6 rfl (by kernel_rfl) (fun w1 hw => Kn.of (fun k hk _ _ => by simp at hk) (AllIn.mem ⟨gM 0 rfl, gM 1 rfl, trivial⟩) hw) (q_fieldAddr Fld_96_2 rfl) rfl ?_
    refine WM.one 7 (by kernel_rfl) (ms rfl (fun hc => by cases hc) (s_store (i := 0) (vs := [v8]) (C' := [.int .i64 x1.1, .string x3.1, v8, .int .i64 0, .string (⟨#[]⟩ : ByteArray)]) (O' := [(b_2, .cells #[.int .i64 x1.1, .string x3.1, v8, .int .i64 0, .string (⟨#[]⟩ : ByteArray)] 96 (0, 0)), (b_1, .cells #[.int .i64 0, .string (⟨#[]⟩ : ByteArray), .slice none 0 0, .int .i64 0, .string (⟨#[]⟩ : ByteArray)] 96 (0, 0))]) Sz_73 rfl rfl rfl (one_cells h8.one) rfl rfl ⟨h8.one, trivial⟩ rfl rfl) rfl ?_)
    refine WM.nil (by kernel_rfl) <| WT.inBlock <| WT.region <| lq (q_move rfl) rfl <| lq (q_add rfl rfl) rfl <| lq (q_assign rfl) rfl <| WL.nil ?_
    refine WT.inLoop (WT.mono (l' := [(0, .pointer (some ⟨pb0, 0, none⟩)), (4, .pointer (some ⟨b_1, 0, none⟩)), (5, .pointer (some ⟨b_2, 0, none⟩)), (6, .int .i64 s2), (7, .int .i64 (IntKind.i64.wrap (s4 + 1)))]) (S' := St w0 Φ_9 [(b_2, .cells #[.int .i64 x1.1, .string x3.1, v8, .int .i64 0, .string (⟨#[]⟩ : ByteArray)] 96 (0, 0)), (b_1, .cells #[.int .i64 0, .string (⟨#[]⟩ : ByteArray), .slice none 0 0, .int .i64 0, .string (⟨#[]⟩ : ByteArray)] 96 (0, 0))] [ob v8, [pb0]]) ⟨rfl, rfl, rfl, rfl, rfl, trivial⟩ (fun w1 hw => (hw.sel (js := [0, 1]) rfl).selO (js := [0, 0]) rfl) ?_)
    exact ih3 (Φ_9, x5, v8, IntKind.i64.wrap (s4 + 1), x4.2.i, x4.2.h) ⟨h, h8, h6, ph0_0⟩
   replace h := ite_f h c3
   refine WT.exit rfl <| WT.seq <| WT.seq <| WT.region <| lq (q_fieldAddr Fld_96_0 rfl) rfl <| lq (q_load1 T1_3 rfl (fun w1 hw => hw.rgO (i := 0) rfl 0 1 [.int .i64 x1.1] rfl)) rfl <| lq (q_eql rfl rfl) rfl <| WL.nil ?_
   refine cut (σ := Hp × Int × Int × Int) (fun s => [(0, .pointer (some ⟨pb0, 0, none⟩)), (4, .pointer (some ⟨b_1, 0, none⟩)), (5, .pointer (some ⟨b_2, 0, none⟩))]) (fun s => St w0 s.1 [(b_2, .cells #[.int .i64 x1.1, .string x3.1, u1, .int .i64 s.2.2.2, .string (⟨#[]⟩ : ByteArray)] 96 (0, 0)), (b_1, .cells #[.int .i64 0, .string (⟨#[]⟩ : ByteArray), .slice none 0 0, .int .i64 0, .string (⟨#[]⟩ : ByteArray)] 96 (0, 0))] [ob u1, [pb0]]) (fun s => m_s_l8Draw_j4 N p0 x1 x3 s3 s.2.1 s.2.2.1 s.2.2.2 = some r ∧ (OSl RTExpr 85 11 s.1 [] u1 s3) ∧ (s.1 pb0 = some (.cells #[pv0_0, .int .i64 s.2.1, .int .i64 s.2.2.1] 195 (0, 0))) ∧ (RSl (RI .u8) 1 s.1 pG0_0 pv0_0 p0.b)) (fun s hm => ?_) (fun K => ?_)
   ·clear h
    obtain ⟨Φ_10, s7, s8, s9⟩ := s
    obtain ⟨h, k2, k4, ph0_0⟩ := hm
    replace h : m_s_l8Draw_j4 N p0 x1 x3 s3 s7 s8 s9 = some r := h
    replace k2 : OSl RTExpr 85 11 Φ_10 [] u1 s3 := k2
    replace k4 : Φ_10 pb0 = some (.cells #[pv0_0, .int .i64 s7, .int .i64 s8] 195 (0, 0)) := k4
    replace ph0_0 : RSl (RI .u8) 1 Φ_10 pG0_0 pv0_0 p0.b := ph0_0
    show WT _ _ [(0, .pointer (some ⟨pb0, 0, none⟩)), (4, .pointer (some ⟨b_1, 0, none⟩)), (5, .pointer (some ⟨b_2, 0, none⟩))] (St w0 Φ_10 [(b_2, .cells #[.int .i64 x1.1, .string x3.1, u1, .int .i64 s9, .string (⟨#[]⟩ : ByteArray)] 96 (0, 0)), (b_1, .cells #[.int .i64 0, .string (⟨#[]⟩ : ByteArray), .slice none 0 0, .int .i64 0, .string (⟨#[]⟩ : ByteArray)] 96 (0, 0))] [ob u1, [pb0]])
    unfold m_s_l8Draw_j4 at h
    refine WT.seq <| WT.seq <| WT.region <| lq (q_fieldAddr Fld_96_0 rfl) rfl <| lq (q_load1 T1_3 rfl (fun w1 hw => hw.rgO (i := 0) rfl 0 1 [.int .i64 x1.1] rfl)) rfl <| lq (q_eql rfl rfl) rfl <| lq (q_move rfl) rfl ?_
    refine WL.cutS 3 (σ := Hp × Bool × Int × Int) (fun s => [(0, .pointer (some ⟨pb0, 0, none⟩)), (4, .pointer (some ⟨b_1, 0, none⟩)), (5, .pointer (some ⟨b_2, 0, none⟩)), (57, .bool s.2.1)]) (fun s => St w0 s.1 [(b_2, .cells #[.int .i64 x1.1, .string x3.1, u1, .int .i64 s9, .string (⟨#[]⟩ : ByteArray)] 96 (0, 0)), (b_1, .cells #[.int .i64 0, .string (⟨#[]⟩ : ByteArray), .slice none 0 0, .int .i64 0, .string (⟨#[]⟩ : ByteArray)] 96 (0, 0))] [ob u1, [pb0]]) (fun s => m_s_l8Draw_j5 N p0 x1 x3 s3 s9 s.2.1 s.2.2.1 s.2.2.2 = some r ∧ (OSl RTExpr 85 11 s.1 [] u1 s3) ∧ (s.1 pb0 = some (.cells #[pv0_0, .int .i64 s.2.2.1, .int .i64 s.2.2.2] 195 (0, 0))) ∧ (RSl (RI .u8) 1 s.1 pG0_0 pv0_0 p0.b)) (fun s hm => ?_) (fun K => ?_)
    ·clear h
     obtain ⟨Φ_11, s10, s11, s12⟩ := s
     obtain ⟨h, k2, k5, ph0_0⟩ := hm
     replace h : m_s_l8Draw_j5 N p0 x1 x3 s3 s9 s10 s11 s12 = some r := h
     replace k2 : OSl RTExpr 85 11 Φ_11 [] u1 s3 := k2
     replace k5 : Φ_11 pb0 = some (.cells #[pv0_0, .int .i64 s11, .int .i64 s12] 195 (0, 0)) := k5
     replace ph0_0 : RSl (RI .u8) 1 Φ_11 pG0_0 pv0_0 p0.b := ph0_0
     show WL _ _ _ _ [(0, .pointer (some ⟨pb0, 0, none⟩)), (4, .pointer (some ⟨b_1, 0, none⟩)), (5, .pointer (some ⟨b_2, 0, none⟩)), (57, .bool s10)] (St w0 Φ_11 [(b_2, .cells #[.int .i64 x1.1, .string x3.1, u1, .int .i64 s9, .string (⟨#[]⟩ : ByteArray)] 96 (0, 0)), (b_1, .cells #[.int .i64 0, .string (⟨#[]⟩ : ByteArray), .slice none 0 0, .int .i64 0, .string (⟨#[]⟩ : ByteArray)] 96 (0, 0))] [ob u1, [pb0]])
     unfold m_s_l8Draw_j5 at h
     refine WL.nil ?_
     refine cut (σ := Hp × Int × Int × ByteArray) (fun s => [(4, .pointer (some ⟨b_1, 0, none⟩)), (5, .pointer (some ⟨b_2, 0, none⟩))]) (fun s => St w0 s.1 [(b_2, .cells #[.int .i64 x1.1, .string x3.1, u1, .int .i64 s9, .string s.2.2.2] 96 (0, 0)), (b_1, .cells #[.int .i64 0, .string (⟨#[]⟩ : ByteArray), .slice none 0 0, .int .i64 0, .string (⟨#[]⟩ : ByteArray)] 96 (0, 0))] [ob u1, [pb0]]) (fun s => m_s_l8Draw_j6 N p0 x1 x3 s3 s9 s.2.1 s.2.2.1 s.2.2.2 = some r ∧ (OSl RTExpr 85 11 s.1 [] u1 s3) ∧ (s.1 pb0 = some (.cells #[pv0_0, .int .i64 s.2.1, .int .i64 s.2.2.1] 195 (0, 0))) ∧ (RSl (RI .u8) 1 s.1 pG0_0 pv0_0 p0.b)) (fun s hm => ?_) (fun K => ?_)
     ·clear h
      obtain ⟨Φ_12, s13, s14, s15⟩ := s
      obtain ⟨h, k2, k6, ph0_0⟩ := hm
      replace h : m_s_l8Draw_j6 N p0 x1 x3 s3 s9 s13 s14 s15 = some r := h
      replace k2 : OSl RTExpr 85 11 Φ_12 [] u1 s3 := k2
      replace k6 : Φ_12 pb0 = some (.cells #[pv0_0, .int .i64 s13, .int .i64 s14] 195 (0, 0)) := k6
      replace ph0_0 : RSl (RI .u8) 1 Φ_12 pG0_0 pv0_0 p0.b := ph0_0
      show WT _ _ [(4, .pointer (some ⟨b_1, 0, none⟩)), (5, .pointer (some ⟨b_2, 0, none⟩))] (St w0 Φ_12 [(b_2, .cells #[.int .i64 x1.1, .string x3.1, u1, .int .i64 s9, .string s15] 96 (0, 0)), (b_1, .cells #[.int .i64 0, .string (⟨#[]⟩ : ByteArray), .slice none 0 0, .int .i64 0, .string (⟨#[]⟩ : ByteArray)] 96 (0, 0))] [ob u1, [pb0]])
      unfold m_s_l8Draw_j6 at h
      refine WT.seq <| WT.region <| lq (q_loadN Tn_96 rfl (fun w1 hw => hw.rgO (i := 0) rfl 0 5 [.int .i64 x1.1, .string x3.1, u1, .int .i64 s9, .string s15] rfl) rfl) rfl <| ls (s_store (i := 1) (vs := [.int .i64 x1.1, .string x3.1, u1, .int .i64 s9, .string s15]) (C' := [.int .i64 x1.1, .string x3.1, u1, .int .i64 s9, .string s15]) (O' := [(b_2, .cells #[.int .i64 x1.1, .string x3.1, u1, .int .i64 s9, .string s15] 96 (0, 0)), (b_1, .cells #[.int .i64 x1.1, .string x3.1, u1, .int .i64 s9, .string s15] 96 (0, 0))]) Sz_96 rfl rfl rfl rfl rfl rfl ⟨rfl, rfl, k2.one, rfl, rfl, trivial⟩ rfl rfl) rfl ?_
      refine WL.nil ?_
      refine WT.ret Try.func176 (resOk.one (rv_cell Tn_96 rfl (fun w1 hw => hw.rgO (i := 1) rfl 0 5 [.int .i64 x1.1, .string x3.1, u1, .int .i64 s9, .string s15] rfl) rfl)) (fun w1 hw => ?_)
      subst hb0
      cases h
      refine postG_of_St (js := [0, 0]) hw rfl ⟨u1, rfl, rfl, k2, rfl, k6⟩
     refine WT.cond rfl (fun c4 => ?_) (fun c4 => ?_)
     ·replace h := ite_t h c4
      refine WT.region <| lq (q_move rfl) rfl ?_
      have rc4 : RC RS 1 Φ_11 ([[], []] : List (List Nat)) [.string (⟨#[114, 101, 102, 117, 110, 100]⟩ : ByteArray), .string (⟨#[99, 97, 110, 99, 101, 108]⟩ : ByteArray)] ([(⟨#[114, 101, 102, 117, 110, 100]⟩ : ByteArray), (⟨#[99, 97, 110, 99, 101, 108]⟩ : ByteArray)] : List ByteArray) := RC.cons (c := [.string (⟨#[114, 101, 102, 117, 110, 100]⟩ : ByteArray)]) (cells := [.string (⟨#[99, 97, 110, 99, 101, 108]⟩ : ByteArray)]) ⟨rfl, rfl⟩ rfl (RC.cons (c := [.string (⟨#[99, 97, 110, 99, 101, 108]⟩ : ByteArray)]) (cells := []) ⟨rfl, rfl⟩ rfl (RC.nil _ _ _))
      refine le' (e_lit (vs := [(0, .string (⟨#[114, 101, 102, 117, 110, 100]⟩ : ByteArray)), (1, .string (⟨#[99, 97, 110, 99, 101, 108]⟩ : ByteArray))]) (C := #[.string (⟨#[114, 101, 102, 117, 110, 100]⟩ : ByteArray), .string (⟨#[99, 97, 110, 99, 101, 108]⟩ : ByteArray)]) RS.lasts Sl_68 Zr_9 rfl rfl rfl rfl (fill_made MC_9_2 (fill_cons (cells := [.string ⟨#[]⟩, .string ⟨#[]⟩]) (c := [.string (⟨#[114, 101, 102, 117, 110, 100]⟩ : ByteArray)]) (C' := [.string (⟨#[114, 101, 102, 117, 110, 100]⟩ : ByteArray), .string ⟨#[]⟩]) rfl rfl rfl rfl rfl (fill_cons (cells := [.string (⟨#[114, 101, 102, 117, 110, 100]⟩ : ByteArray), .string ⟨#[]⟩]) (c := [.string (⟨#[99, 97, 110, 99, 101, 108]⟩ : ByteArray)]) (C' := [.string (⟨#[114, 101, 102, 117, 110, 100]⟩ : ByteArray), .string (⟨#[99, 97, 110, 99, 101, 108]⟩ : ByteArray)]) rfl rfl rfl rfl rfl (fill_nil)))) rfl rc4 rfl (by simpa using Kw.nil)) rfl (fun v9 Φ_13 D5 q9 => ?_)
      obtain ⟨fr9, h9⟩ := q9
      replace h9 : OSl RS 9 1 Φ_13 [] v9 ([(⟨#[114, 101, 102, 117, 110, 100]⟩ : ByteArray), (⟨#[99, 97, 110, 99, 101, 108]⟩ : ByteArray)] : List ByteArray) := by simpa using h9
      replace ph0_0 := ph0_0.frame RI.lasts fr9 (Dj.empty _)
      replace k2 := k2.frame RTExpr.lasts fr9 (Dj.empty _) (Dj.empty _)
      replace k5 := fr9 _ _ (by simp) k5
      obtain ⟨x6, hx6, h⟩ := bind_some h
      refine lc (k_call (js := [2]) (R := [ob v9, ob u1]) Fun_151 rfl rfl (fun w1 hw ap hl => m_s_l1Str_ok hw.fro N (⟨p0.b, s11, s12⟩ : Tl1Cur) ([(⟨#[114, 101, 102, 117, 110, 100]⟩ : ByteArray), (⟨#[99, 97, 110, 99, 101, 108]⟩ : ByteArray)] : List ByteArray) ph0_0 k5 h9.rsl (ap.o pa0_0) (Dj.app (ap.r (i := 0) rfl) (Dj.nil _)) ap.nd hl hx6)) rfl (fun v10 Φ_14 F5 q10 => ?_)
      obtain ⟨ap6, fr10, rfl, rfl, e5, h10⟩ := q10
      replace ph0_0 := ph0_0.frame RI.lasts fr10 (ap6.o pa0_0)
      replace k2 := k2.frame RTExpr.lasts fr10 (ap6.r (i := 1) rfl) (Dj.nil _)
      refine lq (q_fieldAddr Fld_96_4 rfl) rfl <| ls (s_store (i := 0) (vs := [.string x6.1]) (C' := [.int .i64 x1.1, .string x3.1, u1, .int .i64 s9, .string x6.1]) (O' := [(b_2, .cells #[.int .i64 x1.1, .string x3.1, u1, .int .i64 s9, .string x6.1] 96 (0, 0)), (b_1, .cells #[.int .i64 0, .string (⟨#[]⟩ : ByteArray), .slice none 0 0, .int .i64 0, .string (⟨#[]⟩ : ByteArray)] 96 (0, 0))]) Sz_9 rfl rfl rfl rfl rfl rfl ⟨rfl, trivial⟩ rfl rfl) rfl ?_
      refine WL.nil <| WT.mono (l' := [(4, .pointer (some ⟨b_1, 0, none⟩)), (5, .pointer (some ⟨b_2, 0, none⟩))]) (S' := St w0 Φ_14 [(b_2, .cells #[.int .i64 x1.1, .string x3.1, u1, .int .i64 s9, .string x6.1] 96 (0, 0)), (b_1, .cells #[.int .i64 0, .string (⟨#[]⟩ : ByteArray), .slice none 0 0, .int .i64 0, .string (⟨#[]⟩ : ByteArray)] 96 (0, 0))] [ob u1, [pb0]]) ⟨rfl, rfl, trivial⟩ (fun w1 hw => (hw.sel (js := [2, 0]) rfl).selO (js := [0, 0]) rfl) ?_
      exact K (Φ_14, x6.2.i, x6.2.h, x6.1) ⟨h, k2, h10, ph0_0⟩
     replace h := ite_f h c4
     refine WT.skip <| WT.mono (l' := [(4, .pointer (some ⟨b_1, 0, none⟩)), (5, .pointer (some ⟨b_2, 0, none⟩))]) (S' := St w0 Φ_11 [(b_2, .cells #[.int .i64 x1.1, .string x3.1, u1, .int .i64 s9, .string (⟨#[]⟩ : ByteArray)] 96 (0, 0)), (b_1, .cells #[.int .i64 0, .string (⟨#[]⟩ : ByteArray), .slice none 0 0, .int .i64 0, .string (⟨#[]⟩ : ByteArray)] 96 (0, 0))] [ob u1, [pb0]]) ⟨rfl, rfl, trivial⟩ (fun w1 hw => (hw.sel (js := [0, 0]) rfl).selO (js := [0, 0]) rfl) ?_
     exact K (Φ_11, s11, s12, (⟨#[]⟩ : ByteArray)) ⟨h, k2, k5, ph0_0⟩
    refine WL.split (d := 54) rfl (fun c5 => ?_) (fun c5 => ?_)
    ·replace h := ite_t h c5
     refine WL.yes rfl rfl <| lq (q_move rfl) rfl <| WL.yes rfl rfl ?_
     obtain ⟨x7, hx7, h⟩ := bind_some h
     refine lc (k_call (js := [1]) (R := [ob u1]) Fun_85 rfl rfl (fun w1 hw ap hl => m_s_l1Once_ok hw.fro N (⟨p0.b, s7, s8⟩ : Tl1Cur) 2 ph0_0 k4 (ap.o pa0_0) ap.nd hl hx7)) rfl (fun v11 Φ_15 F6 q11 => ?_)
     obtain ⟨ap7, fr11, rfl, rfl, e6, h11⟩ := q11
     replace ph0_0 := ph0_0.frame RI.lasts fr11 (ap7.o pa0_0)
     replace k2 := k2.frame RTExpr.lasts fr11 (ap7.r (i := 0) rfl) (Dj.nil _)
     refine WL.q (q_pick1 rfl rfl) rfl rfl rfl <| WL.mono (l' := [(0, .pointer (some ⟨pb0, 0, none⟩)), (4, .pointer (some ⟨b_1, 0, none⟩)), (5, .pointer (some ⟨b_2, 0, none⟩)), (57, .bool x7.1)]) (S' := St w0 Φ_15 [(b_2, .cells #[.int .i64 x1.1, .string x3.1, u1, .int .i64 s9, .string (⟨#[]⟩ : ByteArray)] 96 (0, 0)), (b_1, .cells #[.int .i64 0, .string (⟨#[]⟩ : ByteArray), .slice none 0 0, .int .i64 0, .string (⟨#[]⟩ : ByteArray)] 96 (0, 0))] [ob u1, [pb0]]) (by exact ⟨rfl, rfl, rfl, rfl, trivial⟩) (fun w1 hw => (hw.sel (js := [1, 0]) rfl).selO (js := [0, 0]) rfl) ?_
     exact K (Φ_15, x7.1, x7.2.i, x7.2.h) ⟨h, k2, h11, ph0_0⟩
    replace h := ite_f h c5
    refine WL.no rfl rfl rfl rfl <| WL.no rfl rfl rfl rfl <| WL.q (q_pick0 rfl rfl) rfl rfl rfl <| WL.mono (l' := [(0, .pointer (some ⟨pb0, 0, none⟩)), (4, .pointer (some ⟨b_1, 0, none⟩)), (5, .pointer (some ⟨b_2, 0, none⟩)), (57, .bool false)]) (S' := St w0 Φ_10 [(b_2, .cells #[.int .i64 x1.1, .string x3.1, u1, .int .i64 s9, .string (⟨#[]⟩ : ByteArray)] 96 (0, 0)), (b_1, .cells #[.int .i64 0, .string (⟨#[]⟩ : ByteArray), .slice none 0 0, .int .i64 0, .string (⟨#[]⟩ : ByteArray)] 96 (0, 0))] [ob u1, [pb0]]) (by exact ⟨rfl, rfl, rfl, rfl, trivial⟩) (fun w1 hw => (hw.sel (js := [0, 0]) rfl).selO (js := [0, 0]) rfl) ?_
    exact K (Φ_10, false, s7, s8) ⟨h, k2, k4, ph0_0⟩
   refine WT.cond rfl (fun c6 => ?_) (fun c6 => ?_)
   ·replace h := ite_t h c6
    refine WT.region <| lq (q_move rfl) rfl ?_
    have rc5 : RC (RI .i64) 1 Φ_6 ([[], [], [], []] : List (List Nat)) [.int .i64 0, .int .i64 1, .int .i64 5, .int .i64 100000] ([0, 1, 5, 100000] : List Int) := RC.cons (c := [.int .i64 0]) (cells := [.int .i64 1, .int .i64 5, .int .i64 100000]) ⟨rfl, rfl⟩ rfl (RC.cons (c := [.int .i64 1]) (cells := [.int .i64 5, .int .i64 100000]) ⟨rfl, rfl⟩ rfl (RC.cons (c := [.int .i64 5]) (cells := [.int .i64 100000]) ⟨rfl, rfl⟩ rfl (RC.cons (c := [.int .i64 100000]) (cells := []) ⟨rfl, rfl⟩ rfl (RC.nil _ _ _))))
    refine le' (e_lit (vs := [(0, .int .i64 0), (1, .int .i64 1), (2, .int .i64 5), (3, .int .i64 100000)]) (C := #[.int .i64 0, .int .i64 1, .int .i64 5, .int .i64 100000]) RI.lasts Sl_27 Zr_3 rfl rfl rfl rfl (fill_made MC_3_4 (fill_cons (cells := [.int .i64 0, .int .i64 0, .int .i64 0, .int .i64 0]) (c := [.int .i64 0]) (C' := [.int .i64 0, .int .i64 0, .int .i64 0, .int .i64 0]) rfl rfl rfl rfl rfl (fill_cons (cells := [.int .i64 0, .int .i64 0, .int .i64 0, .int .i64 0]) (c := [.int .i64 1]) (C' := [.int .i64 0, .int .i64 1, .int .i64 0, .int .i64 0]) rfl rfl rfl rfl rfl (fill_cons (cells := [.int .i64 0, .int .i64 1, .int .i64 0, .int .i64 0]) (c := [.int .i64 5]) (C' := [.int .i64 0, .int .i64 1, .int .i64 5, .int .i64 0]) rfl rfl rfl rfl rfl (fill_cons (cells := [.int .i64 0, .int .i64 1, .int .i64 5, .int .i64 0]) (c := [.int .i64 100000]) (C' := [.int .i64 0, .int .i64 1, .int .i64 5, .int .i64 100000]) rfl rfl rfl rfl rfl (fill_nil)))))) rfl rc5 rfl (by simpa using Kw.nil)) rfl (fun v12 Φ_16 D6 q12 => ?_)
    obtain ⟨fr12, h12⟩ := q12
    replace h12 : OSl (RI .i64) 3 1 Φ_16 [] v12 ([0, 1, 5, 100000] : List Int) := by simpa using h12
    replace ph0_0 := ph0_0.frame RI.lasts fr12 (Dj.empty _)
    replace k2 := k2.frame RTExpr.lasts fr12 (Dj.empty _) (Dj.empty _)
    replace k3 := fr12 _ _ (by simp) k3
    obtain ⟨x8, hx8, h⟩ := bind_some h
    refine lc (k_call (js := [2]) (R := [ob v12, ob u1]) Fun_120 rfl rfl (fun w1 hw ap hl => m_s_l1Int_ok hw.fro N (⟨p0.b, s5, s6⟩ : Tl1Cur) ([0, 1, 5, 100000] : List Int) ph0_0 k3 h12.rsl (ap.o pa0_0) (Dj.app (ap.r (i := 0) rfl) (Dj.nil _)) ap.nd hl hx8)) rfl (fun v13 Φ_17 F7 q13 => ?_)
    obtain ⟨ap8, fr13, rfl, rfl, e7, h13⟩ := q13
    replace ph0_0 := ph0_0.frame RI.lasts fr13 (ap8.o pa0_0)
    replace k2 := k2.frame RTExpr.lasts fr13 (ap8.r (i := 1) rfl) (Dj.nil _)
    refine lq (q_fieldAddr Fld_96_3 rfl) rfl <| ls (s_store (i := 0) (vs := [.int .i64 x8.1]) (C' := [.int .i64 x1.1, .string x3.1, u1, .int .i64 x8.1, .string (⟨#[]⟩ : ByteArray)]) (O' := [(b_2, .cells #[.int .i64 x1.1, .string x3.1, u1, .int .i64 x8.1, .string (⟨#[]⟩ : ByteArray)] 96 (0, 0)), (b_1, .cells #[.int .i64 0, .string (⟨#[]⟩ : ByteArray), .slice none 0 0, .int .i64 0, .string (⟨#[]⟩ : ByteArray)] 96 (0, 0))]) Sz_3 rfl rfl rfl rfl rfl rfl ⟨rfl, trivial⟩ rfl rfl) rfl ?_
    refine WL.nil <| WT.mono (l' := [(0, .pointer (some ⟨pb0, 0, none⟩)), (4, .pointer (some ⟨b_1, 0, none⟩)), (5, .pointer (some ⟨b_2, 0, none⟩))]) (S' := St w0 Φ_17 [(b_2, .cells #[.int .i64 x1.1, .string x3.1, u1, .int .i64 x8.1, .string (⟨#[]⟩ : ByteArray)] 96 (0, 0)), (b_1, .cells #[.int .i64 0, .string (⟨#[]⟩ : ByteArray), .slice none 0 0, .int .i64 0, .string (⟨#[]⟩ : ByteArray)] 96 (0, 0))] [ob u1, [pb0]]) ⟨rfl, rfl, rfl, trivial⟩ (fun w1 hw => (hw.sel (js := [2, 0]) rfl).selO (js := [0, 0]) rfl) ?_
    exact K (Φ_17, x8.2.i, x8.2.h, x8.1) ⟨h, k2, h13, ph0_0⟩
   replace h := ite_f h c6
   refine WT.skip <| WT.mono (l' := [(0, .pointer (some ⟨pb0, 0, none⟩)), (4, .pointer (some ⟨b_1, 0, none⟩)), (5, .pointer (some ⟨b_2, 0, none⟩))]) (S' := St w0 Φ_6 [(b_2, .cells #[.int .i64 x1.1, .string x3.1, u1, .int .i64 0, .string (⟨#[]⟩ : ByteArray)] 96 (0, 0)), (b_1, .cells #[.int .i64 0, .string (⟨#[]⟩ : ByteArray), .slice none 0 0, .int .i64 0, .string (⟨#[]⟩ : ByteArray)] 96 (0, 0))] [ob u1, [pb0]]) ⟨rfl, rfl, rfl, trivial⟩ (fun w1 hw => (hw.sel (js := [0, 0]) rfl).selO (js := [0, 0]) rfl) ?_
   exact K (Φ_6, s5, s6, 0) ⟨h, k2, k3, ph0_0⟩
  refine WT.cond rfl (fun c7 => ?_) (fun c7 => ?_)
  ·replace h := ite_t h c7
   refine WT.region <| lq (q_assign rfl) rfl <| WL.nil <| WT.mono (l' := [(0, .pointer (some ⟨pb0, 0, none⟩)), (4, .pointer (some ⟨b_1, 0, none⟩)), (5, .pointer (some ⟨b_2, 0, none⟩)), (6, .int .i64 2)]) (S' := St w0 Φ_5 [(b_2, .cells #[.int .i64 x1.1, .string x3.1, .slice none 0 0, .int .i64 0, .string (⟨#[]⟩ : ByteArray)] 96 (0, 0)), (b_1, .cells #[.int .i64 0, .string (⟨#[]⟩ : ByteArray), .slice none 0 0, .int .i64 0, .string (⟨#[]⟩ : ByteArray)] 96 (0, 0))] [[pb0]]) ⟨rfl, rfl, rfl, rfl, trivial⟩ (fun w1 hw => (hw.sel (js := [0]) rfl).selO (js := [0, 0]) rfl) ?_
   exact K (2) h
  replace h := ite_f h c7
  refine WT.skip <| WT.mono (l' := [(0, .pointer (some ⟨pb0, 0, none⟩)), (4, .pointer (some ⟨b_1, 0, none⟩)), (5, .pointer (some ⟨b_2, 0, none⟩)), (6, .int .i64 1)]) (S' := St w0 Φ_5 [(b_2, .cells #[.int .i64 x1.1, .string x3.1, .slice none 0 0, .int .i64 0, .string (⟨#[]⟩ : ByteArray)] 96 (0, 0)), (b_1, .cells #[.int .i64 0, .string (⟨#[]⟩ : ByteArray), .slice none 0 0, .int .i64 0, .string (⟨#[]⟩ : ByteArray)] 96 (0, 0))] [[pb0]]) ⟨rfl, rfl, rfl, rfl, trivial⟩ (fun w1 hw => (hw.sel (js := [0]) rfl).selO (js := [0, 0]) rfl) ?_
  exact K (1) h
 refine WT.cond rfl (fun c8 => ?_) (fun c8 => ?_)
 ·replace h := ite_t h c8
  refine WT.skip <| WT.mono (l' := [(0, .pointer (some ⟨pb0, 0, none⟩)), (4, .pointer (some ⟨b_1, 0, none⟩)), (5, .pointer (some ⟨b_2, 0, none⟩)), (21, .bool (decide (x1.1 = 5)))]) (S' := St w0 Φ_2 [(b_2, .cells #[.int .i64 x1.1, .string (⟨#[]⟩ : ByteArray), .slice none 0 0, .int .i64 0, .string (⟨#[]⟩ : ByteArray)] 96 (0, 0)), (b_1, .cells #[.int .i64 0, .string (⟨#[]⟩ : ByteArray), .slice none 0 0, .int .i64 0, .string (⟨#[]⟩ : ByteArray)] 96 (0, 0))] [[pb0]]) ⟨rfl, rfl, rfl, rfl, trivial⟩ (fun w1 hw => (hw.sel (js := [0]) rfl).selO (js := [0, 0]) rfl) ?_
  exact K (decide (x1.1 = 5)) h
 replace h := ite_f h c8
 refine WT.region <| lq (q_eql rfl rfl) rfl <| lq (q_assign rfl) rfl <| WL.nil <| WT.mono (l' := [(0, .pointer (some ⟨pb0, 0, none⟩)), (4, .pointer (some ⟨b_1, 0, none⟩)), (5, .pointer (some ⟨b_2, 0, none⟩)), (21, .bool (decide (x1.1 = 6)))]) (S' := St w0 Φ_2 [(b_2, .cells #[.int .i64 x1.1, .string (⟨#[]⟩ : ByteArray), .slice none 0 0, .int .i64 0, .string (⟨#[]⟩ : ByteArray)] 96 (0, 0)), (b_1, .cells #[.int .i64 0, .string (⟨#[]⟩ : ByteArray), .slice none 0 0, .int .i64 0, .string (⟨#[]⟩ : ByteArray)] 96 (0, 0))] [[pb0]]) ⟨rfl, rfl, rfl, rfl, trivial⟩ (fun w1 hw => (hw.sel (js := [0]) rfl).selO (js := [0, 0]) rfl) ?_
 exact K (decide (x1.1 = 6)) h
end Go.Proofs.Ytmhckcoabhahpaa
