/- Printed by a program of ours: each Go function computes its Lean function. -/
import Derived.Test.YtelchcokfcdndaaProg
import Derived.Test.YtelchcokfcdndaaWAlphasMod
namespace Go.Proofs.Ytelchcokfcdndaa
open Eng
open Go.RowKit (Below)
set_option linter.unusedVariables false
set_option linter.unusedSimpArgs false

set_option maxRecDepth 100000
set_option maxHeartbeats 1000000
theorem mixed : Try.prog.follows .mixedOrders = true := by kernel_rfl
theorem Sl_22 : Sl Try.prog 22 5 1 = true := by kernel_rfl
theorem T1_5 : T1 Try.prog 5 = true := by kernel_rfl
theorem Ik_5 : Ik Try.prog 5 .u8 = true := by kernel_rfl
theorem Ik_3 : Ik Try.prog 3 .i64 = true := by kernel_rfl
theorem Pl_67 : Pl Try.prog 67 #[(0, 1), (1, 1), (2, 1)] = true := by kernel_rfl
theorem Zr_67 : (Try.prog.info? 67).map (·.zero) = some (some (.agg #[.slice none 0 0, .int .i64 0, .int .i64 0])) := by kernel_rfl
theorem Fld_67_2 : Fld Try.prog 67 2 2 = true := by kernel_rfl
theorem T1_3 : T1 Try.prog 3 = true := by kernel_rfl
theorem Sz_3 : Sz Try.prog 3 1 = true := by kernel_rfl
theorem Fld_67_1 : Fld Try.prog 67 1 1 = true := by kernel_rfl
theorem Fld_67_0 : Fld Try.prog 67 0 0 = true := by kernel_rfl
theorem T1_22 : T1 Try.prog 22 = true := by kernel_rfl
theorem Fun_34 : Fun Try.prog 34 = true := by kernel_rfl
theorem Sl_69 : Sl Try.prog 69 9 1 = true := by kernel_rfl
theorem Fun_25 : Fun Try.prog 25 = true := by kernel_rfl
theorem T1_9 : T1 Try.prog 9 = true := by kernel_rfl
theorem Zr_51 : (Try.prog.info? 51).map (·.zero) = some (some (.agg #[.int .i64 0, .int .i64 0, .string ⟨#[]⟩])) := by kernel_rfl
theorem Fun_18 : Fun Try.prog 18 = true := by kernel_rfl
theorem Pl_51 : Pl Try.prog 51 #[(0, 1), (1, 1), (2, 1)] = true := by kernel_rfl
theorem Sz_51 : Sz Try.prog 51 3 = true := by kernel_rfl
theorem Tn_51 : Tn Try.prog 51 3 = true := by kernel_rfl
theorem MC_9_2 : madeCells (Value.string ⟨#[]⟩ : Value).cells (2 * 1) = #[.string ⟨#[]⟩, .string ⟨#[]⟩] := by kernel_rfl
theorem Zr_9 : (Try.prog.info? 9).map (·.zero) = some (some (.string ⟨#[]⟩)) := by kernel_rfl
theorem Fun_32 : Fun Try.prog 32 = true := by kernel_rfl
theorem Zr_54 : (Try.prog.info? 54).map (·.zero) = some (some (.agg #[.int .i64 0, .string ⟨#[]⟩, .int .i64 0, .int .i64 0, .string ⟨#[]⟩])) := by kernel_rfl
theorem Pl_54 : Pl Try.prog 54 #[(0, 1), (1, 1), (2, 3)] = true := by kernel_rfl
theorem Sz_54 : Sz Try.prog 54 5 = true := by kernel_rfl
theorem Tn_54 : Tn Try.prog 54 5 = true := by kernel_rfl
theorem Fun_19 : Fun Try.prog 19 = true := by kernel_rfl
theorem Fun_37 : Fun Try.prog 37 = true := by kernel_rfl
theorem MC_9_4 : madeCells (Value.string ⟨#[]⟩ : Value).cells (4 * 1) = #[.string ⟨#[]⟩, .string ⟨#[]⟩, .string ⟨#[]⟩, .string ⟨#[]⟩] := by kernel_rfl
theorem Fun_38 : Fun Try.prog 38 = true := by kernel_rfl
theorem Zr_26 : (Try.prog.info? 26).map (·.zero) = some (some (.agg #[.string ⟨#[]⟩, .slice none 0 0, .bool false])) := by kernel_rfl
theorem Pl_26 : Pl Try.prog 26 #[(0, 1), (1, 1), (2, 1)] = true := by kernel_rfl
theorem Sz_26 : Sz Try.prog 26 3 = true := by kernel_rfl
theorem Fld_26_0 : Fld Try.prog 26 0 0 = true := by kernel_rfl
theorem Fld_26_1 : Fld Try.prog 26 1 1 = true := by kernel_rfl
theorem T1_24 : T1 Try.prog 24 = true := by kernel_rfl
theorem Fun_33 : Fun Try.prog 33 = true := by kernel_rfl
theorem MC_54_1 : madeCells (Value.agg #[.int .i64 0, .string ⟨#[]⟩, .int .i64 0, .int .i64 0, .string ⟨#[]⟩] : Value).cells (1 * 5) = #[.int .i64 0, .string ⟨#[]⟩, .int .i64 0, .int .i64 0, .string ⟨#[]⟩] := by kernel_rfl
theorem Sl_24 : Sl Try.prog 24 54 5 = true := by kernel_rfl
theorem Ei_54 : (Try.prog.info? 54).map (fun i => (i.zero, i.size, i.bytes)) = some (some (.agg #[.int .i64 0, .string ⟨#[]⟩, .int .i64 0, .int .i64 0, .string ⟨#[]⟩]), 5, 56) := by kernel_rfl
theorem Sz_24 : Sz Try.prog 24 1 = true := by kernel_rfl
theorem Tn_26 : Tn Try.prog 26 3 = true := by kernel_rfl
theorem Zr_29 : (Try.prog.info? 29).map (·.zero) = some (some (.agg #[.string ⟨#[]⟩, .slice none 0 0])) := by kernel_rfl
theorem Pl_29 : Pl Try.prog 29 #[(0, 1), (1, 1)] = true := by kernel_rfl
theorem Sz_29 : Sz Try.prog 29 2 = true := by kernel_rfl
theorem Fld_29_0 : Fld Try.prog 29 0 0 = true := by kernel_rfl
theorem Fld_29_1 : Fld Try.prog 29 1 1 = true := by kernel_rfl
theorem T1_27 : T1 Try.prog 27 = true := by kernel_rfl
theorem MC_51_1 : madeCells (Value.agg #[.int .i64 0, .int .i64 0, .string ⟨#[]⟩] : Value).cells (1 * 3) = #[.int .i64 0, .int .i64 0, .string ⟨#[]⟩] := by kernel_rfl
theorem Sl_27 : Sl Try.prog 27 51 3 = true := by kernel_rfl
theorem Ei_51 : (Try.prog.info? 51).map (fun i => (i.zero, i.size, i.bytes)) = some (some (.agg #[.int .i64 0, .int .i64 0, .string ⟨#[]⟩]), 3, 32) := by kernel_rfl
theorem Sz_27 : Sz Try.prog 27 1 = true := by kernel_rfl
theorem Tn_29 : Tn Try.prog 29 2 = true := by kernel_rfl
theorem Fun_16 : Fun Try.prog 16 = true := by kernel_rfl
theorem MC_9_3 : madeCells (Value.string ⟨#[]⟩ : Value).cells (3 * 1) = #[.string ⟨#[]⟩, .string ⟨#[]⟩, .string ⟨#[]⟩] := by kernel_rfl
theorem Sz_9 : Sz Try.prog 9 1 = true := by kernel_rfl
theorem MC_59_0 : madeCells (Value.agg #[.string ⟨#[]⟩, .int .i64 0, .int .i64 0, .string ⟨#[]⟩] : Value).cells (0 * 4) = #[] := by kernel_rfl
theorem Sl_30 : Sl Try.prog 30 59 4 = true := by kernel_rfl
theorem Zr_59 : (Try.prog.info? 59).map (·.zero) = some (some (.agg #[.string ⟨#[]⟩, .int .i64 0, .int .i64 0, .string ⟨#[]⟩])) := by kernel_rfl
theorem Pl_59 : Pl Try.prog 59 #[(0, 1), (1, 3)] = true := by kernel_rfl
theorem MC_59_1 : madeCells (Value.agg #[.string ⟨#[]⟩, .int .i64 0, .int .i64 0, .string ⟨#[]⟩] : Value).cells (1 * 4) = #[.string ⟨#[]⟩, .int .i64 0, .int .i64 0, .string ⟨#[]⟩] := by kernel_rfl
theorem Ei_59 : (Try.prog.info? 59).map (fun i => (i.zero, i.size, i.bytes)) = some (some (.agg #[.string ⟨#[]⟩, .int .i64 0, .int .i64 0, .string ⟨#[]⟩]), 4, 48) := by kernel_rfl
theorem Fun_15 : Fun Try.prog 15 = true := by kernel_rfl
theorem Fun_17 : Fun Try.prog 17 = true := by kernel_rfl
theorem Fun_21 : Fun Try.prog 21 = true := by kernel_rfl
theorem Fun_20 : Fun Try.prog 20 = true := by kernel_rfl
theorem Fld_54_0 : Fld Try.prog 54 0 0 = true := by kernel_rfl
theorem Fld_54_2 : Fld Try.prog 54 2 2 = true := by kernel_rfl
theorem Tn_59 : Tn Try.prog 59 4 = true := by kernel_rfl
theorem Sz_59 : Sz Try.prog 59 4 = true := by kernel_rfl
theorem Fld_59_0 : Fld Try.prog 59 0 0 = true := by kernel_rfl
theorem Fld_59_1 : Fld Try.prog 59 1 1 = true := by kernel_rfl
theorem Fun_22 : Fun Try.prog 22 = true := by kernel_rfl
theorem EqT_51 : EqT Try.prog 51 [.i .i64, .i .i64, .s] = true := by kernel_rfl
theorem Fld_54_1 : Fld Try.prog 54 1 1 = true := by kernel_rfl
theorem Fun_23 : Fun Try.prog 23 = true := by kernel_rfl
theorem Zr_37 : (Try.prog.info? 37).map (·.zero) = some (some (.agg #[.string ⟨#[]⟩, .int .i64 0, .slice none 0 0, .slice none 0 0])) := by kernel_rfl
theorem Pl_37 : Pl Try.prog 37 #[(0, 1), (1, 1), (2, 1), (3, 1)] = true := by kernel_rfl
theorem Sz_37 : Sz Try.prog 37 4 = true := by kernel_rfl
theorem Fld_37_2 : Fld Try.prog 37 2 2 = true := by kernel_rfl
theorem Fld_37_3 : Fld Try.prog 37 3 3 = true := by kernel_rfl
theorem T1_35 : T1 Try.prog 35 = true := by kernel_rfl
theorem MC_3_1 : madeCells (Value.int .i64 0 : Value).cells (1 * 1) = #[.int .i64 0] := by kernel_rfl
theorem Sl_35 : Sl Try.prog 35 3 1 = true := by kernel_rfl
theorem Zr_3 : (Try.prog.info? 3).map (·.zero) = some (some (.int .i64 0)) := by kernel_rfl
theorem Ei_3 : (Try.prog.info? 3).map (fun i => (i.zero, i.size, i.bytes)) = some (some (.int .i64 0), 1, 8) := by kernel_rfl
theorem Sz_35 : Sz Try.prog 35 1 = true := by kernel_rfl
theorem Tn_37 : Tn Try.prog 37 4 = true := by kernel_rfl
theorem Fun_11 : Fun Try.prog 11 = true := by kernel_rfl
theorem MC_3_7 : madeCells (Value.int .i64 0 : Value).cells (7 * 1) = #[.int .i64 0, .int .i64 0, .int .i64 0, .int .i64 0, .int .i64 0, .int .i64 0, .int .i64 0] := by kernel_rfl
theorem Fun_39 : Fun Try.prog 39 = true := by kernel_rfl
theorem MC_9_5 : madeCells (Value.string ⟨#[]⟩ : Value).cells (5 * 1) = #[.string ⟨#[]⟩, .string ⟨#[]⟩, .string ⟨#[]⟩, .string ⟨#[]⟩, .string ⟨#[]⟩] := by kernel_rfl
theorem Fun_36 : Fun Try.prog 36 = true := by kernel_rfl
theorem Fld_51_0 : Fld Try.prog 51 0 0 = true := by kernel_rfl
theorem MC_3_2 : madeCells (Value.int .i64 0 : Value).cells (2 * 1) = #[.int .i64 0, .int .i64 0] := by kernel_rfl
theorem Fld_51_1 : Fld Try.prog 51 1 1 = true := by kernel_rfl
theorem Fld_51_2 : Fld Try.prog 51 2 2 = true := by kernel_rfl
theorem Fun_35 : Fun Try.prog 35 = true := by kernel_rfl
theorem Fun_24 : Fun Try.prog 24 = true := by kernel_rfl
theorem Fun_26 : Fun Try.prog 26 = true := by kernel_rfl
theorem Fld_37_0 : Fld Try.prog 37 0 0 = true := by kernel_rfl
theorem Fld_37_1 : Fld Try.prog 37 1 1 = true := by kernel_rfl
theorem Fun_27 : Fun Try.prog 27 = true := by kernel_rfl
theorem Fun_28 : Fun Try.prog 28 = true := by kernel_rfl
theorem Fun_29 : Fun Try.prog 29 = true := by kernel_rfl
theorem Fun_30 : Fun Try.prog 30 = true := by kernel_rfl
theorem Fun_31 : Fun Try.prog 31 = true := by kernel_rfl
theorem Fun_4 : Fun Try.prog 4 = true := by kernel_rfl
theorem Fun_5 : Fun Try.prog 5 = true := by kernel_rfl
theorem Fun_6 : Fun Try.prog 6 = true := by kernel_rfl
theorem Fun_7 : Fun Try.prog 7 = true := by kernel_rfl
theorem Fun_8 : Fun Try.prog 8 = true := by kernel_rfl
theorem Fun_9 : Fun Try.prog 9 = true := by kernel_rfl
theorem Fun_10 : Fun Try.prog 10 = true := by kernel_rfl
theorem Fun_13 : Fun Try.prog 13 = true := by kernel_rfl
theorem Fun_12 : Fun Try.prog 12 = true := by kernel_rfl
theorem Bo_4 : Bo Try.prog 4 = true := by kernel_rfl
theorem Fun_14 : Fun Try.prog 14 = true := by kernel_rfl
theorem m_l_big_ok {Φ : Hp} {w : World} (hΦ : In Φ w) (N : Nat) (p0 : (List Int)) {pv0 : Value} {pG0 : List Nat} (ph0 : RSl (RI .u8) 1 Φ pG0 pv0 p0) {r : Bool} (h : m_l_big N p0 = some r) :
  Calls Try.prog 4 [pv0].toArray w (Post (.bool r) w) := by
 refine enter Try.func4 rfl Try.ntmps4 rfl (St.start0 hΦ) ?_
 unfold m_l_big at h
 refine sr <| la rfl <| en <| sr <| la rfl <| lq (q_lenR Sl_22 rfl rfl ph0) rfl <| la rfl <| la rfl <| en ?_
 refine WT.ret Try.func4 (resOk.one rfl) (fun w1 hw => ?_)
 cases h
 exact post_of_St hw
theorem m_s_l1New_ok {Φ : Hp} {w : World} (hΦ : In Φ w) (N : Nat) (p0 : (List Int)) {pv0 : Value} {pG0 : List Nat} (ph0 : RSl (RI .u8) 1 Φ pG0 pv0 p0) {r : Tl1Cur} (h : m_s_l1New N p0 = some r) :
  Calls Try.prog 15 [pv0].toArray w (PostG Φ w [] (fun Φ' Fs v => ∃ (b0 : Nat) (sr_0_0 : Value) (Gr_0_0 : List Nat), v = .pointer (some ⟨b0, 0, none⟩) ∧ Fs = [[b0]] ∧ RSl (RI .u8) 1 Φ' Gr_0_0 sr_0_0 r.b ∧ (∀ k ∈ Gr_0_0, k ∈ pG0) ∧ Φ' b0 = some (.cells #[sr_0_0, .int .i64 r.i, .int .i64 r.h] 67 (0, 0)))) := by
 refine enter Try.func15 rfl Try.ntmps15 rfl (St.start0 hΦ) ?_
 generalize hb0 : (⟨w, [], Φ⟩ : Base) = w0
 unfold m_s_l1New at h
 refine sr <| la rfl <| en <| sr <| la rfl <| lq (q_lenR Sl_22 rfl rfl ph0) rfl <| la rfl <| la rfl <| en <| sq <| sr <| la rfl <| en <| blk ?_
 refine loop_in (σ := Int × Int) (fun s => [(0, pv0), (3, .int .i64 s.1), (4, .int .i64 s.2)]) (fun s => St w0 Φ [] []) (fun m s => m_s_l1New_l1 N p0 m s.1 s.2 = some r) (IntKind.i64.wrap (354354 + (p0.length : Int)), 0) N h ⟨rfl, rfl, rfl, trivial⟩ (fun w1 hw => (hw.sel (js := []) rfl).selO (js := []) rfl) (fun s hm => none_ne hm) (fun n1 ih1 s hm => ?_)
 obtain ⟨s1, s2⟩ := s
 have h : m_s_l1New_l1 N p0 (n1 + 1) s1 s2 = some r := hm
 show WT _ _ [(0, pv0), (3, .int .i64 s1), (4, .int .i64 s2)] (St w0 Φ [] [])
 unfold m_s_l1New_l1 at h
 refine sq <| sr <| la rfl <| la rfl <| lq (q_lenR Sl_22 rfl rfl ph0) rfl <| la rfl <| la rfl ?_
 obtain ⟨b1, hb_1, h⟩ := bs h
 refine WL.cutN 3 [(15, .bool b1), (0, pv0), (3, .int .i64 s1), (4, .int .i64 s2)] ?_ (fun K => ?_)
 rotate_left
 ·refine spl 12 rfl hb_1 (fun c1 hb_1 => ?_) (fun c1 hb_1 => ?_)
  ·refine ly rfl rfl <| la rfl <| ly rfl rfl <| la rfl <| la rfl ?_
   cases hb_1
   exact kk K ⟨rfl, rfl, rfl, rfl, trivial⟩
  ·refine la rfl <| la rfl <| la rfl ?_
   cases hb_1
   exact kk K ⟨rfl, rfl, rfl, rfl, trivial⟩
 refine en ?_
 refine cdh rfl h (fun c2 h => ?_) (fun c2 h => ?_)
 ·refine WT.skip <| sq <| blk <| rgn <| la rfl <| la rfl <| la rfl <| la rfl ?_
  obtain ⟨x1, hx1, h⟩ := bs h
  obtain ⟨cs1, F1, -, g1, hb1, hs1, r1⟩ := ph0.el (idx_some hx1).2.2
  obtain ⟨rfl, -⟩ := r1
  refine lq (q_indexAddr Sl_22 rfl rfl ph0 hx1) rfl <| lg 0 T1_5 g1 rfl rfl <| lq (q_convI Ik_5 Ik_3 rfl) rfl <| la rfl <| la rfl <| lq (q_and rfl rfl) rfl <| la rfl <| en <| ib <| rgn <| la rfl <| la rfl <| la rfl <| en ?_
  exact lback (ih1 ((andI .i64 (IntKind.i64.wrap ((IntKind.i64.wrap ((IntKind.i64.wrap (s1 * 137)) + (IntKind.i64.wrap x1))) + 11)) 1073741823), IntKind.i64.wrap (s2 + 1)) h) ⟨rfl, rfl, rfl, trivial⟩ (fun w1 hw => (hw.sel (js := []) rfl).selO (js := []) rfl)
 refine xt rfl <| sr <| la rfl <| la rfl <| lq (q_build (vs := [(0, pv0), (2, .int .i64 s1)]) (C := #[pv0, .int .i64 0, .int .i64 s1]) Pl_67 Zr_67 rfl (fill_cons (C' := [pv0, .int .i64 0, .int .i64 0]) rfl (one_cells ph0.one) rfl rfl rfl (fill_cons (C' := [pv0, .int .i64 0, .int .i64 s1]) rfl rfl rfl rfl rfl (fill_nil)))) rfl ?_
 refine ln (nb rfl) rfl (fun b_1 => ?_)
 refine la rfl <| en ?_
 refine WT.frz (js := [0]) (R := []) rfl (fun Φ_1 fr1 k1 => ?_)
 replace ph0 := ph0.frame RI.lasts fr1 (Dj.empty _)
 refine WT.ret Try.func15 (resOk.one rfl) (fun w1 hw => ?_)
 subst hb0
 cases h
 refine postG_of_St (js := [0]) hw rfl ⟨b_1, pv0, pG0, rfl, rfl, ph0, (fun k hk => hk), k1⟩
theorem m_s_l1Byte_ok {Φ : Hp} {w : World} (hΦ : In Φ w) (N : Nat) (p0 : Tl1Cur) {pv0_0 : Value} {pG0_0 : List Nat} {pb0 : Nat} (ph0_0 : RSl (RI .u8) 1 Φ pG0_0 pv0_0 p0.b) (pp0 : Φ pb0 = some (.cells #[pv0_0, .int .i64 p0.i, .int .i64 p0.h] 67 (0, 0))) (pd0_0 : Dj pG0_0 [[pb0]].flatten) (hB : [[pb0]].flatten.Nodup) (hlt : ∀ k ∈ [[pb0]].flatten, k < w.heap.size) {r : Int × Tl1Cur} (h : m_s_l1Byte N p0 = some r) :
  Calls Try.prog 34 [.pointer (some ⟨pb0, 0, none⟩)].toArray w (PostG Φ w [[pb0]].flatten (fun Φ' Fs v => v = .int .i64 r.1 ∧ Fs = [[pb0]] ∧ r.2.b = p0.b ∧ Φ' pb0 = some (.cells #[pv0_0, .int .i64 r.2.i, .int .i64 r.2.h] 67 (0, 0)))) := by
 refine enter Try.func34 rfl Try.ntmps34 rfl (St.start hΦ [[pb0]] hB hlt) ?_
 have pa0_0 := Old.mk hΦ ph0_0.kn pd0_0
 unfold m_s_l1Byte at h
 refine sr <| la rfl <| en <| sr <| la rfl <| la rfl <| lq (q_nilCheck rfl) rfl <| lf Fld_67_2 rfl rfl rfl <| lq (q_load1 T1_3 rfl (fun w1 hw => ((rg_cells pp0).of_eq 2 1 rfl rfl : rg _ _ _ [.int .i64 p0.h]).rangeAt hw.fro)) rfl <| la rfl <| la rfl <| lq (q_nilCheck rfl) rfl <| lf Fld_67_2 rfl rfl rfl ?_
 refine WL.thw (js := [0]) (R := []) rfl pp0 (fun Φ_1 ap1 fr1 => ?_)
 replace ph0_0 := ph0_0.frame RI.lasts fr1 (ap1.o pa0_0)
 refine so1 0 Sz_3 rfl rfl ?_
 refine en <| sq <| WT.draw mixed (by kernel_rfl) (fun _ h => h.drew) <| qq (q_move rfl) rfl <| qq (q_nilCheck rfl) rfl <| qq (q_fieldAddr Fld_67_2 rfl) rfl <| qq (q_load1 T1_3 rfl (fun w1 hw => hw.rgO (i := 0) rfl 2 1 [.int .i64 (IntKind.i64.wrap ((IntKind.i64.wrap (p0.h * 6364136223846793005)) + 1442695040888963407))] rfl)) rfl <| qq (q_shr rfl rfl (by decide)) rfl <| qq (q_move rfl) rfl <| qq (q_nilCheck rfl) rfl <| qq (q_fieldAddr Fld_67_2 rfl) rfl ?_
 refine qq (q_load1 T1_3 rfl (fun w1 hw => hw.rgO (i := 0) rfl 2 1 [.int .i64 (IntKind.i64.wrap ((IntKind.i64.wrap (p0.h * 6364136223846793005)) + 1442695040888963407))] rfl)) rfl <| qq (q_shr rfl rfl (by decide)) rfl <| qq (q_xor rfl rfl) rfl <| qq (q_and rfl rfl) rfl <| qq (q_assign rfl) rfl <| WQ.nil <| sq <| sq <| WT.draw mixed (by kernel_rfl) (fun _ h => h.drew) <| qq (q_move rfl) rfl <| qq (q_nilCheck rfl) rfl <| qq (q_fieldAddr Fld_67_1 rfl) rfl ?_
 refine qq (q_load1 T1_3 rfl (fun w1 hw => hw.rgO (i := 0) rfl 1 1 [.int .i64 p0.i] rfl)) rfl <| qq (q_move rfl) rfl <| qq (q_nilCheck rfl) rfl <| qq (q_fieldAddr Fld_67_0 rfl) rfl <| qq (q_load1 T1_22 rfl (fun w1 hw => hw.rgO (i := 0) rfl 0 1 [pv0_0] rfl)) rfl <| qq (q_lenR Sl_22 rfl rfl ph0_0) rfl <| qq (q_lss rfl rfl) rfl <| WQ.nil ?_
 refine cdh rfl h (fun c1 h => ?_) (fun c1 h => ?_)
 ·refine sq <| WT.draw mixed (by kernel_rfl) (fun _ h => h.drew) <| qq (q_move rfl) rfl <| qq (q_move rfl) rfl <| qq (q_nilCheck rfl) rfl <| qq (q_fieldAddr Fld_67_0 rfl) rfl <| qq (q_load1 T1_22 rfl (fun w1 hw => hw.rgO (i := 0) rfl 0 1 [pv0_0] rfl)) rfl <| qq (q_move rfl) rfl <| qq (q_nilCheck rfl) rfl <| qq (q_fieldAddr Fld_67_1 rfl) rfl <| qq (q_load1 T1_3 rfl (fun w1 hw => hw.rgO (i := 0) rfl 1 1 [.int .i64 p0.i] rfl)) rfl ?_
  obtain ⟨x1, hx1, h⟩ := bs h
  obtain ⟨cs1, F1, -, g1, hb1, hs1, r1⟩ := ph0_0.el (idx_some hx1).2.2
  obtain ⟨rfl, -⟩ := r1
  refine qq (q_indexAddr Sl_22 rfl rfl ph0_0 hx1) rfl <| qq (q_load1 T1_5 rfl (fun w1 hw => (g1.of_eq 0 1 rfl rfl : rg _ _ _ [.int .u8 x1]).rangeAt hw.fro)) rfl <| qq (q_convI Ik_5 Ik_3 rfl) rfl <| qq (q_add rfl rfl) rfl <| qq (q_and rfl rfl) rfl <| qq (q_assign rfl) rfl <| WQ.nil <| rgn <| la rfl <| la rfl <| lq (q_nilCheck rfl) rfl <| lf Fld_67_1 rfl rfl rfl <| lo T1_3 0 rfl <| la rfl <| lq (q_nilCheck rfl) rfl <| lf Fld_67_1 rfl rfl rfl <| so1 0 Sz_3 rfl rfl ?_
  refine en <| sr <| la rfl <| la rfl <| en ?_
  refine WT.frz (js := [0]) (R := []) rfl (fun Φ_2 fr2 k1 => ?_)
  replace ph0_0 := ph0_0.frame RI.lasts fr2 (Dj.empty _)
  refine WT.ret Try.func34 (resOk.one rfl) (fun w1 hw => ?_)
  cases h
  refine postG_of_St (js := [0]) hw rfl ⟨rfl, rfl, rfl, k1⟩
 refine WT.skip <| sr <| la rfl <| la rfl <| en ?_
 refine WT.frz (js := [0]) (R := []) rfl (fun Φ_3 fr3 k2 => ?_)
 replace ph0_0 := ph0_0.frame RI.lasts fr3 (Dj.empty _)
 refine WT.ret Try.func34 (resOk.one rfl) (fun w1 hw => ?_)
 cases h
 refine postG_of_St (js := [0]) hw rfl ⟨rfl, rfl, rfl, k2⟩
theorem m_s_l1Below_ok {Φ : Hp} {w : World} (hΦ : In Φ w) (N : Nat) (p0 : Tl1Cur) (p1 : Int) {pv0_0 : Value} {pG0_0 : List Nat} {pb0 : Nat} (ph0_0 : RSl (RI .u8) 1 Φ pG0_0 pv0_0 p0.b) (pp0 : Φ pb0 = some (.cells #[pv0_0, .int .i64 p0.i, .int .i64 p0.h] 67 (0, 0))) (pd0_0 : Dj pG0_0 [[pb0]].flatten) (hB : [[pb0]].flatten.Nodup) (hlt : ∀ k ∈ [[pb0]].flatten, k < w.heap.size) {r : Int × Tl1Cur} (h : m_s_l1Below N p0 p1 = some r) :
  Calls Try.prog 25 [.pointer (some ⟨pb0, 0, none⟩), .int .i64 p1].toArray w (PostG Φ w [[pb0]].flatten (fun Φ' Fs v => v = .int .i64 r.1 ∧ Fs = [[pb0]] ∧ r.2.b = p0.b ∧ Φ' pb0 = some (.cells #[pv0_0, .int .i64 r.2.i, .int .i64 r.2.h] 67 (0, 0)))) := by
 refine enter Try.func25 rfl Try.ntmps25 rfl (St.start hΦ [[pb0]] hB hlt) ?_
 have pa0_0 := Old.mk hΦ ph0_0.kn pd0_0
 unfold m_s_l1Below at h
 refine sr <| la rfl <| en <| sq <| sr <| la rfl <| la rfl <| en ?_
 refine cdh rfl h (fun c1 h => ?_) (fun c1 h => ?_)
 ·refine sr <| la rfl <| en ?_
  refine WT.ret Try.func25 (resOk.one rfl) (fun w1 hw => ?_)
  cases h
  refine postG_of_St (js := [0]) hw rfl ⟨rfl, rfl, rfl, pp0⟩
 refine WT.skip <| sq <| sr <| la rfl <| la rfl <| en ?_
 refine cdh rfl h (fun c2 h => ?_) (fun c2 h => ?_)
 ·refine sr <| la rfl ?_
  obtain ⟨x1, hx1, h⟩ := bs h
  refine lc (k_call (js := [0]) (R := []) Fun_34 rfl rfl (fun w1 hw ap hl => m_s_l1Byte_ok hw.fro N p0 ph0_0 pp0 (ap.o pa0_0) ap.nd hl hx1)) rfl (fun v1 Φ_1 F1 q1 => ?_)
  obtain ⟨ap1, fr1, rfl, rfl, e1, h1⟩ := q1
  replace ph0_0 := ph0_0.frame RI.lasts fr1 (ap1.o pa0_0)
  refine la rfl ?_
  obtain ⟨x2, hx2, h⟩ := bs h
  refine lq (q_remV rfl rfl hx2) rfl <| la rfl <| en ?_
  refine WT.ret Try.func25 (resOk.one rfl) (fun w1 hw => ?_)
  cases h
  refine postG_of_St (js := [0]) hw rfl ⟨rfl, rfl, rfl, h1⟩
 refine WT.skip <| sr <| la rfl ?_
 obtain ⟨x3, hx3, h⟩ := bs h
 refine lc (k_call (js := [0]) (R := []) Fun_34 rfl rfl (fun w1 hw ap hl => m_s_l1Byte_ok hw.fro N p0 ph0_0 pp0 (ap.o pa0_0) ap.nd hl hx3)) rfl (fun v2 Φ_2 F2 q2 => ?_)
 obtain ⟨ap2, fr2, rfl, rfl, e2, h2⟩ := q2
 replace ph0_0 := ph0_0.frame RI.lasts fr2 (ap2.o pa0_0)
 refine la rfl <| en <| sr <| la rfl ?_
 obtain ⟨x4, hx4, h⟩ := bs h
 refine lc (k_call (js := [0]) (R := []) Fun_34 rfl rfl (fun w1 hw ap hl => m_s_l1Byte_ok hw.fro N (⟨p0.b, x3.2.i, x3.2.h⟩ : Tl1Cur) ph0_0 h2 (ap.o pa0_0) ap.nd hl hx4)) rfl (fun v3 Φ_3 F3 q3 => ?_)
 obtain ⟨ap3, fr3, rfl, rfl, e3, h3⟩ := q3
 replace ph0_0 := ph0_0.frame RI.lasts fr3 (ap3.o pa0_0)
 refine la rfl <| en <| sr <| la rfl ?_
 obtain ⟨x5, hx5, h⟩ := bs h
 refine lc (k_call (js := [0]) (R := []) Fun_34 rfl rfl (fun w1 hw ap hl => m_s_l1Byte_ok hw.fro N (⟨p0.b, x4.2.i, x4.2.h⟩ : Tl1Cur) ph0_0 h3 (ap.o pa0_0) ap.nd hl hx5)) rfl (fun v4 Φ_4 F4 q4 => ?_)
 obtain ⟨ap4, fr4, rfl, rfl, e4, h4⟩ := q4
 replace ph0_0 := ph0_0.frame RI.lasts fr4 (ap4.o pa0_0)
 refine la rfl <| en <| sr <| la rfl <| la rfl <| la rfl <| la rfl <| la rfl <| la rfl <| la rfl <| la rfl ?_
 obtain ⟨x6, hx6, h⟩ := bs h
 refine lq (q_remV rfl rfl hx6) rfl <| la rfl <| en ?_
 refine WT.ret Try.func25 (resOk.one rfl) (fun w1 hw => ?_)
 cases h
 refine postG_of_St (js := [0]) hw rfl ⟨rfl, rfl, rfl, h4⟩
theorem m_s_l1Str_ok {Φ : Hp} {w : World} (hΦ : In Φ w) (N : Nat) (p0 : Tl1Cur) (p1 : (List ByteArray)) {pv0_0 pv1 : Value} {pG0_0 pG1 : List Nat} {pb0 : Nat} (ph0_0 : RSl (RI .u8) 1 Φ pG0_0 pv0_0 p0.b) (pp0 : Φ pb0 = some (.cells #[pv0_0, .int .i64 p0.i, .int .i64 p0.h] 67 (0, 0))) (ph1 : RSl RS 1 Φ pG1 pv1 p1) (pd0_0 : Dj pG0_0 [[pb0]].flatten) (pd1 : Dj pG1 [[pb0]].flatten) (hB : [[pb0]].flatten.Nodup) (hlt : ∀ k ∈ [[pb0]].flatten, k < w.heap.size) {r : ByteArray × Tl1Cur} (h : m_s_l1Str N p0 p1 = some r) :
  Calls Try.prog 32 [.pointer (some ⟨pb0, 0, none⟩), pv1].toArray w (PostG Φ w [[pb0]].flatten (fun Φ' Fs v => v = .string r.1 ∧ Fs = [[pb0]] ∧ r.2.b = p0.b ∧ Φ' pb0 = some (.cells #[pv0_0, .int .i64 r.2.i, .int .i64 r.2.h] 67 (0, 0)))) := by
 refine enter Try.func32 rfl Try.ntmps32 rfl (St.start hΦ [[pb0]] hB hlt) ?_
 have pa0_0 := Old.mk hΦ ph0_0.kn pd0_0
 have pa1 := Old.mk hΦ ph1.kn pd1
 unfold m_s_l1Str at h
 refine sr <| la rfl <| en <| sr <| la rfl <| la rfl <| la rfl <| lq (q_lenR Sl_69 rfl rfl ph1) rfl ?_
 obtain ⟨x1, hx1, h⟩ := bs h
 refine lc (k_call (js := [0]) (R := []) Fun_25 rfl rfl (fun w1 hw ap hl => m_s_l1Below_ok hw.fro N p0 (p1.length : Int) ph0_0 pp0 (ap.o pa0_0) ap.nd hl hx1)) rfl (fun v1 Φ_1 F1 q1 => ?_)
 obtain ⟨ap1, fr1, rfl, rfl, e1, h1⟩ := q1
 replace ph1 := ph1.frame RS.lasts fr1 (ap1.o pa1)
 replace ph0_0 := ph0_0.frame RI.lasts fr1 (ap1.o pa0_0)
 obtain ⟨x2, hx2, h⟩ := bs h
 obtain ⟨cs1, F2, -, g1, hb1, hs1, r1⟩ := ph1.el (idx_some hx2).2.2
 obtain ⟨rfl, -⟩ := r1
 refine lq (q_indexAddr Sl_69 rfl rfl ph1 hx2) rfl <| lg 0 T1_9 g1 rfl rfl <| la rfl <| en ?_
 refine WT.ret Try.func32 (resOk.one rfl) (fun w1 hw => ?_)
 cases h
 refine postG_of_St (js := [0]) hw rfl ⟨rfl, rfl, rfl, h1⟩
theorem m_s_l1Once_ok {Φ : Hp} {w : World} (hΦ : In Φ w) (N : Nat) (p0 : Tl1Cur) (p1 : Int) {pv0_0 : Value} {pG0_0 : List Nat} {pb0 : Nat} (ph0_0 : RSl (RI .u8) 1 Φ pG0_0 pv0_0 p0.b) (pp0 : Φ pb0 = some (.cells #[pv0_0, .int .i64 p0.i, .int .i64 p0.h] 67 (0, 0))) (pd0_0 : Dj pG0_0 [[pb0]].flatten) (hB : [[pb0]].flatten.Nodup) (hlt : ∀ k ∈ [[pb0]].flatten, k < w.heap.size) {r : Bool × Tl1Cur} (h : m_s_l1Once N p0 p1 = some r) :
  Calls Try.prog 18 [.pointer (some ⟨pb0, 0, none⟩), .int .i64 p1].toArray w (PostG Φ w [[pb0]].flatten (fun Φ' Fs v => v = .bool r.1 ∧ Fs = [[pb0]] ∧ r.2.b = p0.b ∧ Φ' pb0 = some (.cells #[pv0_0, .int .i64 r.2.i, .int .i64 r.2.h] 67 (0, 0)))) := by
 refine enter Try.func18 rfl Try.ntmps18 rfl (St.start hΦ [[pb0]] hB hlt) ?_
 have pa0_0 := Old.mk hΦ ph0_0.kn pd0_0
 unfold m_s_l1Once at h
 refine sr <| la rfl <| en <| sr <| la rfl <| la rfl ?_
 obtain ⟨x1, hx1, h⟩ := bs h
 refine lc (k_call (js := [0]) (R := []) Fun_25 rfl rfl (fun w1 hw ap hl => m_s_l1Below_ok hw.fro N p0 p1 ph0_0 pp0 (ap.o pa0_0) ap.nd hl hx1)) rfl (fun v1 Φ_1 F1 q1 => ?_)
 obtain ⟨ap1, fr1, rfl, rfl, e1, h1⟩ := q1
 replace ph0_0 := ph0_0.frame RI.lasts fr1 (ap1.o pa0_0)
 refine la rfl <| la rfl <| en ?_
 refine WT.ret Try.func18 (resOk.one rfl) (fun w1 hw => ?_)
 cases h
 refine postG_of_St (js := [0]) hw rfl ⟨rfl, rfl, rfl, h1⟩
theorem m_s_l3Small_ok {Φ : Hp} {w : World} (hΦ : In Φ w) (N : Nat) (p0 : Tl1Cur) {pv0_0 : Value} {pG0_0 : List Nat} {pb0 : Nat} (ph0_0 : RSl (RI .u8) 1 Φ pG0_0 pv0_0 p0.b) (pp0 : Φ pb0 = some (.cells #[pv0_0, .int .i64 p0.i, .int .i64 p0.h] 67 (0, 0))) (pd0_0 : Dj pG0_0 [[pb0]].flatten) (hB : [[pb0]].flatten.Nodup) (hlt : ∀ k ∈ [[pb0]].flatten, k < w.heap.size) {r : TVal × Tl1Cur} (h : m_s_l3Small N p0 = some r) :
  Calls Try.prog 19 [.pointer (some ⟨pb0, 0, none⟩)].toArray w (PostG Φ w [[pb0]].flatten (fun Φ' Fs v => v = .agg [.int .i64 r.1.K, .int .i64 r.1.N, .string r.1.S].toArray ∧ Fs = [[pb0]] ∧ r.2.b = p0.b ∧ Φ' pb0 = some (.cells #[pv0_0, .int .i64 r.2.i, .int .i64 r.2.h] 67 (0, 0)))) := by
 refine enter Try.func19 rfl Try.ntmps19 rfl (St.start hΦ [[pb0]] hB hlt) ?_
 have pa0_0 := Old.mk hΦ ph0_0.kn pd0_0
 unfold m_s_l3Small at h
 refine sr ?_
 refine ln (nz Zr_51) rfl (fun b_1 => ?_)
 refine en <| sq <| sr <| la rfl ?_
 obtain ⟨x1, hx1, h⟩ := bs h
 refine lc (k_call (js := [0]) (R := []) Fun_18 rfl rfl (fun w1 hw ap hl => m_s_l1Once_ok hw.fro N p0 2 ph0_0 pp0 (ap.o pa0_0) ap.nd hl hx1)) rfl (fun v1 Φ_1 F1 q1 => ?_)
 obtain ⟨ap1, fr1, rfl, rfl, e1, h1⟩ := q1
 replace ph0_0 := ph0_0.frame RI.lasts fr1 (ap1.o pa0_0)
 refine en ?_
 refine cdh rfl h (fun c1 h => ?_) (fun c1 h => ?_)
 ·refine sr <| la rfl ?_
  obtain ⟨x2, hx2, h⟩ := bs h
  refine lc (k_call (js := [0]) (R := []) Fun_25 rfl rfl (fun w1 hw ap hl => m_s_l1Below_ok hw.fro N (⟨p0.b, x1.2.i, x1.2.h⟩ : Tl1Cur) 3 ph0_0 h1 (ap.o pa0_0) ap.nd hl hx2)) rfl (fun v2 Φ_2 F2 q2 => ?_)
  obtain ⟨ap2, fr2, rfl, rfl, e2, h2⟩ := q2
  replace ph0_0 := ph0_0.frame RI.lasts fr2 (ap2.o pa0_0)
  refine la rfl <| lq (q_build (vs := [(0, .int .i64 1), (1, .int .i64 (IntKind.i64.wrap (1 + x2.1)))]) (C := #[.int .i64 1, .int .i64 (IntKind.i64.wrap (1 + x2.1)), .string (⟨#[]⟩ : ByteArray)]) Pl_51 Zr_51 rfl (fill_cons (C' := [.int .i64 1, .int .i64 0, .string ⟨#[]⟩]) rfl rfl rfl rfl rfl (fill_cons (C' := [.int .i64 1, .int .i64 (IntKind.i64.wrap (1 + x2.1)), .string ⟨#[]⟩]) rfl rfl rfl rfl rfl (fill_nil)))) rfl ?_
  refine soN 0 Sz_51 rfl ⟨rfl, rfl, rfl, trivial⟩ rfl ?_
  refine en ?_
  refine WT.ret Try.func19 (resOk.one (rv_cell Tn_51 rfl (fun w1 hw => hw.rgO (i := 0) rfl 0 3 [.int .i64 1, .int .i64 (IntKind.i64.wrap (1 + x2.1)), .string (⟨#[]⟩ : ByteArray)] rfl) rfl)) (fun w1 hw => ?_)
  cases h
  refine postG_of_St (js := [0]) hw rfl ⟨rfl, rfl, rfl, h2⟩
 refine WT.skip <| sr <| la rfl ?_
 have rc1 : RC RS 1 Φ_1 ([[], []] : List (List Nat)) [.string (⟨#[97]⟩ : ByteArray), .string (⟨#[98]⟩ : ByteArray)] ([(⟨#[97]⟩ : ByteArray), (⟨#[98]⟩ : ByteArray)] : List ByteArray) := RC.cons (c := [.string (⟨#[97]⟩ : ByteArray)]) (cells := [.string (⟨#[98]⟩ : ByteArray)]) ⟨rfl, rfl⟩ rfl (RC.cons (c := [.string (⟨#[98]⟩ : ByteArray)]) (cells := []) ⟨rfl, rfl⟩ rfl (RC.nil _ _ _))
 refine le' (e_lit (vs := [(0, .string (⟨#[97]⟩ : ByteArray)), (1, .string (⟨#[98]⟩ : ByteArray))]) (C := #[.string (⟨#[97]⟩ : ByteArray), .string (⟨#[98]⟩ : ByteArray)]) RS.lasts Sl_69 Zr_9 rfl rfl rfl rfl (fill_made MC_9_2 (fill_cons (C' := [.string (⟨#[97]⟩ : ByteArray), .string ⟨#[]⟩]) rfl rfl rfl rfl rfl (fill_cons (C' := [.string (⟨#[97]⟩ : ByteArray), .string (⟨#[98]⟩ : ByteArray)]) rfl rfl rfl rfl rfl (fill_nil)))) rfl rc1 rfl (by simpa using Kw.nil)) rfl (fun v3 Φ_3 D1 q3 => ?_)
 obtain ⟨fr3, h3⟩ := q3
 replace h3 : OSl RS 9 1 Φ_3 [] v3 ([(⟨#[97]⟩ : ByteArray), (⟨#[98]⟩ : ByteArray)] : List ByteArray) := by simpa using h3
 replace ph0_0 := ph0_0.frame RI.lasts fr3 (Dj.empty _)
 replace h1 := fr3 _ _ (by simp) h1
 obtain ⟨x3, hx3, h⟩ := bs h
 refine lc (k_call (js := [1]) (R := [ob v3]) Fun_32 rfl rfl (fun w1 hw ap hl => m_s_l1Str_ok hw.fro N (⟨p0.b, x1.2.i, x1.2.h⟩ : Tl1Cur) ([(⟨#[97]⟩ : ByteArray), (⟨#[98]⟩ : ByteArray)] : List ByteArray) ph0_0 h1 h3.rsl (ap.o pa0_0) (Dj.app (ap.r (i := 0) rfl) (Dj.nil _)) ap.nd hl hx3)) rfl (fun v4 Φ_4 F3 q4 => ?_)
 obtain ⟨ap3, fr4, rfl, rfl, e3, h4⟩ := q4
 replace ph0_0 := ph0_0.frame RI.lasts fr4 (ap3.o pa0_0)
 refine lq (q_build (vs := [(0, .int .i64 2), (2, .string x3.1)]) (C := #[.int .i64 2, .int .i64 0, .string x3.1]) Pl_51 Zr_51 rfl (fill_cons (C' := [.int .i64 2, .int .i64 0, .string ⟨#[]⟩]) rfl rfl rfl rfl rfl (fill_cons (C' := [.int .i64 2, .int .i64 0, .string x3.1]) rfl rfl rfl rfl rfl (fill_nil)))) rfl ?_
 refine soN 0 Sz_51 rfl ⟨rfl, rfl, rfl, trivial⟩ rfl ?_
 refine en ?_
 refine WT.ret Try.func19 (resOk.one (rv_cell Tn_51 rfl (fun w1 hw => hw.rgO (i := 0) rfl 0 3 [.int .i64 2, .int .i64 0, .string x3.1] rfl) rfl)) (fun w1 hw => ?_)
 cases h
 refine postG_of_St (js := [0]) hw rfl ⟨rfl, rfl, rfl, h4⟩
theorem m_s_l6Val_ok {Φ : Hp} {w : World} (hΦ : In Φ w) (N : Nat) (p0 : TVal)   {r : TArg} (h : m_s_l6Val N p0 = some r) :
  Calls Try.prog 37 [.agg [.int .i64 p0.K, .int .i64 p0.N, .string p0.S].toArray].toArray w (Post (.agg [.int .i64 r.K, .string r.S, .int .i64 r.V.K, .int .i64 r.V.N, .string r.V.S].toArray) w) := by
 refine enter Try.func37 rfl Try.ntmps37 rfl (St.start0 hΦ) ?_
 unfold m_s_l6Val at h
 refine sr ?_
 refine ln (nb rfl) rfl (fun b_1 => ?_)
 refine ln (nz Zr_54) rfl (fun b_2 => ?_)
 refine en <| sr <| ld3 Tn_51 1 rfl <| lq (q_build (vs := [(0, .int .i64 2), (2, .agg [.int .i64 p0.K, .int .i64 p0.N, .string p0.S].toArray)]) (C := #[.int .i64 2, .string (⟨#[]⟩ : ByteArray), .int .i64 p0.K, .int .i64 p0.N, .string p0.S]) Pl_54 Zr_54 rfl (fill_cons (C' := [.int .i64 2, .string ⟨#[]⟩, .int .i64 0, .int .i64 0, .string ⟨#[]⟩]) rfl rfl rfl rfl rfl (fill_cons (C' := [.int .i64 2, .string ⟨#[]⟩, .int .i64 p0.K, .int .i64 p0.N, .string p0.S]) rfl rfl rfl rfl rfl (fill_nil)))) rfl ?_
 refine soN 0 Sz_54 rfl ⟨rfl, rfl, rfl, rfl, rfl, trivial⟩ rfl ?_
 refine en ?_
 refine WT.ret Try.func37 (resOk.one (rv_cell Tn_54 rfl (fun w1 hw => hw.rgO (i := 0) rfl 0 5 [.int .i64 2, .string (⟨#[]⟩ : ByteArray), .int .i64 p0.K, .int .i64 p0.N, .string p0.S] rfl) rfl)) (fun w1 hw => ?_)
 cases h
 exact post_of_St hw
theorem m_s_l6Var_ok {Φ : Hp} {w : World} (hΦ : In Φ w) (N : Nat) (p0 : ByteArray)   {r : TArg} (h : m_s_l6Var N p0 = some r) :
  Calls Try.prog 38 [.string p0].toArray w (Post (.agg [.int .i64 r.K, .string r.S, .int .i64 r.V.K, .int .i64 r.V.N, .string r.V.S].toArray) w) := by
 refine enter Try.func38 rfl Try.ntmps38 rfl (St.start0 hΦ) ?_
 unfold m_s_l6Var at h
 refine sr ?_
 refine ln (nz Zr_54) rfl (fun b_1 => ?_)
 refine en <| sr <| la rfl <| lq (q_build (vs := [(0, .int .i64 1), (1, .string p0)]) (C := #[.int .i64 1, .string p0, .int .i64 0, .int .i64 0, .string (⟨#[]⟩ : ByteArray)]) Pl_54 Zr_54 rfl (fill_cons (C' := [.int .i64 1, .string ⟨#[]⟩, .int .i64 0, .int .i64 0, .string ⟨#[]⟩]) rfl rfl rfl rfl rfl (fill_cons (C' := [.int .i64 1, .string p0, .int .i64 0, .int .i64 0, .string ⟨#[]⟩]) rfl rfl rfl rfl rfl (fill_nil)))) rfl ?_
 refine soN 0 Sz_54 rfl ⟨rfl, rfl, rfl, rfl, rfl, trivial⟩ rfl ?_
 refine en ?_
 refine WT.ret Try.func38 (resOk.one (rv_cell Tn_54 rfl (fun w1 hw => hw.rgO (i := 0) rfl 0 5 [.int .i64 1, .string p0, .int .i64 0, .int .i64 0, .string (⟨#[]⟩ : ByteArray)] rfl) rfl)) (fun w1 hw => ?_)
 cases h
 exact post_of_St hw
theorem m_s_l6Arg_ok {Φ : Hp} {w : World} (hΦ : In Φ w) (N : Nat) (p0 : Tl1Cur) {pv0_0 : Value} {pG0_0 : List Nat} {pb0 : Nat} (ph0_0 : RSl (RI .u8) 1 Φ pG0_0 pv0_0 p0.b) (pp0 : Φ pb0 = some (.cells #[pv0_0, .int .i64 p0.i, .int .i64 p0.h] 67 (0, 0))) (pd0_0 : Dj pG0_0 [[pb0]].flatten) (hB : [[pb0]].flatten.Nodup) (hlt : ∀ k ∈ [[pb0]].flatten, k < w.heap.size) {r : TArg × Tl1Cur} (h : m_s_l6Arg N p0 = some r) :
  Calls Try.prog 33 [.pointer (some ⟨pb0, 0, none⟩)].toArray w (PostG Φ w [[pb0]].flatten (fun Φ' Fs v => v = .agg [.int .i64 r.1.K, .string r.1.S, .int .i64 r.1.V.K, .int .i64 r.1.V.N, .string r.1.V.S].toArray ∧ Fs = [[pb0]] ∧ r.2.b = p0.b ∧ Φ' pb0 = some (.cells #[pv0_0, .int .i64 r.2.i, .int .i64 r.2.h] 67 (0, 0)))) := by
 refine enter Try.func33 rfl Try.ntmps33 rfl (St.start hΦ [[pb0]] hB hlt) ?_
 have pa0_0 := Old.mk hΦ ph0_0.kn pd0_0
 unfold m_s_l6Arg at h
 refine sr ?_
 refine ln (nz Zr_54) rfl (fun b_1 => ?_)
 refine en <| sq <| sr <| la rfl ?_
 obtain ⟨x1, hx1, h⟩ := bs h
 refine lc (k_call (js := [0]) (R := []) Fun_25 rfl rfl (fun w1 hw ap hl => m_s_l1Below_ok hw.fro N p0 6 ph0_0 pp0 (ap.o pa0_0) ap.nd hl hx1)) rfl (fun v1 Φ_1 F1 q1 => ?_)
 obtain ⟨ap1, fr1, rfl, rfl, e1, h1⟩ := q1
 replace ph0_0 := ph0_0.frame RI.lasts fr1 (ap1.o pa0_0)
 refine en <| blk <| sr <| la rfl <| la rfl <| en ?_
 refine cdh rfl h (fun c1 h => ?_) (fun c1 h => ?_)
 ·refine sr <| lq (q_build (vs := [(0, .int .i64 3)]) (C := #[.int .i64 3, .string (⟨#[]⟩ : ByteArray), .int .i64 0, .int .i64 0, .string (⟨#[]⟩ : ByteArray)]) Pl_54 Zr_54 rfl (fill_cons (C' := [.int .i64 3, .string ⟨#[]⟩, .int .i64 0, .int .i64 0, .string ⟨#[]⟩]) rfl rfl rfl rfl rfl (fill_nil))) rfl ?_
  refine soN 0 Sz_54 rfl ⟨rfl, rfl, rfl, rfl, rfl, trivial⟩ rfl ?_
  refine en ?_
  refine WT.ret Try.func33 (resOk.one (rv_cell Tn_54 rfl (fun w1 hw => hw.rgO (i := 0) rfl 0 5 [.int .i64 3, .string (⟨#[]⟩ : ByteArray), .int .i64 0, .int .i64 0, .string (⟨#[]⟩ : ByteArray)] rfl) rfl)) (fun w1 hw => ?_)
  cases h
  refine postG_of_St (js := [0]) hw rfl ⟨rfl, rfl, rfl, h1⟩
 refine sr <| la rfl <| la rfl <| en ?_
 refine cdh rfl h (fun c2 h => ?_) (fun c2 h => ?_)
 ·refine sr <| la rfl ?_
  obtain ⟨x2, hx2, h⟩ := bs h
  refine lc (k_call (js := [0]) (R := []) Fun_19 rfl rfl (fun w1 hw ap hl => m_s_l3Small_ok hw.fro N (⟨p0.b, x1.2.i, x1.2.h⟩ : Tl1Cur) ph0_0 h1 (ap.o pa0_0) ap.nd hl hx2)) rfl (fun v2 Φ_2 F2 q2 => ?_)
  obtain ⟨ap2, fr2, rfl, rfl, e2, h2⟩ := q2
  replace ph0_0 := ph0_0.frame RI.lasts fr2 (ap2.o pa0_0)
  obtain ⟨x3, hx3, h⟩ := bs h
  refine lp (p_call Fun_37 rfl (fun w1 hw => m_s_l6Val_ok hw.fro N x2.1 hx3)) rfl <| soN 0 Sz_54 rfl ⟨rfl, rfl, rfl, rfl, rfl, trivial⟩ rfl ?_
  refine en ?_
  refine WT.ret Try.func33 (resOk.one (rv_cell Tn_54 rfl (fun w1 hw => hw.rgO (i := 0) rfl 0 5 [.int .i64 x3.K, .string x3.S, .int .i64 x3.V.K, .int .i64 x3.V.N, .string x3.V.S] rfl) rfl)) (fun w1 hw => ?_)
  cases h
  refine postG_of_St (js := [0]) hw rfl ⟨rfl, rfl, rfl, h2⟩
 refine WT.skip <| ib <| sr <| la rfl ?_
 have rc1 : RC RS 1 Φ_1 ([[], [], [], []] : List (List Nat)) [.string (⟨#[88]⟩ : ByteArray), .string (⟨#[89]⟩ : ByteArray), .string (⟨#[90]⟩ : ByteArray), .string (⟨#[88]⟩ : ByteArray)] ([(⟨#[88]⟩ : ByteArray), (⟨#[89]⟩ : ByteArray), (⟨#[90]⟩ : ByteArray), (⟨#[88]⟩ : ByteArray)] : List ByteArray) := RC.cons (c := [.string (⟨#[88]⟩ : ByteArray)]) (cells := [.string (⟨#[89]⟩ : ByteArray), .string (⟨#[90]⟩ : ByteArray), .string (⟨#[88]⟩ : ByteArray)]) ⟨rfl, rfl⟩ rfl (RC.cons (c := [.string (⟨#[89]⟩ : ByteArray)]) (cells := [.string (⟨#[90]⟩ : ByteArray), .string (⟨#[88]⟩ : ByteArray)]) ⟨rfl, rfl⟩ rfl (RC.cons (c := [.string (⟨#[90]⟩ : ByteArray)]) (cells := [.string (⟨#[88]⟩ : ByteArray)]) ⟨rfl, rfl⟩ rfl (RC.cons (c := [.string (⟨#[88]⟩ : ByteArray)]) (cells := []) ⟨rfl, rfl⟩ rfl (RC.nil _ _ _))))
 refine le' (e_lit (vs := [(0, .string (⟨#[88]⟩ : ByteArray)), (1, .string (⟨#[89]⟩ : ByteArray)), (2, .string (⟨#[90]⟩ : ByteArray)), (3, .string (⟨#[88]⟩ : ByteArray))]) (C := #[.string (⟨#[88]⟩ : ByteArray), .string (⟨#[89]⟩ : ByteArray), .string (⟨#[90]⟩ : ByteArray), .string (⟨#[88]⟩ : ByteArray)]) RS.lasts Sl_69 Zr_9 rfl rfl rfl rfl (fill_made MC_9_4 (fill_cons (C' := [.string (⟨#[88]⟩ : ByteArray), .string ⟨#[]⟩, .string ⟨#[]⟩, .string ⟨#[]⟩]) rfl rfl rfl rfl rfl (fill_cons (C' := [.string (⟨#[88]⟩ : ByteArray), .string (⟨#[89]⟩ : ByteArray), .string ⟨#[]⟩, .string ⟨#[]⟩]) rfl rfl rfl rfl rfl (fill_cons (C' := [.string (⟨#[88]⟩ : ByteArray), .string (⟨#[89]⟩ : ByteArray), .string (⟨#[90]⟩ : ByteArray), .string ⟨#[]⟩]) rfl rfl rfl rfl rfl (fill_cons (C' := [.string (⟨#[88]⟩ : ByteArray), .string (⟨#[89]⟩ : ByteArray), .string (⟨#[90]⟩ : ByteArray), .string (⟨#[88]⟩ : ByteArray)]) rfl rfl rfl rfl rfl (fill_nil)))))) rfl rc1 rfl (by simpa using Kw.nil)) rfl (fun v3 Φ_3 D1 q3 => ?_)
 obtain ⟨fr3, h3⟩ := q3
 replace h3 : OSl RS 9 1 Φ_3 [] v3 ([(⟨#[88]⟩ : ByteArray), (⟨#[89]⟩ : ByteArray), (⟨#[90]⟩ : ByteArray), (⟨#[88]⟩ : ByteArray)] : List ByteArray) := by simpa using h3
 replace ph0_0 := ph0_0.frame RI.lasts fr3 (Dj.empty _)
 replace h1 := fr3 _ _ (by simp) h1
 obtain ⟨x4, hx4, h⟩ := bs h
 refine lc (k_call (js := [1]) (R := [ob v3]) Fun_32 rfl rfl (fun w1 hw ap hl => m_s_l1Str_ok hw.fro N (⟨p0.b, x1.2.i, x1.2.h⟩ : Tl1Cur) ([(⟨#[88]⟩ : ByteArray), (⟨#[89]⟩ : ByteArray), (⟨#[90]⟩ : ByteArray), (⟨#[88]⟩ : ByteArray)] : List ByteArray) ph0_0 h1 h3.rsl (ap.o pa0_0) (Dj.app (ap.r (i := 0) rfl) (Dj.nil _)) ap.nd hl hx4)) rfl (fun v4 Φ_4 F3 q4 => ?_)
 obtain ⟨ap3, fr4, rfl, rfl, e3, h4⟩ := q4
 replace ph0_0 := ph0_0.frame RI.lasts fr4 (ap3.o pa0_0)
 obtain ⟨x5, hx5, h⟩ := bs h
 refine lp (p_call Fun_38 rfl (fun w1 hw => m_s_l6Var_ok hw.fro N x4.1 hx5)) rfl <| soN 0 Sz_54 rfl ⟨rfl, rfl, rfl, rfl, rfl, trivial⟩ rfl ?_
 refine en ?_
 refine WT.ret Try.func33 (resOk.one (rv_cell Tn_54 rfl (fun w1 hw => hw.rgO (i := 0) rfl 0 5 [.int .i64 x5.K, .string x5.S, .int .i64 x5.V.K, .int .i64 x5.V.N, .string x5.V.S] rfl) rfl)) (fun w1 hw => ?_)
 cases h
 refine postG_of_St (js := [0]) hw rfl ⟨rfl, rfl, rfl, h4⟩
theorem m_s_l6Draw_ok {Φ : Hp} {w : World} (hΦ : In Φ w) (N : Nat) (p0 : Tl1Cur) (p1 : Bool) {pv0_0 : Value} {pG0_0 : List Nat} {pb0 : Nat} (ph0_0 : RSl (RI .u8) 1 Φ pG0_0 pv0_0 p0.b) (pp0 : Φ pb0 = some (.cells #[pv0_0, .int .i64 p0.i, .int .i64 p0.h] 67 (0, 0))) (pd0_0 : Dj pG0_0 [[pb0]].flatten) (hB : [[pb0]].flatten.Nodup) (hlt : ∀ k ∈ [[pb0]].flatten, k < w.heap.size) {r : TPat × Tl1Cur} (h : m_s_l6Draw N p0 p1 = some r) :
  Calls Try.prog 16 [.pointer (some ⟨pb0, 0, none⟩), .bool p1].toArray w (PostG Φ w [[pb0]].flatten (fun Φ' Fs v => ∃ (sr_0_0 : Value), v = .agg [.string r.1.Kind, sr_0_0, .bool r.1.Not].toArray ∧ Fs = [ob sr_0_0, [pb0]] ∧ OSl RTArg 54 5 Φ' [] sr_0_0 r.1.Args ∧ r.2.b = p0.b ∧ Φ' pb0 = some (.cells #[pv0_0, .int .i64 r.2.i, .int .i64 r.2.h] 67 (0, 0)))) := by
 refine enter Try.func16 rfl Try.ntmps16 rfl (St.start hΦ [[pb0]] hB hlt) ?_
 have pa0_0 := Old.mk hΦ ph0_0.kn pd0_0
 revert pa0_0
 generalize hb0 : (⟨w, [[pb0]].flatten, Φ⟩ : Base) = w0
 intro pa0_0
 unfold m_s_l6Draw at h
 refine sr ?_
 refine ln (nz Zr_26) rfl (fun b_1 => ?_)
 refine en <| sr <| la rfl ?_
 have rc1 : RC RS 1 Φ ([[], [], [], []] : List (List Nat)) [.string (⟨#[111, 114, 100, 101, 114]⟩ : ByteArray), .string (⟨#[112, 97, 105, 100]⟩ : ByteArray), .string (⟨#[105, 116, 101, 109]⟩ : ByteArray), .string (⟨#[111, 114, 100, 101, 114]⟩ : ByteArray)] ([(⟨#[111, 114, 100, 101, 114]⟩ : ByteArray), (⟨#[112, 97, 105, 100]⟩ : ByteArray), (⟨#[105, 116, 101, 109]⟩ : ByteArray), (⟨#[111, 114, 100, 101, 114]⟩ : ByteArray)] : List ByteArray) := RC.cons (c := [.string (⟨#[111, 114, 100, 101, 114]⟩ : ByteArray)]) (cells := [.string (⟨#[112, 97, 105, 100]⟩ : ByteArray), .string (⟨#[105, 116, 101, 109]⟩ : ByteArray), .string (⟨#[111, 114, 100, 101, 114]⟩ : ByteArray)]) ⟨rfl, rfl⟩ rfl (RC.cons (c := [.string (⟨#[112, 97, 105, 100]⟩ : ByteArray)]) (cells := [.string (⟨#[105, 116, 101, 109]⟩ : ByteArray), .string (⟨#[111, 114, 100, 101, 114]⟩ : ByteArray)]) ⟨rfl, rfl⟩ rfl (RC.cons (c := [.string (⟨#[105, 116, 101, 109]⟩ : ByteArray)]) (cells := [.string (⟨#[111, 114, 100, 101, 114]⟩ : ByteArray)]) ⟨rfl, rfl⟩ rfl (RC.cons (c := [.string (⟨#[111, 114, 100, 101, 114]⟩ : ByteArray)]) (cells := []) ⟨rfl, rfl⟩ rfl (RC.nil _ _ _))))
 refine le' (e_lit (vs := [(0, .string (⟨#[111, 114, 100, 101, 114]⟩ : ByteArray)), (1, .string (⟨#[112, 97, 105, 100]⟩ : ByteArray)), (2, .string (⟨#[105, 116, 101, 109]⟩ : ByteArray)), (3, .string (⟨#[111, 114, 100, 101, 114]⟩ : ByteArray))]) (C := #[.string (⟨#[111, 114, 100, 101, 114]⟩ : ByteArray), .string (⟨#[112, 97, 105, 100]⟩ : ByteArray), .string (⟨#[105, 116, 101, 109]⟩ : ByteArray), .string (⟨#[111, 114, 100, 101, 114]⟩ : ByteArray)]) RS.lasts Sl_69 Zr_9 rfl rfl rfl rfl (fill_made MC_9_4 (fill_cons (C' := [.string (⟨#[111, 114, 100, 101, 114]⟩ : ByteArray), .string ⟨#[]⟩, .string ⟨#[]⟩, .string ⟨#[]⟩]) rfl rfl rfl rfl rfl (fill_cons (C' := [.string (⟨#[111, 114, 100, 101, 114]⟩ : ByteArray), .string (⟨#[112, 97, 105, 100]⟩ : ByteArray), .string ⟨#[]⟩, .string ⟨#[]⟩]) rfl rfl rfl rfl rfl (fill_cons (C' := [.string (⟨#[111, 114, 100, 101, 114]⟩ : ByteArray), .string (⟨#[112, 97, 105, 100]⟩ : ByteArray), .string (⟨#[105, 116, 101, 109]⟩ : ByteArray), .string ⟨#[]⟩]) rfl rfl rfl rfl rfl (fill_cons (C' := [.string (⟨#[111, 114, 100, 101, 114]⟩ : ByteArray), .string (⟨#[112, 97, 105, 100]⟩ : ByteArray), .string (⟨#[105, 116, 101, 109]⟩ : ByteArray), .string (⟨#[111, 114, 100, 101, 114]⟩ : ByteArray)]) rfl rfl rfl rfl rfl (fill_nil)))))) rfl rc1 rfl (by simpa using Kw.nil)) rfl (fun v1 Φ_1 D1 q1 => ?_)
 obtain ⟨fr1, h1⟩ := q1
 replace h1 : OSl RS 9 1 Φ_1 [] v1 ([(⟨#[111, 114, 100, 101, 114]⟩ : ByteArray), (⟨#[112, 97, 105, 100]⟩ : ByteArray), (⟨#[105, 116, 101, 109]⟩ : ByteArray), (⟨#[111, 114, 100, 101, 114]⟩ : ByteArray)] : List ByteArray) := by simpa using h1
 replace ph0_0 := ph0_0.frame RI.lasts fr1 (Dj.empty _)
 replace pp0 := fr1 _ _ (by simp) pp0
 obtain ⟨x1, hx1, h⟩ := bs h
 refine lc (k_call (js := [1]) (R := [ob v1]) Fun_32 rfl rfl (fun w1 hw ap hl => m_s_l1Str_ok hw.fro N p0 ([(⟨#[111, 114, 100, 101, 114]⟩ : ByteArray), (⟨#[112, 97, 105, 100]⟩ : ByteArray), (⟨#[105, 116, 101, 109]⟩ : ByteArray), (⟨#[111, 114, 100, 101, 114]⟩ : ByteArray)] : List ByteArray) ph0_0 pp0 h1.rsl (ap.o pa0_0) (Dj.app (ap.r (i := 0) rfl) (Dj.nil _)) ap.nd hl hx1)) rfl (fun v2 Φ_2 F1 q2 => ?_)
 obtain ⟨ap1, fr2, rfl, rfl, e1, h2⟩ := q2
 replace ph0_0 := ph0_0.frame RI.lasts fr2 (ap1.o pa0_0)
 refine la rfl <| lq (q_build (vs := [(0, .string x1.1), (2, .bool p1)]) (C := #[.string x1.1, .slice none 0 0, .bool p1]) Pl_26 Zr_26 rfl (fill_cons (C' := [.string x1.1, .slice none 0 0, .bool false]) rfl rfl rfl rfl rfl (fill_cons (C' := [.string x1.1, .slice none 0 0, .bool p1]) rfl rfl rfl rfl rfl (fill_nil)))) rfl ?_
 refine ln (nz Zr_26) rfl (fun b_2 => ?_)
 refine soN 0 Sz_26 rfl ⟨rfl, rfl, rfl, trivial⟩ rfl ?_
 refine en <| sr <| la rfl <| en <| sq <| sr <| lf Fld_26_0 rfl rfl rfl <| lo T1_9 0 rfl <| la rfl <| en ?_
 refine cut (σ := Int) (fun s => [(0, .pointer (some ⟨pb0, 0, none⟩)), (4, .pointer (some ⟨b_1, 0, none⟩)), (5, .pointer (some ⟨b_2, 0, none⟩)), (6, .int .i64 s)]) (fun s => St w0 Φ_2 [(b_2, .cells #[.string x1.1, .slice none 0 0, .bool p1] 26 (0, 0)), (b_1, .cells #[.string (⟨#[]⟩ : ByteArray), .slice none 0 0, .bool false] 26 (0, 0))] [[pb0]]) (fun s => m_s_l6Draw_j1 N p0 p1 x1 s = some r) (fun s hm => ?_) (fun K => ?_)
 ·clear h
  revert hm; revert s; intro s1 hm
  have h : m_s_l6Draw_j1 N p0 p1 x1 s1 = some r := hm
  show WT _ _ [(0, .pointer (some ⟨pb0, 0, none⟩)), (4, .pointer (some ⟨b_1, 0, none⟩)), (5, .pointer (some ⟨b_2, 0, none⟩)), (6, .int .i64 s1)] (St w0 Φ_2 [(b_2, .cells #[.string x1.1, .slice none 0 0, .bool p1] 26 (0, 0)), (b_1, .cells #[.string (⟨#[]⟩ : ByteArray), .slice none 0 0, .bool false] 26 (0, 0))] [[pb0]])
  unfold m_s_l6Draw_j1 at h
  refine sq <| sr <| la rfl <| en <| blk <| WT.loop <| WT.conv (S' := St w0 Φ_2 [(b_2, .cells #[.string x1.1, .slice none 0 0, .bool p1] 26 (0, 0)), (b_1, .cells #[.string (⟨#[]⟩ : ByteArray), .slice none 0 0, .bool false] 26 (0, 0))] (ob (.slice none 0 0) :: [[pb0]])) (fun w1 hw => hw.addNil) ?_
  have k1 := OSl.nil RTArg 54 5 Φ_2
  refine WT.mono (l' := [(0, .pointer (some ⟨pb0, 0, none⟩)), (4, .pointer (some ⟨b_1, 0, none⟩)), (5, .pointer (some ⟨b_2, 0, none⟩)), (6, .int .i64 s1), (7, .int .i64 0)]) (S' := St w0 Φ_2 [(b_2, .cells #[.string x1.1, (.slice none 0 0), .bool p1] 26 (0, 0)), (b_1, .cells #[.string (⟨#[]⟩ : ByteArray), .slice none 0 0, .bool false] 26 (0, 0))] [ob (.slice none 0 0), [pb0]]) ⟨rfl, rfl, rfl, rfl, rfl, trivial⟩ (fun w1 hw => (hw.sel (js := [0, 0]) rfl).selO (js := [0, 0]) rfl) ?_
  refine loop_ind (σ := Hp × (List TArg) × Value × Int × Int × Int) (fun s => [(0, .pointer (some ⟨pb0, 0, none⟩)), (4, .pointer (some ⟨b_1, 0, none⟩)), (5, .pointer (some ⟨b_2, 0, none⟩)), (6, .int .i64 s1), (7, .int .i64 s.2.2.2.1)]) (fun s => St w0 s.1 [(b_2, .cells #[.string x1.1, s.2.2.1, .bool p1] 26 (0, 0)), (b_1, .cells #[.string (⟨#[]⟩ : ByteArray), .slice none 0 0, .bool false] 26 (0, 0))] [ob s.2.2.1, [pb0]]) (fun m s => m_s_l6Draw_l2 N p0 p1 x1 s1 m s.2.1 s.2.2.2.1 s.2.2.2.2.1 s.2.2.2.2.2 = some r ∧ (OSl RTArg 54 5 s.1 [] s.2.2.1 s.2.1) ∧ (s.1 pb0 = some (.cells #[pv0_0, .int .i64 s.2.2.2.2.1, .int .i64 s.2.2.2.2.2] 67 (0, 0))) ∧ (RSl (RI .u8) 1 s.1 pG0_0 pv0_0 p0.b)) (fun s hm => none_ne (show (none : Option (TPat × Tl1Cur)) = some r from hm.1)) (fun n2 ih2 s hm => ?_) N (Φ_2, ([] : List TArg), (.slice none 0 0), 0, x1.2.i, x1.2.h) ⟨h, k1, h2, ph0_0⟩
  obtain ⟨Φ_3, s2, u1, s3, s4, s5⟩ := s
  obtain ⟨h, k2, k3, ph0_0⟩ := hm
  dsimp only at h k2 k3 ph0_0 ⊢
  unfold m_s_l6Draw_l2 at h
  refine sq <| sr <| la rfl <| la rfl <| la rfl <| en ?_
  refine cdh rfl h (fun c1 h => ?_) (fun c1 h => ?_)
  ·refine WT.skip <| sq <| blk <| WT.mix (Kn Φ_3 [] [(b_2, .cells #[.string x1.1, u1, .bool p1] 26 (0, 0)), (b_1, .cells #[.string (⟨#[]⟩ : ByteArray), .slice none 0 0, .bool false] 26 (0, 0))]) (fun i => match i with | 7 => false | _ => true) mixed (fun _ h => h.drew) <| mq 0 rfl (by kernel_rfl) (kn Kf.nil (ai2 0 1 rfl rfl)) (q_fieldAddr Fld_26_1 rfl) rfl <| mq 1 rfl (by kernel_rfl) (kn Kf.nil (ai2 0 1 rfl rfl)) (q_load1 T1_24 rfl (fun w1 hw => hw.rgO (i := 0) rfl 1 1 [u1] rfl)) rfl ?_
   refine ma 2 rfl (by kernel_rfl) (kn Kf.nil (ai2 0 1 rfl rfl)) rfl ?_
   obtain ⟨x2, hx2, h⟩ := bs h
   refine WM.one 3 (by kernel_rfl) (mc rfl (fun _ v Φx D w1 hq hw => Kn.of Kf.nil (ai2 0 1 rfl rfl) hw) (k_call (js := [1]) (R := [ob u1]) Fun_33 rfl rfl (fun w1 hw ap hl => m_s_l6Arg_ok hw.fro N (⟨p0.b, s4, s5⟩ : Tl1Cur) ph0_0 k3 (ap.o pa0_0) ap.nd hl hx2)) rfl (fun v3 Φ_4 F2 q3 => ?_))
   obtain ⟨ap2, fr3, rfl, rfl, e2, h3⟩ := q3
   replace ph0_0 := ph0_0.frame RI.lasts fr3 (ap2.o pa0_0)
   replace k2 := k2.frame RTArg.lasts fr3 (ap2.r (i := 0) rfl) (Dj.nil _)
   have rc2 : RC RTArg 5 Φ_4 ([[]] : List (List Nat)) [.int .i64 x2.1.K, .string x2.1.S, .int .i64 x2.1.V.K, .int .i64 x2.1.V.N, .string x2.1.V.S] ([x2.1] : List TArg) := RC.cons (c := [.int .i64 x2.1.K, .string x2.1.S, .int .i64 x2.1.V.K, .int .i64 x2.1.V.N, .string x2.1.V.S]) (cells := []) ⟨rfl, rfl⟩ rfl (RC.nil _ _ _)
   refine WM.one 4 (by kernel_rfl) (me rfl (fun _ v Φx D w1 hq hw => Kn.of Kf.nil (ai2 0 1 rfl rfl) hw) (e_lit (vs := [(0, .agg [.int .i64 x2.1.K, .string x2.1.S, .int .i64 x2.1.V.K, .int .i64 x2.1.V.N, .string x2.1.V.S].toArray)]) (C := #[.int .i64 x2.1.K, .string x2.1.S, .int .i64 x2.1.V.K, .int .i64 x2.1.V.N, .string x2.1.V.S]) RTArg.lasts Sl_24 Zr_54 rfl rfl rfl rfl (fill_made MC_54_1 (fill_cons (C' := [.int .i64 x2.1.K, .string x2.1.S, .int .i64 x2.1.V.K, .int .i64 x2.1.V.N, .string x2.1.V.S]) rfl rfl rfl rfl rfl (fill_nil))) rfl rc2 rfl (by simpa using Kw.nil)) rfl (fun v4 Φ_5 D2 q4 => ?_))
   obtain ⟨fr4, h4⟩ := q4
   replace h4 : OSl RTArg 54 5 Φ_5 [] v4 ([x2.1] : List TArg) := by simpa using h4
   replace ph0_0 := ph0_0.frame RI.lasts fr4 (Dj.empty _)
   replace k2 := k2.frame RTArg.lasts fr4 (Dj.empty _) (Dj.empty _)
   replace h3 := fr4 _ _ (by simp) h3
   obtain ⟨x3, hx3, h⟩ := bs h
   refine WM.one 5 (by kernel_rfl) (me rfl (fun _ v Φx D w1 hq hw => Kn.of Kf.nil (ai2 0 1 rfl rfl) hw) (e_appF RTArg.lasts RTArg.one RTArg.flat Sl_24 Ei_54 rfl rfl rfl rfl rfl (js := [2]) (Rr := [ob v4, [pb0]]) rfl k2 h4.rsl hx3) rfl (fun v5 Φ_6 D3 q5 => ?_))
   obtain ⟨⟨ap3, fr5⟩, h5⟩ := q5
   replace ph0_0 := ph0_0.frame RI.lasts fr5 (ap3.o pa0_0)
   replace h3 := fr5 _ _ ((ap3.r (i := 1) rfl) _ (by simp)) h3
   refine mq 6 rfl (by kernel_rfl) (kn Kf.nil (ai2 0 1 rfl rfl)) (q_fieldAddr Fld_26_1 rfl) rfl ?_
   refine WM.one 7 (by kernel_rfl) (ms rfl (fun hc => by cases hc) (s_store (i := 0) (vs := [v5]) (C' := [.string x1.1, v5, .bool p1]) (O' := [(b_2, .cells #[.string x1.1, v5, .bool p1] 26 (0, 0)), (b_1, .cells #[.string (⟨#[]⟩ : ByteArray), .slice none 0 0, .bool false] 26 (0, 0))]) Sz_24 rfl rfl rfl (one_cells h5.one) rfl rfl ⟨h5.one, trivial⟩ rfl rfl) rfl ?_)
   refine WM.nil (by kernel_rfl) <| ib <| rgn <| la rfl <| la rfl <| la rfl <| en ?_
   exact lback (ih2 (Φ_6, x3, v5, IntKind.i64.wrap (s3 + 1), x2.2.i, x2.2.h) ⟨h, h5, h3, ph0_0⟩) ⟨rfl, rfl, rfl, rfl, rfl, trivial⟩ (fun w1 hw => (hw.sel (js := [0, 1]) rfl).selO (js := [0, 0]) rfl)
  refine xt rfl <| sr <| ld3 Tn_26 0 rfl <| soN 1 Sz_26 rfl ⟨rfl, k2.one, rfl, trivial⟩ rfl ?_
  refine en ?_
  refine WT.ret Try.func16 (resOk.one (rv_cell Tn_26 rfl (fun w1 hw => hw.rgO (i := 1) rfl 0 3 [.string x1.1, u1, .bool p1] rfl) rfl)) (fun w1 hw => ?_)
  subst hb0
  cases h
  refine postG_of_St (js := [0, 0]) hw rfl ⟨u1, rfl, rfl, k2, rfl, k3⟩
 refine cdh rfl h (fun c2 h => ?_) (fun c2 h => ?_)
 ·refine rgn <| la rfl <| en ?_
  exact wto (K (2) h) ⟨rfl, rfl, rfl, rfl, trivial⟩ (fun w1 hw => (hw.sel (js := [0]) rfl).selO (js := [0, 0]) rfl)
 refine WT.skip ?_
 exact wto (K (1) h) ⟨rfl, rfl, rfl, rfl, trivial⟩ (fun w1 hw => (hw.sel (js := [0]) rfl).selO (js := [0, 0]) rfl)
theorem m_s_l3Draw_ok {Φ : Hp} {w : World} (hΦ : In Φ w) (N : Nat) (p0 : Tl1Cur) {pv0_0 : Value} {pG0_0 : List Nat} {pb0 : Nat} (ph0_0 : RSl (RI .u8) 1 Φ pG0_0 pv0_0 p0.b) (pp0 : Φ pb0 = some (.cells #[pv0_0, .int .i64 p0.i, .int .i64 p0.h] 67 (0, 0))) (pd0_0 : Dj pG0_0 [[pb0]].flatten) (hB : [[pb0]].flatten.Nodup) (hlt : ∀ k ∈ [[pb0]].flatten, k < w.heap.size) {r : TFact × Tl1Cur} (h : m_s_l3Draw N p0 = some r) :
  Calls Try.prog 17 [.pointer (some ⟨pb0, 0, none⟩)].toArray w (PostG Φ w [[pb0]].flatten (fun Φ' Fs v => ∃ (sr_0_0 : Value), v = .agg [.string r.1.Kind, sr_0_0].toArray ∧ Fs = [ob sr_0_0, [pb0]] ∧ OSl RTVal 51 3 Φ' [] sr_0_0 r.1.Fields ∧ r.2.b = p0.b ∧ Φ' pb0 = some (.cells #[pv0_0, .int .i64 r.2.i, .int .i64 r.2.h] 67 (0, 0)))) := by
 refine enter Try.func17 rfl Try.ntmps17 rfl (St.start hΦ [[pb0]] hB hlt) ?_
 have pa0_0 := Old.mk hΦ ph0_0.kn pd0_0
 revert pa0_0
 generalize hb0 : (⟨w, [[pb0]].flatten, Φ⟩ : Base) = w0
 intro pa0_0
 unfold m_s_l3Draw at h
 refine sr ?_
 refine ln (nz Zr_29) rfl (fun b_1 => ?_)
 refine en <| sr <| la rfl ?_
 have rc1 : RC RS 1 Φ ([[], [], [], []] : List (List Nat)) [.string (⟨#[111, 114, 100, 101, 114]⟩ : ByteArray), .string (⟨#[112, 97, 105, 100]⟩ : ByteArray), .string (⟨#[105, 116, 101, 109]⟩ : ByteArray), .string (⟨#[111, 114, 100, 101, 114]⟩ : ByteArray)] ([(⟨#[111, 114, 100, 101, 114]⟩ : ByteArray), (⟨#[112, 97, 105, 100]⟩ : ByteArray), (⟨#[105, 116, 101, 109]⟩ : ByteArray), (⟨#[111, 114, 100, 101, 114]⟩ : ByteArray)] : List ByteArray) := RC.cons (c := [.string (⟨#[111, 114, 100, 101, 114]⟩ : ByteArray)]) (cells := [.string (⟨#[112, 97, 105, 100]⟩ : ByteArray), .string (⟨#[105, 116, 101, 109]⟩ : ByteArray), .string (⟨#[111, 114, 100, 101, 114]⟩ : ByteArray)]) ⟨rfl, rfl⟩ rfl (RC.cons (c := [.string (⟨#[112, 97, 105, 100]⟩ : ByteArray)]) (cells := [.string (⟨#[105, 116, 101, 109]⟩ : ByteArray), .string (⟨#[111, 114, 100, 101, 114]⟩ : ByteArray)]) ⟨rfl, rfl⟩ rfl (RC.cons (c := [.string (⟨#[105, 116, 101, 109]⟩ : ByteArray)]) (cells := [.string (⟨#[111, 114, 100, 101, 114]⟩ : ByteArray)]) ⟨rfl, rfl⟩ rfl (RC.cons (c := [.string (⟨#[111, 114, 100, 101, 114]⟩ : ByteArray)]) (cells := []) ⟨rfl, rfl⟩ rfl (RC.nil _ _ _))))
 refine le' (e_lit (vs := [(0, .string (⟨#[111, 114, 100, 101, 114]⟩ : ByteArray)), (1, .string (⟨#[112, 97, 105, 100]⟩ : ByteArray)), (2, .string (⟨#[105, 116, 101, 109]⟩ : ByteArray)), (3, .string (⟨#[111, 114, 100, 101, 114]⟩ : ByteArray))]) (C := #[.string (⟨#[111, 114, 100, 101, 114]⟩ : ByteArray), .string (⟨#[112, 97, 105, 100]⟩ : ByteArray), .string (⟨#[105, 116, 101, 109]⟩ : ByteArray), .string (⟨#[111, 114, 100, 101, 114]⟩ : ByteArray)]) RS.lasts Sl_69 Zr_9 rfl rfl rfl rfl (fill_made MC_9_4 (fill_cons (C' := [.string (⟨#[111, 114, 100, 101, 114]⟩ : ByteArray), .string ⟨#[]⟩, .string ⟨#[]⟩, .string ⟨#[]⟩]) rfl rfl rfl rfl rfl (fill_cons (C' := [.string (⟨#[111, 114, 100, 101, 114]⟩ : ByteArray), .string (⟨#[112, 97, 105, 100]⟩ : ByteArray), .string ⟨#[]⟩, .string ⟨#[]⟩]) rfl rfl rfl rfl rfl (fill_cons (C' := [.string (⟨#[111, 114, 100, 101, 114]⟩ : ByteArray), .string (⟨#[112, 97, 105, 100]⟩ : ByteArray), .string (⟨#[105, 116, 101, 109]⟩ : ByteArray), .string ⟨#[]⟩]) rfl rfl rfl rfl rfl (fill_cons (C' := [.string (⟨#[111, 114, 100, 101, 114]⟩ : ByteArray), .string (⟨#[112, 97, 105, 100]⟩ : ByteArray), .string (⟨#[105, 116, 101, 109]⟩ : ByteArray), .string (⟨#[111, 114, 100, 101, 114]⟩ : ByteArray)]) rfl rfl rfl rfl rfl (fill_nil)))))) rfl rc1 rfl (by simpa using Kw.nil)) rfl (fun v1 Φ_1 D1 q1 => ?_)
 obtain ⟨fr1, h1⟩ := q1
 replace h1 : OSl RS 9 1 Φ_1 [] v1 ([(⟨#[111, 114, 100, 101, 114]⟩ : ByteArray), (⟨#[112, 97, 105, 100]⟩ : ByteArray), (⟨#[105, 116, 101, 109]⟩ : ByteArray), (⟨#[111, 114, 100, 101, 114]⟩ : ByteArray)] : List ByteArray) := by simpa using h1
 replace ph0_0 := ph0_0.frame RI.lasts fr1 (Dj.empty _)
 replace pp0 := fr1 _ _ (by simp) pp0
 obtain ⟨x1, hx1, h⟩ := bs h
 refine lc (k_call (js := [1]) (R := [ob v1]) Fun_32 rfl rfl (fun w1 hw ap hl => m_s_l1Str_ok hw.fro N p0 ([(⟨#[111, 114, 100, 101, 114]⟩ : ByteArray), (⟨#[112, 97, 105, 100]⟩ : ByteArray), (⟨#[105, 116, 101, 109]⟩ : ByteArray), (⟨#[111, 114, 100, 101, 114]⟩ : ByteArray)] : List ByteArray) ph0_0 pp0 h1.rsl (ap.o pa0_0) (Dj.app (ap.r (i := 0) rfl) (Dj.nil _)) ap.nd hl hx1)) rfl (fun v2 Φ_2 F1 q2 => ?_)
 obtain ⟨ap1, fr2, rfl, rfl, e1, h2⟩ := q2
 replace ph0_0 := ph0_0.frame RI.lasts fr2 (ap1.o pa0_0)
 refine lq (q_build (vs := [(0, .string x1.1)]) (C := #[.string x1.1, .slice none 0 0]) Pl_29 Zr_29 rfl (fill_cons (C' := [.string x1.1, .slice none 0 0]) rfl rfl rfl rfl rfl (fill_nil))) rfl ?_
 refine ln (nz Zr_29) rfl (fun b_2 => ?_)
 refine soN 0 Sz_29 rfl ⟨rfl, rfl, trivial⟩ rfl ?_
 refine en <| sr <| la rfl <| en <| sq <| sr <| lf Fld_29_0 rfl rfl rfl <| lo T1_9 0 rfl <| la rfl <| en ?_
 refine cut (σ := Int) (fun s => [(0, .pointer (some ⟨pb0, 0, none⟩)), (2, .pointer (some ⟨b_1, 0, none⟩)), (3, .pointer (some ⟨b_2, 0, none⟩)), (4, .int .i64 s)]) (fun s => St w0 Φ_2 [(b_2, .cells #[.string x1.1, .slice none 0 0] 29 (0, 0)), (b_1, .cells #[.string (⟨#[]⟩ : ByteArray), .slice none 0 0] 29 (0, 0))] [[pb0]]) (fun s => m_s_l3Draw_j1 N p0 x1 s = some r) (fun s hm => ?_) (fun K => ?_)
 ·clear h
  revert hm; revert s; intro s1 hm
  have h : m_s_l3Draw_j1 N p0 x1 s1 = some r := hm
  show WT _ _ [(0, .pointer (some ⟨pb0, 0, none⟩)), (2, .pointer (some ⟨b_1, 0, none⟩)), (3, .pointer (some ⟨b_2, 0, none⟩)), (4, .int .i64 s1)] (St w0 Φ_2 [(b_2, .cells #[.string x1.1, .slice none 0 0] 29 (0, 0)), (b_1, .cells #[.string (⟨#[]⟩ : ByteArray), .slice none 0 0] 29 (0, 0))] [[pb0]])
  unfold m_s_l3Draw_j1 at h
  refine sq <| sr <| la rfl ?_
  obtain ⟨x2, hx2, h⟩ := bs h
  refine lc (k_call (js := [0]) (R := []) Fun_18 rfl rfl (fun w1 hw ap hl => m_s_l1Once_ok hw.fro N (⟨p0.b, x1.2.i, x1.2.h⟩ : Tl1Cur) 12 ph0_0 h2 (ap.o pa0_0) ap.nd hl hx2)) rfl (fun v3 Φ_3 F2 q3 => ?_)
  obtain ⟨ap2, fr3, rfl, rfl, e2, h3⟩ := q3
  replace ph0_0 := ph0_0.frame RI.lasts fr3 (ap2.o pa0_0)
  refine en ?_
  refine cut (σ := Hp × Int × Int × Int) (fun s => [(0, .pointer (some ⟨pb0, 0, none⟩)), (2, .pointer (some ⟨b_1, 0, none⟩)), (3, .pointer (some ⟨b_2, 0, none⟩)), (4, .int .i64 s.2.1)]) (fun s => St w0 s.1 [(b_2, .cells #[.string x1.1, .slice none 0 0] 29 (0, 0)), (b_1, .cells #[.string (⟨#[]⟩ : ByteArray), .slice none 0 0] 29 (0, 0))] [[pb0]]) (fun s => m_s_l3Draw_j2 N p0 x1 s.2.1 s.2.2.1 s.2.2.2 = some r ∧ (s.1 pb0 = some (.cells #[pv0_0, .int .i64 s.2.2.1, .int .i64 s.2.2.2] 67 (0, 0))) ∧ (RSl (RI .u8) 1 s.1 pG0_0 pv0_0 p0.b)) (fun s hm => ?_) (fun K => ?_)
  ·clear h
   obtain ⟨Φ_4, s2, s3, s4⟩ := s
   obtain ⟨h, k1, ph0_0⟩ := hm
   dsimp only at h k1 ph0_0 ⊢
   unfold m_s_l3Draw_j2 at h
   refine sq <| sr <| la rfl <| en <| blk <| WT.loop <| WT.conv (S' := St w0 Φ_4 [(b_2, .cells #[.string x1.1, .slice none 0 0] 29 (0, 0)), (b_1, .cells #[.string (⟨#[]⟩ : ByteArray), .slice none 0 0] 29 (0, 0))] (ob (.slice none 0 0) :: [[pb0]])) (fun w1 hw => hw.addNil) ?_
   have k2 := OSl.nil RTVal 51 3 Φ_4
   refine WT.mono (l' := [(0, .pointer (some ⟨pb0, 0, none⟩)), (2, .pointer (some ⟨b_1, 0, none⟩)), (3, .pointer (some ⟨b_2, 0, none⟩)), (4, .int .i64 s2), (5, .int .i64 0)]) (S' := St w0 Φ_4 [(b_2, .cells #[.string x1.1, (.slice none 0 0)] 29 (0, 0)), (b_1, .cells #[.string (⟨#[]⟩ : ByteArray), .slice none 0 0] 29 (0, 0))] [ob (.slice none 0 0), [pb0]]) ⟨rfl, rfl, rfl, rfl, rfl, trivial⟩ (fun w1 hw => (hw.sel (js := [0, 0]) rfl).selO (js := [0, 0]) rfl) ?_
   refine loop_ind (σ := Hp × (List TVal) × Value × Int × Int × Int) (fun s => [(0, .pointer (some ⟨pb0, 0, none⟩)), (2, .pointer (some ⟨b_1, 0, none⟩)), (3, .pointer (some ⟨b_2, 0, none⟩)), (4, .int .i64 s2), (5, .int .i64 s.2.2.2.1)]) (fun s => St w0 s.1 [(b_2, .cells #[.string x1.1, s.2.2.1] 29 (0, 0)), (b_1, .cells #[.string (⟨#[]⟩ : ByteArray), .slice none 0 0] 29 (0, 0))] [ob s.2.2.1, [pb0]]) (fun m s => m_s_l3Draw_l3 N p0 x1 s2 m s.2.1 s.2.2.2.1 s.2.2.2.2.1 s.2.2.2.2.2 = some r ∧ (OSl RTVal 51 3 s.1 [] s.2.2.1 s.2.1) ∧ (s.1 pb0 = some (.cells #[pv0_0, .int .i64 s.2.2.2.2.1, .int .i64 s.2.2.2.2.2] 67 (0, 0))) ∧ (RSl (RI .u8) 1 s.1 pG0_0 pv0_0 p0.b)) (fun s hm => none_ne (show (none : Option (TFact × Tl1Cur)) = some r from hm.1)) (fun n3 ih3 s hm => ?_) N (Φ_4, ([] : List TVal), (.slice none 0 0), 0, s3, s4) ⟨h, k2, k1, ph0_0⟩
   obtain ⟨Φ_5, s5, u1, s6, s7, s8⟩ := s
   obtain ⟨h, k3, k4, ph0_0⟩ := hm
   dsimp only at h k3 k4 ph0_0 ⊢
   unfold m_s_l3Draw_l3 at h
   refine sq <| sr <| la rfl <| la rfl <| la rfl <| en ?_
   refine cdh rfl h (fun c1 h => ?_) (fun c1 h => ?_)
   ·refine WT.skip <| sq <| blk <| WT.mix (Kn Φ_5 [] [(b_2, .cells #[.string x1.1, u1] 29 (0, 0)), (b_1, .cells #[.string (⟨#[]⟩ : ByteArray), .slice none 0 0] 29 (0, 0))]) (fun i => match i with | 7 => false | _ => true) mixed (fun _ h => h.drew) <| mq 0 rfl (by kernel_rfl) (kn Kf.nil (ai2 0 1 rfl rfl)) (q_fieldAddr Fld_29_1 rfl) rfl <| mq 1 rfl (by kernel_rfl) (kn Kf.nil (ai2 0 1 rfl rfl)) (q_load1 T1_27 rfl (fun w1 hw => hw.rgO (i := 0) rfl 1 1 [u1] rfl)) rfl ?_
    refine ma 2 rfl (by kernel_rfl) (kn Kf.nil (ai2 0 1 rfl rfl)) rfl ?_
    obtain ⟨x3, hx3, h⟩ := bs h
    refine WM.one 3 (by kernel_rfl) (mc rfl (fun _ v Φx D w1 hq hw => Kn.of Kf.nil (ai2 0 1 rfl rfl) hw) (k_call (js := [1]) (R := [ob u1]) Fun_19 rfl rfl (fun w1 hw ap hl => m_s_l3Small_ok hw.fro N (⟨p0.b, s7, s8⟩ : Tl1Cur) ph0_0 k4 (ap.o pa0_0) ap.nd hl hx3)) rfl (fun v4 Φ_6 F3 q4 => ?_))
    obtain ⟨ap3, fr4, rfl, rfl, e3, h4⟩ := q4
    replace ph0_0 := ph0_0.frame RI.lasts fr4 (ap3.o pa0_0)
    replace k3 := k3.frame RTVal.lasts fr4 (ap3.r (i := 0) rfl) (Dj.nil _)
    have rc2 : RC RTVal 3 Φ_6 ([[]] : List (List Nat)) [.int .i64 x3.1.K, .int .i64 x3.1.N, .string x3.1.S] ([x3.1] : List TVal) := RC.cons (c := [.int .i64 x3.1.K, .int .i64 x3.1.N, .string x3.1.S]) (cells := []) ⟨rfl, rfl⟩ rfl (RC.nil _ _ _)
    refine WM.one 4 (by kernel_rfl) (me rfl (fun _ v Φx D w1 hq hw => Kn.of Kf.nil (ai2 0 1 rfl rfl) hw) (e_lit (vs := [(0, .agg [.int .i64 x3.1.K, .int .i64 x3.1.N, .string x3.1.S].toArray)]) (C := #[.int .i64 x3.1.K, .int .i64 x3.1.N, .string x3.1.S]) RTVal.lasts Sl_27 Zr_51 rfl rfl rfl rfl (fill_made MC_51_1 (fill_cons (C' := [.int .i64 x3.1.K, .int .i64 x3.1.N, .string x3.1.S]) rfl rfl rfl rfl rfl (fill_nil))) rfl rc2 rfl (by simpa using Kw.nil)) rfl (fun v5 Φ_7 D2 q5 => ?_))
    obtain ⟨fr5, h5⟩ := q5
    replace h5 : OSl RTVal 51 3 Φ_7 [] v5 ([x3.1] : List TVal) := by simpa using h5
    replace ph0_0 := ph0_0.frame RI.lasts fr5 (Dj.empty _)
    replace k3 := k3.frame RTVal.lasts fr5 (Dj.empty _) (Dj.empty _)
    replace h4 := fr5 _ _ (by simp) h4
    obtain ⟨x4, hx4, h⟩ := bs h
    refine WM.one 5 (by kernel_rfl) (me rfl (fun _ v Φx D w1 hq hw => Kn.of Kf.nil (ai2 0 1 rfl rfl) hw) (e_appF RTVal.lasts RTVal.one RTVal.flat Sl_27 Ei_51 rfl rfl rfl rfl rfl (js := [2]) (Rr := [ob v5, [pb0]]) rfl k3 h5.rsl hx4) rfl (fun v6 Φ_8 D3 q6 => ?_))
    obtain ⟨⟨ap4, fr6⟩, h6⟩ := q6
    replace ph0_0 := ph0_0.frame RI.lasts fr6 (ap4.o pa0_0)
    replace h4 := fr6 _ _ ((ap4.r (i := 1) rfl) _ (by simp)) h4
    refine mq 6 rfl (by kernel_rfl) (kn Kf.nil (ai2 0 1 rfl rfl)) (q_fieldAddr Fld_29_1 rfl) rfl ?_
    refine WM.one 7 (by kernel_rfl) (ms rfl (fun hc => by cases hc) (s_store (i := 0) (vs := [v6]) (C' := [.string x1.1, v6]) (O' := [(b_2, .cells #[.string x1.1, v6] 29 (0, 0)), (b_1, .cells #[.string (⟨#[]⟩ : ByteArray), .slice none 0 0] 29 (0, 0))]) Sz_27 rfl rfl rfl (one_cells h6.one) rfl rfl ⟨h6.one, trivial⟩ rfl rfl) rfl ?_)
    refine WM.nil (by kernel_rfl) <| ib <| rgn <| la rfl <| la rfl <| la rfl <| en ?_
    exact lback (ih3 (Φ_8, x4, v6, IntKind.i64.wrap (s6 + 1), x3.2.i, x3.2.h) ⟨h, h6, h4, ph0_0⟩) ⟨rfl, rfl, rfl, rfl, rfl, trivial⟩ (fun w1 hw => (hw.sel (js := [0, 1]) rfl).selO (js := [0, 0]) rfl)
   refine xt rfl <| sr <| ld2 Tn_29 0 rfl <| soN 1 Sz_29 rfl ⟨rfl, k3.one, trivial⟩ rfl ?_
   refine en ?_
   refine WT.ret Try.func17 (resOk.one (rv_cell Tn_29 rfl (fun w1 hw => hw.rgO (i := 1) rfl 0 2 [.string x1.1, u1] rfl) rfl)) (fun w1 hw => ?_)
   subst hb0
   cases h
   refine postG_of_St (js := [0, 0]) hw rfl ⟨u1, rfl, rfl, k3, rfl, k4⟩
  refine cdh rfl h (fun c2 h => ?_) (fun c2 h => ?_)
  ·refine rgn <| la rfl ?_
   obtain ⟨x5, hx5, h⟩ := bs h
   refine lc (k_call (js := [0]) (R := []) Fun_25 rfl rfl (fun w1 hw ap hl => m_s_l1Below_ok hw.fro N (⟨p0.b, x2.2.i, x2.2.h⟩ : Tl1Cur) 6 ph0_0 h3 (ap.o pa0_0) ap.nd hl hx5)) rfl (fun v7 Φ_9 F4 q7 => ?_)
   obtain ⟨ap5, fr7, rfl, rfl, e4, h7⟩ := q7
   replace ph0_0 := ph0_0.frame RI.lasts fr7 (ap5.o pa0_0)
   refine la rfl <| en ?_
   exact wto (K (Φ_9, x5.1, x5.2.i, x5.2.h) ⟨h, h7, ph0_0⟩) ⟨rfl, rfl, rfl, rfl, trivial⟩ (fun w1 hw => (hw.sel (js := [0]) rfl).selO (js := [0, 0]) rfl)
  refine WT.skip ?_
  exact wto (K (Φ_3, s1, x2.2.i, x2.2.h) ⟨h, h3, ph0_0⟩) ⟨rfl, rfl, rfl, rfl, trivial⟩ (fun w1 hw => (hw.sel (js := [0]) rfl).selO (js := [0, 0]) rfl)
 refine cdh rfl h (fun c3 h => ?_) (fun c3 h => ?_)
 ·refine rgn <| la rfl <| en ?_
  exact wto (K (2) h) ⟨rfl, rfl, rfl, rfl, trivial⟩ (fun w1 hw => (hw.sel (js := [0]) rfl).selO (js := [0, 0]) rfl)
 refine WT.skip ?_
 exact wto (K (1) h) ⟨rfl, rfl, rfl, rfl, trivial⟩ (fun w1 hw => (hw.sel (js := [0]) rfl).selO (js := [0, 0]) rfl)
theorem m_s_l6Any_ok {Φ : Hp} {w : World} (hΦ : In Φ w) (N : Nat) (p0 : Tl1Cur) {pv0_0 : Value} {pG0_0 : List Nat} {pb0 : Nat} (ph0_0 : RSl (RI .u8) 1 Φ pG0_0 pv0_0 p0.b) (pp0 : Φ pb0 = some (.cells #[pv0_0, .int .i64 p0.i, .int .i64 p0.h] 67 (0, 0))) (pd0_0 : Dj pG0_0 [[pb0]].flatten) (hB : [[pb0]].flatten.Nodup) (hlt : ∀ k ∈ [[pb0]].flatten, k < w.heap.size) {r : TPat × Tl1Cur} (h : m_s_l6Any N p0 = some r) :
  Calls Try.prog 20 [.pointer (some ⟨pb0, 0, none⟩)].toArray w (PostG Φ w [[pb0]].flatten (fun Φ' Fs v => ∃ (sr_0_0 : Value), v = .agg [.string r.1.Kind, sr_0_0, .bool r.1.Not].toArray ∧ Fs = [ob sr_0_0, [pb0]] ∧ OSl RTArg 54 5 Φ' [] sr_0_0 r.1.Args ∧ r.2.b = p0.b ∧ Φ' pb0 = some (.cells #[pv0_0, .int .i64 r.2.i, .int .i64 r.2.h] 67 (0, 0)))) := by
 refine enter Try.func20 rfl Try.ntmps20 rfl (St.start hΦ [[pb0]] hB hlt) ?_
 have pa0_0 := Old.mk hΦ ph0_0.kn pd0_0
 revert pa0_0
 generalize hb0 : (⟨w, [[pb0]].flatten, Φ⟩ : Base) = w0
 intro pa0_0
 unfold m_s_l6Any at h
 refine sr ?_
 refine ln (nz Zr_26) rfl (fun b_1 => ?_)
 refine en <| sr <| la rfl <| la rfl ?_
 obtain ⟨x1, hx1, h⟩ := bs h
 refine lc (k_call (js := [0]) (R := []) Fun_18 rfl rfl (fun w1 hw ap hl => m_s_l1Once_ok hw.fro N p0 3 ph0_0 pp0 (ap.o pa0_0) ap.nd hl hx1)) rfl (fun v1 Φ_1 F1 q1 => ?_)
 obtain ⟨ap1, fr1, rfl, rfl, e1, h1⟩ := q1
 replace ph0_0 := ph0_0.frame RI.lasts fr1 (ap1.o pa0_0)
 obtain ⟨x2, hx2, h⟩ := bs h
 refine lc (k_call (js := [0]) (R := []) Fun_16 rfl rfl (fun w1 hw ap hl => m_s_l6Draw_ok hw.fro N (⟨p0.b, x1.2.i, x1.2.h⟩ : Tl1Cur) x1.1 ph0_0 h1 (ap.o pa0_0) ap.nd hl hx2)) rfl (fun v2 Φ_2 F2 q2 => ?_)
 obtain ⟨ap2, fr2, v3, rfl, rfl, h2, e2, h3⟩ := q2
 replace ph0_0 := ph0_0.frame RI.lasts fr2 (ap2.o pa0_0)
 refine ln (nz Zr_26) rfl (fun b_2 => ?_)
 refine soN 0 Sz_26 rfl ⟨rfl, h2.one, rfl, trivial⟩ rfl ?_
 refine en <| sq <| sr <| la rfl ?_
 obtain ⟨x3, hx3, h⟩ := bs h
 refine lc (k_call (js := [1]) (R := [ob v3]) Fun_25 rfl rfl (fun w1 hw ap hl => m_s_l1Below_ok hw.fro N (⟨p0.b, x2.2.i, x2.2.h⟩ : Tl1Cur) 10 ph0_0 h3 (ap.o pa0_0) ap.nd hl hx3)) rfl (fun v4 Φ_3 F3 q3 => ?_)
 obtain ⟨ap3, fr3, rfl, rfl, e3, h4⟩ := q3
 replace ph0_0 := ph0_0.frame RI.lasts fr3 (ap3.o pa0_0)
 replace h2 := h2.frame RTArg.lasts fr3 (ap3.r (i := 0) rfl) (Dj.nil _)
 refine en <| blk <| sr <| la rfl <| la rfl <| en ?_
 refine cut (σ := Hp × (List TArg) × Value × Int × Int × ByteArray) (fun s => [(2, .pointer (some ⟨b_1, 0, none⟩)), (3, .pointer (some ⟨b_2, 0, none⟩))]) (fun s => St w0 s.1 [(b_2, .cells #[.string s.2.2.2.2.2, s.2.2.1, .bool x2.1.Not] 26 (0, 0)), (b_1, .cells #[.string (⟨#[]⟩ : ByteArray), .slice none 0 0, .bool false] 26 (0, 0))] [[pb0], ob s.2.2.1]) (fun s => m_s_l6Any_j1 N p0 x2 s.2.1 s.2.2.2.1 s.2.2.2.2.1 s.2.2.2.2.2 = some r ∧ (OSl RTArg 54 5 s.1 [] s.2.2.1 s.2.1) ∧ (s.1 pb0 = some (.cells #[pv0_0, .int .i64 s.2.2.2.1, .int .i64 s.2.2.2.2.1] 67 (0, 0))) ∧ (RSl (RI .u8) 1 s.1 pG0_0 pv0_0 p0.b)) (fun s hm => ?_) (fun K => ?_)
 ·clear h
  obtain ⟨Φ_4, s1, u1, s2, s3, s4⟩ := s
  obtain ⟨h, k1, k2, ph0_0⟩ := hm
  dsimp only at h k1 k2 ph0_0 ⊢
  unfold m_s_l6Any_j1 at h
  refine ib <| sr <| ld3 Tn_26 0 rfl <| soN 1 Sz_26 rfl ⟨rfl, k1.one, rfl, trivial⟩ rfl ?_
  refine en ?_
  refine WT.ret Try.func20 (resOk.one (rv_cell Tn_26 rfl (fun w1 hw => hw.rgO (i := 1) rfl 0 3 [.string s4, u1, .bool x2.1.Not] rfl) rfl)) (fun w1 hw => ?_)
  subst hb0
  cases h
  refine postG_of_St (js := [1, 0]) hw rfl ⟨u1, rfl, rfl, k1, rfl, k2⟩
 refine cdh rfl h (fun c1 h => ?_) (fun c1 h => ?_)
 ·refine rgn <| la rfl ?_
  have rc1 : RC RS 1 Φ_3 ([[], [], []] : List (List Nat)) [.string (⟨#[]⟩ : ByteArray), .string (⟨#[65]⟩ : ByteArray), .string (⟨#[120]⟩ : ByteArray)] ([(⟨#[]⟩ : ByteArray), (⟨#[65]⟩ : ByteArray), (⟨#[120]⟩ : ByteArray)] : List ByteArray) := RC.cons (c := [.string (⟨#[]⟩ : ByteArray)]) (cells := [.string (⟨#[65]⟩ : ByteArray), .string (⟨#[120]⟩ : ByteArray)]) ⟨rfl, rfl⟩ rfl (RC.cons (c := [.string (⟨#[65]⟩ : ByteArray)]) (cells := [.string (⟨#[120]⟩ : ByteArray)]) ⟨rfl, rfl⟩ rfl (RC.cons (c := [.string (⟨#[120]⟩ : ByteArray)]) (cells := []) ⟨rfl, rfl⟩ rfl (RC.nil _ _ _)))
  refine le' (e_lit (vs := [(0, .string (⟨#[]⟩ : ByteArray)), (1, .string (⟨#[65]⟩ : ByteArray)), (2, .string (⟨#[120]⟩ : ByteArray))]) (C := #[.string (⟨#[]⟩ : ByteArray), .string (⟨#[65]⟩ : ByteArray), .string (⟨#[120]⟩ : ByteArray)]) RS.lasts Sl_69 Zr_9 rfl rfl rfl rfl (fill_made MC_9_3 (fill_cons (C' := [.string (⟨#[]⟩ : ByteArray), .string ⟨#[]⟩, .string ⟨#[]⟩]) rfl rfl rfl rfl rfl (fill_cons (C' := [.string (⟨#[]⟩ : ByteArray), .string (⟨#[65]⟩ : ByteArray), .string ⟨#[]⟩]) rfl rfl rfl rfl rfl (fill_cons (C' := [.string (⟨#[]⟩ : ByteArray), .string (⟨#[65]⟩ : ByteArray), .string (⟨#[120]⟩ : ByteArray)]) rfl rfl rfl rfl rfl (fill_nil))))) rfl rc1 rfl (by simpa using Kw.nil)) rfl (fun v5 Φ_5 D1 q4 => ?_)
  obtain ⟨fr4, h5⟩ := q4
  replace h5 : OSl RS 9 1 Φ_5 [] v5 ([(⟨#[]⟩ : ByteArray), (⟨#[65]⟩ : ByteArray), (⟨#[120]⟩ : ByteArray)] : List ByteArray) := by simpa using h5
  replace ph0_0 := ph0_0.frame RI.lasts fr4 (Dj.empty _)
  replace h2 := h2.frame RTArg.lasts fr4 (Dj.empty _) (Dj.empty _)
  replace h4 := fr4 _ _ (by simp) h4
  obtain ⟨x4, hx4, h⟩ := bs h
  refine lc (k_call (js := [1]) (R := [ob v5, ob v3]) Fun_32 rfl rfl (fun w1 hw ap hl => m_s_l1Str_ok hw.fro N (⟨p0.b, x3.2.i, x3.2.h⟩ : Tl1Cur) ([(⟨#[]⟩ : ByteArray), (⟨#[65]⟩ : ByteArray), (⟨#[120]⟩ : ByteArray)] : List ByteArray) ph0_0 h4 h5.rsl (ap.o pa0_0) (Dj.app (ap.r (i := 0) rfl) (Dj.nil _)) ap.nd hl hx4)) rfl (fun v6 Φ_6 F4 q5 => ?_)
  obtain ⟨ap4, fr5, rfl, rfl, e4, h6⟩ := q5
  replace ph0_0 := ph0_0.frame RI.lasts fr5 (ap4.o pa0_0)
  replace h2 := h2.frame RTArg.lasts fr5 (ap4.r (i := 1) rfl) (Dj.nil _)
  refine lf Fld_26_0 rfl rfl rfl <| so1 0 Sz_9 rfl rfl ?_
  refine en ?_
  exact wto (K (Φ_6, x2.1.Args, v3, x4.2.i, x4.2.h, x4.1) ⟨h, h2, h6, ph0_0⟩) ⟨rfl, rfl, trivial⟩ (fun w1 hw => (hw.sel (js := [0, 1]) rfl).selO (js := [0, 0]) rfl)
 refine sr <| la rfl <| la rfl <| en ?_
 refine cdh rfl h (fun c2 h => ?_) (fun c2 h => ?_)
 ·refine cut (σ := Hp × (List TArg) × Value × Int × Int) (fun s => [(2, .pointer (some ⟨b_1, 0, none⟩)), (3, .pointer (some ⟨b_2, 0, none⟩))]) (fun s => St w0 s.1 [(b_2, .cells #[.string x2.1.Kind, s.2.2.1, .bool x2.1.Not] 26 (0, 0)), (b_1, .cells #[.string (⟨#[]⟩ : ByteArray), .slice none 0 0, .bool false] 26 (0, 0))] [ob s.2.2.1, [pb0]]) (fun s => m_s_l6Any_j2 N p0 x2 s.2.1 s.2.2.2.1 s.2.2.2.2 = some r ∧ (OSl RTArg 54 5 s.1 [] s.2.2.1 s.2.1) ∧ (s.1 pb0 = some (.cells #[pv0_0, .int .i64 s.2.2.2.1, .int .i64 s.2.2.2.2] 67 (0, 0))) ∧ (RSl (RI .u8) 1 s.1 pG0_0 pv0_0 p0.b)) (fun s hm => ?_) (fun K => ?_)
  ·clear h
   obtain ⟨Φ_12, s5, u2, s6, s7⟩ := s
   obtain ⟨h, k3, k4, ph0_0⟩ := hm
   dsimp only at h k3 k4 ph0_0 ⊢
   unfold m_s_l6Any_j2 at h
   exact wto (K (Φ_12, s5, u2, s6, s7, x2.1.Kind) ⟨h, k3, k4, ph0_0⟩) ⟨rfl, rfl, trivial⟩ (fun w1 hw => (hw.sel (js := [1, 0]) rfl).selO (js := [0, 0]) rfl)
  refine WT.mix (Kn Φ_3 [] [(b_2, .cells #[.string x2.1.Kind, v3, .bool x2.1.Not] 26 (0, 0)), (b_1, .cells #[.string (⟨#[]⟩ : ByteArray), .slice none 0 0, .bool false] 26 (0, 0))]) (fun i => match i with | 11 => false | _ => true) mixed (fun _ h => h.drew) <| mq 0 rfl (by kernel_rfl) (kn Kf.nil (ai2 0 1 rfl rfl)) (q_fieldAddr Fld_26_1 rfl) rfl <| mq 1 rfl (by kernel_rfl) (kn Kf.nil (ai2 0 1 rfl rfl)) (q_load1 T1_24 rfl (fun w1 hw => hw.rgO (i := 0) rfl 1 1 [v3] rfl)) rfl ?_
  refine ma 2 rfl (by kernel_rfl) (kn Kf.nil (ai2 0 1 rfl rfl)) rfl <| ma 4 rfl (by kernel_rfl) (kn Kf.nil (ai2 0 1 rfl rfl)) rfl ?_
  refine WM.two 3 5 (by kernel_rfl) ?_ ?_
  ·obtain ⟨x8, hx8, h⟩ := bs h
   refine mc rfl (fun _ v Φx D w1 hq hw => Kn.of Kf.nil (ai2 0 1 rfl rfl) hw) (k_call (js := [0]) (R := [ob v3]) Fun_25 rfl rfl (fun w1 hw ap hl => m_s_l1Below_ok hw.fro N (⟨p0.b, x3.2.i, x3.2.h⟩ : Tl1Cur) 5 ph0_0 h4 (ap.o pa0_0) ap.nd hl hx8)) rfl (fun v12 Φ_13 F7 q11 => ?_)
   obtain ⟨ap8, fr11, rfl, rfl, e7, h12⟩ := q11
   replace ph0_0 := ph0_0.frame RI.lasts fr11 (ap8.o pa0_0)
   replace h2 := h2.frame RTArg.lasts fr11 (ap8.r (i := 0) rfl) (Dj.nil _)
   have rc4 : RC RS 1 Φ_13 ([[], [], []] : List (List Nat)) [.string (⟨#[]⟩ : ByteArray), .string (⟨#[120]⟩ : ByteArray), .string (⟨#[88]⟩ : ByteArray)] ([(⟨#[]⟩ : ByteArray), (⟨#[120]⟩ : ByteArray), (⟨#[88]⟩ : ByteArray)] : List ByteArray) := RC.cons (c := [.string (⟨#[]⟩ : ByteArray)]) (cells := [.string (⟨#[120]⟩ : ByteArray), .string (⟨#[88]⟩ : ByteArray)]) ⟨rfl, rfl⟩ rfl (RC.cons (c := [.string (⟨#[120]⟩ : ByteArray)]) (cells := [.string (⟨#[88]⟩ : ByteArray)]) ⟨rfl, rfl⟩ rfl (RC.cons (c := [.string (⟨#[88]⟩ : ByteArray)]) (cells := []) ⟨rfl, rfl⟩ rfl (RC.nil _ _ _)))
   refine WM.one 5 (by kernel_rfl) (me rfl (fun _ v Φx D w1 hq hw => Kn.of Kf.nil (ai2 0 1 rfl rfl) hw) (e_lit (vs := [(0, .string (⟨#[]⟩ : ByteArray)), (1, .string (⟨#[120]⟩ : ByteArray)), (2, .string (⟨#[88]⟩ : ByteArray))]) (C := #[.string (⟨#[]⟩ : ByteArray), .string (⟨#[120]⟩ : ByteArray), .string (⟨#[88]⟩ : ByteArray)]) RS.lasts Sl_69 Zr_9 rfl rfl rfl rfl (fill_made MC_9_3 (fill_cons (C' := [.string (⟨#[]⟩ : ByteArray), .string ⟨#[]⟩, .string ⟨#[]⟩]) rfl rfl rfl rfl rfl (fill_cons (C' := [.string (⟨#[]⟩ : ByteArray), .string (⟨#[120]⟩ : ByteArray), .string ⟨#[]⟩]) rfl rfl rfl rfl rfl (fill_cons (C' := [.string (⟨#[]⟩ : ByteArray), .string (⟨#[120]⟩ : ByteArray), .string (⟨#[88]⟩ : ByteArray)]) rfl rfl rfl rfl rfl (fill_nil))))) rfl rc4 rfl (by simpa using Kw.nil)) rfl (fun v13 Φ_14 D5 q12 => ?_))
   obtain ⟨fr12, h13⟩ := q12
   replace h13 : OSl RS 9 1 Φ_14 [] v13 ([(⟨#[]⟩ : ByteArray), (⟨#[120]⟩ : ByteArray), (⟨#[88]⟩ : ByteArray)] : List ByteArray) := by simpa using h13
   replace ph0_0 := ph0_0.frame RI.lasts fr12 (Dj.empty _)
   replace h2 := h2.frame RTArg.lasts fr12 (Dj.empty _) (Dj.empty _)
   replace h12 := fr12 _ _ (by simp) h12
   obtain ⟨x9, hx9, h⟩ := bs h
   refine WM.one 6 (by kernel_rfl) (mc rfl (fun _ v Φx D w1 hq hw => Kn.of Kf.nil (ai2 0 1 rfl rfl) hw) (k_call (js := [1]) (R := [ob v13, ob v3]) Fun_32 rfl rfl (fun w1 hw ap hl => m_s_l1Str_ok hw.fro N (⟨p0.b, x8.2.i, x8.2.h⟩ : Tl1Cur) ([(⟨#[]⟩ : ByteArray), (⟨#[120]⟩ : ByteArray), (⟨#[88]⟩ : ByteArray)] : List ByteArray) ph0_0 h12 h13.rsl (ap.o pa0_0) (Dj.app (ap.r (i := 0) rfl) (Dj.nil _)) ap.nd hl hx9)) rfl (fun v14 Φ_15 F8 q13 => ?_))
   obtain ⟨ap9, fr13, rfl, rfl, e8, h14⟩ := q13
   replace ph0_0 := ph0_0.frame RI.lasts fr13 (ap9.o pa0_0)
   replace h2 := h2.frame RTArg.lasts fr13 (ap9.r (i := 1) rfl) (Dj.nil _)
   refine mq 7 rfl (by kernel_rfl) (kn Kf.nil (ai2 0 1 rfl rfl)) (q_build (vs := [(0, .int .i64 x8.1), (1, .string x9.1)]) (C := #[.int .i64 x8.1, .string x9.1, .int .i64 0, .int .i64 0, .string (⟨#[]⟩ : ByteArray)]) Pl_54 Zr_54 rfl (fill_cons (C' := [.int .i64 x8.1, .string ⟨#[]⟩, .int .i64 0, .int .i64 0, .string ⟨#[]⟩]) rfl rfl rfl rfl rfl (fill_cons (C' := [.int .i64 x8.1, .string x9.1, .int .i64 0, .int .i64 0, .string ⟨#[]⟩]) rfl rfl rfl rfl rfl (fill_nil)))) rfl ?_
   have rc5 : RC RTArg 5 Φ_15 ([[]] : List (List Nat)) [.int .i64 x8.1, .string x9.1, .int .i64 0, .int .i64 0, .string (⟨#[]⟩ : ByteArray)] ([(⟨x8.1, x9.1, (⟨0, 0, (⟨#[]⟩ : ByteArray)⟩ : TVal)⟩ : TArg)] : List TArg) := RC.cons (c := [.int .i64 x8.1, .string x9.1, .int .i64 0, .int .i64 0, .string (⟨#[]⟩ : ByteArray)]) (cells := []) ⟨rfl, rfl⟩ rfl (RC.nil _ _ _)
   refine WM.one 8 (by kernel_rfl) (me rfl (fun _ v Φx D w1 hq hw => Kn.of Kf.nil (ai2 0 1 rfl rfl) hw) (e_lit (vs := [(0, .agg [.int .i64 x8.1, .string x9.1, .int .i64 0, .int .i64 0, .string (⟨#[]⟩ : ByteArray)].toArray)]) (C := #[.int .i64 x8.1, .string x9.1, .int .i64 0, .int .i64 0, .string (⟨#[]⟩ : ByteArray)]) RTArg.lasts Sl_24 Zr_54 rfl rfl rfl rfl (fill_made MC_54_1 (fill_cons (C' := [.int .i64 x8.1, .string x9.1, .int .i64 0, .int .i64 0, .string (⟨#[]⟩ : ByteArray)]) rfl rfl rfl rfl rfl (fill_nil))) rfl rc5 rfl (by simpa using Kw.nil)) rfl (fun v15 Φ_16 D6 q14 => ?_))
   obtain ⟨fr14, h15⟩ := q14
   replace h15 : OSl RTArg 54 5 Φ_16 [] v15 ([(⟨x8.1, x9.1, (⟨0, 0, (⟨#[]⟩ : ByteArray)⟩ : TVal)⟩ : TArg)] : List TArg) := by simpa using h15
   replace ph0_0 := ph0_0.frame RI.lasts fr14 (Dj.empty _)
   replace h2 := h2.frame RTArg.lasts fr14 (Dj.empty _) (Dj.empty _)
   replace h14 := fr14 _ _ (by simp) h14
   obtain ⟨x10, hx10, h⟩ := bs h
   refine WM.one 9 (by kernel_rfl) (me rfl (fun _ v Φx D w1 hq hw => Kn.of Kf.nil (ai2 0 1 rfl rfl) hw) (e_appF RTArg.lasts RTArg.one RTArg.flat Sl_24 Ei_54 rfl rfl rfl rfl rfl (js := [3]) (Rr := [ob v15, [pb0], ob v13]) rfl h2 h15.rsl hx10) rfl (fun v16 Φ_17 D7 q15 => ?_))
   obtain ⟨⟨ap10, fr15⟩, h16⟩ := q15
   replace ph0_0 := ph0_0.frame RI.lasts fr15 (ap10.o pa0_0)
   replace h14 := fr15 _ _ ((ap10.r (i := 1) rfl) _ (by simp)) h14
   refine mq 10 rfl (by kernel_rfl) (kn Kf.nil (ai2 0 1 rfl rfl)) (q_fieldAddr Fld_26_1 rfl) rfl ?_
   refine WM.one 11 (by kernel_rfl) (ms rfl (fun hc => by cases hc) (s_store (i := 0) (vs := [v16]) (C' := [.string x2.1.Kind, v16, .bool x2.1.Not]) (O' := [(b_2, .cells #[.string x2.1.Kind, v16, .bool x2.1.Not] 26 (0, 0)), (b_1, .cells #[.string (⟨#[]⟩ : ByteArray), .slice none 0 0, .bool false] 26 (0, 0))]) Sz_24 rfl rfl rfl (one_cells h16.one) rfl rfl ⟨h16.one, trivial⟩ rfl rfl) rfl ?_)
   refine WM.nil (by kernel_rfl) ?_
   exact wto (K (Φ_17, x10, v16, x9.2.i, x9.2.h) ⟨h, h16, h14, ph0_0⟩) ⟨rfl, rfl, trivial⟩ (fun w1 hw => (hw.sel (js := [0, 1]) rfl).selO (js := [0, 0]) rfl)
  have rc6 : RC RS 1 Φ_3 ([[], [], []] : List (List Nat)) [.string (⟨#[]⟩ : ByteArray), .string (⟨#[120]⟩ : ByteArray), .string (⟨#[88]⟩ : ByteArray)] ([(⟨#[]⟩ : ByteArray), (⟨#[120]⟩ : ByteArray), (⟨#[88]⟩ : ByteArray)] : List ByteArray) := RC.cons (c := [.string (⟨#[]⟩ : ByteArray)]) (cells := [.string (⟨#[120]⟩ : ByteArray), .string (⟨#[88]⟩ : ByteArray)]) ⟨rfl, rfl⟩ rfl (RC.cons (c := [.string (⟨#[120]⟩ : ByteArray)]) (cells := [.string (⟨#[88]⟩ : ByteArray)]) ⟨rfl, rfl⟩ rfl (RC.cons (c := [.string (⟨#[88]⟩ : ByteArray)]) (cells := []) ⟨rfl, rfl⟩ rfl (RC.nil _ _ _)))
  refine me rfl (fun _ v Φx D w1 hq hw => Kn.of Kf.nil (ai2 0 1 rfl rfl) hw) (e_lit (vs := [(0, .string (⟨#[]⟩ : ByteArray)), (1, .string (⟨#[120]⟩ : ByteArray)), (2, .string (⟨#[88]⟩ : ByteArray))]) (C := #[.string (⟨#[]⟩ : ByteArray), .string (⟨#[120]⟩ : ByteArray), .string (⟨#[88]⟩ : ByteArray)]) RS.lasts Sl_69 Zr_9 rfl rfl rfl rfl (fill_made MC_9_3 (fill_cons (C' := [.string (⟨#[]⟩ : ByteArray), .string ⟨#[]⟩, .string ⟨#[]⟩]) rfl rfl rfl rfl rfl (fill_cons (C' := [.string (⟨#[]⟩ : ByteArray), .string (⟨#[120]⟩ : ByteArray), .string ⟨#[]⟩]) rfl rfl rfl rfl rfl (fill_cons (C' := [.string (⟨#[]⟩ : ByteArray), .string (⟨#[120]⟩ : ByteArray), .string (⟨#[88]⟩ : ByteArray)]) rfl rfl rfl rfl rfl (fill_nil))))) rfl rc6 rfl (by simpa using Kw.nil)) rfl (fun v17 Φ_18 D8 q16 => ?_)
  obtain ⟨fr16, h17⟩ := q16
  replace h17 : OSl RS 9 1 Φ_18 [] v17 ([(⟨#[]⟩ : ByteArray), (⟨#[120]⟩ : ByteArray), (⟨#[88]⟩ : ByteArray)] : List ByteArray) := by simpa using h17
  replace ph0_0 := ph0_0.frame RI.lasts fr16 (Dj.empty _)
  replace h2 := h2.frame RTArg.lasts fr16 (Dj.empty _) (Dj.empty _)
  replace h4 := fr16 _ _ (by simp) h4
  obtain ⟨x11, hx11, h⟩ := bs h
  refine WM.one 3 (by kernel_rfl) (mc rfl (fun _ v Φx D w1 hq hw => Kn.of Kf.nil (ai2 0 1 rfl rfl) hw) (k_call (js := [1]) (R := [ob v17, ob v3]) Fun_25 rfl rfl (fun w1 hw ap hl => m_s_l1Below_ok hw.fro N (⟨p0.b, x3.2.i, x3.2.h⟩ : Tl1Cur) 5 ph0_0 h4 (ap.o pa0_0) ap.nd hl hx11)) rfl (fun v18 Φ_19 F9 q17 => ?_))
  obtain ⟨ap11, fr17, rfl, rfl, e9, h18⟩ := q17
  replace ph0_0 := ph0_0.frame RI.lasts fr17 (ap11.o pa0_0)
  replace h2 := h2.frame RTArg.lasts fr17 (ap11.r (i := 1) rfl) (Dj.nil _)
  replace h17 := h17.frame RS.lasts fr17 (ap11.r (i := 0) rfl) (Dj.nil _)
  obtain ⟨x12, hx12, h⟩ := bs h
  refine WM.one 6 (by kernel_rfl) (mc rfl (fun _ v Φx D w1 hq hw => Kn.of Kf.nil (ai2 0 1 rfl rfl) hw) (k_call (js := [0]) (R := [ob v17, ob v3]) Fun_32 rfl rfl (fun w1 hw ap hl => m_s_l1Str_ok hw.fro N (⟨p0.b, x11.2.i, x11.2.h⟩ : Tl1Cur) ([(⟨#[]⟩ : ByteArray), (⟨#[120]⟩ : ByteArray), (⟨#[88]⟩ : ByteArray)] : List ByteArray) ph0_0 h18 h17.rsl (ap.o pa0_0) (Dj.app (ap.r (i := 0) rfl) (Dj.nil _)) ap.nd hl hx12)) rfl (fun v19 Φ_20 F10 q18 => ?_))
  obtain ⟨ap12, fr18, rfl, rfl, e10, h19⟩ := q18
  replace ph0_0 := ph0_0.frame RI.lasts fr18 (ap12.o pa0_0)
  replace h2 := h2.frame RTArg.lasts fr18 (ap12.r (i := 1) rfl) (Dj.nil _)
  refine mq 7 rfl (by kernel_rfl) (kn Kf.nil (ai2 0 1 rfl rfl)) (q_build (vs := [(0, .int .i64 x11.1), (1, .string x12.1)]) (C := #[.int .i64 x11.1, .string x12.1, .int .i64 0, .int .i64 0, .string (⟨#[]⟩ : ByteArray)]) Pl_54 Zr_54 rfl (fill_cons (C' := [.int .i64 x11.1, .string ⟨#[]⟩, .int .i64 0, .int .i64 0, .string ⟨#[]⟩]) rfl rfl rfl rfl rfl (fill_cons (C' := [.int .i64 x11.1, .string x12.1, .int .i64 0, .int .i64 0, .string ⟨#[]⟩]) rfl rfl rfl rfl rfl (fill_nil)))) rfl ?_
  have rc7 : RC RTArg 5 Φ_20 ([[]] : List (List Nat)) [.int .i64 x11.1, .string x12.1, .int .i64 0, .int .i64 0, .string (⟨#[]⟩ : ByteArray)] ([(⟨x11.1, x12.1, (⟨0, 0, (⟨#[]⟩ : ByteArray)⟩ : TVal)⟩ : TArg)] : List TArg) := RC.cons (c := [.int .i64 x11.1, .string x12.1, .int .i64 0, .int .i64 0, .string (⟨#[]⟩ : ByteArray)]) (cells := []) ⟨rfl, rfl⟩ rfl (RC.nil _ _ _)
  refine WM.one 8 (by kernel_rfl) (me rfl (fun _ v Φx D w1 hq hw => Kn.of Kf.nil (ai2 0 1 rfl rfl) hw) (e_lit (vs := [(0, .agg [.int .i64 x11.1, .string x12.1, .int .i64 0, .int .i64 0, .string (⟨#[]⟩ : ByteArray)].toArray)]) (C := #[.int .i64 x11.1, .string x12.1, .int .i64 0, .int .i64 0, .string (⟨#[]⟩ : ByteArray)]) RTArg.lasts Sl_24 Zr_54 rfl rfl rfl rfl (fill_made MC_54_1 (fill_cons (C' := [.int .i64 x11.1, .string x12.1, .int .i64 0, .int .i64 0, .string (⟨#[]⟩ : ByteArray)]) rfl rfl rfl rfl rfl (fill_nil))) rfl rc7 rfl (by simpa using Kw.nil)) rfl (fun v20 Φ_21 D9 q19 => ?_))
  obtain ⟨fr19, h20⟩ := q19
  replace h20 : OSl RTArg 54 5 Φ_21 [] v20 ([(⟨x11.1, x12.1, (⟨0, 0, (⟨#[]⟩ : ByteArray)⟩ : TVal)⟩ : TArg)] : List TArg) := by simpa using h20
  replace ph0_0 := ph0_0.frame RI.lasts fr19 (Dj.empty _)
  replace h2 := h2.frame RTArg.lasts fr19 (Dj.empty _) (Dj.empty _)
  replace h19 := fr19 _ _ (by simp) h19
  obtain ⟨x13, hx13, h⟩ := bs h
  refine WM.one 9 (by kernel_rfl) (me rfl (fun _ v Φx D w1 hq hw => Kn.of Kf.nil (ai2 0 1 rfl rfl) hw) (e_appF RTArg.lasts RTArg.one RTArg.flat Sl_24 Ei_54 rfl rfl rfl rfl rfl (js := [3]) (Rr := [ob v20, [pb0], ob v17]) rfl h2 h20.rsl hx13) rfl (fun v21 Φ_22 D10 q20 => ?_))
  obtain ⟨⟨ap13, fr20⟩, h21⟩ := q20
  replace ph0_0 := ph0_0.frame RI.lasts fr20 (ap13.o pa0_0)
  replace h19 := fr20 _ _ ((ap13.r (i := 1) rfl) _ (by simp)) h19
  refine mq 10 rfl (by kernel_rfl) (kn Kf.nil (ai2 0 1 rfl rfl)) (q_fieldAddr Fld_26_1 rfl) rfl ?_
  refine WM.one 11 (by kernel_rfl) (ms rfl (fun hc => by cases hc) (s_store (i := 0) (vs := [v21]) (C' := [.string x2.1.Kind, v21, .bool x2.1.Not]) (O' := [(b_2, .cells #[.string x2.1.Kind, v21, .bool x2.1.Not] 26 (0, 0)), (b_1, .cells #[.string (⟨#[]⟩ : ByteArray), .slice none 0 0, .bool false] 26 (0, 0))]) Sz_24 rfl rfl rfl (one_cells h21.one) rfl rfl ⟨h21.one, trivial⟩ rfl rfl) rfl ?_)
  refine WM.nil (by kernel_rfl) ?_
  exact wto (K (Φ_22, x13, v21, x12.2.i, x12.2.h) ⟨h, h21, h19, ph0_0⟩) ⟨rfl, rfl, trivial⟩ (fun w1 hw => (hw.sel (js := [0, 1]) rfl).selO (js := [0, 0]) rfl)
 refine sr <| la rfl <| la rfl <| en ?_
 refine cdh rfl h (fun c3 h => ?_) (fun c3 h => ?_)
 ·refine blk ?_
  refine loop_in (σ := Hp × (List TArg) × Value × Int × Int) (fun s => [(0, .pointer (some ⟨pb0, 0, none⟩)), (2, .pointer (some ⟨b_1, 0, none⟩)), (3, .pointer (some ⟨b_2, 0, none⟩))]) (fun s => St w0 s.1 [(b_2, .cells #[.string x2.1.Kind, s.2.2.1, .bool x2.1.Not] 26 (0, 0)), (b_1, .cells #[.string (⟨#[]⟩ : ByteArray), .slice none 0 0, .bool false] 26 (0, 0))] [[pb0], ob s.2.2.1]) (fun m s => m_s_l6Any_l3 N p0 x2 m s.2.1 s.2.2.2.1 s.2.2.2.2 = some r ∧ (OSl RTArg 54 5 s.1 [] s.2.2.1 s.2.1) ∧ (s.1 pb0 = some (.cells #[pv0_0, .int .i64 s.2.2.2.1, .int .i64 s.2.2.2.2] 67 (0, 0))) ∧ (RSl (RI .u8) 1 s.1 pG0_0 pv0_0 p0.b)) (Φ_3, x2.1.Args, v3, x3.2.i, x3.2.h) N ⟨h, h2, h4, ph0_0⟩ ⟨rfl, rfl, rfl, trivial⟩ (fun w1 hw => (hw.sel (js := [0, 0]) rfl).selO (js := [0, 0]) rfl) (fun s hm => none_ne hm.1) (fun n3 ih3 s hm => ?_)
  obtain ⟨Φ_23, s8, u3, s9, s10⟩ := s
  obtain ⟨h, k5, k6, ph0_0⟩ := hm
  dsimp only at h k5 k6 ph0_0 ⊢
  unfold m_s_l6Any_l3 at h
  refine sq <| sq <| WT.mix (Kn Φ_23 [] [(b_2, .cells #[.string x2.1.Kind, u3, .bool x2.1.Not] 26 (0, 0)), (b_1, .cells #[.string (⟨#[]⟩ : ByteArray), .slice none 0 0, .bool false] 26 (0, 0))]) (fun _ => true) mixed (fun _ h => h.drew) <| mq 0 rfl (by kernel_rfl) (kn Kf.nil (ai2 0 1 rfl rfl)) (q_fieldAddr Fld_26_1 rfl) rfl <| mq 1 rfl (by kernel_rfl) (kn Kf.nil (ai2 0 1 rfl rfl)) (q_load1 T1_24 rfl (fun w1 hw => hw.rgO (i := 0) rfl 1 1 [u3] rfl)) rfl ?_
  refine mq 2 rfl (by kernel_rfl) (kn Kf.nil (ai2 0 1 rfl rfl)) (q_lenR Sl_24 rfl rfl k5.rsl) rfl <| ma 3 rfl (by kernel_rfl) (kn Kf.nil (ai2 0 1 rfl rfl)) rfl ?_
  obtain ⟨x14, hx14, h⟩ := bs h
  refine WM.one 4 (by kernel_rfl) (mc rfl (fun _ v Φx D w1 hq hw => Kn.of Kf.nil (ai2 0 1 rfl rfl) hw) (k_call (js := [0]) (R := [ob u3]) Fun_25 rfl rfl (fun w1 hw ap hl => m_s_l1Below_ok hw.fro N (⟨p0.b, s9, s10⟩ : Tl1Cur) 2 ph0_0 k6 (ap.o pa0_0) ap.nd hl hx14)) rfl (fun v22 Φ_24 F11 q21 => ?_))
  obtain ⟨ap14, fr21, rfl, rfl, e11, h22⟩ := q21
  replace ph0_0 := ph0_0.frame RI.lasts fr21 (ap14.o pa0_0)
  replace k5 := k5.frame RTArg.lasts fr21 (ap14.r (i := 0) rfl) (Dj.nil _)
  refine ma 5 rfl (by kernel_rfl) (kn Kf.nil (ai2 0 1 rfl rfl)) rfl <| ma 6 rfl (by kernel_rfl) (kn Kf.nil (ai2 0 1 rfl rfl)) rfl <| WM.nil (by kernel_rfl) ?_
  refine cdh rfl h (fun c4 h => ?_) (fun c4 h => ?_)
  ·refine WT.skip <| blk <| WT.mix (Kn Φ_24 [] [(b_2, .cells #[.string x2.1.Kind, u3, .bool x2.1.Not] 26 (0, 0)), (b_1, .cells #[.string (⟨#[]⟩ : ByteArray), .slice none 0 0, .bool false] 26 (0, 0))]) (fun i => match i with | 7 => false | _ => true) mixed (fun _ h => h.drew) <| mq 0 rfl (by kernel_rfl) (kn Kf.nil (ai2 0 1 rfl rfl)) (q_fieldAddr Fld_26_1 rfl) rfl <| mq 1 rfl (by kernel_rfl) (kn Kf.nil (ai2 0 1 rfl rfl)) (q_load1 T1_24 rfl (fun w1 hw => hw.rgO (i := 0) rfl 1 1 [u3] rfl)) rfl ?_
   refine ma 2 rfl (by kernel_rfl) (kn Kf.nil (ai2 0 1 rfl rfl)) rfl ?_
   obtain ⟨x15, hx15, h⟩ := bs h
   refine WM.one 3 (by kernel_rfl) (mc rfl (fun _ v Φx D w1 hq hw => Kn.of Kf.nil (ai2 0 1 rfl rfl) hw) (k_call (js := [0]) (R := [ob u3]) Fun_33 rfl rfl (fun w1 hw ap hl => m_s_l6Arg_ok hw.fro N (⟨p0.b, x14.2.i, x14.2.h⟩ : Tl1Cur) ph0_0 h22 (ap.o pa0_0) ap.nd hl hx15)) rfl (fun v23 Φ_25 F12 q22 => ?_))
   obtain ⟨ap15, fr22, rfl, rfl, e12, h23⟩ := q22
   replace ph0_0 := ph0_0.frame RI.lasts fr22 (ap15.o pa0_0)
   replace k5 := k5.frame RTArg.lasts fr22 (ap15.r (i := 0) rfl) (Dj.nil _)
   have rc8 : RC RTArg 5 Φ_25 ([[]] : List (List Nat)) [.int .i64 x15.1.K, .string x15.1.S, .int .i64 x15.1.V.K, .int .i64 x15.1.V.N, .string x15.1.V.S] ([x15.1] : List TArg) := RC.cons (c := [.int .i64 x15.1.K, .string x15.1.S, .int .i64 x15.1.V.K, .int .i64 x15.1.V.N, .string x15.1.V.S]) (cells := []) ⟨rfl, rfl⟩ rfl (RC.nil _ _ _)
   refine WM.one 4 (by kernel_rfl) (me rfl (fun _ v Φx D w1 hq hw => Kn.of Kf.nil (ai2 0 1 rfl rfl) hw) (e_lit (vs := [(0, .agg [.int .i64 x15.1.K, .string x15.1.S, .int .i64 x15.1.V.K, .int .i64 x15.1.V.N, .string x15.1.V.S].toArray)]) (C := #[.int .i64 x15.1.K, .string x15.1.S, .int .i64 x15.1.V.K, .int .i64 x15.1.V.N, .string x15.1.V.S]) RTArg.lasts Sl_24 Zr_54 rfl rfl rfl rfl (fill_made MC_54_1 (fill_cons (C' := [.int .i64 x15.1.K, .string x15.1.S, .int .i64 x15.1.V.K, .int .i64 x15.1.V.N, .string x15.1.V.S]) rfl rfl rfl rfl rfl (fill_nil))) rfl rc8 rfl (by simpa using Kw.nil)) rfl (fun v24 Φ_26 D11 q23 => ?_))
   obtain ⟨fr23, h24⟩ := q23
   replace h24 : OSl RTArg 54 5 Φ_26 [] v24 ([x15.1] : List TArg) := by simpa using h24
   replace ph0_0 := ph0_0.frame RI.lasts fr23 (Dj.empty _)
   replace k5 := k5.frame RTArg.lasts fr23 (Dj.empty _) (Dj.empty _)
   replace h23 := fr23 _ _ (by simp) h23
   obtain ⟨x16, hx16, h⟩ := bs h
   refine WM.one 5 (by kernel_rfl) (me rfl (fun _ v Φx D w1 hq hw => Kn.of Kf.nil (ai2 0 1 rfl rfl) hw) (e_appF RTArg.lasts RTArg.one RTArg.flat Sl_24 Ei_54 rfl rfl rfl rfl rfl (js := [2]) (Rr := [ob v24, [pb0]]) rfl k5 h24.rsl hx16) rfl (fun v25 Φ_27 D12 q24 => ?_))
   obtain ⟨⟨ap16, fr24⟩, h25⟩ := q24
   replace ph0_0 := ph0_0.frame RI.lasts fr24 (ap16.o pa0_0)
   replace h23 := fr24 _ _ ((ap16.r (i := 1) rfl) _ (by simp)) h23
   refine mq 6 rfl (by kernel_rfl) (kn Kf.nil (ai2 0 1 rfl rfl)) (q_fieldAddr Fld_26_1 rfl) rfl ?_
   refine WM.one 7 (by kernel_rfl) (ms rfl (fun hc => by cases hc) (s_store (i := 0) (vs := [v25]) (C' := [.string x2.1.Kind, v25, .bool x2.1.Not]) (O' := [(b_2, .cells #[.string x2.1.Kind, v25, .bool x2.1.Not] 26 (0, 0)), (b_1, .cells #[.string (⟨#[]⟩ : ByteArray), .slice none 0 0, .bool false] 26 (0, 0))]) Sz_24 rfl rfl rfl (one_cells h25.one) rfl rfl ⟨h25.one, trivial⟩ rfl rfl) rfl ?_)
   refine WM.nil (by kernel_rfl) <| ib ?_
   exact lback (ih3 (Φ_27, x16, v25, x15.2.i, x15.2.h) ⟨h, h25, h23, ph0_0⟩) ⟨rfl, rfl, rfl, trivial⟩ (fun w1 hw => (hw.sel (js := [2, 0]) rfl).selO (js := [0, 0]) rfl)
  refine xt rfl ?_
  exact wto (K (Φ_24, s8, u3, x14.2.i, x14.2.h, x2.1.Kind) ⟨h, k5, h22, ph0_0⟩) ⟨rfl, rfl, trivial⟩ (fun w1 hw => (hw.sel (js := [0, 0]) rfl).selO (js := [0, 0]) rfl)
 refine WT.skip ?_
 exact wto (K (Φ_3, x2.1.Args, v3, x3.2.i, x3.2.h, x2.1.Kind) ⟨h, h2, h4, ph0_0⟩) ⟨rfl, rfl, trivial⟩ (fun w1 hw => (hw.sel (js := [0, 0]) rfl).selO (js := [0, 0]) rfl)
theorem m_s_l6Binds_ok {Φ : Hp} {w : World} (hΦ : In Φ w) (N : Nat) (p0 : Tl1Cur) {pv0_0 : Value} {pG0_0 : List Nat} {pb0 : Nat} (ph0_0 : RSl (RI .u8) 1 Φ pG0_0 pv0_0 p0.b) (pp0 : Φ pb0 = some (.cells #[pv0_0, .int .i64 p0.i, .int .i64 p0.h] 67 (0, 0))) (pd0_0 : Dj pG0_0 [[pb0]].flatten) (hB : [[pb0]].flatten.Nodup) (hlt : ∀ k ∈ [[pb0]].flatten, k < w.heap.size) {r : (List TBind) × Tl1Cur} (h : m_s_l6Binds N p0 = some r) :
  Calls Try.prog 21 [.pointer (some ⟨pb0, 0, none⟩)].toArray w (PostG Φ w [[pb0]].flatten (fun Φ' Fs v => ∃ (sr_0_0 : Value), v = sr_0_0 ∧ Fs = [ob sr_0_0, [pb0]] ∧ OSl RTBind 59 4 Φ' [] sr_0_0 r.1 ∧ r.2.b = p0.b ∧ Φ' pb0 = some (.cells #[pv0_0, .int .i64 r.2.i, .int .i64 r.2.h] 67 (0, 0)))) := by
 refine enter Try.func21 rfl Try.ntmps21 rfl (St.start hΦ [[pb0]] hB hlt) ?_
 have pa0_0 := Old.mk hΦ ph0_0.kn pd0_0
 revert pa0_0
 generalize hb0 : (⟨w, [[pb0]].flatten, Φ⟩ : Base) = w0
 intro pa0_0
 unfold m_s_l6Binds at h
 refine sr <| la rfl <| en <| sr ?_
 refine le' (e_lit0 RTBind.lasts Sl_30 Zr_59 rfl rfl) rfl (fun v1 Φ_1 D1 q1 => ?_)
 obtain ⟨fr1, h1⟩ := q1
 replace ph0_0 := ph0_0.frame RI.lasts fr1 (Dj.empty _)
 replace pp0 := fr1 _ _ (by simp) pp0
 refine la rfl <| en <| sq <| sr <| la rfl ?_
 obtain ⟨x1, hx1, h⟩ := bs h
 refine lc (k_call (js := [1]) (R := [ob v1]) Fun_25 rfl rfl (fun w1 hw ap hl => m_s_l1Below_ok hw.fro N p0 3 ph0_0 pp0 (ap.o pa0_0) ap.nd hl hx1)) rfl (fun v2 Φ_2 F1 q2 => ?_)
 obtain ⟨ap1, fr2, rfl, rfl, e1, h2⟩ := q2
 replace ph0_0 := ph0_0.frame RI.lasts fr2 (ap1.o pa0_0)
 replace h1 := h1.frame RTBind.lasts fr2 (ap1.r (i := 0) rfl) (Dj.nil _)
 refine la rfl <| en <| blk ?_
 refine loop_in (σ := Hp × (List TBind) × Value × Int × Int × Int) (fun s => [(0, .pointer (some ⟨pb0, 0, none⟩)), (3, s.2.2.1), (4, .int .i64 s.2.2.2.1)]) (fun s => St w0 s.1 [] [[pb0], ob s.2.2.1]) (fun m s => m_s_l6Binds_l1 N p0 m s.2.1 s.2.2.2.1 s.2.2.2.2.1 s.2.2.2.2.2 = some r ∧ (OSl RTBind 59 4 s.1 [] s.2.2.1 s.2.1) ∧ (s.1 pb0 = some (.cells #[pv0_0, .int .i64 s.2.2.2.2.1, .int .i64 s.2.2.2.2.2] 67 (0, 0))) ∧ (RSl (RI .u8) 1 s.1 pG0_0 pv0_0 p0.b)) (Φ_2, ([] : List TBind), v1, x1.1, x1.2.i, x1.2.h) N ⟨h, h1, h2, ph0_0⟩ ⟨rfl, rfl, rfl, trivial⟩ (fun w1 hw => (hw.sel (js := [0, 0]) rfl).selO (js := []) rfl) (fun s hm => none_ne hm.1) (fun n1 ih1 s hm => ?_)
 obtain ⟨Φ_3, s1, u1, s2, s3, s4⟩ := s
 obtain ⟨h, k1, k2, ph0_0⟩ := hm
 dsimp only at h k1 k2 ph0_0 ⊢
 unfold m_s_l6Binds_l1 at h
 refine sq <| sr <| la rfl <| la rfl <| en ?_
 refine cdh rfl h (fun c1 h => ?_) (fun c1 h => ?_)
 ·refine WT.skip <| sq <| blk <| rgn <| la rfl <| la rfl ?_
  have rc2 : RC RS 1 Φ_3 ([[], [], []] : List (List Nat)) [.string (⟨#[88]⟩ : ByteArray), .string (⟨#[89]⟩ : ByteArray), .string (⟨#[87]⟩ : ByteArray)] ([(⟨#[88]⟩ : ByteArray), (⟨#[89]⟩ : ByteArray), (⟨#[87]⟩ : ByteArray)] : List ByteArray) := RC.cons (c := [.string (⟨#[88]⟩ : ByteArray)]) (cells := [.string (⟨#[89]⟩ : ByteArray), .string (⟨#[87]⟩ : ByteArray)]) ⟨rfl, rfl⟩ rfl (RC.cons (c := [.string (⟨#[89]⟩ : ByteArray)]) (cells := [.string (⟨#[87]⟩ : ByteArray)]) ⟨rfl, rfl⟩ rfl (RC.cons (c := [.string (⟨#[87]⟩ : ByteArray)]) (cells := []) ⟨rfl, rfl⟩ rfl (RC.nil _ _ _)))
  refine le' (e_lit (vs := [(0, .string (⟨#[88]⟩ : ByteArray)), (1, .string (⟨#[89]⟩ : ByteArray)), (2, .string (⟨#[87]⟩ : ByteArray))]) (C := #[.string (⟨#[88]⟩ : ByteArray), .string (⟨#[89]⟩ : ByteArray), .string (⟨#[87]⟩ : ByteArray)]) RS.lasts Sl_69 Zr_9 rfl rfl rfl rfl (fill_made MC_9_3 (fill_cons (C' := [.string (⟨#[88]⟩ : ByteArray), .string ⟨#[]⟩, .string ⟨#[]⟩]) rfl rfl rfl rfl rfl (fill_cons (C' := [.string (⟨#[88]⟩ : ByteArray), .string (⟨#[89]⟩ : ByteArray), .string ⟨#[]⟩]) rfl rfl rfl rfl rfl (fill_cons (C' := [.string (⟨#[88]⟩ : ByteArray), .string (⟨#[89]⟩ : ByteArray), .string (⟨#[87]⟩ : ByteArray)]) rfl rfl rfl rfl rfl (fill_nil))))) rfl rc2 rfl (by simpa using Kw.nil)) rfl (fun v3 Φ_4 D2 q3 => ?_)
  obtain ⟨fr3, h3⟩ := q3
  replace h3 : OSl RS 9 1 Φ_4 [] v3 ([(⟨#[88]⟩ : ByteArray), (⟨#[89]⟩ : ByteArray), (⟨#[87]⟩ : ByteArray)] : List ByteArray) := by simpa using h3
  replace ph0_0 := ph0_0.frame RI.lasts fr3 (Dj.empty _)
  replace k1 := k1.frame RTBind.lasts fr3 (Dj.empty _) (Dj.empty _)
  replace k2 := fr3 _ _ (by simp) k2
  obtain ⟨x2, hx2, h⟩ := bs h
  refine lc (k_call (js := [1]) (R := [ob v3, ob u1]) Fun_32 rfl rfl (fun w1 hw ap hl => m_s_l1Str_ok hw.fro N (⟨p0.b, s3, s4⟩ : Tl1Cur) ([(⟨#[88]⟩ : ByteArray), (⟨#[89]⟩ : ByteArray), (⟨#[87]⟩ : ByteArray)] : List ByteArray) ph0_0 k2 h3.rsl (ap.o pa0_0) (Dj.app (ap.r (i := 0) rfl) (Dj.nil _)) ap.nd hl hx2)) rfl (fun v4 Φ_5 F2 q4 => ?_)
  obtain ⟨ap2, fr4, rfl, rfl, e2, h4⟩ := q4
  replace ph0_0 := ph0_0.frame RI.lasts fr4 (ap2.o pa0_0)
  replace k1 := k1.frame RTBind.lasts fr4 (ap2.r (i := 1) rfl) (Dj.nil _)
  refine la rfl ?_
  obtain ⟨x3, hx3, h⟩ := bs h
  refine lc (k_call (js := [0]) (R := [ob v3, ob u1]) Fun_19 rfl rfl (fun w1 hw ap hl => m_s_l3Small_ok hw.fro N (⟨p0.b, x2.2.i, x2.2.h⟩ : Tl1Cur) ph0_0 h4 (ap.o pa0_0) ap.nd hl hx3)) rfl (fun v5 Φ_6 F3 q5 => ?_)
  obtain ⟨ap3, fr5, rfl, rfl, e3, h5⟩ := q5
  replace ph0_0 := ph0_0.frame RI.lasts fr5 (ap3.o pa0_0)
  replace k1 := k1.frame RTBind.lasts fr5 (ap3.r (i := 1) rfl) (Dj.nil _)
  refine lq (q_build (vs := [(0, .string x2.1), (1, .agg [.int .i64 x3.1.K, .int .i64 x3.1.N, .string x3.1.S].toArray)]) (C := #[.string x2.1, .int .i64 x3.1.K, .int .i64 x3.1.N, .string x3.1.S]) Pl_59 Zr_59 rfl (fill_cons (C' := [.string x2.1, .int .i64 0, .int .i64 0, .string ⟨#[]⟩]) rfl rfl rfl rfl rfl (fill_cons (C' := [.string x2.1, .int .i64 x3.1.K, .int .i64 x3.1.N, .string x3.1.S]) rfl rfl rfl rfl rfl (fill_nil)))) rfl ?_
  have rc3 : RC RTBind 4 Φ_6 ([[]] : List (List Nat)) [.string x2.1, .int .i64 x3.1.K, .int .i64 x3.1.N, .string x3.1.S] ([(⟨x2.1, x3.1⟩ : TBind)] : List TBind) := RC.cons (c := [.string x2.1, .int .i64 x3.1.K, .int .i64 x3.1.N, .string x3.1.S]) (cells := []) ⟨rfl, rfl⟩ rfl (RC.nil _ _ _)
  refine le' (e_lit (vs := [(0, .agg [.string x2.1, .int .i64 x3.1.K, .int .i64 x3.1.N, .string x3.1.S].toArray)]) (C := #[.string x2.1, .int .i64 x3.1.K, .int .i64 x3.1.N, .string x3.1.S]) RTBind.lasts Sl_30 Zr_59 rfl rfl rfl rfl (fill_made MC_59_1 (fill_cons (C' := [.string x2.1, .int .i64 x3.1.K, .int .i64 x3.1.N, .string x3.1.S]) rfl rfl rfl rfl rfl (fill_nil))) rfl rc3 rfl (by simpa using Kw.nil)) rfl (fun v6 Φ_7 D3 q6 => ?_)
  obtain ⟨fr6, h6⟩ := q6
  replace h6 : OSl RTBind 59 4 Φ_7 [] v6 ([(⟨x2.1, x3.1⟩ : TBind)] : List TBind) := by simpa using h6
  replace ph0_0 := ph0_0.frame RI.lasts fr6 (Dj.empty _)
  replace k1 := k1.frame RTBind.lasts fr6 (Dj.empty _) (Dj.empty _)
  replace h5 := fr6 _ _ (by simp) h5
  obtain ⟨x4, hx4, h⟩ := bs h
  refine le' (e_appF RTBind.lasts RTBind.one RTBind.flat Sl_30 Ei_59 rfl rfl rfl rfl rfl (js := [3]) (Rr := [ob v6, [pb0], ob v3]) rfl k1 h6.rsl hx4) rfl (fun v7 Φ_8 D4 q7 => ?_)
  obtain ⟨⟨ap4, fr7⟩, h7⟩ := q7
  replace ph0_0 := ph0_0.frame RI.lasts fr7 (ap4.o pa0_0)
  replace h5 := fr7 _ _ ((ap4.r (i := 1) rfl) _ (by simp)) h5
  refine la rfl <| en <| ib <| rgn <| la rfl <| la rfl <| la rfl <| en ?_
  exact lback (ih1 (Φ_8, x4, v7, IntKind.i64.wrap (s2 - 1), x3.2.i, x3.2.h) ⟨h, h7, h5, ph0_0⟩) ⟨rfl, rfl, rfl, trivial⟩ (fun w1 hw => (hw.sel (js := [2, 0]) rfl).selO (js := []) rfl)
 refine xt rfl <| sr <| la rfl <| la rfl <| en ?_
 refine WT.ret Try.func21 (resOk.one rfl) (fun w1 hw => ?_)
 subst hb0
 cases h
 refine postG_of_St (js := [1, 0]) hw rfl ⟨u1, rfl, rfl, k1, rfl, k2⟩
theorem m_s_DrawMatchPat_ok {Φ : Hp} {w : World} (hΦ : In Φ w) (N : Nat) (p0 : (List Int)) {pv0 : Value} {pG0 : List Nat} (ph0 : RSl (RI .u8) 1 Φ pG0 pv0 p0) {r : TPat × TFact × (List TBind)} (h : m_s_DrawMatchPat N p0 = some r) :
  Calls Try.prog 5 [pv0].toArray w (PostG Φ w [] (fun Φ' Fs v => ∃ (sr_0_0 : Value) (sr_1_0 : Value) (sr_2_0 : Value), v = .tuple #[.agg [.string r.1.Kind, sr_0_0, .bool r.1.Not].toArray, .agg [.string r.2.1.Kind, sr_1_0].toArray, sr_2_0] ∧ Fs = [ob sr_0_0, ob sr_1_0, ob sr_2_0] ∧ OSl RTArg 54 5 Φ' [] sr_0_0 r.1.Args ∧ OSl RTVal 51 3 Φ' [] sr_1_0 r.2.1.Fields ∧ OSl RTBind 59 4 Φ' [] sr_2_0 r.2.2)) := by
 refine enter Try.func5 rfl Try.ntmps5 rfl (St.start0 hΦ) ?_
 have pa0 := Old.mk hΦ ph0.kn (Dj.empty _)
 revert pa0
 generalize hb0 : (⟨w, [], Φ⟩ : Base) = w0
 intro pa0
 unfold m_s_DrawMatchPat at h
 refine sr ?_
 refine ln (nz Zr_26) rfl (fun b_1 => ?_)
 refine ln (nz Zr_29) rfl (fun b_2 => ?_)
 refine la rfl <| en <| sr <| la rfl ?_
 obtain ⟨x1, hx1, h⟩ := bs h
 refine lc (k_call (js := []) (R := []) Fun_15 rfl rfl (fun w1 hw ap hl => m_s_l1New_ok hw.fro N p0 ph0  hx1)) rfl (fun v1 Φ_1 F1 q1 => ?_)
 obtain ⟨ap1, fr1, b_3, v2, G1, rfl, rfl, h1, i1, h2⟩ := q1
 refine la rfl <| en <| sr <| la rfl ?_
 obtain ⟨x2, hx2, h⟩ := bs h
 refine lc (k_call (js := [0]) (R := []) Fun_16 rfl rfl (fun w1 hw ap hl => m_s_l6Draw_ok hw.fro N x1 false h1 h2 (Dj.sub (ap.o pa0) i1) ap.nd hl hx2)) rfl (fun v3 Φ_2 F2 q2 => ?_)
 obtain ⟨ap2, fr2, v4, rfl, rfl, h3, e1, h4⟩ := q2
 replace h1 := h1.frame RI.lasts fr2 (Dj.sub (ap2.o pa0) i1)
 refine ln (nz Zr_26) rfl (fun b_4 => ?_)
 refine soN 0 Sz_26 rfl ⟨rfl, h3.one, rfl, trivial⟩ rfl ?_
 refine en <| sr <| la rfl ?_
 obtain ⟨x3, hx3, h⟩ := bs h
 refine lc (k_call (js := [1]) (R := [ob v4]) Fun_17 rfl rfl (fun w1 hw ap hl => m_s_l3Draw_ok hw.fro N (⟨x1.b, x2.2.i, x2.2.h⟩ : Tl1Cur) h1 h4 (Dj.sub (ap.o pa0) i1) ap.nd hl hx3)) rfl (fun v5 Φ_3 F3 q3 => ?_)
 obtain ⟨ap3, fr3, v6, rfl, rfl, h5, e2, h6⟩ := q3
 replace h1 := h1.frame RI.lasts fr3 (Dj.sub (ap3.o pa0) i1)
 replace h3 := h3.frame RTArg.lasts fr3 (ap3.r (i := 0) rfl) (Dj.nil _)
 refine ln (nz Zr_29) rfl (fun b_5 => ?_)
 refine soN 0 Sz_29 rfl ⟨rfl, h5.one, trivial⟩ rfl ?_
 refine en <| sq <| sr <| la rfl ?_
 obtain ⟨x4, hx4, h⟩ := bs h
 refine lc (k_call (js := [1]) (R := [ob v6, ob v4]) Fun_18 rfl rfl (fun w1 hw ap hl => m_s_l1Once_ok hw.fro N (⟨x1.b, x3.2.i, x3.2.h⟩ : Tl1Cur) 3 h1 h6 (Dj.sub (ap.o pa0) i1) ap.nd hl hx4)) rfl (fun v7 Φ_4 F4 q4 => ?_)
 obtain ⟨ap4, fr4, rfl, rfl, e3, h7⟩ := q4
 replace h1 := h1.frame RI.lasts fr4 (Dj.sub (ap4.o pa0) i1)
 replace h3 := h3.frame RTArg.lasts fr4 (ap4.r (i := 1) rfl) (Dj.nil _)
 replace h5 := h5.frame RTVal.lasts fr4 (ap4.r (i := 0) rfl) (Dj.nil _)
 refine la rfl <| en ?_
 refine cut (σ := Hp × (List TVal) × Value × Int × Int × ByteArray) (fun s => [(2, .pointer (some ⟨b_1, 0, none⟩)), (3, .pointer (some ⟨b_2, 0, none⟩)), (5, .pointer (some ⟨b_3, 0, none⟩)), (6, .pointer (some ⟨b_4, 0, none⟩)), (7, .pointer (some ⟨b_5, 0, none⟩))]) (fun s => St w0 s.1 [(b_5, .cells #[.string s.2.2.2.2.2, s.2.2.1] 29 (0, 0)), (b_4, .cells #[.string x2.1.Kind, v4, .bool x2.1.Not] 26 (0, 0)), (b_2, .cells #[.string (⟨#[]⟩ : ByteArray), .slice none 0 0] 29 (0, 0)), (b_1, .cells #[.string (⟨#[]⟩ : ByteArray), .slice none 0 0, .bool false] 26 (0, 0))] [[b_3], ob s.2.2.1, ob v4]) (fun s => m_s_DrawMatchPat_j1 N x1 x2 s.2.1 s.2.2.2.1 s.2.2.2.2.1 s.2.2.2.2.2 = some r ∧ (OSl RTArg 54 5 s.1 [] v4 x2.1.Args) ∧ (OSl RTVal 51 3 s.1 [] s.2.2.1 s.2.1) ∧ (s.1 b_3 = some (.cells #[v2, .int .i64 s.2.2.2.1, .int .i64 s.2.2.2.2.1] 67 (0, 0))) ∧ (RSl (RI .u8) 1 s.1 G1 v2 x1.b)) (fun s hm => ?_) (fun K => ?_)
 ·clear h
  obtain ⟨Φ_5, s1, u1, s2, s3, s4⟩ := s
  obtain ⟨h, h3, k1, k2, h1⟩ := hm
  dsimp only at h h3 k1 k2 h1 ⊢
  unfold m_s_DrawMatchPat_j1 at h
  refine sq <| sr <| la rfl ?_
  obtain ⟨x5, hx5, h⟩ := bs h
  refine lc (k_call (js := [0]) (R := [ob u1, ob v4]) Fun_18 rfl rfl (fun w1 hw ap hl => m_s_l1Once_ok hw.fro N (⟨x1.b, s2, s3⟩ : Tl1Cur) 8 h1 k2 (Dj.sub (ap.o pa0) i1) ap.nd hl hx5)) rfl (fun v8 Φ_6 F5 q5 => ?_)
  obtain ⟨ap5, fr5, rfl, rfl, e4, h8⟩ := q5
  replace h1 := h1.frame RI.lasts fr5 (Dj.sub (ap5.o pa0) i1)
  replace h3 := h3.frame RTArg.lasts fr5 (ap5.r (i := 1) rfl) (Dj.nil _)
  replace k1 := k1.frame RTVal.lasts fr5 (ap5.r (i := 0) rfl) (Dj.nil _)
  refine en ?_
  refine cut (σ := Hp × (List TArg) × Value × Int × Int × ByteArray × Bool) (fun s => [(2, .pointer (some ⟨b_1, 0, none⟩)), (3, .pointer (some ⟨b_2, 0, none⟩)), (5, .pointer (some ⟨b_3, 0, none⟩)), (6, .pointer (some ⟨b_4, 0, none⟩)), (7, .pointer (some ⟨b_5, 0, none⟩))]) (fun s => St w0 s.1 [(b_5, .cells #[.string s4, u1] 29 (0, 0)), (b_4, .cells #[.string s.2.2.2.2.2.1, s.2.2.1, .bool s.2.2.2.2.2.2] 26 (0, 0)), (b_2, .cells #[.string (⟨#[]⟩ : ByteArray), .slice none 0 0] 29 (0, 0)), (b_1, .cells #[.string (⟨#[]⟩ : ByteArray), .slice none 0 0, .bool false] 26 (0, 0))] [[b_3], ob u1, ob s.2.2.1]) (fun s => m_s_DrawMatchPat_j2 N x1 s1 s4 s.2.1 s.2.2.2.1 s.2.2.2.2.1 s.2.2.2.2.2.1 s.2.2.2.2.2.2 = some r ∧ (OSl RTArg 54 5 s.1 [] s.2.2.1 s.2.1) ∧ (OSl RTVal 51 3 s.1 [] u1 s1) ∧ (s.1 b_3 = some (.cells #[v2, .int .i64 s.2.2.2.1, .int .i64 s.2.2.2.2.1] 67 (0, 0))) ∧ (RSl (RI .u8) 1 s.1 G1 v2 x1.b)) (fun s hm => ?_) (fun K => ?_)
  ·clear h
   obtain ⟨Φ_7, s5, u2, s6, s7, s8, s9⟩ := s
   obtain ⟨h, k3, k1, k4, h1⟩ := hm
   dsimp only at h k3 k1 k4 h1 ⊢
   unfold m_s_DrawMatchPat_j2 at h
   refine sq <| WT.mix (Kn Φ_7 [] [(b_5, .cells #[.string s4, u1] 29 (0, 0)), (b_4, .cells #[.string s8, u2, .bool s9] 26 (0, 0))]) (fun _ => true) mixed (fun _ h => h.drew) <| mq 0 rfl (by kernel_rfl) (kn Kf.nil (ai2 0 1 rfl rfl)) (q_loadN Tn_26 rfl (fun w1 hw => hw.rgO (i := 1) rfl 0 3 [.string s8, u2, .bool s9] rfl) rfl) rfl <| mq 1 rfl (by kernel_rfl) (kn Kf.nil (ai2 0 1 rfl rfl)) (q_loadN Tn_29 rfl (fun w1 hw => hw.rgO (i := 0) rfl 0 2 [.string s4, u1] rfl) rfl) rfl ?_
   refine ma 2 rfl (by kernel_rfl) (kn Kf.nil (ai2 0 1 rfl rfl)) rfl ?_
   obtain ⟨x6, hx6, h⟩ := bs h
   refine WM.one 3 (by kernel_rfl) (mc rfl (fun _ v Φx D w1 hq hw => Kn.of Kf.nil (ai2 0 1 rfl rfl) hw) (k_call (js := [0]) (R := [ob u1, ob u2]) Fun_21 rfl rfl (fun w1 hw ap hl => m_s_l6Binds_ok hw.fro N (⟨x1.b, s6, s7⟩ : Tl1Cur) h1 k4 (Dj.sub (ap.o pa0) i1) ap.nd hl hx6)) rfl (fun v9 Φ_8 F6 q6 => ?_))
   obtain ⟨ap6, fr6, v10, rfl, rfl, h9, e5, h10⟩ := q6
   replace k3 := k3.frame RTArg.lasts fr6 (ap6.r (i := 1) rfl) (Dj.nil _)
   replace k1 := k1.frame RTVal.lasts fr6 (ap6.r (i := 0) rfl) (Dj.nil _)
   refine WM.one 4 (by kernel_rfl) (ms rfl (fun _ w1 hw => Kn.of Kf.nil (ai2 0 1 rfl rfl) hw) (s_store (i := 3) (vs := [.string s8, u2, .bool s9]) (C' := [.string s8, u2, .bool s9]) (O' := [(b_5, .cells #[.string s4, u1] 29 (0, 0)), (b_4, .cells #[.string s8, u2, .bool s9] 26 (0, 0)), (b_2, .cells #[.string (⟨#[]⟩ : ByteArray), .slice none 0 0] 29 (0, 0)), (b_1, .cells #[.string s8, u2, .bool s9] 26 (0, 0))]) Sz_26 rfl rfl rfl rfl rfl rfl ⟨rfl, k3.one, rfl, trivial⟩ rfl rfl) rfl ?_)
   refine WM.one 5 (by kernel_rfl) (ms rfl (fun _ w1 hw => Kn.of Kf.nil (ai2 0 1 rfl rfl) hw) (s_store (i := 2) (vs := [.string s4, u1]) (C' := [.string s4, u1]) (O' := [(b_5, .cells #[.string s4, u1] 29 (0, 0)), (b_4, .cells #[.string s8, u2, .bool s9] 26 (0, 0)), (b_2, .cells #[.string s4, u1] 29 (0, 0)), (b_1, .cells #[.string s8, u2, .bool s9] 26 (0, 0))]) Sz_29 rfl rfl rfl rfl rfl rfl ⟨rfl, k1.one, trivial⟩ rfl rfl) rfl ?_)
   refine ma 6 rfl (by kernel_rfl) (kn Kf.nil (ai2 0 1 rfl rfl)) rfl <| WM.nil (by kernel_rfl) ?_
   refine WT.ret Try.func5 (resOk.three (rv_cell Tn_26 rfl (fun w1 hw => hw.rgO (i := 3) rfl 0 3 [.string s8, u2, .bool s9] rfl) rfl) (rv_cell Tn_29 rfl (fun w1 hw => hw.rgO (i := 2) rfl 0 2 [.string s4, u1] rfl) rfl) rfl) (fun w1 hw => ?_)
   subst hb0
   cases h
   refine postG_of_St (js := [3, 2, 0]) hw rfl ⟨u2, u1, v9, rfl, rfl, k3, k1, h9⟩
  refine cdh rfl h (fun c1 h => ?_) (fun c1 h => ?_)
  ·refine rgn <| la rfl ?_
   obtain ⟨x7, hx7, h⟩ := bs h
   refine lc (k_call (js := [0]) (R := [ob u1, ob v4]) Fun_20 rfl rfl (fun w1 hw ap hl => m_s_l6Any_ok hw.fro N (⟨x1.b, x5.2.i, x5.2.h⟩ : Tl1Cur) h1 h8 (Dj.sub (ap.o pa0) i1) ap.nd hl hx7)) rfl (fun v11 Φ_9 F7 q7 => ?_)
   obtain ⟨ap7, fr7, v12, rfl, rfl, h11, e6, h12⟩ := q7
   replace h1 := h1.frame RI.lasts fr7 (Dj.sub (ap7.o pa0) i1)
   replace h3 := h3.frame RTArg.lasts fr7 (ap7.r (i := 1) rfl) (Dj.nil _)
   replace k1 := k1.frame RTVal.lasts fr7 (ap7.r (i := 0) rfl) (Dj.nil _)
   refine soN 1 Sz_26 rfl ⟨rfl, h11.one, rfl, trivial⟩ rfl ?_
   refine en ?_
   exact wto (K (Φ_9, x7.1.Args, v12, x7.2.i, x7.2.h, x7.1.Kind, x7.1.Not) ⟨h, h11, k1, h12, h1⟩) ⟨rfl, rfl, rfl, rfl, rfl, trivial⟩ (fun w1 hw => (hw.sel (js := [1, 1, 0]) rfl).selO (js := [0, 0, 0, 0]) rfl)
  refine WT.skip ?_
  exact wto (K (Φ_6, x2.1.Args, v4, x5.2.i, x5.2.h, x2.1.Kind, x2.1.Not) ⟨h, h3, k1, h8, h1⟩) ⟨rfl, rfl, rfl, rfl, rfl, trivial⟩ (fun w1 hw => (hw.sel (js := [0, 0, 0]) rfl).selO (js := [0, 0, 0, 0]) rfl)
 refine cdh rfl h (fun c2 h => ?_) (fun c2 h => ?_)
 ·refine sr <| lf Fld_26_0 rfl rfl rfl <| lo T1_9 1 rfl <| lf Fld_29_0 rfl rfl rfl <| so1 0 Sz_9 rfl rfl ?_
  refine en <| sr <| lf Fld_29_1 rfl rfl rfl <| lo T1_27 0 rfl ?_
  obtain ⟨x8, hx8, h⟩ := bs h
  refine lq (q_slH Sl_27 rfl rfl h5.rsl hx8) rfl ?_
  obtain ⟨D1, h13, sp1, e7⟩ := h5.pre hx8
  have h13 := OSl.flat0 RTVal.flat h13
  refine WL.conv (S' := St w0 Φ_4 [(b_5, .cells #[.string x2.1.Kind, v6] 29 (0, 0)), (b_4, .cells #[.string x2.1.Kind, v4, .bool x2.1.Not] 26 (0, 0)), (b_2, .cells #[.string (⟨#[]⟩ : ByteArray), .slice none 0 0] 29 (0, 0)), (b_1, .cells #[.string (⟨#[]⟩ : ByteArray), .slice none 0 0, .bool false] 26 (0, 0))] [[b_3], ob (slc v6 0 (0 : Int).toNat 3), ob v4]) (fun w1 hw => by simpa only [e7, List.cons_append, List.nil_append] using hw) ?_
  refine lf Fld_29_1 rfl rfl rfl <| so1 0 Sz_27 rfl h13.one ?_
  refine en <| sr <| la rfl <| en <| blk ?_
  refine loop_in (σ := Hp × (List TVal) × Value × Int × Int × Int) (fun s => [(2, .pointer (some ⟨b_1, 0, none⟩)), (3, .pointer (some ⟨b_2, 0, none⟩)), (5, .pointer (some ⟨b_3, 0, none⟩)), (6, .pointer (some ⟨b_4, 0, none⟩)), (7, .pointer (some ⟨b_5, 0, none⟩)), (8, .int .i64 s.2.2.2.1)]) (fun s => St w0 s.1 [(b_5, .cells #[.string x2.1.Kind, s.2.2.1] 29 (0, 0)), (b_4, .cells #[.string x2.1.Kind, v4, .bool x2.1.Not] 26 (0, 0)), (b_2, .cells #[.string (⟨#[]⟩ : ByteArray), .slice none 0 0] 29 (0, 0)), (b_1, .cells #[.string (⟨#[]⟩ : ByteArray), .slice none 0 0, .bool false] 26 (0, 0))] [[b_3], ob s.2.2.1, ob v4]) (fun m s => m_s_DrawMatchPat_l3 N x1 x2 m s.2.1 s.2.2.2.1 s.2.2.2.2.1 s.2.2.2.2.2 = some r ∧ (OSl RTArg 54 5 s.1 [] v4 x2.1.Args) ∧ (OSl RTVal 51 3 s.1 [] s.2.2.1 s.2.1) ∧ (s.1 b_3 = some (.cells #[v2, .int .i64 s.2.2.2.2.1, .int .i64 s.2.2.2.2.2] 67 (0, 0))) ∧ (RSl (RI .u8) 1 s.1 G1 v2 x1.b)) (Φ_4, x8, (slc v6 0 (0 : Int).toNat 3), 0, x4.2.i, x4.2.h) N ⟨h, h3, h13, h7, h1⟩ ⟨rfl, rfl, rfl, rfl, rfl, rfl, trivial⟩ (fun w1 hw => (hw.sel (js := [0, 0, 0]) rfl).selO (js := [0, 0, 0, 0]) rfl) (fun s hm => none_ne hm.1) (fun n3 ih3 s hm => ?_)
  obtain ⟨Φ_10, s10, u3, s11, s12, s13⟩ := s
  obtain ⟨h, h3, k5, k6, h1⟩ := hm
  dsimp only at h h3 k5 k6 h1 ⊢
  unfold m_s_DrawMatchPat_l3 at h
  refine sq <| sr <| la rfl <| lf Fld_26_1 rfl rfl rfl <| lo T1_24 1 rfl <| lq (q_lenR Sl_24 rfl rfl h3.rsl) rfl <| la rfl <| en ?_
  refine cdh rfl h (fun c3 h => ?_) (fun c3 h => ?_)
  ·refine WT.skip <| sq <| blk <| sr <| la rfl ?_
   obtain ⟨x9, hx9, h⟩ := bs h
   refine lc (k_call (js := [0]) (R := [ob u3, ob v4]) Fun_19 rfl rfl (fun w1 hw ap hl => m_s_l3Small_ok hw.fro N (⟨x1.b, s12, s13⟩ : Tl1Cur) h1 k6 (Dj.sub (ap.o pa0) i1) ap.nd hl hx9)) rfl (fun v13 Φ_11 F8 q8 => ?_)
   obtain ⟨ap8, fr8, rfl, rfl, e8, h14⟩ := q8
   replace h1 := h1.frame RI.lasts fr8 (Dj.sub (ap8.o pa0) i1)
   replace h3 := h3.frame RTArg.lasts fr8 (ap8.r (i := 1) rfl) (Dj.nil _)
   replace k5 := k5.frame RTVal.lasts fr8 (ap8.r (i := 0) rfl) (Dj.nil _)
   refine ln (nz Zr_51) rfl (fun b_6 => ?_)
   refine soN 0 Sz_51 rfl ⟨rfl, rfl, rfl, trivial⟩ rfl ?_
   refine en <| sq <| sr <| lf Fld_26_1 rfl rfl rfl <| lo T1_24 2 rfl <| la rfl ?_
   obtain ⟨x10, hx10, h⟩ := bs h
   obtain ⟨cs1, F9, -, g1, hb1, hs1, r1⟩ := h3.elS (idx_some hx10).2.2
   obtain ⟨rfl, -⟩ := r1
   refine lq (q_indexAddr Sl_24 rfl rfl h3.rsl hx10) rfl <| lf Fld_54_0 rfl rfl rfl <| lg 0 T1_3 g1 rfl rfl <| la rfl <| la rfl ?_
   refine WL.cutS 4 (σ := Hp × Bool × Int × Int) (fun s => [(2, .pointer (some ⟨b_1, 0, none⟩)), (3, .pointer (some ⟨b_2, 0, none⟩)), (5, .pointer (some ⟨b_3, 0, none⟩)), (6, .pointer (some ⟨b_4, 0, none⟩)), (7, .pointer (some ⟨b_5, 0, none⟩)), (8, .int .i64 s11), (9, .pointer (some ⟨b_6, 0, none⟩)), (46, .bool s.2.1)]) (fun s => St w0 s.1 [(b_6, .cells #[.int .i64 x9.1.K, .int .i64 x9.1.N, .string x9.1.S] 51 (0, 0)), (b_5, .cells #[.string x2.1.Kind, u3] 29 (0, 0)), (b_4, .cells #[.string x2.1.Kind, v4, .bool x2.1.Not] 26 (0, 0)), (b_2, .cells #[.string (⟨#[]⟩ : ByteArray), .slice none 0 0] 29 (0, 0)), (b_1, .cells #[.string (⟨#[]⟩ : ByteArray), .slice none 0 0, .bool false] 26 (0, 0))] [[b_3], ob u3, ob v4]) (fun s => m_s_DrawMatchPat_j4 N x2 s10 s11 (m_s_DrawMatchPat_l3 N x1 x2 n3) x9 s.2.1 s.2.2.1 s.2.2.2 = some r ∧ (OSl RTArg 54 5 s.1 [] v4 x2.1.Args) ∧ (OSl RTVal 51 3 s.1 [] u3 s10) ∧ (s.1 b_3 = some (.cells #[v2, .int .i64 s.2.2.1, .int .i64 s.2.2.2] 67 (0, 0))) ∧ (RSl (RI .u8) 1 s.1 G1 v2 x1.b)) (fun s hm => ?_) (fun K => ?_)
   ·clear h
    obtain ⟨Φ_12, s14, s15, s16⟩ := s
    obtain ⟨h, h3, k5, k7, h1⟩ := hm
    replace h : m_s_DrawMatchPat_j4 N x2 s10 s11 (m_s_DrawMatchPat_l3 N x1 x2 n3) x9 s14 s15 s16 = some r := h
    replace h3 : OSl RTArg 54 5 Φ_12 [] v4 x2.1.Args := h3
    replace k5 : OSl RTVal 51 3 Φ_12 [] u3 s10 := k5
    replace k7 : Φ_12 b_3 = some (.cells #[v2, .int .i64 s15, .int .i64 s16] 67 (0, 0)) := k7
    replace h1 : RSl (RI .u8) 1 Φ_12 G1 v2 x1.b := h1
    show WL _ _ _ _ [(2, .pointer (some ⟨b_1, 0, none⟩)), (3, .pointer (some ⟨b_2, 0, none⟩)), (5, .pointer (some ⟨b_3, 0, none⟩)), (6, .pointer (some ⟨b_4, 0, none⟩)), (7, .pointer (some ⟨b_5, 0, none⟩)), (8, .int .i64 s11), (9, .pointer (some ⟨b_6, 0, none⟩)), (46, .bool s14)] (St w0 Φ_12 [(b_6, .cells #[.int .i64 x9.1.K, .int .i64 x9.1.N, .string x9.1.S] 51 (0, 0)), (b_5, .cells #[.string x2.1.Kind, u3] 29 (0, 0)), (b_4, .cells #[.string x2.1.Kind, v4, .bool x2.1.Not] 26 (0, 0)), (b_2, .cells #[.string (⟨#[]⟩ : ByteArray), .slice none 0 0] 29 (0, 0)), (b_1, .cells #[.string (⟨#[]⟩ : ByteArray), .slice none 0 0, .bool false] 26 (0, 0))] [[b_3], ob u3, ob v4])
    unfold m_s_DrawMatchPat_j4 at h
    refine en ?_
    refine cut (σ := Int × Int × ByteArray) (fun s => [(2, .pointer (some ⟨b_1, 0, none⟩)), (3, .pointer (some ⟨b_2, 0, none⟩)), (5, .pointer (some ⟨b_3, 0, none⟩)), (6, .pointer (some ⟨b_4, 0, none⟩)), (7, .pointer (some ⟨b_5, 0, none⟩)), (8, .int .i64 s11), (9, .pointer (some ⟨b_6, 0, none⟩))]) (fun s => St w0 Φ_12 [(b_6, .cells #[.int .i64 s.1, .int .i64 s.2.1, .string s.2.2] 51 (0, 0)), (b_5, .cells #[.string x2.1.Kind, u3] 29 (0, 0)), (b_4, .cells #[.string x2.1.Kind, v4, .bool x2.1.Not] 26 (0, 0)), (b_2, .cells #[.string (⟨#[]⟩ : ByteArray), .slice none 0 0] 29 (0, 0)), (b_1, .cells #[.string (⟨#[]⟩ : ByteArray), .slice none 0 0, .bool false] 26 (0, 0))] [[b_3], ob u3, ob v4]) (fun s => m_s_DrawMatchPat_j5 N s10 s11 (m_s_DrawMatchPat_l3 N x1 x2 n3) s15 s16 s.1 s.2.1 s.2.2 = some r) (fun s hm => ?_) (fun K => ?_)
    ·clear h
     obtain ⟨s17, s18, s19⟩ := s
     have h : m_s_DrawMatchPat_j5 N s10 s11 (m_s_DrawMatchPat_l3 N x1 x2 n3) s15 s16 s17 s18 s19 = some r := hm
     show WT _ _ [(2, .pointer (some ⟨b_1, 0, none⟩)), (3, .pointer (some ⟨b_2, 0, none⟩)), (5, .pointer (some ⟨b_3, 0, none⟩)), (6, .pointer (some ⟨b_4, 0, none⟩)), (7, .pointer (some ⟨b_5, 0, none⟩)), (8, .int .i64 s11), (9, .pointer (some ⟨b_6, 0, none⟩))] (St w0 Φ_12 [(b_6, .cells #[.int .i64 s17, .int .i64 s18, .string s19] 51 (0, 0)), (b_5, .cells #[.string x2.1.Kind, u3] 29 (0, 0)), (b_4, .cells #[.string x2.1.Kind, v4, .bool x2.1.Not] 26 (0, 0)), (b_2, .cells #[.string (⟨#[]⟩ : ByteArray), .slice none 0 0] 29 (0, 0)), (b_1, .cells #[.string (⟨#[]⟩ : ByteArray), .slice none 0 0, .bool false] 26 (0, 0))] [[b_3], ob u3, ob v4])
     unfold m_s_DrawMatchPat_j5 at h
     refine rgn <| lf Fld_29_1 rfl rfl rfl <| lo T1_27 1 rfl <| ld3 Tn_51 0 rfl ?_
     have rc1 : RC RTVal 3 Φ_12 ([[]] : List (List Nat)) [.int .i64 s17, .int .i64 s18, .string s19] ([(⟨s17, s18, s19⟩ : TVal)] : List TVal) := RC.cons (c := [.int .i64 s17, .int .i64 s18, .string s19]) (cells := []) ⟨rfl, rfl⟩ rfl (RC.nil _ _ _)
     refine le' (e_lit (vs := [(0, .agg [.int .i64 s17, .int .i64 s18, .string s19].toArray)]) (C := #[.int .i64 s17, .int .i64 s18, .string s19]) RTVal.lasts Sl_27 Zr_51 rfl rfl rfl rfl (fill_made MC_51_1 (fill_cons (C' := [.int .i64 s17, .int .i64 s18, .string s19]) rfl rfl rfl rfl rfl (fill_nil))) rfl rc1 rfl (by simpa using Kw.nil)) rfl (fun v14 Φ_13 D2 q9 => ?_)
     obtain ⟨fr9, h15⟩ := q9
     replace h15 : OSl RTVal 51 3 Φ_13 [] v14 ([(⟨s17, s18, s19⟩ : TVal)] : List TVal) := by simpa using h15
     replace h1 := h1.frame RI.lasts fr9 (Dj.empty _)
     replace h3 := h3.frame RTArg.lasts fr9 (Dj.empty _) (Dj.empty _)
     replace k5 := k5.frame RTVal.lasts fr9 (Dj.empty _) (Dj.empty _)
     replace k7 := fr9 _ _ (by simp) k7
     obtain ⟨x11, hx11, h⟩ := bs h
     refine le' (e_appF RTVal.lasts RTVal.one RTVal.flat Sl_27 Ei_51 rfl rfl rfl rfl rfl (js := [2]) (Rr := [ob v14, [b_3], ob v4]) rfl k5 h15.rsl hx11) rfl (fun v15 Φ_14 D3 q10 => ?_)
     obtain ⟨⟨ap9, fr10⟩, h16⟩ := q10
     replace h1 := h1.frame RI.lasts fr10 (Dj.sub (ap9.o pa0) i1)
     replace h3 := h3.frame RTArg.lasts fr10 (ap9.r (i := 2) rfl) (Dj.nil _)
     replace k7 := fr10 _ _ ((ap9.r (i := 1) rfl) _ (by simp)) k7
     refine lf Fld_29_1 rfl rfl rfl <| so1 1 Sz_27 rfl h16.one ?_
     refine en <| ib <| rgn <| la rfl <| la rfl <| la rfl <| en ?_
     exact lback (ih3 (Φ_14, x11, v15, IntKind.i64.wrap (s11 + 1), s15, s16) ⟨h, h3, h16, k7, h1⟩) ⟨rfl, rfl, rfl, rfl, rfl, rfl, trivial⟩ (fun w1 hw => (hw.sel (js := [2, 0, 1]) rfl).selO (js := [1, 1, 1, 1]) rfl)
    refine cdh rfl h (fun c4 h => ?_) (fun c4 h => ?_)
    ·refine rgn <| lf Fld_26_1 rfl rfl rfl <| lo T1_24 2 rfl <| la rfl ?_
     obtain ⟨x12, hx12, h⟩ := bs h
     obtain ⟨cs2, F10, -, g2, hb2, hs2, r2⟩ := h3.elS (idx_some hx12).2.2
     obtain ⟨rfl, -⟩ := r2
     refine lq (q_indexAddr Sl_24 rfl rfl h3.rsl hx12) rfl <| lf Fld_54_2 rfl rfl rfl <| lg3 2 Tn_51 g2 rfl rfl <| soN 0 Sz_51 rfl ⟨rfl, rfl, rfl, trivial⟩ rfl ?_
     refine en ?_
     exact wto (K (x12.V.K, x12.V.N, x12.V.S) h) ⟨rfl, rfl, rfl, rfl, rfl, rfl, rfl, trivial⟩ (fun w1 hw => (hw.sel (js := [0, 0, 0]) rfl).selO (js := [0, 0, 0, 0, 0]) rfl)
    refine WT.skip ?_
    exact wto (K (x9.1.K, x9.1.N, x9.1.S) h) ⟨rfl, rfl, rfl, rfl, rfl, rfl, rfl, trivial⟩ (fun w1 hw => (hw.sel (js := [0, 0, 0]) rfl).selO (js := [0, 0, 0, 0, 0]) rfl)
   refine spl 42 rfl h (fun c5 h => ?_) (fun c5 h => ?_)
   ·refine ly rfl rfl <| la rfl <| ly rfl rfl ?_
    obtain ⟨x13, hx13, h⟩ := bs h
    refine lc (k_call (js := [0]) (R := [ob u3, ob v4]) Fun_18 rfl rfl (fun w1 hw ap hl => m_s_l1Once_ok hw.fro N (⟨x1.b, x9.2.i, x9.2.h⟩ : Tl1Cur) 4 h1 h14 (Dj.sub (ap.o pa0) i1) ap.nd hl hx13)) rfl (fun v16 Φ_15 F11 q11 => ?_)
    obtain ⟨ap10, fr11, rfl, rfl, e9, h17⟩ := q11
    replace h1 := h1.frame RI.lasts fr11 (Dj.sub (ap10.o pa0) i1)
    replace h3 := h3.frame RTArg.lasts fr11 (ap10.r (i := 1) rfl) (Dj.nil _)
    replace k5 := k5.frame RTVal.lasts fr11 (ap10.r (i := 0) rfl) (Dj.nil _)
    refine ly rfl rfl <| la rfl <| la rfl <| WL.mono (l' := [(2, .pointer (some ⟨b_1, 0, none⟩)), (3, .pointer (some ⟨b_2, 0, none⟩)), (5, .pointer (some ⟨b_3, 0, none⟩)), (6, .pointer (some ⟨b_4, 0, none⟩)), (7, .pointer (some ⟨b_5, 0, none⟩)), (8, .int .i64 s11), (9, .pointer (some ⟨b_6, 0, none⟩)), (46, .bool (!x13.1))]) (S' := St w0 Φ_15 [(b_6, .cells #[.int .i64 x9.1.K, .int .i64 x9.1.N, .string x9.1.S] 51 (0, 0)), (b_5, .cells #[.string x2.1.Kind, u3] 29 (0, 0)), (b_4, .cells #[.string x2.1.Kind, v4, .bool x2.1.Not] 26 (0, 0)), (b_2, .cells #[.string (⟨#[]⟩ : ByteArray), .slice none 0 0] 29 (0, 0)), (b_1, .cells #[.string (⟨#[]⟩ : ByteArray), .slice none 0 0, .bool false] 26 (0, 0))] [[b_3], ob u3, ob v4]) (by exact ⟨rfl, rfl, rfl, rfl, rfl, rfl, rfl, rfl, trivial⟩) (fun w1 hw => (hw.sel (js := [0, 0, 0]) rfl).selO (js := [0, 0, 0, 0, 0]) rfl) ?_
    exact K (Φ_15, !x13.1, x13.2.i, x13.2.h) ⟨h, h3, k5, h17, h1⟩
   refine la rfl <| la rfl <| la rfl <| la rfl <| WL.mono (l' := [(2, .pointer (some ⟨b_1, 0, none⟩)), (3, .pointer (some ⟨b_2, 0, none⟩)), (5, .pointer (some ⟨b_3, 0, none⟩)), (6, .pointer (some ⟨b_4, 0, none⟩)), (7, .pointer (some ⟨b_5, 0, none⟩)), (8, .int .i64 s11), (9, .pointer (some ⟨b_6, 0, none⟩)), (46, .bool false)]) (S' := St w0 Φ_11 [(b_6, .cells #[.int .i64 x9.1.K, .int .i64 x9.1.N, .string x9.1.S] 51 (0, 0)), (b_5, .cells #[.string x2.1.Kind, u3] 29 (0, 0)), (b_4, .cells #[.string x2.1.Kind, v4, .bool x2.1.Not] 26 (0, 0)), (b_2, .cells #[.string (⟨#[]⟩ : ByteArray), .slice none 0 0] 29 (0, 0)), (b_1, .cells #[.string (⟨#[]⟩ : ByteArray), .slice none 0 0, .bool false] 26 (0, 0))] [[b_3], ob u3, ob v4]) (by exact ⟨rfl, rfl, rfl, rfl, rfl, rfl, rfl, rfl, trivial⟩) (fun w1 hw => (hw.sel (js := [0, 0, 0]) rfl).selO (js := [0, 0, 0, 0, 0]) rfl) ?_
   exact K (Φ_11, false, x9.2.i, x9.2.h) ⟨h, h3, k5, h14, h1⟩
  refine xt rfl ?_
  exact wto (K (Φ_10, s10, u3, s12, s13, x2.1.Kind) ⟨h, h3, k5, k6, h1⟩) ⟨rfl, rfl, rfl, rfl, rfl, trivial⟩ (fun w1 hw => (hw.sel (js := [0, 0, 0]) rfl).selO (js := [0, 0, 0, 0]) rfl)
 refine WT.skip ?_
 exact wto (K (Φ_4, x3.1.Fields, v6, x4.2.i, x4.2.h, x3.1.Kind) ⟨h, h3, h5, h7, h1⟩) ⟨rfl, rfl, rfl, rfl, rfl, trivial⟩ (fun w1 hw => (hw.sel (js := [0, 0, 0]) rfl).selO (js := [0, 0, 0, 0]) rfl)
theorem m_sl_Clone_Si_Bind_i_Bind_ok {Φ : Hp} {w : World} (hΦ : In Φ w) (N : Nat) (p0 : (List TBind)) {pv0 : Value} {pG0 : List Nat} (ph0 : RSl RTBind 4 Φ pG0 pv0 p0) {r : (List TBind)} (h : m_sl_Clone_Si_Bind_i_Bind N p0 = some r) :
  Calls Try.prog 22 [pv0].toArray w (PostG Φ w [] (fun Φ' Fs v => ∃ (sr_0_0 : Value), v = sr_0_0 ∧ Fs = [ob sr_0_0] ∧ OSl RTBind 59 4 Φ' [] sr_0_0 r)) := by
 refine enter Try.func22 rfl Try.ntmps22 rfl (St.start0 hΦ) ?_
 unfold m_sl_Clone_Si_Bind_i_Bind at h
 refine sr <| la rfl <| en <| sq <| sq ?_
 rcases RSl.nilOr ph0 with ⟨hxs1, cc1, hv1⟩ | ⟨a1, cc1, hv1⟩
 ·replace h : some [] = some r := by simpa [hxs1, app] using h
  refine rgn <| la rfl <| lq (q_eqNil Sl_30 (congrArg some hv1) rfl) rfl <| en ?_
  refine cd rfl (fun c => ?_) (fun c => by simp at c)
  refine sr <| la rfl <| en ?_
  refine WT.ret Try.func22 (resOk.one rfl) (fun w1 hw => ?_)
  cases h
  replace hw := hw.addNil
  refine postG_of_St (js := [0]) hw rfl ⟨.slice none 0 0, rfl, rfl, OSl.nil _ _ _ _⟩
 refine rgn <| la rfl <| lq (q_eqNil Sl_30 (congrArg some hv1) rfl) rfl <| en ?_
 refine cd rfl (fun c => by simp at c) (fun c => ?_)
 refine WT.skip <| sr ?_
 refine le' (e_lit0 RTBind.lasts Sl_30 Zr_59 rfl rfl) rfl (fun v1 Φ_1 D1 q1 => ?_)
 obtain ⟨fr1, h1⟩ := q1
 replace ph0 := ph0.frame RTBind.lasts fr1 (Dj.empty _)
 refine la rfl ?_
 obtain ⟨x1, hx1, h⟩ := bs h
 refine le' (e_appF RTBind.lasts RTBind.one RTBind.flat Sl_30 Ei_59 rfl rfl rfl rfl rfl (js := [0]) (Rr := []) rfl h1 ph0 hx1) rfl (fun v2 Φ_2 D2 q2 => ?_)
 obtain ⟨⟨ap1, fr2⟩, h2⟩ := q2
 refine la rfl <| en ?_
 refine WT.ret Try.func22 (resOk.one rfl) (fun w1 hw => ?_)
 cases h
 refine postG_of_St (js := [0]) hw rfl ⟨v2, rfl, rfl, h2⟩
theorem m_i_BindOf_ok {Φ : Hp} {w : World} (hΦ : In Φ w) (N : Nat) (p0 : (List TBind)) (p1 : ByteArray) {pv0 : Value} {pG0 : List Nat} (ph0 : RSl RTBind 4 Φ pG0 pv0 p0) {r : TVal × Bool} (h : m_i_BindOf N p0 p1 = some r) :
  Calls Try.prog 23 [pv0, .string p1].toArray w (Post (.tuple #[.agg [.int .i64 r.1.K, .int .i64 r.1.N, .string r.1.S].toArray, .bool r.2]) w) := by
 refine enter Try.func23 rfl Try.ntmps23 rfl (St.start0 hΦ) ?_
 generalize hb0 : (⟨w, [], Φ⟩ : Base) = w0
 unfold m_i_BindOf at h
 refine sr ?_
 refine ln (nz Zr_51) rfl (fun b_1 => ?_)
 refine la rfl <| en <| sq <| sr <| la rfl <| lq (q_lenR Sl_30 rfl rfl ph0) rfl <| la rfl <| en <| blk ?_
 refine loop_in (σ := Int) (fun s => [(1, .string p1), (4, .pointer (some ⟨b_1, 0, none⟩)), (8, pv0), (9, .int .i64 (p0.length : Int)), (10, .int .i64 s)]) (fun s => St w0 Φ [(b_1, .cells #[.int .i64 0, .int .i64 0, .string (⟨#[]⟩ : ByteArray)] 51 (0, 0))] []) (fun m s => m_i_BindOf_l1 N p0 p1 m s = some r) (0) N h ⟨rfl, rfl, rfl, rfl, rfl, trivial⟩ (fun w1 hw => (hw.sel (js := []) rfl).selO (js := [0]) rfl) (fun s hm => none_ne hm) (fun n1 ih1 s hm => ?_)
 revert hm; revert s; intro s1 hm
 have h : m_i_BindOf_l1 N p0 p1 (n1 + 1) s1 = some r := hm
 show WT _ _ [(1, .string p1), (4, .pointer (some ⟨b_1, 0, none⟩)), (8, pv0), (9, .int .i64 (p0.length : Int)), (10, .int .i64 s1)] (St w0 Φ [(b_1, .cells #[.int .i64 0, .int .i64 0, .string (⟨#[]⟩ : ByteArray)] 51 (0, 0))] [])
 unfold m_i_BindOf_l1 at h
 refine sr <| la rfl <| en <| sq ?_
 refine cdh rfl h (fun c1 h => ?_) (fun c1 h => ?_)
 ·refine WT.skip <| sq <| blk <| sr ?_
  obtain ⟨x1, hx1, h⟩ := bs h
  obtain ⟨cs1, F1, -, g1, hb1, hs1, r1⟩ := ph0.el (idx_some hx1).2.2
  obtain ⟨rfl, -⟩ := r1
  refine lq (q_indexAddr Sl_30 rfl rfl ph0 hx1) rfl <| lg4 0 Tn_59 g1 rfl rfl ?_
  refine ln (nz Zr_59) rfl (fun b_2 => ?_)
  refine soN 0 Sz_59 rfl ⟨rfl, rfl, rfl, rfl, trivial⟩ rfl ?_
  refine en <| sr <| lf Fld_59_0 rfl rfl rfl <| lo T1_9 0 rfl <| la rfl <| la rfl <| en ?_
  refine cdh rfl h (fun c2 h => ?_) (fun c2 h => ?_)
  ·refine sr <| lf Fld_59_1 rfl rfl rfl <| ld3 Tn_51 0 rfl <| soN 1 Sz_51 rfl ⟨rfl, rfl, rfl, trivial⟩ rfl ?_
   refine la rfl <| en ?_
   refine WT.ret Try.func23 (resOk.two (rv_cell Tn_51 rfl (fun w1 hw => hw.rgO (i := 1) rfl 0 3 [.int .i64 x1.V.K, .int .i64 x1.V.N, .string x1.V.S] rfl) rfl) rfl) (fun w1 hw => ?_)
   subst hb0
   cases h
   exact post_of_St hw
  refine WT.skip <| ib <| rgn <| la rfl <| la rfl <| en ?_
  exact lback (ih1 (IntKind.i64.wrap (s1 + 1)) h) ⟨rfl, rfl, rfl, rfl, rfl, trivial⟩ (fun w1 hw => (hw.sel (js := []) rfl).selO (js := [1]) rfl)
 refine xt rfl <| sr <| lq (q_build (vs := []) (C := #[.int .i64 0, .int .i64 0, .string (⟨#[]⟩ : ByteArray)]) Pl_51 Zr_51 rfl (fill_nil)) rfl <| soN 0 Sz_51 rfl ⟨rfl, rfl, rfl, trivial⟩ rfl ?_
 refine la rfl <| en ?_
 refine WT.ret Try.func23 (resOk.two (rv_cell Tn_51 rfl (fun w1 hw => hw.rgO (i := 0) rfl 0 3 [.int .i64 0, .int .i64 0, .string (⟨#[]⟩ : ByteArray)] rfl) rfl) rfl) (fun w1 hw => ?_)
 subst hb0
 cases h
 exact post_of_St hw
theorem m_i_MatchPat_ok {Φ : Hp} {w : World} (hΦ : In Φ w) (N : Nat) (p0 : TPat) (p1 : TFact) (p2 : (List TBind)) {pv0_0 pv1_0 pv2 : Value} {pG0_0 pG1_0 pG2 : List Nat} (ph0_0 : RSl RTArg 5 Φ pG0_0 pv0_0 p0.Args) (ph1_0 : RSl RTVal 3 Φ pG1_0 pv1_0 p1.Fields) (ph2 : RSl RTBind 4 Φ pG2 pv2 p2) {r : (List TBind) × Bool} (h : m_i_MatchPat N p0 p1 p2 = some r) :
  Calls Try.prog 6 [.agg [.string p0.Kind, pv0_0, .bool p0.Not].toArray, .agg [.string p1.Kind, pv1_0].toArray, pv2].toArray w (PostG Φ w [] (fun Φ' Fs v => ∃ (sr_0_0 : Value), v = .tuple #[sr_0_0, .bool r.2] ∧ Fs = [ob sr_0_0] ∧ OSl RTBind 59 4 Φ' [] sr_0_0 r.1)) := by
 refine enter Try.func6 rfl Try.ntmps6 rfl (St.start0 hΦ) ?_
 have pa0_0 := Old.mk hΦ ph0_0.kn (Dj.empty _)
 have pa1_0 := Old.mk hΦ ph1_0.kn (Dj.empty _)
 have pa2 := Old.mk hΦ ph2.kn (Dj.empty _)
 revert pa0_0 pa1_0 pa2
 generalize hb0 : (⟨w, [], Φ⟩ : Base) = w0
 intro pa0_0 pa1_0 pa2
 unfold m_i_MatchPat at h
 refine sr ?_
 refine ln (nb rfl) rfl (fun b_1 => ?_)
 refine ln (nb rfl) rfl (fun b_2 => ?_)
 refine la rfl <| la rfl <| en <| sq <| sr <| lf Fld_29_0 rfl rfl rfl <| lo T1_9 0 rfl <| lf Fld_26_0 rfl rfl rfl <| lo T1_9 1 rfl <| la rfl <| la rfl ?_
 obtain ⟨b1, hb_1, h⟩ := bs h
 refine WL.cutN 8 [(27, .bool b1), (2, pv2), (3, .pointer (some ⟨b_1, 0, none⟩)), (4, .pointer (some ⟨b_2, 0, none⟩))] ?_ (fun K => ?_)
 rotate_left
 ·refine spl 19 rfl hb_1 (fun c1 hb_1 => ?_) (fun c1 hb_1 => ?_)
  ·refine la rfl <| la rfl <| la rfl <| la rfl <| la rfl <| la rfl <| la rfl <| la rfl ?_
   cases hb_1
   exact kk K ⟨rfl, rfl, rfl, rfl, trivial⟩
  ·refine ly rfl rfl <| lf Fld_29_1 rfl rfl rfl <| ly rfl rfl <| lo T1_27 0 rfl <| ly rfl rfl <| lq (q_lenR Sl_27 rfl rfl ph1_0) rfl <| ly rfl rfl <| lf Fld_26_1 rfl rfl rfl <| ly rfl rfl <| lo T1_24 1 rfl <| ly rfl rfl <| lq (q_lenR Sl_24 rfl rfl ph0_0) rfl <| ly rfl rfl <| la rfl <| la rfl ?_
   cases hb_1
   exact kk K ⟨rfl, rfl, rfl, rfl, trivial⟩
 refine en ?_
 refine cdh rfl h (fun c2 h => ?_) (fun c2 h => ?_)
 ·refine sr <| la rfl ?_
  obtain ⟨x1, hx1, h⟩ := bs h
  refine lc (k_call (js := []) (R := []) Fun_22 rfl rfl (fun w1 hw ap hl => m_sl_Clone_Si_Bind_i_Bind_ok hw.fro N p2 ph2  hx1)) rfl (fun v1 Φ_1 F1 q1 => ?_)
  obtain ⟨ap1, fr1, v2, rfl, rfl, h1⟩ := q1
  refine la rfl <| la rfl <| en ?_
  refine WT.ret Try.func6 (resOk.two rfl rfl) (fun w1 hw => ?_)
  subst hb0
  cases h
  refine postG_of_St (js := [0]) hw rfl ⟨v1, rfl, rfl, h1⟩
 refine WT.skip <| sr <| la rfl ?_
 obtain ⟨x2, hx2, h⟩ := bs h
 refine lc (k_call (js := []) (R := []) Fun_22 rfl rfl (fun w1 hw ap hl => m_sl_Clone_Si_Bind_i_Bind_ok hw.fro N p2 ph2  hx2)) rfl (fun v3 Φ_2 F2 q2 => ?_)
 obtain ⟨ap2, fr2, v4, rfl, rfl, h2⟩ := q2
 replace ph2 := ph2.frame RTBind.lasts fr2 (ap2.o pa2)
 replace ph0_0 := ph0_0.frame RTArg.lasts fr2 (ap2.o pa0_0)
 replace ph1_0 := ph1_0.frame RTVal.lasts fr2 (ap2.o pa1_0)
 refine la rfl <| en <| sq <| sr <| lf Fld_26_1 rfl rfl rfl <| lo T1_24 1 rfl <| lq (q_lenR Sl_24 rfl rfl ph0_0) rfl <| la rfl <| en <| blk ?_
 refine loop_in (σ := Hp × (List TBind) × Value × Int) (fun s => [(2, pv2), (4, .pointer (some ⟨b_2, 0, none⟩)), (8, s.2.2.1), (33, pv0_0), (34, .int .i64 (p0.Args.length : Int)), (35, .int .i64 s.2.2.2)]) (fun s => St w0 s.1 [(b_2, .cells #[.string p1.Kind, pv1_0] 29 (0, 0))] [ob s.2.2.1]) (fun m s => m_i_MatchPat_l1 N p0 p1 p2 m s.2.1 s.2.2.2 = some r ∧ (OSl RTBind 59 4 s.1 [] s.2.2.1 s.2.1) ∧ (RSl RTBind 4 s.1 pG2 pv2 p2) ∧ (RSl RTVal 3 s.1 pG1_0 pv1_0 p1.Fields) ∧ (RSl RTArg 5 s.1 pG0_0 pv0_0 p0.Args)) (Φ_2, x2, v3, 0) N ⟨h, h2, ph2, ph1_0, ph0_0⟩ ⟨rfl, rfl, rfl, rfl, rfl, rfl, trivial⟩ (fun w1 hw => (hw.sel (js := [0]) rfl).selO (js := [0]) rfl) (fun s hm => none_ne hm.1) (fun n1 ih1 s hm => ?_)
 obtain ⟨Φ_3, s1, u1, s2⟩ := s
 obtain ⟨h, k1, ph2, ph1_0, ph0_0⟩ := hm
 dsimp only at h k1 ph2 ph1_0 ph0_0 ⊢
 unfold m_i_MatchPat_l1 at h
 refine sr <| la rfl <| en <| sq ?_
 refine cdh rfl h (fun c3 h => ?_) (fun c3 h => ?_)
 ·refine WT.skip <| sq <| blk <| sr <| la rfl ?_
  obtain ⟨x3, hx3, h⟩ := bs h
  obtain ⟨cs1, F3, -, g1, hb1, hs1, r1⟩ := ph0_0.el (idx_some hx3).2.2
  obtain ⟨rfl, -⟩ := r1
  refine lq (q_indexAddr Sl_24 rfl rfl ph0_0 hx3) rfl <| lg5 0 Tn_54 g1 rfl rfl ?_
  refine ln (nz Zr_54) rfl (fun b_3 => ?_)
  refine la rfl <| soN 0 Sz_54 rfl ⟨rfl, rfl, rfl, rfl, rfl, trivial⟩ rfl ?_
  refine en <| sr <| lf Fld_29_1 rfl rfl rfl <| lo T1_27 1 rfl <| la rfl ?_
  obtain ⟨x4, hx4, h⟩ := bs h
  obtain ⟨cs2, F4, -, g2, hb2, hs2, r2⟩ := ph1_0.el (idx_some hx4).2.2
  obtain ⟨rfl, -⟩ := r2
  refine lq (q_indexAddr Sl_27 rfl rfl ph1_0 hx4) rfl <| lg3 0 Tn_51 g2 rfl rfl ?_
  refine ln (nz Zr_51) rfl (fun b_4 => ?_)
  refine soN 0 Sz_51 rfl ⟨rfl, rfl, rfl, trivial⟩ rfl ?_
  refine en <| sr <| lf Fld_54_0 rfl rfl rfl <| lo T1_3 1 rfl <| en <| blk <| sr <| la rfl <| la rfl <| en ?_
  refine cdh rfl h (fun c4 h => ?_) (fun c4 h => ?_)
  ·refine sr <| lf Fld_54_2 rfl rfl rfl <| ld3 Tn_51 1 rfl <| ld3 Tn_51 0 rfl <| lq (q_neA EqT_51 rfl rfl rfl (r := eqT_TVal x3.V x4) rfl) rfl <| en ?_
   refine cdh rfl h (fun c5 h => ?_) (fun c5 h => ?_)
   ·refine sr <| la rfl ?_
    obtain ⟨x5, hx5, h⟩ := bs h
    refine lc (k_call (js := []) (R := [ob u1]) Fun_22 rfl rfl (fun w1 hw ap hl => m_sl_Clone_Si_Bind_i_Bind_ok hw.fro N p2 ph2  hx5)) rfl (fun v5 Φ_4 F5 q3 => ?_)
    obtain ⟨ap3, fr3, v6, rfl, rfl, h3⟩ := q3
    refine la rfl <| la rfl <| en ?_
    refine WT.ret Try.func6 (resOk.two rfl rfl) (fun w1 hw => ?_)
    subst hb0
    cases h
    refine postG_of_St (js := [0]) hw rfl ⟨v5, rfl, rfl, h3⟩
   refine WT.skip <| ib <| ib <| rgn <| la rfl <| la rfl <| en ?_
   exact lback (ih1 (Φ_3, s1, u1, IntKind.i64.wrap (s2 + 1)) ⟨h, k1, ph2, ph1_0, ph0_0⟩) ⟨rfl, rfl, rfl, rfl, rfl, rfl, trivial⟩ (fun w1 hw => (hw.sel (js := [0]) rfl).selO (js := [2]) rfl)
  refine sr <| la rfl <| la rfl <| en ?_
  refine cdh rfl h (fun c6 h => ?_) (fun c6 h => ?_)
  ·refine sr <| la rfl <| lf Fld_54_1 rfl rfl rfl <| lo T1_9 1 rfl ?_
   obtain ⟨x6, hx6, h⟩ := bs h
   refine lp (p_call Fun_23 rfl (fun w1 hw => m_i_BindOf_ok hw.fro N s1 x3.S k1.rsl hx6)) rfl <| la rfl <| lq (q_extract rfl rfl) rfl <| lq (q_extract rfl rfl) rfl ?_
   refine ln (nz Zr_51) rfl (fun b_5 => ?_)
   refine soN 0 Sz_51 rfl ⟨rfl, rfl, rfl, trivial⟩ rfl ?_
   refine la rfl <| en <| sq <| sr <| la rfl <| la rfl ?_
   obtain ⟨b2, hb_2, h⟩ := bs h
   refine WL.cutN 4 [(69, .bool b2), (2, pv2), (4, .pointer (some ⟨b_2, 0, none⟩)), (8, u1), (10, .pointer (some ⟨b_3, 0, none⟩)), (11, .pointer (some ⟨b_4, 0, none⟩)), (13, .bool x6.2), (33, pv0_0), (34, .int .i64 (p0.Args.length : Int)), (35, .int .i64 s2)] ?_ (fun K => ?_)
   rotate_left
   ·refine spl 65 rfl hb_2 (fun c7 hb_2 => ?_) (fun c7 hb_2 => ?_)
    ·refine ly rfl rfl <| ld3 Tn_51 0 rfl <| ly rfl rfl <| ld3 Tn_51 1 rfl <| ly rfl rfl <| lq (q_neA EqT_51 rfl rfl rfl (r := eqT_TVal x6.1 x4) rfl) rfl <| la rfl ?_
     cases hb_2
     exact kk K ⟨rfl, rfl, rfl, rfl, rfl, rfl, rfl, rfl, rfl, rfl, trivial⟩
    ·refine la rfl <| la rfl <| la rfl <| la rfl ?_
     cases hb_2
     exact kk K ⟨rfl, rfl, rfl, rfl, rfl, rfl, rfl, rfl, rfl, rfl, trivial⟩
   refine en ?_
   refine cdh rfl h (fun c8 h => ?_) (fun c8 h => ?_)
   ·refine sr <| la rfl ?_
    obtain ⟨x7, hx7, h⟩ := bs h
    refine lc (k_call (js := []) (R := [ob u1]) Fun_22 rfl rfl (fun w1 hw ap hl => m_sl_Clone_Si_Bind_i_Bind_ok hw.fro N p2 ph2  hx7)) rfl (fun v7 Φ_5 F6 q4 => ?_)
    obtain ⟨ap4, fr4, v8, rfl, rfl, h4⟩ := q4
    refine la rfl <| la rfl <| en ?_
    refine WT.ret Try.func6 (resOk.two rfl rfl) (fun w1 hw => ?_)
    subst hb0
    cases h
    refine postG_of_St (js := [0]) hw rfl ⟨v7, rfl, rfl, h4⟩
   refine WT.skip <| sr <| la rfl <| la rfl <| en ?_
   refine cdh rfl h (fun c9 h => ?_) (fun c9 h => ?_)
   ·refine rgn <| la rfl <| lf Fld_54_1 rfl rfl rfl <| lo T1_9 2 rfl <| ld3 Tn_51 1 rfl <| lq (q_build (vs := [(0, .string x3.S), (1, .agg [.int .i64 x4.K, .int .i64 x4.N, .string x4.S].toArray)]) (C := #[.string x3.S, .int .i64 x4.K, .int .i64 x4.N, .string x4.S]) Pl_59 Zr_59 rfl (fill_cons (C' := [.string x3.S, .int .i64 0, .int .i64 0, .string ⟨#[]⟩]) rfl rfl rfl rfl rfl (fill_cons (C' := [.string x3.S, .int .i64 x4.K, .int .i64 x4.N, .string x4.S]) rfl rfl rfl rfl rfl (fill_nil)))) rfl ?_
    have rc1 : RC RTBind 4 Φ_3 ([[]] : List (List Nat)) [.string x3.S, .int .i64 x4.K, .int .i64 x4.N, .string x4.S] ([(⟨x3.S, x4⟩ : TBind)] : List TBind) := RC.cons (c := [.string x3.S, .int .i64 x4.K, .int .i64 x4.N, .string x4.S]) (cells := []) ⟨rfl, rfl⟩ rfl (RC.nil _ _ _)
    refine le' (e_lit (vs := [(0, .agg [.string x3.S, .int .i64 x4.K, .int .i64 x4.N, .string x4.S].toArray)]) (C := #[.string x3.S, .int .i64 x4.K, .int .i64 x4.N, .string x4.S]) RTBind.lasts Sl_30 Zr_59 rfl rfl rfl rfl (fill_made MC_59_1 (fill_cons (C' := [.string x3.S, .int .i64 x4.K, .int .i64 x4.N, .string x4.S]) rfl rfl rfl rfl rfl (fill_nil))) rfl rc1 rfl (by simpa using Kw.nil)) rfl (fun v9 Φ_6 D1 q5 => ?_)
    obtain ⟨fr5, h5⟩ := q5
    replace h5 : OSl RTBind 59 4 Φ_6 [] v9 ([(⟨x3.S, x4⟩ : TBind)] : List TBind) := by simpa using h5
    replace ph2 := ph2.frame RTBind.lasts fr5 (Dj.empty _)
    replace ph1_0 := ph1_0.frame RTVal.lasts fr5 (Dj.empty _)
    replace ph0_0 := ph0_0.frame RTArg.lasts fr5 (Dj.empty _)
    replace k1 := k1.frame RTBind.lasts fr5 (Dj.empty _) (Dj.empty _)
    obtain ⟨x8, hx8, h⟩ := bs h
    refine le' (e_appF RTBind.lasts RTBind.one RTBind.flat Sl_30 Ei_59 rfl rfl rfl rfl rfl (js := [1]) (Rr := [ob v9]) rfl k1 h5.rsl hx8) rfl (fun v10 Φ_7 D2 q6 => ?_)
    obtain ⟨⟨ap5, fr6⟩, h6⟩ := q6
    replace ph2 := ph2.frame RTBind.lasts fr6 (ap5.o pa2)
    replace ph1_0 := ph1_0.frame RTVal.lasts fr6 (ap5.o pa1_0)
    replace ph0_0 := ph0_0.frame RTArg.lasts fr6 (ap5.o pa0_0)
    refine la rfl <| en <| ib <| ib <| rgn <| la rfl <| la rfl <| en ?_
    exact lback (ih1 (Φ_7, x8, v10, IntKind.i64.wrap (s2 + 1)) ⟨h, h6, ph2, ph1_0, ph0_0⟩) ⟨rfl, rfl, rfl, rfl, rfl, rfl, trivial⟩ (fun w1 hw => (hw.sel (js := [0]) rfl).selO (js := [3]) rfl)
   refine WT.skip <| ib <| ib <| rgn <| la rfl <| la rfl <| en ?_
   exact lback (ih1 (Φ_3, s1, u1, IntKind.i64.wrap (s2 + 1)) ⟨h, k1, ph2, ph1_0, ph0_0⟩) ⟨rfl, rfl, rfl, rfl, rfl, rfl, trivial⟩ (fun w1 hw => (hw.sel (js := [0]) rfl).selO (js := [3]) rfl)
  refine WT.skip <| ib <| ib <| rgn <| la rfl <| la rfl <| en ?_
  exact lback (ih1 (Φ_3, s1, u1, IntKind.i64.wrap (s2 + 1)) ⟨h, k1, ph2, ph1_0, ph0_0⟩) ⟨rfl, rfl, rfl, rfl, rfl, rfl, trivial⟩ (fun w1 hw => (hw.sel (js := [0]) rfl).selO (js := [2]) rfl)
 refine xt rfl <| sr <| la rfl <| la rfl <| la rfl <| en ?_
 refine WT.ret Try.func6 (resOk.two rfl rfl) (fun w1 hw => ?_)
 subst hb0
 cases h
 refine postG_of_St (js := [0]) hw rfl ⟨u1, rfl, rfl, k1⟩
theorem m_i_AlphaOf_ok {Φ : Hp} {w : World} (hΦ : In Φ w) (N : Nat) (p0 : TPat) {pv0_0 : Value} {pG0_0 : List Nat} (ph0_0 : RSl RTArg 5 Φ pG0_0 pv0_0 p0.Args) {r : TAlpha} (h : m_i_AlphaOf N p0 = some r) :
  Calls Try.prog 7 [.agg [.string p0.Kind, pv0_0, .bool p0.Not].toArray].toArray w (PostG Φ w [] (fun Φ' Fs v => ∃ (sr_0_0 : Value) (sr_0_1 : Value), v = .agg [.string r.Kind, .int .i64 r.N, sr_0_0, sr_0_1].toArray ∧ Fs = [ob sr_0_0, ob sr_0_1] ∧ OSl RTVal 51 3 Φ' [] sr_0_0 r.Consts ∧ OSl (RI .i64) 3 1 Φ' [] sr_0_1 r.At)) := by
 refine enter Try.func7 rfl Try.ntmps7 rfl (St.start0 hΦ) ?_
 have pa0_0 := Old.mk hΦ ph0_0.kn (Dj.empty _)
 revert pa0_0
 generalize hb0 : (⟨w, [], Φ⟩ : Base) = w0
 intro pa0_0
 unfold m_i_AlphaOf at h
 refine sr ?_
 refine ln (nb rfl) rfl (fun b_1 => ?_)
 refine ln (nz Zr_37) rfl (fun b_2 => ?_)
 refine en <| sr <| lf Fld_26_0 rfl rfl rfl <| lo T1_9 1 rfl <| lf Fld_26_1 rfl rfl rfl <| lo T1_24 1 rfl <| lq (q_lenR Sl_24 rfl rfl ph0_0) rfl <| lq (q_build (vs := [(0, .string p0.Kind), (1, .int .i64 (p0.Args.length : Int))]) (C := #[.string p0.Kind, .int .i64 (p0.Args.length : Int), .slice none 0 0, .slice none 0 0]) Pl_37 Zr_37 rfl (fill_cons (C' := [.string p0.Kind, .int .i64 0, .slice none 0 0, .slice none 0 0]) rfl rfl rfl rfl rfl (fill_cons (C' := [.string p0.Kind, .int .i64 (p0.Args.length : Int), .slice none 0 0, .slice none 0 0]) rfl rfl rfl rfl rfl (fill_nil)))) rfl ?_
 refine ln (nz Zr_37) rfl (fun b_3 => ?_)
 refine soN 0 Sz_37 rfl ⟨rfl, rfl, rfl, rfl, trivial⟩ rfl ?_
 refine en <| sq <| sr <| lf Fld_26_1 rfl rfl rfl <| lo T1_24 2 rfl <| lq (q_lenR Sl_24 rfl rfl ph0_0) rfl <| la rfl <| en <| blk <| WT.loop <| WT.conv (S' := St w0 Φ [(b_3, .cells #[.string p0.Kind, .int .i64 (p0.Args.length : Int), .slice none 0 0, .slice none 0 0] 37 (0, 0)), (b_2, .cells #[.string (⟨#[]⟩ : ByteArray), .int .i64 0, .slice none 0 0, .slice none 0 0] 37 (0, 0)), (b_1, .cells #[.string p0.Kind, pv0_0, .bool p0.Not] 26 (0, 0))] (ob (.slice none 0 0) :: [])) (fun w1 hw => hw.addNil) ?_
 have k1 := OSl.nil RTVal 51 3 Φ
 refine WT.conv (S' := St w0 Φ [(b_3, .cells #[.string p0.Kind, .int .i64 (p0.Args.length : Int), (.slice none 0 0), .slice none 0 0] 37 (0, 0)), (b_2, .cells #[.string (⟨#[]⟩ : ByteArray), .int .i64 0, .slice none 0 0, .slice none 0 0] 37 (0, 0)), (b_1, .cells #[.string p0.Kind, pv0_0, .bool p0.Not] 26 (0, 0))] (ob (.slice none 0 0) :: [ob (.slice none 0 0)])) (fun w1 hw => hw.addNil) ?_
 have k2 := OSl.nil (RI .i64) 3 1 Φ
 refine WT.mono (l' := [(2, .pointer (some ⟨b_2, 0, none⟩)), (3, .pointer (some ⟨b_3, 0, none⟩)), (13, pv0_0), (14, .int .i64 (p0.Args.length : Int)), (15, .int .i64 0)]) (S' := St w0 Φ [(b_3, .cells #[.string p0.Kind, .int .i64 (p0.Args.length : Int), (.slice none 0 0), (.slice none 0 0)] 37 (0, 0)), (b_2, .cells #[.string (⟨#[]⟩ : ByteArray), .int .i64 0, .slice none 0 0, .slice none 0 0] 37 (0, 0))] [ob (.slice none 0 0), ob (.slice none 0 0)]) ⟨rfl, rfl, rfl, rfl, rfl, trivial⟩ (fun w1 hw => (hw.sel (js := [0, 0]) rfl).selO (js := [0, 0]) rfl) ?_
 refine loop_ind (σ := Hp × (List TVal) × Value × (List Int) × Value × Int) (fun s => [(2, .pointer (some ⟨b_2, 0, none⟩)), (3, .pointer (some ⟨b_3, 0, none⟩)), (13, pv0_0), (14, .int .i64 (p0.Args.length : Int)), (15, .int .i64 s.2.2.2.2.2)]) (fun s => St w0 s.1 [(b_3, .cells #[.string p0.Kind, .int .i64 (p0.Args.length : Int), s.2.2.1, s.2.2.2.2.1] 37 (0, 0)), (b_2, .cells #[.string (⟨#[]⟩ : ByteArray), .int .i64 0, .slice none 0 0, .slice none 0 0] 37 (0, 0))] [ob s.2.2.2.2.1, ob s.2.2.1]) (fun m s => m_i_AlphaOf_l1 N p0 m s.2.1 s.2.2.2.1 s.2.2.2.2.2 = some r ∧ (OSl RTVal 51 3 s.1 [] s.2.2.1 s.2.1) ∧ (OSl (RI .i64) 3 1 s.1 [] s.2.2.2.2.1 s.2.2.2.1) ∧ (RSl RTArg 5 s.1 pG0_0 pv0_0 p0.Args)) (fun s hm => none_ne (show (none : Option (TAlpha)) = some r from hm.1)) (fun n1 ih1 s hm => ?_) N (Φ, ([] : List TVal), (.slice none 0 0), ([] : List Int), (.slice none 0 0), 0) ⟨h, k1, k2, ph0_0⟩
 obtain ⟨Φ_1, s1, u1, s2, u2, s3⟩ := s
 obtain ⟨h, k3, k4, ph0_0⟩ := hm
 dsimp only at h k3 k4 ph0_0 ⊢
 unfold m_i_AlphaOf_l1 at h
 refine sr <| la rfl <| en <| sq ?_
 refine cdh rfl h (fun c1 h => ?_) (fun c1 h => ?_)
 ·refine WT.skip <| sq <| blk <| sr <| la rfl ?_
  obtain ⟨x1, hx1, h⟩ := bs h
  obtain ⟨cs1, F1, -, g1, hb1, hs1, r1⟩ := ph0_0.el (idx_some hx1).2.2
  obtain ⟨rfl, -⟩ := r1
  refine lq (q_indexAddr Sl_24 rfl rfl ph0_0 hx1) rfl <| lg5 0 Tn_54 g1 rfl rfl ?_
  refine ln (nz Zr_54) rfl (fun b_4 => ?_)
  refine la rfl <| soN 0 Sz_54 rfl ⟨rfl, rfl, rfl, rfl, rfl, trivial⟩ rfl ?_
  refine en <| sr <| lf Fld_54_0 rfl rfl rfl <| lo T1_3 0 rfl <| la rfl <| en ?_
  refine cdh rfl h (fun c2 h => ?_) (fun c2 h => ?_)
  ·refine sr <| lf Fld_37_2 rfl rfl rfl <| lo T1_27 1 rfl <| lf Fld_54_2 rfl rfl rfl <| ld3 Tn_51 0 rfl ?_
   have rc1 : RC RTVal 3 Φ_1 ([[]] : List (List Nat)) [.int .i64 x1.V.K, .int .i64 x1.V.N, .string x1.V.S] ([x1.V] : List TVal) := RC.cons (c := [.int .i64 x1.V.K, .int .i64 x1.V.N, .string x1.V.S]) (cells := []) ⟨rfl, rfl⟩ rfl (RC.nil _ _ _)
   refine le' (e_lit (vs := [(0, .agg [.int .i64 x1.V.K, .int .i64 x1.V.N, .string x1.V.S].toArray)]) (C := #[.int .i64 x1.V.K, .int .i64 x1.V.N, .string x1.V.S]) RTVal.lasts Sl_27 Zr_51 rfl rfl rfl rfl (fill_made MC_51_1 (fill_cons (C' := [.int .i64 x1.V.K, .int .i64 x1.V.N, .string x1.V.S]) rfl rfl rfl rfl rfl (fill_nil))) rfl rc1 rfl (by simpa using Kw.nil)) rfl (fun v1 Φ_2 D1 q1 => ?_)
   obtain ⟨fr1, h1⟩ := q1
   replace h1 : OSl RTVal 51 3 Φ_2 [] v1 ([x1.V] : List TVal) := by simpa using h1
   replace ph0_0 := ph0_0.frame RTArg.lasts fr1 (Dj.empty _)
   replace k3 := k3.frame RTVal.lasts fr1 (Dj.empty _) (Dj.empty _)
   replace k4 := k4.frame RI.lasts fr1 (Dj.empty _) (Dj.empty _)
   obtain ⟨x2, hx2, h⟩ := bs h
   refine le' (e_appF RTVal.lasts RTVal.one RTVal.flat Sl_27 Ei_51 rfl rfl rfl rfl rfl (js := [2]) (Rr := [ob v1, ob u2]) rfl k3 h1.rsl hx2) rfl (fun v2 Φ_3 D2 q2 => ?_)
   obtain ⟨⟨ap1, fr2⟩, h2⟩ := q2
   replace ph0_0 := ph0_0.frame RTArg.lasts fr2 (ap1.o pa0_0)
   replace k4 := k4.frame RI.lasts fr2 (ap1.r (i := 1) rfl) (Dj.nil _)
   refine lf Fld_37_2 rfl rfl rfl <| so1 1 Sz_27 rfl h2.one ?_
   refine en <| rgn <| lf Fld_37_3 rfl rfl rfl <| lo T1_35 1 rfl <| la rfl ?_
   have rc2 : RC (RI .i64) 1 Φ_3 ([[]] : List (List Nat)) [.int .i64 s3] ([s3] : List Int) := RC.cons (c := [.int .i64 s3]) (cells := []) ⟨rfl, rfl⟩ rfl (RC.nil _ _ _)
   refine le' (e_lit (vs := [(0, .int .i64 s3)]) (C := #[.int .i64 s3]) RI.lasts Sl_35 Zr_3 rfl rfl rfl rfl (fill_made MC_3_1 (fill_cons (C' := [.int .i64 s3]) rfl rfl rfl rfl rfl (fill_nil))) rfl rc2 rfl (by simpa using Kw.nil)) rfl (fun v3 Φ_4 D3 q3 => ?_)
   obtain ⟨fr3, h3⟩ := q3
   replace h3 : OSl (RI .i64) 3 1 Φ_4 [] v3 ([s3] : List Int) := by simpa using h3
   replace ph0_0 := ph0_0.frame RTArg.lasts fr3 (Dj.empty _)
   replace h2 := h2.frame RTVal.lasts fr3 (Dj.empty _) (Dj.empty _)
   replace k4 := k4.frame RI.lasts fr3 (Dj.empty _) (Dj.empty _)
   obtain ⟨x3, hx3, h⟩ := bs h
   refine le' (e_appF RI.lasts RI.one RI.flat Sl_35 Ei_3 rfl rfl rfl rfl rfl (js := [3]) (Rr := [ob v3, ob v2, ob v1]) rfl k4 h3.rsl hx3) rfl (fun v4 Φ_5 D4 q4 => ?_)
   obtain ⟨⟨ap2, fr4⟩, h4⟩ := q4
   replace ph0_0 := ph0_0.frame RTArg.lasts fr4 (ap2.o pa0_0)
   replace h2 := h2.frame RTVal.lasts fr4 (ap2.r (i := 1) rfl) (Dj.nil _)
   refine lf Fld_37_3 rfl rfl rfl <| so1 1 Sz_35 rfl h4.one ?_
   refine en <| ib <| rgn <| la rfl <| la rfl <| en ?_
   exact lback (ih1 (Φ_5, x2, v2, x3, v4, IntKind.i64.wrap (s3 + 1)) ⟨h, h2, h4, ph0_0⟩) ⟨rfl, rfl, rfl, rfl, rfl, trivial⟩ (fun w1 hw => (hw.sel (js := [0, 1]) rfl).selO (js := [1, 1]) rfl)
  refine WT.skip <| ib <| rgn <| la rfl <| la rfl <| en ?_
  exact lback (ih1 (Φ_1, s1, u1, s2, u2, IntKind.i64.wrap (s3 + 1)) ⟨h, k3, k4, ph0_0⟩) ⟨rfl, rfl, rfl, rfl, rfl, trivial⟩ (fun w1 hw => (hw.sel (js := [0, 0]) rfl).selO (js := [1, 1]) rfl)
 refine xt rfl <| sr <| ld4 Tn_37 0 rfl <| soN 1 Sz_37 rfl ⟨rfl, rfl, k3.one, k4.one, trivial⟩ rfl ?_
 refine en ?_
 refine WT.ret Try.func7 (resOk.one (rv_cell Tn_37 rfl (fun w1 hw => hw.rgO (i := 1) rfl 0 4 [.string p0.Kind, .int .i64 (p0.Args.length : Int), u1, u2] rfl) rfl)) (fun w1 hw => ?_)
 subst hb0
 cases h
 refine postG_of_St (js := [1, 0]) hw rfl ⟨u1, u2, rfl, rfl, k3, k4⟩
end Go.Proofs.Ytelchcokfcdndaa
