/- Printed by a program of ours: each Go function computes its Lean function. -/
import Derived.Test.YtjhlmnbkfdkmpaaProg
import Derived.Test.YtjhlmnbkfdkmpaaWPickedWalk2
namespace Go.Proofs.Ytjhlmnbkfdkmpaa
open Eng
open Go.RowKit (Below)
set_option linter.unusedVariables false
set_option linter.unusedSimpArgs false

set_option maxRecDepth 100000
set_option maxHeartbeats 1000000
theorem m_s_l11Rows_ok (N : Nat) : ∀ {Φ : Hp} {w : World} (hΦ : In Φ w) (p0 : (List TMatch)) (p1 : TRule) (p2 : TStore) (p3 : (List Int)) (p4 : (List TBind)) {pv0 : Value} {pD0 : List Nat} {pb0 : Nat} {pv1_0 : Value} {pG1_0 : List Nat} {pv1_1 : Value} {pG1_1 : List Nat} {pv1_2 : Value} {pG1_2 : List Nat} {pv2_0 : Value} {pG2_0 : List Nat} {pv3 : Value} {pG3 : List Nat} {pv4 : Value} {pG4 : List Nat} (ph0 : OSl OTMatch 81 3 Φ pD0 pv0 p0) (pp0 : Φ pb0 = some (.cells #[pv0] 75 (0, 0))) (ph1_0 : RSl RTPat 3 Φ pG1_0 pv1_0 p1.Pats) (ph1_1 : RSl RTCond 11 Φ pG1_1 pv1_1 p1.Conds) (ph1_2 : RSl RTAct 5 Φ pG1_2 pv1_2 p1.Acts) (ph2_0 : RSl RTItem 3 Φ pG2_0 pv2_0 p2.Items) (ph3 : RSl (RI .i64) 1 Φ pG3 pv3 p3) (ph4 : RSl RTBind 4 Φ pG4 pv4 p4) (pd1_0 : Dj pG1_0 [[pb0], ob pv0, pD0].flatten) (pd1_1 : Dj pG1_1 [[pb0], ob pv0, pD0].flatten) (pd1_2 : Dj pG1_2 [[pb0], ob pv0, pD0].flatten) (pd2_0 : Dj pG2_0 [[pb0], ob pv0, pD0].flatten) (pd3 : Dj pG3 [[pb0], ob pv0, pD0].flatten) (pd4 : Dj pG4 [[pb0], ob pv0, pD0].flatten) (hB : [[pb0], ob pv0, pD0].flatten.Nodup) (hlt : ∀ k ∈ [[pb0], ob pv0, pD0].flatten, k < w.heap.size) {r : (List TMatch)} (h : m_s_l11Rows N p0 p1 p2 p3 p4 = some r),
  Calls Try.prog 244 [.pointer (some ⟨pb0, 0, none⟩), .agg [.string p1.Name, .int .i64 p1.Sal, pv1_0, pv1_1, pv1_2].toArray, .agg [pv2_0, .int .i64 p2.Next].toArray, pv3, pv4].toArray w (PostG Φ w [[pb0], ob pv0, pD0].flatten (fun Φ' Fs v => ∃ (so_0_0 : Value) (Do_0_0 : List Nat), v = .tuple #[] ∧ Fs = [[pb0], ob so_0_0, Do_0_0] ∧ OSl OTMatch 81 3 Φ' Do_0_0 so_0_0 r ∧ Φ' pb0 = some (.cells #[so_0_0] 75 (0, 0)))) := by
 induction N with
 | zero => intros; rename_i h; simp [m_s_l11Rows] at h
 | succ N ih =>
 intro Φ w hΦ p0 p1 p2 p3 p4 pv0 pD0 pb0 pv1_0 pG1_0 pv1_1 pG1_1 pv1_2 pG1_2 pv2_0 pG2_0 pv3 pG3 pv4 pG4 ph0 pp0 ph1_0 ph1_1 ph1_2 ph2_0 ph3 ph4 pd1_0 pd1_1 pd1_2 pd2_0 pd3 pd4 hB hlt r h
 refine enter Try.func244 rfl Try.ntmps244 rfl (St.start hΦ [[pb0], ob pv0, pD0] hB hlt) ?_
 have pa1_0 : Old ⟨w, [[pb0], ob pv0, pD0].flatten, Φ⟩ pG1_0 := Old.mk hΦ ph1_0.kn pd1_0
 have pa1_1 : Old ⟨w, [[pb0], ob pv0, pD0].flatten, Φ⟩ pG1_1 := Old.mk hΦ ph1_1.kn pd1_1
 have pa1_2 : Old ⟨w, [[pb0], ob pv0, pD0].flatten, Φ⟩ pG1_2 := Old.mk hΦ ph1_2.kn pd1_2
 have pa2_0 : Old ⟨w, [[pb0], ob pv0, pD0].flatten, Φ⟩ pG2_0 := Old.mk hΦ ph2_0.kn pd2_0
 have pa3 : Old ⟨w, [[pb0], ob pv0, pD0].flatten, Φ⟩ pG3 := Old.mk hΦ ph3.kn pd3
 have pa4 : Old ⟨w, [[pb0], ob pv0, pD0].flatten, Φ⟩ pG4 := Old.mk hΦ ph4.kn pd4
 revert pa1_0 pa1_1 pa1_2 pa2_0 pa3 pa4
 generalize hb0 : (⟨w, [[pb0], ob pv0, pD0].flatten, Φ⟩ : Base) = w0
 intro pa1_0 pa1_1 pa1_2 pa2_0 pa3 pa4
 unfold m_s_l11Rows at h
 refine WT.seq <| WT.region ?_
 refine ln (n_box (C := #[.string p1.Name, .int .i64 p1.Sal, pv1_0, pv1_1, pv1_2]) rfl rfl) rfl (fun b_1 => ?_)
 refine ln (n_box (C := #[pv2_0, .int .i64 p2.Next]) rfl rfl) rfl (fun b_2 => ?_)
 refine WL.nil <| WT.seq <| WT.seq <| WT.region <| lq (q_move rfl) rfl <| lq (q_lenR Sl_78 rfl rfl ph3) rfl <| lq (q_loadN Tn_66 rfl (fun w1 hw => hw.rgO (i := 1) rfl 0 5 [.string p1.Name, .int .i64 p1.Sal, pv1_0, pv1_1, pv1_2] rfl) rfl) rfl ?_
 obtain ⟨x1, hx1, h⟩ := bind_some h
 refine lp (p_call Fun_146 rfl (fun w1 hw => m_s_PosCount_ok hw.fro N p1 ph1_0 ph1_1 ph1_2 hx1)) rfl <| lq (q_eql rfl rfl) rfl <| WL.nil ?_
 refine WT.cond rfl (fun c1 => ?_) (fun c1 => ?_)
 ·replace h := ite_t h c1
  refine WT.seq <| WT.seq <| WT.region <| lq (q_loadN Tn_66 rfl (fun w1 hw => hw.rgO (i := 1) rfl 0 5 [.string p1.Name, .int .i64 p1.Sal, pv1_0, pv1_1, pv1_2] rfl) rfl) rfl <| lq (q_loadN Tn_101 rfl (fun w1 hw => hw.rgO (i := 0) rfl 0 2 [pv2_0, .int .i64 p2.Next] rfl) rfl) rfl <| lq (q_move rfl) rfl ?_
  obtain ⟨x2, hx2, h⟩ := bind_some h
  refine lp (p_call Fun_53 rfl (fun w1 hw => m_s_Blocked_ok hw.fro N p1 p2 p4 ph1_0 ph1_1 ph1_2 ph2_0 ph4 hx2)) rfl <| lq (q_not rfl) rfl <| lq (q_move rfl) rfl ?_
  obtain ⟨b1, hb_1, h⟩ := bind_some h
  refine WL.cutN 5 [(28, .bool b1), (0, .pointer (some ⟨pb0, 0, none⟩)), (3, pv3), (4, pv4)] ?_ (fun K => ?_)
  rotate_left
  ·refine WL.split (d := 23) rfl (fun c2 => ?_) (fun c2 => ?_)
   ·replace hb_1 := ite_t hb_1 c2
    refine WL.yes rfl rfl <| lq (q_fieldAddr Fld_66_3 rfl) rfl <| WL.yes rfl rfl <| lq (q_load1 T1_63 rfl (fun w1 hw => hw.rgO (i := 1) rfl 3 1 [pv1_1] rfl)) rfl <| WL.yes rfl rfl <| lq (q_move rfl) rfl <| WL.yes rfl rfl ?_
    obtain ⟨x3, hx3, hb_1⟩ := bind_some hb_1
    refine lp (p_call Fun_273 rfl (fun w1 hw => m_s_HoldAll_ok hw.fro N p1.Conds p4 ph1_1 ph4 hx3)) rfl <| WL.q (q_pick1 rfl rfl) rfl rfl rfl ?_
    cases hb_1
    exact WL.keep (by exact ⟨rfl, rfl, rfl, rfl, trivial⟩) K
   ·replace hb_1 := ite_f hb_1 c2
    refine WL.no rfl rfl rfl rfl <| WL.no rfl rfl rfl rfl <| WL.no rfl rfl rfl rfl <| WL.no rfl rfl rfl rfl <| WL.q (q_pick0 rfl rfl) rfl rfl rfl ?_
    cases hb_1
    exact WL.keep (by exact ⟨rfl, rfl, rfl, rfl, trivial⟩) K
  refine WL.nil ?_
  refine WT.cond rfl (fun c3 => ?_) (fun c3 => ?_)
  ·replace h := ite_t h c3
   refine cut (σ := Hp × (List TMatch) × Value × List Nat) (fun s => []) (fun s => St w0 s.1 [(pb0, .cells #[s.2.2.1] 75 (0, 0))] [s.2.2.2, ob s.2.2.1]) (fun s => m_s_l11Rows_j1 N s.2.1 = some r ∧ (OSl OTMatch 81 3 s.1 s.2.2.2 s.2.2.1 s.2.1)) (fun s hm => ?_) (fun K => ?_)
   ·clear h
    obtain ⟨Φ_8, s1, u1, D7⟩ := s
    obtain ⟨h, k1⟩ := hm
    replace h : m_s_l11Rows_j1 N s1 = some r := h
    replace k1 : OSl OTMatch 81 3 Φ_8 D7 u1 s1 := k1
    show WT _ _ [] (St w0 Φ_8 [(pb0, .cells #[u1] 75 (0, 0))] [D7, ob u1])
    unfold m_s_l11Rows_j1 at h
    refine WT.frz (js := [0]) (R := []) rfl (fun Φ_9 fr8 k2 => ?_)
    replace k1 := k1.frame OTMatch.lasts fr8 (Dj.empty _) (Dj.empty _)
    refine WT.ret Try.func244 resOk.none (fun w1 hw => ?_)
    subst hb0
    cases h
    refine postG_of_St (js := [0, 1, 0]) hw rfl ⟨u1, D7, rfl, rfl, k1, k2⟩
   refine WT.mix (Kn Φ [pb0] [(b_2, .cells #[pv2_0, .int .i64 p2.Next] 101 (0, 0)), (b_1, .cells #[.string p1.Name, .int .i64 p1.Sal, pv1_0, pv1_1, pv1_2] 66 (0, 0))]) (fun i => match i with | 14 => false | _ => true) mixed (fun _ h => h.drew) <| mq 0 rfl (by kernel_rfl) (fun w1 hw => Kn.of (fun _ _ _ h => h) (AllIn.mem ⟨List.mem_of_getElem? (i := 0) rfl, List.mem_of_getElem? (i := 1) rfl, trivial⟩) hw) (q_move rfl) rfl ?_
   refine mq 1 rfl (by kernel_rfl) (fun w1 hw => Kn.of (fun _ _ _ h => h) (AllIn.mem ⟨List.mem_of_getElem? (i := 0) rfl, List.mem_of_getElem? (i := 1) rfl, trivial⟩) hw) (q_move rfl) rfl <| mq 2 rfl (by kernel_rfl) (fun w1 hw => Kn.of (fun _ _ _ h => h) (AllIn.mem ⟨List.mem_of_getElem? (i := 0) rfl, List.mem_of_getElem? (i := 1) rfl, trivial⟩) hw) (q_nilCheck rfl) rfl <| mq 3 rfl (by kernel_rfl) (fun w1 hw => Kn.of (fun _ _ _ h => h) (AllIn.mem ⟨List.mem_of_getElem? (i := 0) rfl, List.mem_of_getElem? (i := 1) rfl, trivial⟩) hw) (q_load1 T1_75 rfl (fun w1 hw => hw.rg (by simp) ((rg_cells pp0).of_eq 0 1 rfl rfl : rg _ _ _ [pv0]))) rfl ?_
   refine mq 5 rfl (by kernel_rfl) (fun w1 hw => Kn.of (fun _ _ _ h => h) (AllIn.mem ⟨List.mem_of_getElem? (i := 0) rfl, List.mem_of_getElem? (i := 1) rfl, trivial⟩) hw) (q_move rfl) rfl <| mq 8 rfl (by kernel_rfl) (fun w1 hw => Kn.of (fun _ _ _ h => h) (AllIn.mem ⟨List.mem_of_getElem? (i := 0) rfl, List.mem_of_getElem? (i := 1) rfl, trivial⟩) hw) (q_move rfl) rfl ?_
   refine WM.two 4 7 (by kernel_rfl) ?_ ?_
   ·skip
    have rc4 : RC (RI .i64) 1 Φ ([] : List (List Nat)) [] ([] : List Int) := RC.nil _ _ _
    refine me rfl (fun _ v Φx D w1 hq hw => Kn.of (fun k hk o ho => hq.1 k o (by simp) ((fun _ _ _ h => h) k hk o ho)) (AllIn.mem ⟨List.mem_of_getElem? (i := 0) rfl, List.mem_of_getElem? (i := 1) rfl, trivial⟩) hw) (e_lit (vs := []) (C := #[]) RI.lasts Sl_78 Zr_3 rfl rfl rfl rfl (fill_made MC_3_0 (fill_nil)) rfl rc4 rfl (by simpa using Kw.nil)) rfl (fun v7 Φ_10 D8 q7 => ?_)
    obtain ⟨fr9, h7⟩ := q7
    replace h7 : OSl (RI .i64) 3 1 Φ_10 [] v7 ([] : List Int) := by simpa using h7
    replace ph3 := ph3.frame RI.lasts fr9 (Dj.empty _)
    replace ph4 := ph4.frame RTBind.lasts fr9 (Dj.empty _)
    replace ph0 := ph0.frame OTMatch.lasts fr9 (Dj.empty _) (Dj.empty _)
    replace pp0 := fr9 _ _ (by simp) pp0
    refine WM.two 6 7 (by kernel_rfl) ?_ ?_
    ·skip
     obtain ⟨x7, hx7, h⟩ := bind_some h
     refine me rfl (fun _ v Φx D w1 hq hw => Kn.of (fun k hk o ho => hq.1.2 k o ((hq.1.1.r (i := 0) rfl) k hk) ((fun k hk o ho => fr9 k o (by simp) ((fun _ _ _ h => h) k hk o ho)) k hk o ho)) (AllIn.mem ⟨List.mem_of_getElem? (i := 0) rfl, List.mem_of_getElem? (i := 1) rfl, trivial⟩) hw) (e_appF RI.lasts RI.one RI.flat Sl_78 Ei_3 rfl rfl rfl rfl rfl (js := [0]) (Rr := [[pb0], ob pv0, pD0]) rfl h7 ph3 hx7) rfl (fun v8 Φ_11 D9 q8 => ?_)
     obtain ⟨⟨ap5, fr10⟩, h8⟩ := q8
     replace ph4 := ph4.frame RTBind.lasts fr10 (ap5.o pa4)
     replace ph0 := ph0.frame OTMatch.lasts fr10 (ap5.r (i := 1) rfl) (ap5.r (i := 2) rfl)
     replace pp0 := fr10 _ _ ((ap5.r (i := 0) rfl) _ (by simp)) pp0
     have rc5 : RC RTBind 4 Φ_11 ([] : List (List Nat)) [] ([] : List TBind) := RC.nil _ _ _
     refine WM.one 7 (by kernel_rfl) (me rfl (fun _ v Φx D w1 hq hw => Kn.of (fun k hk o ho => hq.1 k o (by simp) ((fun k hk o ho => fr10 k o ((ap5.r (i := 0) rfl) k hk) ((fun k hk o ho => fr9 k o (by simp) ((fun _ _ _ h => h) k hk o ho)) k hk o ho)) k hk o ho)) (AllIn.mem ⟨List.mem_of_getElem? (i := 0) rfl, List.mem_of_getElem? (i := 1) rfl, trivial⟩) hw) (e_lit (vs := []) (C := #[]) RTBind.lasts Sl_79 Zr_194 rfl rfl rfl rfl (fill_made MC_194_0 (fill_nil)) rfl rc5 rfl (by simpa using Kw.nil)) rfl (fun v9 Φ_12 D10 q9 => ?_))
     obtain ⟨fr11, h9⟩ := q9
     replace h9 : OSl RTBind 194 4 Φ_12 [] v9 ([] : List TBind) := by simpa using h9
     replace ph4 := ph4.frame RTBind.lasts fr11 (Dj.empty _)
     replace ph0 := ph0.frame OTMatch.lasts fr11 (Dj.empty _) (Dj.empty _)
     replace h8 := h8.frame RI.lasts fr11 (Dj.empty _) (Dj.empty _)
     replace pp0 := fr11 _ _ (by simp) pp0
     obtain ⟨x8, hx8, h⟩ := bind_some h
     refine WM.one 9 (by kernel_rfl) (me rfl (fun _ v Φx D w1 hq hw => Kn.of (fun k hk o ho => hq.1.2 k o ((hq.1.1.r (i := 1) rfl) k hk) ((fun k hk o ho => fr11 k o (by simp) ((fun k hk o ho => fr10 k o ((ap5.r (i := 0) rfl) k hk) ((fun k hk o ho => fr9 k o (by simp) ((fun _ _ _ h => h) k hk o ho)) k hk o ho)) k hk o ho)) k hk o ho)) (AllIn.mem ⟨List.mem_of_getElem? (i := 0) rfl, List.mem_of_getElem? (i := 1) rfl, trivial⟩) hw) (e_appF RTBind.lasts RTBind.one RTBind.flat Sl_79 Ei_194 rfl rfl rfl rfl rfl (js := [0]) (Rr := [ob v8, [pb0], ob pv0, pD0]) rfl h9 ph4 hx8) rfl (fun v10 Φ_13 D11 q10 => ?_))
     obtain ⟨⟨ap6, fr12⟩, h10⟩ := q10
     replace ph0 := ph0.frame OTMatch.lasts fr12 (ap6.r (i := 2) rfl) (ap6.r (i := 3) rfl)
     replace h8 := h8.frame RI.lasts fr12 (ap6.r (i := 0) rfl) (Dj.nil _)
     replace pp0 := fr12 _ _ ((ap6.r (i := 1) rfl) _ (by simp)) pp0
     refine mq 10 rfl (by kernel_rfl) (fun w1 hw => Kn.of (fun k hk o ho => fr12 k o ((ap6.r (i := 1) rfl) k hk) ((fun k hk o ho => fr11 k o (by simp) ((fun k hk o ho => fr10 k o ((ap5.r (i := 0) rfl) k hk) ((fun k hk o ho => fr9 k o (by simp) ((fun _ _ _ h => h) k hk o ho)) k hk o ho)) k hk o ho)) k hk o ho)) (AllIn.mem ⟨List.mem_of_getElem? (i := 0) rfl, List.mem_of_getElem? (i := 1) rfl, trivial⟩) hw) (q_build (vs := [(1, v8), (2, v10)]) (C := #[.int .i64 0, v8, v10]) Pl_81 Zr_81 rfl (fill_cons (cells := [.int .i64 0, .slice none 0 0, .slice none 0 0]) (c := [v8]) (C' := [.int .i64 0, v8, .slice none 0 0]) rfl (one_cells h8.one) rfl rfl rfl (fill_cons (cells := [.int .i64 0, v8, .slice none 0 0]) (c := [v10]) (C' := [.int .i64 0, v8, v10]) rfl (one_cells h10.one) rfl rfl rfl (fill_nil)))) rfl ?_
     have rc6 : RC OTMatch 3 Φ_13 ([(ob v8 ++ []) ++ ((ob v10 ++ []))] : List (List Nat)) [.int .i64 0, v8, v10] ([(⟨0, x7, x8⟩ : TMatch)] : List TMatch) := RC.cons (c := [.int .i64 0, v8, v10]) (cells := []) ⟨v8, v10, rfl, rfl, h8, h10⟩ rfl (RC.nil _ _ _)
     refine WM.one 11 (by kernel_rfl) (me rfl (fun _ v Φx D w1 hq hw => Kn.of (fun k hk o ho => hq.1 k o (by simp) ((fun k hk o ho => fr12 k o ((ap6.r (i := 1) rfl) k hk) ((fun k hk o ho => fr11 k o (by simp) ((fun k hk o ho => fr10 k o ((ap5.r (i := 0) rfl) k hk) ((fun k hk o ho => fr9 k o (by simp) ((fun _ _ _ h => h) k hk o ho)) k hk o ho)) k hk o ho)) k hk o ho)) k hk o ho)) (AllIn.mem ⟨List.mem_of_getElem? (i := 0) rfl, List.mem_of_getElem? (i := 1) rfl, trivial⟩) hw) (e_lit (vs := [(0, .agg [.int .i64 0, v8, v10].toArray)]) (C := #[.int .i64 0, v8, v10]) OTMatch.lasts Sl_75 Zr_81 rfl rfl rfl rfl (fill_made MC_81_1 (fill_cons (cells := [.int .i64 0, .slice none 0 0, .slice none 0 0]) (c := [.int .i64 0, v8, v10]) (C' := [.int .i64 0, v8, v10]) rfl rfl rfl rfl rfl (fill_nil))) rfl rc6 rfl (RC.kn OTMatch.knows rc6)) rfl (fun v11 Φ_14 D12 q11 => ?_))
     obtain ⟨fr13, h11⟩ := q11
     replace h11 : OSl OTMatch 81 3 Φ_14 ((ob v8 ++ []) ++ ((ob v10 ++ []))) v11 ([(⟨0, x7, x8⟩ : TMatch)] : List TMatch) := by simpa [List.append_assoc] using h11
     replace ph0 := ph0.frame OTMatch.lasts fr13 (Dj.empty _) (Dj.empty _)
     replace pp0 := fr13 _ _ (by simp) pp0
     refine WM.conv (S' := St w0 Φ_14 [(b_2, .cells #[pv2_0, .int .i64 p2.Next] 101 (0, 0)), (b_1, .cells #[.string p1.Name, .int .i64 p1.Sal, pv1_0, pv1_1, pv1_2] 66 (0, 0))] [((ob v8 ++ []) ++ ((ob v10 ++ []))), ob v11, [pb0], ob pv0, pD0]) (fun w1 hw => hw.merge (js := [2, 1]) rfl (SP.eq (by simp [List.append_assoc, ob_nil]))) ?_
     obtain ⟨x9, hx9, h⟩ := bind_some h
     refine WM.one 12 (by kernel_rfl) (me rfl (fun _ v Φx D w1 hq hw => Kn.of (fun k hk o ho => hq.1.2 k o ((hq.1.1.r (i := 2) rfl) k hk) ((fun k hk o ho => fr13 k o (by simp) ((fun k hk o ho => fr12 k o ((ap6.r (i := 1) rfl) k hk) ((fun k hk o ho => fr11 k o (by simp) ((fun k hk o ho => fr10 k o ((ap5.r (i := 0) rfl) k hk) ((fun k hk o ho => fr9 k o (by simp) ((fun _ _ _ h => h) k hk o ho)) k hk o ho)) k hk o ho)) k hk o ho)) k hk o ho)) k hk o ho)) (AllIn.mem ⟨List.mem_of_getElem? (i := 0) rfl, List.mem_of_getElem? (i := 1) rfl, trivial⟩) hw) (e_appO OTMatch.lasts OTMatch.one Sl_75 Ei_81 rfl rfl rfl rfl rfl (js := [3]) (Rr := [((ob v8 ++ []) ++ ((ob v10 ++ []))), ob v11, [pb0], pD0]) rfl ph0 h11 (fun ap => (ap.r (i := 3) rfl)) (fun ap => (ap.r (i := 0) rfl)) hx9) rfl (fun v12 Φ_15 D13 q12 => ?_))
     obtain ⟨⟨ap7, fr14⟩, h12⟩ := q12
     replace pp0 := fr14 _ _ ((ap7.r (i := 2) rfl) _ (by simp)) pp0
     refine WM.conv (S' := St w0 Φ_15 [(b_2, .cells #[pv2_0, .int .i64 p2.Next] 101 (0, 0)), (b_1, .cells #[.string p1.Name, .int .i64 p1.Sal, pv1_0, pv1_1, pv1_2] 66 (0, 0))] [(pD0 ++ ((ob v8 ++ []) ++ ((ob v10 ++ [])))), ob v12, ob v11, [pb0]]) (fun w1 hw => hw.merge (js := [4, 1]) rfl (SP.eq (by simp))) <| mq 13 rfl (by kernel_rfl) (fun w1 hw => Kn.of (fun k hk o ho => fr14 k o ((ap7.r (i := 2) rfl) k hk) ((fun k hk o ho => fr13 k o (by simp) ((fun k hk o ho => fr12 k o ((ap6.r (i := 1) rfl) k hk) ((fun k hk o ho => fr11 k o (by simp) ((fun k hk o ho => fr10 k o ((ap5.r (i := 0) rfl) k hk) ((fun k hk o ho => fr9 k o (by simp) ((fun _ _ _ h => h) k hk o ho)) k hk o ho)) k hk o ho)) k hk o ho)) k hk o ho)) k hk o ho)) (AllIn.mem ⟨List.mem_of_getElem? (i := 0) rfl, List.mem_of_getElem? (i := 1) rfl, trivial⟩) hw) (q_nilCheck rfl) rfl ?_
     refine WM.thw (js := [3]) (R := [(pD0 ++ ((ob v8 ++ []) ++ ((ob v10 ++ [])))), ob v12, ob v11]) rfl pp0 (fun Φ_16 ap8 fr15 => ?_)
     replace h12 := h12.frame OTMatch.lasts fr15 (ap8.r (i := 1) rfl) (ap8.r (i := 0) rfl)
     refine WM.one 14 (by kernel_rfl) (ms rfl (fun hc => by cases hc) (s_store (i := 0) (vs := [v12]) (C' := [v12]) (O' := [(pb0, .cells #[v12] 75 (0, 0)), (b_2, .cells #[pv2_0, .int .i64 p2.Next] 101 (0, 0)), (b_1, .cells #[.string p1.Name, .int .i64 p1.Sal, pv1_0, pv1_1, pv1_2] 66 (0, 0))]) Sz_75 rfl rfl rfl (one_cells h12.one) rfl rfl ⟨h12.one, trivial⟩ rfl rfl) rfl ?_)
     refine WM.nil (by kernel_rfl) <| WT.mono (l' := []) (S' := St w0 Φ_16 [(pb0, .cells #[v12] 75 (0, 0))] [(pD0 ++ ((ob v8 ++ []) ++ ((ob v10 ++ [])))), ob v12]) trivial (fun w1 hw => (hw.sel (js := [0, 0]) rfl).selO (js := [0]) rfl) ?_
     exact K (Φ_16, x9, v12, (pD0 ++ ((ob v8 ++ []) ++ ((ob v10 ++ []))))) ⟨h, h12⟩
    have rc7 : RC RTBind 4 Φ_10 ([] : List (List Nat)) [] ([] : List TBind) := RC.nil _ _ _
    refine me rfl (fun _ v Φx D w1 hq hw => Kn.of (fun k hk o ho => hq.1 k o (by simp) ((fun k hk o ho => fr9 k o (by simp) ((fun _ _ _ h => h) k hk o ho)) k hk o ho)) (AllIn.mem ⟨List.mem_of_getElem? (i := 0) rfl, List.mem_of_getElem? (i := 1) rfl, trivial⟩) hw) (e_lit (vs := []) (C := #[]) RTBind.lasts Sl_79 Zr_194 rfl rfl rfl rfl (fill_made MC_194_0 (fill_nil)) rfl rc7 rfl (by simpa using Kw.nil)) rfl (fun v13 Φ_17 D14 q13 => ?_)
    obtain ⟨fr16, h13⟩ := q13
    replace h13 : OSl RTBind 194 4 Φ_17 [] v13 ([] : List TBind) := by simpa using h13
    replace ph3 := ph3.frame RI.lasts fr16 (Dj.empty _)
    replace ph4 := ph4.frame RTBind.lasts fr16 (Dj.empty _)
    replace ph0 := ph0.frame OTMatch.lasts fr16 (Dj.empty _) (Dj.empty _)
    replace h7 := h7.frame RI.lasts fr16 (Dj.empty _) (Dj.empty _)
    replace pp0 := fr16 _ _ (by simp) pp0
    obtain ⟨x10, hx10, h⟩ := bind_some h
    refine WM.one 6 (by kernel_rfl) (me rfl (fun _ v Φx D w1 hq hw => Kn.of (fun k hk o ho => hq.1.2 k o ((hq.1.1.r (i := 1) rfl) k hk) ((fun k hk o ho => fr16 k o (by simp) ((fun k hk o ho => fr9 k o (by simp) ((fun _ _ _ h => h) k hk o ho)) k hk o ho)) k hk o ho)) (AllIn.mem ⟨List.mem_of_getElem? (i := 0) rfl, List.mem_of_getElem? (i := 1) rfl, trivial⟩) hw) (e_appF RI.lasts RI.one RI.flat Sl_78 Ei_3 rfl rfl rfl rfl rfl (js := [1]) (Rr := [ob v13, [pb0], ob pv0, pD0]) rfl h7 ph3 hx10) rfl (fun v14 Φ_18 D15 q14 => ?_))
    obtain ⟨⟨ap9, fr17⟩, h14⟩ := q14
    replace ph4 := ph4.frame RTBind.lasts fr17 (ap9.o pa4)
    replace ph0 := ph0.frame OTMatch.lasts fr17 (ap9.r (i := 2) rfl) (ap9.r (i := 3) rfl)
    replace h13 := h13.frame RTBind.lasts fr17 (ap9.r (i := 0) rfl) (Dj.nil _)
    replace pp0 := fr17 _ _ ((ap9.r (i := 1) rfl) _ (by simp)) pp0
    obtain ⟨x11, hx11, h⟩ := bind_some h
    refine WM.one 9 (by kernel_rfl) (me rfl (fun _ v Φx D w1 hq hw => Kn.of (fun k hk o ho => hq.1.2 k o ((hq.1.1.r (i := 1) rfl) k hk) ((fun k hk o ho => fr17 k o ((ap9.r (i := 1) rfl) k hk) ((fun k hk o ho => fr16 k o (by simp) ((fun k hk o ho => fr9 k o (by simp) ((fun _ _ _ h => h) k hk o ho)) k hk o ho)) k hk o ho)) k hk o ho)) (AllIn.mem ⟨List.mem_of_getElem? (i := 0) rfl, List.mem_of_getElem? (i := 1) rfl, trivial⟩) hw) (e_appF RTBind.lasts RTBind.one RTBind.flat Sl_79 Ei_194 rfl rfl rfl rfl rfl (js := [1]) (Rr := [ob v14, [pb0], ob pv0, pD0]) rfl h13 ph4 hx11) rfl (fun v15 Φ_19 D16 q15 => ?_))
    obtain ⟨⟨ap10, fr18⟩, h15⟩ := q15
    replace ph0 := ph0.frame OTMatch.lasts fr18 (ap10.r (i := 2) rfl) (ap10.r (i := 3) rfl)
    replace h14 := h14.frame RI.lasts fr18 (ap10.r (i := 0) rfl) (Dj.nil _)
    replace pp0 := fr18 _ _ ((ap10.r (i := 1) rfl) _ (by simp)) pp0
    refine mq 10 rfl (by kernel_rfl) (fun w1 hw => Kn.of (fun k hk o ho => fr18 k o ((ap10.r (i := 1) rfl) k hk) ((fun k hk o ho => fr17 k o ((ap9.r (i := 1) rfl) k hk) ((fun k hk o ho => fr16 k o (by simp) ((fun k hk o ho => fr9 k o (by simp) ((fun _ _ _ h => h) k hk o ho)) k hk o ho)) k hk o ho)) k hk o ho)) (AllIn.mem ⟨List.mem_of_getElem? (i := 0) rfl, List.mem_of_getElem? (i := 1) rfl, trivial⟩) hw) (q_build (vs := [(1, v14), (2, v15)]) (C := #[.int .i64 0, v14, v15]) Pl_81 Zr_81 rfl (fill_cons (cells := [.int .i64 0, .slice none 0 0, .slice none 0 0]) (c := [v14]) (C' := [.int .i64 0, v14, .slice none 0 0]) rfl (one_cells h14.one) rfl rfl rfl (fill_cons (cells := [.int .i64 0, v14, .slice none 0 0]) (c := [v15]) (C' := [.int .i64 0, v14, v15]) rfl (one_cells h15.one) rfl rfl rfl (fill_nil)))) rfl ?_
    have rc8 : RC OTMatch 3 Φ_19 ([(ob v14 ++ []) ++ ((ob v15 ++ []))] : List (List Nat)) [.int .i64 0, v14, v15] ([(⟨0, x10, x11⟩ : TMatch)] : List TMatch) := RC.cons (c := [.int .i64 0, v14, v15]) (cells := []) ⟨v14, v15, rfl, rfl, h14, h15⟩ rfl (RC.nil _ _ _)
    refine WM.one 11 (by kernel_rfl) (me rfl (fun _ v Φx D w1 hq hw => Kn.of (fun k hk o ho => hq.1 k o (by simp) ((fun k hk o ho => fr18 k o ((ap10.r (i := 1) rfl) k hk) ((fun k hk o ho => fr17 k o ((ap9.r (i := 1) rfl) k hk) ((fun k hk o ho => fr16 k o (by simp) ((fun k hk o ho => fr9 k o (by simp) ((fun _ _ _ h => h) k hk o ho)) k hk o ho)) k hk o ho)) k hk o ho)) k hk o ho)) (AllIn.mem ⟨List.mem_of_getElem? (i := 0) rfl, List.mem_of_getElem? (i := 1) rfl, trivial⟩) hw) (e_lit (vs := [(0, .agg [.int .i64 0, v14, v15].toArray)]) (C := #[.int .i64 0, v14, v15]) OTMatch.lasts Sl_75 Zr_81 rfl rfl rfl rfl (fill_made MC_81_1 (fill_cons (cells := [.int .i64 0, .slice none 0 0, .slice none 0 0]) (c := [.int .i64 0, v14, v15]) (C' := [.int .i64 0, v14, v15]) rfl rfl rfl rfl rfl (fill_nil))) rfl rc8 rfl (RC.kn OTMatch.knows rc8)) rfl (fun v16 Φ_20 D17 q16 => ?_))
    obtain ⟨fr19, h16⟩ := q16
    replace h16 : OSl OTMatch 81 3 Φ_20 ((ob v14 ++ []) ++ ((ob v15 ++ []))) v16 ([(⟨0, x10, x11⟩ : TMatch)] : List TMatch) := by simpa [List.append_assoc] using h16
    replace ph0 := ph0.frame OTMatch.lasts fr19 (Dj.empty _) (Dj.empty _)
    replace pp0 := fr19 _ _ (by simp) pp0
    refine WM.conv (S' := St w0 Φ_20 [(b_2, .cells #[pv2_0, .int .i64 p2.Next] 101 (0, 0)), (b_1, .cells #[.string p1.Name, .int .i64 p1.Sal, pv1_0, pv1_1, pv1_2] 66 (0, 0))] [((ob v14 ++ []) ++ ((ob v15 ++ []))), ob v16, [pb0], ob pv0, pD0]) (fun w1 hw => hw.merge (js := [2, 1]) rfl (SP.eq (by simp [List.append_assoc, ob_nil]))) ?_
    obtain ⟨x12, hx12, h⟩ := bind_some h
    refine WM.one 12 (by kernel_rfl) (me rfl (fun _ v Φx D w1 hq hw => Kn.of (fun k hk o ho => hq.1.2 k o ((hq.1.1.r (i := 2) rfl) k hk) ((fun k hk o ho => fr19 k o (by simp) ((fun k hk o ho => fr18 k o ((ap10.r (i := 1) rfl) k hk) ((fun k hk o ho => fr17 k o ((ap9.r (i := 1) rfl) k hk) ((fun k hk o ho => fr16 k o (by simp) ((fun k hk o ho => fr9 k o (by simp) ((fun _ _ _ h => h) k hk o ho)) k hk o ho)) k hk o ho)) k hk o ho)) k hk o ho)) k hk o ho)) (AllIn.mem ⟨List.mem_of_getElem? (i := 0) rfl, List.mem_of_getElem? (i := 1) rfl, trivial⟩) hw) (e_appO OTMatch.lasts OTMatch.one Sl_75 Ei_81 rfl rfl rfl rfl rfl (js := [3]) (Rr := [((ob v14 ++ []) ++ ((ob v15 ++ []))), ob v16, [pb0], pD0]) rfl ph0 h16 (fun ap => (ap.r (i := 3) rfl)) (fun ap => (ap.r (i := 0) rfl)) hx12) rfl (fun v17 Φ_21 D18 q17 => ?_))
    obtain ⟨⟨ap11, fr20⟩, h17⟩ := q17
    replace pp0 := fr20 _ _ ((ap11.r (i := 2) rfl) _ (by simp)) pp0
    refine WM.conv (S' := St w0 Φ_21 [(b_2, .cells #[pv2_0, .int .i64 p2.Next] 101 (0, 0)), (b_1, .cells #[.string p1.Name, .int .i64 p1.Sal, pv1_0, pv1_1, pv1_2] 66 (0, 0))] [(pD0 ++ ((ob v14 ++ []) ++ ((ob v15 ++ [])))), ob v17, ob v16, [pb0]]) (fun w1 hw => hw.merge (js := [4, 1]) rfl (SP.eq (by simp))) <| mq 13 rfl (by kernel_rfl) (fun w1 hw => Kn.of (fun k hk o ho => fr20 k o ((ap11.r (i := 2) rfl) k hk) ((fun k hk o ho => fr19 k o (by simp) ((fun k hk o ho => fr18 k o ((ap10.r (i := 1) rfl) k hk) ((fun k hk o ho => fr17 k o ((ap9.r (i := 1) rfl) k hk) ((fun k hk o ho => fr16 k o (by simp) ((fun k hk o ho => fr9 k o (by simp) ((fun _ _ _ h => h) k hk o ho)) k hk o ho)) k hk o ho)) k hk o ho)) k hk o ho)) k hk o ho)) (AllIn.mem ⟨List.mem_of_getElem? (i := 0) rfl, List.mem_of_getElem? (i := 1) rfl, trivial⟩) hw) (q_nilCheck rfl) rfl ?_
    refine WM.thw (js := [3]) (R := [(pD0 ++ ((ob v14 ++ []) ++ ((ob v15 ++ [])))), ob v17, ob v16]) rfl pp0 (fun Φ_22 ap12 fr21 => ?_)
    replace h17 := h17.frame OTMatch.lasts fr21 (ap12.r (i := 1) rfl) (ap12.r (i := 0) rfl)
    refine WM.one 14 (by kernel_rfl) (ms rfl (fun hc => by cases hc) (s_store (i := 0) (vs := [v17]) (C' := [v17]) (O' := [(pb0, .cells #[v17] 75 (0, 0)), (b_2, .cells #[pv2_0, .int .i64 p2.Next] 101 (0, 0)), (b_1, .cells #[.string p1.Name, .int .i64 p1.Sal, pv1_0, pv1_1, pv1_2] 66 (0, 0))]) Sz_75 rfl rfl rfl (one_cells h17.one) rfl rfl ⟨h17.one, trivial⟩ rfl rfl) rfl ?_)
    refine WM.nil (by kernel_rfl) <| WT.mono (l' := []) (S' := St w0 Φ_22 [(pb0, .cells #[v17] 75 (0, 0))] [(pD0 ++ ((ob v14 ++ []) ++ ((ob v15 ++ [])))), ob v17]) trivial (fun w1 hw => (hw.sel (js := [0, 0]) rfl).selO (js := [0]) rfl) ?_
    exact K (Φ_22, x12, v17, (pD0 ++ ((ob v14 ++ []) ++ ((ob v15 ++ []))))) ⟨h, h17⟩
   have rc9 : RC RTBind 4 Φ ([] : List (List Nat)) [] ([] : List TBind) := RC.nil _ _ _
   refine me rfl (fun _ v Φx D w1 hq hw => Kn.of (fun k hk o ho => hq.1 k o (by simp) ((fun _ _ _ h => h) k hk o ho)) (AllIn.mem ⟨List.mem_of_getElem? (i := 0) rfl, List.mem_of_getElem? (i := 1) rfl, trivial⟩) hw) (e_lit (vs := []) (C := #[]) RTBind.lasts Sl_79 Zr_194 rfl rfl rfl rfl (fill_made MC_194_0 (fill_nil)) rfl rc9 rfl (by simpa using Kw.nil)) rfl (fun v18 Φ_23 D19 q18 => ?_)
   obtain ⟨fr22, h18⟩ := q18
   replace h18 : OSl RTBind 194 4 Φ_23 [] v18 ([] : List TBind) := by simpa using h18
   replace ph3 := ph3.frame RI.lasts fr22 (Dj.empty _)
   replace ph4 := ph4.frame RTBind.lasts fr22 (Dj.empty _)
   replace ph0 := ph0.frame OTMatch.lasts fr22 (Dj.empty _) (Dj.empty _)
   replace pp0 := fr22 _ _ (by simp) pp0
   have rc10 : RC (RI .i64) 1 Φ_23 ([] : List (List Nat)) [] ([] : List Int) := RC.nil _ _ _
   refine WM.one 4 (by kernel_rfl) (me rfl (fun _ v Φx D w1 hq hw => Kn.of (fun k hk o ho => hq.1 k o (by simp) ((fun k hk o ho => fr22 k o (by simp) ((fun _ _ _ h => h) k hk o ho)) k hk o ho)) (AllIn.mem ⟨List.mem_of_getElem? (i := 0) rfl, List.mem_of_getElem? (i := 1) rfl, trivial⟩) hw) (e_lit (vs := []) (C := #[]) RI.lasts Sl_78 Zr_3 rfl rfl rfl rfl (fill_made MC_3_0 (fill_nil)) rfl rc10 rfl (by simpa using Kw.nil)) rfl (fun v19 Φ_24 D20 q19 => ?_))
   obtain ⟨fr23, h19⟩ := q19
   replace h19 : OSl (RI .i64) 3 1 Φ_24 [] v19 ([] : List Int) := by simpa using h19
   replace ph3 := ph3.frame RI.lasts fr23 (Dj.empty _)
   replace ph4 := ph4.frame RTBind.lasts fr23 (Dj.empty _)
   replace ph0 := ph0.frame OTMatch.lasts fr23 (Dj.empty _) (Dj.empty _)
   replace h18 := h18.frame RTBind.lasts fr23 (Dj.empty _) (Dj.empty _)
   replace pp0 := fr23 _ _ (by simp) pp0
   obtain ⟨x13, hx13, h⟩ := bind_some h
   refine WM.one 6 (by kernel_rfl) (me rfl (fun _ v Φx D w1 hq hw => Kn.of (fun k hk o ho => hq.1.2 k o ((hq.1.1.r (i := 1) rfl) k hk) ((fun k hk o ho => fr23 k o (by simp) ((fun k hk o ho => fr22 k o (by simp) ((fun _ _ _ h => h) k hk o ho)) k hk o ho)) k hk o ho)) (AllIn.mem ⟨List.mem_of_getElem? (i := 0) rfl, List.mem_of_getElem? (i := 1) rfl, trivial⟩) hw) (e_appF RI.lasts RI.one RI.flat Sl_78 Ei_3 rfl rfl rfl rfl rfl (js := [0]) (Rr := [ob v18, [pb0], ob pv0, pD0]) rfl h19 ph3 hx13) rfl (fun v20 Φ_25 D21 q20 => ?_))
   obtain ⟨⟨ap13, fr24⟩, h20⟩ := q20
   replace ph4 := ph4.frame RTBind.lasts fr24 (ap13.o pa4)
   replace ph0 := ph0.frame OTMatch.lasts fr24 (ap13.r (i := 2) rfl) (ap13.r (i := 3) rfl)
   replace h18 := h18.frame RTBind.lasts fr24 (ap13.r (i := 0) rfl) (Dj.nil _)
   replace pp0 := fr24 _ _ ((ap13.r (i := 1) rfl) _ (by simp)) pp0
   obtain ⟨x14, hx14, h⟩ := bind_some h
   refine WM.one 9 (by kernel_rfl) (me rfl (fun _ v Φx D w1 hq hw => Kn.of (fun k hk o ho => hq.1.2 k o ((hq.1.1.r (i := 1) rfl) k hk) ((fun k hk o ho => fr24 k o ((ap13.r (i := 1) rfl) k hk) ((fun k hk o ho => fr23 k o (by simp) ((fun k hk o ho => fr22 k o (by simp) ((fun _ _ _ h => h) k hk o ho)) k hk o ho)) k hk o ho)) k hk o ho)) (AllIn.mem ⟨List.mem_of_getElem? (i := 0) rfl, List.mem_of_getElem? (i := 1) rfl, trivial⟩) hw) (e_appF RTBind.lasts RTBind.one RTBind.flat Sl_79 Ei_194 rfl rfl rfl rfl rfl (js := [1]) (Rr := [ob v20, [pb0], ob pv0, pD0]) rfl h18 ph4 hx14) rfl (fun v21 Φ_26 D22 q21 => ?_))
   obtain ⟨⟨ap14, fr25⟩, h21⟩ := q21
   replace ph0 := ph0.frame OTMatch.lasts fr25 (ap14.r (i := 2) rfl) (ap14.r (i := 3) rfl)
   replace h20 := h20.frame RI.lasts fr25 (ap14.r (i := 0) rfl) (Dj.nil _)
   replace pp0 := fr25 _ _ ((ap14.r (i := 1) rfl) _ (by simp)) pp0
   refine mq 10 rfl (by kernel_rfl) (fun w1 hw => Kn.of (fun k hk o ho => fr25 k o ((ap14.r (i := 1) rfl) k hk) ((fun k hk o ho => fr24 k o ((ap13.r (i := 1) rfl) k hk) ((fun k hk o ho => fr23 k o (by simp) ((fun k hk o ho => fr22 k o (by simp) ((fun _ _ _ h => h) k hk o ho)) k hk o ho)) k hk o ho)) k hk o ho)) (AllIn.mem ⟨List.mem_of_getElem? (i := 0) rfl, List.mem_of_getElem? (i := 1) rfl, trivial⟩) hw) (q_build (vs := [(1, v20), (2, v21)]) (C := #[.int .i64 0, v20, v21]) Pl_81 Zr_81 rfl (fill_cons (cells := [.int .i64 0, .slice none 0 0, .slice none 0 0]) (c := [v20]) (C' := [.int .i64 0, v20, .slice none 0 0]) rfl (one_cells h20.one) rfl rfl rfl (fill_cons (cells := [.int .i64 0, v20, .slice none 0 0]) (c := [v21]) (C' := [.int .i64 0, v20, v21]) rfl (one_cells h21.one) rfl rfl rfl (fill_nil)))) rfl ?_
   have rc11 : RC OTMatch 3 Φ_26 ([(ob v20 ++ []) ++ ((ob v21 ++ []))] : List (List Nat)) [.int .i64 0, v20, v21] ([(⟨0, x13, x14⟩ : TMatch)] : List TMatch) := RC.cons (c := [.int .i64 0, v20, v21]) (cells := []) ⟨v20, v21, rfl, rfl, h20, h21⟩ rfl (RC.nil _ _ _)
   refine WM.one 11 (by kernel_rfl) (me rfl (fun _ v Φx D w1 hq hw => Kn.of (fun k hk o ho => hq.1 k o (by simp) ((fun k hk o ho => fr25 k o ((ap14.r (i := 1) rfl) k hk) ((fun k hk o ho => fr24 k o ((ap13.r (i := 1) rfl) k hk) ((fun k hk o ho => fr23 k o (by simp) ((fun k hk o ho => fr22 k o (by simp) ((fun _ _ _ h => h) k hk o ho)) k hk o ho)) k hk o ho)) k hk o ho)) k hk o ho)) (AllIn.mem ⟨List.mem_of_getElem? (i := 0) rfl, List.mem_of_getElem? (i := 1) rfl, trivial⟩) hw) (e_lit (vs := [(0, .agg [.int .i64 0, v20, v21].toArray)]) (C := #[.int .i64 0, v20, v21]) OTMatch.lasts Sl_75 Zr_81 rfl rfl rfl rfl (fill_made MC_81_1 (fill_cons (cells := [.int .i64 0, .slice none 0 0, .slice none 0 0]) (c := [.int .i64 0, v20, v21]) (C' := [.int .i64 0, v20, v21]) rfl rfl rfl rfl rfl (fill_nil))) rfl rc11 rfl (RC.kn OTMatch.knows rc11)) rfl (fun v22 Φ_27 D23 q22 => ?_))
   obtain ⟨fr26, h22⟩ := q22
   replace h22 : OSl OTMatch 81 3 Φ_27 ((ob v20 ++ []) ++ ((ob v21 ++ []))) v22 ([(⟨0, x13, x14⟩ : TMatch)] : List TMatch) := by simpa [List.append_assoc] using h22
   replace ph0 := ph0.frame OTMatch.lasts fr26 (Dj.empty _) (Dj.empty _)
   replace pp0 := fr26 _ _ (by simp) pp0
   refine WM.conv (S' := St w0 Φ_27 [(b_2, .cells #[pv2_0, .int .i64 p2.Next] 101 (0, 0)), (b_1, .cells #[.string p1.Name, .int .i64 p1.Sal, pv1_0, pv1_1, pv1_2] 66 (0, 0))] [((ob v20 ++ []) ++ ((ob v21 ++ []))), ob v22, [pb0], ob pv0, pD0]) (fun w1 hw => hw.merge (js := [2, 1]) rfl (SP.eq (by simp [List.append_assoc, ob_nil]))) ?_
   obtain ⟨x15, hx15, h⟩ := bind_some h
   refine WM.one 12 (by kernel_rfl) (me rfl (fun _ v Φx D w1 hq hw => Kn.of (fun k hk o ho => hq.1.2 k o ((hq.1.1.r (i := 2) rfl) k hk) ((fun k hk o ho => fr26 k o (by simp) ((fun k hk o ho => fr25 k o ((ap14.r (i := 1) rfl) k hk) ((fun k hk o ho => fr24 k o ((ap13.r (i := 1) rfl) k hk) ((fun k hk o ho => fr23 k o (by simp) ((fun k hk o ho => fr22 k o (by simp) ((fun _ _ _ h => h) k hk o ho)) k hk o ho)) k hk o ho)) k hk o ho)) k hk o ho)) k hk o ho)) (AllIn.mem ⟨List.mem_of_getElem? (i := 0) rfl, List.mem_of_getElem? (i := 1) rfl, trivial⟩) hw) (e_appO OTMatch.lasts OTMatch.one Sl_75 Ei_81 rfl rfl rfl rfl rfl (js := [3]) (Rr := [((ob v20 ++ []) ++ ((ob v21 ++ []))), ob v22, [pb0], pD0]) rfl ph0 h22 (fun ap => (ap.r (i := 3) rfl)) (fun ap => (ap.r (i := 0) rfl)) hx15) rfl (fun v23 Φ_28 D24 q23 => ?_))
   obtain ⟨⟨ap15, fr27⟩, h23⟩ := q23
   replace pp0 := fr27 _ _ ((ap15.r (i := 2) rfl) _ (by simp)) pp0
   refine WM.conv (S' := St w0 Φ_28 [(b_2, .cells #[pv2_0, .int .i64 p2.Next] 101 (0, 0)), (b_1, .cells #[.string p1.Name, .int .i64 p1.Sal, pv1_0, pv1_1, pv1_2] 66 (0, 0))] [(pD0 ++ ((ob v20 ++ []) ++ ((ob v21 ++ [])))), ob v23, ob v22, [pb0]]) (fun w1 hw => hw.merge (js := [4, 1]) rfl (SP.eq (by simp))) <| mq 13 rfl (by kernel_rfl) (fun w1 hw => Kn.of (fun k hk o ho => fr27 k o ((ap15.r (i := 2) rfl) k hk) ((fun k hk o ho => fr26 k o (by simp) ((fun k hk o ho => fr25 k o ((ap14.r (i := 1) rfl) k hk) ((fun k hk o ho => fr24 k o ((ap13.r (i := 1) rfl) k hk) ((fun k hk o ho => fr23 k o (by simp) ((fun k hk o ho => fr22 k o (by simp) ((fun _ _ _ h => h) k hk o ho)) k hk o ho)) k hk o ho)) k hk o ho)) k hk o ho)) k hk o ho)) (AllIn.mem ⟨List.mem_of_getElem? (i := 0) rfl, List.mem_of_getElem? (i := 1) rfl, trivial⟩) hw) (q_nilCheck rfl) rfl ?_
   refine WM.thw (js := [3]) (R := [(pD0 ++ ((ob v20 ++ []) ++ ((ob v21 ++ [])))), ob v23, ob v22]) rfl pp0 (fun Φ_29 ap16 fr28 => ?_)
   replace h23 := h23.frame OTMatch.lasts fr28 (ap16.r (i := 1) rfl) (ap16.r (i := 0) rfl)
   refine WM.one 14 (by kernel_rfl) (ms rfl (fun hc => by cases hc) (s_store (i := 0) (vs := [v23]) (C' := [v23]) (O' := [(pb0, .cells #[v23] 75 (0, 0)), (b_2, .cells #[pv2_0, .int .i64 p2.Next] 101 (0, 0)), (b_1, .cells #[.string p1.Name, .int .i64 p1.Sal, pv1_0, pv1_1, pv1_2] 66 (0, 0))]) Sz_75 rfl rfl rfl (one_cells h23.one) rfl rfl ⟨h23.one, trivial⟩ rfl rfl) rfl ?_)
   refine WM.nil (by kernel_rfl) <| WT.mono (l' := []) (S' := St w0 Φ_29 [(pb0, .cells #[v23] 75 (0, 0))] [(pD0 ++ ((ob v20 ++ []) ++ ((ob v21 ++ [])))), ob v23]) trivial (fun w1 hw => (hw.sel (js := [0, 0]) rfl).selO (js := [0]) rfl) ?_
   exact K (Φ_29, x15, v23, (pD0 ++ ((ob v20 ++ []) ++ ((ob v21 ++ []))))) ⟨h, h23⟩
  replace h := ite_f h c3
  refine WT.skip ?_
  refine WT.ret Try.func244 resOk.none (fun w1 hw => ?_)
  subst hb0
  cases h
  refine postG_of_St (js := [0, 0, 0]) hw rfl ⟨pv0, pD0, rfl, rfl, ph0, pp0⟩
 replace h := ite_f h c1
 refine WT.skip <| WT.seq <| WT.region <| lq (q_assign rfl) rfl <| WL.nil <| WT.block <| WT.loop <| WT.mono (l' := [(0, .pointer (some ⟨pb0, 0, none⟩)), (3, pv3), (4, pv4), (6, .pointer (some ⟨b_1, 0, none⟩)), (7, .pointer (some ⟨b_2, 0, none⟩)), (10, .int .i64 0)]) (S' := St w0 Φ [(b_2, .cells #[pv2_0, .int .i64 p2.Next] 101 (0, 0)), (b_1, .cells #[.string p1.Name, .int .i64 p1.Sal, pv1_0, pv1_1, pv1_2] 66 (0, 0))] [[pb0], ob pv0, pD0]) ⟨rfl, rfl, rfl, rfl, rfl, rfl, trivial⟩ (fun w1 hw => (hw.sel (js := [0, 0, 0]) rfl).selO (js := [0, 0]) rfl) ?_
 refine loop_ind (σ := Hp × (List TMatch) × Value × List Nat × Int) (fun s => [(0, .pointer (some ⟨pb0, 0, none⟩)), (3, pv3), (4, pv4), (6, .pointer (some ⟨b_1, 0, none⟩)), (7, .pointer (some ⟨b_2, 0, none⟩)), (10, .int .i64 s.2.2.2.2)]) (fun s => St w0 s.1 [(b_2, .cells #[pv2_0, .int .i64 p2.Next] 101 (0, 0)), (b_1, .cells #[.string p1.Name, .int .i64 p1.Sal, pv1_0, pv1_1, pv1_2] 66 (0, 0))] [[pb0], ob s.2.2.1, s.2.2.2.1]) (fun m s => m_s_l11Rows_l2 N p1 p2 p3 p4 (m_s_l11Rows N) m s.2.1 s.2.2.2.2 = some r ∧ (OSl OTMatch 81 3 s.1 s.2.2.2.1 s.2.2.1 s.2.1) ∧ (s.1 pb0 = some (.cells #[s.2.2.1] 75 (0, 0))) ∧ (RSl (RI .i64) 1 s.1 pG3 pv3 p3) ∧ (RSl RTBind 4 s.1 pG4 pv4 p4) ∧ (RSl RTPat 3 s.1 pG1_0 pv1_0 p1.Pats) ∧ (RSl RTCond 11 s.1 pG1_1 pv1_1 p1.Conds) ∧ (RSl RTAct 5 s.1 pG1_2 pv1_2 p1.Acts) ∧ (RSl RTItem 3 s.1 pG2_0 pv2_0 p2.Items)) (fun s hm => none_ne (show (none : Option ((List TMatch))) = some r from hm.1)) (fun n2 ih2 s hm => ?_) N (Φ, p0, pv0, pD0, 0) ⟨h, ph0, pp0, ph3, ph4, ph1_0, ph1_1, ph1_2, ph2_0⟩
 obtain ⟨Φ_30, s2, u2, D25, s3⟩ := s
 obtain ⟨h, k3, k4, ph3, ph4, ph1_0, ph1_1, ph1_2, ph2_0⟩ := hm
 replace h : m_s_l11Rows_l2 N p1 p2 p3 p4 (m_s_l11Rows N) (n2 + 1) s2 s3 = some r := h
 replace k3 : OSl OTMatch 81 3 Φ_30 D25 u2 s2 := k3
 replace k4 : Φ_30 pb0 = some (.cells #[u2] 75 (0, 0)) := k4
 replace ph3 : RSl (RI .i64) 1 Φ_30 pG3 pv3 p3 := ph3
 replace ph4 : RSl RTBind 4 Φ_30 pG4 pv4 p4 := ph4
 replace ph1_0 : RSl RTPat 3 Φ_30 pG1_0 pv1_0 p1.Pats := ph1_0
 replace ph1_1 : RSl RTCond 11 Φ_30 pG1_1 pv1_1 p1.Conds := ph1_1
 replace ph1_2 : RSl RTAct 5 Φ_30 pG1_2 pv1_2 p1.Acts := ph1_2
 replace ph2_0 : RSl RTItem 3 Φ_30 pG2_0 pv2_0 p2.Items := ph2_0
 show WT _ _ [(0, .pointer (some ⟨pb0, 0, none⟩)), (3, pv3), (4, pv4), (6, .pointer (some ⟨b_1, 0, none⟩)), (7, .pointer (some ⟨b_2, 0, none⟩)), (10, .int .i64 s3)] (St w0 Φ_30 [(b_2, .cells #[pv2_0, .int .i64 p2.Next] 101 (0, 0)), (b_1, .cells #[.string p1.Name, .int .i64 p1.Sal, pv1_0, pv1_1, pv1_2] 66 (0, 0))] [[pb0], ob u2, D25])
 unfold m_s_l11Rows_l2 at h
 refine WT.seq <| WT.seq <| WT.region <| lq (q_move rfl) rfl <| lq (q_fieldAddr Fld_101_0 rfl) rfl <| lq (q_load1 T1_99 rfl (fun w1 hw => hw.rgO (i := 0) rfl 0 1 [pv2_0] rfl)) rfl <| lq (q_lenR Sl_99 rfl rfl ph2_0) rfl <| lq (q_lss rfl rfl) rfl <| WL.nil ?_
 refine WT.cond rfl (fun c4 => ?_) (fun c4 => ?_)
 ·replace h := ite_t h c4
  refine WT.skip <| WT.seq <| WT.block <| WT.seq <| WT.mix (Kn Φ_30 (pG1_0 ++ pG2_0) [(b_2, .cells #[pv2_0, .int .i64 p2.Next] 101 (0, 0)), (b_1, .cells #[.string p1.Name, .int .i64 p1.Sal, pv1_0, pv1_1, pv1_2] 66 (0, 0))]) (fun _ => true) mixed (fun _ h => h.drew) <| mq 0 rfl (by kernel_rfl) (fun w1 hw => Kn.of (fun _ _ _ h => h) (AllIn.mem ⟨List.mem_of_getElem? (i := 0) rfl, List.mem_of_getElem? (i := 1) rfl, trivial⟩) hw) (q_fieldAddr Fld_66_2 rfl) rfl ?_
  refine mq 1 rfl (by kernel_rfl) (fun w1 hw => Kn.of (fun _ _ _ h => h) (AllIn.mem ⟨List.mem_of_getElem? (i := 0) rfl, List.mem_of_getElem? (i := 1) rfl, trivial⟩) hw) (q_load1 T1_62 rfl (fun w1 hw => hw.rgO (i := 1) rfl 2 1 [pv1_0] rfl)) rfl <| mq 2 rfl (by kernel_rfl) (fun w1 hw => Kn.of (fun _ _ _ h => h) (AllIn.mem ⟨List.mem_of_getElem? (i := 0) rfl, List.mem_of_getElem? (i := 1) rfl, trivial⟩) hw) (q_move rfl) rfl ?_
  refine mq 3 rfl (by kernel_rfl) (fun w1 hw => Kn.of (fun _ _ _ h => h) (AllIn.mem ⟨List.mem_of_getElem? (i := 0) rfl, List.mem_of_getElem? (i := 1) rfl, trivial⟩) hw) (q_lenR Sl_78 rfl rfl ph3) rfl ?_
  obtain ⟨x16, hx16, h⟩ := bind_some h
  obtain ⟨cs1, F1, -, g1, hb1, hs1, r1⟩ := ph1_0.el (idx_some hx16).2.2
  obtain ⟨v24, G1, rfl, hq1, h24⟩ := r1
  obtain rfl := hq1.symm
  refine mq 4 rfl (by kernel_rfl) (fun w1 hw => Kn.of (fun _ _ _ h => h) (AllIn.mem ⟨List.mem_of_getElem? (i := 0) rfl, List.mem_of_getElem? (i := 1) rfl, trivial⟩) hw) (q_indexAddr Sl_62 rfl rfl ph1_0 hx16) rfl <| mq 5 rfl (by kernel_rfl) (fun w1 hw => Kn.of (fun _ _ _ h => h) (AllIn.mem ⟨List.mem_of_getElem? (i := 0) rfl, List.mem_of_getElem? (i := 1) rfl, trivial⟩) hw) (q_loadN Tn_121 rfl (fun w1 hw => hw.rg (List.mem_append.2 (.inl hb1)) (g1.of_eq 0 3 rfl rfl : rg _ _ _ [.string x16.Kind, v24, .bool x16.Not])) rfl) rfl ?_
  refine mq 6 rfl (by kernel_rfl) (fun w1 hw => Kn.of (fun _ _ _ h => h) (AllIn.mem ⟨List.mem_of_getElem? (i := 0) rfl, List.mem_of_getElem? (i := 1) rfl, trivial⟩) hw) (q_fieldAddr Fld_101_0 rfl) rfl <| mq 7 rfl (by kernel_rfl) (fun w1 hw => Kn.of (fun _ _ _ h => h) (AllIn.mem ⟨List.mem_of_getElem? (i := 0) rfl, List.mem_of_getElem? (i := 1) rfl, trivial⟩) hw) (q_load1 T1_99 rfl (fun w1 hw => hw.rgO (i := 0) rfl 0 1 [pv2_0] rfl)) rfl ?_
  refine mq 8 rfl (by kernel_rfl) (fun w1 hw => Kn.of (fun _ _ _ h => h) (AllIn.mem ⟨List.mem_of_getElem? (i := 0) rfl, List.mem_of_getElem? (i := 1) rfl, trivial⟩) hw) (q_move rfl) rfl ?_
  obtain ⟨x17, hx17, h⟩ := bind_some h
  obtain ⟨cs2, F2, -, g2, hb2, hs2, r2⟩ := ph2_0.el (idx_some hx17).2.2
  obtain ⟨v25, G2, rfl, hq2, h25⟩ := r2
  obtain rfl := hq2.symm
  refine mq 9 rfl (by kernel_rfl) (fun w1 hw => Kn.of (fun _ _ _ h => h) (AllIn.mem ⟨List.mem_of_getElem? (i := 0) rfl, List.mem_of_getElem? (i := 1) rfl, trivial⟩) hw) (q_indexAddr Sl_99 rfl rfl ph2_0 hx17) rfl <| mq 10 rfl (by kernel_rfl) (fun w1 hw => Kn.of (fun _ _ _ h => h) (AllIn.mem ⟨List.mem_of_getElem? (i := 0) rfl, List.mem_of_getElem? (i := 1) rfl, trivial⟩) hw) (q_fieldAddr Fld_190_1 rfl) rfl <| mq 11 rfl (by kernel_rfl) (fun w1 hw => Kn.of (fun _ _ _ h => h) (AllIn.mem ⟨List.mem_of_getElem? (i := 0) rfl, List.mem_of_getElem? (i := 1) rfl, trivial⟩) hw) (q_loadN Tn_188 rfl (fun w1 hw => hw.rg (List.mem_append.2 (.inr hb2)) (g2.of_eq 1 2 rfl rfl : rg _ _ _ [.string x17.F.Kind, v25])) rfl) rfl ?_
  refine mq 12 rfl (by kernel_rfl) (fun w1 hw => Kn.of (fun _ _ _ h => h) (AllIn.mem ⟨List.mem_of_getElem? (i := 0) rfl, List.mem_of_getElem? (i := 1) rfl, trivial⟩) hw) (q_move rfl) rfl ?_
  obtain ⟨x18, hx18, h⟩ := bind_some h
  refine WM.one 13 (by kernel_rfl) (mc rfl (fun _ v Φx D w1 hq hw => Kn.of (fun k hk o ho => hq.2.1 k o ((Dj.app (hq.1.o pa1_0) (hq.1.o pa2_0)) k hk) ((fun _ _ _ h => h) k hk o ho)) (AllIn.mem ⟨List.mem_of_getElem? (i := 0) rfl, List.mem_of_getElem? (i := 1) rfl, trivial⟩) hw) (k_call (js := []) (R := [[pb0], ob u2, D25]) Fun_128 rfl rfl (fun w1 hw ap hl => m_s_MatchPat_ok hw.fro N x16 x17.F p4 h24 h25 ph4  hx18)) rfl (fun v26 Φ_31 F3 q24 => ?_))
  obtain ⟨ap17, fr29, v27, rfl, rfl, h26⟩ := q24
  replace ph3 := ph3.frame RI.lasts fr29 (ap17.o pa3)
  replace ph4 := ph4.frame RTBind.lasts fr29 (ap17.o pa4)
  replace ph1_0 := ph1_0.frame RTPat.lasts fr29 (ap17.o pa1_0)
  replace ph1_1 := ph1_1.frame RTCond.lasts fr29 (ap17.o pa1_1)
  replace ph1_2 := ph1_2.frame RTAct.lasts fr29 (ap17.o pa1_2)
  replace ph2_0 := ph2_0.frame RTItem.lasts fr29 (ap17.o pa2_0)
  replace k3 := k3.frame OTMatch.lasts fr29 (ap17.r (i := 1) rfl) (ap17.r (i := 2) rfl)
  replace k4 := fr29 _ _ ((ap17.r (i := 0) rfl) _ (by simp)) k4
  refine mq 14 rfl (by kernel_rfl) (fun w1 hw => Kn.of (fun k hk o ho => fr29 k o ((Dj.app (ap17.o pa1_0) (ap17.o pa2_0)) k hk) ((fun _ _ _ h => h) k hk o ho)) (AllIn.mem ⟨List.mem_of_getElem? (i := 0) rfl, List.mem_of_getElem? (i := 1) rfl, trivial⟩) hw) (q_move rfl) rfl <| mq 15 rfl (by kernel_rfl) (fun w1 hw => Kn.of (fun k hk o ho => fr29 k o ((Dj.app (ap17.o pa1_0) (ap17.o pa2_0)) k hk) ((fun _ _ _ h => h) k hk o ho)) (AllIn.mem ⟨List.mem_of_getElem? (i := 0) rfl, List.mem_of_getElem? (i := 1) rfl, trivial⟩) hw) (q_extract rfl rfl) rfl ?_
  refine mq 16 rfl (by kernel_rfl) (fun w1 hw => Kn.of (fun k hk o ho => fr29 k o ((Dj.app (ap17.o pa1_0) (ap17.o pa2_0)) k hk) ((fun _ _ _ h => h) k hk o ho)) (AllIn.mem ⟨List.mem_of_getElem? (i := 0) rfl, List.mem_of_getElem? (i := 1) rfl, trivial⟩) hw) (q_extract rfl rfl) rfl <| mq 17 rfl (by kernel_rfl) (fun w1 hw => Kn.of (fun k hk o ho => fr29 k o ((Dj.app (ap17.o pa1_0) (ap17.o pa2_0)) k hk) ((fun _ _ _ h => h) k hk o ho)) (AllIn.mem ⟨List.mem_of_getElem? (i := 0) rfl, List.mem_of_getElem? (i := 1) rfl, trivial⟩) hw) (q_assign rfl) rfl ?_
  refine mq 18 rfl (by kernel_rfl) (fun w1 hw => Kn.of (fun k hk o ho => fr29 k o ((Dj.app (ap17.o pa1_0) (ap17.o pa2_0)) k hk) ((fun _ _ _ h => h) k hk o ho)) (AllIn.mem ⟨List.mem_of_getElem? (i := 0) rfl, List.mem_of_getElem? (i := 1) rfl, trivial⟩) hw) (q_assign rfl) rfl <| WM.nil (by kernel_rfl) <| WT.seq <| WT.region <| lq (q_move rfl) rfl <| WL.nil ?_
  refine WT.cond rfl (fun c5 => ?_) (fun c5 => ?_)
  ·replace h := ite_t h c5
   refine cut (σ := Hp × (List TMatch) × Value × List Nat) (fun s => [(0, .pointer (some ⟨pb0, 0, none⟩)), (3, pv3), (4, pv4), (6, .pointer (some ⟨b_1, 0, none⟩)), (7, .pointer (some ⟨b_2, 0, none⟩)), (10, .int .i64 s3)]) (fun s => St w0 s.1 [(b_2, .cells #[pv2_0, .int .i64 p2.Next] 101 (0, 0)), (b_1, .cells #[.string p1.Name, .int .i64 p1.Sal, pv1_0, pv1_1, pv1_2] 66 (0, 0))] [[pb0], ob s.2.2.1, s.2.2.2]) (fun s => m_s_l11Rows_j3 N s3 (m_s_l11Rows_l2 N p1 p2 p3 p4 (m_s_l11Rows N) n2) s.2.1 = some r ∧ (OSl OTMatch 81 3 s.1 s.2.2.2 s.2.2.1 s.2.1) ∧ (s.1 pb0 = some (.cells #[s.2.2.1] 75 (0, 0))) ∧ (RSl (RI .i64) 1 s.1 pG3 pv3 p3) ∧ (RSl RTBind 4 s.1 pG4 pv4 p4) ∧ (RSl RTPat 3 s.1 pG1_0 pv1_0 p1.Pats) ∧ (RSl RTCond 11 s.1 pG1_1 pv1_1 p1.Conds) ∧ (RSl RTAct 5 s.1 pG1_2 pv1_2 p1.Acts) ∧ (RSl RTItem 3 s.1 pG2_0 pv2_0 p2.Items)) (fun s hm => ?_) (fun K => ?_)
   ·clear h
    obtain ⟨Φ_37, s4, u3, D31⟩ := s
    obtain ⟨h, k5, k6, ph3, ph4, ph1_0, ph1_1, ph1_2, ph2_0⟩ := hm
    replace h : m_s_l11Rows_j3 N s3 (m_s_l11Rows_l2 N p1 p2 p3 p4 (m_s_l11Rows N) n2) s4 = some r := h
    replace k5 : OSl OTMatch 81 3 Φ_37 D31 u3 s4 := k5
    replace k6 : Φ_37 pb0 = some (.cells #[u3] 75 (0, 0)) := k6
    replace ph3 : RSl (RI .i64) 1 Φ_37 pG3 pv3 p3 := ph3
    replace ph4 : RSl RTBind 4 Φ_37 pG4 pv4 p4 := ph4
    replace ph1_0 : RSl RTPat 3 Φ_37 pG1_0 pv1_0 p1.Pats := ph1_0
    replace ph1_1 : RSl RTCond 11 Φ_37 pG1_1 pv1_1 p1.Conds := ph1_1
    replace ph1_2 : RSl RTAct 5 Φ_37 pG1_2 pv1_2 p1.Acts := ph1_2
    replace ph2_0 : RSl RTItem 3 Φ_37 pG2_0 pv2_0 p2.Items := ph2_0
    show WT _ _ [(0, .pointer (some ⟨pb0, 0, none⟩)), (3, pv3), (4, pv4), (6, .pointer (some ⟨b_1, 0, none⟩)), (7, .pointer (some ⟨b_2, 0, none⟩)), (10, .int .i64 s3)] (St w0 Φ_37 [(b_2, .cells #[pv2_0, .int .i64 p2.Next] 101 (0, 0)), (b_1, .cells #[.string p1.Name, .int .i64 p1.Sal, pv1_0, pv1_1, pv1_2] 66 (0, 0))] [[pb0], ob u3, D31])
    unfold m_s_l11Rows_j3 at h
    refine WT.inBlock <| WT.region <| lq (q_move rfl) rfl <| lq (q_add rfl rfl) rfl <| lq (q_assign rfl) rfl <| WL.nil ?_
    refine WT.inLoop (WT.mono (l' := [(0, .pointer (some ⟨pb0, 0, none⟩)), (3, pv3), (4, pv4), (6, .pointer (some ⟨b_1, 0, none⟩)), (7, .pointer (some ⟨b_2, 0, none⟩)), (10, .int .i64 (IntKind.i64.wrap (s3 + 1)))]) (S' := St w0 Φ_37 [(b_2, .cells #[pv2_0, .int .i64 p2.Next] 101 (0, 0)), (b_1, .cells #[.string p1.Name, .int .i64 p1.Sal, pv1_0, pv1_1, pv1_2] 66 (0, 0))] [[pb0], ob u3, D31]) ⟨rfl, rfl, rfl, rfl, rfl, rfl, trivial⟩ (fun w1 hw => (hw.sel (js := [0, 0, 0]) rfl).selO (js := [0, 0]) rfl) ?_)
    exact ih2 (Φ_37, s4, u3, D31, IntKind.i64.wrap (s3 + 1)) ⟨h, k5, k6, ph3, ph4, ph1_0, ph1_1, ph1_2, ph2_0⟩
   refine WT.mix (Kn Φ_31 pG2_0 [(b_2, .cells #[pv2_0, .int .i64 p2.Next] 101 (0, 0)), (b_1, .cells #[.string p1.Name, .int .i64 p1.Sal, pv1_0, pv1_1, pv1_2] 66 (0, 0))]) (fun i => match i with | 15 => false | _ => true) mixed (fun _ h => h.drew) <| mq 0 rfl (by kernel_rfl) (fun w1 hw => Kn.of (fun _ _ _ h => h) (AllIn.mem ⟨List.mem_of_getElem? (i := 0) rfl, List.mem_of_getElem? (i := 1) rfl, trivial⟩) hw) (q_move rfl) rfl ?_
   refine mq 1 rfl (by kernel_rfl) (fun w1 hw => Kn.of (fun _ _ _ h => h) (AllIn.mem ⟨List.mem_of_getElem? (i := 0) rfl, List.mem_of_getElem? (i := 1) rfl, trivial⟩) hw) (q_loadN Tn_66 rfl (fun w1 hw => hw.rgO (i := 1) rfl 0 5 [.string p1.Name, .int .i64 p1.Sal, pv1_0, pv1_1, pv1_2] rfl) rfl) rfl <| mq 2 rfl (by kernel_rfl) (fun w1 hw => Kn.of (fun _ _ _ h => h) (AllIn.mem ⟨List.mem_of_getElem? (i := 0) rfl, List.mem_of_getElem? (i := 1) rfl, trivial⟩) hw) (q_loadN Tn_101 rfl (fun w1 hw => hw.rgO (i := 0) rfl 0 2 [pv2_0, .int .i64 p2.Next] rfl) rfl) rfl ?_
   refine mq 14 rfl (by kernel_rfl) (fun w1 hw => Kn.of (fun _ _ _ h => h) (AllIn.mem ⟨List.mem_of_getElem? (i := 0) rfl, List.mem_of_getElem? (i := 1) rfl, trivial⟩) hw) (q_move rfl) rfl <| mqT 4 [5, 13, 15] rfl (by kernel_rfl) (fun w1 hw => Kn.of (fun _ _ _ h => h) (AllIn.mem ⟨List.mem_of_getElem? (i := 0) rfl, List.mem_of_getElem? (i := 1) rfl, trivial⟩) hw) (q_move rfl) rfl <| mqT 6 [7, 9, 10, 11, 12, 13, 15] rfl (by kernel_rfl) (fun w1 hw => Kn.of (fun _ _ _ h => h) (AllIn.mem ⟨List.mem_of_getElem? (i := 0) rfl, List.mem_of_getElem? (i := 1) rfl, trivial⟩) hw) (q_fieldAddr Fld_101_0 rfl) rfl ?_
   refine mqT 7 [9, 10, 11, 12, 13, 15] rfl (by kernel_rfl) (fun w1 hw => Kn.of (fun _ _ _ h => h) (AllIn.mem ⟨List.mem_of_getElem? (i := 0) rfl, List.mem_of_getElem? (i := 1) rfl, trivial⟩) hw) (q_load1 T1_99 rfl (fun w1 hw => hw.rgO (i := 0) rfl 0 1 [pv2_0] rfl)) rfl <| mqT 8 [9, 10, 11, 12, 13, 15] rfl (by kernel_rfl) (fun w1 hw => Kn.of (fun _ _ _ h => h) (AllIn.mem ⟨List.mem_of_getElem? (i := 0) rfl, List.mem_of_getElem? (i := 1) rfl, trivial⟩) hw) (q_move rfl) rfl ?_
   obtain ⟨x23, hx23, h⟩ := bind_some h
   obtain ⟨cs4, F6, -, g4, hb4, hs4, r4⟩ := ph2_0.el (idx_some hx23).2.2
   obtain ⟨v35, G4, rfl, hq4, h34⟩ := r4
   obtain rfl := hq4.symm
   refine mqT 9 [10, 11, 12, 13, 15] rfl (by kernel_rfl) (fun w1 hw => Kn.of (fun _ _ _ h => h) (AllIn.mem ⟨List.mem_of_getElem? (i := 0) rfl, List.mem_of_getElem? (i := 1) rfl, trivial⟩) hw) (q_indexAddr Sl_99 rfl rfl ph2_0 hx23) rfl <| mqT 10 [11, 12, 13, 15] rfl (by kernel_rfl) (fun w1 hw => Kn.of (fun _ _ _ h => h) (AllIn.mem ⟨List.mem_of_getElem? (i := 0) rfl, List.mem_of_getElem? (i := 1) rfl, trivial⟩) hw) (q_fieldAddr Fld_190_0 rfl) rfl ?_
   refine mqT 11 [12, 13, 15] rfl (by kernel_rfl) (fun w1 hw => Kn.of (fun _ _ _ h => h) (AllIn.mem ⟨List.mem_of_getElem? (i := 0) rfl, List.mem_of_getElem? (i := 1) rfl, trivial⟩) hw) (q_load1 T1_3 rfl (fun w1 hw => hw.rg hb4 (g4.of_eq 0 1 rfl rfl : rg _ _ _ [.int .i64 x23.Id]))) rfl ?_
   refine WM.two 3 12 (by kernel_rfl) ?_ ?_
   ·skip
    have rc14 : RC (RI .i64) 1 Φ_31 ([] : List (List Nat)) [] ([] : List Int) := RC.nil _ _ _
    refine me rfl (fun _ v Φx D w1 hq hw => Kn.of (fun k hk o ho => hq.1 k o (by simp) ((fun _ _ _ h => h) k hk o ho)) (AllIn.mem ⟨List.mem_of_getElem? (i := 0) rfl, List.mem_of_getElem? (i := 1) rfl, trivial⟩) hw) (e_lit (vs := []) (C := #[]) RI.lasts Sl_78 Zr_3 rfl rfl rfl rfl (fill_made MC_3_0 (fill_nil)) rfl rc14 rfl (by simpa using Kw.nil)) rfl (fun v36 Φ_38 D32 q30 => ?_)
    obtain ⟨fr35, h35⟩ := q30
    replace h35 : OSl (RI .i64) 3 1 Φ_38 [] v36 ([] : List Int) := by simpa using h35
    replace ph3 := ph3.frame RI.lasts fr35 (Dj.empty _)
    replace ph4 := ph4.frame RTBind.lasts fr35 (Dj.empty _)
    replace ph1_0 := ph1_0.frame RTPat.lasts fr35 (Dj.empty _)
    replace ph1_1 := ph1_1.frame RTCond.lasts fr35 (Dj.empty _)
    replace ph1_2 := ph1_2.frame RTAct.lasts fr35 (Dj.empty _)
    replace ph2_0 := ph2_0.frame RTItem.lasts fr35 (Dj.empty _)
    replace k3 := k3.frame OTMatch.lasts fr35 (Dj.empty _) (Dj.empty _)
    replace h26 := h26.frame RTBind.lasts fr35 (Dj.empty _) (Dj.empty _)
    replace k4 := fr35 _ _ (by simp) k4
    refine WM.two 5 12 (by kernel_rfl) ?_ ?_
    ·skip
     obtain ⟨x24, hx24, h⟩ := bind_some h
     refine me rfl (fun _ v Φx D w1 hq hw => Kn.of (fun k hk o ho => hq.1.2 k o ((hq.1.1.o pa2_0) k hk) ((fun k hk o ho => fr35 k o (by simp) ((fun _ _ _ h => h) k hk o ho)) k hk o ho)) (AllIn.mem ⟨List.mem_of_getElem? (i := 0) rfl, List.mem_of_getElem? (i := 1) rfl, trivial⟩) hw) (e_appF RI.lasts RI.one RI.flat Sl_78 Ei_3 rfl rfl rfl rfl rfl (js := [0]) (Rr := [ob v27, [pb0], ob u2, D25]) rfl h35 ph3 hx24) rfl (fun v37 Φ_39 D33 q31 => ?_)
     obtain ⟨⟨ap21, fr36⟩, h36⟩ := q31
     replace ph3 := ph3.frame RI.lasts fr36 (ap21.o pa3)
     replace ph4 := ph4.frame RTBind.lasts fr36 (ap21.o pa4)
     replace ph1_0 := ph1_0.frame RTPat.lasts fr36 (ap21.o pa1_0)
     replace ph1_1 := ph1_1.frame RTCond.lasts fr36 (ap21.o pa1_1)
     replace ph1_2 := ph1_2.frame RTAct.lasts fr36 (ap21.o pa1_2)
     replace ph2_0 := ph2_0.frame RTItem.lasts fr36 (ap21.o pa2_0)
     replace k3 := k3.frame OTMatch.lasts fr36 (ap21.r (i := 2) rfl) (ap21.r (i := 3) rfl)
     replace h26 := h26.frame RTBind.lasts fr36 (ap21.r (i := 0) rfl) (Dj.nil _)
     replace k4 := fr36 _ _ ((ap21.r (i := 1) rfl) _ (by simp)) k4
     have rc15 : RC (RI .i64) 1 Φ_39 ([[]] : List (List Nat)) [.int .i64 x23.Id] ([x23.Id] : List Int) := RC.cons (c := [.int .i64 x23.Id]) (cells := []) ⟨rfl, rfl⟩ rfl (RC.nil _ _ _)
     refine WM.one 12 (by kernel_rfl) (me rfl (fun _ v Φx D w1 hq hw => Kn.of (fun k hk o ho => hq.1 k o (by simp) ((fun k hk o ho => fr36 k o ((ap21.o pa2_0) k hk) ((fun k hk o ho => fr35 k o (by simp) ((fun _ _ _ h => h) k hk o ho)) k hk o ho)) k hk o ho)) (AllIn.mem ⟨List.mem_of_getElem? (i := 0) rfl, List.mem_of_getElem? (i := 1) rfl, trivial⟩) hw) (e_lit (vs := [(0, .int .i64 x23.Id)]) (C := #[.int .i64 x23.Id]) RI.lasts Sl_78 Zr_3 rfl rfl rfl rfl (fill_made MC_3_1 (fill_cons (cells := [.int .i64 0]) (c := [.int .i64 x23.Id]) (C' := [.int .i64 x23.Id]) rfl rfl rfl rfl rfl (fill_nil))) rfl rc15 rfl (by simpa using Kw.nil)) rfl (fun v38 Φ_40 D34 q32 => ?_))
     obtain ⟨fr37, h37⟩ := q32
     replace h37 : OSl (RI .i64) 3 1 Φ_40 [] v38 ([x23.Id] : List Int) := by simpa using h37
     replace ph3 := ph3.frame RI.lasts fr37 (Dj.empty _)
     replace ph4 := ph4.frame RTBind.lasts fr37 (Dj.empty _)
     replace ph1_0 := ph1_0.frame RTPat.lasts fr37 (Dj.empty _)
     replace ph1_1 := ph1_1.frame RTCond.lasts fr37 (Dj.empty _)
     replace ph1_2 := ph1_2.frame RTAct.lasts fr37 (Dj.empty _)
     replace ph2_0 := ph2_0.frame RTItem.lasts fr37 (Dj.empty _)
     replace k3 := k3.frame OTMatch.lasts fr37 (Dj.empty _) (Dj.empty _)
     replace h26 := h26.frame RTBind.lasts fr37 (Dj.empty _) (Dj.empty _)
     replace h36 := h36.frame RI.lasts fr37 (Dj.empty _) (Dj.empty _)
     replace k4 := fr37 _ _ (by simp) k4
     obtain ⟨x25, hx25, h⟩ := bind_some h
     refine WM.one 13 (by kernel_rfl) (me rfl (fun _ v Φx D w1 hq hw => Kn.of (fun k hk o ho => hq.1.2 k o ((hq.1.1.o pa2_0) k hk) ((fun k hk o ho => fr37 k o (by simp) ((fun k hk o ho => fr36 k o ((ap21.o pa2_0) k hk) ((fun k hk o ho => fr35 k o (by simp) ((fun _ _ _ h => h) k hk o ho)) k hk o ho)) k hk o ho)) k hk o ho)) (AllIn.mem ⟨List.mem_of_getElem? (i := 0) rfl, List.mem_of_getElem? (i := 1) rfl, trivial⟩) hw) (e_appF RI.lasts RI.one RI.flat Sl_78 Ei_3 rfl rfl rfl rfl rfl (js := [1]) (Rr := [ob v38, ob v27, [pb0], ob u2, D25]) rfl h36 h37.rsl hx25) rfl (fun v39 Φ_41 D35 q33 => ?_))
     obtain ⟨⟨ap22, fr38⟩, h38⟩ := q33
     replace ph3 := ph3.frame RI.lasts fr38 (ap22.o pa3)
     replace ph4 := ph4.frame RTBind.lasts fr38 (ap22.o pa4)
     replace ph1_0 := ph1_0.frame RTPat.lasts fr38 (ap22.o pa1_0)
     replace ph1_1 := ph1_1.frame RTCond.lasts fr38 (ap22.o pa1_1)
     replace ph1_2 := ph1_2.frame RTAct.lasts fr38 (ap22.o pa1_2)
     replace ph2_0 := ph2_0.frame RTItem.lasts fr38 (ap22.o pa2_0)
     replace k3 := k3.frame OTMatch.lasts fr38 (ap22.r (i := 3) rfl) (ap22.r (i := 4) rfl)
     replace h26 := h26.frame RTBind.lasts fr38 (ap22.r (i := 1) rfl) (Dj.nil _)
     replace k4 := fr38 _ _ ((ap22.r (i := 2) rfl) _ (by simp)) k4
     obtain ⟨x26, hx26, h⟩ := bind_some h
     refine WM.one 15 (by kernel_rfl) (mc rfl (fun hc => by cases hc) (k_call (js := [3, 3, 3]) (R := [ob v39, ob v38, ob v27]) Fun_244 rfl rfl (fun w1 hw ap hl => ih hw.fro s2 p1 p2 x25 x18.1 k3 k4 ph1_0 ph1_1 ph1_2 ph2_0 h38.rsl h26.rsl (ap.o pa1_0) (ap.o pa1_1) (ap.o pa1_2) (ap.o pa2_0) (Dj.app (ap.r (i := 0) rfl) (Dj.nil _)) (Dj.app (ap.r (i := 2) rfl) (Dj.nil _)) ap.nd hl hx26)) rfl (fun v40 Φ_42 F7 q34 => ?_))
     obtain ⟨ap23, fr39, v41, D36, rfl, rfl, h39, h40⟩ := q34
     replace ph3 := ph3.frame RI.lasts fr39 (ap23.o pa3)
     replace ph4 := ph4.frame RTBind.lasts fr39 (ap23.o pa4)
     replace ph1_0 := ph1_0.frame RTPat.lasts fr39 (ap23.o pa1_0)
     replace ph1_1 := ph1_1.frame RTCond.lasts fr39 (ap23.o pa1_1)
     replace ph1_2 := ph1_2.frame RTAct.lasts fr39 (ap23.o pa1_2)
     replace ph2_0 := ph2_0.frame RTItem.lasts fr39 (ap23.o pa2_0)
     refine WM.nil (by kernel_rfl) <| WT.mono (l' := [(0, .pointer (some ⟨pb0, 0, none⟩)), (3, pv3), (4, pv4), (6, .pointer (some ⟨b_1, 0, none⟩)), (7, .pointer (some ⟨b_2, 0, none⟩)), (10, .int .i64 s3)]) (S' := St w0 Φ_42 [(b_2, .cells #[pv2_0, .int .i64 p2.Next] 101 (0, 0)), (b_1, .cells #[.string p1.Name, .int .i64 p1.Sal, pv1_0, pv1_1, pv1_2] 66 (0, 0))] [[pb0], ob v41, D36]) ⟨rfl, rfl, rfl, rfl, rfl, rfl, trivial⟩ (fun w1 hw => (hw.sel (js := [0, 0, 0]) rfl).selO (js := [0, 0]) rfl) ?_
     exact K (Φ_42, x26, v41, D36) ⟨h, h39, h40, ph3, ph4, ph1_0, ph1_1, ph1_2, ph2_0⟩
    have rc16 : RC (RI .i64) 1 Φ_38 ([[]] : List (List Nat)) [.int .i64 x23.Id] ([x23.Id] : List Int) := RC.cons (c := [.int .i64 x23.Id]) (cells := []) ⟨rfl, rfl⟩ rfl (RC.nil _ _ _)
    refine me rfl (fun _ v Φx D w1 hq hw => Kn.of (fun k hk o ho => hq.1 k o (by simp) ((fun k hk o ho => fr35 k o (by simp) ((fun _ _ _ h => h) k hk o ho)) k hk o ho)) (AllIn.mem ⟨List.mem_of_getElem? (i := 0) rfl, List.mem_of_getElem? (i := 1) rfl, trivial⟩) hw) (e_lit (vs := [(0, .int .i64 x23.Id)]) (C := #[.int .i64 x23.Id]) RI.lasts Sl_78 Zr_3 rfl rfl rfl rfl (fill_made MC_3_1 (fill_cons (cells := [.int .i64 0]) (c := [.int .i64 x23.Id]) (C' := [.int .i64 x23.Id]) rfl rfl rfl rfl rfl (fill_nil))) rfl rc16 rfl (by simpa using Kw.nil)) rfl (fun v42 Φ_43 D37 q35 => ?_)
    obtain ⟨fr40, h41⟩ := q35
    replace h41 : OSl (RI .i64) 3 1 Φ_43 [] v42 ([x23.Id] : List Int) := by simpa using h41
    replace ph3 := ph3.frame RI.lasts fr40 (Dj.empty _)
    replace ph4 := ph4.frame RTBind.lasts fr40 (Dj.empty _)
    replace ph1_0 := ph1_0.frame RTPat.lasts fr40 (Dj.empty _)
    replace ph1_1 := ph1_1.frame RTCond.lasts fr40 (Dj.empty _)
    replace ph1_2 := ph1_2.frame RTAct.lasts fr40 (Dj.empty _)
    replace ph2_0 := ph2_0.frame RTItem.lasts fr40 (Dj.empty _)
    replace k3 := k3.frame OTMatch.lasts fr40 (Dj.empty _) (Dj.empty _)
    replace h26 := h26.frame RTBind.lasts fr40 (Dj.empty _) (Dj.empty _)
    replace h35 := h35.frame RI.lasts fr40 (Dj.empty _) (Dj.empty _)
    replace k4 := fr40 _ _ (by simp) k4
    obtain ⟨x27, hx27, h⟩ := bind_some h
    refine WM.one 5 (by kernel_rfl) (me rfl (fun _ v Φx D w1 hq hw => Kn.of (fun k hk o ho => hq.1.2 k o ((hq.1.1.o pa2_0) k hk) ((fun k hk o ho => fr40 k o (by simp) ((fun k hk o ho => fr35 k o (by simp) ((fun _ _ _ h => h) k hk o ho)) k hk o ho)) k hk o ho)) (AllIn.mem ⟨List.mem_of_getElem? (i := 0) rfl, List.mem_of_getElem? (i := 1) rfl, trivial⟩) hw) (e_appF RI.lasts RI.one RI.flat Sl_78 Ei_3 rfl rfl rfl rfl rfl (js := [1]) (Rr := [ob v42, ob v27, [pb0], ob u2, D25]) rfl h35 ph3 hx27) rfl (fun v43 Φ_44 D38 q36 => ?_))
    obtain ⟨⟨ap24, fr41⟩, h42⟩ := q36
    replace ph3 := ph3.frame RI.lasts fr41 (ap24.o pa3)
    replace ph4 := ph4.frame RTBind.lasts fr41 (ap24.o pa4)
    replace ph1_0 := ph1_0.frame RTPat.lasts fr41 (ap24.o pa1_0)
    replace ph1_1 := ph1_1.frame RTCond.lasts fr41 (ap24.o pa1_1)
    replace ph1_2 := ph1_2.frame RTAct.lasts fr41 (ap24.o pa1_2)
    replace ph2_0 := ph2_0.frame RTItem.lasts fr41 (ap24.o pa2_0)
    replace k3 := k3.frame OTMatch.lasts fr41 (ap24.r (i := 3) rfl) (ap24.r (i := 4) rfl)
    replace h26 := h26.frame RTBind.lasts fr41 (ap24.r (i := 1) rfl) (Dj.nil _)
    replace h41 := h41.frame RI.lasts fr41 (ap24.r (i := 0) rfl) (Dj.nil _)
    replace k4 := fr41 _ _ ((ap24.r (i := 2) rfl) _ (by simp)) k4
    obtain ⟨x28, hx28, h⟩ := bind_some h
    refine WM.one 13 (by kernel_rfl) (me rfl (fun _ v Φx D w1 hq hw => Kn.of (fun k hk o ho => hq.1.2 k o ((hq.1.1.o pa2_0) k hk) ((fun k hk o ho => fr41 k o ((ap24.o pa2_0) k hk) ((fun k hk o ho => fr40 k o (by simp) ((fun k hk o ho => fr35 k o (by simp) ((fun _ _ _ h => h) k hk o ho)) k hk o ho)) k hk o ho)) k hk o ho)) (AllIn.mem ⟨List.mem_of_getElem? (i := 0) rfl, List.mem_of_getElem? (i := 1) rfl, trivial⟩) hw) (e_appF RI.lasts RI.one RI.flat Sl_78 Ei_3 rfl rfl rfl rfl rfl (js := [0]) (Rr := [ob v42, ob v27, [pb0], ob u2, D25]) rfl h42 h41.rsl hx28) rfl (fun v44 Φ_45 D39 q37 => ?_))
    obtain ⟨⟨ap25, fr42⟩, h43⟩ := q37
    replace ph3 := ph3.frame RI.lasts fr42 (ap25.o pa3)
    replace ph4 := ph4.frame RTBind.lasts fr42 (ap25.o pa4)
    replace ph1_0 := ph1_0.frame RTPat.lasts fr42 (ap25.o pa1_0)
    replace ph1_1 := ph1_1.frame RTCond.lasts fr42 (ap25.o pa1_1)
    replace ph1_2 := ph1_2.frame RTAct.lasts fr42 (ap25.o pa1_2)
    replace ph2_0 := ph2_0.frame RTItem.lasts fr42 (ap25.o pa2_0)
    replace k3 := k3.frame OTMatch.lasts fr42 (ap25.r (i := 3) rfl) (ap25.r (i := 4) rfl)
    replace h26 := h26.frame RTBind.lasts fr42 (ap25.r (i := 1) rfl) (Dj.nil _)
    replace k4 := fr42 _ _ ((ap25.r (i := 2) rfl) _ (by simp)) k4
    obtain ⟨x29, hx29, h⟩ := bind_some h
    refine WM.one 15 (by kernel_rfl) (mc rfl (fun hc => by cases hc) (k_call (js := [3, 3, 3]) (R := [ob v44, ob v42, ob v27]) Fun_244 rfl rfl (fun w1 hw ap hl => ih hw.fro s2 p1 p2 x28 x18.1 k3 k4 ph1_0 ph1_1 ph1_2 ph2_0 h43.rsl h26.rsl (ap.o pa1_0) (ap.o pa1_1) (ap.o pa1_2) (ap.o pa2_0) (Dj.app (ap.r (i := 0) rfl) (Dj.nil _)) (Dj.app (ap.r (i := 2) rfl) (Dj.nil _)) ap.nd hl hx29)) rfl (fun v45 Φ_46 F8 q38 => ?_))
    obtain ⟨ap26, fr43, v46, D40, rfl, rfl, h44, h45⟩ := q38
    replace ph3 := ph3.frame RI.lasts fr43 (ap26.o pa3)
    replace ph4 := ph4.frame RTBind.lasts fr43 (ap26.o pa4)
    replace ph1_0 := ph1_0.frame RTPat.lasts fr43 (ap26.o pa1_0)
    replace ph1_1 := ph1_1.frame RTCond.lasts fr43 (ap26.o pa1_1)
    replace ph1_2 := ph1_2.frame RTAct.lasts fr43 (ap26.o pa1_2)
    replace ph2_0 := ph2_0.frame RTItem.lasts fr43 (ap26.o pa2_0)
    refine WM.nil (by kernel_rfl) <| WT.mono (l' := [(0, .pointer (some ⟨pb0, 0, none⟩)), (3, pv3), (4, pv4), (6, .pointer (some ⟨b_1, 0, none⟩)), (7, .pointer (some ⟨b_2, 0, none⟩)), (10, .int .i64 s3)]) (S' := St w0 Φ_46 [(b_2, .cells #[pv2_0, .int .i64 p2.Next] 101 (0, 0)), (b_1, .cells #[.string p1.Name, .int .i64 p1.Sal, pv1_0, pv1_1, pv1_2] 66 (0, 0))] [[pb0], ob v46, D40]) ⟨rfl, rfl, rfl, rfl, rfl, rfl, trivial⟩ (fun w1 hw => (hw.sel (js := [0, 0, 0]) rfl).selO (js := [0, 0]) rfl) ?_
    exact K (Φ_46, x29, v46, D40) ⟨h, h44, h45, ph3, ph4, ph1_0, ph1_1, ph1_2, ph2_0⟩
   have rc17 : RC (RI .i64) 1 Φ_31 ([[]] : List (List Nat)) [.int .i64 x23.Id] ([x23.Id] : List Int) := RC.cons (c := [.int .i64 x23.Id]) (cells := []) ⟨rfl, rfl⟩ rfl (RC.nil _ _ _)
   refine me rfl (fun _ v Φx D w1 hq hw => Kn.of (fun k hk o ho => hq.1 k o (by simp) ((fun _ _ _ h => h) k hk o ho)) (AllIn.mem ⟨List.mem_of_getElem? (i := 0) rfl, List.mem_of_getElem? (i := 1) rfl, trivial⟩) hw) (e_lit (vs := [(0, .int .i64 x23.Id)]) (C := #[.int .i64 x23.Id]) RI.lasts Sl_78 Zr_3 rfl rfl rfl rfl (fill_made MC_3_1 (fill_cons (cells := [.int .i64 0]) (c := [.int .i64 x23.Id]) (C' := [.int .i64 x23.Id]) rfl rfl rfl rfl rfl (fill_nil))) rfl rc17 rfl (by simpa using Kw.nil)) rfl (fun v47 Φ_47 D41 q39 => ?_)
   obtain ⟨fr44, h46⟩ := q39
   replace h46 : OSl (RI .i64) 3 1 Φ_47 [] v47 ([x23.Id] : List Int) := by simpa using h46
   replace ph3 := ph3.frame RI.lasts fr44 (Dj.empty _)
   replace ph4 := ph4.frame RTBind.lasts fr44 (Dj.empty _)
   replace ph1_0 := ph1_0.frame RTPat.lasts fr44 (Dj.empty _)
   replace ph1_1 := ph1_1.frame RTCond.lasts fr44 (Dj.empty _)
   replace ph1_2 := ph1_2.frame RTAct.lasts fr44 (Dj.empty _)
   replace ph2_0 := ph2_0.frame RTItem.lasts fr44 (Dj.empty _)
   replace k3 := k3.frame OTMatch.lasts fr44 (Dj.empty _) (Dj.empty _)
   replace h26 := h26.frame RTBind.lasts fr44 (Dj.empty _) (Dj.empty _)
   replace k4 := fr44 _ _ (by simp) k4
   have rc18 : RC (RI .i64) 1 Φ_47 ([] : List (List Nat)) [] ([] : List Int) := RC.nil _ _ _
   refine WM.one 3 (by kernel_rfl) (me rfl (fun _ v Φx D w1 hq hw => Kn.of (fun k hk o ho => hq.1 k o (by simp) ((fun k hk o ho => fr44 k o (by simp) ((fun _ _ _ h => h) k hk o ho)) k hk o ho)) (AllIn.mem ⟨List.mem_of_getElem? (i := 0) rfl, List.mem_of_getElem? (i := 1) rfl, trivial⟩) hw) (e_lit (vs := []) (C := #[]) RI.lasts Sl_78 Zr_3 rfl rfl rfl rfl (fill_made MC_3_0 (fill_nil)) rfl rc18 rfl (by simpa using Kw.nil)) rfl (fun v48 Φ_48 D42 q40 => ?_))
   obtain ⟨fr45, h47⟩ := q40
   replace h47 : OSl (RI .i64) 3 1 Φ_48 [] v48 ([] : List Int) := by simpa using h47
   replace ph3 := ph3.frame RI.lasts fr45 (Dj.empty _)
   replace ph4 := ph4.frame RTBind.lasts fr45 (Dj.empty _)
   replace ph1_0 := ph1_0.frame RTPat.lasts fr45 (Dj.empty _)
   replace ph1_1 := ph1_1.frame RTCond.lasts fr45 (Dj.empty _)
   replace ph1_2 := ph1_2.frame RTAct.lasts fr45 (Dj.empty _)
   replace ph2_0 := ph2_0.frame RTItem.lasts fr45 (Dj.empty _)
   replace k3 := k3.frame OTMatch.lasts fr45 (Dj.empty _) (Dj.empty _)
   replace h26 := h26.frame RTBind.lasts fr45 (Dj.empty _) (Dj.empty _)
   replace h46 := h46.frame RI.lasts fr45 (Dj.empty _) (Dj.empty _)
   replace k4 := fr45 _ _ (by simp) k4
   obtain ⟨x30, hx30, h⟩ := bind_some h
   refine WM.one 5 (by kernel_rfl) (me rfl (fun _ v Φx D w1 hq hw => Kn.of (fun k hk o ho => hq.1.2 k o ((hq.1.1.o pa2_0) k hk) ((fun k hk o ho => fr45 k o (by simp) ((fun k hk o ho => fr44 k o (by simp) ((fun _ _ _ h => h) k hk o ho)) k hk o ho)) k hk o ho)) (AllIn.mem ⟨List.mem_of_getElem? (i := 0) rfl, List.mem_of_getElem? (i := 1) rfl, trivial⟩) hw) (e_appF RI.lasts RI.one RI.flat Sl_78 Ei_3 rfl rfl rfl rfl rfl (js := [0]) (Rr := [ob v47, ob v27, [pb0], ob u2, D25]) rfl h47 ph3 hx30) rfl (fun v49 Φ_49 D43 q41 => ?_))
   obtain ⟨⟨ap27, fr46⟩, h48⟩ := q41
   replace ph3 := ph3.frame RI.lasts fr46 (ap27.o pa3)
   replace ph4 := ph4.frame RTBind.lasts fr46 (ap27.o pa4)
   replace ph1_0 := ph1_0.frame RTPat.lasts fr46 (ap27.o pa1_0)
   replace ph1_1 := ph1_1.frame RTCond.lasts fr46 (ap27.o pa1_1)
   replace ph1_2 := ph1_2.frame RTAct.lasts fr46 (ap27.o pa1_2)
   replace ph2_0 := ph2_0.frame RTItem.lasts fr46 (ap27.o pa2_0)
   replace k3 := k3.frame OTMatch.lasts fr46 (ap27.r (i := 3) rfl) (ap27.r (i := 4) rfl)
   replace h26 := h26.frame RTBind.lasts fr46 (ap27.r (i := 1) rfl) (Dj.nil _)
   replace h46 := h46.frame RI.lasts fr46 (ap27.r (i := 0) rfl) (Dj.nil _)
   replace k4 := fr46 _ _ ((ap27.r (i := 2) rfl) _ (by simp)) k4
   obtain ⟨x31, hx31, h⟩ := bind_some h
   refine WM.one 13 (by kernel_rfl) (me rfl (fun _ v Φx D w1 hq hw => Kn.of (fun k hk o ho => hq.1.2 k o ((hq.1.1.o pa2_0) k hk) ((fun k hk o ho => fr46 k o ((ap27.o pa2_0) k hk) ((fun k hk o ho => fr45 k o (by simp) ((fun k hk o ho => fr44 k o (by simp) ((fun _ _ _ h => h) k hk o ho)) k hk o ho)) k hk o ho)) k hk o ho)) (AllIn.mem ⟨List.mem_of_getElem? (i := 0) rfl, List.mem_of_getElem? (i := 1) rfl, trivial⟩) hw) (e_appF RI.lasts RI.one RI.flat Sl_78 Ei_3 rfl rfl rfl rfl rfl (js := [0]) (Rr := [ob v47, ob v27, [pb0], ob u2, D25]) rfl h48 h46.rsl hx31) rfl (fun v50 Φ_50 D44 q42 => ?_))
   obtain ⟨⟨ap28, fr47⟩, h49⟩ := q42
   replace ph3 := ph3.frame RI.lasts fr47 (ap28.o pa3)
   replace ph4 := ph4.frame RTBind.lasts fr47 (ap28.o pa4)
   replace ph1_0 := ph1_0.frame RTPat.lasts fr47 (ap28.o pa1_0)
   replace ph1_1 := ph1_1.frame RTCond.lasts fr47 (ap28.o pa1_1)
   replace ph1_2 := ph1_2.frame RTAct.lasts fr47 (ap28.o pa1_2)
   replace ph2_0 := ph2_0.frame RTItem.lasts fr47 (ap28.o pa2_0)
   replace k3 := k3.frame OTMatch.lasts fr47 (ap28.r (i := 3) rfl) (ap28.r (i := 4) rfl)
   replace h26 := h26.frame RTBind.lasts fr47 (ap28.r (i := 1) rfl) (Dj.nil _)
   replace k4 := fr47 _ _ ((ap28.r (i := 2) rfl) _ (by simp)) k4
   obtain ⟨x32, hx32, h⟩ := bind_some h
   refine WM.one 15 (by kernel_rfl) (mc rfl (fun hc => by cases hc) (k_call (js := [3, 3, 3]) (R := [ob v50, ob v47, ob v27]) Fun_244 rfl rfl (fun w1 hw ap hl => ih hw.fro s2 p1 p2 x31 x18.1 k3 k4 ph1_0 ph1_1 ph1_2 ph2_0 h49.rsl h26.rsl (ap.o pa1_0) (ap.o pa1_1) (ap.o pa1_2) (ap.o pa2_0) (Dj.app (ap.r (i := 0) rfl) (Dj.nil _)) (Dj.app (ap.r (i := 2) rfl) (Dj.nil _)) ap.nd hl hx32)) rfl (fun v51 Φ_51 F9 q43 => ?_))
   obtain ⟨ap29, fr48, v52, D45, rfl, rfl, h50, h51⟩ := q43
   replace ph3 := ph3.frame RI.lasts fr48 (ap29.o pa3)
   replace ph4 := ph4.frame RTBind.lasts fr48 (ap29.o pa4)
   replace ph1_0 := ph1_0.frame RTPat.lasts fr48 (ap29.o pa1_0)
   replace ph1_1 := ph1_1.frame RTCond.lasts fr48 (ap29.o pa1_1)
   replace ph1_2 := ph1_2.frame RTAct.lasts fr48 (ap29.o pa1_2)
   replace ph2_0 := ph2_0.frame RTItem.lasts fr48 (ap29.o pa2_0)
   refine WM.nil (by kernel_rfl) <| WT.mono (l' := [(0, .pointer (some ⟨pb0, 0, none⟩)), (3, pv3), (4, pv4), (6, .pointer (some ⟨b_1, 0, none⟩)), (7, .pointer (some ⟨b_2, 0, none⟩)), (10, .int .i64 s3)]) (S' := St w0 Φ_51 [(b_2, .cells #[pv2_0, .int .i64 p2.Next] 101 (0, 0)), (b_1, .cells #[.string p1.Name, .int .i64 p1.Sal, pv1_0, pv1_1, pv1_2] 66 (0, 0))] [[pb0], ob v52, D45]) ⟨rfl, rfl, rfl, rfl, rfl, rfl, trivial⟩ (fun w1 hw => (hw.sel (js := [0, 0, 0]) rfl).selO (js := [0, 0]) rfl) ?_
   exact K (Φ_51, x32, v52, D45) ⟨h, h50, h51, ph3, ph4, ph1_0, ph1_1, ph1_2, ph2_0⟩
  replace h := ite_f h c5
  refine WT.skip <| WT.inBlock <| WT.region <| lq (q_move rfl) rfl <| lq (q_add rfl rfl) rfl <| lq (q_assign rfl) rfl <| WL.nil ?_
  refine WT.inLoop (WT.mono (l' := [(0, .pointer (some ⟨pb0, 0, none⟩)), (3, pv3), (4, pv4), (6, .pointer (some ⟨b_1, 0, none⟩)), (7, .pointer (some ⟨b_2, 0, none⟩)), (10, .int .i64 (IntKind.i64.wrap (s3 + 1)))]) (S' := St w0 Φ_31 [(b_2, .cells #[pv2_0, .int .i64 p2.Next] 101 (0, 0)), (b_1, .cells #[.string p1.Name, .int .i64 p1.Sal, pv1_0, pv1_1, pv1_2] 66 (0, 0))] [[pb0], ob u2, D25]) ⟨rfl, rfl, rfl, rfl, rfl, rfl, trivial⟩ (fun w1 hw => (hw.sel (js := [1, 1, 1]) rfl).selO (js := [0, 0]) rfl) ?_)
  exact ih2 (Φ_31, s2, u2, D25, IntKind.i64.wrap (s3 + 1)) ⟨h, k3, k4, ph3, ph4, ph1_0, ph1_1, ph1_2, ph2_0⟩
 replace h := ite_f h c4
 refine WT.exit rfl ?_
 refine WT.fin Try.func244 resOk.none (fun w1 hw => ?_)
 subst hb0
 cases h
 refine postG_of_St (js := [0, 0, 0]) hw rfl ⟨u2, D25, rfl, rfl, k3, k4⟩
theorem m_s_l11Of_ok {Φ : Hp} {w : World} (hΦ : In Φ w) (N : Nat) (p0 : TRule) (p1 : TStore) {pv0_0 : Value} {pG0_0 : List Nat} {pv0_1 : Value} {pG0_1 : List Nat} {pv0_2 : Value} {pG0_2 : List Nat} {pv1_0 : Value} {pG1_0 : List Nat} (ph0_0 : RSl RTPat 3 Φ pG0_0 pv0_0 p0.Pats) (ph0_1 : RSl RTCond 11 Φ pG0_1 pv0_1 p0.Conds) (ph0_2 : RSl RTAct 5 Φ pG0_2 pv0_2 p0.Acts) (ph1_0 : RSl RTItem 3 Φ pG1_0 pv1_0 p1.Items) {r : (List TMatch)} (h : m_s_l11Of N p0 p1 = some r) :
  Calls Try.prog 188 [.agg [.string p0.Name, .int .i64 p0.Sal, pv0_0, pv0_1, pv0_2].toArray, .agg [pv1_0, .int .i64 p1.Next].toArray].toArray w (PostG Φ w [] (fun Φ' Fs v => ∃ (sr_0_0 : Value) (Dr_0_0 : List Nat), v = sr_0_0 ∧ Fs = [ob sr_0_0, Dr_0_0] ∧ OSl OTMatch 81 3 Φ' Dr_0_0 sr_0_0 r)) := by
 refine enter Try.func188 rfl Try.ntmps188 rfl (St.start0 hΦ) ?_
 have pa0_0 : Old ⟨w, [], Φ⟩ pG0_0 := Old.mk hΦ ph0_0.kn (Dj.empty _)
 have pa0_1 : Old ⟨w, [], Φ⟩ pG0_1 := Old.mk hΦ ph0_1.kn (Dj.empty _)
 have pa0_2 : Old ⟨w, [], Φ⟩ pG0_2 := Old.mk hΦ ph0_2.kn (Dj.empty _)
 have pa1_0 : Old ⟨w, [], Φ⟩ pG1_0 := Old.mk hΦ ph1_0.kn (Dj.empty _)
 revert pa0_0 pa0_1 pa0_2 pa1_0
 generalize hb0 : (⟨w, [], Φ⟩ : Base) = w0
 intro pa0_0 pa0_1 pa0_2 pa1_0
 unfold m_s_l11Of at h
 refine WT.seq <| WT.region ?_
 refine ln (n_box (C := #[.string p0.Name, .int .i64 p0.Sal, pv0_0, pv0_1, pv0_2]) rfl rfl) rfl (fun b_1 => ?_)
 refine ln (n_box (C := #[pv1_0, .int .i64 p1.Next]) rfl rfl) rfl (fun b_2 => ?_)
 refine lq (q_assign rfl) rfl <| WL.nil <| WT.seq <| WT.region ?_
 have rc1 : RC OTMatch 3 Φ ([] : List (List Nat)) [] ([] : List TMatch) := RC.nil _ _ _
 refine le' (e_lit (vs := []) (C := #[]) OTMatch.lasts Sl_75 Zr_81 rfl rfl rfl rfl (fill_made MC_81_0 (fill_nil)) rfl rc1 rfl (by simpa using Kw.nil)) rfl (fun v1 Φ_1 D1 q1 => ?_)
 obtain ⟨fr1, h1⟩ := q1
 replace h1 : OSl OTMatch 81 3 Φ_1 [] v1 ([] : List TMatch) := by simpa [List.append_assoc] using h1
 replace ph0_0 := ph0_0.frame RTPat.lasts fr1 (Dj.empty _)
 replace ph0_1 := ph0_1.frame RTCond.lasts fr1 (Dj.empty _)
 replace ph0_2 := ph0_2.frame RTAct.lasts fr1 (Dj.empty _)
 replace ph1_0 := ph1_0.frame RTItem.lasts fr1 (Dj.empty _)
 refine WL.conv (S' := St w0 Φ_1 [(b_2, .cells #[pv1_0, .int .i64 p1.Next] 101 (0, 0)), (b_1, .cells #[.string p0.Name, .int .i64 p0.Sal, pv0_0, pv0_1, pv0_2] 66 (0, 0))] [[], ob v1]) (fun w1 hw => hw.addNil) ?_
 refine ln (n_alloc (C := #[.slice none 0 0]) Zr_75 rfl) rfl (fun b_3 => ?_)
 refine ls (s_store (i := 0) (vs := [v1]) (C' := [v1]) (O' := [(b_3, .cells #[v1] 75 (0, 0)), (b_2, .cells #[pv1_0, .int .i64 p1.Next] 101 (0, 0)), (b_1, .cells #[.string p0.Name, .int .i64 p0.Sal, pv0_0, pv0_1, pv0_2] 66 (0, 0))]) Sz_75 rfl rfl rfl (one_cells h1.one) rfl rfl ⟨h1.one, trivial⟩ rfl rfl) rfl <| WL.nil <| WT.seq <| WT.region <| lq (q_loadN Tn_66 rfl (fun w1 hw => hw.rgO (i := 2) rfl 0 5 [.string p0.Name, .int .i64 p0.Sal, pv0_0, pv0_1, pv0_2] rfl) rfl) rfl ?_
 refine lq (q_loadN Tn_101 rfl (fun w1 hw => hw.rgO (i := 1) rfl 0 2 [pv1_0, .int .i64 p1.Next] rfl) rfl) rfl ?_
 have rc2 : RC (RI .i64) 1 Φ_1 ([] : List (List Nat)) [] ([] : List Int) := RC.nil _ _ _
 refine le' (e_lit (vs := []) (C := #[]) RI.lasts Sl_78 Zr_3 rfl rfl rfl rfl (fill_made MC_3_0 (fill_nil)) rfl rc2 rfl (by simpa using Kw.nil)) rfl (fun v2 Φ_2 D2 q2 => ?_)
 obtain ⟨fr2, h2⟩ := q2
 replace h2 : OSl (RI .i64) 3 1 Φ_2 [] v2 ([] : List Int) := by simpa using h2
 replace ph0_0 := ph0_0.frame RTPat.lasts fr2 (Dj.empty _)
 replace ph0_1 := ph0_1.frame RTCond.lasts fr2 (Dj.empty _)
 replace ph0_2 := ph0_2.frame RTAct.lasts fr2 (Dj.empty _)
 replace ph1_0 := ph1_0.frame RTItem.lasts fr2 (Dj.empty _)
 replace h1 := h1.frame OTMatch.lasts fr2 (Dj.empty _) (Dj.empty _)
 have rc3 : RC RTBind 4 Φ_2 ([] : List (List Nat)) [] ([] : List TBind) := RC.nil _ _ _
 refine le' (e_lit (vs := []) (C := #[]) RTBind.lasts Sl_79 Zr_194 rfl rfl rfl rfl (fill_made MC_194_0 (fill_nil)) rfl rc3 rfl (by simpa using Kw.nil)) rfl (fun v3 Φ_3 D3 q3 => ?_)
 obtain ⟨fr3, h3⟩ := q3
 replace h3 : OSl RTBind 194 4 Φ_3 [] v3 ([] : List TBind) := by simpa using h3
 replace ph0_0 := ph0_0.frame RTPat.lasts fr3 (Dj.empty _)
 replace ph0_1 := ph0_1.frame RTCond.lasts fr3 (Dj.empty _)
 replace ph0_2 := ph0_2.frame RTAct.lasts fr3 (Dj.empty _)
 replace ph1_0 := ph1_0.frame RTItem.lasts fr3 (Dj.empty _)
 replace h1 := h1.frame OTMatch.lasts fr3 (Dj.empty _) (Dj.empty _)
 replace h2 := h2.frame RI.lasts fr3 (Dj.empty _) (Dj.empty _)
 refine WL.frz (js := [0]) (R := [(b_2, .cells #[pv1_0, .int .i64 p1.Next] 101 (0, 0)), (b_1, .cells #[.string p0.Name, .int .i64 p0.Sal, pv0_0, pv0_1, pv0_2] 66 (0, 0))]) rfl (fun Φ_4 fr4 k1 => ?_)
 replace ph0_0 := ph0_0.frame RTPat.lasts fr4 (Dj.empty _)
 replace ph0_1 := ph0_1.frame RTCond.lasts fr4 (Dj.empty _)
 replace ph0_2 := ph0_2.frame RTAct.lasts fr4 (Dj.empty _)
 replace ph1_0 := ph1_0.frame RTItem.lasts fr4 (Dj.empty _)
 replace h1 := h1.frame OTMatch.lasts fr4 (Dj.empty _) (Dj.empty _)
 replace h2 := h2.frame RI.lasts fr4 (Dj.empty _) (Dj.empty _)
 replace h3 := h3.frame RTBind.lasts fr4 (Dj.empty _) (Dj.empty _)
 obtain ⟨x1, hx1, h⟩ := bind_some h
 refine lc (k_call (js := [0, 3, 2]) (R := [ob v3, ob v2]) Fun_244 rfl rfl (fun w1 hw ap hl => m_s_l11Rows_ok N hw.fro ([] : List TMatch) p0 p1 ([] : List Int) ([] : List TBind) h1 k1 ph0_0 ph0_1 ph0_2 ph1_0 h2.rsl h3.rsl (ap.o pa0_0) (ap.o pa0_1) (ap.o pa0_2) (ap.o pa1_0) (Dj.app (ap.r (i := 1) rfl) (Dj.nil _)) (Dj.app (ap.r (i := 0) rfl) (Dj.nil _)) ap.nd hl hx1)) rfl (fun v4 Φ_5 F1 q4 => ?_)
 obtain ⟨ap1, fr5, v5, D4, rfl, rfl, h4, h5⟩ := q4
 refine WL.nil <| WT.seq <| WT.region <| lq (q_load1 T1_75 rfl (fun w1 hw => ((rg_cells h5).of_eq 0 1 rfl rfl : rg _ _ _ [v5]).rangeAt hw.fro)) rfl <| lq (q_assign rfl) rfl <| WL.nil ?_
 refine WT.ret Try.func188 (resOk.one rfl) (fun w1 hw => ?_)
 subst hb0
 cases h
 refine postG_of_St (js := [1, 1]) hw rfl ⟨v5, D4, rfl, rfl, h4⟩
theorem m_s_l11All_ok {Φ : Hp} {w : World} (hΦ : In Φ w) (N : Nat) (p0 : TDef) (p1 : TStore) {pv0_0 : Value} {pG0_0 : List Nat} {pv1_0 : Value} {pG1_0 : List Nat} (ph0_0 : RSl RTRule 5 Φ pG0_0 pv0_0 p0.Rules) (ph1_0 : RSl RTItem 3 Φ pG1_0 pv1_0 p1.Items) {r : (List TMatch)} (h : m_s_l11All N p0 p1 = some r) :
  Calls Try.prog 107 [.agg [.string p0.Name, pv0_0].toArray, .agg [pv1_0, .int .i64 p1.Next].toArray].toArray w (PostG Φ w [] (fun Φ' Fs v => ∃ (sr_0_0 : Value) (Dr_0_0 : List Nat) (X : List Nat), v = sr_0_0 ∧ Fs = [ob sr_0_0, X] ∧ OSl RTMatch 81 3 Φ' Dr_0_0 sr_0_0 r ∧ (∀ k ∈ Dr_0_0, k ∈ X))) := by
 refine enter Try.func107 rfl Try.ntmps107 rfl (St.start0 hΦ) ?_
 have pa0_0 : Old ⟨w, [], Φ⟩ pG0_0 := Old.mk hΦ ph0_0.kn (Dj.empty _)
 have pa1_0 : Old ⟨w, [], Φ⟩ pG1_0 := Old.mk hΦ ph1_0.kn (Dj.empty _)
 revert pa0_0 pa1_0
 generalize hb0 : (⟨w, [], Φ⟩ : Base) = w0
 intro pa0_0 pa1_0
 unfold m_s_l11All at h
 refine WT.seq <| WT.region ?_
 refine ln (n_box (C := #[.string p0.Name, pv0_0]) rfl rfl) rfl (fun b_1 => ?_)
 refine ln (n_box (C := #[pv1_0, .int .i64 p1.Next]) rfl rfl) rfl (fun b_2 => ?_)
 refine lq (q_assign rfl) rfl <| WL.nil <| WT.seq <| WT.region ?_
 have rc1 : RC OTMatch 3 Φ ([] : List (List Nat)) [] ([] : List TMatch) := RC.nil _ _ _
 refine le' (e_lit (vs := []) (C := #[]) OTMatch.lasts Sl_75 Zr_81 rfl rfl rfl rfl (fill_made MC_81_0 (fill_nil)) rfl rc1 rfl (by simpa using Kw.nil)) rfl (fun v1 Φ_1 D1 q1 => ?_)
 obtain ⟨fr1, h1⟩ := q1
 replace h1 : OSl OTMatch 81 3 Φ_1 [] v1 ([] : List TMatch) := by simpa [List.append_assoc] using h1
 replace ph0_0 := ph0_0.frame RTRule.lasts fr1 (Dj.empty _)
 replace ph1_0 := ph1_0.frame RTItem.lasts fr1 (Dj.empty _)
 refine WL.conv (S' := St w0 Φ_1 [(b_2, .cells #[pv1_0, .int .i64 p1.Next] 101 (0, 0)), (b_1, .cells #[.string p0.Name, pv0_0] 29 (0, 0))] [[], ob v1]) (fun w1 hw => hw.addNil) <| lq (q_assign rfl) rfl <| WL.nil <| WT.seq <| WT.seq <| WT.region <| lq (q_assign rfl) rfl <| WL.nil <| WT.block <| WT.loop <| WT.conv (S' := St w0 Φ_1 [(b_2, .cells #[pv1_0, .int .i64 p1.Next] 101 (0, 0)), (b_1, .cells #[.string p0.Name, pv0_0] 29 (0, 0))] ([] :: [[], ob v1])) (fun w1 hw => hw.addNil) ?_
 replace h1 := h1.gives OTMatch.gives
 refine WT.mono (l' := [(2, .pointer (some ⟨b_1, 0, none⟩)), (3, .pointer (some ⟨b_2, 0, none⟩)), (5, v1), (6, .int .i64 0)]) (S' := St w0 Φ_1 [(b_2, .cells #[pv1_0, .int .i64 p1.Next] 101 (0, 0)), (b_1, .cells #[.string p0.Name, pv0_0] 29 (0, 0))] [[], ob v1]) ⟨rfl, rfl, rfl, rfl, trivial⟩ (fun w1 hw => (hw.sel (js := [0, 1]) rfl).selO (js := [0, 0]) rfl) ?_
 refine loop_ind (σ := Hp × List Nat × (List TMatch) × Value × List Nat × Int) (fun s => [(2, .pointer (some ⟨b_1, 0, none⟩)), (3, .pointer (some ⟨b_2, 0, none⟩)), (5, s.2.2.2.1), (6, .int .i64 s.2.2.2.2.2)]) (fun s => St w0 s.1 [(b_2, .cells #[pv1_0, .int .i64 p1.Next] 101 (0, 0)), (b_1, .cells #[.string p0.Name, pv0_0] 29 (0, 0))] [s.2.1, ob s.2.2.2.1]) (fun m s => m_s_l11All_l1 N p0 p1 m s.2.2.1 s.2.2.2.2.2 = some r ∧ (OSl RTMatch 81 3 s.1 s.2.2.2.2.1 s.2.2.2.1 s.2.2.1) ∧ (∀ k ∈ s.2.2.2.2.1, k ∈ s.2.1) ∧ (RSl RTRule 5 s.1 pG0_0 pv0_0 p0.Rules) ∧ (RSl RTItem 3 s.1 pG1_0 pv1_0 p1.Items)) (fun s hm => none_ne (show (none : Option ((List TMatch))) = some r from hm.1)) (fun n1 ih1 s hm => ?_) N (Φ_1, [], ([] : List TMatch), v1, [], 0) ⟨h, h1, (by simp), ph0_0, ph1_0⟩
 obtain ⟨Φ_2, X1, s1, u1, D2, s2⟩ := s
 obtain ⟨h, k1, i1, ph0_0, ph1_0⟩ := hm
 replace h : m_s_l11All_l1 N p0 p1 (n1 + 1) s1 s2 = some r := h
 replace k1 : OSl RTMatch 81 3 Φ_2 D2 u1 s1 := k1
 replace i1 : ∀ k ∈ D2, k ∈ X1 := i1
 replace ph0_0 : RSl RTRule 5 Φ_2 pG0_0 pv0_0 p0.Rules := ph0_0
 replace ph1_0 : RSl RTItem 3 Φ_2 pG1_0 pv1_0 p1.Items := ph1_0
 show WT _ _ [(2, .pointer (some ⟨b_1, 0, none⟩)), (3, .pointer (some ⟨b_2, 0, none⟩)), (5, u1), (6, .int .i64 s2)] (St w0 Φ_2 [(b_2, .cells #[pv1_0, .int .i64 p1.Next] 101 (0, 0)), (b_1, .cells #[.string p0.Name, pv0_0] 29 (0, 0))] [X1, ob u1])
 unfold m_s_l11All_l1 at h
 refine WT.seq <| WT.seq <| WT.region <| lq (q_move rfl) rfl <| lq (q_fieldAddr Fld_29_1 rfl) rfl <| lq (q_load1 T1_27 rfl (fun w1 hw => hw.rgO (i := 1) rfl 1 1 [pv0_0] rfl)) rfl <| lq (q_lenR Sl_27 rfl rfl ph0_0) rfl <| lq (q_lss rfl rfl) rfl <| WL.nil ?_
 refine WT.cond rfl (fun c1 => ?_) (fun c1 => ?_)
 ·replace h := ite_t h c1
  refine WT.skip <| WT.seq <| WT.block <| WT.seq <| WT.mix (Kn Φ_2 pG0_0 [(b_2, .cells #[pv1_0, .int .i64 p1.Next] 101 (0, 0)), (b_1, .cells #[.string p0.Name, pv0_0] 29 (0, 0))]) (fun _ => true) mixed (fun _ h => h.drew) <| mq 0 rfl (by kernel_rfl) (fun w1 hw => Kn.of (fun _ _ _ h => h) (AllIn.mem ⟨List.mem_of_getElem? (i := 0) rfl, List.mem_of_getElem? (i := 1) rfl, trivial⟩) hw) (q_fieldAddr Fld_29_1 rfl) rfl <| mq 1 rfl (by kernel_rfl) (fun w1 hw => Kn.of (fun _ _ _ h => h) (AllIn.mem ⟨List.mem_of_getElem? (i := 0) rfl, List.mem_of_getElem? (i := 1) rfl, trivial⟩) hw) (q_load1 T1_27 rfl (fun w1 hw => hw.rgO (i := 1) rfl 1 1 [pv0_0] rfl)) rfl ?_
  refine mq 2 rfl (by kernel_rfl) (fun w1 hw => Kn.of (fun _ _ _ h => h) (AllIn.mem ⟨List.mem_of_getElem? (i := 0) rfl, List.mem_of_getElem? (i := 1) rfl, trivial⟩) hw) (q_move rfl) rfl ?_
  obtain ⟨x1, hx1, h⟩ := bind_some h
  obtain ⟨cs1, F1, -, g1, hb1, hs1, r1⟩ := ph0_0.el (idx_some hx1).2.2
  obtain ⟨v2, G1, v3, G2, v4, G3, rfl, rfl, h2, h3, h4⟩ := r1
  refine mq 3 rfl (by kernel_rfl) (fun w1 hw => Kn.of (fun _ _ _ h => h) (AllIn.mem ⟨List.mem_of_getElem? (i := 0) rfl, List.mem_of_getElem? (i := 1) rfl, trivial⟩) hw) (q_indexAddr Sl_27 rfl rfl ph0_0 hx1) rfl <| mq 4 rfl (by kernel_rfl) (fun w1 hw => Kn.of (fun _ _ _ h => h) (AllIn.mem ⟨List.mem_of_getElem? (i := 0) rfl, List.mem_of_getElem? (i := 1) rfl, trivial⟩) hw) (q_loadN Tn_66 rfl (fun w1 hw => hw.rg hb1 (g1.of_eq 0 5 rfl rfl : rg _ _ _ [.string x1.Name, .int .i64 x1.Sal, v2, v3, v4])) rfl) rfl ?_
  refine mq 5 rfl (by kernel_rfl) (fun w1 hw => Kn.of (fun _ _ _ h => h) (AllIn.mem ⟨List.mem_of_getElem? (i := 0) rfl, List.mem_of_getElem? (i := 1) rfl, trivial⟩) hw) (q_loadN Tn_101 rfl (fun w1 hw => hw.rgO (i := 0) rfl 0 2 [pv1_0, .int .i64 p1.Next] rfl) rfl) rfl ?_
  obtain ⟨x2, hx2, h⟩ := bind_some h
  refine WM.one 6 (by kernel_rfl) (mc rfl (fun _ v Φx D w1 hq hw => Kn.of (fun k hk o ho => hq.2.1 k o ((hq.1.o pa0_0) k hk) ((fun _ _ _ h => h) k hk o ho)) (AllIn.mem ⟨List.mem_of_getElem? (i := 0) rfl, List.mem_of_getElem? (i := 1) rfl, trivial⟩) hw) (k_call (js := []) (R := [X1, ob u1]) Fun_188 rfl rfl (fun w1 hw ap hl => m_s_l11Of_ok hw.fro N x1 p1 h2 h3 h4 ph1_0  hx2)) rfl (fun v5 Φ_3 F2 q2 => ?_))
  obtain ⟨ap1, fr2, v6, D3, rfl, rfl, h5⟩ := q2
  replace ph0_0 := ph0_0.frame RTRule.lasts fr2 (ap1.o pa0_0)
  replace ph1_0 := ph1_0.frame RTItem.lasts fr2 (ap1.o pa1_0)
  replace k1 := k1.frame RTMatch.lasts fr2 (ap1.r (i := 1) rfl) (Dj.sub (ap1.r (i := 0) rfl) i1)
  refine mq 7 rfl (by kernel_rfl) (fun w1 hw => Kn.of (fun k hk o ho => fr2 k o ((ap1.o pa0_0) k hk) ((fun _ _ _ h => h) k hk o ho)) (AllIn.mem ⟨List.mem_of_getElem? (i := 0) rfl, List.mem_of_getElem? (i := 1) rfl, trivial⟩) hw) (q_assign rfl) rfl <| WM.nil (by kernel_rfl) <| WT.seq <| WT.region <| lq (q_assign rfl) rfl <| WL.nil <| WT.block <| WT.loop <| WT.mono (l' := [(2, .pointer (some ⟨b_1, 0, none⟩)), (3, .pointer (some ⟨b_2, 0, none⟩)), (5, u1), (6, .int .i64 s2), (7, v5), (8, .int .i64 0)]) (S' := St w0 Φ_3 [(b_2, .cells #[pv1_0, .int .i64 p1.Next] 101 (0, 0)), (b_1, .cells #[.string p0.Name, pv0_0] 29 (0, 0))] [ob v5, D3, X1, ob u1]) ⟨rfl, rfl, rfl, rfl, rfl, rfl, trivial⟩ (fun w1 hw => (hw.sel (js := [0, 0, 0, 0]) rfl).selO (js := [0, 0]) rfl) ?_
  refine loop_ind (σ := Hp × (List TMatch) × Value × List Nat × (List TMatch) × List Nat × Int) (fun s => [(2, .pointer (some ⟨b_1, 0, none⟩)), (3, .pointer (some ⟨b_2, 0, none⟩)), (5, s.2.2.1), (6, .int .i64 s2), (7, v5), (8, .int .i64 s.2.2.2.2.2.2)]) (fun s => St w0 s.1 [(b_2, .cells #[pv1_0, .int .i64 p1.Next] 101 (0, 0)), (b_1, .cells #[.string p0.Name, pv0_0] 29 (0, 0))] [ob v5, s.2.2.2.2.2.1, X1, ob s.2.2.1]) (fun m s => m_s_l11All_l2 N s2 (m_s_l11All_l1 N p0 p1 n1) m s.2.1 s.2.2.2.2.1 s.2.2.2.2.2.2 = some r ∧ (OSl RTMatch 81 3 s.1 s.2.2.2.1 s.2.2.1 s.2.1) ∧ (∀ k ∈ s.2.2.2.1, k ∈ (X1 ++ s.2.2.2.2.2.1)) ∧ (OSl OTMatch 81 3 s.1 s.2.2.2.2.2.1 v5 s.2.2.2.2.1) ∧ (RSl RTRule 5 s.1 pG0_0 pv0_0 p0.Rules) ∧ (RSl RTItem 3 s.1 pG1_0 pv1_0 p1.Items)) (fun s hm => none_ne (show (none : Option ((List TMatch))) = some r from hm.1)) (fun n2 ih2 s hm => ?_) N (Φ_3, s1, u1, D2, x2, D3, 0) ⟨h, k1, (fun k hk => (List.mem_append.2 (.inl (i1 k hk)))), h5, ph0_0, ph1_0⟩
  obtain ⟨Φ_4, s3, u2, D4, s4, D5, s5⟩ := s
  obtain ⟨h, k2, i2, k3, ph0_0, ph1_0⟩ := hm
  replace h : m_s_l11All_l2 N s2 (m_s_l11All_l1 N p0 p1 n1) (n2 + 1) s3 s4 s5 = some r := h
  replace k2 : OSl RTMatch 81 3 Φ_4 D4 u2 s3 := k2
  replace i2 : ∀ k ∈ D4, k ∈ (X1 ++ D5) := i2
  replace k3 : OSl OTMatch 81 3 Φ_4 D5 v5 s4 := k3
  replace ph0_0 : RSl RTRule 5 Φ_4 pG0_0 pv0_0 p0.Rules := ph0_0
  replace ph1_0 : RSl RTItem 3 Φ_4 pG1_0 pv1_0 p1.Items := ph1_0
  show WT _ _ [(2, .pointer (some ⟨b_1, 0, none⟩)), (3, .pointer (some ⟨b_2, 0, none⟩)), (5, u2), (6, .int .i64 s2), (7, v5), (8, .int .i64 s5)] (St w0 Φ_4 [(b_2, .cells #[pv1_0, .int .i64 p1.Next] 101 (0, 0)), (b_1, .cells #[.string p0.Name, pv0_0] 29 (0, 0))] [ob v5, D5, X1, ob u2])
  unfold m_s_l11All_l2 at h
  refine WT.seq <| WT.seq <| WT.region <| lq (q_move rfl) rfl <| lq (q_move rfl) rfl <| lq (q_lenR Sl_75 rfl rfl (k3.rslG OTMatch.gives)) rfl <| lq (q_lss rfl rfl) rfl <| WL.nil ?_
  refine WT.cond rfl (fun c2 => ?_) (fun c2 => ?_)
  ·replace h := ite_t h c2
   refine WT.skip <| WT.seq <| WT.block <| WT.seq <| WT.region <| lq (q_move rfl) rfl <| lq (q_move rfl) rfl <| lq (q_move rfl) rfl ?_
   obtain ⟨x3, hx3, h⟩ := bind_some h
   obtain ⟨cs2, F3, D6, h6, r2, kf1, sp1, mM1⟩ := k3.focusM hx3
   obtain ⟨v7, v8, rfl, rfl, h7, h8⟩ := r2
   refine WL.conv (S' := St w0 Φ_4 [(b_2, .cells #[pv1_0, .int .i64 p1.Next] 101 (0, 0)), (b_1, .cells #[.string p0.Name, pv0_0] 29 (0, 0))] [ob v7, ob v8, D6, ob v5, X1, ob u2]) (fun w1 hw => hw.re (js := [1]) (Bs := [ob v7, ob v8, D6]) rfl (by simpa [List.append_assoc] using sp1)) <| lq (q_indexAddrH Sl_75 rfl rfl h6 hx3) rfl <| lq (q_fieldAddr Fld_81_0 rfl) rfl ?_
   refine lu (u_setH (js := [3]) (Rr := [ob v7, ob v8, D6, X1, ob u2]) (o := 0) (vs := [.int .i64 s2]) (cs' := [.int .i64 s2, v7, v8]) OTMatch.lasts Sz_3 rfl rfl rfl rfl ⟨rfl, trivial⟩ rfl h6 rfl rfl (fun ap => (ap.r (i := 2) rfl))) rfl (fun Φ_5 D7 q3 => ?_)
   obtain ⟨⟨ap2, fr3⟩, h9⟩ := q3
   replace ph0_0 := ph0_0.frame RTRule.lasts fr3 (ap2.o pa0_0)
   replace ph1_0 := ph1_0.frame RTItem.lasts fr3 (ap2.o pa1_0)
   replace k2 := k2.frame RTMatch.lasts fr3 (ap2.r (i := 4) rfl) (Dj.sub (Dj.app (ap2.r (i := 3) rfl) (Dj.sub (Dj.app (Dj.app (Dj.sub (ap2.r (i := 0) rfl) apnil) (Dj.sub (ap2.r (i := 1) rfl) apnil)) (ap2.r (i := 2) rfl)) mM1)) i2)
   replace h7 := h7.frame RI.lasts fr3 (ap2.r (i := 0) rfl) (Dj.nil _)
   replace h8 := h8.frame RTBind.lasts fr3 (ap2.r (i := 1) rfl) (Dj.nil _)
   refine WL.nil <| WT.region <| lq (q_move rfl) rfl <| lq (q_move rfl) rfl <| lq (q_move rfl) rfl <| lq (q_indexAddrH Sl_75 rfl rfl h9 hx3) rfl <| lq (q_loadN Tn_81 rfl (fun w1 hw => (h9.rg.of_eq 0 3 rfl rfl : rg _ _ _ [.int .i64 s2, v7, v8]).rangeAt hw.fro) rfl) rfl ?_
   have rc2 : RC RTMatch 3 Φ_5 ([(ob v7 ++ []) ++ ((ob v8 ++ []))] : List (List Nat)) [.int .i64 s2, v7, v8] ([(⟨s2, x3.Ids, x3.Binds⟩ : TMatch)] : List TMatch) := RC.cons (c := [.int .i64 s2, v7, v8]) (cells := []) ⟨v7, (ob v7 ++ []), v8, (ob v8 ++ []), rfl, rfl, h7.rsl, h8.rsl⟩ rfl (RC.nil _ _ _)
   refine le' (e_lit (vs := [(0, .agg [.int .i64 s2, v7, v8].toArray)]) (C := #[.int .i64 s2, v7, v8]) RTMatch.lasts Sl_75 Zr_81 rfl rfl rfl rfl (fill_made MC_81_1 (fill_cons (cells := [.int .i64 0, .slice none 0 0, .slice none 0 0]) (c := [.int .i64 s2, v7, v8]) (C' := [.int .i64 s2, v7, v8]) rfl rfl rfl rfl rfl (fill_nil))) rfl rc2 rfl (RC.kn RTMatch.knows rc2)) rfl (fun v9 Φ_6 D8 q4 => ?_)
   obtain ⟨fr4, h10⟩ := q4
   replace h10 : OSl RTMatch 81 3 Φ_6 ((ob v7 ++ []) ++ ((ob v8 ++ []))) v9 ([(⟨s2, x3.Ids, x3.Binds⟩ : TMatch)] : List TMatch) := by simpa [List.append_assoc] using h10
   replace ph0_0 := ph0_0.frame RTRule.lasts fr4 (Dj.empty _)
   replace ph1_0 := ph1_0.frame RTItem.lasts fr4 (Dj.empty _)
   replace k2 := k2.frame RTMatch.lasts fr4 (Dj.empty _) (Dj.empty _)
   replace h9 := h9.frame OTMatch.lasts fr4 (Dj.empty _) (Dj.empty _)
   replace h7 := h7.frame RI.lasts fr4 (Dj.empty _) (Dj.empty _)
   replace h8 := h8.frame RTBind.lasts fr4 (Dj.empty _) (Dj.empty _)
   obtain ⟨x4, hx4, h⟩ := bind_some h
   refine le' (e_appO RTMatch.lasts RTMatch.one Sl_75 Ei_81 rfl rfl rfl rfl rfl (js := [6]) (Rr := [ob v9, ob v5, ob v7, ob v8, D6, X1]) rfl k2 h10 (fun ap => (Dj.sub (Dj.app (ap.r (i := 5) rfl) (Dj.sub (Dj.app (Dj.app (Dj.sub (ap.r (i := 2) rfl) apnil) (Dj.sub (ap.r (i := 3) rfl) apnil)) (ap.r (i := 4) rfl)) mM1)) i2)) (fun ap => (Dj.sub (Dj.app (Dj.sub (ap.r (i := 2) rfl) apnil) (Dj.sub (ap.r (i := 3) rfl) apnil)) (fun k hk => (by simpa [List.append_assoc] using hk : k ∈ ((ob v7 ++ []) ++ (ob v8 ++ [])))))) hx4) rfl (fun v10 Φ_7 D9 q5 => ?_)
   obtain ⟨⟨ap3, fr5⟩, h11⟩ := q5
   replace ph0_0 := ph0_0.frame RTRule.lasts fr5 (ap3.o pa0_0)
   replace ph1_0 := ph1_0.frame RTItem.lasts fr5 (ap3.o pa1_0)
   replace h9 := h9.frame OTMatch.lasts fr5 (ap3.r (i := 1) rfl) (ap3.r (i := 4) rfl)
   replace h7 := h7.frame RI.lasts fr5 (ap3.r (i := 2) rfl) (Dj.nil _)
   replace h8 := h8.frame RTBind.lasts fr5 (ap3.r (i := 3) rfl) (Dj.nil _)
   refine lq (q_assign rfl) rfl <| WL.nil <| WT.inBlock <| WT.region <| lq (q_move rfl) rfl <| lq (q_add rfl rfl) rfl <| lq (q_assign rfl) rfl <| WL.nil ?_
   have r3 : OTMatch Φ_7 _ [.int .i64 s2, v7, v8] (⟨s2, x3.Ids, x3.Binds⟩ : TMatch) := ⟨v7, v8, rfl, rfl, h7, h8⟩
   obtain ⟨D10, h12, sp2, mF1, mD1⟩ := h9.unfocusM r3 (OTMatch.knows _ _ _ _ r3)
   refine WT.conv (S' := St w0 Φ_7 [(b_2, .cells #[pv1_0, .int .i64 p1.Next] 101 (0, 0)), (b_1, .cells #[.string p0.Name, pv0_0] 29 (0, 0))] [D10, ob v10, ob v9, ob v5, X1]) (fun w1 hw => hw.merge (js := [3, 3, 3]) rfl (by simpa [List.append_assoc, ob_nil] using sp2)) ?_
   refine WT.inLoop (WT.mono (l' := [(2, .pointer (some ⟨b_1, 0, none⟩)), (3, .pointer (some ⟨b_2, 0, none⟩)), (5, v10), (6, .int .i64 s2), (7, v5), (8, .int .i64 (IntKind.i64.wrap (s5 + 1)))]) (S' := St w0 Φ_7 [(b_2, .cells #[pv1_0, .int .i64 p1.Next] 101 (0, 0)), (b_1, .cells #[.string p0.Name, pv0_0] 29 (0, 0))] [ob v5, D10, X1, ob v10]) ⟨rfl, rfl, rfl, rfl, rfl, rfl, trivial⟩ (fun w1 hw => (hw.sel (js := [3, 0, 2, 0]) rfl).selO (js := [0, 0]) rfl) ?_)
   exact ih2 (Φ_7, x4, v10, (D4 ++ ((ob v7 ++ []) ++ ((ob v8 ++ [])))), (s4.set s5.toNat (⟨s2, x3.Ids, x3.Binds⟩ : TMatch)), D10, IntKind.i64.wrap (s5 + 1)) ⟨h, h11, (fun k hk => ((List.mem_append.1 hk).elim (fun h => ((List.mem_append.1 (i2 k h)).elim (fun h => (List.mem_append.2 (.inl h))) (fun h => ((List.mem_append.1 (mM1 k h)).elim (fun h => ((List.mem_append.1 h).elim (fun h => (List.mem_append.2 (.inr ((fun k hk => mF1 k (List.mem_append.2 (.inl (List.mem_append.2 (.inl hk))))) k (apnil k h))))) (fun h => (List.mem_append.2 (.inr ((fun k hk => mF1 k (List.mem_append.2 (.inr (List.mem_append.2 (.inl hk))))) k (apnil k h))))))) (fun h => (List.mem_append.2 (.inr (mD1 k h)))))))) (fun h => ((List.mem_append.1 ((fun k hk => (by simpa [List.append_assoc] using hk : k ∈ ((ob v7 ++ []) ++ (ob v8 ++ [])))) k h)).elim (fun h => (List.mem_append.2 (.inr ((fun k hk => mF1 k (List.mem_append.2 (.inl (List.mem_append.2 (.inl hk))))) k (apnil k h))))) (fun h => (List.mem_append.2 (.inr ((fun k hk => mF1 k (List.mem_append.2 (.inr (List.mem_append.2 (.inl hk))))) k (apnil k h))))))))), h12, ph0_0, ph1_0⟩
  replace h := ite_f h c2
  refine WT.exit rfl <| WT.inBlock <| WT.region <| lq (q_move rfl) rfl <| lq (q_add rfl rfl) rfl <| lq (q_assign rfl) rfl <| WL.nil <| WT.conv (S' := St w0 Φ_4 [(b_2, .cells #[pv1_0, .int .i64 p1.Next] 101 (0, 0)), (b_1, .cells #[.string p0.Name, pv0_0] 29 (0, 0))] [(X1 ++ (D5)), ob v5, ob u2]) (fun w1 hw => hw.merge (js := [2, 1]) rfl (SP.eq (by simp [List.append_assoc]))) ?_
  refine WT.inLoop (WT.mono (l' := [(2, .pointer (some ⟨b_1, 0, none⟩)), (3, .pointer (some ⟨b_2, 0, none⟩)), (5, u2), (6, .int .i64 (IntKind.i64.wrap (s2 + 1)))]) (S' := St w0 Φ_4 [(b_2, .cells #[pv1_0, .int .i64 p1.Next] 101 (0, 0)), (b_1, .cells #[.string p0.Name, pv0_0] 29 (0, 0))] [(X1 ++ (D5)), ob u2]) ⟨rfl, rfl, rfl, rfl, trivial⟩ (fun w1 hw => (hw.sel (js := [0, 1]) rfl).selO (js := [0, 0]) rfl) ?_)
  exact ih1 (Φ_4, (X1 ++ (D5)), s3, u2, D4, IntKind.i64.wrap (s2 + 1)) ⟨h, k2, (fun k hk => ((List.mem_append.1 (i2 k hk)).elim (fun h => ((fun k hk => (List.mem_append.2 (.inl hk))) k h)) (fun h => ((fun k hk => (List.mem_append.2 (.inr hk))) k h)))), ph0_0, ph1_0⟩
 replace h := ite_f h c1
 refine WT.exit rfl <| WT.seq <| WT.region <| lq (q_move rfl) rfl <| lq (q_assign rfl) rfl <| WL.nil ?_
 refine WT.ret Try.func107 (resOk.one rfl) (fun w1 hw => ?_)
 subst hb0
 cases h
 replace hw := hw.merge (js := [0]) (F := [X1].flatten) rfl (SP.eq (by simp))
 refine postG_of_St (js := [1, 0]) hw rfl ⟨u1, D2, [X1].flatten, rfl, rfl, k1, (fun k hk => (List.mem_flatten.2 ⟨X1, by simp, (i1 k hk)⟩))⟩
theorem m_s_l4Drop_ok {Φ : Hp} {w : World} (hΦ : In Φ w) (N : Nat) (p0 : TStore) (p1 : Int) {pv0_0 : Value} {pG0_0 : List Nat} {pb0 : Nat} (ph0_0 : RSl RTItem 3 Φ pG0_0 pv0_0 p0.Items) (pp0 : Φ pb0 = some (.cells #[pv0_0, .int .i64 p0.Next] 101 (0, 0))) (pd0_0 : Dj pG0_0 [[pb0]].flatten) (hB : [[pb0]].flatten.Nodup) (hlt : ∀ k ∈ [[pb0]].flatten, k < w.heap.size) {r : Bool × TStore} (h : m_s_l4Drop N p0 p1 = some r) :
  Calls Try.prog 189 [.pointer (some ⟨pb0, 0, none⟩), .int .i64 p1].toArray w (PostG Φ w [[pb0]].flatten (fun Φ' Fs v => ∃ (so_0_0 : Value) (Do_0_0 : List Nat), v = .bool r.1 ∧ Fs = [[pb0], ob so_0_0] ∧ OSl RTItem 190 3 Φ' Do_0_0 so_0_0 r.2.Items ∧ (∀ k ∈ Do_0_0, k ∈ pG0_0) ∧ Φ' pb0 = some (.cells #[so_0_0, .int .i64 r.2.Next] 101 (0, 0)))) := by
 refine enter Try.func189 rfl Try.ntmps189 rfl (St.start hΦ [[pb0]] hB hlt) ?_
 have pa0_0 : Old ⟨w, [[pb0]].flatten, Φ⟩ pG0_0 := Old.mk hΦ ph0_0.kn pd0_0
 revert pa0_0
 generalize hb0 : (⟨w, [[pb0]].flatten, Φ⟩ : Base) = w0
 intro pa0_0
 unfold m_s_l4Drop at h
 refine WT.seq <| WT.region <| lq (q_assign rfl) rfl <| WL.nil <| WT.seq <| WT.region ?_
 have rc1 : RC OTItem 3 Φ ([] : List (List Nat)) [] ([] : List TItem) := RC.nil _ _ _
 refine le' (e_lit (vs := []) (C := #[]) OTItem.lasts Sl_99 Zr_190 rfl rfl rfl rfl (fill_made MC_190_0 (fill_nil)) rfl rc1 rfl (by simpa using Kw.nil)) rfl (fun v1 Φ_1 D1 q1 => ?_)
 obtain ⟨fr1, h1⟩ := q1
 replace h1 : OSl OTItem 190 3 Φ_1 [] v1 ([] : List TItem) := by simpa [List.append_assoc] using h1
 replace ph0_0 := ph0_0.frame RTItem.lasts fr1 (Dj.empty _)
 replace pp0 := fr1 _ _ (by simp) pp0
 refine WL.conv (S' := St w0 Φ_1 [] [[], ob v1, [pb0]]) (fun w1 hw => hw.addNil) <| lq (q_assign rfl) rfl <| WL.nil <| WT.seq <| WT.seq <| WT.region <| lq (q_assign rfl) rfl <| WL.nil <| WT.block <| WT.loop ?_
 replace h1 := h1.gives OTItem.gives
 refine WT.mono (l' := [(0, .pointer (some ⟨pb0, 0, none⟩)), (1, .int .i64 p1), (5, v1), (6, .int .i64 0)]) (S' := St w0 Φ_1 [] [ob v1, [pb0]]) ⟨rfl, rfl, rfl, rfl, trivial⟩ (fun w1 hw => (hw.sel (js := [1, 1]) rfl).selO (js := []) rfl) ?_
 refine loop_ind (σ := Hp × (List TItem) × Value × List Nat × Int) (fun s => [(0, .pointer (some ⟨pb0, 0, none⟩)), (1, .int .i64 p1), (5, s.2.2.1), (6, .int .i64 s.2.2.2.2)]) (fun s => St w0 s.1 [] [ob s.2.2.1, [pb0]]) (fun m s => m_s_l4Drop_l1 N p0 p1 m s.2.1 s.2.2.2.2 = some r ∧ (OSl RTItem 190 3 s.1 s.2.2.2.1 s.2.2.1 s.2.1) ∧ (∀ k ∈ s.2.2.2.1, k ∈ pG0_0) ∧ (s.1 pb0 = some (.cells #[pv0_0, .int .i64 p0.Next] 101 (0, 0))) ∧ (RSl RTItem 3 s.1 pG0_0 pv0_0 p0.Items)) (fun s hm => none_ne (show (none : Option (Bool × TStore)) = some r from hm.1)) (fun n1 ih1 s hm => ?_) N (Φ_1, ([] : List TItem), v1, [], 0) ⟨h, h1, (by simp), pp0, ph0_0⟩
 obtain ⟨Φ_2, s1, u1, D2, s2⟩ := s
 obtain ⟨h, k1, i1, k2, ph0_0⟩ := hm
 replace h : m_s_l4Drop_l1 N p0 p1 (n1 + 1) s1 s2 = some r := h
 replace k1 : OSl RTItem 190 3 Φ_2 D2 u1 s1 := k1
 replace i1 : ∀ k ∈ D2, k ∈ pG0_0 := i1
 replace k2 : Φ_2 pb0 = some (.cells #[pv0_0, .int .i64 p0.Next] 101 (0, 0)) := k2
 replace ph0_0 : RSl RTItem 3 Φ_2 pG0_0 pv0_0 p0.Items := ph0_0
 show WT _ _ [(0, .pointer (some ⟨pb0, 0, none⟩)), (1, .int .i64 p1), (5, u1), (6, .int .i64 s2)] (St w0 Φ_2 [] [ob u1, [pb0]])
 unfold m_s_l4Drop_l1 at h
 refine WT.seq <| WT.seq <| WT.region <| lq (q_move rfl) rfl <| lq (q_move rfl) rfl <| lq (q_nilCheck rfl) rfl <| lq (q_fieldAddr Fld_101_0 rfl) rfl <| lq (q_load1 T1_99 rfl (fun w1 hw => ((rg_cells k2).of_eq 0 1 rfl rfl : rg _ _ _ [pv0_0]).rangeAt hw.fro)) rfl <| lq (q_lenR Sl_99 rfl rfl ph0_0) rfl <| lq (q_lss rfl rfl) rfl <| WL.nil ?_
 refine WT.cond rfl (fun c1 => ?_) (fun c1 => ?_)
 ·replace h := ite_t h c1
  refine WT.skip <| WT.seq <| WT.block <| WT.seq <| WT.region <| lq (q_move rfl) rfl <| lq (q_nilCheck rfl) rfl <| lq (q_fieldAddr Fld_101_0 rfl) rfl <| lq (q_load1 T1_99 rfl (fun w1 hw => ((rg_cells k2).of_eq 0 1 rfl rfl : rg _ _ _ [pv0_0]).rangeAt hw.fro)) rfl <| lq (q_move rfl) rfl ?_
  obtain ⟨x1, hx1, h⟩ := bind_some h
  obtain ⟨cs1, F1, -, g1, hb1, hs1, r1⟩ := ph0_0.el (idx_some hx1).2.2
  obtain ⟨v2, G1, rfl, hq1, h2⟩ := r1
  obtain rfl := hq1.symm
  refine lq (q_indexAddr Sl_99 rfl rfl ph0_0 hx1) rfl <| lq (q_fieldAddr Fld_190_0 rfl) rfl <| lq (q_load1 T1_3 rfl (fun w1 hw => (g1.of_eq 0 1 rfl rfl : rg _ _ _ [.int .i64 x1.Id]).rangeAt hw.fro)) rfl <| lq (q_move rfl) rfl <| lq (q_neq rfl rfl) rfl <| WL.nil ?_
  refine WT.cond rfl (fun c2 => ?_) (fun c2 => ?_)
  ·replace h := ite_t h c2
   refine WT.region <| lq (q_move rfl) rfl <| lq (q_move rfl) rfl <| lq (q_nilCheck rfl) rfl <| lq (q_fieldAddr Fld_101_0 rfl) rfl <| lq (q_load1 T1_99 rfl (fun w1 hw => ((rg_cells k2).of_eq 0 1 rfl rfl : rg _ _ _ [pv0_0]).rangeAt hw.fro)) rfl <| lq (q_move rfl) rfl ?_
   obtain ⟨x2, hx2, h⟩ := bind_some h
   obtain ⟨cs2, F2, -, g2, hb2, hs2, r2⟩ := ph0_0.el (idx_some hx2).2.2
   obtain ⟨v3, G2, rfl, hq2, h3⟩ := r2
   obtain rfl := hq2.symm
   refine lq (q_indexAddr Sl_99 rfl rfl ph0_0 hx2) rfl <| lq (q_loadN Tn_190 rfl (fun w1 hw => (g2.of_eq 0 3 rfl rfl : rg _ _ _ [.int .i64 x2.Id, .string x2.F.Kind, v3]).rangeAt hw.fro) rfl) rfl ?_
   have rc2 : RC RTItem 3 Φ_2 ([G2] : List (List Nat)) [.int .i64 x2.Id, .string x2.F.Kind, v3] ([x2] : List TItem) := RC.cons (c := [.int .i64 x2.Id, .string x2.F.Kind, v3]) (cells := []) ⟨v3, G2, rfl, rfl, h3⟩ rfl (RC.nil _ _ _)
   refine le' (e_lit (vs := [(0, .agg [.int .i64 x2.Id, .string x2.F.Kind, v3].toArray)]) (C := #[.int .i64 x2.Id, .string x2.F.Kind, v3]) RTItem.lasts Sl_99 Zr_190 rfl rfl rfl rfl (fill_made MC_190_1 (fill_cons (cells := [.int .i64 0, .string ⟨#[]⟩, .slice none 0 0]) (c := [.int .i64 x2.Id, .string x2.F.Kind, v3]) (C' := [.int .i64 x2.Id, .string x2.F.Kind, v3]) rfl rfl rfl rfl rfl (fill_nil))) rfl rc2 rfl (RC.kn RTItem.knows rc2)) rfl (fun v4 Φ_3 D3 q2 => ?_)
   obtain ⟨fr2, h4⟩ := q2
   replace h4 : OSl RTItem 190 3 Φ_3 (G2) v4 ([x2] : List TItem) := by simpa [List.append_assoc] using h4
   replace ph0_0 := ph0_0.frame RTItem.lasts fr2 (Dj.empty _)
   replace k1 := k1.frame RTItem.lasts fr2 (Dj.empty _) (Dj.empty _)
   replace k2 := fr2 _ _ (by simp) k2
   obtain ⟨x3, hx3, h⟩ := bind_some h
   refine le' (e_appO RTItem.lasts RTItem.one Sl_99 Ei_190 rfl rfl rfl rfl rfl (js := [1]) (Rr := [ob v4, [pb0]]) rfl k1 h4 (fun ap => (Dj.sub (ap.o pa0_0) i1)) (fun ap => (Dj.sub (Dj.sub (ap.o pa0_0) (fun k h => hs2 k h)) (fun k hk => (by simpa [List.append_assoc] using hk : k ∈ G2)))) hx3) rfl (fun v5 Φ_4 D4 q3 => ?_)
   obtain ⟨⟨ap1, fr3⟩, h5⟩ := q3
   replace ph0_0 := ph0_0.frame RTItem.lasts fr3 (ap1.o pa0_0)
   replace k2 := fr3 _ _ ((ap1.r (i := 1) rfl) _ (by simp)) k2
   refine lq (q_assign rfl) rfl <| WL.nil <| WT.inBlock <| WT.region <| lq (q_move rfl) rfl <| lq (q_add rfl rfl) rfl <| lq (q_assign rfl) rfl <| WL.nil ?_
   refine WT.inLoop (WT.mono (l' := [(0, .pointer (some ⟨pb0, 0, none⟩)), (1, .int .i64 p1), (5, v5), (6, .int .i64 (IntKind.i64.wrap (s2 + 1)))]) (S' := St w0 Φ_4 [] [ob v5, [pb0]]) ⟨rfl, rfl, rfl, rfl, trivial⟩ (fun w1 hw => (hw.sel (js := [0, 1]) rfl).selO (js := []) rfl) ?_)
   exact ih1 (Φ_4, x3, v5, (D2 ++ (G2)), IntKind.i64.wrap (s2 + 1)) ⟨h, h5, (fun k hk => ((List.mem_append.1 hk).elim (fun h => (i1 k h)) (fun h => ((fun k h => hs2 k h) k ((fun k hk => (by simpa [List.append_assoc] using hk : k ∈ G2)) k h))))), k2, ph0_0⟩
  replace h := ite_f h c2
  refine WT.skip <| WT.inBlock <| WT.region <| lq (q_move rfl) rfl <| lq (q_add rfl rfl) rfl <| lq (q_assign rfl) rfl <| WL.nil ?_
  refine WT.inLoop (WT.mono (l' := [(0, .pointer (some ⟨pb0, 0, none⟩)), (1, .int .i64 p1), (5, u1), (6, .int .i64 (IntKind.i64.wrap (s2 + 1)))]) (S' := St w0 Φ_2 [] [ob u1, [pb0]]) ⟨rfl, rfl, rfl, rfl, trivial⟩ (fun w1 hw => (hw.sel (js := [0, 0]) rfl).selO (js := []) rfl) ?_)
  exact ih1 (Φ_2, s1, u1, D2, IntKind.i64.wrap (s2 + 1)) ⟨h, k1, (fun k hk => (i1 k hk)), k2, ph0_0⟩
 replace h := ite_f h c1
 refine WT.exit rfl <| WT.seq <| WT.region <| lq (q_move rfl) rfl <| lq (q_lenR Sl_99 rfl rfl k1.rsl) rfl <| lq (q_move rfl) rfl <| lq (q_nilCheck rfl) rfl <| lq (q_fieldAddr Fld_101_0 rfl) rfl <| lq (q_load1 T1_99 rfl (fun w1 hw => ((rg_cells k2).of_eq 0 1 rfl rfl : rg _ _ _ [pv0_0]).rangeAt hw.fro)) rfl <| lq (q_lenR Sl_99 rfl rfl ph0_0) rfl <| lq (q_lss rfl rfl) rfl <| lq (q_assign rfl) rfl <| WL.nil <| WT.seq <| WT.region <| lq (q_move rfl) rfl <| lq (q_move rfl) rfl ?_
 refine lq (q_nilCheck rfl) rfl <| lq (q_fieldAddr Fld_101_0 rfl) rfl ?_
 refine WL.thw (js := [1]) (R := [ob u1]) rfl k2 (fun Φ_5 ap2 fr4 => ?_)
 replace ph0_0 := ph0_0.frame RTItem.lasts fr4 (ap2.o pa0_0)
 replace k1 := k1.frame RTItem.lasts fr4 (ap2.r (i := 0) rfl) (Dj.sub (ap2.o pa0_0) i1)
 refine ls (s_store (i := 0) (vs := [u1]) (C' := [u1, .int .i64 p0.Next]) (O' := [(pb0, .cells #[u1, .int .i64 p0.Next] 101 (0, 0))]) Sz_99 rfl rfl rfl (one_cells k1.one) rfl rfl ⟨k1.one, trivial⟩ rfl rfl) rfl <| WL.nil <| WT.seq <| WT.region <| lq (q_move rfl) rfl <| lq (q_assign rfl) rfl <| WL.nil ?_
 refine WT.frz (js := [0]) (R := []) rfl (fun Φ_6 fr5 k3 => ?_)
 replace k1 := k1.frame RTItem.lasts fr5 (Dj.empty _) (Dj.empty _)
 refine WT.ret Try.func189 (resOk.one rfl) (fun w1 hw => ?_)
 subst hb0
 cases h
 refine postG_of_St (js := [0, 0]) hw rfl ⟨u1, D2, rfl, rfl, k1, (fun k hk => (i1 k hk)), k3⟩
theorem m_s_l3SameVals_ok {Φ : Hp} {w : World} (hΦ : In Φ w) (N : Nat) (p0 : (List TVal)) (p1 : (List TVal)) {pv0 : Value} {pG0 : List Nat} {pv1 : Value} {pG1 : List Nat} (ph0 : RSl RTVal 3 Φ pG0 pv0 p0) (ph1 : RSl RTVal 3 Φ pG1 pv1 p1) {r : Bool} (h : m_s_l3SameVals N p0 p1 = some r) :
  Calls Try.prog 284 [pv0, pv1].toArray w (Post (.bool r) w) := by
 refine enter Try.func284 rfl Try.ntmps284 rfl (St.start0 hΦ) ?_
 generalize hb0 : (⟨w, [], Φ⟩ : Base) = w0
 unfold m_s_l3SameVals at h
 refine WT.seq <| WT.region <| lq (q_assign rfl) rfl <| WL.nil <| WT.seq <| WT.seq <| WT.region <| lq (q_move rfl) rfl <| lq (q_lenR Sl_112 rfl rfl ph0) rfl <| lq (q_move rfl) rfl <| lq (q_lenR Sl_112 rfl rfl ph1) rfl <| lq (q_neq rfl rfl) rfl <| WL.nil ?_
 refine WT.cond rfl (fun c1 => ?_) (fun c1 => ?_)
 ·replace h := ite_t h c1
  refine WT.seq <| WT.region <| lq (q_assign rfl) rfl <| WL.nil ?_
  refine WT.ret Try.func284 (resOk.one rfl) (fun w1 hw => ?_)
  subst hb0
  cases h
  exact post_of_St hw
 replace h := ite_f h c1
 refine WT.skip <| WT.seq <| WT.seq <| WT.region <| lq (q_assign rfl) rfl <| WL.nil <| WT.block <| WT.loop <| WT.mono (l' := [(0, pv0), (1, pv1), (5, .int .i64 0)]) (S' := St w0 Φ [] []) ⟨rfl, rfl, rfl, trivial⟩ (fun w1 hw => (hw.sel (js := []) rfl).selO (js := []) rfl) ?_
 refine loop_ind (σ := Int) (fun s => [(0, pv0), (1, pv1), (5, .int .i64 s)]) (fun s => St w0 Φ [] []) (fun m s => m_s_l3SameVals_l1 N p0 p1 m s = some r) (fun s hm => none_ne (show (none : Option (Bool)) = some r from hm)) (fun n1 ih1 s hm => ?_) N (0) h
 revert hm; revert s; intro s1 hm
 have h : m_s_l3SameVals_l1 N p0 p1 (n1 + 1) s1 = some r := hm
 show WT _ _ [(0, pv0), (1, pv1), (5, .int .i64 s1)] (St w0 Φ [] [])
 unfold m_s_l3SameVals_l1 at h
 refine WT.seq <| WT.seq <| WT.region <| lq (q_move rfl) rfl <| lq (q_move rfl) rfl <| lq (q_lenR Sl_112 rfl rfl ph0) rfl <| lq (q_lss rfl rfl) rfl <| WL.nil ?_
 refine WT.cond rfl (fun c2 => ?_) (fun c2 => ?_)
 ·replace h := ite_t h c2
  refine WT.skip <| WT.seq <| WT.block <| WT.seq <| WT.draw mixed (by kernel_rfl) (fun _ h => h.drew) <| qq (q_move rfl) rfl <| qq (q_move rfl) rfl ?_
  obtain ⟨x1, hx1, h⟩ := bind_some h
  obtain ⟨cs1, F1, -, g1, hb1, hs1, r1⟩ := ph0.el (idx_some hx1).2.2
  obtain ⟨rfl, -⟩ := r1
  refine qq (q_indexAddr Sl_112 rfl rfl ph0 hx1) rfl <| qq (q_loadN Tn_192 rfl (fun w1 hw => (g1.of_eq 0 3 rfl rfl : rg _ _ _ [.int .i64 x1.K, .int .i64 x1.N, .string x1.S]).rangeAt hw.fro) rfl) rfl <| qq (q_move rfl) rfl <| qq (q_move rfl) rfl ?_
  obtain ⟨x2, hx2, h⟩ := bind_some h
  obtain ⟨cs2, F2, -, g2, hb2, hs2, r2⟩ := ph1.el (idx_some hx2).2.2
  obtain ⟨rfl, -⟩ := r2
  refine qq (q_indexAddr Sl_112 rfl rfl ph1 hx2) rfl <| qq (q_loadN Tn_192 rfl (fun w1 hw => (g2.of_eq 0 3 rfl rfl : rg _ _ _ [.int .i64 x2.K, .int .i64 x2.N, .string x2.S]).rangeAt hw.fro) rfl) rfl <| qq (q_neA EqT_192 rfl rfl rfl (r := eqT_TVal x1 x2) rfl) rfl <| WQ.nil ?_
  refine WT.cond rfl (fun c3 => ?_) (fun c3 => ?_)
  ·replace h := ite_t h c3
   refine WT.seq <| WT.region <| lq (q_assign rfl) rfl <| WL.nil ?_
   refine WT.ret Try.func284 (resOk.one rfl) (fun w1 hw => ?_)
   subst hb0
   cases h
   exact post_of_St hw
  replace h := ite_f h c3
  refine WT.skip <| WT.inBlock <| WT.region <| lq (q_move rfl) rfl <| lq (q_add rfl rfl) rfl <| lq (q_assign rfl) rfl <| WL.nil ?_
  refine WT.inLoop (WT.mono (l' := [(0, pv0), (1, pv1), (5, .int .i64 (IntKind.i64.wrap (s1 + 1)))]) (S' := St w0 Φ [] []) ⟨rfl, rfl, rfl, trivial⟩ (fun w1 hw => (hw.sel (js := []) rfl).selO (js := []) rfl) ?_)
  exact ih1 (IntKind.i64.wrap (s1 + 1)) h
 replace h := ite_f h c2
 refine WT.exit rfl <| WT.seq <| WT.region <| lq (q_assign rfl) rfl <| WL.nil ?_
 refine WT.ret Try.func284 (resOk.one rfl) (fun w1 hw => ?_)
 subst hb0
 cases h
 exact post_of_St hw
theorem m_s_SameFact_ok {Φ : Hp} {w : World} (hΦ : In Φ w) (N : Nat) (p0 : TFact) (p1 : TFact) {pv0_0 : Value} {pG0_0 : List Nat} {pv1_0 : Value} {pG1_0 : List Nat} (ph0_0 : RSl RTVal 3 Φ pG0_0 pv0_0 p0.Fields) (ph1_0 : RSl RTVal 3 Φ pG1_0 pv1_0 p1.Fields) {r : Bool} (h : m_s_SameFact N p0 p1 = some r) :
  Calls Try.prog 274 [.agg [.string p0.Kind, pv0_0].toArray, .agg [.string p1.Kind, pv1_0].toArray].toArray w (Post (.bool r) w) := by
 refine enter Try.func274 rfl Try.ntmps274 rfl (St.start0 hΦ) ?_
 unfold m_s_SameFact at h
 refine WT.seq <| WT.region ?_
 refine ln (n_box (C := #[.string p0.Kind, pv0_0]) rfl rfl) rfl (fun b_1 => ?_)
 refine ln (n_box (C := #[.string p1.Kind, pv1_0]) rfl rfl) rfl (fun b_2 => ?_)
 refine lq (q_assign rfl) rfl <| WL.nil <| WT.seq <| WT.region <| lq (q_fieldAddr Fld_188_0 rfl) rfl <| lq (q_load1 T1_9 rfl (fun w1 hw => hw.rgO (i := 1) rfl 0 1 [.string p0.Kind] rfl)) rfl <| lq (q_fieldAddr Fld_188_0 rfl) rfl <| lq (q_load1 T1_9 rfl (fun w1 hw => hw.rgO (i := 0) rfl 0 1 [.string p1.Kind] rfl)) rfl <| lq (q_seq rfl rfl) rfl <| lq (q_move rfl) rfl ?_
 obtain ⟨b1, hb_1, h⟩ := bind_some h
 refine WL.cutN 6 [(16, .bool b1), (4, .bool false)] ?_ (fun K => ?_)
 rotate_left
 ·refine WL.split (d := 10) rfl (fun c1 => ?_) (fun c1 => ?_)
  ·replace hb_1 := ite_t hb_1 c1
   refine WL.yes rfl rfl <| lq (q_fieldAddr Fld_188_1 rfl) rfl <| WL.yes rfl rfl <| lq (q_load1 T1_112 rfl (fun w1 hw => hw.rgO (i := 1) rfl 1 1 [pv0_0] rfl)) rfl <| WL.yes rfl rfl <| lq (q_fieldAddr Fld_188_1 rfl) rfl <| WL.yes rfl rfl <| lq (q_load1 T1_112 rfl (fun w1 hw => hw.rgO (i := 0) rfl 1 1 [pv1_0] rfl)) rfl <| WL.yes rfl rfl ?_
   obtain ⟨x1, hx1, hb_1⟩ := bind_some hb_1
   refine lp (p_call Fun_284 rfl (fun w1 hw => m_s_l3SameVals_ok hw.fro N p0.Fields p1.Fields ph0_0 ph1_0 hx1)) rfl <| WL.q (q_pick1 rfl rfl) rfl rfl rfl ?_
   cases hb_1
   exact WL.keep (by exact ⟨rfl, rfl, trivial⟩) K
  ·replace hb_1 := ite_f hb_1 c1
   refine WL.no rfl rfl rfl rfl <| WL.no rfl rfl rfl rfl <| WL.no rfl rfl rfl rfl <| WL.no rfl rfl rfl rfl <| WL.no rfl rfl rfl rfl <| WL.q (q_pick0 rfl rfl) rfl rfl rfl ?_
   cases hb_1
   exact WL.keep (by exact ⟨rfl, rfl, trivial⟩) K
 refine lq (q_assign rfl) rfl <| WL.nil ?_
 refine WT.ret Try.func274 (resOk.one rfl) (fun w1 hw => ?_)
 cases h
 exact post_of_St hw
theorem m_s_IdOf_ok {Φ : Hp} {w : World} (hΦ : In Φ w) (N : Nat) (p0 : TStore) (p1 : TFact) {pv0_0 : Value} {pG0_0 : List Nat} {pv1_0 : Value} {pG1_0 : List Nat} (ph0_0 : RSl RTItem 3 Φ pG0_0 pv0_0 p0.Items) (ph1_0 : RSl RTVal 3 Φ pG1_0 pv1_0 p1.Fields) {r : Int} (h : m_s_IdOf N p0 p1 = some r) :
  Calls Try.prog 245 [.agg [pv0_0, .int .i64 p0.Next].toArray, .agg [.string p1.Kind, pv1_0].toArray].toArray w (Post (.int .i64 r) w) := by
 refine enter Try.func245 rfl Try.ntmps245 rfl (St.start0 hΦ) ?_
 generalize hb0 : (⟨w, [], Φ⟩ : Base) = w0
 unfold m_s_IdOf at h
 refine WT.seq <| WT.region ?_
 refine ln (n_box (C := #[pv0_0, .int .i64 p0.Next]) rfl rfl) rfl (fun b_1 => ?_)
 refine ln (n_box (C := #[.string p1.Kind, pv1_0]) rfl rfl) rfl (fun b_2 => ?_)
 refine lq (q_assign rfl) rfl <| WL.nil <| WT.seq <| WT.seq <| WT.region <| lq (q_assign rfl) rfl <| WL.nil <| WT.block <| WT.loop <| WT.mono (l' := [(2, .pointer (some ⟨b_1, 0, none⟩)), (3, .pointer (some ⟨b_2, 0, none⟩)), (5, .int .i64 0)]) (S' := St w0 Φ [(b_2, .cells #[.string p1.Kind, pv1_0] 188 (0, 0)), (b_1, .cells #[pv0_0, .int .i64 p0.Next] 101 (0, 0))] []) ⟨rfl, rfl, rfl, trivial⟩ (fun w1 hw => (hw.sel (js := []) rfl).selO (js := [0, 0]) rfl) ?_
 refine loop_ind (σ := Int) (fun s => [(2, .pointer (some ⟨b_1, 0, none⟩)), (3, .pointer (some ⟨b_2, 0, none⟩)), (5, .int .i64 s)]) (fun s => St w0 Φ [(b_2, .cells #[.string p1.Kind, pv1_0] 188 (0, 0)), (b_1, .cells #[pv0_0, .int .i64 p0.Next] 101 (0, 0))] []) (fun m s => m_s_IdOf_l1 N p0 p1 m s = some r) (fun s hm => none_ne (show (none : Option (Int)) = some r from hm)) (fun n1 ih1 s hm => ?_) N (0) h
 revert hm; revert s; intro s1 hm
 have h : m_s_IdOf_l1 N p0 p1 (n1 + 1) s1 = some r := hm
 show WT _ _ [(2, .pointer (some ⟨b_1, 0, none⟩)), (3, .pointer (some ⟨b_2, 0, none⟩)), (5, .int .i64 s1)] (St w0 Φ [(b_2, .cells #[.string p1.Kind, pv1_0] 188 (0, 0)), (b_1, .cells #[pv0_0, .int .i64 p0.Next] 101 (0, 0))] [])
 unfold m_s_IdOf_l1 at h
 refine WT.seq <| WT.seq <| WT.region <| lq (q_move rfl) rfl <| lq (q_fieldAddr Fld_101_0 rfl) rfl <| lq (q_load1 T1_99 rfl (fun w1 hw => hw.rgO (i := 1) rfl 0 1 [pv0_0] rfl)) rfl <| lq (q_lenR Sl_99 rfl rfl ph0_0) rfl <| lq (q_lss rfl rfl) rfl <| WL.nil ?_
 refine WT.cond rfl (fun c1 => ?_) (fun c1 => ?_)
 ·replace h := ite_t h c1
  refine WT.skip <| WT.seq <| WT.block <| WT.seq <| WT.draw mixed (by kernel_rfl) (fun _ h => h.drew) <| qq (q_fieldAddr Fld_101_0 rfl) rfl <| qq (q_load1 T1_99 rfl (fun w1 hw => hw.rgO (i := 1) rfl 0 1 [pv0_0] rfl)) rfl <| qq (q_move rfl) rfl ?_
  obtain ⟨x1, hx1, h⟩ := bind_some h
  obtain ⟨cs1, F1, -, g1, hb1, hs1, r1⟩ := ph0_0.el (idx_some hx1).2.2
  obtain ⟨v1, G1, rfl, hq1, h1⟩ := r1
  obtain rfl := hq1.symm
  refine qq (q_indexAddr Sl_99 rfl rfl ph0_0 hx1) rfl <| qq (q_fieldAddr Fld_190_1 rfl) rfl <| qq (q_loadN Tn_188 rfl (fun w1 hw => (g1.of_eq 1 2 rfl rfl : rg _ _ _ [.string x1.F.Kind, v1]).rangeAt hw.fro) rfl) rfl <| qq (q_loadN Tn_188 rfl (fun w1 hw => hw.rgO (i := 0) rfl 0 2 [.string p1.Kind, pv1_0] rfl) rfl) rfl ?_
  obtain ⟨x2, hx2, h⟩ := bind_some h
  refine qp (p_call Fun_274 rfl (fun w1 hw => m_s_SameFact_ok hw.fro N x1.F p1 h1 ph1_0 hx2)) rfl <| WQ.nil ?_
  refine WT.cond rfl (fun c2 => ?_) (fun c2 => ?_)
  ·replace h := ite_t h c2
   refine WT.seq <| WT.region <| lq (q_fieldAddr Fld_101_0 rfl) rfl <| lq (q_load1 T1_99 rfl (fun w1 hw => hw.rgO (i := 1) rfl 0 1 [pv0_0] rfl)) rfl <| lq (q_move rfl) rfl ?_
   obtain ⟨x3, hx3, h⟩ := bind_some h
   obtain ⟨cs2, F2, -, g2, hb2, hs2, r2⟩ := ph0_0.el (idx_some hx3).2.2
   obtain ⟨v2, G2, rfl, hq2, h2⟩ := r2
   obtain rfl := hq2.symm
   refine lq (q_indexAddr Sl_99 rfl rfl ph0_0 hx3) rfl <| lq (q_fieldAddr Fld_190_0 rfl) rfl <| lq (q_load1 T1_3 rfl (fun w1 hw => (g2.of_eq 0 1 rfl rfl : rg _ _ _ [.int .i64 x3.Id]).rangeAt hw.fro)) rfl <| lq (q_assign rfl) rfl <| WL.nil ?_
   refine WT.ret Try.func245 (resOk.one rfl) (fun w1 hw => ?_)
   subst hb0
   cases h
   exact post_of_St hw
  replace h := ite_f h c2
  refine WT.skip <| WT.inBlock <| WT.region <| lq (q_move rfl) rfl <| lq (q_add rfl rfl) rfl <| lq (q_assign rfl) rfl <| WL.nil ?_
  refine WT.inLoop (WT.mono (l' := [(2, .pointer (some ⟨b_1, 0, none⟩)), (3, .pointer (some ⟨b_2, 0, none⟩)), (5, .int .i64 (IntKind.i64.wrap (s1 + 1)))]) (S' := St w0 Φ [(b_2, .cells #[.string p1.Kind, pv1_0] 188 (0, 0)), (b_1, .cells #[pv0_0, .int .i64 p0.Next] 101 (0, 0))] []) ⟨rfl, rfl, rfl, trivial⟩ (fun w1 hw => (hw.sel (js := []) rfl).selO (js := [0, 0]) rfl) ?_)
  exact ih1 (IntKind.i64.wrap (s1 + 1)) h
 replace h := ite_f h c1
 refine WT.exit rfl <| WT.seq <| WT.region <| lq (q_assign rfl) rfl <| WL.nil ?_
 refine WT.ret Try.func245 (resOk.one rfl) (fun w1 hw => ?_)
 subst hb0
 cases h
 exact post_of_St hw
theorem m_s_l3Copy_ok {Φ : Hp} {w : World} (hΦ : In Φ w) (N : Nat) (p0 : TFact) {pv0_0 : Value} {pG0_0 : List Nat} (ph0_0 : RSl RTVal 3 Φ pG0_0 pv0_0 p0.Fields) {r : TFact} (h : m_s_l3Copy N p0 = some r) :
  Calls Try.prog 246 [.agg [.string p0.Kind, pv0_0].toArray].toArray w (PostG Φ w [] (fun Φ' Fs v => ∃ (sr_0_0 : Value), v = .agg [.string r.Kind, sr_0_0].toArray ∧ Fs = [ob sr_0_0] ∧ OSl RTVal 192 3 Φ' [] sr_0_0 r.Fields)) := by
 refine enter Try.func246 rfl Try.ntmps246 rfl (St.start0 hΦ) ?_
 have pa0_0 : Old ⟨w, [], Φ⟩ pG0_0 := Old.mk hΦ ph0_0.kn (Dj.empty _)
 unfold m_s_l3Copy at h
 refine WT.seq <| WT.region ?_
 refine ln (n_box (C := #[.string p0.Kind, pv0_0]) rfl rfl) rfl (fun b_1 => ?_)
 refine ln (n_alloc (C := #[.string (⟨#[]⟩ : ByteArray), .slice none 0 0]) Zr_188 rfl) rfl (fun b_2 => ?_)
 refine WL.nil <| WT.seq <| WT.region ?_
 have rc1 : RC RTVal 3 Φ ([] : List (List Nat)) [] ([] : List TVal) := RC.nil _ _ _
 refine le' (e_lit (vs := []) (C := #[]) RTVal.lasts Sl_112 Zr_192 rfl rfl rfl rfl (fill_made MC_192_0 (fill_nil)) rfl rc1 rfl (by simpa using Kw.nil)) rfl (fun v1 Φ_1 D1 q1 => ?_)
 obtain ⟨fr1, h1⟩ := q1
 replace h1 : OSl RTVal 192 3 Φ_1 [] v1 ([] : List TVal) := by simpa using h1
 replace ph0_0 := ph0_0.frame RTVal.lasts fr1 (Dj.empty _)
 refine lq (q_fieldAddr Fld_188_1 rfl) rfl <| lq (q_load1 T1_112 rfl (fun w1 hw => hw.rgO (i := 1) rfl 1 1 [pv0_0] rfl)) rfl ?_
 obtain ⟨x1, hx1, h⟩ := bind_some h
 refine le' (e_appF RTVal.lasts RTVal.one RTVal.flat Sl_112 Ei_192 rfl rfl rfl rfl rfl (js := [0]) (Rr := []) rfl h1 ph0_0 hx1) rfl (fun v2 Φ_2 D2 q2 => ?_)
 obtain ⟨⟨ap1, fr2⟩, h2⟩ := q2
 replace ph0_0 := ph0_0.frame RTVal.lasts fr2 (ap1.o pa0_0)
 refine lq (q_fieldAddr Fld_188_1 rfl) rfl <| ls (s_store (i := 1) (vs := [v2]) (C' := [.string p0.Kind, v2]) (O' := [(b_2, .cells #[.string (⟨#[]⟩ : ByteArray), .slice none 0 0] 188 (0, 0)), (b_1, .cells #[.string p0.Kind, v2] 188 (0, 0))]) Sz_112 rfl rfl rfl (one_cells h2.one) rfl rfl ⟨h2.one, trivial⟩ rfl rfl) rfl <| WL.nil <| WT.seq <| WT.region <| lq (q_loadN Tn_188 rfl (fun w1 hw => hw.rgO (i := 1) rfl 0 2 [.string p0.Kind, v2] rfl) rfl) rfl ?_
 refine ls (s_store (i := 0) (vs := [.string p0.Kind, v2]) (C' := [.string p0.Kind, v2]) (O' := [(b_2, .cells #[.string p0.Kind, v2] 188 (0, 0)), (b_1, .cells #[.string p0.Kind, v2] 188 (0, 0))]) Sz_188 rfl rfl rfl rfl rfl rfl ⟨rfl, h2.one, trivial⟩ rfl rfl) rfl <| WL.nil ?_
 refine WT.ret Try.func246 (resOk.one (rv_cell Tn_188 rfl (fun w1 hw => hw.rgO (i := 0) rfl 0 2 [.string p0.Kind, v2] rfl) rfl)) (fun w1 hw => ?_)
 cases h
 refine postG_of_St (js := [0]) hw rfl ⟨v2, rfl, rfl, h2⟩
theorem m_s_l4Assert_ok {Φ : Hp} {w : World} (hΦ : In Φ w) (N : Nat) (p0 : TStore) (p1 : TFact) {pv0_0 : Value} {pD0_0 : List Nat} {pb0 : Nat} {pv1_0 : Value} {pG1_0 : List Nat} (ph0_0 : OSl RTItem 190 3 Φ pD0_0 pv0_0 p0.Items) (pp0 : Φ pb0 = some (.cells #[pv0_0, .int .i64 p0.Next] 101 (0, 0))) (ph1_0 : RSl RTVal 3 Φ pG1_0 pv1_0 p1.Fields) (pd0_0 : Dj pD0_0 [[pb0], ob pv0_0].flatten) (pd1_0 : Dj pG1_0 [[pb0], ob pv0_0].flatten) (hB : [[pb0], ob pv0_0].flatten.Nodup) (hlt : ∀ k ∈ [[pb0], ob pv0_0].flatten, k < w.heap.size) {r : Int × TStore} (h : m_s_l4Assert N p0 p1 = some r) :
  Calls Try.prog 190 [.pointer (some ⟨pb0, 0, none⟩), .agg [.string p1.Kind, pv1_0].toArray].toArray w (PostG Φ w [[pb0], ob pv0_0].flatten (fun Φ' Fs v => ∃ (so_0_0 : Value) (Do_0_0 : List Nat) (X : List Nat), v = .int .i64 r.1 ∧ Fs = [[pb0], ob so_0_0, X] ∧ OSl RTItem 190 3 Φ' Do_0_0 so_0_0 r.2.Items ∧ (∀ k ∈ Do_0_0, k ∈ (X ++ pD0_0)) ∧ Φ' pb0 = some (.cells #[so_0_0, .int .i64 r.2.Next] 101 (0, 0)))) := by
 refine enter Try.func190 rfl Try.ntmps190 rfl (St.start hΦ [[pb0], ob pv0_0] hB hlt) ?_
 have pa0_0 : Old ⟨w, [[pb0], ob pv0_0].flatten, Φ⟩ pD0_0 := Old.mk hΦ ph0_0.kn pd0_0
 revert pa0_0
 generalize hb0 : (⟨w, [[pb0], ob pv0_0].flatten, Φ⟩ : Base) = w0
 intro pa0_0
 unfold m_s_l4Assert at h
 refine WT.seq <| WT.region ?_
 refine ln (n_box (C := #[.string p1.Kind, pv1_0]) rfl rfl) rfl (fun b_1 => ?_)
 refine lq (q_assign rfl) rfl <| WL.nil <| WT.seq <| WT.draw mixed (by kernel_rfl) (fun _ h => h.drew) <| qq (q_move rfl) rfl <| qq (q_nilCheck rfl) rfl <| qq (q_loadN Tn_101 rfl (fun w1 hw => ((rg_cells pp0).of_eq 0 2 rfl rfl : rg _ _ _ [pv0_0, .int .i64 p0.Next]).rangeAt hw.fro) rfl) rfl <| qq (q_loadN Tn_188 rfl (fun w1 hw => hw.rgO (i := 0) rfl 0 2 [.string p1.Kind, pv1_0] rfl) rfl) rfl ?_
 obtain ⟨x1, hx1, h⟩ := bind_some h
 refine qp (p_call Fun_245 rfl (fun w1 hw => m_s_IdOf_ok hw.fro N p0 p1 ph0_0.rsl ph1_0 hx1)) rfl <| qq (q_assign rfl) rfl <| WQ.nil <| WT.seq <| WT.seq <| WT.region <| lq (q_move rfl) rfl <| lq (q_gtr rfl rfl) rfl <| WL.nil ?_
 refine WT.cond rfl (fun c1 => ?_) (fun c1 => ?_)
 ·replace h := ite_t h c1
  refine WT.seq <| WT.region <| lq (q_move rfl) rfl <| lq (q_assign rfl) rfl <| WL.nil ?_
  refine WT.ret Try.func190 (resOk.one rfl) (fun w1 hw => ?_)
  subst hb0
  cases h
  replace hw := hw.addNil
  refine postG_of_St (js := [1, 1, 0]) hw rfl ⟨pv0_0, pD0_0, [], rfl, rfl, ph0_0, (fun k hk => (List.mem_append.2 (.inr hk))), pp0⟩
 replace h := ite_f h c1
 refine WT.skip <| WT.seq <| WT.seq <| WT.region <| lq (q_move rfl) rfl <| lq (q_nilCheck rfl) rfl <| lq (q_fieldAddr Fld_101_0 rfl) rfl <| lq (q_load1 T1_99 rfl (fun w1 hw => ((rg_cells pp0).of_eq 0 1 rfl rfl : rg _ _ _ [pv0_0]).rangeAt hw.fro)) rfl <| lq (q_lenR Sl_99 rfl rfl ph0_0.rsl) rfl <| lq (q_geq rfl rfl) rfl <| lq (q_move rfl) rfl ?_
 obtain ⟨b1, hb_1, h⟩ := bind_some h
 refine WL.cutN 6 [(26, .bool b1), (0, .pointer (some ⟨pb0, 0, none⟩)), (3, .pointer (some ⟨b_1, 0, none⟩))] ?_ (fun K => ?_)
 rotate_left
 ·refine WL.split (d := 20) rfl (fun c2 => ?_) (fun c2 => ?_)
  ·replace hb_1 := ite_t hb_1 c2
   refine WL.no rfl rfl rfl rfl <| WL.no rfl rfl rfl rfl <| WL.no rfl rfl rfl rfl <| WL.no rfl rfl rfl rfl <| WL.no rfl rfl rfl rfl <| WL.q (q_pick1 rfl rfl) rfl rfl rfl ?_
   cases hb_1
   exact WL.keep (by exact ⟨rfl, rfl, rfl, trivial⟩) K
  ·replace hb_1 := ite_f hb_1 c2
   refine WL.yes rfl rfl <| lq (q_move rfl) rfl <| WL.yes rfl rfl <| lq (q_nilCheck rfl) rfl <| WL.yes rfl rfl <| lq (q_fieldAddr Fld_101_1 rfl) rfl <| WL.yes rfl rfl <| lq (q_load1 T1_3 rfl (fun w1 hw => ((rg_cells pp0).of_eq 1 1 rfl rfl : rg _ _ _ [.int .i64 p0.Next]).rangeAt hw.fro)) rfl <| WL.yes rfl rfl <| lq (q_geq rfl rfl) rfl <| WL.q (q_pick0 rfl rfl) rfl rfl rfl ?_
   cases hb_1
   exact WL.keep (by exact ⟨rfl, rfl, rfl, trivial⟩) K
 refine WL.nil ?_
 refine WT.cond rfl (fun c3 => ?_) (fun c3 => ?_)
 ·replace h := ite_t h c3
  refine WT.seq <| WT.region <| lq (q_assign rfl) rfl <| WL.nil ?_
  refine WT.ret Try.func190 (resOk.one rfl) (fun w1 hw => ?_)
  subst hb0
  cases h
  replace hw := hw.addNil
  refine postG_of_St (js := [1, 1, 0]) hw rfl ⟨pv0_0, pD0_0, [], rfl, rfl, ph0_0, (fun k hk => (List.mem_append.2 (.inr hk))), pp0⟩
 replace h := ite_f h c3
 refine WT.skip <| WT.seq <| WT.mix (Kn Φ [pb0] [(b_1, .cells #[.string p1.Kind, pv1_0] 188 (0, 0))]) (fun i => match i with | 16 => false | _ => true) mixed (fun _ h => h.drew) <| mq 0 rfl (by kernel_rfl) (fun w1 hw => Kn.of (fun _ _ _ h => h) (AllIn.mem ⟨List.mem_of_getElem? (i := 0) rfl, trivial⟩) hw) (q_move rfl) rfl <| mq 1 rfl (by kernel_rfl) (fun w1 hw => Kn.of (fun _ _ _ h => h) (AllIn.mem ⟨List.mem_of_getElem? (i := 0) rfl, trivial⟩) hw) (q_move rfl) rfl ?_
 refine mq 2 rfl (by kernel_rfl) (fun w1 hw => Kn.of (fun _ _ _ h => h) (AllIn.mem ⟨List.mem_of_getElem? (i := 0) rfl, trivial⟩) hw) (q_nilCheck rfl) rfl <| mq 3 rfl (by kernel_rfl) (fun w1 hw => Kn.of (fun _ _ _ h => h) (AllIn.mem ⟨List.mem_of_getElem? (i := 0) rfl, trivial⟩) hw) (q_fieldAddr Fld_101_0 rfl) rfl <| mq 4 rfl (by kernel_rfl) (fun w1 hw => Kn.of (fun _ _ _ h => h) (AllIn.mem ⟨List.mem_of_getElem? (i := 0) rfl, trivial⟩) hw) (q_load1 T1_99 rfl (fun w1 hw => hw.rg (by simp) ((rg_cells pp0).of_eq 0 1 rfl rfl : rg _ _ _ [pv0_0]))) rfl ?_
 refine mq 5 rfl (by kernel_rfl) (fun w1 hw => Kn.of (fun _ _ _ h => h) (AllIn.mem ⟨List.mem_of_getElem? (i := 0) rfl, trivial⟩) hw) (q_move rfl) rfl <| mq 6 rfl (by kernel_rfl) (fun w1 hw => Kn.of (fun _ _ _ h => h) (AllIn.mem ⟨List.mem_of_getElem? (i := 0) rfl, trivial⟩) hw) (q_nilCheck rfl) rfl <| mq 7 rfl (by kernel_rfl) (fun w1 hw => Kn.of (fun _ _ _ h => h) (AllIn.mem ⟨List.mem_of_getElem? (i := 0) rfl, trivial⟩) hw) (q_fieldAddr Fld_101_1 rfl) rfl ?_
 refine mq 8 rfl (by kernel_rfl) (fun w1 hw => Kn.of (fun _ _ _ h => h) (AllIn.mem ⟨List.mem_of_getElem? (i := 0) rfl, trivial⟩) hw) (q_load1 T1_3 rfl (fun w1 hw => hw.rg (by simp) ((rg_cells pp0).of_eq 1 1 rfl rfl : rg _ _ _ [.int .i64 p0.Next]))) rfl <| mq 9 rfl (by kernel_rfl) (fun w1 hw => Kn.of (fun _ _ _ h => h) (AllIn.mem ⟨List.mem_of_getElem? (i := 0) rfl, trivial⟩) hw) (q_loadN Tn_188 rfl (fun w1 hw => hw.rgO (i := 0) rfl 0 2 [.string p1.Kind, pv1_0] rfl) rfl) rfl ?_
 obtain ⟨x2, hx2, h⟩ := bind_some h
 refine WM.one 10 (by kernel_rfl) (mc rfl (fun _ v Φx D w1 hq hw => Kn.of (fun k hk o ho => hq.2.1 k o ((hq.1.r (i := 0) rfl) k hk) ((fun _ _ _ h => h) k hk o ho)) (AllIn.mem ⟨List.mem_of_getElem? (i := 0) rfl, trivial⟩) hw) (k_call (js := []) (R := [[pb0], ob pv0_0]) Fun_246 rfl rfl (fun w1 hw ap hl => m_s_l3Copy_ok hw.fro N p1 ph1_0  hx2)) rfl (fun v1 Φ_1 F1 q1 => ?_))
 obtain ⟨ap1, fr1, v2, rfl, rfl, h1⟩ := q1
 replace ph0_0 := ph0_0.frame RTItem.lasts fr1 (ap1.r (i := 1) rfl) (ap1.o pa0_0)
 replace pp0 := fr1 _ _ ((ap1.r (i := 0) rfl) _ (by simp)) pp0
 refine mq 11 rfl (by kernel_rfl) (fun w1 hw => Kn.of (fun k hk o ho => fr1 k o ((ap1.r (i := 0) rfl) k hk) ((fun _ _ _ h => h) k hk o ho)) (AllIn.mem ⟨List.mem_of_getElem? (i := 0) rfl, trivial⟩) hw) (q_build (vs := [(0, .int .i64 p0.Next), (1, .agg [.string x2.Kind, v2].toArray)]) (C := #[.int .i64 p0.Next, .string x2.Kind, v2]) Pl_190 Zr_190 rfl (fill_cons (cells := [.int .i64 0, .string ⟨#[]⟩, .slice none 0 0]) (c := [.int .i64 p0.Next]) (C' := [.int .i64 p0.Next, .string ⟨#[]⟩, .slice none 0 0]) rfl rfl rfl rfl rfl (fill_cons (cells := [.int .i64 p0.Next, .string ⟨#[]⟩, .slice none 0 0]) (c := [.string x2.Kind, v2]) (C' := [.int .i64 p0.Next, .string x2.Kind, v2]) rfl rfl rfl rfl rfl (fill_nil)))) rfl ?_
 have rc1 : RC OTItem 3 Φ_1 ([(ob v2 ++ [])] : List (List Nat)) [.int .i64 p0.Next, .string x2.Kind, v2] ([(⟨p0.Next, x2⟩ : TItem)] : List TItem) := RC.cons (c := [.int .i64 p0.Next, .string x2.Kind, v2]) (cells := []) ⟨v2, rfl, rfl, h1⟩ rfl (RC.nil _ _ _)
 refine WM.one 12 (by kernel_rfl) (me rfl (fun _ v Φx D w1 hq hw => Kn.of (fun k hk o ho => hq.1 k o (by simp) ((fun k hk o ho => fr1 k o ((ap1.r (i := 0) rfl) k hk) ((fun _ _ _ h => h) k hk o ho)) k hk o ho)) (AllIn.mem ⟨List.mem_of_getElem? (i := 0) rfl, trivial⟩) hw) (e_lit (vs := [(0, .agg [.int .i64 p0.Next, .string x2.Kind, v2].toArray)]) (C := #[.int .i64 p0.Next, .string x2.Kind, v2]) OTItem.lasts Sl_99 Zr_190 rfl rfl rfl rfl (fill_made MC_190_1 (fill_cons (cells := [.int .i64 0, .string ⟨#[]⟩, .slice none 0 0]) (c := [.int .i64 p0.Next, .string x2.Kind, v2]) (C' := [.int .i64 p0.Next, .string x2.Kind, v2]) rfl rfl rfl rfl rfl (fill_nil))) rfl rc1 rfl (RC.kn OTItem.knows rc1)) rfl (fun v3 Φ_2 D1 q2 => ?_))
 obtain ⟨fr2, h2⟩ := q2
 replace h2 : OSl OTItem 190 3 Φ_2 ((ob v2 ++ [])) v3 ([(⟨p0.Next, x2⟩ : TItem)] : List TItem) := by simpa [List.append_assoc] using h2
 replace ph0_0 := ph0_0.frame RTItem.lasts fr2 (Dj.empty _) (Dj.empty _)
 replace pp0 := fr2 _ _ (by simp) pp0
 refine WM.conv (S' := St w0 Φ_2 [(b_1, .cells #[.string p1.Kind, pv1_0] 188 (0, 0))] [((ob v2 ++ [])), ob v3, [pb0], ob pv0_0]) (fun w1 hw => hw.merge (js := [1]) rfl (SP.eq (by simp [List.append_assoc, ob_nil]))) ?_
 obtain ⟨x3, hx3, h⟩ := bind_some h
 refine WM.one 13 (by kernel_rfl) (me rfl (fun _ v Φx D w1 hq hw => Kn.of (fun k hk o ho => hq.1.2 k o ((hq.1.1.r (i := 2) rfl) k hk) ((fun k hk o ho => fr2 k o (by simp) ((fun k hk o ho => fr1 k o ((ap1.r (i := 0) rfl) k hk) ((fun _ _ _ h => h) k hk o ho)) k hk o ho)) k hk o ho)) (AllIn.mem ⟨List.mem_of_getElem? (i := 0) rfl, trivial⟩) hw) (e_appO RTItem.lasts RTItem.one Sl_99 Ei_190 rfl rfl rfl rfl rfl (js := [3]) (Rr := [((ob v2 ++ [])), ob v3, [pb0]]) rfl ph0_0 (h2.gives OTItem.gives) (fun ap => (ap.o pa0_0)) (fun ap => (ap.r (i := 0) rfl)) hx3) rfl (fun v4 Φ_3 D2 q3 => ?_))
 obtain ⟨⟨ap2, fr3⟩, h3⟩ := q3
 replace pp0 := fr3 _ _ ((ap2.r (i := 2) rfl) _ (by simp)) pp0
 refine mqT 14 [15, 16] rfl (by kernel_rfl) (fun w1 hw => Kn.of (fun k hk o ho => fr3 k o ((ap2.r (i := 2) rfl) k hk) ((fun k hk o ho => fr2 k o (by simp) ((fun k hk o ho => fr1 k o ((ap1.r (i := 0) rfl) k hk) ((fun _ _ _ h => h) k hk o ho)) k hk o ho)) k hk o ho)) (AllIn.mem ⟨List.mem_of_getElem? (i := 0) rfl, trivial⟩) hw) (q_nilCheck rfl) rfl <| mq 15 rfl (by kernel_rfl) (fun w1 hw => Kn.of (fun k hk o ho => fr3 k o ((ap2.r (i := 2) rfl) k hk) ((fun k hk o ho => fr2 k o (by simp) ((fun k hk o ho => fr1 k o ((ap1.r (i := 0) rfl) k hk) ((fun _ _ _ h => h) k hk o ho)) k hk o ho)) k hk o ho)) (AllIn.mem ⟨List.mem_of_getElem? (i := 0) rfl, trivial⟩) hw) (q_fieldAddr Fld_101_0 rfl) rfl ?_
 refine WM.thw (js := [3]) (R := [ob v4, ((ob v2 ++ [])), ob v3]) rfl pp0 (fun Φ_4 ap3 fr4 => ?_)
 replace h3 := h3.frame RTItem.lasts fr4 (ap3.r (i := 0) rfl) (Dj.app (ap3.o pa0_0) (ap3.r (i := 1) rfl))
 refine WM.one 16 (by kernel_rfl) (ms rfl (fun hc => by cases hc) (s_store (i := 0) (vs := [v4]) (C' := [v4, .int .i64 p0.Next]) (O' := [(pb0, .cells #[v4, .int .i64 p0.Next] 101 (0, 0)), (b_1, .cells #[.string p1.Kind, pv1_0] 188 (0, 0))]) Sz_99 rfl rfl rfl (one_cells h3.one) rfl rfl ⟨h3.one, trivial⟩ rfl rfl) rfl ?_)
 refine WM.nil (by kernel_rfl) <| WT.seq <| WT.region <| lq (q_move rfl) rfl <| lq (q_move rfl) rfl <| lq (q_nilCheck rfl) rfl <| lq (q_fieldAddr Fld_101_1 rfl) rfl <| lq (q_load1 T1_3 rfl (fun w1 hw => hw.rgO (i := 0) rfl 1 1 [.int .i64 p0.Next] rfl)) rfl <| lq (q_add rfl rfl) rfl <| lq (q_nilCheck rfl) rfl <| lq (q_fieldAddr Fld_101_1 rfl) rfl <| ls (s_store (i := 0) (vs := [.int .i64 (IntKind.i64.wrap (p0.Next + 1))]) (C' := [v4, .int .i64 (IntKind.i64.wrap (p0.Next + 1))]) (O' := [(pb0, .cells #[v4, .int .i64 (IntKind.i64.wrap (p0.Next + 1))] 101 (0, 0)), (b_1, .cells #[.string p1.Kind, pv1_0] 188 (0, 0))]) Sz_3 rfl rfl rfl rfl rfl rfl ⟨rfl, trivial⟩ rfl rfl) rfl ?_
 refine WL.nil <| WT.seq <| WT.region <| lq (q_move rfl) rfl <| lq (q_nilCheck rfl) rfl <| lq (q_fieldAddr Fld_101_1 rfl) rfl <| lq (q_load1 T1_3 rfl (fun w1 hw => hw.rgO (i := 0) rfl 1 1 [.int .i64 (IntKind.i64.wrap (p0.Next + 1))] rfl)) rfl <| lq (q_sub rfl rfl) rfl <| lq (q_assign rfl) rfl <| WL.nil ?_
 refine WT.frz (js := [0]) (R := [(b_1, .cells #[.string p1.Kind, pv1_0] 188 (0, 0))]) rfl (fun Φ_5 fr5 k1 => ?_)
 replace h3 := h3.frame RTItem.lasts fr5 (Dj.empty _) (Dj.empty _)
 refine WT.ret Try.func190 (resOk.one rfl) (fun w1 hw => ?_)
 subst hb0
 cases h
 replace hw := hw.merge (js := [2]) (F := [((ob v2 ++ []))].flatten) rfl (SP.eq (by simp))
 refine postG_of_St (js := [1, 1, 0]) hw rfl ⟨v4, (pD0_0 ++ ((ob v2 ++ []))), [((ob v2 ++ []))].flatten, rfl, rfl, h3, (fun k hk => ((List.mem_append.1 hk).elim (fun h => (List.mem_append.2 (.inr h))) (fun h => (List.mem_append.2 (.inl (List.mem_flatten.2 ⟨((ob v2 ++ [])), by simp, h⟩)))))), k1⟩
theorem m_s_l3Draw_ok {Φ : Hp} {w : World} (hΦ : In Φ w) (N : Nat) (p0 : Tl1Cur) {pv0_0 : Value} {pG0_0 : List Nat} {pb0 : Nat} (ph0_0 : RSl (RI .u8) 1 Φ pG0_0 pv0_0 p0.b) (pp0 : Φ pb0 = some (.cells #[pv0_0, .int .i64 p0.i, .int .i64 p0.h] 253 (0, 0))) (pd0_0 : Dj pG0_0 [[pb0]].flatten) (hB : [[pb0]].flatten.Nodup) (hlt : ∀ k ∈ [[pb0]].flatten, k < w.heap.size) {r : TFact × Tl1Cur} (h : m_s_l3Draw N p0 = some r) :
  Calls Try.prog 191 [.pointer (some ⟨pb0, 0, none⟩)].toArray w (PostG Φ w [[pb0]].flatten (fun Φ' Fs v => ∃ (sr_0_0 : Value), v = .agg [.string r.1.Kind, sr_0_0].toArray ∧ Fs = [ob sr_0_0, [pb0]] ∧ OSl RTVal 192 3 Φ' [] sr_0_0 r.1.Fields ∧ r.2.b = p0.b ∧ Φ' pb0 = some (.cells #[pv0_0, .int .i64 r.2.i, .int .i64 r.2.h] 253 (0, 0)))) := by
 refine enter Try.func191 rfl Try.ntmps191 rfl (St.start hΦ [[pb0]] hB hlt) ?_
 have pa0_0 : Old ⟨w, [[pb0]].flatten, Φ⟩ pG0_0 := Old.mk hΦ ph0_0.kn pd0_0
 revert pa0_0
 generalize hb0 : (⟨w, [[pb0]].flatten, Φ⟩ : Base) = w0
 intro pa0_0
 unfold m_s_l3Draw at h
 refine WT.seq <| WT.region ?_
 refine ln (n_alloc (C := #[.string (⟨#[]⟩ : ByteArray), .slice none 0 0]) Zr_188 rfl) rfl (fun b_1 => ?_)
 refine WL.nil <| WT.seq <| WT.region <| lq (q_move rfl) rfl ?_
 have rc1 : RC RS 1 Φ ([[], [], [], []] : List (List Nat)) [.string (⟨#[111, 114, 100, 101, 114]⟩ : ByteArray), .string (⟨#[112, 97, 105, 100]⟩ : ByteArray), .string (⟨#[105, 116, 101, 109]⟩ : ByteArray), .string (⟨#[111, 114, 100, 101, 114]⟩ : ByteArray)] ([(⟨#[111, 114, 100, 101, 114]⟩ : ByteArray), (⟨#[112, 97, 105, 100]⟩ : ByteArray), (⟨#[105, 116, 101, 109]⟩ : ByteArray), (⟨#[111, 114, 100, 101, 114]⟩ : ByteArray)] : List ByteArray) := RC.cons (c := [.string (⟨#[111, 114, 100, 101, 114]⟩ : ByteArray)]) (cells := [.string (⟨#[112, 97, 105, 100]⟩ : ByteArray), .string (⟨#[105, 116, 101, 109]⟩ : ByteArray), .string (⟨#[111, 114, 100, 101, 114]⟩ : ByteArray)]) ⟨rfl, rfl⟩ rfl (RC.cons (c := [.string (⟨#[112, 97, 105, 100]⟩ : ByteArray)]) (cells := [.string (⟨#[105, 116, 101, 109]⟩ : ByteArray), .string (⟨#[111, 114, 100, 101, 114]⟩ : ByteArray)]) ⟨rfl, rfl⟩ rfl (RC.cons (c := [.string (⟨#[105, 116, 101, 109]⟩ : ByteArray)]) (cells := [.string (⟨#[111, 114, 100, 101, 114]⟩ : ByteArray)]) ⟨rfl, rfl⟩ rfl (RC.cons (c := [.string (⟨#[111, 114, 100, 101, 114]⟩ : ByteArray)]) (cells := []) ⟨rfl, rfl⟩ rfl (RC.nil _ _ _))))
 refine le' (e_lit (vs := [(0, .string (⟨#[111, 114, 100, 101, 114]⟩ : ByteArray)), (1, .string (⟨#[112, 97, 105, 100]⟩ : ByteArray)), (2, .string (⟨#[105, 116, 101, 109]⟩ : ByteArray)), (3, .string (⟨#[111, 114, 100, 101, 114]⟩ : ByteArray))]) (C := #[.string (⟨#[111, 114, 100, 101, 114]⟩ : ByteArray), .string (⟨#[112, 97, 105, 100]⟩ : ByteArray), .string (⟨#[105, 116, 101, 109]⟩ : ByteArray), .string (⟨#[111, 114, 100, 101, 114]⟩ : ByteArray)]) RS.lasts Sl_60 Zr_9 rfl rfl rfl rfl (fill_made MC_9_4 (fill_cons (cells := [.string ⟨#[]⟩, .string ⟨#[]⟩, .string ⟨#[]⟩, .string ⟨#[]⟩]) (c := [.string (⟨#[111, 114, 100, 101, 114]⟩ : ByteArray)]) (C' := [.string (⟨#[111, 114, 100, 101, 114]⟩ : ByteArray), .string ⟨#[]⟩, .string ⟨#[]⟩, .string ⟨#[]⟩]) rfl rfl rfl rfl rfl (fill_cons (cells := [.string (⟨#[111, 114, 100, 101, 114]⟩ : ByteArray), .string ⟨#[]⟩, .string ⟨#[]⟩, .string ⟨#[]⟩]) (c := [.string (⟨#[112, 97, 105, 100]⟩ : ByteArray)]) (C' := [.string (⟨#[111, 114, 100, 101, 114]⟩ : ByteArray), .string (⟨#[112, 97, 105, 100]⟩ : ByteArray), .string ⟨#[]⟩, .string ⟨#[]⟩]) rfl rfl rfl rfl rfl (fill_cons (cells := [.string (⟨#[111, 114, 100, 101, 114]⟩ : ByteArray), .string (⟨#[112, 97, 105, 100]⟩ : ByteArray), .string ⟨#[]⟩, .string ⟨#[]⟩]) (c := [.string (⟨#[105, 116, 101, 109]⟩ : ByteArray)]) (C' := [.string (⟨#[111, 114, 100, 101, 114]⟩ : ByteArray), .string (⟨#[112, 97, 105, 100]⟩ : ByteArray), .string (⟨#[105, 116, 101, 109]⟩ : ByteArray), .string ⟨#[]⟩]) rfl rfl rfl rfl rfl (fill_cons (cells := [.string (⟨#[111, 114, 100, 101, 114]⟩ : ByteArray), .string (⟨#[112, 97, 105, 100]⟩ : ByteArray), .string (⟨#[105, 116, 101, 109]⟩ : ByteArray), .string ⟨#[]⟩]) (c := [.string (⟨#[111, 114, 100, 101, 114]⟩ : ByteArray)]) (C' := [.string (⟨#[111, 114, 100, 101, 114]⟩ : ByteArray), .string (⟨#[112, 97, 105, 100]⟩ : ByteArray), .string (⟨#[105, 116, 101, 109]⟩ : ByteArray), .string (⟨#[111, 114, 100, 101, 114]⟩ : ByteArray)]) rfl rfl rfl rfl rfl (fill_nil)))))) rfl rc1 rfl (by simpa using Kw.nil)) rfl (fun v1 Φ_1 D1 q1 => ?_)
 obtain ⟨fr1, h1⟩ := q1
 replace h1 : OSl RS 9 1 Φ_1 [] v1 ([(⟨#[111, 114, 100, 101, 114]⟩ : ByteArray), (⟨#[112, 97, 105, 100]⟩ : ByteArray), (⟨#[105, 116, 101, 109]⟩ : ByteArray), (⟨#[111, 114, 100, 101, 114]⟩ : ByteArray)] : List ByteArray) := by simpa using h1
 replace ph0_0 := ph0_0.frame RI.lasts fr1 (Dj.empty _)
 replace pp0 := fr1 _ _ (by simp) pp0
 obtain ⟨x1, hx1, h⟩ := bind_some h
 refine lc (k_call (js := [1]) (R := [ob v1]) Fun_185 rfl rfl (fun w1 hw ap hl => m_s_l1Str_ok hw.fro N p0 ([(⟨#[111, 114, 100, 101, 114]⟩ : ByteArray), (⟨#[112, 97, 105, 100]⟩ : ByteArray), (⟨#[105, 116, 101, 109]⟩ : ByteArray), (⟨#[111, 114, 100, 101, 114]⟩ : ByteArray)] : List ByteArray) ph0_0 pp0 h1.rsl (ap.o pa0_0) (Dj.app (ap.r (i := 0) rfl) (Dj.nil _)) ap.nd hl hx1)) rfl (fun v2 Φ_2 F1 q2 => ?_)
 obtain ⟨ap1, fr2, rfl, rfl, e1, h2⟩ := q2
 replace ph0_0 := ph0_0.frame RI.lasts fr2 (ap1.o pa0_0)
 refine lq (q_build (vs := [(0, .string x1.1)]) (C := #[.string x1.1, .slice none 0 0]) Pl_188 Zr_188 rfl (fill_cons (cells := [.string ⟨#[]⟩, .slice none 0 0]) (c := [.string x1.1]) (C' := [.string x1.1, .slice none 0 0]) rfl rfl rfl rfl rfl (fill_nil))) rfl ?_
 refine ln (n_alloc (C := #[.string (⟨#[]⟩ : ByteArray), .slice none 0 0]) Zr_188 rfl) rfl (fun b_2 => ?_)
 refine ls (s_store (i := 0) (vs := [.string x1.1, .slice none 0 0]) (C' := [.string x1.1, .slice none 0 0]) (O' := [(b_2, .cells #[.string x1.1, .slice none 0 0] 188 (0, 0)), (b_1, .cells #[.string (⟨#[]⟩ : ByteArray), .slice none 0 0] 188 (0, 0))]) Sz_188 rfl rfl rfl rfl rfl rfl ⟨rfl, rfl, trivial⟩ rfl rfl) rfl <| WL.nil <| WT.seq <| WT.region <| lq (q_assign rfl) rfl <| WL.nil <| WT.seq <| WT.seq <| WT.region <| lq (q_fieldAddr Fld_188_0 rfl) rfl ?_
 refine lq (q_load1 T1_9 rfl (fun w1 hw => hw.rgO (i := 0) rfl 0 1 [.string x1.1] rfl)) rfl <| lq (q_seq rfl rfl) rfl <| WL.nil ?_
 refine cut (σ := Int) (fun s => [(0, .pointer (some ⟨pb0, 0, none⟩)), (2, .pointer (some ⟨b_1, 0, none⟩)), (3, .pointer (some ⟨b_2, 0, none⟩)), (4, .int .i64 s)]) (fun s => St w0 Φ_2 [(b_2, .cells #[.string x1.1, .slice none 0 0] 188 (0, 0)), (b_1, .cells #[.string (⟨#[]⟩ : ByteArray), .slice none 0 0] 188 (0, 0))] [[pb0]]) (fun s => m_s_l3Draw_j1 N p0 x1 s = some r) (fun s hm => ?_) (fun K => ?_)
 ·clear h
  revert hm; revert s; intro s1 hm
  have h : m_s_l3Draw_j1 N p0 x1 s1 = some r := hm
  show WT _ _ [(0, .pointer (some ⟨pb0, 0, none⟩)), (2, .pointer (some ⟨b_1, 0, none⟩)), (3, .pointer (some ⟨b_2, 0, none⟩)), (4, .int .i64 s1)] (St w0 Φ_2 [(b_2, .cells #[.string x1.1, .slice none 0 0] 188 (0, 0)), (b_1, .cells #[.string (⟨#[]⟩ : ByteArray), .slice none 0 0] 188 (0, 0))] [[pb0]])
  unfold m_s_l3Draw_j1 at h
  refine WT.seq <| WT.seq <| WT.region <| lq (q_move rfl) rfl ?_
  obtain ⟨x2, hx2, h⟩ := bind_some h
  refine lc (k_call (js := [0]) (R := []) Fun_109 rfl rfl (fun w1 hw ap hl => m_s_l1Once_ok hw.fro N (⟨p0.b, x1.2.i, x1.2.h⟩ : Tl1Cur) 12 ph0_0 h2 (ap.o pa0_0) ap.nd hl hx2)) rfl (fun v3 Φ_3 F2 q3 => ?_)
  obtain ⟨ap2, fr3, rfl, rfl, e2, h3⟩ := q3
  replace ph0_0 := ph0_0.frame RI.lasts fr3 (ap2.o pa0_0)
  refine WL.nil ?_
  refine cut (σ := Hp × Int × Int × Int) (fun s => [(0, .pointer (some ⟨pb0, 0, none⟩)), (2, .pointer (some ⟨b_1, 0, none⟩)), (3, .pointer (some ⟨b_2, 0, none⟩)), (4, .int .i64 s.2.1)]) (fun s => St w0 s.1 [(b_2, .cells #[.string x1.1, .slice none 0 0] 188 (0, 0)), (b_1, .cells #[.string (⟨#[]⟩ : ByteArray), .slice none 0 0] 188 (0, 0))] [[pb0]]) (fun s => m_s_l3Draw_j2 N p0 x1 s.2.1 s.2.2.1 s.2.2.2 = some r ∧ (s.1 pb0 = some (.cells #[pv0_0, .int .i64 s.2.2.1, .int .i64 s.2.2.2] 253 (0, 0))) ∧ (RSl (RI .u8) 1 s.1 pG0_0 pv0_0 p0.b)) (fun s hm => ?_) (fun K => ?_)
  ·clear h
   obtain ⟨Φ_4, s2, s3, s4⟩ := s
   obtain ⟨h, k1, ph0_0⟩ := hm
   replace h : m_s_l3Draw_j2 N p0 x1 s2 s3 s4 = some r := h
   replace k1 : Φ_4 pb0 = some (.cells #[pv0_0, .int .i64 s3, .int .i64 s4] 253 (0, 0)) := k1
   replace ph0_0 : RSl (RI .u8) 1 Φ_4 pG0_0 pv0_0 p0.b := ph0_0
   show WT _ _ [(0, .pointer (some ⟨pb0, 0, none⟩)), (2, .pointer (some ⟨b_1, 0, none⟩)), (3, .pointer (some ⟨b_2, 0, none⟩)), (4, .int .i64 s2)] (St w0 Φ_4 [(b_2, .cells #[.string x1.1, .slice none 0 0] 188 (0, 0)), (b_1, .cells #[.string (⟨#[]⟩ : ByteArray), .slice none 0 0] 188 (0, 0))] [[pb0]])
   unfold m_s_l3Draw_j2 at h
   refine WT.seq <| WT.seq <| WT.region <| lq (q_assign rfl) rfl <| WL.nil <| WT.block <| WT.loop <| WT.conv (S' := St w0 Φ_4 [(b_2, .cells #[.string x1.1, .slice none 0 0] 188 (0, 0)), (b_1, .cells #[.string (⟨#[]⟩ : ByteArray), .slice none 0 0] 188 (0, 0))] (ob (.slice none 0 0) :: [[pb0]])) (fun w1 hw => hw.addNil) ?_
   have k2 := OSl.nil RTVal 192 3 Φ_4
   refine WT.mono (l' := [(0, .pointer (some ⟨pb0, 0, none⟩)), (2, .pointer (some ⟨b_1, 0, none⟩)), (3, .pointer (some ⟨b_2, 0, none⟩)), (4, .int .i64 s2), (5, .int .i64 0)]) (S' := St w0 Φ_4 [(b_2, .cells #[.string x1.1, (.slice none 0 0)] 188 (0, 0)), (b_1, .cells #[.string (⟨#[]⟩ : ByteArray), .slice none 0 0] 188 (0, 0))] [ob (.slice none 0 0), [pb0]]) ⟨rfl, rfl, rfl, rfl, rfl, trivial⟩ (fun w1 hw => (hw.sel (js := [0, 0]) rfl).selO (js := [0, 0]) rfl) ?_
   refine loop_ind (σ := Hp × (List TVal) × Value × Int × Int × Int) (fun s => [(0, .pointer (some ⟨pb0, 0, none⟩)), (2, .pointer (some ⟨b_1, 0, none⟩)), (3, .pointer (some ⟨b_2, 0, none⟩)), (4, .int .i64 s2), (5, .int .i64 s.2.2.2.1)]) (fun s => St w0 s.1 [(b_2, .cells #[.string x1.1, s.2.2.1] 188 (0, 0)), (b_1, .cells #[.string (⟨#[]⟩ : ByteArray), .slice none 0 0] 188 (0, 0))] [ob s.2.2.1, [pb0]]) (fun m s => m_s_l3Draw_l3 N p0 x1 s2 m s.2.1 s.2.2.2.1 s.2.2.2.2.1 s.2.2.2.2.2 = some r ∧ (OSl RTVal 192 3 s.1 [] s.2.2.1 s.2.1) ∧ (s.1 pb0 = some (.cells #[pv0_0, .int .i64 s.2.2.2.2.1, .int .i64 s.2.2.2.2.2] 253 (0, 0))) ∧ (RSl (RI .u8) 1 s.1 pG0_0 pv0_0 p0.b)) (fun s hm => none_ne (show (none : Option (TFact × Tl1Cur)) = some r from hm.1)) (fun n3 ih3 s hm => ?_) N (Φ_4, ([] : List TVal), (.slice none 0 0), 0, s3, s4) ⟨h, k2, k1, ph0_0⟩
   obtain ⟨Φ_5, s5, u1, s6, s7, s8⟩ := s
   obtain ⟨h, k3, k4, ph0_0⟩ := hm
   replace h : m_s_l3Draw_l3 N p0 x1 s2 (n3 + 1) s5 s6 s7 s8 = some r := h
   replace k3 : OSl RTVal 192 3 Φ_5 [] u1 s5 := k3
   replace k4 : Φ_5 pb0 = some (.cells #[pv0_0, .int .i64 s7, .int .i64 s8] 253 (0, 0)) := k4
   replace ph0_0 : RSl (RI .u8) 1 Φ_5 pG0_0 pv0_0 p0.b := ph0_0
   show WT _ _ [(0, .pointer (some ⟨pb0, 0, none⟩)), (2, .pointer (some ⟨b_1, 0, none⟩)), (3, .pointer (some ⟨b_2, 0, none⟩)), (4, .int .i64 s2), (5, .int .i64 s6)] (St w0 Φ_5 [(b_2, .cells #[.string x1.1, u1] 188 (0, 0)), (b_1, .cells #[.string (⟨#[]⟩ : ByteArray), .slice none 0 0] 188 (0, 0))] [ob u1, [pb0]])
   unfold m_s_l3Draw_l3 at h
   refine WT.seq <| WT.seq <| WT.region <| lq (q_move rfl) rfl <| lq (q_move rfl) rfl <| lq (q_lss rfl rfl) rfl <| WL.nil ?_
   refine WT.cond rfl (fun c1 => ?_) (fun c1 => ?_)
   ·replace h := ite_t h c1
    refine WT.skip <| WT.seq <| WT.block <| WT.mix (Kn Φ_5 [] [(b_2, .cells #[.string x1.1, u1] 188 (0, 0)), (b_1, .cells #[.string (⟨#[]⟩ : ByteArray), .slice none 0 0] 188 (0, 0))]) (fun i => match i with | 7 => false | _ => true) mixed (fun _ h => h.drew) <| mq 0 rfl (by kernel_rfl) (fun w1 hw => Kn.of (fun k hk _ _ => by simp at hk) (AllIn.mem ⟨List.mem_of_getElem? (i := 0) rfl, List.mem_of_getElem? (i := 1) rfl, trivial⟩) hw) (q_fieldAddr Fld_188_1 rfl) rfl ?_
    refine mq 1 rfl (by kernel_rfl) (fun w1 hw => Kn.of (fun k hk _ _ => by simp at hk) (AllIn.mem ⟨List.mem_of_getElem? (i := 0) rfl, List.mem_of_getElem? (i := 1) rfl, trivial⟩) hw) (q_load1 T1_112 rfl (fun w1 hw => hw.rgO (i := 0) rfl 1 1 [u1] rfl)) rfl <| mq 2 rfl (by kernel_rfl) (fun w1 hw => Kn.of (fun k hk _ _ => by simp at hk) (AllIn.mem ⟨List.mem_of_getElem? (i := 0) rfl, List.mem_of_getElem? (i := 1) rfl, trivial⟩) hw) (q_move rfl) rfl ?_
    obtain ⟨x3, hx3, h⟩ := bind_some h
    refine WM.one 3 (by kernel_rfl) (mc rfl (fun _ v Φx D w1 hq hw => Kn.of (fun k hk _ _ => by simp at hk) (AllIn.mem ⟨List.mem_of_getElem? (i := 0) rfl, List.mem_of_getElem? (i := 1) rfl, trivial⟩) hw) (k_call (js := [1]) (R := [ob u1]) Fun_247 rfl rfl (fun w1 hw ap hl => m_s_l3Small_ok hw.fro N (⟨p0.b, s7, s8⟩ : Tl1Cur) ph0_0 k4 (ap.o pa0_0) ap.nd hl hx3)) rfl (fun v4 Φ_6 F3 q4 => ?_))
    obtain ⟨ap3, fr4, rfl, rfl, e3, h4⟩ := q4
    replace ph0_0 := ph0_0.frame RI.lasts fr4 (ap3.o pa0_0)
    replace k3 := k3.frame RTVal.lasts fr4 (ap3.r (i := 0) rfl) (Dj.nil _)
    have rc2 : RC RTVal 3 Φ_6 ([[]] : List (List Nat)) [.int .i64 x3.1.K, .int .i64 x3.1.N, .string x3.1.S] ([x3.1] : List TVal) := RC.cons (c := [.int .i64 x3.1.K, .int .i64 x3.1.N, .string x3.1.S]) (cells := []) ⟨rfl, rfl⟩ rfl (RC.nil _ _ _)
    refine WM.one 4 (by kernel_rfl) (me rfl (fun _ v Φx D w1 hq hw => Kn.of (fun k hk _ _ => by simp at hk) (AllIn.mem ⟨List.mem_of_getElem? (i := 0) rfl, List.mem_of_getElem? (i := 1) rfl, trivial⟩) hw) (e_lit (vs := [(0, .agg [.int .i64 x3.1.K, .int .i64 x3.1.N, .string x3.1.S].toArray)]) (C := #[.int .i64 x3.1.K, .int .i64 x3.1.N, .string x3.1.S]) RTVal.lasts Sl_112 Zr_192 rfl rfl rfl rfl (fill_made MC_192_1 (fill_cons (cells := [.int .i64 0, .int .i64 0, .string ⟨#[]⟩]) (c := [.int .i64 x3.1.K, .int .i64 x3.1.N, .string x3.1.S]) (C' := [.int .i64 x3.1.K, .int .i64 x3.1.N, .string x3.1.S]) rfl rfl rfl rfl rfl (fill_nil))) rfl rc2 rfl (by simpa using Kw.nil)) rfl (fun v5 Φ_7 D2 q5 => ?_))
    obtain ⟨fr5, h5⟩ := q5
    replace h5 : OSl RTVal 192 3 Φ_7 [] v5 ([x3.1] : List TVal) := by simpa using h5
    replace ph0_0 := ph0_0.frame RI.lasts fr5 (Dj.empty _)
    replace k3 := k3.frame RTVal.lasts fr5 (Dj.empty _) (Dj.empty _)
    replace h4 := fr5 _ _ (by simp) h4
    obtain ⟨x4, hx4, h⟩ := bind_some h
    refine WM.one 5 (by kernel_rfl) (me rfl (fun _ v Φx D w1 hq hw => Kn.of (fun k hk _ _ => by simp at hk) (AllIn.mem ⟨List.mem_of_getElem? (i := 0) rfl, List.mem_of_getElem? (i := 1) rfl, trivial⟩) hw) (e_appF RTVal.lasts RTVal.one RTVal.flat Sl_112 Ei_192 rfl rfl rfl rfl rfl (js := [2]) (Rr := [ob v5, [pb0]]) rfl k3 h5.rsl hx4) rfl (fun v6 Φ_8 D3 q6 => ?_))
    obtain ⟨⟨ap4, fr6⟩, h6⟩ := q6
    replace ph0_0 := ph0_0.frame RI.lasts fr6 (ap4.o pa0_0)
    replace h4 := fr6 _ _ ((ap4.r (i := 1) rfl) _ (by simp)) h4
    refine mq 6 rfl (by kernel_rfl) (fun w1 hw => Kn.of (fun k hk _ _ => by simp at hk) (AllIn.mem ⟨List.mem_of_getElem? (i := 0) rfl, List.mem_of_getElem? (i := 1) rfl, trivial⟩) hw) (q_fieldAddr Fld_188_1 rfl) rfl ?_
    refine WM.one 7 (by kernel_rfl) (ms rfl (fun hc => by cases hc) (s_store (i := 0) (vs := [v6]) (C' := [.string x1.1, v6]) (O' := [(b_2, .cells #[.string x1.1, v6] 188 (0, 0)), (b_1, .cells #[.string (⟨#[]⟩ : ByteArray), .slice none 0 0] 188 (0, 0))]) Sz_112 rfl rfl rfl (one_cells h6.one) rfl rfl ⟨h6.one, trivial⟩ rfl rfl) rfl ?_)
    refine WM.nil (by kernel_rfl) <| WT.inBlock <| WT.region <| lq (q_move rfl) rfl <| lq (q_add rfl rfl) rfl <| lq (q_assign rfl) rfl <| WL.nil ?_
    refine WT.inLoop (WT.mono (l' := [(0, .pointer (some ⟨pb0, 0, none⟩)), (2, .pointer (some ⟨b_1, 0, none⟩)), (3, .pointer (some ⟨b_2, 0, none⟩)), (4, .int .i64 s2), (5, .int .i64 (IntKind.i64.wrap (s6 + 1)))]) (S' := St w0 Φ_8 [(b_2, .cells #[.string x1.1, v6] 188 (0, 0)), (b_1, .cells #[.string (⟨#[]⟩ : ByteArray), .slice none 0 0] 188 (0, 0))] [ob v6, [pb0]]) ⟨rfl, rfl, rfl, rfl, rfl, trivial⟩ (fun w1 hw => (hw.sel (js := [0, 1]) rfl).selO (js := [0, 0]) rfl) ?_)
    exact ih3 (Φ_8, x4, v6, IntKind.i64.wrap (s6 + 1), x3.2.i, x3.2.h) ⟨h, h6, h4, ph0_0⟩
   replace h := ite_f h c1
   refine WT.exit rfl <| WT.seq <| WT.region <| lq (q_loadN Tn_188 rfl (fun w1 hw => hw.rgO (i := 0) rfl 0 2 [.string x1.1, u1] rfl) rfl) rfl <| ls (s_store (i := 1) (vs := [.string x1.1, u1]) (C' := [.string x1.1, u1]) (O' := [(b_2, .cells #[.string x1.1, u1] 188 (0, 0)), (b_1, .cells #[.string x1.1, u1] 188 (0, 0))]) Sz_188 rfl rfl rfl rfl rfl rfl ⟨rfl, k3.one, trivial⟩ rfl rfl) rfl <| WL.nil ?_
   refine WT.ret Try.func191 (resOk.one (rv_cell Tn_188 rfl (fun w1 hw => hw.rgO (i := 1) rfl 0 2 [.string x1.1, u1] rfl) rfl)) (fun w1 hw => ?_)
   subst hb0
   cases h
   refine postG_of_St (js := [0, 0]) hw rfl ⟨u1, rfl, rfl, k3, rfl, k4⟩
  refine WT.cond rfl (fun c2 => ?_) (fun c2 => ?_)
  ·replace h := ite_t h c2
   refine WT.region <| lq (q_move rfl) rfl ?_
   obtain ⟨x5, hx5, h⟩ := bind_some h
   refine lc (k_call (js := [0]) (R := []) Fun_186 rfl rfl (fun w1 hw ap hl => m_s_l1Below_ok hw.fro N (⟨p0.b, x2.2.i, x2.2.h⟩ : Tl1Cur) 6 ph0_0 h3 (ap.o pa0_0) ap.nd hl hx5)) rfl (fun v7 Φ_9 F4 q7 => ?_)
   obtain ⟨ap5, fr7, rfl, rfl, e4, h7⟩ := q7
   replace ph0_0 := ph0_0.frame RI.lasts fr7 (ap5.o pa0_0)
   refine lq (q_assign rfl) rfl <| WL.nil <| WT.mono (l' := [(0, .pointer (some ⟨pb0, 0, none⟩)), (2, .pointer (some ⟨b_1, 0, none⟩)), (3, .pointer (some ⟨b_2, 0, none⟩)), (4, .int .i64 x5.1)]) (S' := St w0 Φ_9 [(b_2, .cells #[.string x1.1, .slice none 0 0] 188 (0, 0)), (b_1, .cells #[.string (⟨#[]⟩ : ByteArray), .slice none 0 0] 188 (0, 0))] [[pb0]]) ⟨rfl, rfl, rfl, rfl, trivial⟩ (fun w1 hw => (hw.sel (js := [0]) rfl).selO (js := [0, 0]) rfl) ?_
   exact K (Φ_9, x5.1, x5.2.i, x5.2.h) ⟨h, h7, ph0_0⟩
  replace h := ite_f h c2
  refine WT.skip <| WT.mono (l' := [(0, .pointer (some ⟨pb0, 0, none⟩)), (2, .pointer (some ⟨b_1, 0, none⟩)), (3, .pointer (some ⟨b_2, 0, none⟩)), (4, .int .i64 s1)]) (S' := St w0 Φ_3 [(b_2, .cells #[.string x1.1, .slice none 0 0] 188 (0, 0)), (b_1, .cells #[.string (⟨#[]⟩ : ByteArray), .slice none 0 0] 188 (0, 0))] [[pb0]]) ⟨rfl, rfl, rfl, rfl, trivial⟩ (fun w1 hw => (hw.sel (js := [0]) rfl).selO (js := [0, 0]) rfl) ?_
  exact K (Φ_3, s1, x2.2.i, x2.2.h) ⟨h, h3, ph0_0⟩
 refine WT.cond rfl (fun c3 => ?_) (fun c3 => ?_)
 ·replace h := ite_t h c3
  refine WT.region <| lq (q_assign rfl) rfl <| WL.nil <| WT.mono (l' := [(0, .pointer (some ⟨pb0, 0, none⟩)), (2, .pointer (some ⟨b_1, 0, none⟩)), (3, .pointer (some ⟨b_2, 0, none⟩)), (4, .int .i64 2)]) (S' := St w0 Φ_2 [(b_2, .cells #[.string x1.1, .slice none 0 0] 188 (0, 0)), (b_1, .cells #[.string (⟨#[]⟩ : ByteArray), .slice none 0 0] 188 (0, 0))] [[pb0]]) ⟨rfl, rfl, rfl, rfl, trivial⟩ (fun w1 hw => (hw.sel (js := [0]) rfl).selO (js := [0, 0]) rfl) ?_
  exact K (2) h
 replace h := ite_f h c3
 refine WT.skip <| WT.mono (l' := [(0, .pointer (some ⟨pb0, 0, none⟩)), (2, .pointer (some ⟨b_1, 0, none⟩)), (3, .pointer (some ⟨b_2, 0, none⟩)), (4, .int .i64 1)]) (S' := St w0 Φ_2 [(b_2, .cells #[.string x1.1, .slice none 0 0] 188 (0, 0)), (b_1, .cells #[.string (⟨#[]⟩ : ByteArray), .slice none 0 0] 188 (0, 0))] [[pb0]]) ⟨rfl, rfl, rfl, rfl, trivial⟩ (fun w1 hw => (hw.sel (js := [0]) rfl).selO (js := [0, 0]) rfl) ?_
 exact K (1) h
theorem m_s_l4Draw_ok {Φ : Hp} {w : World} (hΦ : In Φ w) (N : Nat) (p0 : Tl1Cur) {pv0_0 : Value} {pG0_0 : List Nat} {pb0 : Nat} (ph0_0 : RSl (RI .u8) 1 Φ pG0_0 pv0_0 p0.b) (pp0 : Φ pb0 = some (.cells #[pv0_0, .int .i64 p0.i, .int .i64 p0.h] 253 (0, 0))) (pd0_0 : Dj pG0_0 [[pb0]].flatten) (hB : [[pb0]].flatten.Nodup) (hlt : ∀ k ∈ [[pb0]].flatten, k < w.heap.size) {r : TStore × Tl1Cur} (h : m_s_l4Draw N p0 = some r) :
  Calls Try.prog 108 [.pointer (some ⟨pb0, 0, none⟩)].toArray w (PostG Φ w [[pb0]].flatten (fun Φ' Fs v => ∃ (sr_0_0 : Value) (Dr_0_0 : List Nat) (X : List Nat), v = .agg [sr_0_0, .int .i64 r.1.Next].toArray ∧ Fs = [ob sr_0_0, [pb0], X] ∧ OSl RTItem 190 3 Φ' Dr_0_0 sr_0_0 r.1.Items ∧ (∀ k ∈ Dr_0_0, k ∈ X) ∧ r.2.b = p0.b ∧ Φ' pb0 = some (.cells #[pv0_0, .int .i64 r.2.i, .int .i64 r.2.h] 253 (0, 0)))) := by
 refine enter Try.func108 rfl Try.ntmps108 rfl (St.start hΦ [[pb0]] hB hlt) ?_
 have pa0_0 : Old ⟨w, [[pb0]].flatten, Φ⟩ pG0_0 := Old.mk hΦ ph0_0.kn pd0_0
 revert pa0_0
 generalize hb0 : (⟨w, [[pb0]].flatten, Φ⟩ : Base) = w0
 intro pa0_0
 unfold m_s_l4Draw at h
 refine WT.seq <| WT.region ?_
 refine ln (n_alloc (C := #[.slice none 0 0, .int .i64 0]) Zr_101 rfl) rfl (fun b_1 => ?_)
 refine WL.nil <| WT.seq <| WT.region <| lq (q_build (vs := [(1, .int .i64 1)]) (C := #[.slice none 0 0, .int .i64 1]) Pl_101 Zr_101 rfl (fill_cons (cells := [.slice none 0 0, .int .i64 0]) (c := [.int .i64 1]) (C' := [.slice none 0 0, .int .i64 1]) rfl rfl rfl rfl rfl (fill_nil))) rfl ?_
 refine ln (n_alloc (C := #[.slice none 0 0, .int .i64 0]) Zr_101 rfl) rfl (fun b_2 => ?_)
 refine ls (s_store (i := 0) (vs := [.slice none 0 0, .int .i64 1]) (C' := [.slice none 0 0, .int .i64 1]) (O' := [(b_2, .cells #[.slice none 0 0, .int .i64 1] 101 (0, 0)), (b_1, .cells #[.slice none 0 0, .int .i64 0] 101 (0, 0))]) Sz_101 rfl rfl rfl rfl rfl rfl ⟨rfl, rfl, trivial⟩ rfl rfl) rfl <| WL.nil <| WT.seq <| WT.seq <| WT.region <| lq (q_move rfl) rfl ?_
 obtain ⟨x1, hx1, h⟩ := bind_some h
 refine lc (k_call (js := [0]) (R := []) Fun_186 rfl rfl (fun w1 hw ap hl => m_s_l1Below_ok hw.fro N p0 9 ph0_0 pp0 (ap.o pa0_0) ap.nd hl hx1)) rfl (fun v1 Φ_1 F1 q1 => ?_)
 obtain ⟨ap1, fr1, rfl, rfl, e1, h1⟩ := q1
 replace ph0_0 := ph0_0.frame RI.lasts fr1 (ap1.o pa0_0)
 refine lq (q_assign rfl) rfl <| WL.nil <| WT.block <| WT.loop <| WT.conv (S' := St w0 Φ_1 [(b_2, .cells #[.slice none 0 0, .int .i64 1] 101 (0, 0)), (b_1, .cells #[.slice none 0 0, .int .i64 0] 101 (0, 0))] ([] :: [[pb0]])) (fun w1 hw => hw.addNil) <| WT.conv (S' := St w0 Φ_1 [(b_2, .cells #[.slice none 0 0, .int .i64 1] 101 (0, 0)), (b_1, .cells #[.slice none 0 0, .int .i64 0] 101 (0, 0))] (ob (.slice none 0 0) :: [[], [pb0]])) (fun w1 hw => hw.addNil) ?_
 have k1 := OSl.nil RTItem 190 3 Φ_1
 refine WT.mono (l' := [(0, .pointer (some ⟨pb0, 0, none⟩)), (2, .pointer (some ⟨b_1, 0, none⟩)), (3, .pointer (some ⟨b_2, 0, none⟩)), (4, .int .i64 x1.1)]) (S' := St w0 Φ_1 [(b_2, .cells #[(.slice none 0 0), .int .i64 1] 101 (0, 0)), (b_1, .cells #[.slice none 0 0, .int .i64 0] 101 (0, 0))] [ob (.slice none 0 0), [], [pb0]]) ⟨rfl, rfl, rfl, rfl, trivial⟩ (fun w1 hw => (hw.sel (js := [0, 0, 0]) rfl).selO (js := [0, 0]) rfl) ?_
 refine loop_ind (σ := Hp × List Nat × (List TItem) × Value × List Nat × Int × Int × Int × Int) (fun s => [(0, .pointer (some ⟨pb0, 0, none⟩)), (2, .pointer (some ⟨b_1, 0, none⟩)), (3, .pointer (some ⟨b_2, 0, none⟩)), (4, .int .i64 s.2.2.2.2.2.1)]) (fun s => St w0 s.1 [(b_2, .cells #[s.2.2.2.1, .int .i64 s.2.2.2.2.2.2.2.2] 101 (0, 0)), (b_1, .cells #[.slice none 0 0, .int .i64 0] 101 (0, 0))] [ob s.2.2.2.1, s.2.1, [pb0]]) (fun m s => m_s_l4Draw_l1 N p0 m s.2.2.1 s.2.2.2.2.2.1 s.2.2.2.2.2.2.1 s.2.2.2.2.2.2.2.1 s.2.2.2.2.2.2.2.2 = some r ∧ (OSl RTItem 190 3 s.1 s.2.2.2.2.1 s.2.2.2.1 s.2.2.1) ∧ (∀ k ∈ s.2.2.2.2.1, k ∈ s.2.1) ∧ (s.1 pb0 = some (.cells #[pv0_0, .int .i64 s.2.2.2.2.2.2.1, .int .i64 s.2.2.2.2.2.2.2.1] 253 (0, 0))) ∧ (RSl (RI .u8) 1 s.1 pG0_0 pv0_0 p0.b)) (fun s hm => none_ne (show (none : Option (TStore × Tl1Cur)) = some r from hm.1)) (fun n1 ih1 s hm => ?_) N (Φ_1, [], ([] : List TItem), (.slice none 0 0), [], x1.1, x1.2.i, x1.2.h, 1) ⟨h, k1, (by simp), h1, ph0_0⟩
 obtain ⟨Φ_2, X1, s1, u1, D1, s2, s3, s4, s5⟩ := s
 obtain ⟨h, k2, i1, k3, ph0_0⟩ := hm
 replace h : m_s_l4Draw_l1 N p0 (n1 + 1) s1 s2 s3 s4 s5 = some r := h
 replace k2 : OSl RTItem 190 3 Φ_2 D1 u1 s1 := k2
 replace i1 : ∀ k ∈ D1, k ∈ X1 := i1
 replace k3 : Φ_2 pb0 = some (.cells #[pv0_0, .int .i64 s3, .int .i64 s4] 253 (0, 0)) := k3
 replace ph0_0 : RSl (RI .u8) 1 Φ_2 pG0_0 pv0_0 p0.b := ph0_0
 show WT _ _ [(0, .pointer (some ⟨pb0, 0, none⟩)), (2, .pointer (some ⟨b_1, 0, none⟩)), (3, .pointer (some ⟨b_2, 0, none⟩)), (4, .int .i64 s2)] (St w0 Φ_2 [(b_2, .cells #[u1, .int .i64 s5] 101 (0, 0)), (b_1, .cells #[.slice none 0 0, .int .i64 0] 101 (0, 0))] [ob u1, X1, [pb0]])
 unfold m_s_l4Draw_l1 at h
 refine WT.seq <| WT.seq <| WT.region <| lq (q_move rfl) rfl <| lq (q_gtr rfl rfl) rfl <| WL.nil ?_
 refine WT.cond rfl (fun c1 => ?_) (fun c1 => ?_)
 ·replace h := ite_t h c1
  refine WT.skip <| WT.seq <| WT.block <| WT.seq <| WT.seq <| WT.region <| lq (q_move rfl) rfl ?_
  obtain ⟨x2, hx2, h⟩ := bind_some h
  refine lc (k_call (js := [2]) (R := [ob u1, X1]) Fun_109 rfl rfl (fun w1 hw ap hl => m_s_l1Once_ok hw.fro N (⟨p0.b, s3, s4⟩ : Tl1Cur) 5 ph0_0 k3 (ap.o pa0_0) ap.nd hl hx2)) rfl (fun v2 Φ_3 F2 q2 => ?_)
  obtain ⟨ap2, fr2, rfl, rfl, e2, h2⟩ := q2
  replace ph0_0 := ph0_0.frame RI.lasts fr2 (ap2.o pa0_0)
  replace k2 := k2.frame RTItem.lasts fr2 (ap2.r (i := 0) rfl) (Dj.sub (ap2.r (i := 1) rfl) i1)
  refine lq (q_move rfl) rfl ?_
  obtain ⟨b3, hb_1, h⟩ := bind_some h
  refine WL.cutN 5 [(19, .bool b3), (0, .pointer (some ⟨pb0, 0, none⟩)), (2, .pointer (some ⟨b_1, 0, none⟩)), (3, .pointer (some ⟨b_2, 0, none⟩)), (4, .int .i64 s2)] ?_ (fun K => ?_)
  rotate_left
  ·refine WL.split (d := 14) rfl (fun c2 => ?_) (fun c2 => ?_)
   ·replace hb_1 := ite_t hb_1 c2
    refine WL.yes rfl rfl <| lq (q_fieldAddr Fld_101_0 rfl) rfl <| WL.yes rfl rfl <| lq (q_load1 T1_99 rfl (fun w1 hw => hw.rgO (i := 0) rfl 0 1 [u1] rfl)) rfl <| WL.yes rfl rfl <| lq (q_lenR Sl_99 rfl rfl k2.rsl) rfl <| WL.yes rfl rfl <| lq (q_gtr rfl rfl) rfl <| WL.q (q_pick1 rfl rfl) rfl rfl rfl ?_
    cases hb_1
    exact WL.keep (by exact ⟨rfl, rfl, rfl, rfl, rfl, trivial⟩) K
   ·replace hb_1 := ite_f hb_1 c2
    refine WL.no rfl rfl rfl rfl <| WL.no rfl rfl rfl rfl <| WL.no rfl rfl rfl rfl <| WL.no rfl rfl rfl rfl <| WL.q (q_pick0 rfl rfl) rfl rfl rfl ?_
    cases hb_1
    exact WL.keep (by exact ⟨rfl, rfl, rfl, rfl, rfl, trivial⟩) K
  refine WL.nil ?_
  refine WT.cond rfl (fun c3 => ?_) (fun c3 => ?_)
  ·replace h := ite_t h c3
   refine WT.seq <| WT.mix (Kn Φ_3 [] [(b_2, .cells #[u1, .int .i64 s5] 101 (0, 0)), (b_1, .cells #[.slice none 0 0, .int .i64 0] 101 (0, 0))]) (fun i => match i with | 10 => false | _ => true) mixed (fun _ h => h.drew) <| mqT 0 [1, 7, 8, 9, 10] rfl (by kernel_rfl) (fun w1 hw => Kn.of (fun k hk _ _ => by simp at hk) (AllIn.mem ⟨List.mem_of_getElem? (i := 0) rfl, List.mem_of_getElem? (i := 1) rfl, trivial⟩) hw) (q_fieldAddr Fld_101_0 rfl) rfl ?_
   refine mqT 1 [7, 8, 9, 10] rfl (by kernel_rfl) (fun w1 hw => Kn.of (fun k hk _ _ => by simp at hk) (AllIn.mem ⟨List.mem_of_getElem? (i := 0) rfl, List.mem_of_getElem? (i := 1) rfl, trivial⟩) hw) (q_load1 T1_99 rfl (fun w1 hw => hw.rgO (i := 0) rfl 0 1 [u1] rfl)) rfl <| mqT 2 [6, 7, 8, 9, 10] rfl (by kernel_rfl) (fun w1 hw => Kn.of (fun k hk _ _ => by simp at hk) (AllIn.mem ⟨List.mem_of_getElem? (i := 0) rfl, List.mem_of_getElem? (i := 1) rfl, trivial⟩) hw) (q_move rfl) rfl ?_
   refine mqT 3 [4, 5, 6, 7, 8, 9, 10] rfl (by kernel_rfl) (fun w1 hw => Kn.of (fun k hk _ _ => by simp at hk) (AllIn.mem ⟨List.mem_of_getElem? (i := 0) rfl, List.mem_of_getElem? (i := 1) rfl, trivial⟩) hw) (q_fieldAddr Fld_101_0 rfl) rfl <| mqT 4 [5, 6, 7, 8, 9, 10] rfl (by kernel_rfl) (fun w1 hw => Kn.of (fun k hk _ _ => by simp at hk) (AllIn.mem ⟨List.mem_of_getElem? (i := 0) rfl, List.mem_of_getElem? (i := 1) rfl, trivial⟩) hw) (q_load1 T1_99 rfl (fun w1 hw => hw.rgO (i := 0) rfl 0 1 [u1] rfl)) rfl ?_
   refine mqT 5 [6, 7, 8, 9, 10] rfl (by kernel_rfl) (fun w1 hw => Kn.of (fun k hk _ _ => by simp at hk) (AllIn.mem ⟨List.mem_of_getElem? (i := 0) rfl, List.mem_of_getElem? (i := 1) rfl, trivial⟩) hw) (q_lenR Sl_99 rfl rfl k2.rsl) rfl ?_
   obtain ⟨x3, hx3, h⟩ := bind_some h
   refine WM.one 6 (by kernel_rfl) (mc rfl (fun _ v Φx D w1 hq hw => Kn.of (fun k hk _ _ => by simp at hk) (AllIn.mem ⟨List.mem_of_getElem? (i := 0) rfl, List.mem_of_getElem? (i := 1) rfl, trivial⟩) hw) (k_call (js := [0]) (R := [ob u1, X1]) Fun_186 rfl rfl (fun w1 hw ap hl => m_s_l1Below_ok hw.fro N (⟨p0.b, x2.2.i, x2.2.h⟩ : Tl1Cur) (s1.length : Int) ph0_0 h2 (ap.o pa0_0) ap.nd hl hx3)) rfl (fun v3 Φ_4 F3 q3 => ?_))
   obtain ⟨ap3, fr3, rfl, rfl, e3, h3⟩ := q3
   replace ph0_0 := ph0_0.frame RI.lasts fr3 (ap3.o pa0_0)
   replace k2 := k2.frame RTItem.lasts fr3 (ap3.r (i := 0) rfl) (Dj.sub (ap3.r (i := 1) rfl) i1)
   obtain ⟨x4, hx4, h⟩ := bind_some h
   obtain ⟨cs1, F4, -, g1, hb1, hs1, r1⟩ := k2.elS (idx_some hx4).2.2
   obtain ⟨v4, G1, rfl, hq1, h4⟩ := r1
   obtain rfl := hq1.symm
   refine mqT 7 [8, 9, 10] rfl (by kernel_rfl) (fun w1 hw => Kn.of (fun k hk _ _ => by simp at hk) (AllIn.mem ⟨List.mem_of_getElem? (i := 0) rfl, List.mem_of_getElem? (i := 1) rfl, trivial⟩) hw) (q_indexAddr Sl_99 rfl rfl k2.rsl hx4) rfl <| mqT 8 [9, 10] rfl (by kernel_rfl) (fun w1 hw => Kn.of (fun k hk _ _ => by simp at hk) (AllIn.mem ⟨List.mem_of_getElem? (i := 0) rfl, List.mem_of_getElem? (i := 1) rfl, trivial⟩) hw) (q_fieldAddr Fld_190_0 rfl) rfl ?_
   refine WM.one 9 (by kernel_rfl) (mv rfl (fun _ w1 hw => Kn.of (fun k hk _ _ => by simp at hk) (AllIn.mem ⟨List.mem_of_getElem? (i := 0) rfl, List.mem_of_getElem? (i := 1) rfl, trivial⟩) hw) (q_load1 T1_3 rfl (fun w1 hw => (g1.of_eq 0 1 rfl rfl : rg _ _ _ [.int .i64 x4.Id]).rangeAt hw.fro)) rfl ?_)
   refine WM.frz (js := [0]) (R := [(b_1, .cells #[.slice none 0 0, .int .i64 0] 101 (0, 0))]) rfl (fun Φ_5 fr4 k4 => ?_)
   replace ph0_0 := ph0_0.frame RI.lasts fr4 (Dj.empty _)
   replace k2 := k2.frame RTItem.lasts fr4 (Dj.empty _) (Dj.empty _)
   replace h3 := fr4 _ _ (by simp) h3
   obtain ⟨x5, hx5, h⟩ := bind_some h
   refine WM.one 10 (by kernel_rfl) (mc rfl (fun hc => by cases hc) (k_call (js := [0]) (R := [[pb0], ob u1, X1]) Fun_189 rfl rfl (fun w1 hw ap hl => m_s_l4Drop_ok hw.fro N (⟨s1, s5⟩ : TStore) x4.Id k2.rsl k4 (Dj.app (ap.r (i := 1) rfl) (Dj.sub (ap.r (i := 2) rfl) i1)) ap.nd hl hx5)) rfl (fun v5 Φ_6 F5 q4 => ?_))
   obtain ⟨ap4, fr5, v6, D2, rfl, rfl, h5, i2, h6⟩ := q4
   replace ph0_0 := ph0_0.frame RI.lasts fr5 (ap4.o pa0_0)
   replace h3 := fr5 _ _ ((ap4.r (i := 0) rfl) _ (by simp)) h3
   refine WM.nil (by kernel_rfl) <| WT.exit rfl <| WT.region <| lq (q_move rfl) rfl <| lq (q_sub rfl rfl) rfl <| lq (q_assign rfl) rfl <| WL.nil ?_
   refine WT.thw (js := [0]) (R := [ob v6, [pb0], ob u1, X1]) rfl h6 (fun Φ_7 ap5 fr6 => ?_)
   replace ph0_0 := ph0_0.frame RI.lasts fr6 (ap5.o pa0_0)
   replace h5 := h5.frame RTItem.lasts fr6 (ap5.r (i := 0) rfl) (Dj.sub (Dj.app (ap5.r (i := 2) rfl) (Dj.sub (ap5.r (i := 3) rfl) i1)) i2)
   replace h3 := fr6 _ _ ((ap5.r (i := 1) rfl) _ (by simp)) h3
   refine WT.conv (S' := St w0 Φ_7 [(b_2, .cells #[v6, .int .i64 x5.2.Next] 101 (0, 0)), (b_1, .cells #[.slice none 0 0, .int .i64 0] 101 (0, 0))] [(X1 ++ (ob u1)), ob v6, [pb0]]) (fun w1 hw => hw.merge (js := [3, 2]) rfl (SP.eq (by simp [List.append_assoc]))) ?_
   refine WT.inLoop (WT.mono (l' := [(0, .pointer (some ⟨pb0, 0, none⟩)), (2, .pointer (some ⟨b_1, 0, none⟩)), (3, .pointer (some ⟨b_2, 0, none⟩)), (4, .int .i64 (IntKind.i64.wrap (s2 - 1)))]) (S' := St w0 Φ_7 [(b_2, .cells #[v6, .int .i64 x5.2.Next] 101 (0, 0)), (b_1, .cells #[.slice none 0 0, .int .i64 0] 101 (0, 0))] [ob v6, (X1 ++ (ob u1)), [pb0]]) ⟨rfl, rfl, rfl, rfl, trivial⟩ (fun w1 hw => (hw.sel (js := [1, 0, 0]) rfl).selO (js := [0, 0]) rfl) ?_)
   exact ih1 (Φ_7, (X1 ++ (ob u1)), x5.2.Items, v6, D2, IntKind.i64.wrap (s2 - 1), x3.2.i, x3.2.h, x5.2.Next) ⟨h, h5, (fun k hk => ((List.mem_append.1 (i2 k hk)).elim (fun h => ((fun k hk => (List.mem_append.2 (.inr hk))) k h)) (fun h => ((fun k hk => (List.mem_append.2 (.inl hk))) k (i1 k h))))), h3, ph0_0⟩
  replace h := ite_f h c3
  refine WT.skip <| WT.region <| lq (q_move rfl) rfl ?_
  obtain ⟨x6, hx6, h⟩ := bind_some h
  refine lc (k_call (js := [0]) (R := [ob u1, X1]) Fun_191 rfl rfl (fun w1 hw ap hl => m_s_l3Draw_ok hw.fro N (⟨p0.b, x2.2.i, x2.2.h⟩ : Tl1Cur) ph0_0 h2 (ap.o pa0_0) ap.nd hl hx6)) rfl (fun v7 Φ_8 F6 q5 => ?_)
  obtain ⟨ap6, fr7, v8, rfl, rfl, h7, e4, h8⟩ := q5
  replace ph0_0 := ph0_0.frame RI.lasts fr7 (ap6.o pa0_0)
  replace k2 := k2.frame RTItem.lasts fr7 (ap6.r (i := 0) rfl) (Dj.sub (ap6.r (i := 1) rfl) i1)
  refine WL.frz (js := [0]) (R := [(b_1, .cells #[.slice none 0 0, .int .i64 0] 101 (0, 0))]) rfl (fun Φ_9 fr8 k5 => ?_)
  replace ph0_0 := ph0_0.frame RI.lasts fr8 (Dj.empty _)
  replace k2 := k2.frame RTItem.lasts fr8 (Dj.empty _) (Dj.empty _)
  replace h7 := h7.frame RTVal.lasts fr8 (Dj.empty _) (Dj.empty _)
  replace h8 := fr8 _ _ (by simp) h8
  obtain ⟨x7, hx7, h⟩ := bind_some h
  refine lc (k_call (js := [0, 2]) (R := [ob v8, [pb0], X1]) Fun_190 rfl rfl (fun w1 hw ap hl => m_s_l4Assert_ok hw.fro N (⟨s1, s5⟩ : TStore) x6.1 k2 k5 h7.rsl (Dj.sub (ap.r (i := 2) rfl) i1) (Dj.app (ap.r (i := 0) rfl) (Dj.nil _)) ap.nd hl hx7)) rfl (fun v9 Φ_10 F7 q6 => ?_)
  obtain ⟨ap7, fr9, v10, D3, X2, rfl, rfl, h9, i3, h10⟩ := q6
  replace ph0_0 := ph0_0.frame RI.lasts fr9 (ap7.o pa0_0)
  replace h8 := fr9 _ _ ((ap7.r (i := 1) rfl) _ (by simp)) h8
  refine WL.nil <| WT.inBlock <| WT.region <| lq (q_move rfl) rfl <| lq (q_sub rfl rfl) rfl <| lq (q_assign rfl) rfl <| WL.nil ?_
  refine WT.thw (js := [0]) (R := [ob v10, X2, ob v8, [pb0], X1]) rfl h10 (fun Φ_11 ap8 fr10 => ?_)
  replace ph0_0 := ph0_0.frame RI.lasts fr10 (ap8.o pa0_0)
  replace h9 := h9.frame RTItem.lasts fr10 (ap8.r (i := 0) rfl) (Dj.sub (Dj.app (ap8.r (i := 1) rfl) (Dj.sub (ap8.r (i := 4) rfl) i1)) i3)
  replace h8 := fr10 _ _ ((ap8.r (i := 3) rfl) _ (by simp)) h8
  refine WT.conv (S' := St w0 Φ_11 [(b_2, .cells #[v10, .int .i64 x7.2.Next] 101 (0, 0)), (b_1, .cells #[.slice none 0 0, .int .i64 0] 101 (0, 0))] [(X1 ++ (X2)), ob v10, ob v8, [pb0]]) (fun w1 hw => hw.merge (js := [4, 1]) rfl (SP.eq (by simp [List.append_assoc]))) ?_
  refine WT.inLoop (WT.mono (l' := [(0, .pointer (some ⟨pb0, 0, none⟩)), (2, .pointer (some ⟨b_1, 0, none⟩)), (3, .pointer (some ⟨b_2, 0, none⟩)), (4, .int .i64 (IntKind.i64.wrap (s2 - 1)))]) (S' := St w0 Φ_11 [(b_2, .cells #[v10, .int .i64 x7.2.Next] 101 (0, 0)), (b_1, .cells #[.slice none 0 0, .int .i64 0] 101 (0, 0))] [ob v10, (X1 ++ (X2)), [pb0]]) ⟨rfl, rfl, rfl, rfl, trivial⟩ (fun w1 hw => (hw.sel (js := [1, 0, 1]) rfl).selO (js := [0, 0]) rfl) ?_)
  exact ih1 (Φ_11, (X1 ++ (X2)), x7.2.Items, v10, D3, IntKind.i64.wrap (s2 - 1), x6.2.i, x6.2.h, x7.2.Next) ⟨h, h9, (fun k hk => ((List.mem_append.1 (i3 k hk)).elim (fun h => ((fun k hk => (List.mem_append.2 (.inr hk))) k h)) (fun h => ((fun k hk => (List.mem_append.2 (.inl hk))) k (i1 k h))))), h8, ph0_0⟩
 replace h := ite_f h c1
 refine WT.exit rfl <| WT.seq <| WT.region <| lq (q_loadN Tn_101 rfl (fun w1 hw => hw.rgO (i := 0) rfl 0 2 [u1, .int .i64 s5] rfl) rfl) rfl <| ls (s_store (i := 1) (vs := [u1, .int .i64 s5]) (C' := [u1, .int .i64 s5]) (O' := [(b_2, .cells #[u1, .int .i64 s5] 101 (0, 0)), (b_1, .cells #[u1, .int .i64 s5] 101 (0, 0))]) Sz_101 rfl rfl rfl rfl rfl rfl ⟨k2.one, rfl, trivial⟩ rfl rfl) rfl <| WL.nil ?_
 refine WT.ret Try.func108 (resOk.one (rv_cell Tn_101 rfl (fun w1 hw => hw.rgO (i := 1) rfl 0 2 [u1, .int .i64 s5] rfl) rfl)) (fun w1 hw => ?_)
 subst hb0
 cases h
 replace hw := hw.merge (js := [1]) (F := [X1].flatten) rfl (SP.eq (by simp))
 refine postG_of_St (js := [1, 1, 0]) hw rfl ⟨u1, D1, [X1].flatten, rfl, rfl, k2, (fun k hk => (List.mem_flatten.2 ⟨X1, by simp, (i1 k hk)⟩)), rfl, k3⟩
theorem m_s_l11Match_ok {Φ : Hp} {w : World} (hΦ : In Φ w) (N : Nat) (p0 : Tl1Cur) {pv0_0 : Value} {pG0_0 : List Nat} {pb0 : Nat} (ph0_0 : RSl (RI .u8) 1 Φ pG0_0 pv0_0 p0.b) (pp0 : Φ pb0 = some (.cells #[pv0_0, .int .i64 p0.i, .int .i64 p0.h] 253 (0, 0))) (pd0_0 : Dj pG0_0 [[pb0]].flatten) (hB : [[pb0]].flatten.Nodup) (hlt : ∀ k ∈ [[pb0]].flatten, k < w.heap.size) {r : TMatch × Tl1Cur} (h : m_s_l11Match N p0 = some r) :
  Calls Try.prog 192 [.pointer (some ⟨pb0, 0, none⟩)].toArray w (PostG Φ w [[pb0]].flatten (fun Φ' Fs v => ∃ (sr_0_0 : Value) (sr_0_1 : Value), v = .agg [.int .i64 r.1.Rule, sr_0_0, sr_0_1].toArray ∧ Fs = [ob sr_0_0, ob sr_0_1, [pb0]] ∧ OSl (RI .i64) 3 1 Φ' [] sr_0_0 r.1.Ids ∧ OSl RTBind 194 4 Φ' [] sr_0_1 r.1.Binds ∧ r.2.b = p0.b ∧ Φ' pb0 = some (.cells #[pv0_0, .int .i64 r.2.i, .int .i64 r.2.h] 253 (0, 0)))) := by
 refine enter Try.func192 rfl Try.ntmps192 rfl (St.start hΦ [[pb0]] hB hlt) ?_
 have pa0_0 : Old ⟨w, [[pb0]].flatten, Φ⟩ pG0_0 := Old.mk hΦ ph0_0.kn pd0_0
 revert pa0_0
 generalize hb0 : (⟨w, [[pb0]].flatten, Φ⟩ : Base) = w0
 intro pa0_0
 unfold m_s_l11Match at h
 refine WT.seq <| WT.region ?_
 refine ln (n_alloc (C := #[.int .i64 0, .slice none 0 0, .slice none 0 0]) Zr_81 rfl) rfl (fun b_1 => ?_)
 refine WL.nil <| WT.seq <| WT.region <| lq (q_move rfl) rfl ?_
 obtain ⟨x1, hx1, h⟩ := bind_some h
 refine lc (k_call (js := [0]) (R := []) Fun_186 rfl rfl (fun w1 hw ap hl => m_s_l1Below_ok hw.fro N p0 3 ph0_0 pp0 (ap.o pa0_0) ap.nd hl hx1)) rfl (fun v1 Φ_1 F1 q1 => ?_)
 obtain ⟨ap1, fr1, rfl, rfl, e1, h1⟩ := q1
 replace ph0_0 := ph0_0.frame RI.lasts fr1 (ap1.o pa0_0)
 refine lq (q_build (vs := [(0, .int .i64 x1.1)]) (C := #[.int .i64 x1.1, .slice none 0 0, .slice none 0 0]) Pl_81 Zr_81 rfl (fill_cons (cells := [.int .i64 0, .slice none 0 0, .slice none 0 0]) (c := [.int .i64 x1.1]) (C' := [.int .i64 x1.1, .slice none 0 0, .slice none 0 0]) rfl rfl rfl rfl rfl (fill_nil))) rfl ?_
 refine ln (n_alloc (C := #[.int .i64 0, .slice none 0 0, .slice none 0 0]) Zr_81 rfl) rfl (fun b_2 => ?_)
 refine ls (s_store (i := 0) (vs := [.int .i64 x1.1, .slice none 0 0, .slice none 0 0]) (C' := [.int .i64 x1.1, .slice none 0 0, .slice none 0 0]) (O' := [(b_2, .cells #[.int .i64 x1.1, .slice none 0 0, .slice none 0 0] 81 (0, 0)), (b_1, .cells #[.int .i64 0, .slice none 0 0, .slice none 0 0] 81 (0, 0))]) Sz_81 rfl rfl rfl rfl rfl rfl ⟨rfl, rfl, rfl, trivial⟩ rfl rfl) rfl <| WL.nil <| WT.seq <| WT.seq <| WT.region <| lq (q_move rfl) rfl ?_
 obtain ⟨x2, hx2, h⟩ := bind_some h
 refine lc (k_call (js := [0]) (R := []) Fun_186 rfl rfl (fun w1 hw ap hl => m_s_l1Below_ok hw.fro N (⟨p0.b, x1.2.i, x1.2.h⟩ : Tl1Cur) 4 ph0_0 h1 (ap.o pa0_0) ap.nd hl hx2)) rfl (fun v2 Φ_2 F2 q2 => ?_)
 obtain ⟨ap2, fr2, rfl, rfl, e2, h2⟩ := q2
 replace ph0_0 := ph0_0.frame RI.lasts fr2 (ap2.o pa0_0)
 refine lq (q_assign rfl) rfl <| WL.nil <| WT.block <| WT.loop <| WT.conv (S' := St w0 Φ_2 [(b_2, .cells #[.int .i64 x1.1, .slice none 0 0, .slice none 0 0] 81 (0, 0)), (b_1, .cells #[.int .i64 0, .slice none 0 0, .slice none 0 0] 81 (0, 0))] (ob (.slice none 0 0) :: [[pb0]])) (fun w1 hw => hw.addNil) ?_
 have k1 := OSl.nil (RI .i64) 3 1 Φ_2
 refine WT.mono (l' := [(0, .pointer (some ⟨pb0, 0, none⟩)), (2, .pointer (some ⟨b_1, 0, none⟩)), (3, .pointer (some ⟨b_2, 0, none⟩)), (4, .int .i64 x2.1)]) (S' := St w0 Φ_2 [(b_2, .cells #[.int .i64 x1.1, (.slice none 0 0), .slice none 0 0] 81 (0, 0)), (b_1, .cells #[.int .i64 0, .slice none 0 0, .slice none 0 0] 81 (0, 0))] [ob (.slice none 0 0), [pb0]]) ⟨rfl, rfl, rfl, rfl, trivial⟩ (fun w1 hw => (hw.sel (js := [0, 0]) rfl).selO (js := [0, 0]) rfl) ?_
 refine loop_ind (σ := Hp × (List Int) × Value × Int × Int × Int) (fun s => [(0, .pointer (some ⟨pb0, 0, none⟩)), (2, .pointer (some ⟨b_1, 0, none⟩)), (3, .pointer (some ⟨b_2, 0, none⟩)), (4, .int .i64 s.2.2.2.1)]) (fun s => St w0 s.1 [(b_2, .cells #[.int .i64 x1.1, s.2.2.1, .slice none 0 0] 81 (0, 0)), (b_1, .cells #[.int .i64 0, .slice none 0 0, .slice none 0 0] 81 (0, 0))] [ob s.2.2.1, [pb0]]) (fun m s => m_s_l11Match_l1 N p0 x1 m s.2.1 s.2.2.2.1 s.2.2.2.2.1 s.2.2.2.2.2 = some r ∧ (OSl (RI .i64) 3 1 s.1 [] s.2.2.1 s.2.1) ∧ (s.1 pb0 = some (.cells #[pv0_0, .int .i64 s.2.2.2.2.1, .int .i64 s.2.2.2.2.2] 253 (0, 0))) ∧ (RSl (RI .u8) 1 s.1 pG0_0 pv0_0 p0.b)) (fun s hm => none_ne (show (none : Option (TMatch × Tl1Cur)) = some r from hm.1)) (fun n1 ih1 s hm => ?_) N (Φ_2, ([] : List Int), (.slice none 0 0), x2.1, x2.2.i, x2.2.h) ⟨h, k1, h2, ph0_0⟩
 obtain ⟨Φ_3, s1, u1, s2, s3, s4⟩ := s
 obtain ⟨h, k2, k3, ph0_0⟩ := hm
 replace h : m_s_l11Match_l1 N p0 x1 (n1 + 1) s1 s2 s3 s4 = some r := h
 replace k2 : OSl (RI .i64) 3 1 Φ_3 [] u1 s1 := k2
 replace k3 : Φ_3 pb0 = some (.cells #[pv0_0, .int .i64 s3, .int .i64 s4] 253 (0, 0)) := k3
 replace ph0_0 : RSl (RI .u8) 1 Φ_3 pG0_0 pv0_0 p0.b := ph0_0
 show WT _ _ [(0, .pointer (some ⟨pb0, 0, none⟩)), (2, .pointer (some ⟨b_1, 0, none⟩)), (3, .pointer (some ⟨b_2, 0, none⟩)), (4, .int .i64 s2)] (St w0 Φ_3 [(b_2, .cells #[.int .i64 x1.1, u1, .slice none 0 0] 81 (0, 0)), (b_1, .cells #[.int .i64 0, .slice none 0 0, .slice none 0 0] 81 (0, 0))] [ob u1, [pb0]])
 unfold m_s_l11Match_l1 at h
 refine WT.seq <| WT.seq <| WT.region <| lq (q_move rfl) rfl <| lq (q_gtr rfl rfl) rfl <| WL.nil ?_
 refine WT.cond rfl (fun c1 => ?_) (fun c1 => ?_)
 ·replace h := ite_t h c1
  refine WT.skip <| WT.seq <| WT.block <| WT.mix (Kn Φ_3 [] [(b_2, .cells #[.int .i64 x1.1, u1, .slice none 0 0] 81 (0, 0)), (b_1, .cells #[.int .i64 0, .slice none 0 0, .slice none 0 0] 81 (0, 0))]) (fun i => match i with | 8 => false | _ => true) mixed (fun _ h => h.drew) <| mq 0 rfl (by kernel_rfl) (fun w1 hw => Kn.of (fun k hk _ _ => by simp at hk) (AllIn.mem ⟨List.mem_of_getElem? (i := 0) rfl, List.mem_of_getElem? (i := 1) rfl, trivial⟩) hw) (q_fieldAddr Fld_81_1 rfl) rfl ?_
  refine mq 1 rfl (by kernel_rfl) (fun w1 hw => Kn.of (fun k hk _ _ => by simp at hk) (AllIn.mem ⟨List.mem_of_getElem? (i := 0) rfl, List.mem_of_getElem? (i := 1) rfl, trivial⟩) hw) (q_load1 T1_78 rfl (fun w1 hw => hw.rgO (i := 0) rfl 1 1 [u1] rfl)) rfl <| mq 2 rfl (by kernel_rfl) (fun w1 hw => Kn.of (fun k hk _ _ => by simp at hk) (AllIn.mem ⟨List.mem_of_getElem? (i := 0) rfl, List.mem_of_getElem? (i := 1) rfl, trivial⟩) hw) (q_move rfl) rfl ?_
  obtain ⟨x3, hx3, h⟩ := bind_some h
  refine WM.one 3 (by kernel_rfl) (mc rfl (fun _ v Φx D w1 hq hw => Kn.of (fun k hk _ _ => by simp at hk) (AllIn.mem ⟨List.mem_of_getElem? (i := 0) rfl, List.mem_of_getElem? (i := 1) rfl, trivial⟩) hw) (k_call (js := [1]) (R := [ob u1]) Fun_186 rfl rfl (fun w1 hw ap hl => m_s_l1Below_ok hw.fro N (⟨p0.b, s3, s4⟩ : Tl1Cur) 3 ph0_0 k3 (ap.o pa0_0) ap.nd hl hx3)) rfl (fun v3 Φ_4 F3 q3 => ?_))
  obtain ⟨ap3, fr3, rfl, rfl, e3, h3⟩ := q3
  replace ph0_0 := ph0_0.frame RI.lasts fr3 (ap3.o pa0_0)
  replace k2 := k2.frame RI.lasts fr3 (ap3.r (i := 0) rfl) (Dj.nil _)
  refine mq 4 rfl (by kernel_rfl) (fun w1 hw => Kn.of (fun k hk _ _ => by simp at hk) (AllIn.mem ⟨List.mem_of_getElem? (i := 0) rfl, List.mem_of_getElem? (i := 1) rfl, trivial⟩) hw) (q_add rfl rfl) rfl ?_
  have rc1 : RC (RI .i64) 1 Φ_4 ([[]] : List (List Nat)) [.int .i64 (IntKind.i64.wrap (1 + x3.1))] ([IntKind.i64.wrap (1 + x3.1)] : List Int) := RC.cons (c := [.int .i64 (IntKind.i64.wrap (1 + x3.1))]) (cells := []) ⟨rfl, rfl⟩ rfl (RC.nil _ _ _)
  refine WM.one 5 (by kernel_rfl) (me rfl (fun _ v Φx D w1 hq hw => Kn.of (fun k hk _ _ => by simp at hk) (AllIn.mem ⟨List.mem_of_getElem? (i := 0) rfl, List.mem_of_getElem? (i := 1) rfl, trivial⟩) hw) (e_lit (vs := [(0, .int .i64 (IntKind.i64.wrap (1 + x3.1)))]) (C := #[.int .i64 (IntKind.i64.wrap (1 + x3.1))]) RI.lasts Sl_78 Zr_3 rfl rfl rfl rfl (fill_made MC_3_1 (fill_cons (cells := [.int .i64 0]) (c := [.int .i64 (IntKind.i64.wrap (1 + x3.1))]) (C' := [.int .i64 (IntKind.i64.wrap (1 + x3.1))]) rfl rfl rfl rfl rfl (fill_nil))) rfl rc1 rfl (by simpa using Kw.nil)) rfl (fun v4 Φ_5 D1 q4 => ?_))
  obtain ⟨fr4, h4⟩ := q4
  replace h4 : OSl (RI .i64) 3 1 Φ_5 [] v4 ([IntKind.i64.wrap (1 + x3.1)] : List Int) := by simpa using h4
  replace ph0_0 := ph0_0.frame RI.lasts fr4 (Dj.empty _)
  replace k2 := k2.frame RI.lasts fr4 (Dj.empty _) (Dj.empty _)
  replace h3 := fr4 _ _ (by simp) h3
  obtain ⟨x4, hx4, h⟩ := bind_some h
  refine WM.one 6 (by kernel_rfl) (me rfl (fun _ v Φx D w1 hq hw => Kn.of (fun k hk _ _ => by simp at hk) (AllIn.mem ⟨List.mem_of_getElem? (i := 0) rfl, List.mem_of_getElem? (i := 1) rfl, trivial⟩) hw) (e_appF RI.lasts RI.one RI.flat Sl_78 Ei_3 rfl rfl rfl rfl rfl (js := [2]) (Rr := [ob v4, [pb0]]) rfl k2 h4.rsl hx4) rfl (fun v5 Φ_6 D2 q5 => ?_))
  obtain ⟨⟨ap4, fr5⟩, h5⟩ := q5
  replace ph0_0 := ph0_0.frame RI.lasts fr5 (ap4.o pa0_0)
  replace h3 := fr5 _ _ ((ap4.r (i := 1) rfl) _ (by simp)) h3
  refine mq 7 rfl (by kernel_rfl) (fun w1 hw => Kn.of (fun k hk _ _ => by simp at hk) (AllIn.mem ⟨List.mem_of_getElem? (i := 0) rfl, List.mem_of_getElem? (i := 1) rfl, trivial⟩) hw) (q_fieldAddr Fld_81_1 rfl) rfl ?_
  refine WM.one 8 (by kernel_rfl) (ms rfl (fun hc => by cases hc) (s_store (i := 0) (vs := [v5]) (C' := [.int .i64 x1.1, v5, .slice none 0 0]) (O' := [(b_2, .cells #[.int .i64 x1.1, v5, .slice none 0 0] 81 (0, 0)), (b_1, .cells #[.int .i64 0, .slice none 0 0, .slice none 0 0] 81 (0, 0))]) Sz_78 rfl rfl rfl (one_cells h5.one) rfl rfl ⟨h5.one, trivial⟩ rfl rfl) rfl ?_)
  refine WM.nil (by kernel_rfl) <| WT.inBlock <| WT.region <| lq (q_move rfl) rfl <| lq (q_sub rfl rfl) rfl <| lq (q_assign rfl) rfl <| WL.nil ?_
  refine WT.inLoop (WT.mono (l' := [(0, .pointer (some ⟨pb0, 0, none⟩)), (2, .pointer (some ⟨b_1, 0, none⟩)), (3, .pointer (some ⟨b_2, 0, none⟩)), (4, .int .i64 (IntKind.i64.wrap (s2 - 1)))]) (S' := St w0 Φ_6 [(b_2, .cells #[.int .i64 x1.1, v5, .slice none 0 0] 81 (0, 0)), (b_1, .cells #[.int .i64 0, .slice none 0 0, .slice none 0 0] 81 (0, 0))] [ob v5, [pb0]]) ⟨rfl, rfl, rfl, rfl, trivial⟩ (fun w1 hw => (hw.sel (js := [0, 1]) rfl).selO (js := [0, 0]) rfl) ?_)
  exact ih1 (Φ_6, x4, v5, IntKind.i64.wrap (s2 - 1), x3.2.i, x3.2.h) ⟨h, h5, h3, ph0_0⟩
 replace h := ite_f h c1
 refine WT.exit rfl <| WT.seq <| WT.region <| lq (q_loadN Tn_81 rfl (fun w1 hw => hw.rgO (i := 0) rfl 0 3 [.int .i64 x1.1, u1, .slice none 0 0] rfl) rfl) rfl <| ls (s_store (i := 1) (vs := [.int .i64 x1.1, u1, .slice none 0 0]) (C' := [.int .i64 x1.1, u1, .slice none 0 0]) (O' := [(b_2, .cells #[.int .i64 x1.1, u1, .slice none 0 0] 81 (0, 0)), (b_1, .cells #[.int .i64 x1.1, u1, .slice none 0 0] 81 (0, 0))]) Sz_81 rfl rfl rfl rfl rfl rfl ⟨rfl, k2.one, rfl, trivial⟩ rfl rfl) rfl ?_
 refine WL.nil ?_
 refine WT.ret Try.func192 (resOk.one (rv_cell Tn_81 rfl (fun w1 hw => hw.rgO (i := 1) rfl 0 3 [.int .i64 x1.1, u1, .slice none 0 0] rfl) rfl)) (fun w1 hw => ?_)
 subst hb0
 cases h
 replace hw := hw.addNil
 refine postG_of_St (js := [1, 0, 0]) hw rfl ⟨u1, .slice none 0 0, rfl, rfl, k2, OSl.nil _ _ _ _, rfl, k3⟩
theorem m_s_l15List_ok {Φ : Hp} {w : World} (hΦ : In Φ w) (N : Nat) (p0 : Tl1Cur) {pv0_0 : Value} {pG0_0 : List Nat} {pb0 : Nat} (ph0_0 : RSl (RI .u8) 1 Φ pG0_0 pv0_0 p0.b) (pp0 : Φ pb0 = some (.cells #[pv0_0, .int .i64 p0.i, .int .i64 p0.h] 253 (0, 0))) (pd0_0 : Dj pG0_0 [[pb0]].flatten) (hB : [[pb0]].flatten.Nodup) (hlt : ∀ k ∈ [[pb0]].flatten, k < w.heap.size) {r : (List TMatch) × Tl1Cur} (h : m_s_l15List N p0 = some r) :
  Calls Try.prog 110 [.pointer (some ⟨pb0, 0, none⟩)].toArray w (PostG Φ w [[pb0]].flatten (fun Φ' Fs v => ∃ (sr_0_0 : Value) (Dr_0_0 : List Nat), v = sr_0_0 ∧ Fs = [ob sr_0_0, Dr_0_0, [pb0]] ∧ OSl OTMatch 81 3 Φ' Dr_0_0 sr_0_0 r.1 ∧ r.2.b = p0.b ∧ Φ' pb0 = some (.cells #[pv0_0, .int .i64 r.2.i, .int .i64 r.2.h] 253 (0, 0)))) := by
 refine enter Try.func110 rfl Try.ntmps110 rfl (St.start hΦ [[pb0]] hB hlt) ?_
 have pa0_0 : Old ⟨w, [[pb0]].flatten, Φ⟩ pG0_0 := Old.mk hΦ ph0_0.kn pd0_0
 revert pa0_0
 generalize hb0 : (⟨w, [[pb0]].flatten, Φ⟩ : Base) = w0
 intro pa0_0
 unfold m_s_l15List at h
 refine WT.seq <| WT.region <| lq (q_assign rfl) rfl <| WL.nil <| WT.seq <| WT.region ?_
 have rc1 : RC OTMatch 3 Φ ([] : List (List Nat)) [] ([] : List TMatch) := RC.nil _ _ _
 refine le' (e_lit (vs := []) (C := #[]) OTMatch.lasts Sl_75 Zr_81 rfl rfl rfl rfl (fill_made MC_81_0 (fill_nil)) rfl rc1 rfl (by simpa using Kw.nil)) rfl (fun v1 Φ_1 D1 q1 => ?_)
 obtain ⟨fr1, h1⟩ := q1
 replace h1 : OSl OTMatch 81 3 Φ_1 [] v1 ([] : List TMatch) := by simpa [List.append_assoc] using h1
 replace ph0_0 := ph0_0.frame RI.lasts fr1 (Dj.empty _)
 replace pp0 := fr1 _ _ (by simp) pp0
 refine WL.conv (S' := St w0 Φ_1 [] [[], ob v1, [pb0]]) (fun w1 hw => hw.addNil) <| lq (q_assign rfl) rfl <| WL.nil <| WT.seq <| WT.seq <| WT.region <| lq (q_move rfl) rfl ?_
 obtain ⟨x1, hx1, h⟩ := bind_some h
 refine lc (k_call (js := [2]) (R := [[], ob v1]) Fun_186 rfl rfl (fun w1 hw ap hl => m_s_l1Below_ok hw.fro N p0 5 ph0_0 pp0 (ap.o pa0_0) ap.nd hl hx1)) rfl (fun v2 Φ_2 F1 q2 => ?_)
 obtain ⟨ap1, fr2, rfl, rfl, e1, h2⟩ := q2
 replace ph0_0 := ph0_0.frame RI.lasts fr2 (ap1.o pa0_0)
 replace h1 := h1.frame OTMatch.lasts fr2 (ap1.r (i := 1) rfl) (Dj.nil _)
 refine lq (q_assign rfl) rfl <| WL.nil <| WT.block <| WT.loop <| WT.mono (l' := [(0, .pointer (some ⟨pb0, 0, none⟩)), (3, v1), (4, .int .i64 x1.1)]) (S' := St w0 Φ_2 [] [[pb0], [], ob v1]) ⟨rfl, rfl, rfl, trivial⟩ (fun w1 hw => (hw.sel (js := [0, 0, 0]) rfl).selO (js := []) rfl) ?_
 refine loop_ind (σ := Hp × (List TMatch) × Value × List Nat × Int × Int × Int) (fun s => [(0, .pointer (some ⟨pb0, 0, none⟩)), (3, s.2.2.1), (4, .int .i64 s.2.2.2.2.1)]) (fun s => St w0 s.1 [] [[pb0], s.2.2.2.1, ob s.2.2.1]) (fun m s => m_s_l15List_l1 N p0 m s.2.1 s.2.2.2.2.1 s.2.2.2.2.2.1 s.2.2.2.2.2.2 = some r ∧ (OSl OTMatch 81 3 s.1 s.2.2.2.1 s.2.2.1 s.2.1) ∧ (s.1 pb0 = some (.cells #[pv0_0, .int .i64 s.2.2.2.2.2.1, .int .i64 s.2.2.2.2.2.2] 253 (0, 0))) ∧ (RSl (RI .u8) 1 s.1 pG0_0 pv0_0 p0.b)) (fun s hm => none_ne (show (none : Option ((List TMatch) × Tl1Cur)) = some r from hm.1)) (fun n1 ih1 s hm => ?_) N (Φ_2, ([] : List TMatch), v1, [], x1.1, x1.2.i, x1.2.h) ⟨h, h1, h2, ph0_0⟩
 obtain ⟨Φ_3, s1, u1, D2, s2, s3, s4⟩ := s
 obtain ⟨h, k1, k2, ph0_0⟩ := hm
 replace h : m_s_l15List_l1 N p0 (n1 + 1) s1 s2 s3 s4 = some r := h
 replace k1 : OSl OTMatch 81 3 Φ_3 D2 u1 s1 := k1
 replace k2 : Φ_3 pb0 = some (.cells #[pv0_0, .int .i64 s3, .int .i64 s4] 253 (0, 0)) := k2
 replace ph0_0 : RSl (RI .u8) 1 Φ_3 pG0_0 pv0_0 p0.b := ph0_0
 show WT _ _ [(0, .pointer (some ⟨pb0, 0, none⟩)), (3, u1), (4, .int .i64 s2)] (St w0 Φ_3 [] [[pb0], D2, ob u1])
 unfold m_s_l15List_l1 at h
 refine WT.seq <| WT.seq <| WT.region <| lq (q_move rfl) rfl <| lq (q_gtr rfl rfl) rfl <| WL.nil ?_
 refine WT.cond rfl (fun c1 => ?_) (fun c1 => ?_)
 ·replace h := ite_t h c1
  refine WT.skip <| WT.seq <| WT.block <| WT.region <| lq (q_move rfl) rfl <| lq (q_move rfl) rfl ?_
  obtain ⟨x2, hx2, h⟩ := bind_some h
  refine lc (k_call (js := [0]) (R := [D2, ob u1]) Fun_192 rfl rfl (fun w1 hw ap hl => m_s_l11Match_ok hw.fro N (⟨p0.b, s3, s4⟩ : Tl1Cur) ph0_0 k2 (ap.o pa0_0) ap.nd hl hx2)) rfl (fun v3 Φ_4 F2 q3 => ?_)
  obtain ⟨ap2, fr3, v4, v5, rfl, rfl, h3, h4, e2, h5⟩ := q3
  replace ph0_0 := ph0_0.frame RI.lasts fr3 (ap2.o pa0_0)
  replace k1 := k1.frame OTMatch.lasts fr3 (ap2.r (i := 1) rfl) (ap2.r (i := 0) rfl)
  have rc2 : RC OTMatch 3 Φ_4 ([(ob v4 ++ []) ++ ((ob v5 ++ []))] : List (List Nat)) [.int .i64 x2.1.Rule, v4, v5] ([x2.1] : List TMatch) := RC.cons (c := [.int .i64 x2.1.Rule, v4, v5]) (cells := []) ⟨v4, v5, rfl, rfl, h3, h4⟩ rfl (RC.nil _ _ _)
  refine le' (e_lit (vs := [(0, .agg [.int .i64 x2.1.Rule, v4, v5].toArray)]) (C := #[.int .i64 x2.1.Rule, v4, v5]) OTMatch.lasts Sl_75 Zr_81 rfl rfl rfl rfl (fill_made MC_81_1 (fill_cons (cells := [.int .i64 0, .slice none 0 0, .slice none 0 0]) (c := [.int .i64 x2.1.Rule, v4, v5]) (C' := [.int .i64 x2.1.Rule, v4, v5]) rfl rfl rfl rfl rfl (fill_nil))) rfl rc2 rfl (RC.kn OTMatch.knows rc2)) rfl (fun v6 Φ_5 D3 q4 => ?_)
  obtain ⟨fr4, h6⟩ := q4
  replace h6 : OSl OTMatch 81 3 Φ_5 ((ob v4 ++ []) ++ ((ob v5 ++ []))) v6 ([x2.1] : List TMatch) := by simpa [List.append_assoc] using h6
  replace ph0_0 := ph0_0.frame RI.lasts fr4 (Dj.empty _)
  replace k1 := k1.frame OTMatch.lasts fr4 (Dj.empty _) (Dj.empty _)
  replace h5 := fr4 _ _ (by simp) h5
  refine WL.conv (S' := St w0 Φ_5 [] [((ob v4 ++ []) ++ ((ob v5 ++ []))), ob v6, [pb0], D2, ob u1]) (fun w1 hw => hw.merge (js := [1, 1]) rfl (SP.eq (by simp [List.append_assoc, ob_nil]))) ?_
  obtain ⟨x3, hx3, h⟩ := bind_some h
  refine le' (e_appO OTMatch.lasts OTMatch.one Sl_75 Ei_81 rfl rfl rfl rfl rfl (js := [4]) (Rr := [((ob v4 ++ []) ++ ((ob v5 ++ []))), ob v6, [pb0], D2]) rfl k1 h6 (fun ap => (ap.r (i := 3) rfl)) (fun ap => (ap.r (i := 0) rfl)) hx3) rfl (fun v7 Φ_6 D4 q5 => ?_)
  obtain ⟨⟨ap3, fr5⟩, h7⟩ := q5
  replace ph0_0 := ph0_0.frame RI.lasts fr5 (ap3.o pa0_0)
  replace h5 := fr5 _ _ ((ap3.r (i := 2) rfl) _ (by simp)) h5
  refine WL.conv (S' := St w0 Φ_6 [] [(D2 ++ ((ob v4 ++ []) ++ ((ob v5 ++ [])))), ob v7, ob v6, [pb0]]) (fun w1 hw => hw.merge (js := [4, 1]) rfl (SP.eq (by simp))) <| lq (q_assign rfl) rfl <| WL.nil <| WT.inBlock <| WT.region <| lq (q_move rfl) rfl <| lq (q_sub rfl rfl) rfl <| lq (q_assign rfl) rfl <| WL.nil ?_
  refine WT.inLoop (WT.mono (l' := [(0, .pointer (some ⟨pb0, 0, none⟩)), (3, v7), (4, .int .i64 (IntKind.i64.wrap (s2 - 1)))]) (S' := St w0 Φ_6 [] [[pb0], (D2 ++ ((ob v4 ++ []) ++ ((ob v5 ++ [])))), ob v7]) ⟨rfl, rfl, rfl, trivial⟩ (fun w1 hw => (hw.sel (js := [3, 0, 0]) rfl).selO (js := []) rfl) ?_)
  exact ih1 (Φ_6, x3, v7, (D2 ++ ((ob v4 ++ []) ++ ((ob v5 ++ [])))), IntKind.i64.wrap (s2 - 1), x2.2.i, x2.2.h) ⟨h, h7, h5, ph0_0⟩
 replace h := ite_f h c1
 refine WT.exit rfl <| WT.seq <| WT.region <| lq (q_move rfl) rfl <| lq (q_assign rfl) rfl <| WL.nil ?_
 refine WT.ret Try.func110 (resOk.one rfl) (fun w1 hw => ?_)
 subst hb0
 cases h
 refine postG_of_St (js := [2, 1, 0]) hw rfl ⟨u1, D2, rfl, rfl, k1, rfl, k2⟩
theorem m_s_DrawPickMatch_ok {Φ : Hp} {w : World} (hΦ : In Φ w) (N : Nat) (p0 : (List Int)) {pv0 : Value} {pG0 : List Nat} (ph0 : RSl (RI .u8) 1 Φ pG0 pv0 p0) {r : TDef × (List TMatch) × (List TMatch)} (h : m_s_DrawPickMatch N p0 = some r) :
  Calls Try.prog 39 [pv0].toArray w (PostG Φ w [] (fun Φ' Fs v => ∃ (sr_0_0 : Value) (Dr_0_0 : List Nat) (sr_1_0 : Value) (Dr_1_0 : List Nat) (sr_2_0 : Value) (Dr_2_0 : List Nat) (X : List Nat), v = .tuple #[.agg [.string r.1.Name, sr_0_0].toArray, sr_1_0, sr_2_0] ∧ Fs = [ob sr_0_0, Dr_0_0, ob sr_1_0, ob sr_2_0, X] ∧ OSl OTRule 66 5 Φ' Dr_0_0 sr_0_0 r.1.Rules ∧ OSl RTMatch 81 3 Φ' Dr_1_0 sr_1_0 r.2.1 ∧ (∀ k ∈ Dr_1_0, k ∈ X) ∧ OSl RTMatch 81 3 Φ' Dr_2_0 sr_2_0 r.2.2 ∧ (∀ k ∈ Dr_2_0, k ∈ X))) := by
 refine enter Try.func39 rfl Try.ntmps39 rfl (St.start0 hΦ) ?_
 have pa0 : Old ⟨w, [], Φ⟩ pG0 := Old.mk hΦ ph0.kn (Dj.empty _)
 revert pa0
 generalize hb0 : (⟨w, [], Φ⟩ : Base) = w0
 intro pa0
 unfold m_s_DrawPickMatch at h
 refine WT.seq <| WT.region ?_
 refine ln (n_alloc (C := #[.string (⟨#[]⟩ : ByteArray), .slice none 0 0]) Zr_29 rfl) rfl (fun b_1 => ?_)
 refine lq (q_assign rfl) rfl <| lq (q_assign rfl) rfl <| WL.nil <| WT.seq <| WT.region <| lq (q_move rfl) rfl ?_
 obtain ⟨x1, hx1, h⟩ := bind_some h
 refine lc (k_call (js := []) (R := []) Fun_105 rfl rfl (fun w1 hw ap hl => m_s_l1New_ok hw.fro N p0 ph0  hx1)) rfl (fun v1 Φ_1 F1 q1 => ?_)
 obtain ⟨ap1, fr1, b_2, v2, G1, rfl, rfl, h1, i1, h2⟩ := q1
 refine lq (q_assign rfl) rfl <| WL.nil <| WT.seq <| WT.region <| lq (q_move rfl) rfl ?_
 obtain ⟨x2, hx2, h⟩ := bind_some h
 refine lc (k_call (js := [0]) (R := []) Fun_106 rfl rfl (fun w1 hw ap hl => m_s_l10Draw_ok hw.fro N x1 h1 h2 (Dj.sub (ap.o pa0) i1) ap.nd hl hx2)) rfl (fun v3 Φ_2 F2 q2 => ?_)
 obtain ⟨ap2, fr2, v4, D1, rfl, rfl, h3, e1, h4⟩ := q2
 replace h1 := h1.frame RI.lasts fr2 (Dj.sub (ap2.o pa0) i1)
 refine ln (n_alloc (C := #[.string (⟨#[]⟩ : ByteArray), .slice none 0 0]) Zr_29 rfl) rfl (fun b_3 => ?_)
 refine ls (s_store (i := 0) (vs := [.string x2.1.Name, v4]) (C' := [.string x2.1.Name, v4]) (O' := [(b_3, .cells #[.string x2.1.Name, v4] 29 (0, 0)), (b_1, .cells #[.string (⟨#[]⟩ : ByteArray), .slice none 0 0] 29 (0, 0))]) Sz_29 rfl rfl rfl rfl rfl rfl ⟨rfl, h3.one, trivial⟩ rfl rfl) rfl <| WL.nil <| WT.seq <| WT.mix (Kn Φ_2 [] [(b_3, .cells #[.string x2.1.Name, v4] 29 (0, 0)), (b_1, .cells #[.string (⟨#[]⟩ : ByteArray), .slice none 0 0] 29 (0, 0))]) (fun _ => true) mixed (fun _ h => h.drew) ?_
 refine mq 0 rfl (by kernel_rfl) (fun w1 hw => Kn.of (fun k hk _ _ => by simp at hk) (AllIn.mem ⟨List.mem_of_getElem? (i := 0) rfl, List.mem_of_getElem? (i := 1) rfl, trivial⟩) hw) (q_loadN Tn_29 rfl (fun w1 hw => hw.rgO (i := 0) rfl 0 2 [.string x2.1.Name, v4] rfl) rfl) rfl <| mq 1 rfl (by kernel_rfl) (fun w1 hw => Kn.of (fun k hk _ _ => by simp at hk) (AllIn.mem ⟨List.mem_of_getElem? (i := 0) rfl, List.mem_of_getElem? (i := 1) rfl, trivial⟩) hw) (q_move rfl) rfl ?_
 obtain ⟨x3, hx3, h⟩ := bind_some h
 refine WM.one 2 (by kernel_rfl) (mc rfl (fun _ v Φx D w1 hq hw => Kn.of (fun k hk _ _ => by simp at hk) (AllIn.mem ⟨List.mem_of_getElem? (i := 0) rfl, List.mem_of_getElem? (i := 1) rfl, trivial⟩) hw) (k_call (js := [2]) (R := [ob v4, D1]) Fun_108 rfl rfl (fun w1 hw ap hl => m_s_l4Draw_ok hw.fro N (⟨x1.b, x2.2.i, x2.2.h⟩ : Tl1Cur) h1 h4 (Dj.sub (ap.o pa0) i1) ap.nd hl hx3)) rfl (fun v5 Φ_3 F3 q3 => ?_))
 obtain ⟨ap3, fr3, v6, D2, X1, rfl, rfl, h5, i2, e2, h6⟩ := q3
 replace h1 := h1.frame RI.lasts fr3 (Dj.sub (ap3.o pa0) i1)
 replace h3 := h3.frame OTRule.lasts fr3 (ap3.r (i := 0) rfl) (ap3.r (i := 1) rfl)
 obtain ⟨x5, hx4, h⟩ := bind_some h
 refine WM.one 3 (by kernel_rfl) (mc rfl (fun _ v Φx D w1 hq hw => Kn.of (fun k hk _ _ => by simp at hk) (AllIn.mem ⟨List.mem_of_getElem? (i := 0) rfl, List.mem_of_getElem? (i := 1) rfl, trivial⟩) hw) (k_call (js := []) (R := [ob v6, [b_2], X1, ob v4, D1]) Fun_107 rfl rfl (fun w1 hw ap hl => m_s_l11All_ok hw.fro N x2.1 x3.1 (h3.rslG OTRule.gives) h5.rsl  hx4)) rfl (fun v7 Φ_4 F4 q4 => ?_))
 obtain ⟨ap4, fr4, v8, D3, X2, rfl, rfl, h7, i3⟩ := q4
 replace h1 := h1.frame RI.lasts fr4 (Dj.sub (ap4.o pa0) i1)
 replace h3 := h3.frame OTRule.lasts fr4 (ap4.r (i := 3) rfl) (ap4.r (i := 4) rfl)
 replace h6 := fr4 _ _ ((ap4.r (i := 1) rfl) _ (by simp)) h6
 refine mq 4 rfl (by kernel_rfl) (fun w1 hw => Kn.of (fun k hk _ _ => by simp at hk) (AllIn.mem ⟨List.mem_of_getElem? (i := 0) rfl, List.mem_of_getElem? (i := 1) rfl, trivial⟩) hw) (q_assign rfl) rfl <| WM.nil (by kernel_rfl) <| WT.seq <| WT.seq <| WT.region <| lq (q_move rfl) rfl <| lq (q_lenR Sl_75 rfl rfl h7.rsl) rfl <| lq (q_eql rfl rfl) rfl <| lq (q_move rfl) rfl ?_
 refine WL.cutS 3 (σ := Hp × Bool × Int × Int) (fun s => [(2, .pointer (some ⟨b_1, 0, none⟩)), (5, .pointer (some ⟨b_2, 0, none⟩)), (6, .pointer (some ⟨b_3, 0, none⟩)), (7, v7), (24, .bool s.2.1)]) (fun s => St w0 s.1 [(b_3, .cells #[.string x2.1.Name, v4] 29 (0, 0)), (b_1, .cells #[.string (⟨#[]⟩ : ByteArray), .slice none 0 0] 29 (0, 0))] [ob v7, X2, [b_2], ob v4, D1]) (fun s => m_s_DrawPickMatch_j1 N x1 x2 x5 s.2.1 s.2.2.1 s.2.2.2 = some r ∧ (OSl OTRule 66 5 s.1 D1 v4 x2.1.Rules) ∧ (OSl RTMatch 81 3 s.1 D3 v7 x5) ∧ (s.1 b_2 = some (.cells #[v2, .int .i64 s.2.2.1, .int .i64 s.2.2.2] 253 (0, 0))) ∧ (RSl (RI .u8) 1 s.1 G1 v2 x1.b)) (fun s hm => ?_) (fun K => ?_)
 ·clear h
  obtain ⟨Φ_5, s1, s2, s3⟩ := s
  obtain ⟨h, h3, h7, k1, h1⟩ := hm
  replace h : m_s_DrawPickMatch_j1 N x1 x2 x5 s1 s2 s3 = some r := h
  replace h3 : OSl OTRule 66 5 Φ_5 D1 v4 x2.1.Rules := h3
  replace h7 : OSl RTMatch 81 3 Φ_5 D3 v7 x5 := h7
  replace k1 : Φ_5 b_2 = some (.cells #[v2, .int .i64 s2, .int .i64 s3] 253 (0, 0)) := k1
  replace h1 : RSl (RI .u8) 1 Φ_5 G1 v2 x1.b := h1
  show WL _ _ _ _ [(2, .pointer (some ⟨b_1, 0, none⟩)), (5, .pointer (some ⟨b_2, 0, none⟩)), (6, .pointer (some ⟨b_3, 0, none⟩)), (7, v7), (24, .bool s1)] (St w0 Φ_5 [(b_3, .cells #[.string x2.1.Name, v4] 29 (0, 0)), (b_1, .cells #[.string (⟨#[]⟩ : ByteArray), .slice none 0 0] 29 (0, 0))] [ob v7, X2, [b_2], ob v4, D1])
  unfold m_s_DrawPickMatch_j1 at h
  refine WL.nil <| WT.conv (S' := St w0 Φ_5 [(b_3, .cells #[.string x2.1.Name, v4] 29 (0, 0)), (b_1, .cells #[.string (⟨#[]⟩ : ByteArray), .slice none 0 0] 29 (0, 0))] ([] :: [ob v7, X2, [b_2], ob v4, D1])) (fun w1 hw => hw.addNil) ?_
  refine cut (σ := Hp × List Nat × (List TMatch) × Value × List Nat × Int × Int) (fun s => [(2, .pointer (some ⟨b_1, 0, none⟩)), (5, .pointer (some ⟨b_2, 0, none⟩)), (6, .pointer (some ⟨b_3, 0, none⟩)), (7, s.2.2.2.1)]) (fun s => St w0 s.1 [(b_3, .cells #[.string x2.1.Name, v4] 29 (0, 0)), (b_1, .cells #[.string (⟨#[]⟩ : ByteArray), .slice none 0 0] 29 (0, 0))] [s.2.1, ob s.2.2.2.1, X2, [b_2], ob v4, D1]) (fun s => m_s_DrawPickMatch_j2 N x1 x2 s.2.2.1 s.2.2.2.2.2.1 s.2.2.2.2.2.2 = some r ∧ (OSl OTRule 66 5 s.1 D1 v4 x2.1.Rules) ∧ (OSl RTMatch 81 3 s.1 s.2.2.2.2.1 s.2.2.2.1 s.2.2.1) ∧ (∀ k ∈ s.2.2.2.2.1, k ∈ (X2 ++ s.2.1)) ∧ (s.1 b_2 = some (.cells #[v2, .int .i64 s.2.2.2.2.2.1, .int .i64 s.2.2.2.2.2.2] 253 (0, 0))) ∧ (RSl (RI .u8) 1 s.1 G1 v2 x1.b)) (fun s hm => ?_) (fun K => ?_)
  ·clear h
   obtain ⟨Φ_6, X3, s4, u1, D4, s5, s6⟩ := s
   obtain ⟨h, h3, k2, i4, k3, h1⟩ := hm
   replace h : m_s_DrawPickMatch_j2 N x1 x2 s4 s5 s6 = some r := h
   replace h3 : OSl OTRule 66 5 Φ_6 D1 v4 x2.1.Rules := h3
   replace k2 : OSl RTMatch 81 3 Φ_6 D4 u1 s4 := k2
   replace i4 : ∀ k ∈ D4, k ∈ (X2 ++ X3) := i4
   replace k3 : Φ_6 b_2 = some (.cells #[v2, .int .i64 s5, .int .i64 s6] 253 (0, 0)) := k3
   replace h1 : RSl (RI .u8) 1 Φ_6 G1 v2 x1.b := h1
   show WT _ _ [(2, .pointer (some ⟨b_1, 0, none⟩)), (5, .pointer (some ⟨b_2, 0, none⟩)), (6, .pointer (some ⟨b_3, 0, none⟩)), (7, u1)] (St w0 Φ_6 [(b_3, .cells #[.string x2.1.Name, v4] 29 (0, 0)), (b_1, .cells #[.string (⟨#[]⟩ : ByteArray), .slice none 0 0] 29 (0, 0))] [X3, ob u1, X2, [b_2], ob v4, D1])
   unfold m_s_DrawPickMatch_j2 at h
   refine WT.seq <| WT.region ?_
   have rc1 : RC OTMatch 3 Φ_6 ([] : List (List Nat)) [] ([] : List TMatch) := RC.nil _ _ _
   refine le' (e_lit (vs := []) (C := #[]) OTMatch.lasts Sl_75 Zr_81 rfl rfl rfl rfl (fill_made MC_81_0 (fill_nil)) rfl rc1 rfl (by simpa using Kw.nil)) rfl (fun v9 Φ_7 D5 q5 => ?_)
   obtain ⟨fr5, h8⟩ := q5
   replace h8 : OSl OTMatch 81 3 Φ_7 [] v9 ([] : List TMatch) := by simpa [List.append_assoc] using h8
   replace h1 := h1.frame RI.lasts fr5 (Dj.empty _)
   replace h3 := h3.frame OTRule.lasts fr5 (Dj.empty _) (Dj.empty _)
   replace k2 := k2.frame RTMatch.lasts fr5 (Dj.empty _) (Dj.empty _)
   replace k3 := fr5 _ _ (by simp) k3
   refine WL.conv (S' := St w0 Φ_7 [(b_3, .cells #[.string x2.1.Name, v4] 29 (0, 0)), (b_1, .cells #[.string (⟨#[]⟩ : ByteArray), .slice none 0 0] 29 (0, 0))] [[], ob v9, X3, ob u1, X2, [b_2], ob v4, D1]) (fun w1 hw => hw.addNil) <| lq (q_assign rfl) rfl <| WL.nil <| WT.seq <| WT.seq <| WT.region <| lq (q_assign rfl) rfl <| WL.nil <| WT.block <| WT.loop ?_
   replace h8 := h8.gives OTMatch.gives
   refine WT.mono (l' := [(2, .pointer (some ⟨b_1, 0, none⟩)), (5, .pointer (some ⟨b_2, 0, none⟩)), (6, .pointer (some ⟨b_3, 0, none⟩)), (7, u1), (8, v9), (9, .int .i64 0)]) (S' := St w0 Φ_7 [(b_3, .cells #[.string x2.1.Name, v4] 29 (0, 0)), (b_1, .cells #[.string (⟨#[]⟩ : ByteArray), .slice none 0 0] 29 (0, 0))] [ob v9, X3, ob u1, X2, [b_2], ob v4, D1]) ⟨rfl, rfl, rfl, rfl, rfl, rfl, trivial⟩ (fun w1 hw => (hw.sel (js := [1, 1, 1, 1, 1, 1, 1]) rfl).selO (js := [0, 0]) rfl) ?_
   refine loop_ind (σ := Hp × (List TMatch) × Value × List Nat × Int × Int × Int) (fun s => [(2, .pointer (some ⟨b_1, 0, none⟩)), (5, .pointer (some ⟨b_2, 0, none⟩)), (6, .pointer (some ⟨b_3, 0, none⟩)), (7, u1), (8, s.2.2.1), (9, .int .i64 s.2.2.2.2.1)]) (fun s => St w0 s.1 [(b_3, .cells #[.string x2.1.Name, v4] 29 (0, 0)), (b_1, .cells #[.string (⟨#[]⟩ : ByteArray), .slice none 0 0] 29 (0, 0))] [ob s.2.2.1, X3, ob u1, X2, [b_2], ob v4, D1]) (fun m s => m_s_DrawPickMatch_l3 N x1 x2 s4 m s.2.1 s.2.2.2.2.1 s.2.2.2.2.2.1 s.2.2.2.2.2.2 = some r ∧ (OSl OTRule 66 5 s.1 D1 v4 x2.1.Rules) ∧ (OSl RTMatch 81 3 s.1 D4 u1 s4) ∧ (OSl RTMatch 81 3 s.1 s.2.2.2.1 s.2.2.1 s.2.1) ∧ (∀ k ∈ s.2.2.2.1, k ∈ (X2 ++ X3)) ∧ (s.1 b_2 = some (.cells #[v2, .int .i64 s.2.2.2.2.2.1, .int .i64 s.2.2.2.2.2.2] 253 (0, 0))) ∧ (RSl (RI .u8) 1 s.1 G1 v2 x1.b)) (fun s hm => none_ne (show (none : Option (TDef × (List TMatch) × (List TMatch))) = some r from hm.1)) (fun n3 ih3 s hm => ?_) N (Φ_7, ([] : List TMatch), v9, [], 0, s5, s6) ⟨h, h3, k2, h8, (by simp), k3, h1⟩
   obtain ⟨Φ_8, s7, u2, D6, s8, s9, s10⟩ := s
   obtain ⟨h, h3, k2, k4, i5, k5, h1⟩ := hm
   replace h : m_s_DrawPickMatch_l3 N x1 x2 s4 (n3 + 1) s7 s8 s9 s10 = some r := h
   replace h3 : OSl OTRule 66 5 Φ_8 D1 v4 x2.1.Rules := h3
   replace k2 : OSl RTMatch 81 3 Φ_8 D4 u1 s4 := k2
   replace k4 : OSl RTMatch 81 3 Φ_8 D6 u2 s7 := k4
   replace i5 : ∀ k ∈ D6, k ∈ (X2 ++ X3) := i5
   replace k5 : Φ_8 b_2 = some (.cells #[v2, .int .i64 s9, .int .i64 s10] 253 (0, 0)) := k5
   replace h1 : RSl (RI .u8) 1 Φ_8 G1 v2 x1.b := h1
   show WT _ _ [(2, .pointer (some ⟨b_1, 0, none⟩)), (5, .pointer (some ⟨b_2, 0, none⟩)), (6, .pointer (some ⟨b_3, 0, none⟩)), (7, u1), (8, u2), (9, .int .i64 s8)] (St w0 Φ_8 [(b_3, .cells #[.string x2.1.Name, v4] 29 (0, 0)), (b_1, .cells #[.string (⟨#[]⟩ : ByteArray), .slice none 0 0] 29 (0, 0))] [ob u2, X3, ob u1, X2, [b_2], ob v4, D1])
   unfold m_s_DrawPickMatch_l3 at h
   refine WT.seq <| WT.seq <| WT.region <| lq (q_move rfl) rfl <| lq (q_move rfl) rfl <| lq (q_lenR Sl_75 rfl rfl k2.rsl) rfl <| lq (q_lss rfl rfl) rfl <| WL.nil ?_
   refine WT.cond rfl (fun c1 => ?_) (fun c1 => ?_)
   ·replace h := ite_t h c1
    refine WT.skip <| WT.seq <| WT.block <| WT.seq <| WT.region <| lq (q_move rfl) rfl ?_
    obtain ⟨x7, hx5, h⟩ := bind_some h
    refine lc (k_call (js := [4]) (R := [ob u2, X3, ob u1, X2, ob v4, D1]) Fun_109 rfl rfl (fun w1 hw ap hl => m_s_l1Once_ok hw.fro N (⟨x1.b, s9, s10⟩ : Tl1Cur) 3 h1 k5 (Dj.sub (ap.o pa0) i1) ap.nd hl hx5)) rfl (fun v10 Φ_9 F5 q6 => ?_)
    obtain ⟨ap5, fr6, rfl, rfl, e3, h9⟩ := q6
    replace h1 := h1.frame RI.lasts fr6 (Dj.sub (ap5.o pa0) i1)
    replace h3 := h3.frame OTRule.lasts fr6 (ap5.r (i := 4) rfl) (ap5.r (i := 5) rfl)
    replace k2 := k2.frame RTMatch.lasts fr6 (ap5.r (i := 2) rfl) (Dj.sub (Dj.app (ap5.r (i := 3) rfl) (ap5.r (i := 1) rfl)) i4)
    replace k4 := k4.frame RTMatch.lasts fr6 (ap5.r (i := 0) rfl) (Dj.sub (Dj.app (ap5.r (i := 3) rfl) (ap5.r (i := 1) rfl)) i5)
    refine WL.nil ?_
    refine WT.cond rfl (fun c2 => ?_) (fun c2 => ?_)
    ·replace h := ite_t h c2
     refine WT.region <| lq (q_move rfl) rfl <| lq (q_move rfl) rfl <| lq (q_move rfl) rfl ?_
     obtain ⟨x8, hx6, h⟩ := bind_some h
     obtain ⟨cs1, F6, -, g1, hb1, hs1, r1⟩ := k2.elS (idx_some hx6).2.2
     obtain ⟨v11, G2, v12, G3, rfl, rfl, h10, h11⟩ := r1
     refine lq (q_indexAddr Sl_75 rfl rfl k2.rsl hx6) rfl <| lq (q_loadN Tn_81 rfl (fun w1 hw => (g1.of_eq 0 3 rfl rfl : rg _ _ _ [.int .i64 x8.Rule, v11, v12]).rangeAt hw.fro) rfl) rfl ?_
     have rc2 : RC RTMatch 3 Φ_9 ([G2 ++ (G3)] : List (List Nat)) [.int .i64 x8.Rule, v11, v12] ([x8] : List TMatch) := RC.cons (c := [.int .i64 x8.Rule, v11, v12]) (cells := []) ⟨v11, G2, v12, G3, rfl, rfl, h10, h11⟩ rfl (RC.nil _ _ _)
     refine le' (e_lit (vs := [(0, .agg [.int .i64 x8.Rule, v11, v12].toArray)]) (C := #[.int .i64 x8.Rule, v11, v12]) RTMatch.lasts Sl_75 Zr_81 rfl rfl rfl rfl (fill_made MC_81_1 (fill_cons (cells := [.int .i64 0, .slice none 0 0, .slice none 0 0]) (c := [.int .i64 x8.Rule, v11, v12]) (C' := [.int .i64 x8.Rule, v11, v12]) rfl rfl rfl rfl rfl (fill_nil))) rfl rc2 rfl (RC.kn RTMatch.knows rc2)) rfl (fun v13 Φ_10 D7 q7 => ?_)
     obtain ⟨fr7, h12⟩ := q7
     replace h12 : OSl RTMatch 81 3 Φ_10 (G2 ++ (G3)) v13 ([x8] : List TMatch) := by simpa [List.append_assoc] using h12
     replace h1 := h1.frame RI.lasts fr7 (Dj.empty _)
     replace h3 := h3.frame OTRule.lasts fr7 (Dj.empty _) (Dj.empty _)
     replace k2 := k2.frame RTMatch.lasts fr7 (Dj.empty _) (Dj.empty _)
     replace k4 := k4.frame RTMatch.lasts fr7 (Dj.empty _) (Dj.empty _)
     replace h9 := fr7 _ _ (by simp) h9
     obtain ⟨x9, hx7, h⟩ := bind_some h
     refine le' (e_appO RTMatch.lasts RTMatch.one Sl_75 Ei_81 rfl rfl rfl rfl rfl (js := [2]) (Rr := [ob v13, [b_2], X3, ob u1, X2, ob v4, D1]) rfl k4 h12 (fun ap => (Dj.sub (Dj.app (ap.r (i := 4) rfl) (ap.r (i := 2) rfl)) i5)) (fun ap => (Dj.sub (Dj.app (Dj.sub (Dj.app (ap.r (i := 4) rfl) (ap.r (i := 2) rfl)) (fun k h => i4 k (hs1 k (List.mem_append.2 (.inl h))))) (Dj.sub (Dj.app (ap.r (i := 4) rfl) (ap.r (i := 2) rfl)) (fun k h => i4 k (hs1 k (List.mem_append.2 (.inr h)))))) (fun k hk => (by simpa [List.append_assoc] using hk : k ∈ (G2 ++ G3))))) hx7) rfl (fun v14 Φ_11 D8 q8 => ?_)
     obtain ⟨⟨ap6, fr8⟩, h13⟩ := q8
     replace h1 := h1.frame RI.lasts fr8 (Dj.sub (ap6.o pa0) i1)
     replace h3 := h3.frame OTRule.lasts fr8 (ap6.r (i := 5) rfl) (ap6.r (i := 6) rfl)
     replace k2 := k2.frame RTMatch.lasts fr8 (ap6.r (i := 3) rfl) (Dj.sub (Dj.app (ap6.r (i := 4) rfl) (ap6.r (i := 2) rfl)) i4)
     replace h9 := fr8 _ _ ((ap6.r (i := 1) rfl) _ (by simp)) h9
     refine lq (q_assign rfl) rfl <| WL.nil <| WT.inBlock <| WT.region <| lq (q_move rfl) rfl <| lq (q_add rfl rfl) rfl <| lq (q_assign rfl) rfl <| WL.nil ?_
     refine WT.inLoop (WT.mono (l' := [(2, .pointer (some ⟨b_1, 0, none⟩)), (5, .pointer (some ⟨b_2, 0, none⟩)), (6, .pointer (some ⟨b_3, 0, none⟩)), (7, u1), (8, v14), (9, .int .i64 (IntKind.i64.wrap (s8 + 1)))]) (S' := St w0 Φ_11 [(b_3, .cells #[.string x2.1.Name, v4] 29 (0, 0)), (b_1, .cells #[.string (⟨#[]⟩ : ByteArray), .slice none 0 0] 29 (0, 0))] [ob v14, X3, ob u1, X2, [b_2], ob v4, D1]) ⟨rfl, rfl, rfl, rfl, rfl, rfl, trivial⟩ (fun w1 hw => (hw.sel (js := [0, 2, 2, 2, 1, 1, 1]) rfl).selO (js := [0, 0]) rfl) ?_)
     exact ih3 (Φ_11, x9, v14, (D6 ++ (G2 ++ (G3))), IntKind.i64.wrap (s8 + 1), x7.2.i, x7.2.h) ⟨h, h3, k2, h13, (fun k hk => ((List.mem_append.1 hk).elim (fun h => ((List.mem_append.1 (i5 k h)).elim (fun h => (List.mem_append.2 (.inl h))) (fun h => (List.mem_append.2 (.inr h))))) (fun h => ((List.mem_append.1 ((fun k hk => (by simpa [List.append_assoc] using hk : k ∈ (G2 ++ G3))) k h)).elim (fun h => ((List.mem_append.1 ((fun k h => i4 k (hs1 k (List.mem_append.2 (.inl h)))) k h)).elim (fun h => (List.mem_append.2 (.inl h))) (fun h => (List.mem_append.2 (.inr h))))) (fun h => ((List.mem_append.1 ((fun k h => i4 k (hs1 k (List.mem_append.2 (.inr h)))) k h)).elim (fun h => (List.mem_append.2 (.inl h))) (fun h => (List.mem_append.2 (.inr h))))))))), h9, h1⟩
    replace h := ite_f h c2
    refine WT.skip <| WT.inBlock <| WT.region <| lq (q_move rfl) rfl <| lq (q_add rfl rfl) rfl <| lq (q_assign rfl) rfl <| WL.nil ?_
    refine WT.inLoop (WT.mono (l' := [(2, .pointer (some ⟨b_1, 0, none⟩)), (5, .pointer (some ⟨b_2, 0, none⟩)), (6, .pointer (some ⟨b_3, 0, none⟩)), (7, u1), (8, u2), (9, .int .i64 (IntKind.i64.wrap (s8 + 1)))]) (S' := St w0 Φ_9 [(b_3, .cells #[.string x2.1.Name, v4] 29 (0, 0)), (b_1, .cells #[.string (⟨#[]⟩ : ByteArray), .slice none 0 0] 29 (0, 0))] [ob u2, X3, ob u1, X2, [b_2], ob v4, D1]) ⟨rfl, rfl, rfl, rfl, rfl, rfl, trivial⟩ (fun w1 hw => (hw.sel (js := [1, 1, 1, 1, 0, 0, 0]) rfl).selO (js := [0, 0]) rfl) ?_)
    exact ih3 (Φ_9, s7, u2, D6, IntKind.i64.wrap (s8 + 1), x7.2.i, x7.2.h) ⟨h, h3, k2, k4, (fun k hk => ((List.mem_append.1 (i5 k hk)).elim (fun h => (List.mem_append.2 (.inl h))) (fun h => (List.mem_append.2 (.inr h))))), h9, h1⟩
   replace h := ite_f h c1
   refine WT.exit rfl <| WT.seq <| WT.region <| lq (q_loadN Tn_29 rfl (fun w1 hw => hw.rgO (i := 0) rfl 0 2 [.string x2.1.Name, v4] rfl) rfl) rfl <| lq (q_move rfl) rfl <| lq (q_move rfl) rfl <| ls (s_store (i := 1) (vs := [.string x2.1.Name, v4]) (C' := [.string x2.1.Name, v4]) (O' := [(b_3, .cells #[.string x2.1.Name, v4] 29 (0, 0)), (b_1, .cells #[.string x2.1.Name, v4] 29 (0, 0))]) Sz_29 rfl rfl rfl rfl rfl rfl ⟨rfl, h3.one, trivial⟩ rfl rfl) rfl ?_
   refine lq (q_assign rfl) rfl <| lq (q_assign rfl) rfl <| WL.nil ?_
   refine WT.ret Try.func39 (resOk.three (rv_cell Tn_29 rfl (fun w1 hw => hw.rgO (i := 1) rfl 0 2 [.string x2.1.Name, v4] rfl) rfl) rfl rfl) (fun w1 hw => ?_)
   subst hb0
   cases h
   replace hw := hw.merge (js := [3, 1]) (F := [X2, X3].flatten) rfl (SP.eq (by simp))
   refine postG_of_St (js := [4, 4, 2, 1, 0]) hw rfl ⟨v4, D1, u1, D4, u2, D6, [X2, X3].flatten, rfl, rfl, h3, k2, (fun k hk => ((List.mem_append.1 (i4 k hk)).elim (fun h => (List.mem_flatten.2 ⟨X2, by simp, h⟩)) (fun h => (List.mem_flatten.2 ⟨X3, by simp, h⟩)))), k4, (fun k hk => ((List.mem_append.1 (i5 k hk)).elim (fun h => (List.mem_flatten.2 ⟨X2, by simp, h⟩)) (fun h => (List.mem_flatten.2 ⟨X3, by simp, h⟩))))⟩
  refine WT.cond rfl (fun c3 => ?_) (fun c3 => ?_)
  ·replace h := ite_t h c3
   refine WT.region <| lq (q_move rfl) rfl ?_
   obtain ⟨x10, hx8, h⟩ := bind_some h
   refine lc (k_call (js := [3]) (R := [[], ob v7, X2, ob v4, D1]) Fun_110 rfl rfl (fun w1 hw ap hl => m_s_l15List_ok hw.fro N (⟨x1.b, s2, s3⟩ : Tl1Cur) h1 k1 (Dj.sub (ap.o pa0) i1) ap.nd hl hx8)) rfl (fun v15 Φ_12 F7 q9 => ?_)
   obtain ⟨ap7, fr9, v16, D9, rfl, rfl, h14, e4, h15⟩ := q9
   replace h1 := h1.frame RI.lasts fr9 (Dj.sub (ap7.o pa0) i1)
   replace h3 := h3.frame OTRule.lasts fr9 (ap7.r (i := 3) rfl) (ap7.r (i := 4) rfl)
   refine lq (q_assign rfl) rfl <| WL.nil ?_
   replace h14 := h14.gives OTMatch.gives
   refine WT.conv (S' := St w0 Φ_12 [(b_3, .cells #[.string x2.1.Name, v4] 29 (0, 0)), (b_1, .cells #[.string (⟨#[]⟩ : ByteArray), .slice none 0 0] 29 (0, 0))] [([] ++ (D9)), ob v15, [b_2], ob v7, X2, ob v4, D1]) (fun w1 hw => hw.merge (js := [3, 1]) rfl (SP.eq (by simp [List.append_assoc]))) <| WT.mono (l' := [(2, .pointer (some ⟨b_1, 0, none⟩)), (5, .pointer (some ⟨b_2, 0, none⟩)), (6, .pointer (some ⟨b_3, 0, none⟩)), (7, v15)]) (S' := St w0 Φ_12 [(b_3, .cells #[.string x2.1.Name, v4] 29 (0, 0)), (b_1, .cells #[.string (⟨#[]⟩ : ByteArray), .slice none 0 0] 29 (0, 0))] [([] ++ (D9)), ob v15, X2, [b_2], ob v4, D1]) ⟨rfl, rfl, rfl, rfl, trivial⟩ (fun w1 hw => (hw.sel (js := [0, 0, 2, 0, 1, 1]) rfl).selO (js := [0, 0]) rfl) ?_
   exact K (Φ_12, ([] ++ (D9)), x10.1, v15, D9, x10.2.i, x10.2.h) ⟨h, h3, h14, (fun k hk => (List.mem_append.2 (.inr ((fun k hk => (List.mem_append.2 (.inr hk))) k hk)))), h15, h1⟩
  replace h := ite_f h c3
  refine WT.skip <| WT.mono (l' := [(2, .pointer (some ⟨b_1, 0, none⟩)), (5, .pointer (some ⟨b_2, 0, none⟩)), (6, .pointer (some ⟨b_3, 0, none⟩)), (7, v7)]) (S' := St w0 Φ_5 [(b_3, .cells #[.string x2.1.Name, v4] 29 (0, 0)), (b_1, .cells #[.string (⟨#[]⟩ : ByteArray), .slice none 0 0] 29 (0, 0))] [[], ob v7, X2, [b_2], ob v4, D1]) ⟨rfl, rfl, rfl, rfl, trivial⟩ (fun w1 hw => (hw.sel (js := [0, 0, 0, 0, 0, 0]) rfl).selO (js := [0, 0]) rfl) ?_
  exact K (Φ_5, [], x5, v7, D3, s2, s3) ⟨h, h3, h7, (fun k hk => (List.mem_append.2 (.inl (i3 k hk)))), k1, h1⟩
 refine WL.split (d := 21) rfl (fun c4 => ?_) (fun c4 => ?_)
 ·replace h := ite_t h c4
  refine WL.no rfl rfl rfl rfl <| WL.no rfl rfl rfl rfl <| WL.q (q_pick1 rfl rfl) rfl rfl rfl <| WL.mono (l' := [(2, .pointer (some ⟨b_1, 0, none⟩)), (5, .pointer (some ⟨b_2, 0, none⟩)), (6, .pointer (some ⟨b_3, 0, none⟩)), (7, v7), (24, .bool true)]) (S' := St w0 Φ_4 [(b_3, .cells #[.string x2.1.Name, v4] 29 (0, 0)), (b_1, .cells #[.string (⟨#[]⟩ : ByteArray), .slice none 0 0] 29 (0, 0))] [ob v7, X2, [b_2], ob v4, D1]) (by exact ⟨rfl, rfl, rfl, rfl, rfl, trivial⟩) (fun w1 hw => (hw.sel (js := [0, 0, 1, 2, 2]) rfl).selO (js := [0, 0]) rfl) ?_
  exact K (Φ_4, true, x3.2.i, x3.2.h) ⟨h, h3, h7, h6, h1⟩
 replace h := ite_f h c4
 refine WL.yes rfl rfl <| lq (q_move rfl) rfl <| WL.yes rfl rfl ?_
 obtain ⟨x11, hx9, h⟩ := bind_some h
 refine lc (k_call (js := [3]) (R := [ob v7, X2, ob v6, X1, ob v4, D1]) Fun_109 rfl rfl (fun w1 hw ap hl => m_s_l1Once_ok hw.fro N (⟨x1.b, x3.2.i, x3.2.h⟩ : Tl1Cur) 3 h1 h6 (Dj.sub (ap.o pa0) i1) ap.nd hl hx9)) rfl (fun v17 Φ_13 F8 q10 => ?_)
 obtain ⟨ap8, fr10, rfl, rfl, e5, h16⟩ := q10
 replace h1 := h1.frame RI.lasts fr10 (Dj.sub (ap8.o pa0) i1)
 replace h3 := h3.frame OTRule.lasts fr10 (ap8.r (i := 4) rfl) (ap8.r (i := 5) rfl)
 replace h7 := h7.frame RTMatch.lasts fr10 (ap8.r (i := 0) rfl) (Dj.sub (ap8.r (i := 1) rfl) i3)
 refine WL.q (q_pick0 rfl rfl) rfl rfl rfl <| WL.mono (l' := [(2, .pointer (some ⟨b_1, 0, none⟩)), (5, .pointer (some ⟨b_2, 0, none⟩)), (6, .pointer (some ⟨b_3, 0, none⟩)), (7, v7), (24, .bool x11.1)]) (S' := St w0 Φ_13 [(b_3, .cells #[.string x2.1.Name, v4] 29 (0, 0)), (b_1, .cells #[.string (⟨#[]⟩ : ByteArray), .slice none 0 0] 29 (0, 0))] [ob v7, X2, [b_2], ob v4, D1]) (by exact ⟨rfl, rfl, rfl, rfl, rfl, trivial⟩) (fun w1 hw => (hw.sel (js := [1, 1, 0, 2, 2]) rfl).selO (js := [0, 0]) rfl) ?_
 exact K (Φ_13, x11.1, x11.2.i, x11.2.h) ⟨h, h3, h7, h16, h1⟩
theorem m_sl_IndexFunc_Si_Match_i_Match_ok {Φ : Hp} {w : World} (hΦ : In Φ w) (N : Nat) (p0 : (List TMatch)) (p1 : TMatch → Option (Bool)) {pv0 : Value} {pG0 : List Nat} {p1f : Nat} {p1fr : List Value} (ph0 : RSl RTMatch 3 Φ pG0 pv0 p0) (p1hF : Fun Try.prog p1f = true) (p1h : ∀ {Φ' : Hp} {w' : World}, FrH [] Φ Φ' → In Φ' w' → ∀ (p1a0 : TMatch) {p1v0_0 : Value} {p1G0_0 : List Nat} {p1v0_1 : Value} {p1G0_1 : List Nat} (_ : RSl (RI .i64) 1 Φ' p1G0_0 p1v0_0 p1a0.Ids) (_ : RSl RTBind 4 Φ' p1G0_1 p1v0_1 p1a0.Binds) {r : Bool}, p1 p1a0 = some r → Calls Try.prog p1f (([.agg [.int .i64 p1a0.Rule, p1v0_0, p1v0_1].toArray] : List Value) ++ p1fr).toArray w' (Post (.bool r) w')) {r : Int} (h : m_sl_IndexFunc_Si_Match_i_Match N p0 p1 = some r) :
  Calls Try.prog 196 [pv0, .func (.func p1f) #[] p1fr.toArray].toArray w (Post (.int .i64 r) w) := by
 refine enter Try.func196 rfl Try.ntmps196 rfl (St.start0 hΦ) ?_
 generalize hb0 : (⟨w, [], Φ⟩ : Base) = w0
 unfold m_sl_IndexFunc_Si_Match_i_Match at h
 refine WT.seq <| WT.region <| lq (q_assign rfl) rfl <| WL.nil <| WT.seq <| WT.seq <| WT.region <| lq (q_move rfl) rfl <| lq (q_lenR Sl_75 rfl rfl ph0) rfl <| lq (q_move rfl) rfl <| WL.nil <| WT.block <| WT.loop <| WT.mono (l' := [(0, pv0), (1, .func (.func p1f) #[] p1fr.toArray), (7, .int .i64 (p0.length : Int)), (8, .int .i64 0)]) (S' := St w0 Φ [] []) ⟨rfl, rfl, rfl, rfl, trivial⟩ (fun w1 hw => (hw.sel (js := []) rfl).selO (js := []) rfl) ?_
 refine loop_ind (σ := Int) (fun s => [(0, pv0), (1, .func (.func p1f) #[] p1fr.toArray), (7, .int .i64 (p0.length : Int)), (8, .int .i64 s)]) (fun s => St w0 Φ [] []) (fun m s => m_sl_IndexFunc_Si_Match_i_Match_l1 N p0 p1 m s = some r) (fun s hm => none_ne (show (none : Option (Int)) = some r from hm)) (fun n1 ih1 s hm => ?_) N (0) h
 revert hm; revert s; intro s1 hm
 have h : m_sl_IndexFunc_Si_Match_i_Match_l1 N p0 p1 (n1 + 1) s1 = some r := hm
 show WT _ _ [(0, pv0), (1, .func (.func p1f) #[] p1fr.toArray), (7, .int .i64 (p0.length : Int)), (8, .int .i64 s1)] (St w0 Φ [] [])
 unfold m_sl_IndexFunc_Si_Match_i_Match_l1 at h
 refine WT.seq <| WT.region <| lq (q_lss rfl rfl) rfl <| WL.nil <| WT.seq ?_
 refine WT.cond rfl (fun c1 => ?_) (fun c1 => ?_)
 ·replace h := ite_t h c1
  refine WT.skip <| WT.seq <| WT.block <| WT.seq <| WT.region <| lq (q_move rfl) rfl <| lq (q_assign rfl) rfl <| WL.nil <| WT.seq <| WT.region <| lq (q_move rfl) rfl <| lq (q_move rfl) rfl <| lq (q_move rfl) rfl ?_
  obtain ⟨x1, hx1, h⟩ := bind_some h
  obtain ⟨cs1, F1, -, g1, hb1, hs1, r1⟩ := ph0.el (idx_some hx1).2.2
  obtain ⟨v1, G1, v2, G2, rfl, rfl, h1, h2⟩ := r1
  refine lq (q_indexAddr Sl_75 rfl rfl ph0 hx1) rfl <| lq (q_loadN Tn_81 rfl (fun w1 hw => (g1.of_eq 0 3 rfl rfl : rg _ _ _ [.int .i64 x1.Rule, v1, v2]).rangeAt hw.fro) rfl) rfl ?_
  obtain ⟨x2, hx2, h⟩ := bind_some h
  refine lp (p_callV p1hF rfl rfl (fun w1 hw => p1h (by subst hb0; exact hw.frB hΦ) hw.fro x1 h1 h2 hx2)) rfl <| WL.nil ?_
  refine WT.cond rfl (fun c2 => ?_) (fun c2 => ?_)
  ·replace h := ite_t h c2
   refine WT.seq <| WT.region <| lq (q_move rfl) rfl <| lq (q_assign rfl) rfl <| WL.nil ?_
   refine WT.ret Try.func196 (resOk.one rfl) (fun w1 hw => ?_)
   subst hb0
   cases h
   exact post_of_St hw
  replace h := ite_f h c2
  refine WT.skip <| WT.inBlock <| WT.region <| lq (q_add rfl rfl) rfl <| lq (q_move rfl) rfl <| WL.nil ?_
  refine WT.inLoop (WT.mono (l' := [(0, pv0), (1, .func (.func p1f) #[] p1fr.toArray), (7, .int .i64 (p0.length : Int)), (8, .int .i64 (IntKind.i64.wrap (s1 + 1)))]) (S' := St w0 Φ [] []) ⟨rfl, rfl, rfl, rfl, trivial⟩ (fun w1 hw => (hw.sel (js := []) rfl).selO (js := []) rfl) ?_)
  exact ih1 (IntKind.i64.wrap (s1 + 1)) h
 replace h := ite_f h c1
 refine WT.exit rfl <| WT.seq <| WT.region <| lq (q_assign rfl) rfl <| WL.nil ?_
 refine WT.ret Try.func196 (resOk.one rfl) (fun w1 hw => ?_)
 subst hb0
 cases h
 exact post_of_St hw
theorem m_sl_ContainsFunc_Si_Match_i_Match_ok {Φ : Hp} {w : World} (hΦ : In Φ w) (N : Nat) (p0 : (List TMatch)) (p1 : TMatch → Option (Bool)) {pv0 : Value} {pG0 : List Nat} {p1f : Nat} {p1fr : List Value} (ph0 : RSl RTMatch 3 Φ pG0 pv0 p0) (p1hF : Fun Try.prog p1f = true) (p1h : ∀ {Φ' : Hp} {w' : World}, FrH [] Φ Φ' → In Φ' w' → ∀ (p1a0 : TMatch) {p1v0_0 : Value} {p1G0_0 : List Nat} {p1v0_1 : Value} {p1G0_1 : List Nat} (_ : RSl (RI .i64) 1 Φ' p1G0_0 p1v0_0 p1a0.Ids) (_ : RSl RTBind 4 Φ' p1G0_1 p1v0_1 p1a0.Binds) {r : Bool}, p1 p1a0 = some r → Calls Try.prog p1f (([.agg [.int .i64 p1a0.Rule, p1v0_0, p1v0_1].toArray] : List Value) ++ p1fr).toArray w' (Post (.bool r) w')) {r : Bool} (h : m_sl_ContainsFunc_Si_Match_i_Match N p0 p1 = some r) :
  Calls Try.prog 117 [pv0, .func (.func p1f) #[] p1fr.toArray].toArray w (Post (.bool r) w) := by
 refine enter Try.func117 rfl Try.ntmps117 rfl (St.start0 hΦ) ?_
 generalize hb0 : (⟨w, [], Φ⟩ : Base) = w0
 unfold m_sl_ContainsFunc_Si_Match_i_Match at h
 refine WT.seq <| WT.region <| lq (q_assign rfl) rfl <| WL.nil <| WT.seq <| WT.region <| lq (q_move rfl) rfl <| lq (q_move rfl) rfl ?_
 obtain ⟨x1, hx1, h⟩ := bind_some h
 refine lp (p_call Fun_196 rfl (fun w1 hw => m_sl_IndexFunc_Si_Match_i_Match_ok hw.fro N p0 p1 ph0 p1hF (fun hle' => p1h (by subst hb0; exact hw.frX (Ap.none _ _ []) hΦ hle')) hx1)) rfl <| lq (q_geq rfl rfl) rfl <| lq (q_assign rfl) rfl <| WL.nil ?_
 refine WT.ret Try.func117 (resOk.one rfl) (fun w1 hw => ?_)
 subst hb0
 cases h
 exact post_of_St hw
theorem m_sl_Equal_Sint_int_ok {Φ : Hp} {w : World} (hΦ : In Φ w) (N : Nat) (p0 : (List Int)) (p1 : (List Int)) {pv0 : Value} {pG0 : List Nat} {pv1 : Value} {pG1 : List Nat} (ph0 : RSl (RI .i64) 1 Φ pG0 pv0 p0) (ph1 : RSl (RI .i64) 1 Φ pG1 pv1 p1) {r : Bool} (h : m_sl_Equal_Sint_int N p0 p1 = some r) :
  Calls Try.prog 116 [pv0, pv1].toArray w (Post (.bool r) w) := by
 refine enter Try.func116 rfl Try.ntmps116 rfl (St.start0 hΦ) ?_
 generalize hb0 : (⟨w, [], Φ⟩ : Base) = w0
 unfold m_sl_Equal_Sint_int at h
 refine WT.seq <| WT.region <| lq (q_assign rfl) rfl <| WL.nil <| WT.seq <| WT.seq <| WT.region <| lq (q_move rfl) rfl <| lq (q_lenR Sl_78 rfl rfl ph0) rfl <| lq (q_move rfl) rfl <| lq (q_lenR Sl_78 rfl rfl ph1) rfl <| lq (q_neq rfl rfl) rfl <| WL.nil ?_
 refine WT.cond rfl (fun c1 => ?_) (fun c1 => ?_)
 ·replace h := ite_t h c1
  refine WT.seq <| WT.region <| lq (q_assign rfl) rfl <| WL.nil ?_
  refine WT.ret Try.func116 (resOk.one rfl) (fun w1 hw => ?_)
  subst hb0
  cases h
  exact post_of_St hw
 replace h := ite_f h c1
 refine WT.skip <| WT.seq <| WT.seq <| WT.region <| lq (q_move rfl) rfl <| lq (q_lenR Sl_78 rfl rfl ph0) rfl <| lq (q_move rfl) rfl <| WL.nil <| WT.block <| WT.loop <| WT.mono (l' := [(0, pv0), (1, pv1), (12, .int .i64 (p0.length : Int)), (13, .int .i64 0)]) (S' := St w0 Φ [] []) ⟨rfl, rfl, rfl, rfl, trivial⟩ (fun w1 hw => (hw.sel (js := []) rfl).selO (js := []) rfl) ?_
 refine loop_ind (σ := Int) (fun s => [(0, pv0), (1, pv1), (12, .int .i64 (p0.length : Int)), (13, .int .i64 s)]) (fun s => St w0 Φ [] []) (fun m s => m_sl_Equal_Sint_int_l1 N p0 p1 m s = some r) (fun s hm => none_ne (show (none : Option (Bool)) = some r from hm)) (fun n1 ih1 s hm => ?_) N (0) h
 revert hm; revert s; intro s1 hm
 have h : m_sl_Equal_Sint_int_l1 N p0 p1 (n1 + 1) s1 = some r := hm
 show WT _ _ [(0, pv0), (1, pv1), (12, .int .i64 (p0.length : Int)), (13, .int .i64 s1)] (St w0 Φ [] [])
 unfold m_sl_Equal_Sint_int_l1 at h
 refine WT.seq <| WT.region <| lq (q_lss rfl rfl) rfl <| WL.nil <| WT.seq ?_
 refine WT.cond rfl (fun c2 => ?_) (fun c2 => ?_)
 ·replace h := ite_t h c2
  refine WT.skip <| WT.seq <| WT.block <| WT.seq <| WT.region <| lq (q_move rfl) rfl <| lq (q_assign rfl) rfl <| WL.nil <| WT.seq <| WT.draw mixed (by kernel_rfl) (fun _ h => h.drew) <| qq (q_move rfl) rfl <| qq (q_move rfl) rfl ?_
  obtain ⟨x1, hx1, h⟩ := bind_some h
  obtain ⟨cs1, F1, -, g1, hb1, hs1, r1⟩ := ph0.el (idx_some hx1).2.2
  obtain ⟨rfl, -⟩ := r1
  refine qq (q_indexAddr Sl_78 rfl rfl ph0 hx1) rfl <| qq (q_load1 T1_3 rfl (fun w1 hw => (g1.of_eq 0 1 rfl rfl : rg _ _ _ [.int .i64 x1]).rangeAt hw.fro)) rfl <| qq (q_move rfl) rfl <| qq (q_move rfl) rfl ?_
  obtain ⟨x2, hx2, h⟩ := bind_some h
  obtain ⟨cs2, F2, -, g2, hb2, hs2, r2⟩ := ph1.el (idx_some hx2).2.2
  obtain ⟨rfl, -⟩ := r2
  refine qq (q_indexAddr Sl_78 rfl rfl ph1 hx2) rfl <| qq (q_load1 T1_3 rfl (fun w1 hw => (g2.of_eq 0 1 rfl rfl : rg _ _ _ [.int .i64 x2]).rangeAt hw.fro)) rfl <| qq (q_neq rfl rfl) rfl <| WQ.nil ?_
  refine WT.cond rfl (fun c3 => ?_) (fun c3 => ?_)
  ·replace h := ite_t h c3
   refine WT.seq <| WT.region <| lq (q_assign rfl) rfl <| WL.nil ?_
   refine WT.ret Try.func116 (resOk.one rfl) (fun w1 hw => ?_)
   subst hb0
   cases h
   exact post_of_St hw
  replace h := ite_f h c3
  refine WT.skip <| WT.inBlock <| WT.region <| lq (q_add rfl rfl) rfl <| lq (q_move rfl) rfl <| WL.nil ?_
  refine WT.inLoop (WT.mono (l' := [(0, pv0), (1, pv1), (12, .int .i64 (p0.length : Int)), (13, .int .i64 (IntKind.i64.wrap (s1 + 1)))]) (S' := St w0 Φ [] []) ⟨rfl, rfl, rfl, rfl, trivial⟩ (fun w1 hw => (hw.sel (js := []) rfl).selO (js := []) rfl) ?_)
  exact ih1 (IntKind.i64.wrap (s1 + 1)) h
 replace h := ite_f h c2
 refine WT.exit rfl <| WT.seq <| WT.region <| lq (q_assign rfl) rfl <| WL.nil ?_
 refine WT.ret Try.func116 (resOk.one rfl) (fun w1 hw => ?_)
 subst hb0
 cases h
 exact post_of_St hw
end Go.Proofs.Ytjhlmnbkfdkmpaa
