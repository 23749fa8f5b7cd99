/- Printed by a program of ours: each Go function computes its Lean function. -/
import Derived.Test.YtmhckcoabhahpaaProg
import Derived.Test.YtmhckcoabhahpaaWBlockedWalk1
namespace Go.Proofs.Ytmhckcoabhahpaa
open Eng
open Go.RowKit (Below)
set_option linter.unusedVariables false
set_option linter.unusedSimpArgs false

set_option maxRecDepth 100000
set_option maxHeartbeats 1000000
theorem m_s_l9Draw_ok {Φ : Hp} {w : World} (hΦ : In Φ w) (N : Nat) (p0 : Tl1Cur) (p1 : ByteArray) {pv0_0 : Value} {pG0_0 : List Nat} {pb0 : Nat} (ph0_0 : RSl (RI .u8) 1 Φ pG0_0 pv0_0 p0.b) (pp0 : Φ pb0 = some (.cells #[pv0_0, .int .i64 p0.i, .int .i64 p0.h] 195 (0, 0))) (pd0_0 : Dj pG0_0 [[pb0]].flatten) (hB : [[pb0]].flatten.Nodup) (hlt : ∀ k ∈ [[pb0]].flatten, k < w.heap.size) {r : TRule × Tl1Cur} (h : m_s_l9Draw N p0 p1 = some r) :
  Calls Try.prog 130 [.pointer (some ⟨pb0, 0, none⟩), .string p1].toArray w (PostG Φ w [[pb0]].flatten (fun Φ' Fs v => ∃ (sr_0_0 : Value) (Dr_0_0 : List Nat) (sr_0_1 : Value) (sr_0_2 : Value) (Dr_0_2 : List Nat), v = .agg [.string r.1.Name, .int .i64 r.1.Sal, sr_0_0, sr_0_1, sr_0_2].toArray ∧ Fs = [ob sr_0_0, Dr_0_0, ob sr_0_1, ob sr_0_2, Dr_0_2, [pb0]] ∧ OSl OTPat 37 3 Φ' Dr_0_0 sr_0_0 r.1.Pats ∧ OSl RTCond 206 11 Φ' [] sr_0_1 r.1.Conds ∧ OSl OTAct 96 5 Φ' Dr_0_2 sr_0_2 r.1.Acts ∧ r.2.b = p0.b ∧ Φ' pb0 = some (.cells #[pv0_0, .int .i64 r.2.i, .int .i64 r.2.h] 195 (0, 0)))) := by
 refine enter Try.func130 rfl Try.ntmps130 rfl (St.start hΦ [[pb0]] hB hlt) ?_
 have pa0_0 : Old ⟨w, [[pb0]].flatten, Φ⟩ pG0_0 := Old.mk hΦ ph0_0.kn pd0_0
 revert pa0_0
 generalize hb0 : (⟨w, [[pb0]].flatten, Φ⟩ : Base) = w0
 intro pa0_0
 unfold m_s_l9Draw at h
 refine WT.seq <| WT.region ?_
 refine ln (n_alloc (C := #[.string (⟨#[]⟩ : ByteArray), .int .i64 0, .slice none 0 0, .slice none 0 0, .slice none 0 0]) Zr_66 rfl) rfl (fun b_1 => ?_)
 refine WL.nil <| WT.seq <| WT.region <| lq (q_move rfl) rfl <| lq (q_move rfl) rfl ?_
 have rc1 : RC (RI .i64) 1 Φ ([[], [], [], [], []] : List (List Nat)) [.int .i64 0, .int .i64 0, .int .i64 5, .int .i64 (-5), .int .i64 100] ([0, 0, 5, (-5), 100] : List Int) := RC.cons (c := [.int .i64 0]) (cells := [.int .i64 0, .int .i64 5, .int .i64 (-5), .int .i64 100]) ⟨rfl, rfl⟩ rfl (RC.cons (c := [.int .i64 0]) (cells := [.int .i64 5, .int .i64 (-5), .int .i64 100]) ⟨rfl, rfl⟩ rfl (RC.cons (c := [.int .i64 5]) (cells := [.int .i64 (-5), .int .i64 100]) ⟨rfl, rfl⟩ rfl (RC.cons (c := [.int .i64 (-5)]) (cells := [.int .i64 100]) ⟨rfl, rfl⟩ rfl (RC.cons (c := [.int .i64 100]) (cells := []) ⟨rfl, rfl⟩ rfl (RC.nil _ _ _)))))
 refine le' (e_lit (vs := [(0, .int .i64 0), (1, .int .i64 0), (2, .int .i64 5), (3, .int .i64 (-5)), (4, .int .i64 100)]) (C := #[.int .i64 0, .int .i64 0, .int .i64 5, .int .i64 (-5), .int .i64 100]) RI.lasts Sl_27 Zr_3 rfl rfl rfl rfl (fill_made MC_3_5 (fill_cons (cells := [.int .i64 0, .int .i64 0, .int .i64 0, .int .i64 0, .int .i64 0]) (c := [.int .i64 0]) (C' := [.int .i64 0, .int .i64 0, .int .i64 0, .int .i64 0, .int .i64 0]) rfl rfl rfl rfl rfl (fill_cons (cells := [.int .i64 0, .int .i64 0, .int .i64 0, .int .i64 0, .int .i64 0]) (c := [.int .i64 0]) (C' := [.int .i64 0, .int .i64 0, .int .i64 0, .int .i64 0, .int .i64 0]) rfl rfl rfl rfl rfl (fill_cons (cells := [.int .i64 0, .int .i64 0, .int .i64 0, .int .i64 0, .int .i64 0]) (c := [.int .i64 5]) (C' := [.int .i64 0, .int .i64 0, .int .i64 5, .int .i64 0, .int .i64 0]) rfl rfl rfl rfl rfl (fill_cons (cells := [.int .i64 0, .int .i64 0, .int .i64 5, .int .i64 0, .int .i64 0]) (c := [.int .i64 (-5)]) (C' := [.int .i64 0, .int .i64 0, .int .i64 5, .int .i64 (-5), .int .i64 0]) rfl rfl rfl rfl rfl (fill_cons (cells := [.int .i64 0, .int .i64 0, .int .i64 5, .int .i64 (-5), .int .i64 0]) (c := [.int .i64 100]) (C' := [.int .i64 0, .int .i64 0, .int .i64 5, .int .i64 (-5), .int .i64 100]) rfl rfl rfl rfl rfl (fill_nil))))))) rfl rc1 rfl (by simpa using Kw.nil)) rfl (fun v1 Φ_1 D1 q1 => ?_)
 obtain ⟨fr1, h1⟩ := q1
 replace h1 : OSl (RI .i64) 3 1 Φ_1 [] v1 ([0, 0, 5, (-5), 100] : List Int) := by simpa using h1
 replace ph0_0 := ph0_0.frame RI.lasts fr1 (Dj.empty _)
 replace pp0 := fr1 _ _ (by simp) pp0
 obtain ⟨x1, hx1, h⟩ := bind_some h
 refine lc (k_call (js := [1]) (R := [ob v1]) Fun_120 rfl rfl (fun w1 hw ap hl => m_s_l1Int_ok hw.fro N p0 ([0, 0, 5, (-5), 100] : List Int) ph0_0 pp0 h1.rsl (ap.o pa0_0) (Dj.app (ap.r (i := 0) rfl) (Dj.nil _)) ap.nd hl hx1)) rfl (fun v2 Φ_2 F1 q2 => ?_)
 obtain ⟨ap1, fr2, rfl, rfl, e1, h2⟩ := q2
 replace ph0_0 := ph0_0.frame RI.lasts fr2 (ap1.o pa0_0)
 refine lq (q_build (vs := [(0, .string p1), (1, .int .i64 x1.1)]) (C := #[.string p1, .int .i64 x1.1, .slice none 0 0, .slice none 0 0, .slice none 0 0]) Pl_66 Zr_66 rfl (fill_cons (cells := [.string ⟨#[]⟩, .int .i64 0, .slice none 0 0, .slice none 0 0, .slice none 0 0]) (c := [.string p1]) (C' := [.string p1, .int .i64 0, .slice none 0 0, .slice none 0 0, .slice none 0 0]) rfl rfl rfl rfl rfl (fill_cons (cells := [.string p1, .int .i64 0, .slice none 0 0, .slice none 0 0, .slice none 0 0]) (c := [.int .i64 x1.1]) (C' := [.string p1, .int .i64 x1.1, .slice none 0 0, .slice none 0 0, .slice none 0 0]) rfl rfl rfl rfl rfl (fill_nil)))) rfl ?_
 refine ln (n_alloc (C := #[.string (⟨#[]⟩ : ByteArray), .int .i64 0, .slice none 0 0, .slice none 0 0, .slice none 0 0]) Zr_66 rfl) rfl (fun b_2 => ?_)
 refine ls (s_store (i := 0) (vs := [.string p1, .int .i64 x1.1, .slice none 0 0, .slice none 0 0, .slice none 0 0]) (C' := [.string p1, .int .i64 x1.1, .slice none 0 0, .slice none 0 0, .slice none 0 0]) (O' := [(b_2, .cells #[.string p1, .int .i64 x1.1, .slice none 0 0, .slice none 0 0, .slice none 0 0] 66 (0, 0)), (b_1, .cells #[.string (⟨#[]⟩ : ByteArray), .int .i64 0, .slice none 0 0, .slice none 0 0, .slice none 0 0] 66 (0, 0))]) Sz_66 rfl rfl rfl rfl rfl rfl ⟨rfl, rfl, rfl, rfl, rfl, trivial⟩ rfl rfl) rfl ?_
 refine WL.nil <| WT.seq <| WT.seq <| WT.region <| lq (q_move rfl) rfl ?_
 obtain ⟨x2, hx2, h⟩ := bind_some h
 refine lc (k_call (js := [0]) (R := [ob v1]) Fun_92 rfl rfl (fun w1 hw ap hl => m_s_l1Below_ok hw.fro N (⟨p0.b, x1.2.i, x1.2.h⟩ : Tl1Cur) 3 ph0_0 h2 (ap.o pa0_0) ap.nd hl hx2)) rfl (fun v3 Φ_3 F2 q3 => ?_)
 obtain ⟨ap2, fr3, rfl, rfl, e2, h3⟩ := q3
 replace ph0_0 := ph0_0.frame RI.lasts fr3 (ap2.o pa0_0)
 refine lq (q_add rfl rfl) rfl <| lq (q_assign rfl) rfl <| WL.nil <| WT.block <| WT.loop <| WT.conv (S' := St w0 Φ_3 [(b_2, .cells #[.string p1, .int .i64 x1.1, .slice none 0 0, .slice none 0 0, .slice none 0 0] 66 (0, 0)), (b_1, .cells #[.string (⟨#[]⟩ : ByteArray), .int .i64 0, .slice none 0 0, .slice none 0 0, .slice none 0 0] 66 (0, 0))] (ob (.slice none 0 0) :: [[pb0], ob v1])) (fun w1 hw => hw.addNil) <| WT.conv (S' := St w0 Φ_3 [(b_2, .cells #[.string p1, .int .i64 x1.1, .slice none 0 0, .slice none 0 0, .slice none 0 0] 66 (0, 0)), (b_1, .cells #[.string (⟨#[]⟩ : ByteArray), .int .i64 0, .slice none 0 0, .slice none 0 0, .slice none 0 0] 66 (0, 0))] ([] :: [ob (.slice none 0 0), [pb0], ob v1])) (fun w1 hw => hw.addNil) ?_
 have k1 := OSl.nil OTPat 37 3 Φ_3
 refine WT.mono (l' := [(0, .pointer (some ⟨pb0, 0, none⟩)), (4, .pointer (some ⟨b_1, 0, none⟩)), (5, .pointer (some ⟨b_2, 0, none⟩)), (6, .int .i64 (IntKind.i64.wrap (1 + x2.1)))]) (S' := St w0 Φ_3 [(b_2, .cells #[.string p1, .int .i64 x1.1, (.slice none 0 0), .slice none 0 0, .slice none 0 0] 66 (0, 0)), (b_1, .cells #[.string (⟨#[]⟩ : ByteArray), .int .i64 0, .slice none 0 0, .slice none 0 0, .slice none 0 0] 66 (0, 0))] [[], ob (.slice none 0 0), [pb0]]) ⟨rfl, rfl, rfl, rfl, trivial⟩ (fun w1 hw => (hw.sel (js := [0, 0, 0]) rfl).selO (js := [0, 0]) rfl) ?_
 refine loop_ind (σ := Hp × (List TPat) × Value × List Nat × Int × Int × Int) (fun s => [(0, .pointer (some ⟨pb0, 0, none⟩)), (4, .pointer (some ⟨b_1, 0, none⟩)), (5, .pointer (some ⟨b_2, 0, none⟩)), (6, .int .i64 s.2.2.2.2.1)]) (fun s => St w0 s.1 [(b_2, .cells #[.string p1, .int .i64 x1.1, s.2.2.1, .slice none 0 0, .slice none 0 0] 66 (0, 0)), (b_1, .cells #[.string (⟨#[]⟩ : ByteArray), .int .i64 0, .slice none 0 0, .slice none 0 0, .slice none 0 0] 66 (0, 0))] [s.2.2.2.1, ob s.2.2.1, [pb0]]) (fun m s => m_s_l9Draw_l1 N p0 p1 x1 m s.2.1 s.2.2.2.2.1 s.2.2.2.2.2.1 s.2.2.2.2.2.2 = some r ∧ (OSl OTPat 37 3 s.1 s.2.2.2.1 s.2.2.1 s.2.1) ∧ (s.1 pb0 = some (.cells #[pv0_0, .int .i64 s.2.2.2.2.2.1, .int .i64 s.2.2.2.2.2.2] 195 (0, 0))) ∧ (RSl (RI .u8) 1 s.1 pG0_0 pv0_0 p0.b)) (fun s hm => none_ne (show (none : Option (TRule × Tl1Cur)) = some r from hm.1)) (fun n1 ih1 s hm => ?_) N (Φ_3, ([] : List TPat), (.slice none 0 0), [], IntKind.i64.wrap (1 + x2.1), x2.2.i, x2.2.h) ⟨h, k1, h3, ph0_0⟩
 obtain ⟨Φ_4, s1, u1, D2, s2, s3, s4⟩ := s
 obtain ⟨h, k2, k3, ph0_0⟩ := hm
 replace h : m_s_l9Draw_l1 N p0 p1 x1 (n1 + 1) s1 s2 s3 s4 = some r := h
 replace k2 : OSl OTPat 37 3 Φ_4 D2 u1 s1 := k2
 replace k3 : Φ_4 pb0 = some (.cells #[pv0_0, .int .i64 s3, .int .i64 s4] 195 (0, 0)) := k3
 replace ph0_0 : RSl (RI .u8) 1 Φ_4 pG0_0 pv0_0 p0.b := ph0_0
 show WT _ _ [(0, .pointer (some ⟨pb0, 0, none⟩)), (4, .pointer (some ⟨b_1, 0, none⟩)), (5, .pointer (some ⟨b_2, 0, none⟩)), (6, .int .i64 s2)] (St w0 Φ_4 [(b_2, .cells #[.string p1, .int .i64 x1.1, u1, .slice none 0 0, .slice none 0 0] 66 (0, 0)), (b_1, .cells #[.string (⟨#[]⟩ : ByteArray), .int .i64 0, .slice none 0 0, .slice none 0 0, .slice none 0 0] 66 (0, 0))] [D2, ob u1, [pb0]])
 unfold m_s_l9Draw_l1 at h
 refine WT.seq <| WT.seq <| WT.region <| lq (q_move rfl) rfl <| lq (q_gtr rfl rfl) rfl <| WL.nil ?_
 refine WT.cond rfl (fun c1 => ?_) (fun c1 => ?_)
 ·replace h := ite_t h c1
  refine WT.skip <| WT.seq <| WT.block <| WT.mix (Kn Φ_4 [] [(b_2, .cells #[.string p1, .int .i64 x1.1, u1, .slice none 0 0, .slice none 0 0] 66 (0, 0)), (b_1, .cells #[.string (⟨#[]⟩ : ByteArray), .int .i64 0, .slice none 0 0, .slice none 0 0, .slice none 0 0] 66 (0, 0))]) (fun i => match i with | 7 => false | _ => true) mixed (fun _ h => h.drew) <| mq 0 rfl (by kernel_rfl) (fun w1 hw => Kn.of (fun k hk _ _ => by simp at hk) (AllIn.mem ⟨gM 0 rfl, gM 1 rfl, trivial⟩) hw) (q_fieldAddr Fld_66_2 rfl) rfl ?_
  refine mq 1 rfl (by kernel_rfl) (fun w1 hw => Kn.of (fun k hk _ _ => by simp at hk) (AllIn.mem ⟨gM 0 rfl, gM 1 rfl, trivial⟩) hw) (q_load1 T1_62 rfl (fun w1 hw => hw.rgO (i := 0) rfl 2 1 [u1] rfl)) rfl <| mq 2 rfl (by kernel_rfl) (fun w1 hw => Kn.of (fun k hk _ _ => by simp at hk) (AllIn.mem ⟨gM 0 rfl, gM 1 rfl, trivial⟩) hw) (q_move rfl) rfl ?_
  obtain ⟨x3, hx3, h⟩ := bind_some h
  refine WM.one 3 (by kernel_rfl) (mc rfl (fun _ v Φx D w1 hq hw => Kn.of (fun k hk _ _ => by simp at hk) (AllIn.mem ⟨gM 0 rfl, gM 1 rfl, trivial⟩) hw) (k_call (js := [2]) (R := [D2, ob u1]) Fun_83 rfl rfl (fun w1 hw ap hl => m_s_l6Draw_ok hw.fro N (⟨p0.b, s3, s4⟩ : Tl1Cur) false ph0_0 k3 (ap.o pa0_0) ap.nd hl hx3)) rfl (fun v4 Φ_5 F3 q4 => ?_))
  obtain ⟨ap3, fr4, v5, rfl, rfl, h4, e3, h5⟩ := q4
  replace ph0_0 := ph0_0.frame RI.lasts fr4 (ap3.o pa0_0)
  replace k2 := k2.frame OTPat.lasts fr4 (ap3.r (i := 1) rfl) (ap3.r (i := 0) rfl)
  have rc2 : RC OTPat 3 Φ_5 ([(ob v5 ++ [])] : List (List Nat)) [.string x3.1.Kind, v5, .bool x3.1.Not] ([x3.1] : List TPat) := RC.cons (c := [.string x3.1.Kind, v5, .bool x3.1.Not]) (cells := []) ⟨v5, rfl, rfl, h4⟩ rfl (RC.nil _ _ _)
  refine WM.one 4 (by kernel_rfl) (me rfl (fun _ v Φx D w1 hq hw => Kn.of (fun k hk _ _ => by simp at hk) (AllIn.mem ⟨gM 0 rfl, gM 1 rfl, trivial⟩) hw) (e_lit (vs := [(0, .agg [.string x3.1.Kind, v5, .bool x3.1.Not].toArray)]) (C := #[.string x3.1.Kind, v5, .bool x3.1.Not]) OTPat.lasts Sl_62 Zr_37 rfl rfl rfl rfl (fill_made MC_37_1 (fill_cons (cells := [.string ⟨#[]⟩, .slice none 0 0, .bool false]) (c := [.string x3.1.Kind, v5, .bool x3.1.Not]) (C' := [.string x3.1.Kind, v5, .bool x3.1.Not]) rfl rfl rfl rfl rfl (fill_nil))) rfl rc2 rfl (RC.kn OTPat.knows rc2)) rfl (fun v6 Φ_6 D3 q5 => ?_))
  obtain ⟨fr5, h6⟩ := q5
  replace h6 : OSl OTPat 37 3 Φ_6 ((ob v5 ++ [])) v6 ([x3.1] : List TPat) := by simpa [List.append_assoc] using h6
  replace ph0_0 := ph0_0.frame RI.lasts fr5 (Dj.empty _)
  replace k2 := k2.frame OTPat.lasts fr5 (Dj.empty _) (Dj.empty _)
  replace h5 := fr5 _ _ (by simp) h5
  refine WM.conv (S' := St w0 Φ_6 [(b_2, .cells #[.string p1, .int .i64 x1.1, u1, .slice none 0 0, .slice none 0 0] 66 (0, 0)), (b_1, .cells #[.string (⟨#[]⟩ : ByteArray), .int .i64 0, .slice none 0 0, .slice none 0 0, .slice none 0 0] 66 (0, 0))] [((ob v5 ++ [])), ob v6, [pb0], D2, ob u1]) (fun w1 hw => hw.merge (js := [1]) rfl (SP.eq (by simp [List.append_assoc, ob_nil]))) ?_
  obtain ⟨x4, hx4, h⟩ := bind_some h
  refine WM.one 5 (by kernel_rfl) (me rfl (fun _ v Φx D w1 hq hw => Kn.of (fun k hk _ _ => by simp at hk) (AllIn.mem ⟨gM 0 rfl, gM 1 rfl, trivial⟩) hw) (e_appO OTPat.lasts OTPat.one Sl_62 Ei_37 rfl rfl rfl rfl rfl (js := [4]) (Rr := [((ob v5 ++ [])), ob v6, [pb0], D2]) rfl k2 h6 (fun ap => (ap.r (i := 3) rfl)) (fun ap => (ap.r (i := 0) rfl)) hx4) rfl (fun v7 Φ_7 D4 q6 => ?_))
  obtain ⟨⟨ap4, fr6⟩, h7⟩ := q6
  replace ph0_0 := ph0_0.frame RI.lasts fr6 (ap4.o pa0_0)
  replace h5 := fr6 _ _ ((ap4.r (i := 2) rfl) _ (by simp)) h5
  refine WM.conv (S' := St w0 Φ_7 [(b_2, .cells #[.string p1, .int .i64 x1.1, u1, .slice none 0 0, .slice none 0 0] 66 (0, 0)), (b_1, .cells #[.string (⟨#[]⟩ : ByteArray), .int .i64 0, .slice none 0 0, .slice none 0 0, .slice none 0 0] 66 (0, 0))] [(D2 ++ ((ob v5 ++ []))), ob v7, ob v6, [pb0]]) (fun w1 hw => hw.merge (js := [4, 1]) rfl (SP.eq (by simp))) <| mq 6 rfl (by kernel_rfl) (fun w1 hw => Kn.of (fun k hk _ _ => by simp at hk) (AllIn.mem ⟨gM 0 rfl, gM 1 rfl, trivial⟩) hw) (q_fieldAddr Fld_66_2 rfl) rfl ?_
  refine WM.one 7 (by kernel_rfl) (ms rfl (fun hc => by cases hc) (s_store (i := 0) (vs := [v7]) (C' := [.string p1, .int .i64 x1.1, v7, .slice none 0 0, .slice none 0 0]) (O' := [(b_2, .cells #[.string p1, .int .i64 x1.1, v7, .slice none 0 0, .slice none 0 0] 66 (0, 0)), (b_1, .cells #[.string (⟨#[]⟩ : ByteArray), .int .i64 0, .slice none 0 0, .slice none 0 0, .slice none 0 0] 66 (0, 0))]) Sz_62 rfl rfl rfl (one_cells h7.one) rfl rfl ⟨h7.one, trivial⟩ rfl rfl) rfl ?_)
  refine WM.nil (by kernel_rfl) <| WT.inBlock <| WT.region <| lq (q_move rfl) rfl <| lq (q_sub rfl rfl) rfl <| lq (q_assign rfl) rfl <| WL.nil ?_
  refine WT.inLoop (WT.mono (l' := [(0, .pointer (some ⟨pb0, 0, none⟩)), (4, .pointer (some ⟨b_1, 0, none⟩)), (5, .pointer (some ⟨b_2, 0, none⟩)), (6, .int .i64 (IntKind.i64.wrap (s2 - 1)))]) (S' := St w0 Φ_7 [(b_2, .cells #[.string p1, .int .i64 x1.1, v7, .slice none 0 0, .slice none 0 0] 66 (0, 0)), (b_1, .cells #[.string (⟨#[]⟩ : ByteArray), .int .i64 0, .slice none 0 0, .slice none 0 0, .slice none 0 0] 66 (0, 0))] [(D2 ++ ((ob v5 ++ []))), ob v7, [pb0]]) ⟨rfl, rfl, rfl, rfl, trivial⟩ (fun w1 hw => (hw.sel (js := [0, 0, 1]) rfl).selO (js := [0, 0]) rfl) ?_)
  exact ih1 (Φ_7, x4, v7, (D2 ++ ((ob v5 ++ []))), IntKind.i64.wrap (s2 - 1), x3.2.i, x3.2.h) ⟨h, h7, h5, ph0_0⟩
 replace h := ite_f h c1
 refine WT.exit rfl <| WT.seq <| WT.seq <| WT.region <| lq (q_move rfl) rfl ?_
 obtain ⟨x5, hx5, h⟩ := bind_some h
 refine lc (k_call (js := [2]) (R := [D2, ob u1]) Fun_85 rfl rfl (fun w1 hw ap hl => m_s_l1Once_ok hw.fro N (⟨p0.b, s3, s4⟩ : Tl1Cur) 3 ph0_0 k3 (ap.o pa0_0) ap.nd hl hx5)) rfl (fun v8 Φ_8 F4 q7 => ?_)
 obtain ⟨ap5, fr7, rfl, rfl, e4, h8⟩ := q7
 replace ph0_0 := ph0_0.frame RI.lasts fr7 (ap5.o pa0_0)
 replace k2 := k2.frame OTPat.lasts fr7 (ap5.r (i := 1) rfl) (ap5.r (i := 0) rfl)
 refine WL.nil ?_
 refine cut (σ := Hp × (List TPat) × Value × List Nat × Int × Int) (fun s => [(0, .pointer (some ⟨pb0, 0, none⟩)), (4, .pointer (some ⟨b_1, 0, none⟩)), (5, .pointer (some ⟨b_2, 0, none⟩))]) (fun s => St w0 s.1 [(b_2, .cells #[.string p1, .int .i64 x1.1, s.2.2.1, .slice none 0 0, .slice none 0 0] 66 (0, 0)), (b_1, .cells #[.string (⟨#[]⟩ : ByteArray), .int .i64 0, .slice none 0 0, .slice none 0 0, .slice none 0 0] 66 (0, 0))] [[pb0], s.2.2.2.1, ob s.2.2.1]) (fun s => m_s_l9Draw_j2 N p0 p1 x1 s.2.1 s.2.2.2.2.1 s.2.2.2.2.2 = some r ∧ (OSl OTPat 37 3 s.1 s.2.2.2.1 s.2.2.1 s.2.1) ∧ (s.1 pb0 = some (.cells #[pv0_0, .int .i64 s.2.2.2.2.1, .int .i64 s.2.2.2.2.2] 195 (0, 0))) ∧ (RSl (RI .u8) 1 s.1 pG0_0 pv0_0 p0.b)) (fun s hm => ?_) (fun K => ?_)
 ·clear h
  obtain ⟨Φ_9, s5, u2, D5, s6, s7⟩ := s
  obtain ⟨h, k4, k5, ph0_0⟩ := hm
  replace h : m_s_l9Draw_j2 N p0 p1 x1 s5 s6 s7 = some r := h
  replace k4 : OSl OTPat 37 3 Φ_9 D5 u2 s5 := k4
  replace k5 : Φ_9 pb0 = some (.cells #[pv0_0, .int .i64 s6, .int .i64 s7] 195 (0, 0)) := k5
  replace ph0_0 : RSl (RI .u8) 1 Φ_9 pG0_0 pv0_0 p0.b := ph0_0
  show WT _ _ [(0, .pointer (some ⟨pb0, 0, none⟩)), (4, .pointer (some ⟨b_1, 0, none⟩)), (5, .pointer (some ⟨b_2, 0, none⟩))] (St w0 Φ_9 [(b_2, .cells #[.string p1, .int .i64 x1.1, u2, .slice none 0 0, .slice none 0 0] 66 (0, 0)), (b_1, .cells #[.string (⟨#[]⟩ : ByteArray), .int .i64 0, .slice none 0 0, .slice none 0 0, .slice none 0 0] 66 (0, 0))] [[pb0], D5, ob u2])
  unfold m_s_l9Draw_j2 at h
  refine WT.seq <| WT.region <| lq (q_loadN Tn_66 rfl (fun w1 hw => hw.rgO (i := 0) rfl 0 5 [.string p1, .int .i64 x1.1, u2, .slice none 0 0, .slice none 0 0] rfl) rfl) rfl ?_
  obtain ⟨x6, hx6, h⟩ := bind_some h
  refine lc (k_call (js := []) (R := [[pb0], D5, ob u2]) Fun_40 rfl rfl (fun w1 hw ap hl => m_s_PosVars_ok hw.fro N (⟨p1, x1.1, s5, [], []⟩ : TRule) (k4.rslG OTPat.gives) (RSl.nil _ _ _) (RSl.nil _ _ _)  hx6)) rfl (fun v9 Φ_10 F5 q8 => ?_)
  obtain ⟨ap6, fr8, v10, rfl, rfl, h9⟩ := q8
  replace ph0_0 := ph0_0.frame RI.lasts fr8 (ap6.o pa0_0)
  replace k4 := k4.frame OTPat.lasts fr8 (ap6.r (i := 2) rfl) (ap6.r (i := 1) rfl)
  replace k5 := fr8 _ _ ((ap6.r (i := 0) rfl) _ (by simp)) k5
  refine lq (q_assign rfl) rfl <| WL.nil <| WT.seq <| WT.seq <| WT.region <| lq (q_move rfl) rfl ?_
  obtain ⟨x7, hx7, h⟩ := bind_some h
  refine lc (k_call (js := [1]) (R := [ob v9, D5, ob u2]) Fun_85 rfl rfl (fun w1 hw ap hl => m_s_l1Once_ok hw.fro N (⟨p0.b, s6, s7⟩ : Tl1Cur) 3 ph0_0 k5 (ap.o pa0_0) ap.nd hl hx7)) rfl (fun v11 Φ_11 F6 q9 => ?_)
  obtain ⟨ap7, fr9, rfl, rfl, e5, h10⟩ := q9
  replace ph0_0 := ph0_0.frame RI.lasts fr9 (ap7.o pa0_0)
  replace k4 := k4.frame OTPat.lasts fr9 (ap7.r (i := 2) rfl) (ap7.r (i := 1) rfl)
  replace h9 := h9.frame RS.lasts fr9 (ap7.r (i := 0) rfl) (Dj.nil _)
  refine WL.nil <| WT.conv (S' := St w0 Φ_11 [(b_2, .cells #[.string p1, .int .i64 x1.1, u2, .slice none 0 0, .slice none 0 0] 66 (0, 0)), (b_1, .cells #[.string (⟨#[]⟩ : ByteArray), .int .i64 0, .slice none 0 0, .slice none 0 0, .slice none 0 0] 66 (0, 0))] (ob (.slice none 0 0) :: [[pb0], ob v9, D5, ob u2])) (fun w1 hw => hw.addNil) ?_
  have k6 := OSl.nil RTCond 206 11 Φ_11
  refine cut (σ := Hp × (List TCond) × Value × Int × Int) (fun s => [(0, .pointer (some ⟨pb0, 0, none⟩)), (4, .pointer (some ⟨b_1, 0, none⟩)), (5, .pointer (some ⟨b_2, 0, none⟩)), (7, v9)]) (fun s => St w0 s.1 [(b_2, .cells #[.string p1, .int .i64 x1.1, u2, s.2.2.1, .slice none 0 0] 66 (0, 0)), (b_1, .cells #[.string (⟨#[]⟩ : ByteArray), .int .i64 0, .slice none 0 0, .slice none 0 0, .slice none 0 0] 66 (0, 0))] [ob s.2.2.1, [pb0], ob v9, D5, ob u2]) (fun s => m_s_l9Draw_j3 N p0 p1 x1 s5 x6 s.2.1 s.2.2.2.1 s.2.2.2.2 = some r ∧ (OSl OTPat 37 3 s.1 D5 u2 s5) ∧ (OSl RS 9 1 s.1 [] v9 x6) ∧ (OSl RTCond 206 11 s.1 [] s.2.2.1 s.2.1) ∧ (s.1 pb0 = some (.cells #[pv0_0, .int .i64 s.2.2.2.1, .int .i64 s.2.2.2.2] 195 (0, 0))) ∧ (RSl (RI .u8) 1 s.1 pG0_0 pv0_0 p0.b)) (fun s hm => ?_) (fun K => ?_)
  ·clear h
   obtain ⟨Φ_12, s8, u3, s9, s10⟩ := s
   obtain ⟨h, k4, h9, k7, k8, ph0_0⟩ := hm
   replace h : m_s_l9Draw_j3 N p0 p1 x1 s5 x6 s8 s9 s10 = some r := h
   replace k4 : OSl OTPat 37 3 Φ_12 D5 u2 s5 := k4
   replace h9 : OSl RS 9 1 Φ_12 [] v9 x6 := h9
   replace k7 : OSl RTCond 206 11 Φ_12 [] u3 s8 := k7
   replace k8 : Φ_12 pb0 = some (.cells #[pv0_0, .int .i64 s9, .int .i64 s10] 195 (0, 0)) := k8
   replace ph0_0 : RSl (RI .u8) 1 Φ_12 pG0_0 pv0_0 p0.b := ph0_0
   show WT _ _ [(0, .pointer (some ⟨pb0, 0, none⟩)), (4, .pointer (some ⟨b_1, 0, none⟩)), (5, .pointer (some ⟨b_2, 0, none⟩)), (7, v9)] (St w0 Φ_12 [(b_2, .cells #[.string p1, .int .i64 x1.1, u2, u3, .slice none 0 0] 66 (0, 0)), (b_1, .cells #[.string (⟨#[]⟩ : ByteArray), .int .i64 0, .slice none 0 0, .slice none 0 0, .slice none 0 0] 66 (0, 0))] [ob u3, [pb0], ob v9, D5, ob u2])
   unfold m_s_l9Draw_j3 at h
   refine WT.seq <| WT.seq <| WT.region <| lq (q_move rfl) rfl ?_
   obtain ⟨x8, hx8, h⟩ := bind_some h
   refine lc (k_call (js := [1]) (R := [ob u3, ob v9, D5, ob u2]) Fun_92 rfl rfl (fun w1 hw ap hl => m_s_l1Below_ok hw.fro N (⟨p0.b, s9, s10⟩ : Tl1Cur) 3 ph0_0 k8 (ap.o pa0_0) ap.nd hl hx8)) rfl (fun v12 Φ_13 F7 q10 => ?_)
   obtain ⟨ap8, fr10, rfl, rfl, e6, h11⟩ := q10
   replace ph0_0 := ph0_0.frame RI.lasts fr10 (ap8.o pa0_0)
   replace k4 := k4.frame OTPat.lasts fr10 (ap8.r (i := 3) rfl) (ap8.r (i := 2) rfl)
   replace h9 := h9.frame RS.lasts fr10 (ap8.r (i := 1) rfl) (Dj.nil _)
   replace k7 := k7.frame RTCond.lasts fr10 (ap8.r (i := 0) rfl) (Dj.nil _)
   refine lq (q_add rfl rfl) rfl <| lq (q_assign rfl) rfl <| WL.nil <| WT.block <| WT.loop <| WT.conv (S' := St w0 Φ_13 [(b_2, .cells #[.string p1, .int .i64 x1.1, u2, u3, .slice none 0 0] 66 (0, 0)), (b_1, .cells #[.string (⟨#[]⟩ : ByteArray), .int .i64 0, .slice none 0 0, .slice none 0 0, .slice none 0 0] 66 (0, 0))] (ob (.slice none 0 0) :: [[pb0], ob u3, ob v9, D5, ob u2])) (fun w1 hw => hw.addNil) <| WT.conv (S' := St w0 Φ_13 [(b_2, .cells #[.string p1, .int .i64 x1.1, u2, u3, .slice none 0 0] 66 (0, 0)), (b_1, .cells #[.string (⟨#[]⟩ : ByteArray), .int .i64 0, .slice none 0 0, .slice none 0 0, .slice none 0 0] 66 (0, 0))] ([] :: [ob (.slice none 0 0), [pb0], ob u3, ob v9, D5, ob u2])) (fun w1 hw => hw.addNil) ?_
   have k9 := OSl.nil OTAct 96 5 Φ_13
   refine WT.mono (l' := [(0, .pointer (some ⟨pb0, 0, none⟩)), (4, .pointer (some ⟨b_1, 0, none⟩)), (5, .pointer (some ⟨b_2, 0, none⟩)), (7, v9), (9, .int .i64 (IntKind.i64.wrap (1 + x8.1)))]) (S' := St w0 Φ_13 [(b_2, .cells #[.string p1, .int .i64 x1.1, u2, u3, (.slice none 0 0)] 66 (0, 0)), (b_1, .cells #[.string (⟨#[]⟩ : ByteArray), .int .i64 0, .slice none 0 0, .slice none 0 0, .slice none 0 0] 66 (0, 0))] [[], ob (.slice none 0 0), [pb0], ob u3, ob v9, D5, ob u2]) ⟨rfl, rfl, rfl, rfl, rfl, trivial⟩ (fun w1 hw => (hw.sel (js := [0, 0, 0, 0, 0, 0, 0]) rfl).selO (js := [0, 0]) rfl) ?_
   refine loop_ind (σ := Hp × (List TAct) × Value × List Nat × Int × Int × Int) (fun s => [(0, .pointer (some ⟨pb0, 0, none⟩)), (4, .pointer (some ⟨b_1, 0, none⟩)), (5, .pointer (some ⟨b_2, 0, none⟩)), (7, v9), (9, .int .i64 s.2.2.2.2.1)]) (fun s => St w0 s.1 [(b_2, .cells #[.string p1, .int .i64 x1.1, u2, u3, s.2.2.1] 66 (0, 0)), (b_1, .cells #[.string (⟨#[]⟩ : ByteArray), .int .i64 0, .slice none 0 0, .slice none 0 0, .slice none 0 0] 66 (0, 0))] [s.2.2.2.1, ob s.2.2.1, [pb0], ob u3, ob v9, D5, ob u2]) (fun m s => m_s_l9Draw_l4 N p0 p1 x1 s5 x6 s8 m s.2.1 s.2.2.2.2.1 s.2.2.2.2.2.1 s.2.2.2.2.2.2 = some r ∧ (OSl OTPat 37 3 s.1 D5 u2 s5) ∧ (OSl RS 9 1 s.1 [] v9 x6) ∧ (OSl RTCond 206 11 s.1 [] u3 s8) ∧ (OSl OTAct 96 5 s.1 s.2.2.2.1 s.2.2.1 s.2.1) ∧ (s.1 pb0 = some (.cells #[pv0_0, .int .i64 s.2.2.2.2.2.1, .int .i64 s.2.2.2.2.2.2] 195 (0, 0))) ∧ (RSl (RI .u8) 1 s.1 pG0_0 pv0_0 p0.b)) (fun s hm => none_ne (show (none : Option (TRule × Tl1Cur)) = some r from hm.1)) (fun n4 ih4 s hm => ?_) N (Φ_13, ([] : List TAct), (.slice none 0 0), [], IntKind.i64.wrap (1 + x8.1), x8.2.i, x8.2.h) ⟨h, k4, h9, k7, k9, h11, ph0_0⟩
   obtain ⟨Φ_14, s11, u4, D6, s12, s13, s14⟩ := s
   obtain ⟨h, k4, h9, k7, k10, k11, ph0_0⟩ := hm
   replace h : m_s_l9Draw_l4 N p0 p1 x1 s5 x6 s8 (n4 + 1) s11 s12 s13 s14 = some r := h
   replace k4 : OSl OTPat 37 3 Φ_14 D5 u2 s5 := k4
   replace h9 : OSl RS 9 1 Φ_14 [] v9 x6 := h9
   replace k7 : OSl RTCond 206 11 Φ_14 [] u3 s8 := k7
   replace k10 : OSl OTAct 96 5 Φ_14 D6 u4 s11 := k10
   replace k11 : Φ_14 pb0 = some (.cells #[pv0_0, .int .i64 s13, .int .i64 s14] 195 (0, 0)) := k11
   replace ph0_0 : RSl (RI .u8) 1 Φ_14 pG0_0 pv0_0 p0.b := ph0_0
   show WT _ _ [(0, .pointer (some ⟨pb0, 0, none⟩)), (4, .pointer (some ⟨b_1, 0, none⟩)), (5, .pointer (some ⟨b_2, 0, none⟩)), (7, v9), (9, .int .i64 s12)] (St w0 Φ_14 [(b_2, .cells #[.string p1, .int .i64 x1.1, u2, u3, u4] 66 (0, 0)), (b_1, .cells #[.string (⟨#[]⟩ : ByteArray), .int .i64 0, .slice none 0 0, .slice none 0 0, .slice none 0 0] 66 (0, 0))] [D6, ob u4, [pb0], ob u3, ob v9, D5, ob u2])
   unfold m_s_l9Draw_l4 at h
   refine WT.seq <| WT.seq <| WT.region <| lq (q_move rfl) rfl <| lq (q_gtr rfl rfl) rfl <| WL.nil ?_
   refine WT.cond rfl (fun c2 => ?_) (fun c2 => ?_)
   ·replace h := ite_t h c2
    refine WT.skip <| WT.seq <| WT.block <| WT.seq <| WT.region <| lq (q_move rfl) rfl <| lq (q_loadN Tn_66 rfl (fun w1 hw => hw.rgO (i := 0) rfl 0 5 [.string p1, .int .i64 x1.1, u2, u3, u4] rfl) rfl) rfl ?_
    obtain ⟨x9, hx9, h⟩ := bind_some h
    refine lp (p_call Fun_59 rfl (fun w1 hw => m_s_PosCount_ok hw.fro N (⟨p1, x1.1, s5, s8, s11⟩ : TRule) (k4.rslG OTPat.gives) k7.rsl (k10.rslG OTAct.gives) hx9)) rfl ?_
    obtain ⟨x10, hx10, h⟩ := bind_some h
    refine lc (k_call (js := [2]) (R := [D6, ob u4, ob u3, ob v9, D5, ob u2]) Fun_176 rfl rfl (fun w1 hw ap hl => m_s_l8Draw_ok hw.fro N (⟨p0.b, s13, s14⟩ : Tl1Cur) x9 ph0_0 k11 (ap.o pa0_0) ap.nd hl hx10)) rfl (fun v13 Φ_15 F8 q11 => ?_)
    obtain ⟨ap9, fr11, v14, rfl, rfl, h12, e7, h13⟩ := q11
    replace ph0_0 := ph0_0.frame RI.lasts fr11 (ap9.o pa0_0)
    replace k4 := k4.frame OTPat.lasts fr11 (ap9.r (i := 5) rfl) (ap9.r (i := 4) rfl)
    replace h9 := h9.frame RS.lasts fr11 (ap9.r (i := 3) rfl) (Dj.nil _)
    replace k7 := k7.frame RTCond.lasts fr11 (ap9.r (i := 2) rfl) (Dj.nil _)
    replace k10 := k10.frame OTAct.lasts fr11 (ap9.r (i := 1) rfl) (ap9.r (i := 0) rfl)
    refine ln (n_alloc (C := #[.int .i64 0, .string (⟨#[]⟩ : ByteArray), .slice none 0 0, .int .i64 0, .string (⟨#[]⟩ : ByteArray)]) Zr_96 rfl) rfl (fun b_3 => ?_)
    refine ls (s_store (i := 0) (vs := [.int .i64 x10.1.Kind, .string x10.1.Name, v14, .int .i64 x10.1.N, .string x10.1.Undo]) (C' := [.int .i64 x10.1.Kind, .string x10.1.Name, v14, .int .i64 x10.1.N, .string x10.1.Undo]) (O' := [(b_3, .cells #[.int .i64 x10.1.Kind, .string x10.1.Name, v14, .int .i64 x10.1.N, .string x10.1.Undo] 96 (0, 0)), (b_2, .cells #[.string p1, .int .i64 x1.1, u2, u3, u4] 66 (0, 0)), (b_1, .cells #[.string (⟨#[]⟩ : ByteArray), .int .i64 0, .slice none 0 0, .slice none 0 0, .slice none 0 0] 66 (0, 0))]) Sz_96 rfl rfl rfl rfl rfl rfl ⟨rfl, rfl, h12.one, rfl, rfl, trivial⟩ rfl rfl) rfl ?_
    refine WL.nil <| WT.seq <| WT.seq <| WT.region <| lq (q_assign rfl) rfl <| WL.nil <| WT.block <| WT.loop <| WT.mono (l' := [(0, .pointer (some ⟨pb0, 0, none⟩)), (4, .pointer (some ⟨b_1, 0, none⟩)), (5, .pointer (some ⟨b_2, 0, none⟩)), (7, v9), (9, .int .i64 s12), (10, .pointer (some ⟨b_3, 0, none⟩)), (11, .int .i64 0)]) (S' := St w0 Φ_15 [(b_3, .cells #[.int .i64 x10.1.Kind, .string x10.1.Name, v14, .int .i64 x10.1.N, .string x10.1.Undo] 96 (0, 0)), (b_2, .cells #[.string p1, .int .i64 x1.1, u2, u3, u4] 66 (0, 0)), (b_1, .cells #[.string (⟨#[]⟩ : ByteArray), .int .i64 0, .slice none 0 0, .slice none 0 0, .slice none 0 0] 66 (0, 0))] [ob v14, [pb0], D6, ob u4, ob u3, ob v9, D5, ob u2]) ⟨rfl, rfl, rfl, rfl, rfl, rfl, rfl, trivial⟩ (fun w1 hw => (hw.sel (js := [0, 0, 0, 0, 0, 0, 0, 0]) rfl).selO (js := [0, 0, 0]) rfl) ?_
    refine loop_ind (σ := Hp × (List TExpr) × Int) (fun s => [(0, .pointer (some ⟨pb0, 0, none⟩)), (4, .pointer (some ⟨b_1, 0, none⟩)), (5, .pointer (some ⟨b_2, 0, none⟩)), (7, v9), (9, .int .i64 s12), (10, .pointer (some ⟨b_3, 0, none⟩)), (11, .int .i64 s.2.2)]) (fun s => St w0 s.1 [(b_3, .cells #[.int .i64 x10.1.Kind, .string x10.1.Name, v14, .int .i64 x10.1.N, .string x10.1.Undo] 96 (0, 0)), (b_2, .cells #[.string p1, .int .i64 x1.1, u2, u3, u4] 66 (0, 0)), (b_1, .cells #[.string (⟨#[]⟩ : ByteArray), .int .i64 0, .slice none 0 0, .slice none 0 0, .slice none 0 0] 66 (0, 0))] [ob v14, [pb0], D6, ob u4, ob u3, ob v9, D5, ob u2]) (fun m s => m_s_l9Draw_l5 N x6 s11 s12 (m_s_l9Draw_l4 N p0 p1 x1 s5 x6 s8 n4) x10 m s.2.1 s.2.2 = some r ∧ (OSl OTPat 37 3 s.1 D5 u2 s5) ∧ (OSl RS 9 1 s.1 [] v9 x6) ∧ (OSl RTCond 206 11 s.1 [] u3 s8) ∧ (OSl OTAct 96 5 s.1 D6 u4 s11) ∧ (OSl RTExpr 85 11 s.1 [] v14 s.2.1) ∧ (s.1 pb0 = some (.cells #[pv0_0, .int .i64 x10.2.i, .int .i64 x10.2.h] 195 (0, 0))) ∧ (RSl (RI .u8) 1 s.1 pG0_0 pv0_0 p0.b)) (fun s hm => none_ne (show (none : Option (TRule × Tl1Cur)) = some r from hm.1)) (fun n5 ih5 s hm => ?_) N (Φ_15, x10.1.Args, 0) ⟨h, k4, h9, k7, k10, h12, h13, ph0_0⟩
    obtain ⟨Φ_16, s15, s16⟩ := s
    obtain ⟨h, k4, h9, k7, k10, k12, k13, ph0_0⟩ := hm
    replace h : m_s_l9Draw_l5 N x6 s11 s12 (m_s_l9Draw_l4 N p0 p1 x1 s5 x6 s8 n4) x10 (n5 + 1) s15 s16 = some r := h
    replace k4 : OSl OTPat 37 3 Φ_16 D5 u2 s5 := k4
    replace h9 : OSl RS 9 1 Φ_16 [] v9 x6 := h9
    replace k7 : OSl RTCond 206 11 Φ_16 [] u3 s8 := k7
    replace k10 : OSl OTAct 96 5 Φ_16 D6 u4 s11 := k10
    replace k12 : OSl RTExpr 85 11 Φ_16 [] v14 s15 := k12
    replace k13 : Φ_16 pb0 = some (.cells #[pv0_0, .int .i64 x10.2.i, .int .i64 x10.2.h] 195 (0, 0)) := k13
    replace ph0_0 : RSl (RI .u8) 1 Φ_16 pG0_0 pv0_0 p0.b := ph0_0
    show WT _ _ [(0, .pointer (some ⟨pb0, 0, none⟩)), (4, .pointer (some ⟨b_1, 0, none⟩)), (5, .pointer (some ⟨b_2, 0, none⟩)), (7, v9), (9, .int .i64 s12), (10, .pointer (some ⟨b_3, 0, none⟩)), (11, .int .i64 s16)] (St w0 Φ_16 [(b_3, .cells #[.int .i64 x10.1.Kind, .string x10.1.Name, v14, .int .i64 x10.1.N, .string x10.1.Undo] 96 (0, 0)), (b_2, .cells #[.string p1, .int .i64 x1.1, u2, u3, u4] 66 (0, 0)), (b_1, .cells #[.string (⟨#[]⟩ : ByteArray), .int .i64 0, .slice none 0 0, .slice none 0 0, .slice none 0 0] 66 (0, 0))] [ob v14, [pb0], D6, ob u4, ob u3, ob v9, D5, ob u2])
    unfold m_s_l9Draw_l5 at h
    refine WT.seq <| WT.seq <| WT.region <| lq (q_move rfl) rfl <| lq (q_fieldAddr Fld_96_2 rfl) rfl <| lq (q_load1 T1_73 rfl (fun w1 hw => hw.rgO (i := 0) rfl 2 1 [v14] rfl)) rfl <| lq (q_lenR Sl_73 rfl rfl k12.rsl) rfl <| lq (q_lss rfl rfl) rfl <| WL.nil ?_
    refine WT.cond rfl (fun c3 => ?_) (fun c3 => ?_)
    ·replace h := ite_t h c3
     refine WT.skip <| WT.seq <| WT.block <| WT.seq ?_
     obtain ⟨x11, hx11, h⟩ := bind_some h
     obtain ⟨cs1, F9, h14, r1⟩ := k12.focusF RTExpr.flat hx11
     obtain ⟨rfl, -⟩ := r1
     refine WT.mix (Kn Φ_16 (ob u3 ++ (ob u4 ++ ob v14)) [(b_3, .cells #[.int .i64 x10.1.Kind, .string x10.1.Name, v14, .int .i64 x10.1.N, .string x10.1.Undo] 96 (0, 0)), (b_2, .cells #[.string p1, .int .i64 x1.1, u2, u3, u4] 66 (0, 0)), (b_1, .cells #[.string (⟨#[]⟩ : ByteArray), .int .i64 0, .slice none 0 0, .slice none 0 0, .slice none 0 0] 66 (0, 0))]) (fun i => match i with | 13 => false | _ => true) mixed (fun _ h => h.drew) ?_
     refine mq 0 rfl (by kernel_rfl) (fun w1 hw => Kn.of (fun _ _ _ h => h) (AllIn.mem ⟨gM 0 rfl, gM 1 rfl, gM 2 rfl, trivial⟩) hw) (q_fieldAddr Fld_96_2 rfl) rfl <| mq 1 rfl (by kernel_rfl) (fun w1 hw => Kn.of (fun _ _ _ h => h) (AllIn.mem ⟨gM 0 rfl, gM 1 rfl, gM 2 rfl, trivial⟩) hw) (q_load1 T1_73 rfl (fun w1 hw => hw.rgO (i := 0) rfl 2 1 [v14] rfl)) rfl ?_
     refine mq 2 rfl (by kernel_rfl) (fun w1 hw => Kn.of (fun _ _ _ h => h) (AllIn.mem ⟨gM 0 rfl, gM 1 rfl, gM 2 rfl, trivial⟩) hw) (q_move rfl) rfl <| mq 3 rfl (by kernel_rfl) (fun w1 hw => Kn.of (fun _ _ _ h => h) (AllIn.mem ⟨gM 0 rfl, gM 1 rfl, gM 2 rfl, trivial⟩) hw) (q_fieldAddr Fld_96_2 rfl) rfl ?_
     refine mq 4 rfl (by kernel_rfl) (fun w1 hw => Kn.of (fun _ _ _ h => h) (AllIn.mem ⟨gM 0 rfl, gM 1 rfl, gM 2 rfl, trivial⟩) hw) (q_load1 T1_73 rfl (fun w1 hw => hw.rgO (i := 0) rfl 2 1 [v14] rfl)) rfl <| mq 5 rfl (by kernel_rfl) (fun w1 hw => Kn.of (fun _ _ _ h => h) (AllIn.mem ⟨gM 0 rfl, gM 1 rfl, gM 2 rfl, trivial⟩) hw) (q_move rfl) rfl ?_
     refine mq 6 rfl (by kernel_rfl) (fun w1 hw => Kn.of (fun _ _ _ h => h) (AllIn.mem ⟨gM 0 rfl, gM 1 rfl, gM 2 rfl, trivial⟩) hw) (q_indexAddrH Sl_73 rfl rfl h14 hx11) rfl <| mq 7 rfl (by kernel_rfl) (fun w1 hw => Kn.of (fun _ _ _ h => h) (AllIn.mem ⟨gM 0 rfl, gM 1 rfl, gM 2 rfl, trivial⟩) hw) (q_fieldAddr Fld_85_1 rfl) rfl ?_
     refine mq 8 rfl (by kernel_rfl) (fun w1 hw => Kn.of (fun _ _ _ h => h) (AllIn.mem ⟨gM 0 rfl, gM 1 rfl, gM 2 rfl, trivial⟩) hw) (q_loadN Tn_83 rfl (fun w1 hw => hw.rg (List.mem_append.2 (.inr (List.mem_append.2 (.inr h14.hb)))) (h14.rg.of_eq 1 5 rfl rfl : rg _ _ _ [.int .i64 x11.L.K, .string x11.L.S, .int .i64 x11.L.V.K, .int .i64 x11.L.V.N, .string x11.L.V.S])) rfl) rfl ?_
     refine mq 9 rfl (by kernel_rfl) (fun w1 hw => Kn.of (fun _ _ _ h => h) (AllIn.mem ⟨gM 0 rfl, gM 1 rfl, gM 2 rfl, trivial⟩) hw) (q_move rfl) rfl ?_
     obtain ⟨x12, hx12, h⟩ := bind_some h
     refine WM.one 10 (by kernel_rfl) (mp rfl (fun _ w1 hw => Kn.of (fun _ _ _ h => h) (AllIn.mem ⟨gM 0 rfl, gM 1 rfl, gM 2 rfl, trivial⟩) hw) (p_call Fun_175 rfl (fun w1 hw => m_s_l9Fit_ok hw.fro N x11.L x6 h9.rsl hx12)) rfl ?_)
     refine mqT 11 [12, 13] rfl (by kernel_rfl) (fun w1 hw => Kn.of (fun _ _ _ h => h) (AllIn.mem ⟨gM 0 rfl, gM 1 rfl, gM 2 rfl, trivial⟩) hw) (q_indexAddrH Sl_73 rfl rfl h14 hx11) rfl <| mq 12 rfl (by kernel_rfl) (fun w1 hw => Kn.of (fun _ _ _ h => h) (AllIn.mem ⟨gM 0 rfl, gM 1 rfl, gM 2 rfl, trivial⟩) hw) (q_fieldAddr Fld_85_1 rfl) rfl ?_
     refine WM.one 13 (by kernel_rfl) (mu rfl (fun hc => by cases hc) (u_setH (js := [0]) (Rr := [[pb0], D6, ob u4, ob u3, ob v9, D5, ob u2]) (o := 1) (vs := [.int .i64 x12.K, .string x12.S, .int .i64 x12.V.K, .int .i64 x12.V.N, .string x12.V.S]) (cs' := [.string x11.Op, .int .i64 x12.K, .string x12.S, .int .i64 x12.V.K, .int .i64 x12.V.N, .string x12.V.S, .int .i64 x11.R.K, .string x11.R.S, .int .i64 x11.R.V.K, .int .i64 x11.R.V.N, .string x11.R.V.S]) RTExpr.lasts Sz_83 rfl rfl rfl rfl ⟨rfl, rfl, rfl, rfl, rfl, trivial⟩ rfl h14 rfl rfl (fun ap => (Dj.nil _))) rfl (fun Φ_17 D8 q12 => ?_))
     obtain ⟨⟨ap10, fr12⟩, h15⟩ := q12
     replace ph0_0 := ph0_0.frame RI.lasts fr12 (ap10.o pa0_0)
     replace k4 := k4.frame OTPat.lasts fr12 (ap10.r (i := 6) rfl) (ap10.r (i := 5) rfl)
     replace h9 := h9.frame RS.lasts fr12 (ap10.r (i := 4) rfl) (Dj.nil _)
     replace k7 := k7.frame RTCond.lasts fr12 (ap10.r (i := 3) rfl) (Dj.nil _)
     replace k10 := k10.frame OTAct.lasts fr12 (ap10.r (i := 2) rfl) (ap10.r (i := 1) rfl)
     replace k13 := fr12 _ _ ((ap10.r (i := 0) rfl) _ (by simp)) k13
     refine WM.nil (by kernel_rfl) <| WT.seq <| WT.region <| lq (q_fieldAddr Fld_96_2 rfl) rfl <| lq (q_load1 T1_73 rfl (fun w1 hw => hw.rgO (i := 0) rfl 2 1 [v14] rfl)) rfl <| lq (q_move rfl) rfl <| lq (q_indexAddrH Sl_73 rfl rfl h15 hx11) rfl <| lq (q_fieldAddr Fld_85_0 rfl) rfl <| lq (q_load1 T1_9 rfl (fun w1 hw => (h15.rg.of_eq 0 1 rfl rfl : rg _ _ _ [.string x11.Op]).rangeAt hw.fro)) rfl <| lq (q_sne rfl rfl) rfl <| WL.nil ?_
     refine WT.cond rfl (fun c4 => ?_) (fun c4 => ?_)
     ·replace h := ite_t h c4
      refine WT.mix (Kn Φ_17 (ob u3 ++ (ob u4 ++ ob v14)) [(b_3, .cells #[.int .i64 x10.1.Kind, .string x10.1.Name, v14, .int .i64 x10.1.N, .string x10.1.Undo] 96 (0, 0)), (b_2, .cells #[.string p1, .int .i64 x1.1, u2, u3, u4] 66 (0, 0)), (b_1, .cells #[.string (⟨#[]⟩ : ByteArray), .int .i64 0, .slice none 0 0, .slice none 0 0, .slice none 0 0] 66 (0, 0))]) (fun i => match i with | 13 => false | _ => true) mixed (fun _ h => h.drew) ?_
      refine mq 0 rfl (by kernel_rfl) (fun w1 hw => Kn.of (fun _ _ _ h => h) (AllIn.mem ⟨gM 0 rfl, gM 1 rfl, gM 2 rfl, trivial⟩) hw) (q_fieldAddr Fld_96_2 rfl) rfl <| mq 1 rfl (by kernel_rfl) (fun w1 hw => Kn.of (fun _ _ _ h => h) (AllIn.mem ⟨gM 0 rfl, gM 1 rfl, gM 2 rfl, trivial⟩) hw) (q_load1 T1_73 rfl (fun w1 hw => hw.rgO (i := 0) rfl 2 1 [v14] rfl)) rfl ?_
      refine mq 2 rfl (by kernel_rfl) (fun w1 hw => Kn.of (fun _ _ _ h => h) (AllIn.mem ⟨gM 0 rfl, gM 1 rfl, gM 2 rfl, trivial⟩) hw) (q_move rfl) rfl <| mq 3 rfl (by kernel_rfl) (fun w1 hw => Kn.of (fun _ _ _ h => h) (AllIn.mem ⟨gM 0 rfl, gM 1 rfl, gM 2 rfl, trivial⟩) hw) (q_fieldAddr Fld_96_2 rfl) rfl ?_
      refine mq 4 rfl (by kernel_rfl) (fun w1 hw => Kn.of (fun _ _ _ h => h) (AllIn.mem ⟨gM 0 rfl, gM 1 rfl, gM 2 rfl, trivial⟩) hw) (q_load1 T1_73 rfl (fun w1 hw => hw.rgO (i := 0) rfl 2 1 [v14] rfl)) rfl <| mq 5 rfl (by kernel_rfl) (fun w1 hw => Kn.of (fun _ _ _ h => h) (AllIn.mem ⟨gM 0 rfl, gM 1 rfl, gM 2 rfl, trivial⟩) hw) (q_move rfl) rfl ?_
      refine mq 6 rfl (by kernel_rfl) (fun w1 hw => Kn.of (fun _ _ _ h => h) (AllIn.mem ⟨gM 0 rfl, gM 1 rfl, gM 2 rfl, trivial⟩) hw) (q_indexAddrH Sl_73 rfl rfl h15 hx11) rfl <| mq 7 rfl (by kernel_rfl) (fun w1 hw => Kn.of (fun _ _ _ h => h) (AllIn.mem ⟨gM 0 rfl, gM 1 rfl, gM 2 rfl, trivial⟩) hw) (q_fieldAddr Fld_85_2 rfl) rfl ?_
      refine mq 8 rfl (by kernel_rfl) (fun w1 hw => Kn.of (fun _ _ _ h => h) (AllIn.mem ⟨gM 0 rfl, gM 1 rfl, gM 2 rfl, trivial⟩) hw) (q_loadN Tn_83 rfl (fun w1 hw => hw.rg (List.mem_append.2 (.inr (List.mem_append.2 (.inr h15.hb)))) (h15.rg.of_eq 6 5 rfl rfl : rg _ _ _ [.int .i64 x11.R.K, .string x11.R.S, .int .i64 x11.R.V.K, .int .i64 x11.R.V.N, .string x11.R.V.S])) rfl) rfl ?_
      refine mq 9 rfl (by kernel_rfl) (fun w1 hw => Kn.of (fun _ _ _ h => h) (AllIn.mem ⟨gM 0 rfl, gM 1 rfl, gM 2 rfl, trivial⟩) hw) (q_move rfl) rfl ?_
      obtain ⟨x13, hx13, h⟩ := bind_some h
      refine WM.one 10 (by kernel_rfl) (mp rfl (fun _ w1 hw => Kn.of (fun _ _ _ h => h) (AllIn.mem ⟨gM 0 rfl, gM 1 rfl, gM 2 rfl, trivial⟩) hw) (p_call Fun_175 rfl (fun w1 hw => m_s_l9Fit_ok hw.fro N x11.R x6 h9.rsl hx13)) rfl ?_)
      refine mqT 11 [12, 13] rfl (by kernel_rfl) (fun w1 hw => Kn.of (fun _ _ _ h => h) (AllIn.mem ⟨gM 0 rfl, gM 1 rfl, gM 2 rfl, trivial⟩) hw) (q_indexAddrH Sl_73 rfl rfl h15 hx11) rfl <| mq 12 rfl (by kernel_rfl) (fun w1 hw => Kn.of (fun _ _ _ h => h) (AllIn.mem ⟨gM 0 rfl, gM 1 rfl, gM 2 rfl, trivial⟩) hw) (q_fieldAddr Fld_85_2 rfl) rfl ?_
      refine WM.one 13 (by kernel_rfl) (mu rfl (fun hc => by cases hc) (u_setH (js := [0]) (Rr := [[pb0], D6, ob u4, ob u3, ob v9, D5, ob u2]) (o := 6) (vs := [.int .i64 x13.K, .string x13.S, .int .i64 x13.V.K, .int .i64 x13.V.N, .string x13.V.S]) (cs' := [.string x11.Op, .int .i64 x12.K, .string x12.S, .int .i64 x12.V.K, .int .i64 x12.V.N, .string x12.V.S, .int .i64 x13.K, .string x13.S, .int .i64 x13.V.K, .int .i64 x13.V.N, .string x13.V.S]) RTExpr.lasts Sz_83 rfl rfl rfl rfl ⟨rfl, rfl, rfl, rfl, rfl, trivial⟩ rfl h15 rfl rfl (fun ap => (Dj.nil _))) rfl (fun Φ_18 D9 q13 => ?_))
      obtain ⟨⟨ap11, fr13⟩, h16⟩ := q13
      replace ph0_0 := ph0_0.frame RI.lasts fr13 (ap11.o pa0_0)
      replace k4 := k4.frame OTPat.lasts fr13 (ap11.r (i := 6) rfl) (ap11.r (i := 5) rfl)
      replace h9 := h9.frame RS.lasts fr13 (ap11.r (i := 4) rfl) (Dj.nil _)
      replace k7 := k7.frame RTCond.lasts fr13 (ap11.r (i := 3) rfl) (Dj.nil _)
      replace k10 := k10.frame OTAct.lasts fr13 (ap11.r (i := 2) rfl) (ap11.r (i := 1) rfl)
      replace k13 := fr13 _ _ ((ap11.r (i := 0) rfl) _ (by simp)) k13
      refine WM.nil (by kernel_rfl) <| WT.inBlock <| WT.region <| lq (q_move rfl) rfl <| lq (q_add rfl rfl) rfl <| lq (q_assign rfl) rfl <| WL.nil ?_
      have h17 := h16.unfocusF RTExpr.flat (cs := [.string x11.Op, .int .i64 x12.K, .string x12.S, .int .i64 x12.V.K, .int .i64 x12.V.N, .string x12.V.S, .int .i64 x13.K, .string x13.S, .int .i64 x13.V.K, .int .i64 x13.V.N, .string x13.V.S]) (x' := (⟨x11.Op, x12, x13⟩ : TExpr)) ⟨rfl, rfl⟩
      refine WT.inLoop (WT.mono (l' := [(0, .pointer (some ⟨pb0, 0, none⟩)), (4, .pointer (some ⟨b_1, 0, none⟩)), (5, .pointer (some ⟨b_2, 0, none⟩)), (7, v9), (9, .int .i64 s12), (10, .pointer (some ⟨b_3, 0, none⟩)), (11, .int .i64 (IntKind.i64.wrap (s16 + 1)))]) (S' := St w0 Φ_18 [(b_3, .cells #[.int .i64 x10.1.Kind, .string x10.1.Name, v14, .int .i64 x10.1.N, .string x10.1.Undo] 96 (0, 0)), (b_2, .cells #[.string p1, .int .i64 x1.1, u2, u3, u4] 66 (0, 0)), (b_1, .cells #[.string (⟨#[]⟩ : ByteArray), .int .i64 0, .slice none 0 0, .slice none 0 0, .slice none 0 0] 66 (0, 0))] [ob v14, [pb0], D6, ob u4, ob u3, ob v9, D5, ob u2]) ⟨rfl, rfl, rfl, rfl, rfl, rfl, rfl, trivial⟩ (fun w1 hw => (hw.sel (js := [0, 0, 0, 0, 0, 0, 0, 0]) rfl).selO (js := [0, 0, 0]) rfl) ?_)
      exact ih5 (Φ_18, (s15.set s16.toNat (⟨x11.Op, x12, x13⟩ : TExpr)), IntKind.i64.wrap (s16 + 1)) ⟨h, k4, h9, k7, k10, h17, k13, ph0_0⟩
     replace h := ite_f h c4
     refine WT.skip <| WT.inBlock <| WT.region <| lq (q_move rfl) rfl <| lq (q_add rfl rfl) rfl <| lq (q_assign rfl) rfl <| WL.nil ?_
     have h18 := h15.unfocusF RTExpr.flat (cs := [.string x11.Op, .int .i64 x12.K, .string x12.S, .int .i64 x12.V.K, .int .i64 x12.V.N, .string x12.V.S, .int .i64 x11.R.K, .string x11.R.S, .int .i64 x11.R.V.K, .int .i64 x11.R.V.N, .string x11.R.V.S]) (x' := (⟨x11.Op, x12, x11.R⟩ : TExpr)) ⟨rfl, rfl⟩
     refine WT.inLoop (WT.mono (l' := [(0, .pointer (some ⟨pb0, 0, none⟩)), (4, .pointer (some ⟨b_1, 0, none⟩)), (5, .pointer (some ⟨b_2, 0, none⟩)), (7, v9), (9, .int .i64 s12), (10, .pointer (some ⟨b_3, 0, none⟩)), (11, .int .i64 (IntKind.i64.wrap (s16 + 1)))]) (S' := St w0 Φ_17 [(b_3, .cells #[.int .i64 x10.1.Kind, .string x10.1.Name, v14, .int .i64 x10.1.N, .string x10.1.Undo] 96 (0, 0)), (b_2, .cells #[.string p1, .int .i64 x1.1, u2, u3, u4] 66 (0, 0)), (b_1, .cells #[.string (⟨#[]⟩ : ByteArray), .int .i64 0, .slice none 0 0, .slice none 0 0, .slice none 0 0] 66 (0, 0))] [ob v14, [pb0], D6, ob u4, ob u3, ob v9, D5, ob u2]) ⟨rfl, rfl, rfl, rfl, rfl, rfl, rfl, trivial⟩ (fun w1 hw => (hw.sel (js := [0, 0, 0, 0, 0, 0, 0, 0]) rfl).selO (js := [0, 0, 0]) rfl) ?_)
     exact ih5 (Φ_17, (s15.set s16.toNat (⟨x11.Op, x12, x11.R⟩ : TExpr)), IntKind.i64.wrap (s16 + 1)) ⟨h, k4, h9, k7, k10, h18, k13, ph0_0⟩
    replace h := ite_f h c3
    refine WT.exit rfl <| WT.region <| lq (q_fieldAddr Fld_66_4 rfl) rfl <| lq (q_load1 T1_64 rfl (fun w1 hw => hw.rgO (i := 1) rfl 4 1 [u4] rfl)) rfl <| lq (q_loadN Tn_96 rfl (fun w1 hw => hw.rgO (i := 0) rfl 0 5 [.int .i64 x10.1.Kind, .string x10.1.Name, v14, .int .i64 x10.1.N, .string x10.1.Undo] rfl) rfl) rfl ?_
    have rc3 : RC OTAct 5 Φ_16 ([(ob v14 ++ [])] : List (List Nat)) [.int .i64 x10.1.Kind, .string x10.1.Name, v14, .int .i64 x10.1.N, .string x10.1.Undo] ([(⟨x10.1.Kind, x10.1.Name, s15, x10.1.N, x10.1.Undo⟩ : TAct)] : List TAct) := RC.cons (c := [.int .i64 x10.1.Kind, .string x10.1.Name, v14, .int .i64 x10.1.N, .string x10.1.Undo]) (cells := []) ⟨v14, rfl, rfl, k12⟩ rfl (RC.nil _ _ _)
    refine le' (e_lit (vs := [(0, .agg [.int .i64 x10.1.Kind, .string x10.1.Name, v14, .int .i64 x10.1.N, .string x10.1.Undo].toArray)]) (C := #[.int .i64 x10.1.Kind, .string x10.1.Name, v14, .int .i64 x10.1.N, .string x10.1.Undo]) OTAct.lasts Sl_64 Zr_96 rfl rfl rfl rfl (fill_made MC_96_1 (fill_cons (cells := [.int .i64 0, .string ⟨#[]⟩, .slice none 0 0, .int .i64 0, .string ⟨#[]⟩]) (c := [.int .i64 x10.1.Kind, .string x10.1.Name, v14, .int .i64 x10.1.N, .string x10.1.Undo]) (C' := [.int .i64 x10.1.Kind, .string x10.1.Name, v14, .int .i64 x10.1.N, .string x10.1.Undo]) rfl rfl rfl rfl rfl (fill_nil))) rfl rc3 rfl (RC.kn OTAct.knows rc3)) rfl (fun v15 Φ_19 D10 q14 => ?_)
    obtain ⟨fr14, h19⟩ := q14
    replace h19 : OSl OTAct 96 5 Φ_19 ((ob v14 ++ [])) v15 ([(⟨x10.1.Kind, x10.1.Name, s15, x10.1.N, x10.1.Undo⟩ : TAct)] : List TAct) := by simpa [List.append_assoc] using h19
    replace ph0_0 := ph0_0.frame RI.lasts fr14 (Dj.empty _)
    replace k4 := k4.frame OTPat.lasts fr14 (Dj.empty _) (Dj.empty _)
    replace h9 := h9.frame RS.lasts fr14 (Dj.empty _) (Dj.empty _)
    replace k7 := k7.frame RTCond.lasts fr14 (Dj.empty _) (Dj.empty _)
    replace k10 := k10.frame OTAct.lasts fr14 (Dj.empty _) (Dj.empty _)
    replace k13 := fr14 _ _ (by simp) k13
    refine WL.conv (S' := St w0 Φ_19 [(b_3, .cells #[.int .i64 x10.1.Kind, .string x10.1.Name, v14, .int .i64 x10.1.N, .string x10.1.Undo] 96 (0, 0)), (b_2, .cells #[.string p1, .int .i64 x1.1, u2, u3, u4] 66 (0, 0)), (b_1, .cells #[.string (⟨#[]⟩ : ByteArray), .int .i64 0, .slice none 0 0, .slice none 0 0, .slice none 0 0] 66 (0, 0))] [((ob v14 ++ [])), ob v15, [pb0], D6, ob u4, ob u3, ob v9, D5, ob u2]) (fun w1 hw => hw.merge (js := [1]) rfl (SP.eq (by simp [List.append_assoc, ob_nil]))) ?_
    obtain ⟨x14, hx14, h⟩ := bind_some h
    refine le' (e_appO OTAct.lasts OTAct.one Sl_64 Ei_96 rfl rfl rfl rfl rfl (js := [4]) (Rr := [((ob v14 ++ [])), ob v15, [pb0], D6, ob u3, ob v9, D5, ob u2]) rfl k10 h19 (fun ap => (ap.r (i := 3) rfl)) (fun ap => (ap.r (i := 0) rfl)) hx14) rfl (fun v16 Φ_20 D11 q15 => ?_)
    obtain ⟨⟨ap12, fr15⟩, h20⟩ := q15
    replace ph0_0 := ph0_0.frame RI.lasts fr15 (ap12.o pa0_0)
    replace k4 := k4.frame OTPat.lasts fr15 (ap12.r (i := 7) rfl) (ap12.r (i := 6) rfl)
    replace h9 := h9.frame RS.lasts fr15 (ap12.r (i := 5) rfl) (Dj.nil _)
    replace k7 := k7.frame RTCond.lasts fr15 (ap12.r (i := 4) rfl) (Dj.nil _)
    replace k13 := fr15 _ _ ((ap12.r (i := 2) rfl) _ (by simp)) k13
    refine WL.conv (S' := St w0 Φ_20 [(b_3, .cells #[.int .i64 x10.1.Kind, .string x10.1.Name, v14, .int .i64 x10.1.N, .string x10.1.Undo] 96 (0, 0)), (b_2, .cells #[.string p1, .int .i64 x1.1, u2, u3, u4] 66 (0, 0)), (b_1, .cells #[.string (⟨#[]⟩ : ByteArray), .int .i64 0, .slice none 0 0, .slice none 0 0, .slice none 0 0] 66 (0, 0))] [(D6 ++ ((ob v14 ++ []))), ob v16, ob v15, [pb0], ob u3, ob v9, D5, ob u2]) (fun w1 hw => hw.merge (js := [4, 1]) rfl (SP.eq (by simp))) ?_
    refine lq (q_fieldAddr Fld_66_4 rfl) rfl <| ls (s_store (i := 1) (vs := [v16]) (C' := [.string p1, .int .i64 x1.1, u2, u3, v16]) (O' := [(b_3, .cells #[.int .i64 x10.1.Kind, .string x10.1.Name, v14, .int .i64 x10.1.N, .string x10.1.Undo] 96 (0, 0)), (b_2, .cells #[.string p1, .int .i64 x1.1, u2, u3, v16] 66 (0, 0)), (b_1, .cells #[.string (⟨#[]⟩ : ByteArray), .int .i64 0, .slice none 0 0, .slice none 0 0, .slice none 0 0] 66 (0, 0))]) Sz_64 rfl rfl rfl (one_cells h20.one) rfl rfl ⟨h20.one, trivial⟩ rfl rfl) rfl ?_
    refine WL.nil <| WT.inBlock <| WT.region <| lq (q_move rfl) rfl <| lq (q_sub rfl rfl) rfl <| lq (q_assign rfl) rfl <| WL.nil ?_
    refine WT.inLoop (WT.mono (l' := [(0, .pointer (some ⟨pb0, 0, none⟩)), (4, .pointer (some ⟨b_1, 0, none⟩)), (5, .pointer (some ⟨b_2, 0, none⟩)), (7, v9), (9, .int .i64 (IntKind.i64.wrap (s12 - 1)))]) (S' := St w0 Φ_20 [(b_2, .cells #[.string p1, .int .i64 x1.1, u2, u3, v16] 66 (0, 0)), (b_1, .cells #[.string (⟨#[]⟩ : ByteArray), .int .i64 0, .slice none 0 0, .slice none 0 0, .slice none 0 0] 66 (0, 0))] [(D6 ++ ((ob v14 ++ []))), ob v16, [pb0], ob u3, ob v9, D5, ob u2]) ⟨rfl, rfl, rfl, rfl, rfl, trivial⟩ (fun w1 hw => (hw.sel (js := [0, 0, 1, 1, 1, 1, 1]) rfl).selO (js := [1, 1]) rfl) ?_)
    exact ih4 (Φ_20, x14, v16, (D6 ++ ((ob v14 ++ []))), IntKind.i64.wrap (s12 - 1), x10.2.i, x10.2.h) ⟨h, k4, h9, k7, h20, k13, ph0_0⟩
   replace h := ite_f h c2
   refine WT.exit rfl <| WT.seq <| WT.region <| lq (q_loadN Tn_66 rfl (fun w1 hw => hw.rgO (i := 0) rfl 0 5 [.string p1, .int .i64 x1.1, u2, u3, u4] rfl) rfl) rfl <| ls (s_store (i := 1) (vs := [.string p1, .int .i64 x1.1, u2, u3, u4]) (C' := [.string p1, .int .i64 x1.1, u2, u3, u4]) (O' := [(b_2, .cells #[.string p1, .int .i64 x1.1, u2, u3, u4] 66 (0, 0)), (b_1, .cells #[.string p1, .int .i64 x1.1, u2, u3, u4] 66 (0, 0))]) Sz_66 rfl rfl rfl rfl rfl rfl ⟨rfl, rfl, k4.one, k7.one, k10.one, trivial⟩ rfl rfl) rfl ?_
   refine WL.nil ?_
   refine WT.ret Try.func130 (resOk.one (rv_cell Tn_66 rfl (fun w1 hw => hw.rgO (i := 1) rfl 0 5 [.string p1, .int .i64 x1.1, u2, u3, u4] rfl) rfl)) (fun w1 hw => ?_)
   subst hb0
   cases h
   refine postG_of_St (js := [6, 5, 3, 1, 0, 0]) hw rfl ⟨u2, D5, u3, u4, D6, rfl, rfl, k4, k7, k10, rfl, k11⟩
  refine WT.cond rfl (fun c5 => ?_) (fun c5 => ?_)
  ·replace h := ite_t h c5
   refine WT.seq <| WT.region <| lq (q_move rfl) rfl ?_
   obtain ⟨x15, hx15, h⟩ := bind_some h
   refine lc (k_call (js := [1]) (R := [ob (.slice none 0 0), ob v9, D5, ob u2]) Fun_174 rfl rfl (fun w1 hw ap hl => m_s_l7Draw_ok hw.fro N (⟨p0.b, x7.2.i, x7.2.h⟩ : Tl1Cur) ph0_0 h10 (ap.o pa0_0) ap.nd hl hx15)) rfl (fun v17 Φ_21 F10 q16 => ?_)
   obtain ⟨ap13, fr16, rfl, rfl, e8, h21⟩ := q16
   replace ph0_0 := ph0_0.frame RI.lasts fr16 (ap13.o pa0_0)
   replace k4 := k4.frame OTPat.lasts fr16 (ap13.r (i := 3) rfl) (ap13.r (i := 2) rfl)
   replace h9 := h9.frame RS.lasts fr16 (ap13.r (i := 1) rfl) (Dj.nil _)
   replace k6 := k6.frame RTCond.lasts fr16 (ap13.r (i := 0) rfl) (Dj.nil _)
   refine ln (n_alloc (C := #[.int .i64 0, .int .i64 0, .string (⟨#[]⟩ : ByteArray), .int .i64 0, .int .i64 0, .string (⟨#[]⟩ : ByteArray), .int .i64 0, .string (⟨#[]⟩ : ByteArray), .int .i64 0, .int .i64 0, .string (⟨#[]⟩ : ByteArray)]) Zr_206 rfl) rfl (fun b_4 => ?_)
   refine ls (s_store (i := 0) (vs := [.int .i64 x15.1.Op, .int .i64 x15.1.L.K, .string x15.1.L.S, .int .i64 x15.1.L.V.K, .int .i64 x15.1.L.V.N, .string x15.1.L.V.S, .int .i64 x15.1.R.K, .string x15.1.R.S, .int .i64 x15.1.R.V.K, .int .i64 x15.1.R.V.N, .string x15.1.R.V.S]) (C' := [.int .i64 x15.1.Op, .int .i64 x15.1.L.K, .string x15.1.L.S, .int .i64 x15.1.L.V.K, .int .i64 x15.1.L.V.N, .string x15.1.L.V.S, .int .i64 x15.1.R.K, .string x15.1.R.S, .int .i64 x15.1.R.V.K, .int .i64 x15.1.R.V.N, .string x15.1.R.V.S]) (O' := [(b_4, .cells #[.int .i64 x15.1.Op, .int .i64 x15.1.L.K, .string x15.1.L.S, .int .i64 x15.1.L.V.K, .int .i64 x15.1.L.V.N, .string x15.1.L.V.S, .int .i64 x15.1.R.K, .string x15.1.R.S, .int .i64 x15.1.R.V.K, .int .i64 x15.1.R.V.N, .string x15.1.R.V.S] 206 (0, 0)), (b_2, .cells #[.string p1, .int .i64 x1.1, u2, (.slice none 0 0), .slice none 0 0] 66 (0, 0)), (b_1, .cells #[.string (⟨#[]⟩ : ByteArray), .int .i64 0, .slice none 0 0, .slice none 0 0, .slice none 0 0] 66 (0, 0))]) Sz_206 rfl rfl rfl rfl rfl rfl ⟨rfl, rfl, rfl, rfl, rfl, rfl, rfl, rfl, rfl, rfl, rfl, trivial⟩ rfl rfl) rfl ?_
   refine WL.nil <| WT.seq <| WT.region <| lq (q_fieldAddr Fld_206_1 rfl) rfl <| lq (q_loadN Tn_83 rfl (fun w1 hw => hw.rgO (i := 0) rfl 1 5 [.int .i64 x15.1.L.K, .string x15.1.L.S, .int .i64 x15.1.L.V.K, .int .i64 x15.1.L.V.N, .string x15.1.L.V.S] rfl) rfl) rfl <| lq (q_move rfl) rfl ?_
   obtain ⟨x16, hx16, h⟩ := bind_some h
   refine lp (p_call Fun_175 rfl (fun w1 hw => m_s_l9Fit_ok hw.fro N x15.1.L x6 h9.rsl hx16)) rfl <| lq (q_fieldAddr Fld_206_1 rfl) rfl <| ls (s_store (i := 0) (vs := [.int .i64 x16.K, .string x16.S, .int .i64 x16.V.K, .int .i64 x16.V.N, .string x16.V.S]) (C' := [.int .i64 x15.1.Op, .int .i64 x16.K, .string x16.S, .int .i64 x16.V.K, .int .i64 x16.V.N, .string x16.V.S, .int .i64 x15.1.R.K, .string x15.1.R.S, .int .i64 x15.1.R.V.K, .int .i64 x15.1.R.V.N, .string x15.1.R.V.S]) (O' := [(b_4, .cells #[.int .i64 x15.1.Op, .int .i64 x16.K, .string x16.S, .int .i64 x16.V.K, .int .i64 x16.V.N, .string x16.V.S, .int .i64 x15.1.R.K, .string x15.1.R.S, .int .i64 x15.1.R.V.K, .int .i64 x15.1.R.V.N, .string x15.1.R.V.S] 206 (0, 0)), (b_2, .cells #[.string p1, .int .i64 x1.1, u2, (.slice none 0 0), .slice none 0 0] 66 (0, 0)), (b_1, .cells #[.string (⟨#[]⟩ : ByteArray), .int .i64 0, .slice none 0 0, .slice none 0 0, .slice none 0 0] 66 (0, 0))]) Sz_83 rfl rfl rfl rfl rfl rfl ⟨rfl, rfl, rfl, rfl, rfl, trivial⟩ rfl rfl) rfl ?_
   refine WL.nil <| WT.seq <| WT.region <| lq (q_fieldAddr Fld_206_2 rfl) rfl <| lq (q_loadN Tn_83 rfl (fun w1 hw => hw.rgO (i := 0) rfl 6 5 [.int .i64 x15.1.R.K, .string x15.1.R.S, .int .i64 x15.1.R.V.K, .int .i64 x15.1.R.V.N, .string x15.1.R.V.S] rfl) rfl) rfl <| lq (q_move rfl) rfl ?_
   obtain ⟨x17, hx17, h⟩ := bind_some h
   refine lp (p_call Fun_175 rfl (fun w1 hw => m_s_l9Fit_ok hw.fro N x15.1.R x6 h9.rsl hx17)) rfl <| lq (q_fieldAddr Fld_206_2 rfl) rfl <| ls (s_store (i := 0) (vs := [.int .i64 x17.K, .string x17.S, .int .i64 x17.V.K, .int .i64 x17.V.N, .string x17.V.S]) (C' := [.int .i64 x15.1.Op, .int .i64 x16.K, .string x16.S, .int .i64 x16.V.K, .int .i64 x16.V.N, .string x16.V.S, .int .i64 x17.K, .string x17.S, .int .i64 x17.V.K, .int .i64 x17.V.N, .string x17.V.S]) (O' := [(b_4, .cells #[.int .i64 x15.1.Op, .int .i64 x16.K, .string x16.S, .int .i64 x16.V.K, .int .i64 x16.V.N, .string x16.V.S, .int .i64 x17.K, .string x17.S, .int .i64 x17.V.K, .int .i64 x17.V.N, .string x17.V.S] 206 (0, 0)), (b_2, .cells #[.string p1, .int .i64 x1.1, u2, (.slice none 0 0), .slice none 0 0] 66 (0, 0)), (b_1, .cells #[.string (⟨#[]⟩ : ByteArray), .int .i64 0, .slice none 0 0, .slice none 0 0, .slice none 0 0] 66 (0, 0))]) Sz_83 rfl rfl rfl rfl rfl rfl ⟨rfl, rfl, rfl, rfl, rfl, trivial⟩ rfl rfl) rfl ?_
   refine WL.nil <| WT.region <| lq (q_fieldAddr Fld_66_3 rfl) rfl <| lq (q_load1 T1_63 rfl (fun w1 hw => hw.rgO (i := 1) rfl 3 1 [(.slice none 0 0)] rfl)) rfl <| lq (q_loadN Tn_206 rfl (fun w1 hw => hw.rgO (i := 0) rfl 0 11 [.int .i64 x15.1.Op, .int .i64 x16.K, .string x16.S, .int .i64 x16.V.K, .int .i64 x16.V.N, .string x16.V.S, .int .i64 x17.K, .string x17.S, .int .i64 x17.V.K, .int .i64 x17.V.N, .string x17.V.S] rfl) rfl) rfl ?_
   have rc4 : RC RTCond 11 Φ_21 ([[]] : List (List Nat)) [.int .i64 x15.1.Op, .int .i64 x16.K, .string x16.S, .int .i64 x16.V.K, .int .i64 x16.V.N, .string x16.V.S, .int .i64 x17.K, .string x17.S, .int .i64 x17.V.K, .int .i64 x17.V.N, .string x17.V.S] ([(⟨x15.1.Op, x16, x17⟩ : TCond)] : List TCond) := RC.cons (c := [.int .i64 x15.1.Op, .int .i64 x16.K, .string x16.S, .int .i64 x16.V.K, .int .i64 x16.V.N, .string x16.V.S, .int .i64 x17.K, .string x17.S, .int .i64 x17.V.K, .int .i64 x17.V.N, .string x17.V.S]) (cells := []) ⟨rfl, rfl⟩ rfl (RC.nil _ _ _)
   refine le' (e_lit (vs := [(0, .agg [.int .i64 x15.1.Op, .int .i64 x16.K, .string x16.S, .int .i64 x16.V.K, .int .i64 x16.V.N, .string x16.V.S, .int .i64 x17.K, .string x17.S, .int .i64 x17.V.K, .int .i64 x17.V.N, .string x17.V.S].toArray)]) (C := #[.int .i64 x15.1.Op, .int .i64 x16.K, .string x16.S, .int .i64 x16.V.K, .int .i64 x16.V.N, .string x16.V.S, .int .i64 x17.K, .string x17.S, .int .i64 x17.V.K, .int .i64 x17.V.N, .string x17.V.S]) RTCond.lasts Sl_63 Zr_206 rfl rfl rfl rfl (fill_made MC_206_1 (fill_cons (cells := [.int .i64 0, .int .i64 0, .string ⟨#[]⟩, .int .i64 0, .int .i64 0, .string ⟨#[]⟩, .int .i64 0, .string ⟨#[]⟩, .int .i64 0, .int .i64 0, .string ⟨#[]⟩]) (c := [.int .i64 x15.1.Op, .int .i64 x16.K, .string x16.S, .int .i64 x16.V.K, .int .i64 x16.V.N, .string x16.V.S, .int .i64 x17.K, .string x17.S, .int .i64 x17.V.K, .int .i64 x17.V.N, .string x17.V.S]) (C' := [.int .i64 x15.1.Op, .int .i64 x16.K, .string x16.S, .int .i64 x16.V.K, .int .i64 x16.V.N, .string x16.V.S, .int .i64 x17.K, .string x17.S, .int .i64 x17.V.K, .int .i64 x17.V.N, .string x17.V.S]) rfl rfl rfl rfl rfl (fill_nil))) rfl rc4 rfl (by simpa using Kw.nil)) rfl (fun v18 Φ_22 D12 q17 => ?_)
   obtain ⟨fr17, h22⟩ := q17
   replace h22 : OSl RTCond 206 11 Φ_22 [] v18 ([(⟨x15.1.Op, x16, x17⟩ : TCond)] : List TCond) := by simpa using h22
   replace ph0_0 := ph0_0.frame RI.lasts fr17 (Dj.empty _)
   replace k4 := k4.frame OTPat.lasts fr17 (Dj.empty _) (Dj.empty _)
   replace h9 := h9.frame RS.lasts fr17 (Dj.empty _) (Dj.empty _)
   replace k6 := k6.frame RTCond.lasts fr17 (Dj.empty _) (Dj.empty _)
   replace h21 := fr17 _ _ (by simp) h21
   obtain ⟨x18, hx18, h⟩ := bind_some h
   refine le' (e_appF RTCond.lasts RTCond.one RTCond.flat Sl_63 Ei_206 rfl rfl rfl rfl rfl (js := [2]) (Rr := [ob v18, [pb0], ob v9, D5, ob u2]) rfl k6 h22.rsl hx18) rfl (fun v19 Φ_23 D13 q18 => ?_)
   obtain ⟨⟨ap14, fr18⟩, h23⟩ := q18
   replace ph0_0 := ph0_0.frame RI.lasts fr18 (ap14.o pa0_0)
   replace k4 := k4.frame OTPat.lasts fr18 (ap14.r (i := 4) rfl) (ap14.r (i := 3) rfl)
   replace h9 := h9.frame RS.lasts fr18 (ap14.r (i := 2) rfl) (Dj.nil _)
   replace h21 := fr18 _ _ ((ap14.r (i := 1) rfl) _ (by simp)) h21
   refine lq (q_fieldAddr Fld_66_3 rfl) rfl <| ls (s_store (i := 1) (vs := [v19]) (C' := [.string p1, .int .i64 x1.1, u2, v19, .slice none 0 0]) (O' := [(b_4, .cells #[.int .i64 x15.1.Op, .int .i64 x16.K, .string x16.S, .int .i64 x16.V.K, .int .i64 x16.V.N, .string x16.V.S, .int .i64 x17.K, .string x17.S, .int .i64 x17.V.K, .int .i64 x17.V.N, .string x17.V.S] 206 (0, 0)), (b_2, .cells #[.string p1, .int .i64 x1.1, u2, v19, .slice none 0 0] 66 (0, 0)), (b_1, .cells #[.string (⟨#[]⟩ : ByteArray), .int .i64 0, .slice none 0 0, .slice none 0 0, .slice none 0 0] 66 (0, 0))]) Sz_63 rfl rfl rfl (one_cells h23.one) rfl rfl ⟨h23.one, trivial⟩ rfl rfl) rfl ?_
   refine WL.nil <| WT.mono (l' := [(0, .pointer (some ⟨pb0, 0, none⟩)), (4, .pointer (some ⟨b_1, 0, none⟩)), (5, .pointer (some ⟨b_2, 0, none⟩)), (7, v9)]) (S' := St w0 Φ_23 [(b_2, .cells #[.string p1, .int .i64 x1.1, u2, v19, .slice none 0 0] 66 (0, 0)), (b_1, .cells #[.string (⟨#[]⟩ : ByteArray), .int .i64 0, .slice none 0 0, .slice none 0 0, .slice none 0 0] 66 (0, 0))] [ob v19, [pb0], ob v9, D5, ob u2]) ⟨rfl, rfl, rfl, rfl, trivial⟩ (fun w1 hw => (hw.sel (js := [0, 1, 1, 1, 1]) rfl).selO (js := [1, 1]) rfl) ?_
   exact K (Φ_23, x18, v19, x15.2.i, x15.2.h) ⟨h, k4, h9, h23, h21, ph0_0⟩
  replace h := ite_f h c5
  refine WT.skip <| WT.mono (l' := [(0, .pointer (some ⟨pb0, 0, none⟩)), (4, .pointer (some ⟨b_1, 0, none⟩)), (5, .pointer (some ⟨b_2, 0, none⟩)), (7, v9)]) (S' := St w0 Φ_11 [(b_2, .cells #[.string p1, .int .i64 x1.1, u2, (.slice none 0 0), .slice none 0 0] 66 (0, 0)), (b_1, .cells #[.string (⟨#[]⟩ : ByteArray), .int .i64 0, .slice none 0 0, .slice none 0 0, .slice none 0 0] 66 (0, 0))] [ob (.slice none 0 0), [pb0], ob v9, D5, ob u2]) ⟨rfl, rfl, rfl, rfl, trivial⟩ (fun w1 hw => (hw.sel (js := [0, 0, 0, 0, 0]) rfl).selO (js := [0, 0]) rfl) ?_
  exact K (Φ_11, ([] : List TCond), (.slice none 0 0), x7.2.i, x7.2.h) ⟨h, k4, h9, k6, h10, ph0_0⟩
 refine WT.cond rfl (fun c6 => ?_) (fun c6 => ?_)
 ·replace h := ite_t h c6
  refine WT.mix (Kn Φ_8 [] [(b_2, .cells #[.string p1, .int .i64 x1.1, u1, .slice none 0 0, .slice none 0 0] 66 (0, 0)), (b_1, .cells #[.string (⟨#[]⟩ : ByteArray), .int .i64 0, .slice none 0 0, .slice none 0 0, .slice none 0 0] 66 (0, 0))]) (fun i => match i with | 7 => false | _ => true) mixed (fun _ h => h.drew) <| mq 0 rfl (by kernel_rfl) (fun w1 hw => Kn.of (fun k hk _ _ => by simp at hk) (AllIn.mem ⟨gM 0 rfl, gM 1 rfl, trivial⟩) hw) (q_fieldAddr Fld_66_2 rfl) rfl ?_
  refine mq 1 rfl (by kernel_rfl) (fun w1 hw => Kn.of (fun k hk _ _ => by simp at hk) (AllIn.mem ⟨gM 0 rfl, gM 1 rfl, trivial⟩) hw) (q_load1 T1_62 rfl (fun w1 hw => hw.rgO (i := 0) rfl 2 1 [u1] rfl)) rfl <| mq 2 rfl (by kernel_rfl) (fun w1 hw => Kn.of (fun k hk _ _ => by simp at hk) (AllIn.mem ⟨gM 0 rfl, gM 1 rfl, trivial⟩) hw) (q_move rfl) rfl ?_
  obtain ⟨x19, hx19, h⟩ := bind_some h
  refine WM.one 3 (by kernel_rfl) (mc rfl (fun _ v Φx D w1 hq hw => Kn.of (fun k hk _ _ => by simp at hk) (AllIn.mem ⟨gM 0 rfl, gM 1 rfl, trivial⟩) hw) (k_call (js := [0]) (R := [D2, ob u1]) Fun_83 rfl rfl (fun w1 hw ap hl => m_s_l6Draw_ok hw.fro N (⟨p0.b, x5.2.i, x5.2.h⟩ : Tl1Cur) true ph0_0 h8 (ap.o pa0_0) ap.nd hl hx19)) rfl (fun v20 Φ_24 F11 q19 => ?_))
  obtain ⟨ap15, fr19, v21, rfl, rfl, h24, e9, h25⟩ := q19
  replace ph0_0 := ph0_0.frame RI.lasts fr19 (ap15.o pa0_0)
  replace k2 := k2.frame OTPat.lasts fr19 (ap15.r (i := 1) rfl) (ap15.r (i := 0) rfl)
  have rc5 : RC OTPat 3 Φ_24 ([(ob v21 ++ [])] : List (List Nat)) [.string x19.1.Kind, v21, .bool x19.1.Not] ([x19.1] : List TPat) := RC.cons (c := [.string x19.1.Kind, v21, .bool x19.1.Not]) (cells := []) ⟨v21, rfl, rfl, h24⟩ rfl (RC.nil _ _ _)
  refine WM.one 4 (by kernel_rfl) (me rfl (fun _ v Φx D w1 hq hw => Kn.of (fun k hk _ _ => by simp at hk) (AllIn.mem ⟨gM 0 rfl, gM 1 rfl, trivial⟩) hw) (e_lit (vs := [(0, .agg [.string x19.1.Kind, v21, .bool x19.1.Not].toArray)]) (C := #[.string x19.1.Kind, v21, .bool x19.1.Not]) OTPat.lasts Sl_62 Zr_37 rfl rfl rfl rfl (fill_made MC_37_1 (fill_cons (cells := [.string ⟨#[]⟩, .slice none 0 0, .bool false]) (c := [.string x19.1.Kind, v21, .bool x19.1.Not]) (C' := [.string x19.1.Kind, v21, .bool x19.1.Not]) rfl rfl rfl rfl rfl (fill_nil))) rfl rc5 rfl (RC.kn OTPat.knows rc5)) rfl (fun v22 Φ_25 D14 q20 => ?_))
  obtain ⟨fr20, h26⟩ := q20
  replace h26 : OSl OTPat 37 3 Φ_25 ((ob v21 ++ [])) v22 ([x19.1] : List TPat) := by simpa [List.append_assoc] using h26
  replace ph0_0 := ph0_0.frame RI.lasts fr20 (Dj.empty _)
  replace k2 := k2.frame OTPat.lasts fr20 (Dj.empty _) (Dj.empty _)
  replace h25 := fr20 _ _ (by simp) h25
  refine WM.conv (S' := St w0 Φ_25 [(b_2, .cells #[.string p1, .int .i64 x1.1, u1, .slice none 0 0, .slice none 0 0] 66 (0, 0)), (b_1, .cells #[.string (⟨#[]⟩ : ByteArray), .int .i64 0, .slice none 0 0, .slice none 0 0, .slice none 0 0] 66 (0, 0))] [((ob v21 ++ [])), ob v22, [pb0], D2, ob u1]) (fun w1 hw => hw.merge (js := [1]) rfl (SP.eq (by simp [List.append_assoc, ob_nil]))) ?_
  obtain ⟨x20, hx20, h⟩ := bind_some h
  refine WM.one 5 (by kernel_rfl) (me rfl (fun _ v Φx D w1 hq hw => Kn.of (fun k hk _ _ => by simp at hk) (AllIn.mem ⟨gM 0 rfl, gM 1 rfl, trivial⟩) hw) (e_appO OTPat.lasts OTPat.one Sl_62 Ei_37 rfl rfl rfl rfl rfl (js := [4]) (Rr := [((ob v21 ++ [])), ob v22, [pb0], D2]) rfl k2 h26 (fun ap => (ap.r (i := 3) rfl)) (fun ap => (ap.r (i := 0) rfl)) hx20) rfl (fun v23 Φ_26 D15 q21 => ?_))
  obtain ⟨⟨ap16, fr21⟩, h27⟩ := q21
  replace ph0_0 := ph0_0.frame RI.lasts fr21 (ap16.o pa0_0)
  replace h25 := fr21 _ _ ((ap16.r (i := 2) rfl) _ (by simp)) h25
  refine WM.conv (S' := St w0 Φ_26 [(b_2, .cells #[.string p1, .int .i64 x1.1, u1, .slice none 0 0, .slice none 0 0] 66 (0, 0)), (b_1, .cells #[.string (⟨#[]⟩ : ByteArray), .int .i64 0, .slice none 0 0, .slice none 0 0, .slice none 0 0] 66 (0, 0))] [(D2 ++ ((ob v21 ++ []))), ob v23, ob v22, [pb0]]) (fun w1 hw => hw.merge (js := [4, 1]) rfl (SP.eq (by simp))) <| mq 6 rfl (by kernel_rfl) (fun w1 hw => Kn.of (fun k hk _ _ => by simp at hk) (AllIn.mem ⟨gM 0 rfl, gM 1 rfl, trivial⟩) hw) (q_fieldAddr Fld_66_2 rfl) rfl ?_
  refine WM.one 7 (by kernel_rfl) (ms rfl (fun hc => by cases hc) (s_store (i := 0) (vs := [v23]) (C' := [.string p1, .int .i64 x1.1, v23, .slice none 0 0, .slice none 0 0]) (O' := [(b_2, .cells #[.string p1, .int .i64 x1.1, v23, .slice none 0 0, .slice none 0 0] 66 (0, 0)), (b_1, .cells #[.string (⟨#[]⟩ : ByteArray), .int .i64 0, .slice none 0 0, .slice none 0 0, .slice none 0 0] 66 (0, 0))]) Sz_62 rfl rfl rfl (one_cells h27.one) rfl rfl ⟨h27.one, trivial⟩ rfl rfl) rfl ?_)
  refine WM.nil (by kernel_rfl) <| WT.mono (l' := [(0, .pointer (some ⟨pb0, 0, none⟩)), (4, .pointer (some ⟨b_1, 0, none⟩)), (5, .pointer (some ⟨b_2, 0, none⟩))]) (S' := St w0 Φ_26 [(b_2, .cells #[.string p1, .int .i64 x1.1, v23, .slice none 0 0, .slice none 0 0] 66 (0, 0)), (b_1, .cells #[.string (⟨#[]⟩ : ByteArray), .int .i64 0, .slice none 0 0, .slice none 0 0, .slice none 0 0] 66 (0, 0))] [[pb0], (D2 ++ ((ob v21 ++ []))), ob v23]) ⟨rfl, rfl, rfl, trivial⟩ (fun w1 hw => (hw.sel (js := [3, 0, 0]) rfl).selO (js := [0, 0]) rfl) ?_
  exact K (Φ_26, x20, v23, (D2 ++ ((ob v21 ++ []))), x19.2.i, x19.2.h) ⟨h, h27, h25, ph0_0⟩
 replace h := ite_f h c6
 refine WT.skip <| WT.mono (l' := [(0, .pointer (some ⟨pb0, 0, none⟩)), (4, .pointer (some ⟨b_1, 0, none⟩)), (5, .pointer (some ⟨b_2, 0, none⟩))]) (S' := St w0 Φ_8 [(b_2, .cells #[.string p1, .int .i64 x1.1, u1, .slice none 0 0, .slice none 0 0] 66 (0, 0)), (b_1, .cells #[.string (⟨#[]⟩ : ByteArray), .int .i64 0, .slice none 0 0, .slice none 0 0, .slice none 0 0] 66 (0, 0))] [[pb0], D2, ob u1]) ⟨rfl, rfl, rfl, trivial⟩ (fun w1 hw => (hw.sel (js := [0, 0, 0]) rfl).selO (js := [0, 0]) rfl) ?_
 exact K (Φ_8, s1, u1, D2, x5.2.i, x5.2.h) ⟨h, k2, h8, ph0_0⟩
theorem m_s_l3Draw_ok {Φ : Hp} {w : World} (hΦ : In Φ w) (N : Nat) (p0 : Tl1Cur) {pv0_0 : Value} {pG0_0 : List Nat} {pb0 : Nat} (ph0_0 : RSl (RI .u8) 1 Φ pG0_0 pv0_0 p0.b) (pp0 : Φ pb0 = some (.cells #[pv0_0, .int .i64 p0.i, .int .i64 p0.h] 195 (0, 0))) (pd0_0 : Dj pG0_0 [[pb0]].flatten) (hB : [[pb0]].flatten.Nodup) (hlt : ∀ k ∈ [[pb0]].flatten, k < w.heap.size) {r : TFact × Tl1Cur} (h : m_s_l3Draw N p0 = some r) :
  Calls Try.prog 84 [.pointer (some ⟨pb0, 0, none⟩)].toArray w (PostG Φ w [[pb0]].flatten (fun Φ' Fs v => ∃ (sr_0_0 : Value), v = .agg [.string r.1.Kind, sr_0_0].toArray ∧ Fs = [ob sr_0_0, [pb0]] ∧ OSl RTVal 79 3 Φ' [] sr_0_0 r.1.Fields ∧ r.2.b = p0.b ∧ Φ' pb0 = some (.cells #[pv0_0, .int .i64 r.2.i, .int .i64 r.2.h] 195 (0, 0)))) := by
 refine enter Try.func84 rfl Try.ntmps84 rfl (St.start hΦ [[pb0]] hB hlt) ?_
 have pa0_0 : Old ⟨w, [[pb0]].flatten, Φ⟩ pG0_0 := Old.mk hΦ ph0_0.kn pd0_0
 revert pa0_0
 generalize hb0 : (⟨w, [[pb0]].flatten, Φ⟩ : Base) = w0
 intro pa0_0
 unfold m_s_l3Draw at h
 refine WT.seq <| WT.region ?_
 refine ln (n_alloc (C := #[.string (⟨#[]⟩ : ByteArray), .slice none 0 0]) Zr_40 rfl) rfl (fun b_1 => ?_)
 refine WL.nil <| WT.seq <| WT.region <| lq (q_move rfl) rfl ?_
 have rc1 : RC RS 1 Φ ([[], [], [], []] : List (List Nat)) [.string (⟨#[111, 114, 100, 101, 114]⟩ : ByteArray), .string (⟨#[112, 97, 105, 100]⟩ : ByteArray), .string (⟨#[105, 116, 101, 109]⟩ : ByteArray), .string (⟨#[111, 114, 100, 101, 114]⟩ : ByteArray)] ([(⟨#[111, 114, 100, 101, 114]⟩ : ByteArray), (⟨#[112, 97, 105, 100]⟩ : ByteArray), (⟨#[105, 116, 101, 109]⟩ : ByteArray), (⟨#[111, 114, 100, 101, 114]⟩ : ByteArray)] : List ByteArray) := RC.cons (c := [.string (⟨#[111, 114, 100, 101, 114]⟩ : ByteArray)]) (cells := [.string (⟨#[112, 97, 105, 100]⟩ : ByteArray), .string (⟨#[105, 116, 101, 109]⟩ : ByteArray), .string (⟨#[111, 114, 100, 101, 114]⟩ : ByteArray)]) ⟨rfl, rfl⟩ rfl (RC.cons (c := [.string (⟨#[112, 97, 105, 100]⟩ : ByteArray)]) (cells := [.string (⟨#[105, 116, 101, 109]⟩ : ByteArray), .string (⟨#[111, 114, 100, 101, 114]⟩ : ByteArray)]) ⟨rfl, rfl⟩ rfl (RC.cons (c := [.string (⟨#[105, 116, 101, 109]⟩ : ByteArray)]) (cells := [.string (⟨#[111, 114, 100, 101, 114]⟩ : ByteArray)]) ⟨rfl, rfl⟩ rfl (RC.cons (c := [.string (⟨#[111, 114, 100, 101, 114]⟩ : ByteArray)]) (cells := []) ⟨rfl, rfl⟩ rfl (RC.nil _ _ _))))
 refine le' (e_lit (vs := [(0, .string (⟨#[111, 114, 100, 101, 114]⟩ : ByteArray)), (1, .string (⟨#[112, 97, 105, 100]⟩ : ByteArray)), (2, .string (⟨#[105, 116, 101, 109]⟩ : ByteArray)), (3, .string (⟨#[111, 114, 100, 101, 114]⟩ : ByteArray))]) (C := #[.string (⟨#[111, 114, 100, 101, 114]⟩ : ByteArray), .string (⟨#[112, 97, 105, 100]⟩ : ByteArray), .string (⟨#[105, 116, 101, 109]⟩ : ByteArray), .string (⟨#[111, 114, 100, 101, 114]⟩ : ByteArray)]) RS.lasts Sl_68 Zr_9 rfl rfl rfl rfl (fill_made MC_9_4 (fill_cons (cells := [.string ⟨#[]⟩, .string ⟨#[]⟩, .string ⟨#[]⟩, .string ⟨#[]⟩]) (c := [.string (⟨#[111, 114, 100, 101, 114]⟩ : ByteArray)]) (C' := [.string (⟨#[111, 114, 100, 101, 114]⟩ : ByteArray), .string ⟨#[]⟩, .string ⟨#[]⟩, .string ⟨#[]⟩]) rfl rfl rfl rfl rfl (fill_cons (cells := [.string (⟨#[111, 114, 100, 101, 114]⟩ : ByteArray), .string ⟨#[]⟩, .string ⟨#[]⟩, .string ⟨#[]⟩]) (c := [.string (⟨#[112, 97, 105, 100]⟩ : ByteArray)]) (C' := [.string (⟨#[111, 114, 100, 101, 114]⟩ : ByteArray), .string (⟨#[112, 97, 105, 100]⟩ : ByteArray), .string ⟨#[]⟩, .string ⟨#[]⟩]) rfl rfl rfl rfl rfl (fill_cons (cells := [.string (⟨#[111, 114, 100, 101, 114]⟩ : ByteArray), .string (⟨#[112, 97, 105, 100]⟩ : ByteArray), .string ⟨#[]⟩, .string ⟨#[]⟩]) (c := [.string (⟨#[105, 116, 101, 109]⟩ : ByteArray)]) (C' := [.string (⟨#[111, 114, 100, 101, 114]⟩ : ByteArray), .string (⟨#[112, 97, 105, 100]⟩ : ByteArray), .string (⟨#[105, 116, 101, 109]⟩ : ByteArray), .string ⟨#[]⟩]) rfl rfl rfl rfl rfl (fill_cons (cells := [.string (⟨#[111, 114, 100, 101, 114]⟩ : ByteArray), .string (⟨#[112, 97, 105, 100]⟩ : ByteArray), .string (⟨#[105, 116, 101, 109]⟩ : ByteArray), .string ⟨#[]⟩]) (c := [.string (⟨#[111, 114, 100, 101, 114]⟩ : ByteArray)]) (C' := [.string (⟨#[111, 114, 100, 101, 114]⟩ : ByteArray), .string (⟨#[112, 97, 105, 100]⟩ : ByteArray), .string (⟨#[105, 116, 101, 109]⟩ : ByteArray), .string (⟨#[111, 114, 100, 101, 114]⟩ : ByteArray)]) rfl rfl rfl rfl rfl (fill_nil)))))) rfl rc1 rfl (by simpa using Kw.nil)) rfl (fun v1 Φ_1 D1 q1 => ?_)
 obtain ⟨fr1, h1⟩ := q1
 replace h1 : OSl RS 9 1 Φ_1 [] v1 ([(⟨#[111, 114, 100, 101, 114]⟩ : ByteArray), (⟨#[112, 97, 105, 100]⟩ : ByteArray), (⟨#[105, 116, 101, 109]⟩ : ByteArray), (⟨#[111, 114, 100, 101, 114]⟩ : ByteArray)] : List ByteArray) := by simpa using h1
 replace ph0_0 := ph0_0.frame RI.lasts fr1 (Dj.empty _)
 replace pp0 := fr1 _ _ (by simp) pp0
 obtain ⟨x1, hx1, h⟩ := bind_some h
 refine lc (k_call (js := [1]) (R := [ob v1]) Fun_151 rfl rfl (fun w1 hw ap hl => m_s_l1Str_ok hw.fro N p0 ([(⟨#[111, 114, 100, 101, 114]⟩ : ByteArray), (⟨#[112, 97, 105, 100]⟩ : ByteArray), (⟨#[105, 116, 101, 109]⟩ : ByteArray), (⟨#[111, 114, 100, 101, 114]⟩ : ByteArray)] : List ByteArray) ph0_0 pp0 h1.rsl (ap.o pa0_0) (Dj.app (ap.r (i := 0) rfl) (Dj.nil _)) ap.nd hl hx1)) rfl (fun v2 Φ_2 F1 q2 => ?_)
 obtain ⟨ap1, fr2, rfl, rfl, e1, h2⟩ := q2
 replace ph0_0 := ph0_0.frame RI.lasts fr2 (ap1.o pa0_0)
 refine lq (q_build (vs := [(0, .string x1.1)]) (C := #[.string x1.1, .slice none 0 0]) Pl_40 Zr_40 rfl (fill_cons (cells := [.string ⟨#[]⟩, .slice none 0 0]) (c := [.string x1.1]) (C' := [.string x1.1, .slice none 0 0]) rfl rfl rfl rfl rfl (fill_nil))) rfl ?_
 refine ln (n_alloc (C := #[.string (⟨#[]⟩ : ByteArray), .slice none 0 0]) Zr_40 rfl) rfl (fun b_2 => ?_)
 refine ls (s_store (i := 0) (vs := [.string x1.1, .slice none 0 0]) (C' := [.string x1.1, .slice none 0 0]) (O' := [(b_2, .cells #[.string x1.1, .slice none 0 0] 40 (0, 0)), (b_1, .cells #[.string (⟨#[]⟩ : ByteArray), .slice none 0 0] 40 (0, 0))]) Sz_40 rfl rfl rfl rfl rfl rfl ⟨rfl, rfl, trivial⟩ rfl rfl) rfl <| WL.nil <| WT.seq <| WT.region <| lq (q_assign rfl) rfl <| WL.nil <| WT.seq <| WT.seq <| WT.region <| lq (q_fieldAddr Fld_40_0 rfl) rfl ?_
 refine lq (q_load1 T1_9 rfl (fun w1 hw => hw.rgO (i := 0) rfl 0 1 [.string x1.1] rfl)) rfl <| lq (q_seq rfl rfl) rfl <| WL.nil ?_
 refine cut (σ := Int) (fun s => [(0, .pointer (some ⟨pb0, 0, none⟩)), (2, .pointer (some ⟨b_1, 0, none⟩)), (3, .pointer (some ⟨b_2, 0, none⟩)), (4, .int .i64 s)]) (fun s => St w0 Φ_2 [(b_2, .cells #[.string x1.1, .slice none 0 0] 40 (0, 0)), (b_1, .cells #[.string (⟨#[]⟩ : ByteArray), .slice none 0 0] 40 (0, 0))] [[pb0]]) (fun s => m_s_l3Draw_j1 N p0 x1 s = some r) (fun s hm => ?_) (fun K => ?_)
 ·clear h
  revert hm; revert s; intro s1 hm
  have h : m_s_l3Draw_j1 N p0 x1 s1 = some r := hm
  show WT _ _ [(0, .pointer (some ⟨pb0, 0, none⟩)), (2, .pointer (some ⟨b_1, 0, none⟩)), (3, .pointer (some ⟨b_2, 0, none⟩)), (4, .int .i64 s1)] (St w0 Φ_2 [(b_2, .cells #[.string x1.1, .slice none 0 0] 40 (0, 0)), (b_1, .cells #[.string (⟨#[]⟩ : ByteArray), .slice none 0 0] 40 (0, 0))] [[pb0]])
  unfold m_s_l3Draw_j1 at h
  refine WT.seq <| WT.seq <| WT.region <| lq (q_move rfl) rfl ?_
  obtain ⟨x2, hx2, h⟩ := bind_some h
  refine lc (k_call (js := [0]) (R := []) Fun_85 rfl rfl (fun w1 hw ap hl => m_s_l1Once_ok hw.fro N (⟨p0.b, x1.2.i, x1.2.h⟩ : Tl1Cur) 12 ph0_0 h2 (ap.o pa0_0) ap.nd hl hx2)) rfl (fun v3 Φ_3 F2 q3 => ?_)
  obtain ⟨ap2, fr3, rfl, rfl, e2, h3⟩ := q3
  replace ph0_0 := ph0_0.frame RI.lasts fr3 (ap2.o pa0_0)
  refine WL.nil ?_
  refine cut (σ := Hp × Int × Int × Int) (fun s => [(0, .pointer (some ⟨pb0, 0, none⟩)), (2, .pointer (some ⟨b_1, 0, none⟩)), (3, .pointer (some ⟨b_2, 0, none⟩)), (4, .int .i64 s.2.1)]) (fun s => St w0 s.1 [(b_2, .cells #[.string x1.1, .slice none 0 0] 40 (0, 0)), (b_1, .cells #[.string (⟨#[]⟩ : ByteArray), .slice none 0 0] 40 (0, 0))] [[pb0]]) (fun s => m_s_l3Draw_j2 N p0 x1 s.2.1 s.2.2.1 s.2.2.2 = some r ∧ (s.1 pb0 = some (.cells #[pv0_0, .int .i64 s.2.2.1, .int .i64 s.2.2.2] 195 (0, 0))) ∧ (RSl (RI .u8) 1 s.1 pG0_0 pv0_0 p0.b)) (fun s hm => ?_) (fun K => ?_)
  ·clear h
   obtain ⟨Φ_4, s2, s3, s4⟩ := s
   obtain ⟨h, k1, ph0_0⟩ := hm
   replace h : m_s_l3Draw_j2 N p0 x1 s2 s3 s4 = some r := h
   replace k1 : Φ_4 pb0 = some (.cells #[pv0_0, .int .i64 s3, .int .i64 s4] 195 (0, 0)) := k1
   replace ph0_0 : RSl (RI .u8) 1 Φ_4 pG0_0 pv0_0 p0.b := ph0_0
   show WT _ _ [(0, .pointer (some ⟨pb0, 0, none⟩)), (2, .pointer (some ⟨b_1, 0, none⟩)), (3, .pointer (some ⟨b_2, 0, none⟩)), (4, .int .i64 s2)] (St w0 Φ_4 [(b_2, .cells #[.string x1.1, .slice none 0 0] 40 (0, 0)), (b_1, .cells #[.string (⟨#[]⟩ : ByteArray), .slice none 0 0] 40 (0, 0))] [[pb0]])
   unfold m_s_l3Draw_j2 at h
   refine WT.seq <| WT.seq <| WT.region <| lq (q_assign rfl) rfl <| WL.nil <| WT.block <| WT.loop <| WT.conv (S' := St w0 Φ_4 [(b_2, .cells #[.string x1.1, .slice none 0 0] 40 (0, 0)), (b_1, .cells #[.string (⟨#[]⟩ : ByteArray), .slice none 0 0] 40 (0, 0))] (ob (.slice none 0 0) :: [[pb0]])) (fun w1 hw => hw.addNil) ?_
   have k2 := OSl.nil RTVal 79 3 Φ_4
   refine WT.mono (l' := [(0, .pointer (some ⟨pb0, 0, none⟩)), (2, .pointer (some ⟨b_1, 0, none⟩)), (3, .pointer (some ⟨b_2, 0, none⟩)), (4, .int .i64 s2), (5, .int .i64 0)]) (S' := St w0 Φ_4 [(b_2, .cells #[.string x1.1, (.slice none 0 0)] 40 (0, 0)), (b_1, .cells #[.string (⟨#[]⟩ : ByteArray), .slice none 0 0] 40 (0, 0))] [ob (.slice none 0 0), [pb0]]) ⟨rfl, rfl, rfl, rfl, rfl, trivial⟩ (fun w1 hw => (hw.sel (js := [0, 0]) rfl).selO (js := [0, 0]) rfl) ?_
   refine loop_ind (σ := Hp × (List TVal) × Value × Int × Int × Int) (fun s => [(0, .pointer (some ⟨pb0, 0, none⟩)), (2, .pointer (some ⟨b_1, 0, none⟩)), (3, .pointer (some ⟨b_2, 0, none⟩)), (4, .int .i64 s2), (5, .int .i64 s.2.2.2.1)]) (fun s => St w0 s.1 [(b_2, .cells #[.string x1.1, s.2.2.1] 40 (0, 0)), (b_1, .cells #[.string (⟨#[]⟩ : ByteArray), .slice none 0 0] 40 (0, 0))] [ob s.2.2.1, [pb0]]) (fun m s => m_s_l3Draw_l3 N p0 x1 s2 m s.2.1 s.2.2.2.1 s.2.2.2.2.1 s.2.2.2.2.2 = some r ∧ (OSl RTVal 79 3 s.1 [] s.2.2.1 s.2.1) ∧ (s.1 pb0 = some (.cells #[pv0_0, .int .i64 s.2.2.2.2.1, .int .i64 s.2.2.2.2.2] 195 (0, 0))) ∧ (RSl (RI .u8) 1 s.1 pG0_0 pv0_0 p0.b)) (fun s hm => none_ne (show (none : Option (TFact × Tl1Cur)) = some r from hm.1)) (fun n3 ih3 s hm => ?_) N (Φ_4, ([] : List TVal), (.slice none 0 0), 0, s3, s4) ⟨h, k2, k1, ph0_0⟩
   obtain ⟨Φ_5, s5, u1, s6, s7, s8⟩ := s
   obtain ⟨h, k3, k4, ph0_0⟩ := hm
   replace h : m_s_l3Draw_l3 N p0 x1 s2 (n3 + 1) s5 s6 s7 s8 = some r := h
   replace k3 : OSl RTVal 79 3 Φ_5 [] u1 s5 := k3
   replace k4 : Φ_5 pb0 = some (.cells #[pv0_0, .int .i64 s7, .int .i64 s8] 195 (0, 0)) := k4
   replace ph0_0 : RSl (RI .u8) 1 Φ_5 pG0_0 pv0_0 p0.b := ph0_0
   show WT _ _ [(0, .pointer (some ⟨pb0, 0, none⟩)), (2, .pointer (some ⟨b_1, 0, none⟩)), (3, .pointer (some ⟨b_2, 0, none⟩)), (4, .int .i64 s2), (5, .int .i64 s6)] (St w0 Φ_5 [(b_2, .cells #[.string x1.1, u1] 40 (0, 0)), (b_1, .cells #[.string (⟨#[]⟩ : ByteArray), .slice none 0 0] 40 (0, 0))] [ob u1, [pb0]])
   unfold m_s_l3Draw_l3 at h
   refine WT.seq <| WT.seq <| WT.region <| lq (q_move rfl) rfl <| lq (q_move rfl) rfl <| lq (q_lss rfl rfl) rfl <| WL.nil ?_
   refine WT.cond rfl (fun c1 => ?_) (fun c1 => ?_)
   ·replace h := ite_t h c1
    refine WT.skip <| WT.seq <| WT.block <| WT.mix (Kn Φ_5 [] [(b_2, .cells #[.string x1.1, u1] 40 (0, 0)), (b_1, .cells #[.string (⟨#[]⟩ : ByteArray), .slice none 0 0] 40 (0, 0))]) (fun i => match i with | 7 => false | _ => true) mixed (fun _ h => h.drew) <| mq 0 rfl (by kernel_rfl) (fun w1 hw => Kn.of (fun k hk _ _ => by simp at hk) (AllIn.mem ⟨gM 0 rfl, gM 1 rfl, trivial⟩) hw) (q_fieldAddr Fld_40_1 rfl) rfl ?_
    refine mq 1 rfl (by kernel_rfl) (fun w1 hw => Kn.of (fun k hk _ _ => by simp at hk) (AllIn.mem ⟨gM 0 rfl, gM 1 rfl, trivial⟩) hw) (q_load1 T1_38 rfl (fun w1 hw => hw.rgO (i := 0) rfl 1 1 [u1] rfl)) rfl <| mq 2 rfl (by kernel_rfl) (fun w1 hw => Kn.of (fun k hk _ _ => by simp at hk) (AllIn.mem ⟨gM 0 rfl, gM 1 rfl, trivial⟩) hw) (q_move rfl) rfl ?_
    obtain ⟨x3, hx3, h⟩ := bind_some h
    refine WM.one 3 (by kernel_rfl) (mc rfl (fun _ v Φx D w1 hq hw => Kn.of (fun k hk _ _ => by simp at hk) (AllIn.mem ⟨gM 0 rfl, gM 1 rfl, trivial⟩) hw) (k_call (js := [1]) (R := [ob u1]) Fun_86 rfl rfl (fun w1 hw ap hl => m_s_l3Small_ok hw.fro N (⟨p0.b, s7, s8⟩ : Tl1Cur) ph0_0 k4 (ap.o pa0_0) ap.nd hl hx3)) rfl (fun v4 Φ_6 F3 q4 => ?_))
    obtain ⟨ap3, fr4, rfl, rfl, e3, h4⟩ := q4
    replace ph0_0 := ph0_0.frame RI.lasts fr4 (ap3.o pa0_0)
    replace k3 := k3.frame RTVal.lasts fr4 (ap3.r (i := 0) rfl) (Dj.nil _)
    have rc2 : RC RTVal 3 Φ_6 ([[]] : List (List Nat)) [.int .i64 x3.1.K, .int .i64 x3.1.N, .string x3.1.S] ([x3.1] : List TVal) := RC.cons (c := [.int .i64 x3.1.K, .int .i64 x3.1.N, .string x3.1.S]) (cells := []) ⟨rfl, rfl⟩ rfl (RC.nil _ _ _)
    refine WM.one 4 (by kernel_rfl) (me rfl (fun _ v Φx D w1 hq hw => Kn.of (fun k hk _ _ => by simp at hk) (AllIn.mem ⟨gM 0 rfl, gM 1 rfl, trivial⟩) hw) (e_lit (vs := [(0, .agg [.int .i64 x3.1.K, .int .i64 x3.1.N, .string x3.1.S].toArray)]) (C := #[.int .i64 x3.1.K, .int .i64 x3.1.N, .string x3.1.S]) RTVal.lasts Sl_38 Zr_79 rfl rfl rfl rfl (fill_made MC_79_1 (fill_cons (cells := [.int .i64 0, .int .i64 0, .string ⟨#[]⟩]) (c := [.int .i64 x3.1.K, .int .i64 x3.1.N, .string x3.1.S]) (C' := [.int .i64 x3.1.K, .int .i64 x3.1.N, .string x3.1.S]) rfl rfl rfl rfl rfl (fill_nil))) rfl rc2 rfl (by simpa using Kw.nil)) rfl (fun v5 Φ_7 D2 q5 => ?_))
    obtain ⟨fr5, h5⟩ := q5
    replace h5 : OSl RTVal 79 3 Φ_7 [] v5 ([x3.1] : List TVal) := by simpa using h5
    replace ph0_0 := ph0_0.frame RI.lasts fr5 (Dj.empty _)
    replace k3 := k3.frame RTVal.lasts fr5 (Dj.empty _) (Dj.empty _)
    replace h4 := fr5 _ _ (by simp) h4
    obtain ⟨x4, hx4, h⟩ := bind_some h
    refine WM.one 5 (by kernel_rfl) (me rfl (fun _ v Φx D w1 hq hw => Kn.of (fun k hk _ _ => by simp at hk) (AllIn.mem ⟨gM 0 rfl, gM 1 rfl, trivial⟩) hw) (e_appF RTVal.lasts RTVal.one RTVal.flat Sl_38 Ei_79 rfl rfl rfl rfl rfl (js := [2]) (Rr := [ob v5, [pb0]]) rfl k3 h5.rsl hx4) rfl (fun v6 Φ_8 D3 q6 => ?_))
    obtain ⟨⟨ap4, fr6⟩, h6⟩ := q6
    replace ph0_0 := ph0_0.frame RI.lasts fr6 (ap4.o pa0_0)
    replace h4 := fr6 _ _ ((ap4.r (i := 1) rfl) _ (by simp)) h4
    refine mq 6 rfl (by kernel_rfl) (fun w1 hw => Kn.of (fun k hk _ _ => by simp at hk) (AllIn.mem ⟨gM 0 rfl, gM 1 rfl, trivial⟩) hw) (q_fieldAddr Fld_40_1 rfl) rfl ?_
    refine WM.one 7 (by kernel_rfl) (ms rfl (fun hc => by cases hc) (s_store (i := 0) (vs := [v6]) (C' := [.string x1.1, v6]) (O' := [(b_2, .cells #[.string x1.1, v6] 40 (0, 0)), (b_1, .cells #[.string (⟨#[]⟩ : ByteArray), .slice none 0 0] 40 (0, 0))]) Sz_38 rfl rfl rfl (one_cells h6.one) rfl rfl ⟨h6.one, trivial⟩ rfl rfl) rfl ?_)
    refine WM.nil (by kernel_rfl) <| WT.inBlock <| WT.region <| lq (q_move rfl) rfl <| lq (q_add rfl rfl) rfl <| lq (q_assign rfl) rfl <| WL.nil ?_
    refine WT.inLoop (WT.mono (l' := [(0, .pointer (some ⟨pb0, 0, none⟩)), (2, .pointer (some ⟨b_1, 0, none⟩)), (3, .pointer (some ⟨b_2, 0, none⟩)), (4, .int .i64 s2), (5, .int .i64 (IntKind.i64.wrap (s6 + 1)))]) (S' := St w0 Φ_8 [(b_2, .cells #[.string x1.1, v6] 40 (0, 0)), (b_1, .cells #[.string (⟨#[]⟩ : ByteArray), .slice none 0 0] 40 (0, 0))] [ob v6, [pb0]]) ⟨rfl, rfl, rfl, rfl, rfl, trivial⟩ (fun w1 hw => (hw.sel (js := [0, 1]) rfl).selO (js := [0, 0]) rfl) ?_)
    exact ih3 (Φ_8, x4, v6, IntKind.i64.wrap (s6 + 1), x3.2.i, x3.2.h) ⟨h, h6, h4, ph0_0⟩
   replace h := ite_f h c1
   refine WT.exit rfl <| WT.seq <| WT.region <| lq (q_loadN Tn_40 rfl (fun w1 hw => hw.rgO (i := 0) rfl 0 2 [.string x1.1, u1] rfl) rfl) rfl <| ls (s_store (i := 1) (vs := [.string x1.1, u1]) (C' := [.string x1.1, u1]) (O' := [(b_2, .cells #[.string x1.1, u1] 40 (0, 0)), (b_1, .cells #[.string x1.1, u1] 40 (0, 0))]) Sz_40 rfl rfl rfl rfl rfl rfl ⟨rfl, k3.one, trivial⟩ rfl rfl) rfl <| WL.nil ?_
   refine WT.ret Try.func84 (resOk.one (rv_cell Tn_40 rfl (fun w1 hw => hw.rgO (i := 1) rfl 0 2 [.string x1.1, u1] rfl) rfl)) (fun w1 hw => ?_)
   subst hb0
   cases h
   refine postG_of_St (js := [0, 0]) hw rfl ⟨u1, rfl, rfl, k3, rfl, k4⟩
  refine WT.cond rfl (fun c2 => ?_) (fun c2 => ?_)
  ·replace h := ite_t h c2
   refine WT.region <| lq (q_move rfl) rfl ?_
   obtain ⟨x5, hx5, h⟩ := bind_some h
   refine lc (k_call (js := [0]) (R := []) Fun_92 rfl rfl (fun w1 hw ap hl => m_s_l1Below_ok hw.fro N (⟨p0.b, x2.2.i, x2.2.h⟩ : Tl1Cur) 6 ph0_0 h3 (ap.o pa0_0) ap.nd hl hx5)) rfl (fun v7 Φ_9 F4 q7 => ?_)
   obtain ⟨ap5, fr7, rfl, rfl, e4, h7⟩ := q7
   replace ph0_0 := ph0_0.frame RI.lasts fr7 (ap5.o pa0_0)
   refine lq (q_assign rfl) rfl <| WL.nil <| WT.mono (l' := [(0, .pointer (some ⟨pb0, 0, none⟩)), (2, .pointer (some ⟨b_1, 0, none⟩)), (3, .pointer (some ⟨b_2, 0, none⟩)), (4, .int .i64 x5.1)]) (S' := St w0 Φ_9 [(b_2, .cells #[.string x1.1, .slice none 0 0] 40 (0, 0)), (b_1, .cells #[.string (⟨#[]⟩ : ByteArray), .slice none 0 0] 40 (0, 0))] [[pb0]]) ⟨rfl, rfl, rfl, rfl, trivial⟩ (fun w1 hw => (hw.sel (js := [0]) rfl).selO (js := [0, 0]) rfl) ?_
   exact K (Φ_9, x5.1, x5.2.i, x5.2.h) ⟨h, h7, ph0_0⟩
  replace h := ite_f h c2
  refine WT.skip <| WT.mono (l' := [(0, .pointer (some ⟨pb0, 0, none⟩)), (2, .pointer (some ⟨b_1, 0, none⟩)), (3, .pointer (some ⟨b_2, 0, none⟩)), (4, .int .i64 s1)]) (S' := St w0 Φ_3 [(b_2, .cells #[.string x1.1, .slice none 0 0] 40 (0, 0)), (b_1, .cells #[.string (⟨#[]⟩ : ByteArray), .slice none 0 0] 40 (0, 0))] [[pb0]]) ⟨rfl, rfl, rfl, rfl, trivial⟩ (fun w1 hw => (hw.sel (js := [0]) rfl).selO (js := [0, 0]) rfl) ?_
  exact K (Φ_3, s1, x2.2.i, x2.2.h) ⟨h, h3, ph0_0⟩
 refine WT.cond rfl (fun c3 => ?_) (fun c3 => ?_)
 ·replace h := ite_t h c3
  refine WT.region <| lq (q_assign rfl) rfl <| WL.nil <| WT.mono (l' := [(0, .pointer (some ⟨pb0, 0, none⟩)), (2, .pointer (some ⟨b_1, 0, none⟩)), (3, .pointer (some ⟨b_2, 0, none⟩)), (4, .int .i64 2)]) (S' := St w0 Φ_2 [(b_2, .cells #[.string x1.1, .slice none 0 0] 40 (0, 0)), (b_1, .cells #[.string (⟨#[]⟩ : ByteArray), .slice none 0 0] 40 (0, 0))] [[pb0]]) ⟨rfl, rfl, rfl, rfl, trivial⟩ (fun w1 hw => (hw.sel (js := [0]) rfl).selO (js := [0, 0]) rfl) ?_
  exact K (2) h
 replace h := ite_f h c3
 refine WT.skip <| WT.mono (l' := [(0, .pointer (some ⟨pb0, 0, none⟩)), (2, .pointer (some ⟨b_1, 0, none⟩)), (3, .pointer (some ⟨b_2, 0, none⟩)), (4, .int .i64 1)]) (S' := St w0 Φ_2 [(b_2, .cells #[.string x1.1, .slice none 0 0] 40 (0, 0)), (b_1, .cells #[.string (⟨#[]⟩ : ByteArray), .slice none 0 0] 40 (0, 0))] [[pb0]]) ⟨rfl, rfl, rfl, rfl, trivial⟩ (fun w1 hw => (hw.sel (js := [0]) rfl).selO (js := [0, 0]) rfl) ?_
 exact K (1) h
theorem m_s_l4Drop_ok {Φ : Hp} {w : World} (hΦ : In Φ w) (N : Nat) (p0 : TStore) (p1 : Int) {pv0_0 : Value} {pG0_0 : List Nat} {pb0 : Nat} (ph0_0 : RSl RTItem 3 Φ pG0_0 pv0_0 p0.Items) (pp0 : Φ pb0 = some (.cells #[pv0_0, .int .i64 p0.Next] 102 (0, 0))) (pd0_0 : Dj pG0_0 [[pb0]].flatten) (hB : [[pb0]].flatten.Nodup) (hlt : ∀ k ∈ [[pb0]].flatten, k < w.heap.size) {r : Bool × TStore} (h : m_s_l4Drop N p0 p1 = some r) :
  Calls Try.prog 177 [.pointer (some ⟨pb0, 0, none⟩), .int .i64 p1].toArray w (PostG Φ w [[pb0]].flatten (fun Φ' Fs v => ∃ (so_0_0 : Value) (Do_0_0 : List Nat), v = .bool r.1 ∧ Fs = [[pb0], ob so_0_0] ∧ OSl RTItem 169 3 Φ' Do_0_0 so_0_0 r.2.Items ∧ (∀ k ∈ Do_0_0, k ∈ pG0_0) ∧ Φ' pb0 = some (.cells #[so_0_0, .int .i64 r.2.Next] 102 (0, 0)))) := by
 refine enter Try.func177 rfl Try.ntmps177 rfl (St.start hΦ [[pb0]] hB hlt) ?_
 have pa0_0 : Old ⟨w, [[pb0]].flatten, Φ⟩ pG0_0 := Old.mk hΦ ph0_0.kn pd0_0
 revert pa0_0
 generalize hb0 : (⟨w, [[pb0]].flatten, Φ⟩ : Base) = w0
 intro pa0_0
 unfold m_s_l4Drop at h
 refine WT.seq <| WT.region <| lq (q_assign rfl) rfl <| WL.nil <| WT.seq <| WT.region ?_
 have rc1 : RC OTItem 3 Φ ([] : List (List Nat)) [] ([] : List TItem) := RC.nil _ _ _
 refine le' (e_lit (vs := []) (C := #[]) OTItem.lasts Sl_100 Zr_169 rfl rfl rfl rfl (fill_made MC_169_0 (fill_nil)) rfl rc1 rfl (by simpa using Kw.nil)) rfl (fun v1 Φ_1 D1 q1 => ?_)
 obtain ⟨fr1, h1⟩ := q1
 replace h1 : OSl OTItem 169 3 Φ_1 [] v1 ([] : List TItem) := by simpa [List.append_assoc] using h1
 replace ph0_0 := ph0_0.frame RTItem.lasts fr1 (Dj.empty _)
 replace pp0 := fr1 _ _ (by simp) pp0
 refine WL.conv (S' := St w0 Φ_1 [] [[], ob v1, [pb0]]) (fun w1 hw => hw.addNil) <| lq (q_assign rfl) rfl <| WL.nil <| WT.seq <| WT.seq <| WT.region <| lq (q_assign rfl) rfl <| WL.nil <| WT.block <| WT.loop ?_
 replace h1 := h1.gives OTItem.gives
 refine WT.mono (l' := [(0, .pointer (some ⟨pb0, 0, none⟩)), (1, .int .i64 p1), (5, v1), (6, .int .i64 0)]) (S' := St w0 Φ_1 [] [ob v1, [pb0]]) ⟨rfl, rfl, rfl, rfl, trivial⟩ (fun w1 hw => (hw.sel (js := [1, 1]) rfl).selO (js := []) rfl) ?_
 refine loop_ind (σ := Hp × (List TItem) × Value × List Nat × Int) (fun s => [(0, .pointer (some ⟨pb0, 0, none⟩)), (1, .int .i64 p1), (5, s.2.2.1), (6, .int .i64 s.2.2.2.2)]) (fun s => St w0 s.1 [] [ob s.2.2.1, [pb0]]) (fun m s => m_s_l4Drop_l1 N p0 p1 m s.2.1 s.2.2.2.2 = some r ∧ (OSl RTItem 169 3 s.1 s.2.2.2.1 s.2.2.1 s.2.1) ∧ (∀ k ∈ s.2.2.2.1, k ∈ pG0_0) ∧ (s.1 pb0 = some (.cells #[pv0_0, .int .i64 p0.Next] 102 (0, 0))) ∧ (RSl RTItem 3 s.1 pG0_0 pv0_0 p0.Items)) (fun s hm => none_ne (show (none : Option (Bool × TStore)) = some r from hm.1)) (fun n1 ih1 s hm => ?_) N (Φ_1, ([] : List TItem), v1, [], 0) ⟨h, h1, (by simp), pp0, ph0_0⟩
 obtain ⟨Φ_2, s1, u1, D2, s2⟩ := s
 obtain ⟨h, k1, i1, k2, ph0_0⟩ := hm
 replace h : m_s_l4Drop_l1 N p0 p1 (n1 + 1) s1 s2 = some r := h
 replace k1 : OSl RTItem 169 3 Φ_2 D2 u1 s1 := k1
 replace i1 : ∀ k ∈ D2, k ∈ pG0_0 := i1
 replace k2 : Φ_2 pb0 = some (.cells #[pv0_0, .int .i64 p0.Next] 102 (0, 0)) := k2
 replace ph0_0 : RSl RTItem 3 Φ_2 pG0_0 pv0_0 p0.Items := ph0_0
 show WT _ _ [(0, .pointer (some ⟨pb0, 0, none⟩)), (1, .int .i64 p1), (5, u1), (6, .int .i64 s2)] (St w0 Φ_2 [] [ob u1, [pb0]])
 unfold m_s_l4Drop_l1 at h
 refine WT.seq <| WT.seq <| WT.region <| lq (q_move rfl) rfl <| lq (q_move rfl) rfl <| lq (q_nilCheck rfl) rfl <| lq (q_fieldAddr Fld_102_0 rfl) rfl <| lq (q_load1 T1_100 rfl (fun w1 hw => ((rg_cells k2).of_eq 0 1 rfl rfl : rg _ _ _ [pv0_0]).rangeAt hw.fro)) rfl <| lq (q_lenR Sl_100 rfl rfl ph0_0) rfl <| lq (q_lss rfl rfl) rfl <| WL.nil ?_
 refine WT.cond rfl (fun c1 => ?_) (fun c1 => ?_)
 ·replace h := ite_t h c1
  refine WT.skip <| WT.seq <| WT.block <| WT.seq <| WT.region <| lq (q_move rfl) rfl <| lq (q_nilCheck rfl) rfl <| lq (q_fieldAddr Fld_102_0 rfl) rfl <| lq (q_load1 T1_100 rfl (fun w1 hw => ((rg_cells k2).of_eq 0 1 rfl rfl : rg _ _ _ [pv0_0]).rangeAt hw.fro)) rfl <| lq (q_move rfl) rfl ?_
  obtain ⟨x1, hx1, h⟩ := bind_some h
  obtain ⟨cs1, F1, -, g1, hb1, hs1, r1⟩ := ph0_0.el (idx_some hx1).2.2
  obtain ⟨v2, G1, rfl, hq1, h2⟩ := r1
  obtain rfl := hq1.symm
  refine lq (q_indexAddr Sl_100 rfl rfl ph0_0 hx1) rfl <| lq (q_fieldAddr Fld_169_0 rfl) rfl <| lq (q_load1 T1_3 rfl (fun w1 hw => (g1.of_eq 0 1 rfl rfl : rg _ _ _ [.int .i64 x1.Id]).rangeAt hw.fro)) rfl <| lq (q_move rfl) rfl <| lq (q_neq rfl rfl) rfl <| WL.nil ?_
  refine WT.cond rfl (fun c2 => ?_) (fun c2 => ?_)
  ·replace h := ite_t h c2
   refine WT.region <| lq (q_move rfl) rfl <| lq (q_move rfl) rfl <| lq (q_nilCheck rfl) rfl <| lq (q_fieldAddr Fld_102_0 rfl) rfl <| lq (q_load1 T1_100 rfl (fun w1 hw => ((rg_cells k2).of_eq 0 1 rfl rfl : rg _ _ _ [pv0_0]).rangeAt hw.fro)) rfl <| lq (q_move rfl) rfl ?_
   obtain ⟨x2, hx2, h⟩ := bind_some h
   obtain ⟨cs2, F2, -, g2, hb2, hs2, r2⟩ := ph0_0.el (idx_some hx2).2.2
   obtain ⟨v3, G2, rfl, hq2, h3⟩ := r2
   obtain rfl := hq2.symm
   refine lq (q_indexAddr Sl_100 rfl rfl ph0_0 hx2) rfl <| lq (q_loadN Tn_169 rfl (fun w1 hw => (g2.of_eq 0 3 rfl rfl : rg _ _ _ [.int .i64 x2.Id, .string x2.F.Kind, v3]).rangeAt hw.fro) rfl) rfl ?_
   have rc2 : RC RTItem 3 Φ_2 ([G2] : List (List Nat)) [.int .i64 x2.Id, .string x2.F.Kind, v3] ([x2] : List TItem) := RC.cons (c := [.int .i64 x2.Id, .string x2.F.Kind, v3]) (cells := []) ⟨v3, G2, rfl, rfl, h3⟩ rfl (RC.nil _ _ _)
   refine le' (e_lit (vs := [(0, .agg [.int .i64 x2.Id, .string x2.F.Kind, v3].toArray)]) (C := #[.int .i64 x2.Id, .string x2.F.Kind, v3]) RTItem.lasts Sl_100 Zr_169 rfl rfl rfl rfl (fill_made MC_169_1 (fill_cons (cells := [.int .i64 0, .string ⟨#[]⟩, .slice none 0 0]) (c := [.int .i64 x2.Id, .string x2.F.Kind, v3]) (C' := [.int .i64 x2.Id, .string x2.F.Kind, v3]) rfl rfl rfl rfl rfl (fill_nil))) rfl rc2 rfl (RC.kn RTItem.knows rc2)) rfl (fun v4 Φ_3 D3 q2 => ?_)
   obtain ⟨fr2, h4⟩ := q2
   replace h4 : OSl RTItem 169 3 Φ_3 (G2) v4 ([x2] : List TItem) := by simpa [List.append_assoc] using h4
   replace ph0_0 := ph0_0.frame RTItem.lasts fr2 (Dj.empty _)
   replace k1 := k1.frame RTItem.lasts fr2 (Dj.empty _) (Dj.empty _)
   replace k2 := fr2 _ _ (by simp) k2
   obtain ⟨x3, hx3, h⟩ := bind_some h
   refine le' (e_appO RTItem.lasts RTItem.one Sl_100 Ei_169 rfl rfl rfl rfl rfl (js := [1]) (Rr := [ob v4, [pb0]]) rfl k1 h4 (fun ap => (Dj.sub (ap.o pa0_0) i1)) (fun ap => (Dj.sub (Dj.sub (ap.o pa0_0) (fun k h => hs2 k h)) (fun k hk => (by simpa [List.append_assoc] using hk : k ∈ G2)))) hx3) rfl (fun v5 Φ_4 D4 q3 => ?_)
   obtain ⟨⟨ap1, fr3⟩, h5⟩ := q3
   replace ph0_0 := ph0_0.frame RTItem.lasts fr3 (ap1.o pa0_0)
   replace k2 := fr3 _ _ ((ap1.r (i := 1) rfl) _ (by simp)) k2
   refine lq (q_assign rfl) rfl <| WL.nil <| WT.inBlock <| WT.region <| lq (q_move rfl) rfl <| lq (q_add rfl rfl) rfl <| lq (q_assign rfl) rfl <| WL.nil ?_
   refine WT.inLoop (WT.mono (l' := [(0, .pointer (some ⟨pb0, 0, none⟩)), (1, .int .i64 p1), (5, v5), (6, .int .i64 (IntKind.i64.wrap (s2 + 1)))]) (S' := St w0 Φ_4 [] [ob v5, [pb0]]) ⟨rfl, rfl, rfl, rfl, trivial⟩ (fun w1 hw => (hw.sel (js := [0, 1]) rfl).selO (js := []) rfl) ?_)
   exact ih1 (Φ_4, x3, v5, (D2 ++ (G2)), IntKind.i64.wrap (s2 + 1)) ⟨h, h5, (fun k hk => ((List.mem_append.1 hk).elim (fun h => (i1 k h)) (fun h => ((fun k h => hs2 k h) k ((fun k hk => (by simpa [List.append_assoc] using hk : k ∈ G2)) k h))))), k2, ph0_0⟩
  replace h := ite_f h c2
  refine WT.skip <| WT.inBlock <| WT.region <| lq (q_move rfl) rfl <| lq (q_add rfl rfl) rfl <| lq (q_assign rfl) rfl <| WL.nil ?_
  refine WT.inLoop (WT.mono (l' := [(0, .pointer (some ⟨pb0, 0, none⟩)), (1, .int .i64 p1), (5, u1), (6, .int .i64 (IntKind.i64.wrap (s2 + 1)))]) (S' := St w0 Φ_2 [] [ob u1, [pb0]]) ⟨rfl, rfl, rfl, rfl, trivial⟩ (fun w1 hw => (hw.sel (js := [0, 0]) rfl).selO (js := []) rfl) ?_)
  exact ih1 (Φ_2, s1, u1, D2, IntKind.i64.wrap (s2 + 1)) ⟨h, k1, (fun k hk => (i1 k hk)), k2, ph0_0⟩
 replace h := ite_f h c1
 refine WT.exit rfl <| WT.seq <| WT.region <| lq (q_move rfl) rfl <| lq (q_lenR Sl_100 rfl rfl k1.rsl) rfl <| lq (q_move rfl) rfl <| lq (q_nilCheck rfl) rfl <| lq (q_fieldAddr Fld_102_0 rfl) rfl <| lq (q_load1 T1_100 rfl (fun w1 hw => ((rg_cells k2).of_eq 0 1 rfl rfl : rg _ _ _ [pv0_0]).rangeAt hw.fro)) rfl <| lq (q_lenR Sl_100 rfl rfl ph0_0) rfl <| lq (q_lss rfl rfl) rfl <| lq (q_assign rfl) rfl <| WL.nil <| WT.seq <| WT.region <| lq (q_move rfl) rfl <| lq (q_move rfl) rfl ?_
 refine lq (q_nilCheck rfl) rfl <| lq (q_fieldAddr Fld_102_0 rfl) rfl ?_
 refine WL.thw (js := [1]) (R := [ob u1]) rfl k2 (fun Φ_5 ap2 fr4 => ?_)
 replace ph0_0 := ph0_0.frame RTItem.lasts fr4 (ap2.o pa0_0)
 replace k1 := k1.frame RTItem.lasts fr4 (ap2.r (i := 0) rfl) (Dj.sub (ap2.o pa0_0) i1)
 refine ls (s_store (i := 0) (vs := [u1]) (C' := [u1, .int .i64 p0.Next]) (O' := [(pb0, .cells #[u1, .int .i64 p0.Next] 102 (0, 0))]) Sz_100 rfl rfl rfl (one_cells k1.one) rfl rfl ⟨k1.one, trivial⟩ rfl rfl) rfl <| WL.nil <| WT.seq <| WT.region <| lq (q_move rfl) rfl <| lq (q_assign rfl) rfl <| WL.nil ?_
 refine WT.frz (js := [0]) (R := []) rfl (fun Φ_6 fr5 k3 => ?_)
 replace k1 := k1.frame RTItem.lasts fr5 (Dj.empty _) (Dj.empty _)
 refine WT.ret Try.func177 (resOk.one rfl) (fun w1 hw => ?_)
 subst hb0
 cases h
 refine postG_of_St (js := [0, 0]) hw rfl ⟨u1, D2, rfl, rfl, k1, (fun k hk => (i1 k hk)), k3⟩
theorem m_s_l3SameVals_ok {Φ : Hp} {w : World} (hΦ : In Φ w) (N : Nat) (p0 : (List TVal)) (p1 : (List TVal)) {pv0 : Value} {pG0 : List Nat} {pv1 : Value} {pG1 : List Nat} (ph0 : RSl RTVal 3 Φ pG0 pv0 p0) (ph1 : RSl RTVal 3 Φ pG1 pv1 p1) {r : Bool} (h : m_s_l3SameVals N p0 p1 = some r) :
  Calls Try.prog 96 [pv0, pv1].toArray w (Post (.bool r) w) := by
 refine enter Try.func96 rfl Try.ntmps96 rfl (St.start0 hΦ) ?_
 generalize hb0 : (⟨w, [], Φ⟩ : Base) = w0
 unfold m_s_l3SameVals at h
 refine WT.seq <| WT.region <| lq (q_assign rfl) rfl <| WL.nil <| WT.seq <| WT.seq <| WT.region <| lq (q_move rfl) rfl <| lq (q_lenR Sl_38 rfl rfl ph0) rfl <| lq (q_move rfl) rfl <| lq (q_lenR Sl_38 rfl rfl ph1) rfl <| lq (q_neq rfl rfl) rfl <| WL.nil ?_
 refine WT.cond rfl (fun c1 => ?_) (fun c1 => ?_)
 ·replace h := ite_t h c1
  refine WT.seq <| WT.region <| lq (q_assign rfl) rfl <| WL.nil ?_
  refine WT.ret Try.func96 (resOk.one rfl) (fun w1 hw => ?_)
  subst hb0
  cases h
  exact post_of_St hw
 replace h := ite_f h c1
 refine WT.skip <| WT.seq <| WT.seq <| WT.region <| lq (q_assign rfl) rfl <| WL.nil <| WT.block <| WT.loop <| WT.mono (l' := [(0, pv0), (1, pv1), (5, .int .i64 0)]) (S' := St w0 Φ [] []) ⟨rfl, rfl, rfl, trivial⟩ (fun w1 hw => (hw.sel (js := []) rfl).selO (js := []) rfl) ?_
 refine loop_ind (σ := Int) (fun s => [(0, pv0), (1, pv1), (5, .int .i64 s)]) (fun s => St w0 Φ [] []) (fun m s => m_s_l3SameVals_l1 N p0 p1 m s = some r) (fun s hm => none_ne (show (none : Option (Bool)) = some r from hm)) (fun n1 ih1 s hm => ?_) N (0) h
 revert hm; revert s; intro s1 hm
 have h : m_s_l3SameVals_l1 N p0 p1 (n1 + 1) s1 = some r := hm
 show WT _ _ [(0, pv0), (1, pv1), (5, .int .i64 s1)] (St w0 Φ [] [])
 unfold m_s_l3SameVals_l1 at h
 refine WT.seq <| WT.seq <| WT.region <| lq (q_move rfl) rfl <| lq (q_move rfl) rfl <| lq (q_lenR Sl_38 rfl rfl ph0) rfl <| lq (q_lss rfl rfl) rfl <| WL.nil ?_
 refine WT.cond rfl (fun c2 => ?_) (fun c2 => ?_)
 ·replace h := ite_t h c2
  refine WT.skip <| WT.seq <| WT.block <| WT.seq <| WT.draw mixed (by kernel_rfl) (fun _ h => h.drew) <| qq (q_move rfl) rfl <| qq (q_move rfl) rfl ?_
  obtain ⟨x1, hx1, h⟩ := bind_some h
  obtain ⟨cs1, F1, -, g1, hb1, hs1, r1⟩ := ph0.el (idx_some hx1).2.2
  obtain ⟨rfl, -⟩ := r1
  refine qq (q_indexAddr Sl_38 rfl rfl ph0 hx1) rfl <| qq (q_loadN Tn_79 rfl (fun w1 hw => (g1.of_eq 0 3 rfl rfl : rg _ _ _ [.int .i64 x1.K, .int .i64 x1.N, .string x1.S]).rangeAt hw.fro) rfl) rfl <| qq (q_move rfl) rfl <| qq (q_move rfl) rfl ?_
  obtain ⟨x2, hx2, h⟩ := bind_some h
  obtain ⟨cs2, F2, -, g2, hb2, hs2, r2⟩ := ph1.el (idx_some hx2).2.2
  obtain ⟨rfl, -⟩ := r2
  refine qq (q_indexAddr Sl_38 rfl rfl ph1 hx2) rfl <| qq (q_loadN Tn_79 rfl (fun w1 hw => (g2.of_eq 0 3 rfl rfl : rg _ _ _ [.int .i64 x2.K, .int .i64 x2.N, .string x2.S]).rangeAt hw.fro) rfl) rfl <| qq (q_neA EqT_79 rfl rfl rfl (r := eqT_TVal x1 x2) rfl) rfl <| WQ.nil ?_
  refine WT.cond rfl (fun c3 => ?_) (fun c3 => ?_)
  ·replace h := ite_t h c3
   refine WT.seq <| WT.region <| lq (q_assign rfl) rfl <| WL.nil ?_
   refine WT.ret Try.func96 (resOk.one rfl) (fun w1 hw => ?_)
   subst hb0
   cases h
   exact post_of_St hw
  replace h := ite_f h c3
  refine WT.skip <| WT.inBlock <| WT.region <| lq (q_move rfl) rfl <| lq (q_add rfl rfl) rfl <| lq (q_assign rfl) rfl <| WL.nil ?_
  refine WT.inLoop (WT.mono (l' := [(0, pv0), (1, pv1), (5, .int .i64 (IntKind.i64.wrap (s1 + 1)))]) (S' := St w0 Φ [] []) ⟨rfl, rfl, rfl, trivial⟩ (fun w1 hw => (hw.sel (js := []) rfl).selO (js := []) rfl) ?_)
  exact ih1 (IntKind.i64.wrap (s1 + 1)) h
 replace h := ite_f h c2
 refine WT.exit rfl <| WT.seq <| WT.region <| lq (q_assign rfl) rfl <| WL.nil ?_
 refine WT.ret Try.func96 (resOk.one rfl) (fun w1 hw => ?_)
 subst hb0
 cases h
 exact post_of_St hw
theorem m_s_SameFact_ok {Φ : Hp} {w : World} (hΦ : In Φ w) (N : Nat) (p0 : TFact) (p1 : TFact) {pv0_0 : Value} {pG0_0 : List Nat} {pv1_0 : Value} {pG1_0 : List Nat} (ph0_0 : RSl RTVal 3 Φ pG0_0 pv0_0 p0.Fields) (ph1_0 : RSl RTVal 3 Φ pG1_0 pv1_0 p1.Fields) {r : Bool} (h : m_s_SameFact N p0 p1 = some r) :
  Calls Try.prog 213 [.agg [.string p0.Kind, pv0_0].toArray, .agg [.string p1.Kind, pv1_0].toArray].toArray w (Post (.bool r) w) := by
 refine enter Try.func213 rfl Try.ntmps213 rfl (St.start0 hΦ) ?_
 unfold m_s_SameFact at h
 refine WT.seq <| WT.region ?_
 refine ln (n_box (C := #[.string p0.Kind, pv0_0]) rfl rfl) rfl (fun b_1 => ?_)
 refine ln (n_box (C := #[.string p1.Kind, pv1_0]) rfl rfl) rfl (fun b_2 => ?_)
 refine lq (q_assign rfl) rfl <| WL.nil <| WT.seq <| WT.region <| lq (q_fieldAddr Fld_40_0 rfl) rfl <| lq (q_load1 T1_9 rfl (fun w1 hw => hw.rgO (i := 1) rfl 0 1 [.string p0.Kind] rfl)) rfl <| lq (q_fieldAddr Fld_40_0 rfl) rfl <| lq (q_load1 T1_9 rfl (fun w1 hw => hw.rgO (i := 0) rfl 0 1 [.string p1.Kind] rfl)) rfl <| lq (q_seq rfl rfl) rfl <| lq (q_move rfl) rfl ?_
 obtain ⟨b1, hb_1, h⟩ := bind_some h
 refine WL.cutN 6 [(16, .bool b1), (4, .bool false)] ?_ (fun K => ?_)
 rotate_left
 ·refine WL.split (d := 10) rfl (fun c1 => ?_) (fun c1 => ?_)
  ·replace hb_1 := ite_t hb_1 c1
   refine WL.yes rfl rfl <| lq (q_fieldAddr Fld_40_1 rfl) rfl <| WL.yes rfl rfl <| lq (q_load1 T1_38 rfl (fun w1 hw => hw.rgO (i := 1) rfl 1 1 [pv0_0] rfl)) rfl <| WL.yes rfl rfl <| lq (q_fieldAddr Fld_40_1 rfl) rfl <| WL.yes rfl rfl <| lq (q_load1 T1_38 rfl (fun w1 hw => hw.rgO (i := 0) rfl 1 1 [pv1_0] rfl)) rfl <| WL.yes rfl rfl ?_
   obtain ⟨x1, hx1, hb_1⟩ := bind_some hb_1
   refine lp (p_call Fun_96 rfl (fun w1 hw => m_s_l3SameVals_ok hw.fro N p0.Fields p1.Fields ph0_0 ph1_0 hx1)) rfl <| WL.q (q_pick1 rfl rfl) rfl rfl rfl ?_
   cases hb_1
   exact WL.keep (by exact ⟨rfl, rfl, trivial⟩) K
  ·replace hb_1 := ite_f hb_1 c1
   refine WL.no rfl rfl rfl rfl <| WL.no rfl rfl rfl rfl <| WL.no rfl rfl rfl rfl <| WL.no rfl rfl rfl rfl <| WL.no rfl rfl rfl rfl <| WL.q (q_pick0 rfl rfl) rfl rfl rfl ?_
   cases hb_1
   exact WL.keep (by exact ⟨rfl, rfl, trivial⟩) K
 refine lq (q_assign rfl) rfl <| WL.nil ?_
 refine WT.ret Try.func213 (resOk.one rfl) (fun w1 hw => ?_)
 cases h
 exact post_of_St hw
theorem m_s_IdOf_ok {Φ : Hp} {w : World} (hΦ : In Φ w) (N : Nat) (p0 : TStore) (p1 : TFact) {pv0_0 : Value} {pG0_0 : List Nat} {pv1_0 : Value} {pG1_0 : List Nat} (ph0_0 : RSl RTItem 3 Φ pG0_0 pv0_0 p0.Items) (ph1_0 : RSl RTVal 3 Φ pG1_0 pv1_0 p1.Fields) {r : Int} (h : m_s_IdOf N p0 p1 = some r) :
  Calls Try.prog 204 [.agg [pv0_0, .int .i64 p0.Next].toArray, .agg [.string p1.Kind, pv1_0].toArray].toArray w (Post (.int .i64 r) w) := by
 refine enter Try.func204 rfl Try.ntmps204 rfl (St.start0 hΦ) ?_
 generalize hb0 : (⟨w, [], Φ⟩ : Base) = w0
 unfold m_s_IdOf at h
 refine WT.seq <| WT.region ?_
 refine ln (n_box (C := #[pv0_0, .int .i64 p0.Next]) rfl rfl) rfl (fun b_1 => ?_)
 refine ln (n_box (C := #[.string p1.Kind, pv1_0]) rfl rfl) rfl (fun b_2 => ?_)
 refine lq (q_assign rfl) rfl <| WL.nil <| WT.seq <| WT.seq <| WT.region <| lq (q_assign rfl) rfl <| WL.nil <| WT.block <| WT.loop <| WT.mono (l' := [(2, .pointer (some ⟨b_1, 0, none⟩)), (3, .pointer (some ⟨b_2, 0, none⟩)), (5, .int .i64 0)]) (S' := St w0 Φ [(b_2, .cells #[.string p1.Kind, pv1_0] 40 (0, 0)), (b_1, .cells #[pv0_0, .int .i64 p0.Next] 102 (0, 0))] []) ⟨rfl, rfl, rfl, trivial⟩ (fun w1 hw => (hw.sel (js := []) rfl).selO (js := [0, 0]) rfl) ?_
 refine loop_ind (σ := Int) (fun s => [(2, .pointer (some ⟨b_1, 0, none⟩)), (3, .pointer (some ⟨b_2, 0, none⟩)), (5, .int .i64 s)]) (fun s => St w0 Φ [(b_2, .cells #[.string p1.Kind, pv1_0] 40 (0, 0)), (b_1, .cells #[pv0_0, .int .i64 p0.Next] 102 (0, 0))] []) (fun m s => m_s_IdOf_l1 N p0 p1 m s = some r) (fun s hm => none_ne (show (none : Option (Int)) = some r from hm)) (fun n1 ih1 s hm => ?_) N (0) h
 revert hm; revert s; intro s1 hm
 have h : m_s_IdOf_l1 N p0 p1 (n1 + 1) s1 = some r := hm
 show WT _ _ [(2, .pointer (some ⟨b_1, 0, none⟩)), (3, .pointer (some ⟨b_2, 0, none⟩)), (5, .int .i64 s1)] (St w0 Φ [(b_2, .cells #[.string p1.Kind, pv1_0] 40 (0, 0)), (b_1, .cells #[pv0_0, .int .i64 p0.Next] 102 (0, 0))] [])
 unfold m_s_IdOf_l1 at h
 refine WT.seq <| WT.seq <| WT.region <| lq (q_move rfl) rfl <| lq (q_fieldAddr Fld_102_0 rfl) rfl <| lq (q_load1 T1_100 rfl (fun w1 hw => hw.rgO (i := 1) rfl 0 1 [pv0_0] rfl)) rfl <| lq (q_lenR Sl_100 rfl rfl ph0_0) rfl <| lq (q_lss rfl rfl) rfl <| WL.nil ?_
 refine WT.cond rfl (fun c1 => ?_) (fun c1 => ?_)
 ·replace h := ite_t h c1
  refine WT.skip <| WT.seq <| WT.block <| WT.seq <| WT.draw mixed (by kernel_rfl) (fun _ h => h.drew) <| qq (q_fieldAddr Fld_102_0 rfl) rfl <| qq (q_load1 T1_100 rfl (fun w1 hw => hw.rgO (i := 1) rfl 0 1 [pv0_0] rfl)) rfl <| qq (q_move rfl) rfl ?_
  obtain ⟨x1, hx1, h⟩ := bind_some h
  obtain ⟨cs1, F1, -, g1, hb1, hs1, r1⟩ := ph0_0.el (idx_some hx1).2.2
  obtain ⟨v1, G1, rfl, hq1, h1⟩ := r1
  obtain rfl := hq1.symm
  refine qq (q_indexAddr Sl_100 rfl rfl ph0_0 hx1) rfl <| qq (q_fieldAddr Fld_169_1 rfl) rfl <| qq (q_loadN Tn_40 rfl (fun w1 hw => (g1.of_eq 1 2 rfl rfl : rg _ _ _ [.string x1.F.Kind, v1]).rangeAt hw.fro) rfl) rfl <| qq (q_loadN Tn_40 rfl (fun w1 hw => hw.rgO (i := 0) rfl 0 2 [.string p1.Kind, pv1_0] rfl) rfl) rfl ?_
  obtain ⟨x2, hx2, h⟩ := bind_some h
  refine qp (p_call Fun_213 rfl (fun w1 hw => m_s_SameFact_ok hw.fro N x1.F p1 h1 ph1_0 hx2)) rfl <| WQ.nil ?_
  refine WT.cond rfl (fun c2 => ?_) (fun c2 => ?_)
  ·replace h := ite_t h c2
   refine WT.seq <| WT.region <| lq (q_fieldAddr Fld_102_0 rfl) rfl <| lq (q_load1 T1_100 rfl (fun w1 hw => hw.rgO (i := 1) rfl 0 1 [pv0_0] rfl)) rfl <| lq (q_move rfl) rfl ?_
   obtain ⟨x3, hx3, h⟩ := bind_some h
   obtain ⟨cs2, F2, -, g2, hb2, hs2, r2⟩ := ph0_0.el (idx_some hx3).2.2
   obtain ⟨v2, G2, rfl, hq2, h2⟩ := r2
   obtain rfl := hq2.symm
   refine lq (q_indexAddr Sl_100 rfl rfl ph0_0 hx3) rfl <| lq (q_fieldAddr Fld_169_0 rfl) rfl <| lq (q_load1 T1_3 rfl (fun w1 hw => (g2.of_eq 0 1 rfl rfl : rg _ _ _ [.int .i64 x3.Id]).rangeAt hw.fro)) rfl <| lq (q_assign rfl) rfl <| WL.nil ?_
   refine WT.ret Try.func204 (resOk.one rfl) (fun w1 hw => ?_)
   subst hb0
   cases h
   exact post_of_St hw
  replace h := ite_f h c2
  refine WT.skip <| WT.inBlock <| WT.region <| lq (q_move rfl) rfl <| lq (q_add rfl rfl) rfl <| lq (q_assign rfl) rfl <| WL.nil ?_
  refine WT.inLoop (WT.mono (l' := [(2, .pointer (some ⟨b_1, 0, none⟩)), (3, .pointer (some ⟨b_2, 0, none⟩)), (5, .int .i64 (IntKind.i64.wrap (s1 + 1)))]) (S' := St w0 Φ [(b_2, .cells #[.string p1.Kind, pv1_0] 40 (0, 0)), (b_1, .cells #[pv0_0, .int .i64 p0.Next] 102 (0, 0))] []) ⟨rfl, rfl, rfl, trivial⟩ (fun w1 hw => (hw.sel (js := []) rfl).selO (js := [0, 0]) rfl) ?_)
  exact ih1 (IntKind.i64.wrap (s1 + 1)) h
 replace h := ite_f h c1
 refine WT.exit rfl <| WT.seq <| WT.region <| lq (q_assign rfl) rfl <| WL.nil ?_
 refine WT.ret Try.func204 (resOk.one rfl) (fun w1 hw => ?_)
 subst hb0
 cases h
 exact post_of_St hw
theorem m_s_l3Copy_ok {Φ : Hp} {w : World} (hΦ : In Φ w) (N : Nat) (p0 : TFact) {pv0_0 : Value} {pG0_0 : List Nat} (ph0_0 : RSl RTVal 3 Φ pG0_0 pv0_0 p0.Fields) {r : TFact} (h : m_s_l3Copy N p0 = some r) :
  Calls Try.prog 205 [.agg [.string p0.Kind, pv0_0].toArray].toArray w (PostG Φ w [] (fun Φ' Fs v => ∃ (sr_0_0 : Value), v = .agg [.string r.Kind, sr_0_0].toArray ∧ Fs = [ob sr_0_0] ∧ OSl RTVal 79 3 Φ' [] sr_0_0 r.Fields)) := by
 refine enter Try.func205 rfl Try.ntmps205 rfl (St.start0 hΦ) ?_
 have pa0_0 : Old ⟨w, [], Φ⟩ pG0_0 := Old.mk hΦ ph0_0.kn (Dj.empty _)
 unfold m_s_l3Copy at h
 refine WT.seq <| WT.region ?_
 refine ln (n_box (C := #[.string p0.Kind, pv0_0]) rfl rfl) rfl (fun b_1 => ?_)
 refine ln (n_alloc (C := #[.string (⟨#[]⟩ : ByteArray), .slice none 0 0]) Zr_40 rfl) rfl (fun b_2 => ?_)
 refine WL.nil <| WT.seq <| WT.region ?_
 have rc1 : RC RTVal 3 Φ ([] : List (List Nat)) [] ([] : List TVal) := RC.nil _ _ _
 refine le' (e_lit (vs := []) (C := #[]) RTVal.lasts Sl_38 Zr_79 rfl rfl rfl rfl (fill_made MC_79_0 (fill_nil)) rfl rc1 rfl (by simpa using Kw.nil)) rfl (fun v1 Φ_1 D1 q1 => ?_)
 obtain ⟨fr1, h1⟩ := q1
 replace h1 : OSl RTVal 79 3 Φ_1 [] v1 ([] : List TVal) := by simpa using h1
 replace ph0_0 := ph0_0.frame RTVal.lasts fr1 (Dj.empty _)
 refine lq (q_fieldAddr Fld_40_1 rfl) rfl <| lq (q_load1 T1_38 rfl (fun w1 hw => hw.rgO (i := 1) rfl 1 1 [pv0_0] rfl)) rfl ?_
 obtain ⟨x1, hx1, h⟩ := bind_some h
 refine le' (e_appF RTVal.lasts RTVal.one RTVal.flat Sl_38 Ei_79 rfl rfl rfl rfl rfl (js := [0]) (Rr := []) rfl h1 ph0_0 hx1) rfl (fun v2 Φ_2 D2 q2 => ?_)
 obtain ⟨⟨ap1, fr2⟩, h2⟩ := q2
 replace ph0_0 := ph0_0.frame RTVal.lasts fr2 (ap1.o pa0_0)
 refine lq (q_fieldAddr Fld_40_1 rfl) rfl <| ls (s_store (i := 1) (vs := [v2]) (C' := [.string p0.Kind, v2]) (O' := [(b_2, .cells #[.string (⟨#[]⟩ : ByteArray), .slice none 0 0] 40 (0, 0)), (b_1, .cells #[.string p0.Kind, v2] 40 (0, 0))]) Sz_38 rfl rfl rfl (one_cells h2.one) rfl rfl ⟨h2.one, trivial⟩ rfl rfl) rfl <| WL.nil <| WT.seq <| WT.region <| lq (q_loadN Tn_40 rfl (fun w1 hw => hw.rgO (i := 1) rfl 0 2 [.string p0.Kind, v2] rfl) rfl) rfl ?_
 refine ls (s_store (i := 0) (vs := [.string p0.Kind, v2]) (C' := [.string p0.Kind, v2]) (O' := [(b_2, .cells #[.string p0.Kind, v2] 40 (0, 0)), (b_1, .cells #[.string p0.Kind, v2] 40 (0, 0))]) Sz_40 rfl rfl rfl rfl rfl rfl ⟨rfl, h2.one, trivial⟩ rfl rfl) rfl <| WL.nil ?_
 refine WT.ret Try.func205 (resOk.one (rv_cell Tn_40 rfl (fun w1 hw => hw.rgO (i := 0) rfl 0 2 [.string p0.Kind, v2] rfl) rfl)) (fun w1 hw => ?_)
 cases h
 refine postG_of_St (js := [0]) hw rfl ⟨v2, rfl, rfl, h2⟩
theorem m_s_l4Assert_ok {Φ : Hp} {w : World} (hΦ : In Φ w) (N : Nat) (p0 : TStore) (p1 : TFact) {pv0_0 : Value} {pD0_0 : List Nat} {pb0 : Nat} {pv1_0 : Value} {pG1_0 : List Nat} (ph0_0 : OSl RTItem 169 3 Φ pD0_0 pv0_0 p0.Items) (pp0 : Φ pb0 = some (.cells #[pv0_0, .int .i64 p0.Next] 102 (0, 0))) (ph1_0 : RSl RTVal 3 Φ pG1_0 pv1_0 p1.Fields) (pd0_0 : Dj pD0_0 [[pb0], ob pv0_0].flatten) (pd1_0 : Dj pG1_0 [[pb0], ob pv0_0].flatten) (hB : [[pb0], ob pv0_0].flatten.Nodup) (hlt : ∀ k ∈ [[pb0], ob pv0_0].flatten, k < w.heap.size) {r : Int × TStore} (h : m_s_l4Assert N p0 p1 = some r) :
  Calls Try.prog 178 [.pointer (some ⟨pb0, 0, none⟩), .agg [.string p1.Kind, pv1_0].toArray].toArray w (PostG Φ w [[pb0], ob pv0_0].flatten (fun Φ' Fs v => ∃ (so_0_0 : Value) (Do_0_0 : List Nat) (X : List Nat), v = .int .i64 r.1 ∧ Fs = [[pb0], ob so_0_0, X] ∧ OSl RTItem 169 3 Φ' Do_0_0 so_0_0 r.2.Items ∧ (∀ k ∈ Do_0_0, k ∈ (X ++ pD0_0)) ∧ Φ' pb0 = some (.cells #[so_0_0, .int .i64 r.2.Next] 102 (0, 0)))) := by
 refine enter Try.func178 rfl Try.ntmps178 rfl (St.start hΦ [[pb0], ob pv0_0] hB hlt) ?_
 have pa0_0 : Old ⟨w, [[pb0], ob pv0_0].flatten, Φ⟩ pD0_0 := Old.mk hΦ ph0_0.kn pd0_0
 revert pa0_0
 generalize hb0 : (⟨w, [[pb0], ob pv0_0].flatten, Φ⟩ : Base) = w0
 intro pa0_0
 unfold m_s_l4Assert at h
 refine WT.seq <| WT.region ?_
 refine ln (n_box (C := #[.string p1.Kind, pv1_0]) rfl rfl) rfl (fun b_1 => ?_)
 refine lq (q_assign rfl) rfl <| WL.nil <| WT.seq <| WT.draw mixed (by kernel_rfl) (fun _ h => h.drew) <| qq (q_move rfl) rfl <| qq (q_nilCheck rfl) rfl <| qq (q_loadN Tn_102 rfl (fun w1 hw => ((rg_cells pp0).of_eq 0 2 rfl rfl : rg _ _ _ [pv0_0, .int .i64 p0.Next]).rangeAt hw.fro) rfl) rfl <| qq (q_loadN Tn_40 rfl (fun w1 hw => hw.rgO (i := 0) rfl 0 2 [.string p1.Kind, pv1_0] rfl) rfl) rfl ?_
 obtain ⟨x1, hx1, h⟩ := bind_some h
 refine qp (p_call Fun_204 rfl (fun w1 hw => m_s_IdOf_ok hw.fro N p0 p1 ph0_0.rsl ph1_0 hx1)) rfl <| qq (q_assign rfl) rfl <| WQ.nil <| WT.seq <| WT.seq <| WT.region <| lq (q_move rfl) rfl <| lq (q_gtr rfl rfl) rfl <| WL.nil ?_
 refine WT.cond rfl (fun c1 => ?_) (fun c1 => ?_)
 ·replace h := ite_t h c1
  refine WT.seq <| WT.region <| lq (q_move rfl) rfl <| lq (q_assign rfl) rfl <| WL.nil ?_
  refine WT.ret Try.func178 (resOk.one rfl) (fun w1 hw => ?_)
  subst hb0
  cases h
  replace hw := hw.addNil
  refine postG_of_St (js := [1, 1, 0]) hw rfl ⟨pv0_0, pD0_0, [], rfl, rfl, ph0_0, (fun k hk => (List.mem_append.2 (.inr hk))), pp0⟩
 replace h := ite_f h c1
 refine WT.skip <| WT.seq <| WT.seq <| WT.region <| lq (q_move rfl) rfl <| lq (q_nilCheck rfl) rfl <| lq (q_fieldAddr Fld_102_0 rfl) rfl <| lq (q_load1 T1_100 rfl (fun w1 hw => ((rg_cells pp0).of_eq 0 1 rfl rfl : rg _ _ _ [pv0_0]).rangeAt hw.fro)) rfl <| lq (q_lenR Sl_100 rfl rfl ph0_0.rsl) rfl <| lq (q_geq rfl rfl) rfl <| lq (q_move rfl) rfl ?_
 obtain ⟨b1, hb_1, h⟩ := bind_some h
 refine WL.cutN 6 [(26, .bool b1), (0, .pointer (some ⟨pb0, 0, none⟩)), (3, .pointer (some ⟨b_1, 0, none⟩))] ?_ (fun K => ?_)
 rotate_left
 ·refine WL.split (d := 20) rfl (fun c2 => ?_) (fun c2 => ?_)
  ·replace hb_1 := ite_t hb_1 c2
   refine WL.no rfl rfl rfl rfl <| WL.no rfl rfl rfl rfl <| WL.no rfl rfl rfl rfl <| WL.no rfl rfl rfl rfl <| WL.no rfl rfl rfl rfl <| WL.q (q_pick1 rfl rfl) rfl rfl rfl ?_
   cases hb_1
   exact WL.keep (by exact ⟨rfl, rfl, rfl, trivial⟩) K
  ·replace hb_1 := ite_f hb_1 c2
   refine WL.yes rfl rfl <| lq (q_move rfl) rfl <| WL.yes rfl rfl <| lq (q_nilCheck rfl) rfl <| WL.yes rfl rfl <| lq (q_fieldAddr Fld_102_1 rfl) rfl <| WL.yes rfl rfl <| lq (q_load1 T1_3 rfl (fun w1 hw => ((rg_cells pp0).of_eq 1 1 rfl rfl : rg _ _ _ [.int .i64 p0.Next]).rangeAt hw.fro)) rfl <| WL.yes rfl rfl <| lq (q_geq rfl rfl) rfl <| WL.q (q_pick0 rfl rfl) rfl rfl rfl ?_
   cases hb_1
   exact WL.keep (by exact ⟨rfl, rfl, rfl, trivial⟩) K
 refine WL.nil ?_
 refine WT.cond rfl (fun c3 => ?_) (fun c3 => ?_)
 ·replace h := ite_t h c3
  refine WT.seq <| WT.region <| lq (q_assign rfl) rfl <| WL.nil ?_
  refine WT.ret Try.func178 (resOk.one rfl) (fun w1 hw => ?_)
  subst hb0
  cases h
  replace hw := hw.addNil
  refine postG_of_St (js := [1, 1, 0]) hw rfl ⟨pv0_0, pD0_0, [], rfl, rfl, ph0_0, (fun k hk => (List.mem_append.2 (.inr hk))), pp0⟩
 replace h := ite_f h c3
 refine WT.skip <| WT.seq <| WT.mix (Kn Φ [pb0] [(b_1, .cells #[.string p1.Kind, pv1_0] 40 (0, 0))]) (fun i => match i with | 16 => false | _ => true) mixed (fun _ h => h.drew) <| mq 0 rfl (by kernel_rfl) (fun w1 hw => Kn.of (fun _ _ _ h => h) (AllIn.mem ⟨gM 0 rfl, trivial⟩) hw) (q_move rfl) rfl <| mq 1 rfl (by kernel_rfl) (fun w1 hw => Kn.of (fun _ _ _ h => h) (AllIn.mem ⟨gM 0 rfl, trivial⟩) hw) (q_move rfl) rfl ?_
 refine mq 2 rfl (by kernel_rfl) (fun w1 hw => Kn.of (fun _ _ _ h => h) (AllIn.mem ⟨gM 0 rfl, trivial⟩) hw) (q_nilCheck rfl) rfl <| mq 3 rfl (by kernel_rfl) (fun w1 hw => Kn.of (fun _ _ _ h => h) (AllIn.mem ⟨gM 0 rfl, trivial⟩) hw) (q_fieldAddr Fld_102_0 rfl) rfl <| mq 4 rfl (by kernel_rfl) (fun w1 hw => Kn.of (fun _ _ _ h => h) (AllIn.mem ⟨gM 0 rfl, trivial⟩) hw) (q_load1 T1_100 rfl (fun w1 hw => hw.rg (by simp) ((rg_cells pp0).of_eq 0 1 rfl rfl : rg _ _ _ [pv0_0]))) rfl ?_
 refine mq 5 rfl (by kernel_rfl) (fun w1 hw => Kn.of (fun _ _ _ h => h) (AllIn.mem ⟨gM 0 rfl, trivial⟩) hw) (q_move rfl) rfl <| mq 6 rfl (by kernel_rfl) (fun w1 hw => Kn.of (fun _ _ _ h => h) (AllIn.mem ⟨gM 0 rfl, trivial⟩) hw) (q_nilCheck rfl) rfl <| mq 7 rfl (by kernel_rfl) (fun w1 hw => Kn.of (fun _ _ _ h => h) (AllIn.mem ⟨gM 0 rfl, trivial⟩) hw) (q_fieldAddr Fld_102_1 rfl) rfl ?_
 refine mq 8 rfl (by kernel_rfl) (fun w1 hw => Kn.of (fun _ _ _ h => h) (AllIn.mem ⟨gM 0 rfl, trivial⟩) hw) (q_load1 T1_3 rfl (fun w1 hw => hw.rg (by simp) ((rg_cells pp0).of_eq 1 1 rfl rfl : rg _ _ _ [.int .i64 p0.Next]))) rfl <| mq 9 rfl (by kernel_rfl) (fun w1 hw => Kn.of (fun _ _ _ h => h) (AllIn.mem ⟨gM 0 rfl, trivial⟩) hw) (q_loadN Tn_40 rfl (fun w1 hw => hw.rgO (i := 0) rfl 0 2 [.string p1.Kind, pv1_0] rfl) rfl) rfl ?_
 obtain ⟨x2, hx2, h⟩ := bind_some h
 refine WM.one 10 (by kernel_rfl) (mc rfl (fun _ v Φx D w1 hq hw => Kn.of (fun k hk o ho => hq.2.1 k o ((hq.1.r (i := 0) rfl) k hk) ((fun _ _ _ h => h) k hk o ho)) (AllIn.mem ⟨gM 0 rfl, trivial⟩) hw) (k_call (js := []) (R := [[pb0], ob pv0_0]) Fun_205 rfl rfl (fun w1 hw ap hl => m_s_l3Copy_ok hw.fro N p1 ph1_0  hx2)) rfl (fun v1 Φ_1 F1 q1 => ?_))
 obtain ⟨ap1, fr1, v2, rfl, rfl, h1⟩ := q1
 replace ph0_0 := ph0_0.frame RTItem.lasts fr1 (ap1.r (i := 1) rfl) (ap1.o pa0_0)
 replace pp0 := fr1 _ _ ((ap1.r (i := 0) rfl) _ (by simp)) pp0
 refine mq 11 rfl (by kernel_rfl) (fun w1 hw => Kn.of (fun k hk o ho => fr1 k o ((ap1.r (i := 0) rfl) k hk) ((fun _ _ _ h => h) k hk o ho)) (AllIn.mem ⟨gM 0 rfl, trivial⟩) hw) (q_build (vs := [(0, .int .i64 p0.Next), (1, .agg [.string x2.Kind, v2].toArray)]) (C := #[.int .i64 p0.Next, .string x2.Kind, v2]) Pl_169 Zr_169 rfl (fill_cons (cells := [.int .i64 0, .string ⟨#[]⟩, .slice none 0 0]) (c := [.int .i64 p0.Next]) (C' := [.int .i64 p0.Next, .string ⟨#[]⟩, .slice none 0 0]) rfl rfl rfl rfl rfl (fill_cons (cells := [.int .i64 p0.Next, .string ⟨#[]⟩, .slice none 0 0]) (c := [.string x2.Kind, v2]) (C' := [.int .i64 p0.Next, .string x2.Kind, v2]) rfl rfl rfl rfl rfl (fill_nil)))) rfl ?_
 have rc1 : RC OTItem 3 Φ_1 ([(ob v2 ++ [])] : List (List Nat)) [.int .i64 p0.Next, .string x2.Kind, v2] ([(⟨p0.Next, x2⟩ : TItem)] : List TItem) := RC.cons (c := [.int .i64 p0.Next, .string x2.Kind, v2]) (cells := []) ⟨v2, rfl, rfl, h1⟩ rfl (RC.nil _ _ _)
 refine WM.one 12 (by kernel_rfl) (me rfl (fun _ v Φx D w1 hq hw => Kn.of (fun k hk o ho => hq.1 k o (by simp) ((fun k hk o ho => fr1 k o ((ap1.r (i := 0) rfl) k hk) ((fun _ _ _ h => h) k hk o ho)) k hk o ho)) (AllIn.mem ⟨gM 0 rfl, trivial⟩) hw) (e_lit (vs := [(0, .agg [.int .i64 p0.Next, .string x2.Kind, v2].toArray)]) (C := #[.int .i64 p0.Next, .string x2.Kind, v2]) OTItem.lasts Sl_100 Zr_169 rfl rfl rfl rfl (fill_made MC_169_1 (fill_cons (cells := [.int .i64 0, .string ⟨#[]⟩, .slice none 0 0]) (c := [.int .i64 p0.Next, .string x2.Kind, v2]) (C' := [.int .i64 p0.Next, .string x2.Kind, v2]) rfl rfl rfl rfl rfl (fill_nil))) rfl rc1 rfl (RC.kn OTItem.knows rc1)) rfl (fun v3 Φ_2 D1 q2 => ?_))
 obtain ⟨fr2, h2⟩ := q2
 replace h2 : OSl OTItem 169 3 Φ_2 ((ob v2 ++ [])) v3 ([(⟨p0.Next, x2⟩ : TItem)] : List TItem) := by simpa [List.append_assoc] using h2
 replace ph0_0 := ph0_0.frame RTItem.lasts fr2 (Dj.empty _) (Dj.empty _)
 replace pp0 := fr2 _ _ (by simp) pp0
 refine WM.conv (S' := St w0 Φ_2 [(b_1, .cells #[.string p1.Kind, pv1_0] 40 (0, 0))] [((ob v2 ++ [])), ob v3, [pb0], ob pv0_0]) (fun w1 hw => hw.merge (js := [1]) rfl (SP.eq (by simp [List.append_assoc, ob_nil]))) ?_
 obtain ⟨x3, hx3, h⟩ := bind_some h
 refine WM.one 13 (by kernel_rfl) (me rfl (fun _ v Φx D w1 hq hw => Kn.of (fun k hk o ho => hq.1.2 k o ((hq.1.1.r (i := 2) rfl) k hk) ((fun k hk o ho => fr2 k o (by simp) ((fun k hk o ho => fr1 k o ((ap1.r (i := 0) rfl) k hk) ((fun _ _ _ h => h) k hk o ho)) k hk o ho)) k hk o ho)) (AllIn.mem ⟨gM 0 rfl, trivial⟩) hw) (e_appO RTItem.lasts RTItem.one Sl_100 Ei_169 rfl rfl rfl rfl rfl (js := [3]) (Rr := [((ob v2 ++ [])), ob v3, [pb0]]) rfl ph0_0 (h2.gives OTItem.gives) (fun ap => (ap.o pa0_0)) (fun ap => (ap.r (i := 0) rfl)) hx3) rfl (fun v4 Φ_3 D2 q3 => ?_))
 obtain ⟨⟨ap2, fr3⟩, h3⟩ := q3
 replace pp0 := fr3 _ _ ((ap2.r (i := 2) rfl) _ (by simp)) pp0
 refine mqT 14 [15, 16] rfl (by kernel_rfl) (fun w1 hw => Kn.of (fun k hk o ho => fr3 k o ((ap2.r (i := 2) rfl) k hk) ((fun k hk o ho => fr2 k o (by simp) ((fun k hk o ho => fr1 k o ((ap1.r (i := 0) rfl) k hk) ((fun _ _ _ h => h) k hk o ho)) k hk o ho)) k hk o ho)) (AllIn.mem ⟨gM 0 rfl, trivial⟩) hw) (q_nilCheck rfl) rfl <| mq 15 rfl (by kernel_rfl) (fun w1 hw => Kn.of (fun k hk o ho => fr3 k o ((ap2.r (i := 2) rfl) k hk) ((fun k hk o ho => fr2 k o (by simp) ((fun k hk o ho => fr1 k o ((ap1.r (i := 0) rfl) k hk) ((fun _ _ _ h => h) k hk o ho)) k hk o ho)) k hk o ho)) (AllIn.mem ⟨gM 0 rfl, trivial⟩) hw) (q_fieldAddr Fld_102_0 rfl) rfl ?_
 refine WM.thw (js := [3]) (R := [ob v4, ((ob v2 ++ [])), ob v3]) rfl pp0 (fun Φ_4 ap3 fr4 => ?_)
 replace h3 := h3.frame RTItem.lasts fr4 (ap3.r (i := 0) rfl) (Dj.app (ap3.o pa0_0) (ap3.r (i := 1) rfl))
 refine WM.one 16 (by kernel_rfl) (ms rfl (fun hc => by cases hc) (s_store (i := 0) (vs := [v4]) (C' := [v4, .int .i64 p0.Next]) (O' := [(pb0, .cells #[v4, .int .i64 p0.Next] 102 (0, 0)), (b_1, .cells #[.string p1.Kind, pv1_0] 40 (0, 0))]) Sz_100 rfl rfl rfl (one_cells h3.one) rfl rfl ⟨h3.one, trivial⟩ rfl rfl) rfl ?_)
 refine WM.nil (by kernel_rfl) <| WT.seq <| WT.region <| lq (q_move rfl) rfl <| lq (q_move rfl) rfl <| lq (q_nilCheck rfl) rfl <| lq (q_fieldAddr Fld_102_1 rfl) rfl <| lq (q_load1 T1_3 rfl (fun w1 hw => hw.rgO (i := 0) rfl 1 1 [.int .i64 p0.Next] rfl)) rfl <| lq (q_add rfl rfl) rfl <| lq (q_nilCheck rfl) rfl <| lq (q_fieldAddr Fld_102_1 rfl) rfl <| ls (s_store (i := 0) (vs := [.int .i64 (IntKind.i64.wrap (p0.Next + 1))]) (C' := [v4, .int .i64 (IntKind.i64.wrap (p0.Next + 1))]) (O' := [(pb0, .cells #[v4, .int .i64 (IntKind.i64.wrap (p0.Next + 1))] 102 (0, 0)), (b_1, .cells #[.string p1.Kind, pv1_0] 40 (0, 0))]) Sz_3 rfl rfl rfl rfl rfl rfl ⟨rfl, trivial⟩ rfl rfl) rfl ?_
 refine WL.nil <| WT.seq <| WT.region <| lq (q_move rfl) rfl <| lq (q_nilCheck rfl) rfl <| lq (q_fieldAddr Fld_102_1 rfl) rfl <| lq (q_load1 T1_3 rfl (fun w1 hw => hw.rgO (i := 0) rfl 1 1 [.int .i64 (IntKind.i64.wrap (p0.Next + 1))] rfl)) rfl <| lq (q_sub rfl rfl) rfl <| lq (q_assign rfl) rfl <| WL.nil ?_
 refine WT.frz (js := [0]) (R := [(b_1, .cells #[.string p1.Kind, pv1_0] 40 (0, 0))]) rfl (fun Φ_5 fr5 k1 => ?_)
 replace h3 := h3.frame RTItem.lasts fr5 (Dj.empty _) (Dj.empty _)
 refine WT.ret Try.func178 (resOk.one rfl) (fun w1 hw => ?_)
 subst hb0
 cases h
 replace hw := hw.merge (js := [2]) (F := [((ob v2 ++ []))].flatten) rfl (SP.eq (by simp))
 refine postG_of_St (js := [1, 1, 0]) hw rfl ⟨v4, (pD0_0 ++ ((ob v2 ++ []))), [((ob v2 ++ []))].flatten, rfl, rfl, h3, (fun k hk => ((List.mem_append.1 hk).elim (fun h => (List.mem_append.2 (.inr h))) (fun h => (List.mem_append.2 (.inl (List.mem_flatten.2 ⟨((ob v2 ++ [])), by simp, h⟩)))))), k1⟩
theorem m_s_l4Draw_ok {Φ : Hp} {w : World} (hΦ : In Φ w) (N : Nat) (p0 : Tl1Cur) {pv0_0 : Value} {pG0_0 : List Nat} {pb0 : Nat} (ph0_0 : RSl (RI .u8) 1 Φ pG0_0 pv0_0 p0.b) (pp0 : Φ pb0 = some (.cells #[pv0_0, .int .i64 p0.i, .int .i64 p0.h] 195 (0, 0))) (pd0_0 : Dj pG0_0 [[pb0]].flatten) (hB : [[pb0]].flatten.Nodup) (hlt : ∀ k ∈ [[pb0]].flatten, k < w.heap.size) {r : TStore × Tl1Cur} (h : m_s_l4Draw N p0 = some r) :
  Calls Try.prog 131 [.pointer (some ⟨pb0, 0, none⟩)].toArray w (PostG Φ w [[pb0]].flatten (fun Φ' Fs v => ∃ (sr_0_0 : Value) (Dr_0_0 : List Nat) (X : List Nat), v = .agg [sr_0_0, .int .i64 r.1.Next].toArray ∧ Fs = [ob sr_0_0, [pb0], X] ∧ OSl RTItem 169 3 Φ' Dr_0_0 sr_0_0 r.1.Items ∧ (∀ k ∈ Dr_0_0, k ∈ X) ∧ r.2.b = p0.b ∧ Φ' pb0 = some (.cells #[pv0_0, .int .i64 r.2.i, .int .i64 r.2.h] 195 (0, 0)))) := by
 refine enter Try.func131 rfl Try.ntmps131 rfl (St.start hΦ [[pb0]] hB hlt) ?_
 have pa0_0 : Old ⟨w, [[pb0]].flatten, Φ⟩ pG0_0 := Old.mk hΦ ph0_0.kn pd0_0
 revert pa0_0
 generalize hb0 : (⟨w, [[pb0]].flatten, Φ⟩ : Base) = w0
 intro pa0_0
 unfold m_s_l4Draw at h
 refine WT.seq <| WT.region ?_
 refine ln (n_alloc (C := #[.slice none 0 0, .int .i64 0]) Zr_102 rfl) rfl (fun b_1 => ?_)
 refine WL.nil <| WT.seq <| WT.region <| lq (q_build (vs := [(1, .int .i64 1)]) (C := #[.slice none 0 0, .int .i64 1]) Pl_102 Zr_102 rfl (fill_cons (cells := [.slice none 0 0, .int .i64 0]) (c := [.int .i64 1]) (C' := [.slice none 0 0, .int .i64 1]) rfl rfl rfl rfl rfl (fill_nil))) rfl ?_
 refine ln (n_alloc (C := #[.slice none 0 0, .int .i64 0]) Zr_102 rfl) rfl (fun b_2 => ?_)
 refine ls (s_store (i := 0) (vs := [.slice none 0 0, .int .i64 1]) (C' := [.slice none 0 0, .int .i64 1]) (O' := [(b_2, .cells #[.slice none 0 0, .int .i64 1] 102 (0, 0)), (b_1, .cells #[.slice none 0 0, .int .i64 0] 102 (0, 0))]) Sz_102 rfl rfl rfl rfl rfl rfl ⟨rfl, rfl, trivial⟩ rfl rfl) rfl <| WL.nil <| WT.seq <| WT.seq <| WT.region <| lq (q_move rfl) rfl ?_
 obtain ⟨x1, hx1, h⟩ := bind_some h
 refine lc (k_call (js := [0]) (R := []) Fun_92 rfl rfl (fun w1 hw ap hl => m_s_l1Below_ok hw.fro N p0 9 ph0_0 pp0 (ap.o pa0_0) ap.nd hl hx1)) rfl (fun v1 Φ_1 F1 q1 => ?_)
 obtain ⟨ap1, fr1, rfl, rfl, e1, h1⟩ := q1
 replace ph0_0 := ph0_0.frame RI.lasts fr1 (ap1.o pa0_0)
 refine lq (q_assign rfl) rfl <| WL.nil <| WT.block <| WT.loop <| WT.conv (S' := St w0 Φ_1 [(b_2, .cells #[.slice none 0 0, .int .i64 1] 102 (0, 0)), (b_1, .cells #[.slice none 0 0, .int .i64 0] 102 (0, 0))] ([] :: [[pb0]])) (fun w1 hw => hw.addNil) <| WT.conv (S' := St w0 Φ_1 [(b_2, .cells #[.slice none 0 0, .int .i64 1] 102 (0, 0)), (b_1, .cells #[.slice none 0 0, .int .i64 0] 102 (0, 0))] (ob (.slice none 0 0) :: [[], [pb0]])) (fun w1 hw => hw.addNil) ?_
 have k1 := OSl.nil RTItem 169 3 Φ_1
 refine WT.mono (l' := [(0, .pointer (some ⟨pb0, 0, none⟩)), (2, .pointer (some ⟨b_1, 0, none⟩)), (3, .pointer (some ⟨b_2, 0, none⟩)), (4, .int .i64 x1.1)]) (S' := St w0 Φ_1 [(b_2, .cells #[(.slice none 0 0), .int .i64 1] 102 (0, 0)), (b_1, .cells #[.slice none 0 0, .int .i64 0] 102 (0, 0))] [ob (.slice none 0 0), [], [pb0]]) ⟨rfl, rfl, rfl, rfl, trivial⟩ (fun w1 hw => (hw.sel (js := [0, 0, 0]) rfl).selO (js := [0, 0]) rfl) ?_
 refine loop_ind (σ := Hp × List Nat × (List TItem) × Value × List Nat × Int × Int × Int × Int) (fun s => [(0, .pointer (some ⟨pb0, 0, none⟩)), (2, .pointer (some ⟨b_1, 0, none⟩)), (3, .pointer (some ⟨b_2, 0, none⟩)), (4, .int .i64 s.2.2.2.2.2.1)]) (fun s => St w0 s.1 [(b_2, .cells #[s.2.2.2.1, .int .i64 s.2.2.2.2.2.2.2.2] 102 (0, 0)), (b_1, .cells #[.slice none 0 0, .int .i64 0] 102 (0, 0))] [ob s.2.2.2.1, s.2.1, [pb0]]) (fun m s => m_s_l4Draw_l1 N p0 m s.2.2.1 s.2.2.2.2.2.1 s.2.2.2.2.2.2.1 s.2.2.2.2.2.2.2.1 s.2.2.2.2.2.2.2.2 = some r ∧ (OSl RTItem 169 3 s.1 s.2.2.2.2.1 s.2.2.2.1 s.2.2.1) ∧ (∀ k ∈ s.2.2.2.2.1, k ∈ s.2.1) ∧ (s.1 pb0 = some (.cells #[pv0_0, .int .i64 s.2.2.2.2.2.2.1, .int .i64 s.2.2.2.2.2.2.2.1] 195 (0, 0))) ∧ (RSl (RI .u8) 1 s.1 pG0_0 pv0_0 p0.b)) (fun s hm => none_ne (show (none : Option (TStore × Tl1Cur)) = some r from hm.1)) (fun n1 ih1 s hm => ?_) N (Φ_1, [], ([] : List TItem), (.slice none 0 0), [], x1.1, x1.2.i, x1.2.h, 1) ⟨h, k1, (by simp), h1, ph0_0⟩
 obtain ⟨Φ_2, X1, s1, u1, D1, s2, s3, s4, s5⟩ := s
 obtain ⟨h, k2, i1, k3, ph0_0⟩ := hm
 replace h : m_s_l4Draw_l1 N p0 (n1 + 1) s1 s2 s3 s4 s5 = some r := h
 replace k2 : OSl RTItem 169 3 Φ_2 D1 u1 s1 := k2
 replace i1 : ∀ k ∈ D1, k ∈ X1 := i1
 replace k3 : Φ_2 pb0 = some (.cells #[pv0_0, .int .i64 s3, .int .i64 s4] 195 (0, 0)) := k3
 replace ph0_0 : RSl (RI .u8) 1 Φ_2 pG0_0 pv0_0 p0.b := ph0_0
 show WT _ _ [(0, .pointer (some ⟨pb0, 0, none⟩)), (2, .pointer (some ⟨b_1, 0, none⟩)), (3, .pointer (some ⟨b_2, 0, none⟩)), (4, .int .i64 s2)] (St w0 Φ_2 [(b_2, .cells #[u1, .int .i64 s5] 102 (0, 0)), (b_1, .cells #[.slice none 0 0, .int .i64 0] 102 (0, 0))] [ob u1, X1, [pb0]])
 unfold m_s_l4Draw_l1 at h
 refine WT.seq <| WT.seq <| WT.region <| lq (q_move rfl) rfl <| lq (q_gtr rfl rfl) rfl <| WL.nil ?_
 refine WT.cond rfl (fun c1 => ?_) (fun c1 => ?_)
 ·replace h := ite_t h c1
  refine WT.skip <| WT.seq <| WT.block <| WT.seq <| WT.seq <| WT.region <| lq (q_move rfl) rfl ?_
  obtain ⟨x2, hx2, h⟩ := bind_some h
  refine lc (k_call (js := [2]) (R := [ob u1, X1]) Fun_85 rfl rfl (fun w1 hw ap hl => m_s_l1Once_ok hw.fro N (⟨p0.b, s3, s4⟩ : Tl1Cur) 5 ph0_0 k3 (ap.o pa0_0) ap.nd hl hx2)) rfl (fun v2 Φ_3 F2 q2 => ?_)
  obtain ⟨ap2, fr2, rfl, rfl, e2, h2⟩ := q2
  replace ph0_0 := ph0_0.frame RI.lasts fr2 (ap2.o pa0_0)
  replace k2 := k2.frame RTItem.lasts fr2 (ap2.r (i := 0) rfl) (Dj.sub (ap2.r (i := 1) rfl) i1)
  refine lq (q_move rfl) rfl ?_
  obtain ⟨b3, hb_1, h⟩ := bind_some h
  refine WL.cutN 5 [(19, .bool b3), (0, .pointer (some ⟨pb0, 0, none⟩)), (2, .pointer (some ⟨b_1, 0, none⟩)), (3, .pointer (some ⟨b_2, 0, none⟩)), (4, .int .i64 s2)] ?_ (fun K => ?_)
  rotate_left
  ·refine WL.split (d := 14) rfl (fun c2 => ?_) (fun c2 => ?_)
   ·replace hb_1 := ite_t hb_1 c2
    refine WL.yes rfl rfl <| lq (q_fieldAddr Fld_102_0 rfl) rfl <| WL.yes rfl rfl <| lq (q_load1 T1_100 rfl (fun w1 hw => hw.rgO (i := 0) rfl 0 1 [u1] rfl)) rfl <| WL.yes rfl rfl <| lq (q_lenR Sl_100 rfl rfl k2.rsl) rfl <| WL.yes rfl rfl <| lq (q_gtr rfl rfl) rfl <| WL.q (q_pick1 rfl rfl) rfl rfl rfl ?_
    cases hb_1
    exact WL.keep (by exact ⟨rfl, rfl, rfl, rfl, rfl, trivial⟩) K
   ·replace hb_1 := ite_f hb_1 c2
    refine WL.no rfl rfl rfl rfl <| WL.no rfl rfl rfl rfl <| WL.no rfl rfl rfl rfl <| WL.no rfl rfl rfl rfl <| WL.q (q_pick0 rfl rfl) rfl rfl rfl ?_
    cases hb_1
    exact WL.keep (by exact ⟨rfl, rfl, rfl, rfl, rfl, trivial⟩) K
  refine WL.nil ?_
  refine WT.cond rfl (fun c3 => ?_) (fun c3 => ?_)
  ·replace h := ite_t h c3
   refine WT.seq <| WT.mix (Kn Φ_3 [] [(b_2, .cells #[u1, .int .i64 s5] 102 (0, 0)), (b_1, .cells #[.slice none 0 0, .int .i64 0] 102 (0, 0))]) (fun i => match i with | 10 => false | _ => true) mixed (fun _ h => h.drew) <| mqT 0 [1, 7, 8, 9, 10] rfl (by kernel_rfl) (fun w1 hw => Kn.of (fun k hk _ _ => by simp at hk) (AllIn.mem ⟨gM 0 rfl, gM 1 rfl, trivial⟩) hw) (q_fieldAddr Fld_102_0 rfl) rfl ?_
   refine mqT 1 [7, 8, 9, 10] rfl (by kernel_rfl) (fun w1 hw => Kn.of (fun k hk _ _ => by simp at hk) (AllIn.mem ⟨gM 0 rfl, gM 1 rfl, trivial⟩) hw) (q_load1 T1_100 rfl (fun w1 hw => hw.rgO (i := 0) rfl 0 1 [u1] rfl)) rfl <| mqT 2 [6, 7, 8, 9, 10] rfl (by kernel_rfl) (fun w1 hw => Kn.of (fun k hk _ _ => by simp at hk) (AllIn.mem ⟨gM 0 rfl, gM 1 rfl, trivial⟩) hw) (q_move rfl) rfl ?_
   refine mqT 3 [4, 5, 6, 7, 8, 9, 10] rfl (by kernel_rfl) (fun w1 hw => Kn.of (fun k hk _ _ => by simp at hk) (AllIn.mem ⟨gM 0 rfl, gM 1 rfl, trivial⟩) hw) (q_fieldAddr Fld_102_0 rfl) rfl <| mqT 4 [5, 6, 7, 8, 9, 10] rfl (by kernel_rfl) (fun w1 hw => Kn.of (fun k hk _ _ => by simp at hk) (AllIn.mem ⟨gM 0 rfl, gM 1 rfl, trivial⟩) hw) (q_load1 T1_100 rfl (fun w1 hw => hw.rgO (i := 0) rfl 0 1 [u1] rfl)) rfl ?_
   refine mqT 5 [6, 7, 8, 9, 10] rfl (by kernel_rfl) (fun w1 hw => Kn.of (fun k hk _ _ => by simp at hk) (AllIn.mem ⟨gM 0 rfl, gM 1 rfl, trivial⟩) hw) (q_lenR Sl_100 rfl rfl k2.rsl) rfl ?_
   obtain ⟨x3, hx3, h⟩ := bind_some h
   refine WM.one 6 (by kernel_rfl) (mc rfl (fun _ v Φx D w1 hq hw => Kn.of (fun k hk _ _ => by simp at hk) (AllIn.mem ⟨gM 0 rfl, gM 1 rfl, trivial⟩) hw) (k_call (js := [0]) (R := [ob u1, X1]) Fun_92 rfl rfl (fun w1 hw ap hl => m_s_l1Below_ok hw.fro N (⟨p0.b, x2.2.i, x2.2.h⟩ : Tl1Cur) (s1.length : Int) ph0_0 h2 (ap.o pa0_0) ap.nd hl hx3)) rfl (fun v3 Φ_4 F3 q3 => ?_))
   obtain ⟨ap3, fr3, rfl, rfl, e3, h3⟩ := q3
   replace ph0_0 := ph0_0.frame RI.lasts fr3 (ap3.o pa0_0)
   replace k2 := k2.frame RTItem.lasts fr3 (ap3.r (i := 0) rfl) (Dj.sub (ap3.r (i := 1) rfl) i1)
   obtain ⟨x4, hx4, h⟩ := bind_some h
   obtain ⟨cs1, F4, -, g1, hb1, hs1, r1⟩ := k2.elS (idx_some hx4).2.2
   obtain ⟨v4, G1, rfl, hq1, h4⟩ := r1
   obtain rfl := hq1.symm
   refine mqT 7 [8, 9, 10] rfl (by kernel_rfl) (fun w1 hw => Kn.of (fun k hk _ _ => by simp at hk) (AllIn.mem ⟨gM 0 rfl, gM 1 rfl, trivial⟩) hw) (q_indexAddr Sl_100 rfl rfl k2.rsl hx4) rfl <| mqT 8 [9, 10] rfl (by kernel_rfl) (fun w1 hw => Kn.of (fun k hk _ _ => by simp at hk) (AllIn.mem ⟨gM 0 rfl, gM 1 rfl, trivial⟩) hw) (q_fieldAddr Fld_169_0 rfl) rfl ?_
   refine WM.one 9 (by kernel_rfl) (mv rfl (fun _ w1 hw => Kn.of (fun k hk _ _ => by simp at hk) (AllIn.mem ⟨gM 0 rfl, gM 1 rfl, trivial⟩) hw) (q_load1 T1_3 rfl (fun w1 hw => (g1.of_eq 0 1 rfl rfl : rg _ _ _ [.int .i64 x4.Id]).rangeAt hw.fro)) rfl ?_)
   refine WM.frz (js := [0]) (R := [(b_1, .cells #[.slice none 0 0, .int .i64 0] 102 (0, 0))]) rfl (fun Φ_5 fr4 k4 => ?_)
   replace ph0_0 := ph0_0.frame RI.lasts fr4 (Dj.empty _)
   replace k2 := k2.frame RTItem.lasts fr4 (Dj.empty _) (Dj.empty _)
   replace h3 := fr4 _ _ (by simp) h3
   obtain ⟨x5, hx5, h⟩ := bind_some h
   refine WM.one 10 (by kernel_rfl) (mc rfl (fun hc => by cases hc) (k_call (js := [0]) (R := [[pb0], ob u1, X1]) Fun_177 rfl rfl (fun w1 hw ap hl => m_s_l4Drop_ok hw.fro N (⟨s1, s5⟩ : TStore) x4.Id k2.rsl k4 (Dj.app (ap.r (i := 1) rfl) (Dj.sub (ap.r (i := 2) rfl) i1)) ap.nd hl hx5)) rfl (fun v5 Φ_6 F5 q4 => ?_))
   obtain ⟨ap4, fr5, v6, D2, rfl, rfl, h5, i2, h6⟩ := q4
   replace ph0_0 := ph0_0.frame RI.lasts fr5 (ap4.o pa0_0)
   replace h3 := fr5 _ _ ((ap4.r (i := 0) rfl) _ (by simp)) h3
   refine WM.nil (by kernel_rfl) <| WT.exit rfl <| WT.region <| lq (q_move rfl) rfl <| lq (q_sub rfl rfl) rfl <| lq (q_assign rfl) rfl <| WL.nil ?_
   refine WT.thw (js := [0]) (R := [ob v6, [pb0], ob u1, X1]) rfl h6 (fun Φ_7 ap5 fr6 => ?_)
   replace ph0_0 := ph0_0.frame RI.lasts fr6 (ap5.o pa0_0)
   replace h5 := h5.frame RTItem.lasts fr6 (ap5.r (i := 0) rfl) (Dj.sub (Dj.app (ap5.r (i := 2) rfl) (Dj.sub (ap5.r (i := 3) rfl) i1)) i2)
   replace h3 := fr6 _ _ ((ap5.r (i := 1) rfl) _ (by simp)) h3
   refine WT.conv (S' := St w0 Φ_7 [(b_2, .cells #[v6, .int .i64 x5.2.Next] 102 (0, 0)), (b_1, .cells #[.slice none 0 0, .int .i64 0] 102 (0, 0))] [(X1 ++ (ob u1)), ob v6, [pb0]]) (fun w1 hw => hw.merge (js := [3, 2]) rfl (SP.eq (by simp [List.append_assoc]))) ?_
   refine WT.inLoop (WT.mono (l' := [(0, .pointer (some ⟨pb0, 0, none⟩)), (2, .pointer (some ⟨b_1, 0, none⟩)), (3, .pointer (some ⟨b_2, 0, none⟩)), (4, .int .i64 (IntKind.i64.wrap (s2 - 1)))]) (S' := St w0 Φ_7 [(b_2, .cells #[v6, .int .i64 x5.2.Next] 102 (0, 0)), (b_1, .cells #[.slice none 0 0, .int .i64 0] 102 (0, 0))] [ob v6, (X1 ++ (ob u1)), [pb0]]) ⟨rfl, rfl, rfl, rfl, trivial⟩ (fun w1 hw => (hw.sel (js := [1, 0, 0]) rfl).selO (js := [0, 0]) rfl) ?_)
   exact ih1 (Φ_7, (X1 ++ (ob u1)), x5.2.Items, v6, D2, IntKind.i64.wrap (s2 - 1), x3.2.i, x3.2.h, x5.2.Next) ⟨h, h5, (fun k hk => ((List.mem_append.1 (i2 k hk)).elim (fun h => ((fun k hk => (List.mem_append.2 (.inr hk))) k h)) (fun h => ((fun k hk => (List.mem_append.2 (.inl hk))) k (i1 k h))))), h3, ph0_0⟩
  replace h := ite_f h c3
  refine WT.skip <| WT.region <| lq (q_move rfl) rfl ?_
  obtain ⟨x6, hx6, h⟩ := bind_some h
  refine lc (k_call (js := [0]) (R := [ob u1, X1]) Fun_84 rfl rfl (fun w1 hw ap hl => m_s_l3Draw_ok hw.fro N (⟨p0.b, x2.2.i, x2.2.h⟩ : Tl1Cur) ph0_0 h2 (ap.o pa0_0) ap.nd hl hx6)) rfl (fun v7 Φ_8 F6 q5 => ?_)
  obtain ⟨ap6, fr7, v8, rfl, rfl, h7, e4, h8⟩ := q5
  replace ph0_0 := ph0_0.frame RI.lasts fr7 (ap6.o pa0_0)
  replace k2 := k2.frame RTItem.lasts fr7 (ap6.r (i := 0) rfl) (Dj.sub (ap6.r (i := 1) rfl) i1)
  refine WL.frz (js := [0]) (R := [(b_1, .cells #[.slice none 0 0, .int .i64 0] 102 (0, 0))]) rfl (fun Φ_9 fr8 k5 => ?_)
  replace ph0_0 := ph0_0.frame RI.lasts fr8 (Dj.empty _)
  replace k2 := k2.frame RTItem.lasts fr8 (Dj.empty _) (Dj.empty _)
  replace h7 := h7.frame RTVal.lasts fr8 (Dj.empty _) (Dj.empty _)
  replace h8 := fr8 _ _ (by simp) h8
  obtain ⟨x7, hx7, h⟩ := bind_some h
  refine lc (k_call (js := [0, 2]) (R := [ob v8, [pb0], X1]) Fun_178 rfl rfl (fun w1 hw ap hl => m_s_l4Assert_ok hw.fro N (⟨s1, s5⟩ : TStore) x6.1 k2 k5 h7.rsl (Dj.sub (ap.r (i := 2) rfl) i1) (Dj.app (ap.r (i := 0) rfl) (Dj.nil _)) ap.nd hl hx7)) rfl (fun v9 Φ_10 F7 q6 => ?_)
  obtain ⟨ap7, fr9, v10, D3, X2, rfl, rfl, h9, i3, h10⟩ := q6
  replace ph0_0 := ph0_0.frame RI.lasts fr9 (ap7.o pa0_0)
  replace h8 := fr9 _ _ ((ap7.r (i := 1) rfl) _ (by simp)) h8
  refine WL.nil <| WT.inBlock <| WT.region <| lq (q_move rfl) rfl <| lq (q_sub rfl rfl) rfl <| lq (q_assign rfl) rfl <| WL.nil ?_
  refine WT.thw (js := [0]) (R := [ob v10, X2, ob v8, [pb0], X1]) rfl h10 (fun Φ_11 ap8 fr10 => ?_)
  replace ph0_0 := ph0_0.frame RI.lasts fr10 (ap8.o pa0_0)
  replace h9 := h9.frame RTItem.lasts fr10 (ap8.r (i := 0) rfl) (Dj.sub (Dj.app (ap8.r (i := 1) rfl) (Dj.sub (ap8.r (i := 4) rfl) i1)) i3)
  replace h8 := fr10 _ _ ((ap8.r (i := 3) rfl) _ (by simp)) h8
  refine WT.conv (S' := St w0 Φ_11 [(b_2, .cells #[v10, .int .i64 x7.2.Next] 102 (0, 0)), (b_1, .cells #[.slice none 0 0, .int .i64 0] 102 (0, 0))] [(X1 ++ (X2)), ob v10, ob v8, [pb0]]) (fun w1 hw => hw.merge (js := [4, 1]) rfl (SP.eq (by simp [List.append_assoc]))) ?_
  refine WT.inLoop (WT.mono (l' := [(0, .pointer (some ⟨pb0, 0, none⟩)), (2, .pointer (some ⟨b_1, 0, none⟩)), (3, .pointer (some ⟨b_2, 0, none⟩)), (4, .int .i64 (IntKind.i64.wrap (s2 - 1)))]) (S' := St w0 Φ_11 [(b_2, .cells #[v10, .int .i64 x7.2.Next] 102 (0, 0)), (b_1, .cells #[.slice none 0 0, .int .i64 0] 102 (0, 0))] [ob v10, (X1 ++ (X2)), [pb0]]) ⟨rfl, rfl, rfl, rfl, trivial⟩ (fun w1 hw => (hw.sel (js := [1, 0, 1]) rfl).selO (js := [0, 0]) rfl) ?_)
  exact ih1 (Φ_11, (X1 ++ (X2)), x7.2.Items, v10, D3, IntKind.i64.wrap (s2 - 1), x6.2.i, x6.2.h, x7.2.Next) ⟨h, h9, (fun k hk => ((List.mem_append.1 (i3 k hk)).elim (fun h => ((fun k hk => (List.mem_append.2 (.inr hk))) k h)) (fun h => ((fun k hk => (List.mem_append.2 (.inl hk))) k (i1 k h))))), h8, ph0_0⟩
 replace h := ite_f h c1
 refine WT.exit rfl <| WT.seq <| WT.region <| lq (q_loadN Tn_102 rfl (fun w1 hw => hw.rgO (i := 0) rfl 0 2 [u1, .int .i64 s5] rfl) rfl) rfl <| ls (s_store (i := 1) (vs := [u1, .int .i64 s5]) (C' := [u1, .int .i64 s5]) (O' := [(b_2, .cells #[u1, .int .i64 s5] 102 (0, 0)), (b_1, .cells #[u1, .int .i64 s5] 102 (0, 0))]) Sz_102 rfl rfl rfl rfl rfl rfl ⟨k2.one, rfl, trivial⟩ rfl rfl) rfl <| WL.nil ?_
 refine WT.ret Try.func131 (resOk.one (rv_cell Tn_102 rfl (fun w1 hw => hw.rgO (i := 1) rfl 0 2 [u1, .int .i64 s5] rfl) rfl)) (fun w1 hw => ?_)
 subst hb0
 cases h
 replace hw := hw.merge (js := [1]) (F := [X1].flatten) rfl (SP.eq (by simp))
 refine postG_of_St (js := [1, 1, 0]) hw rfl ⟨u1, D1, [X1].flatten, rfl, rfl, k2, (fun k hk => (List.mem_flatten.2 ⟨X1, by simp, (i1 k hk)⟩)), rfl, k3⟩
theorem m_s_DrawBlocked_ok {Φ : Hp} {w : World} (hΦ : In Φ w) (N : Nat) (p0 : (List Int)) {pv0 : Value} {pG0 : List Nat} (ph0 : RSl (RI .u8) 1 Φ pG0 pv0 p0) {r : TRule × TStore × (List TBind)} (h : m_s_DrawBlocked N p0 = some r) :
  Calls Try.prog 55 [pv0].toArray w (PostG Φ w [] (fun Φ' Fs v => ∃ (sr_0_0 : Value) (Dr_0_0 : List Nat) (sr_0_1 : Value) (sr_0_2 : Value) (Dr_0_2 : List Nat) (sr_1_0 : Value) (Dr_1_0 : List Nat) (sr_2_0 : Value) (X : List Nat), v = .tuple #[.agg [.string r.1.Name, .int .i64 r.1.Sal, sr_0_0, sr_0_1, sr_0_2].toArray, .agg [sr_1_0, .int .i64 r.2.1.Next].toArray, sr_2_0] ∧ Fs = [ob sr_0_0, Dr_0_0, ob sr_0_1, ob sr_0_2, Dr_0_2, ob sr_1_0, ob sr_2_0, X] ∧ OSl OTPat 37 3 Φ' Dr_0_0 sr_0_0 r.1.Pats ∧ OSl RTCond 206 11 Φ' [] sr_0_1 r.1.Conds ∧ OSl OTAct 96 5 Φ' Dr_0_2 sr_0_2 r.1.Acts ∧ OSl RTItem 169 3 Φ' Dr_1_0 sr_1_0 r.2.1.Items ∧ (∀ k ∈ Dr_1_0, k ∈ X) ∧ OSl RTBind 142 4 Φ' [] sr_2_0 r.2.2)) := by
 refine enter Try.func55 rfl Try.ntmps55 rfl (St.start0 hΦ) ?_
 have pa0 : Old ⟨w, [], Φ⟩ pG0 := Old.mk hΦ ph0.kn (Dj.empty _)
 revert pa0
 generalize hb0 : (⟨w, [], Φ⟩ : Base) = w0
 intro pa0
 unfold m_s_DrawBlocked at h
 refine WT.seq <| WT.region ?_
 refine ln (n_alloc (C := #[.string (⟨#[]⟩ : ByteArray), .int .i64 0, .slice none 0 0, .slice none 0 0, .slice none 0 0]) Zr_66 rfl) rfl (fun b_1 => ?_)
 refine ln (n_alloc (C := #[.slice none 0 0, .int .i64 0]) Zr_102 rfl) rfl (fun b_2 => ?_)
 refine lq (q_assign rfl) rfl <| WL.nil <| WT.seq <| WT.region <| lq (q_move rfl) rfl ?_
 obtain ⟨x1, hx1, h⟩ := bind_some h
 refine lc (k_call (js := []) (R := []) Fun_75 rfl rfl (fun w1 hw ap hl => m_s_l1New_ok hw.fro N p0 ph0  hx1)) rfl (fun v1 Φ_1 F1 q1 => ?_)
 obtain ⟨ap1, fr1, b_3, v2, G1, rfl, rfl, h1, i1, h2⟩ := q1
 refine lq (q_assign rfl) rfl <| WL.nil <| WT.seq <| WT.region <| lq (q_move rfl) rfl ?_
 obtain ⟨x2, hx2, h⟩ := bind_some h
 refine lc (k_call (js := [0]) (R := []) Fun_130 rfl rfl (fun w1 hw ap hl => m_s_l9Draw_ok hw.fro N x1 (⟨#[114, 49]⟩ : ByteArray) h1 h2 (Dj.sub (ap.o pa0) i1) ap.nd hl hx2)) rfl (fun v3 Φ_2 F2 q2 => ?_)
 obtain ⟨ap2, fr2, v4, D1, v5, v6, D2, rfl, rfl, h3, h4, h5, e1, h6⟩ := q2
 replace h1 := h1.frame RI.lasts fr2 (Dj.sub (ap2.o pa0) i1)
 refine ln (n_alloc (C := #[.string (⟨#[]⟩ : ByteArray), .int .i64 0, .slice none 0 0, .slice none 0 0, .slice none 0 0]) Zr_66 rfl) rfl (fun b_4 => ?_)
 refine ls (s_store (i := 0) (vs := [.string x2.1.Name, .int .i64 x2.1.Sal, v4, v5, v6]) (C' := [.string x2.1.Name, .int .i64 x2.1.Sal, v4, v5, v6]) (O' := [(b_4, .cells #[.string x2.1.Name, .int .i64 x2.1.Sal, v4, v5, v6] 66 (0, 0)), (b_2, .cells #[.slice none 0 0, .int .i64 0] 102 (0, 0)), (b_1, .cells #[.string (⟨#[]⟩ : ByteArray), .int .i64 0, .slice none 0 0, .slice none 0 0, .slice none 0 0] 66 (0, 0))]) Sz_66 rfl rfl rfl rfl rfl rfl ⟨rfl, rfl, h3.one, h4.one, h5.one, trivial⟩ rfl rfl) rfl ?_
 refine WL.nil <| WT.seq <| WT.mix (Kn Φ_2 [] [(b_4, .cells #[.string x2.1.Name, .int .i64 x2.1.Sal, v4, v5, v6] 66 (0, 0)), (b_2, .cells #[.slice none 0 0, .int .i64 0] 102 (0, 0)), (b_1, .cells #[.string (⟨#[]⟩ : ByteArray), .int .i64 0, .slice none 0 0, .slice none 0 0, .slice none 0 0] 66 (0, 0))]) (fun i => match i with | 7 => false | _ => true) mixed (fun _ h => h.drew) <| mq 0 rfl (by kernel_rfl) (fun w1 hw => Kn.of (fun k hk _ _ => by simp at hk) (AllIn.mem ⟨gM 0 rfl, gM 1 rfl, gM 2 rfl, trivial⟩) hw) (q_fieldAddr Fld_66_2 rfl) rfl ?_
 refine mq 1 rfl (by kernel_rfl) (fun w1 hw => Kn.of (fun k hk _ _ => by simp at hk) (AllIn.mem ⟨gM 0 rfl, gM 1 rfl, gM 2 rfl, trivial⟩) hw) (q_load1 T1_62 rfl (fun w1 hw => hw.rgO (i := 0) rfl 2 1 [v4] rfl)) rfl <| mq 2 rfl (by kernel_rfl) (fun w1 hw => Kn.of (fun k hk _ _ => by simp at hk) (AllIn.mem ⟨gM 0 rfl, gM 1 rfl, gM 2 rfl, trivial⟩) hw) (q_move rfl) rfl ?_
 obtain ⟨x3, hx3, h⟩ := bind_some h
 refine WM.one 3 (by kernel_rfl) (mc rfl (fun _ v Φx D w1 hq hw => Kn.of (fun k hk _ _ => by simp at hk) (AllIn.mem ⟨gM 0 rfl, gM 1 rfl, gM 2 rfl, trivial⟩) hw) (k_call (js := [5]) (R := [ob v4, D1, ob v5, ob v6, D2]) Fun_83 rfl rfl (fun w1 hw ap hl => m_s_l6Draw_ok hw.fro N (⟨x1.b, x2.2.i, x2.2.h⟩ : Tl1Cur) true h1 h6 (Dj.sub (ap.o pa0) i1) ap.nd hl hx3)) rfl (fun v7 Φ_3 F3 q3 => ?_))
 obtain ⟨ap3, fr3, v8, rfl, rfl, h7, e2, h8⟩ := q3
 replace h1 := h1.frame RI.lasts fr3 (Dj.sub (ap3.o pa0) i1)
 replace h3 := h3.frame OTPat.lasts fr3 (ap3.r (i := 0) rfl) (ap3.r (i := 1) rfl)
 replace h4 := h4.frame RTCond.lasts fr3 (ap3.r (i := 2) rfl) (Dj.nil _)
 replace h5 := h5.frame OTAct.lasts fr3 (ap3.r (i := 3) rfl) (ap3.r (i := 4) rfl)
 have rc1 : RC OTPat 3 Φ_3 ([(ob v8 ++ [])] : List (List Nat)) [.string x3.1.Kind, v8, .bool x3.1.Not] ([x3.1] : List TPat) := RC.cons (c := [.string x3.1.Kind, v8, .bool x3.1.Not]) (cells := []) ⟨v8, rfl, rfl, h7⟩ rfl (RC.nil _ _ _)
 refine WM.one 4 (by kernel_rfl) (me rfl (fun _ v Φx D w1 hq hw => Kn.of (fun k hk _ _ => by simp at hk) (AllIn.mem ⟨gM 0 rfl, gM 1 rfl, gM 2 rfl, trivial⟩) hw) (e_lit (vs := [(0, .agg [.string x3.1.Kind, v8, .bool x3.1.Not].toArray)]) (C := #[.string x3.1.Kind, v8, .bool x3.1.Not]) OTPat.lasts Sl_62 Zr_37 rfl rfl rfl rfl (fill_made MC_37_1 (fill_cons (cells := [.string ⟨#[]⟩, .slice none 0 0, .bool false]) (c := [.string x3.1.Kind, v8, .bool x3.1.Not]) (C' := [.string x3.1.Kind, v8, .bool x3.1.Not]) rfl rfl rfl rfl rfl (fill_nil))) rfl rc1 rfl (RC.kn OTPat.knows rc1)) rfl (fun v9 Φ_4 D3 q4 => ?_))
 obtain ⟨fr4, h9⟩ := q4
 replace h9 : OSl OTPat 37 3 Φ_4 ((ob v8 ++ [])) v9 ([x3.1] : List TPat) := by simpa [List.append_assoc] using h9
 replace h1 := h1.frame RI.lasts fr4 (Dj.empty _)
 replace h3 := h3.frame OTPat.lasts fr4 (Dj.empty _) (Dj.empty _)
 replace h4 := h4.frame RTCond.lasts fr4 (Dj.empty _) (Dj.empty _)
 replace h5 := h5.frame OTAct.lasts fr4 (Dj.empty _) (Dj.empty _)
 replace h8 := fr4 _ _ (by simp) h8
 refine WM.conv (S' := St w0 Φ_4 [(b_4, .cells #[.string x2.1.Name, .int .i64 x2.1.Sal, v4, v5, v6] 66 (0, 0)), (b_2, .cells #[.slice none 0 0, .int .i64 0] 102 (0, 0)), (b_1, .cells #[.string (⟨#[]⟩ : ByteArray), .int .i64 0, .slice none 0 0, .slice none 0 0, .slice none 0 0] 66 (0, 0))] [((ob v8 ++ [])), ob v9, [b_3], ob v4, D1, ob v5, ob v6, D2]) (fun w1 hw => hw.merge (js := [1]) rfl (SP.eq (by simp [List.append_assoc, ob_nil]))) ?_
 obtain ⟨x4, hx4, h⟩ := bind_some h
 refine WM.one 5 (by kernel_rfl) (me rfl (fun _ v Φx D w1 hq hw => Kn.of (fun k hk _ _ => by simp at hk) (AllIn.mem ⟨gM 0 rfl, gM 1 rfl, gM 2 rfl, trivial⟩) hw) (e_appO OTPat.lasts OTPat.one Sl_62 Ei_37 rfl rfl rfl rfl rfl (js := [3]) (Rr := [((ob v8 ++ [])), ob v9, [b_3], D1, ob v5, ob v6, D2]) rfl h3 h9 (fun ap => (ap.r (i := 3) rfl)) (fun ap => (ap.r (i := 0) rfl)) hx4) rfl (fun v10 Φ_5 D4 q5 => ?_))
 obtain ⟨⟨ap4, fr5⟩, h10⟩ := q5
 replace h1 := h1.frame RI.lasts fr5 (Dj.sub (ap4.o pa0) i1)
 replace h4 := h4.frame RTCond.lasts fr5 (ap4.r (i := 4) rfl) (Dj.nil _)
 replace h5 := h5.frame OTAct.lasts fr5 (ap4.r (i := 5) rfl) (ap4.r (i := 6) rfl)
 replace h8 := fr5 _ _ ((ap4.r (i := 2) rfl) _ (by simp)) h8
 refine WM.conv (S' := St w0 Φ_5 [(b_4, .cells #[.string x2.1.Name, .int .i64 x2.1.Sal, v4, v5, v6] 66 (0, 0)), (b_2, .cells #[.slice none 0 0, .int .i64 0] 102 (0, 0)), (b_1, .cells #[.string (⟨#[]⟩ : ByteArray), .int .i64 0, .slice none 0 0, .slice none 0 0, .slice none 0 0] 66 (0, 0))] [(D1 ++ ((ob v8 ++ []))), ob v10, ob v9, [b_3], ob v5, ob v6, D2]) (fun w1 hw => hw.merge (js := [4, 1]) rfl (SP.eq (by simp))) ?_
 refine mq 6 rfl (by kernel_rfl) (fun w1 hw => Kn.of (fun k hk _ _ => by simp at hk) (AllIn.mem ⟨gM 0 rfl, gM 1 rfl, gM 2 rfl, trivial⟩) hw) (q_fieldAddr Fld_66_2 rfl) rfl ?_
 refine WM.one 7 (by kernel_rfl) (ms rfl (fun hc => by cases hc) (s_store (i := 0) (vs := [v10]) (C' := [.string x2.1.Name, .int .i64 x2.1.Sal, v10, v5, v6]) (O' := [(b_4, .cells #[.string x2.1.Name, .int .i64 x2.1.Sal, v10, v5, v6] 66 (0, 0)), (b_2, .cells #[.slice none 0 0, .int .i64 0] 102 (0, 0)), (b_1, .cells #[.string (⟨#[]⟩ : ByteArray), .int .i64 0, .slice none 0 0, .slice none 0 0, .slice none 0 0] 66 (0, 0))]) Sz_62 rfl rfl rfl (one_cells h10.one) rfl rfl ⟨h10.one, trivial⟩ rfl rfl) rfl ?_)
 refine WM.nil (by kernel_rfl) <| WT.seq <| WT.mix (Kn Φ_5 [] [(b_4, .cells #[.string x2.1.Name, .int .i64 x2.1.Sal, v10, v5, v6] 66 (0, 0))]) (fun _ => true) mixed (fun _ h => h.drew) <| mq 0 rfl (by kernel_rfl) (fun w1 hw => Kn.of (fun k hk _ _ => by simp at hk) (AllIn.mem ⟨gM 0 rfl, trivial⟩) hw) (q_loadN Tn_66 rfl (fun w1 hw => hw.rgO (i := 0) rfl 0 5 [.string x2.1.Name, .int .i64 x2.1.Sal, v10, v5, v6] rfl) rfl) rfl ?_
 refine mq 1 rfl (by kernel_rfl) (fun w1 hw => Kn.of (fun k hk _ _ => by simp at hk) (AllIn.mem ⟨gM 0 rfl, trivial⟩) hw) (q_move rfl) rfl <| mq 3 rfl (by kernel_rfl) (fun w1 hw => Kn.of (fun k hk _ _ => by simp at hk) (AllIn.mem ⟨gM 0 rfl, trivial⟩) hw) (q_move rfl) rfl ?_
 obtain ⟨x5, hx5, h⟩ := bind_some h
 refine WM.one 2 (by kernel_rfl) (mc rfl (fun _ v Φx D w1 hq hw => Kn.of (fun k hk _ _ => by simp at hk) (AllIn.mem ⟨gM 0 rfl, trivial⟩) hw) (k_call (js := [3]) (R := [(D1 ++ ((ob v8 ++ []))), ob v10, ob v9, ob v5, ob v6, D2]) Fun_131 rfl rfl (fun w1 hw ap hl => m_s_l4Draw_ok hw.fro N (⟨x1.b, x3.2.i, x3.2.h⟩ : Tl1Cur) h1 h8 (Dj.sub (ap.o pa0) i1) ap.nd hl hx5)) rfl (fun v11 Φ_6 F4 q6 => ?_))
 obtain ⟨ap5, fr6, v12, D5, X1, rfl, rfl, h11, i2, e3, h12⟩ := q6
 replace h1 := h1.frame RI.lasts fr6 (Dj.sub (ap5.o pa0) i1)
 replace h10 := h10.frame OTPat.lasts fr6 (ap5.r (i := 1) rfl) (ap5.r (i := 0) rfl)
 replace h4 := h4.frame RTCond.lasts fr6 (ap5.r (i := 3) rfl) (Dj.nil _)
 replace h5 := h5.frame OTAct.lasts fr6 (ap5.r (i := 4) rfl) (ap5.r (i := 5) rfl)
 obtain ⟨x7, hx6, h⟩ := bind_some h
 refine WM.one 4 (by kernel_rfl) (mc rfl (fun _ v Φx D w1 hq hw => Kn.of (fun k hk _ _ => by simp at hk) (AllIn.mem ⟨gM 0 rfl, trivial⟩) hw) (k_call (js := [1]) (R := [ob v12, X1, (D1 ++ ((ob v8 ++ []))), ob v10, ob v9, ob v5, ob v6, D2]) Fun_88 rfl rfl (fun w1 hw ap hl => m_s_l6Binds_ok hw.fro N (⟨x1.b, x5.2.i, x5.2.h⟩ : Tl1Cur) h1 h12 (Dj.sub (ap.o pa0) i1) ap.nd hl hx6)) rfl (fun v13 Φ_7 F5 q7 => ?_))
 obtain ⟨ap6, fr7, v14, rfl, rfl, h13, e4, h14⟩ := q7
 replace h10 := h10.frame OTPat.lasts fr7 (ap6.r (i := 3) rfl) (ap6.r (i := 2) rfl)
 replace h4 := h4.frame RTCond.lasts fr7 (ap6.r (i := 5) rfl) (Dj.nil _)
 replace h5 := h5.frame OTAct.lasts fr7 (ap6.r (i := 6) rfl) (ap6.r (i := 7) rfl)
 replace h11 := h11.frame RTItem.lasts fr7 (ap6.r (i := 0) rfl) (Dj.sub (ap6.r (i := 1) rfl) i2)
 refine WM.one 5 (by kernel_rfl) (ms rfl (fun _ w1 hw => Kn.of (fun k hk _ _ => by simp at hk) (AllIn.mem ⟨gM 0 rfl, trivial⟩) hw) (s_store (i := 2) (vs := [.string x2.1.Name, .int .i64 x2.1.Sal, v10, v5, v6]) (C' := [.string x2.1.Name, .int .i64 x2.1.Sal, v10, v5, v6]) (O' := [(b_4, .cells #[.string x2.1.Name, .int .i64 x2.1.Sal, v10, v5, v6] 66 (0, 0)), (b_2, .cells #[.slice none 0 0, .int .i64 0] 102 (0, 0)), (b_1, .cells #[.string x2.1.Name, .int .i64 x2.1.Sal, v10, v5, v6] 66 (0, 0))]) Sz_66 rfl rfl rfl rfl rfl rfl ⟨rfl, rfl, h10.one, h4.one, h5.one, trivial⟩ rfl rfl) rfl ?_)
 refine WM.one 6 (by kernel_rfl) (ms rfl (fun _ w1 hw => Kn.of (fun k hk _ _ => by simp at hk) (AllIn.mem ⟨gM 0 rfl, trivial⟩) hw) (s_store (i := 1) (vs := [v12, .int .i64 x5.1.Next]) (C' := [v12, .int .i64 x5.1.Next]) (O' := [(b_4, .cells #[.string x2.1.Name, .int .i64 x2.1.Sal, v10, v5, v6] 66 (0, 0)), (b_2, .cells #[v12, .int .i64 x5.1.Next] 102 (0, 0)), (b_1, .cells #[.string x2.1.Name, .int .i64 x2.1.Sal, v10, v5, v6] 66 (0, 0))]) Sz_102 rfl rfl rfl rfl rfl rfl ⟨h11.one, rfl, trivial⟩ rfl rfl) rfl ?_)
 refine mq 7 rfl (by kernel_rfl) (fun w1 hw => Kn.of (fun k hk _ _ => by simp at hk) (AllIn.mem ⟨gM 0 rfl, trivial⟩) hw) (q_assign rfl) rfl <| WM.nil (by kernel_rfl) ?_
 refine WT.ret Try.func55 (resOk.three (rv_cell Tn_66 rfl (fun w1 hw => hw.rgO (i := 2) rfl 0 5 [.string x2.1.Name, .int .i64 x2.1.Sal, v10, v5, v6] rfl) rfl) (rv_cell Tn_102 rfl (fun w1 hw => hw.rgO (i := 1) rfl 0 2 [v12, .int .i64 x5.1.Next] rfl) rfl) rfl) (fun w1 hw => ?_)
 subst hb0
 cases h
 replace hw := hw.merge (js := [3]) (F := [X1].flatten) rfl (SP.eq (by simp))
 refine postG_of_St (js := [5, 4, 5, 5, 5, 3, 1, 0]) hw rfl ⟨v10, (D1 ++ ((ob v8 ++ []))), v5, v6, D2, v12, D5, v13, [X1].flatten, rfl, rfl, h10, h4, h5, h11, (fun k hk => (List.mem_flatten.2 ⟨X1, by simp, (i2 k hk)⟩)), h13⟩
theorem m_sl_Clone_Si_Bind_i_Bind_ok {Φ : Hp} {w : World} (hΦ : In Φ w) (N : Nat) (p0 : (List TBind)) {pv0 : Value} {pG0 : List Nat} (ph0 : RSl RTBind 4 Φ pG0 pv0 p0) {r : (List TBind)} (h : m_sl_Clone_Si_Bind_i_Bind N p0 = some r) :
  Calls Try.prog 89 [pv0].toArray w (PostG Φ w [] (fun Φ' Fs v => ∃ (sr_0_0 : Value), v = sr_0_0 ∧ Fs = [ob sr_0_0] ∧ OSl RTBind 142 4 Φ' [] sr_0_0 r)) := by
 refine enter Try.func89 rfl Try.ntmps89 rfl (St.start0 hΦ) ?_
 unfold m_sl_Clone_Si_Bind_i_Bind at h
 refine WT.seq <| WT.region <| lq (q_assign rfl) rfl <| WL.nil <| WT.seq <| WT.seq ?_
 rcases RSl.nilOr ph0 with ⟨hxs1, cc1, hv1⟩ | ⟨a1, cc1, hv1⟩
 ·skip
  replace h : some [] = some r := by simpa [hxs1, app] using h
  refine WT.region <| lq (q_move rfl) rfl <| lq (q_eqNil Sl_28 (congrArg some hv1) rfl) rfl <| WL.nil ?_
  refine WT.cond rfl (fun c => ?_) (fun c => by simp at c)
  refine WT.seq <| WT.region <| lq (q_assign rfl) rfl <| WL.nil ?_
  refine WT.ret Try.func89 (resOk.one rfl) (fun w1 hw => ?_)
  cases h
  replace hw := hw.addNil
  refine postG_of_St (js := [0]) hw rfl ⟨.slice none 0 0, rfl, rfl, OSl.nil _ _ _ _⟩
 refine WT.region <| lq (q_move rfl) rfl <| lq (q_eqNil Sl_28 (congrArg some hv1) rfl) rfl <| WL.nil ?_
 refine WT.cond rfl (fun c => by simp at c) (fun c => ?_)
 refine WT.skip <| WT.seq <| WT.region ?_
 have rc1 : RC RTBind 4 Φ ([] : List (List Nat)) [] ([] : List TBind) := RC.nil _ _ _
 refine le' (e_lit (vs := []) (C := #[]) RTBind.lasts Sl_28 Zr_142 rfl rfl rfl rfl (fill_made MC_142_0 (fill_nil)) rfl rc1 rfl (by simpa using Kw.nil)) rfl (fun v1 Φ_1 D1 q1 => ?_)
 obtain ⟨fr1, h1⟩ := q1
 replace h1 : OSl RTBind 142 4 Φ_1 [] v1 ([] : List TBind) := by simpa using h1
 replace ph0 := ph0.frame RTBind.lasts fr1 (Dj.empty _)
 refine lq (q_move rfl) rfl ?_
 obtain ⟨x1, hx1, h⟩ := bind_some h
 refine le' (e_appF RTBind.lasts RTBind.one RTBind.flat Sl_28 Ei_142 rfl rfl rfl rfl rfl (js := [0]) (Rr := []) rfl h1 ph0 hx1) rfl (fun v2 Φ_2 D2 q2 => ?_)
 obtain ⟨⟨ap1, fr2⟩, h2⟩ := q2
 refine lq (q_assign rfl) rfl <| WL.nil ?_
 refine WT.ret Try.func89 (resOk.one rfl) (fun w1 hw => ?_)
 cases h
 refine postG_of_St (js := [0]) hw rfl ⟨v2, rfl, rfl, h2⟩
theorem m_i_BindOf_ok {Φ : Hp} {w : World} (hΦ : In Φ w) (N : Nat) (p0 : (List TBind)) (p1 : ByteArray) {pv0 : Value} {pG0 : List Nat} (ph0 : RSl RTBind 4 Φ pG0 pv0 p0) {r : TVal × Bool} (h : m_i_BindOf N p0 p1 = some r) :
  Calls Try.prog 90 [pv0, .string p1].toArray w (Post (.tuple #[.agg [.int .i64 r.1.K, .int .i64 r.1.N, .string r.1.S].toArray, .bool r.2]) w) := by
 refine enter Try.func90 rfl Try.ntmps90 rfl (St.start0 hΦ) ?_
 generalize hb0 : (⟨w, [], Φ⟩ : Base) = w0
 unfold m_i_BindOf at h
 refine WT.seq <| WT.region ?_
 refine ln (n_alloc (C := #[.int .i64 0, .int .i64 0, .string (⟨#[]⟩ : ByteArray)]) Zr_79 rfl) rfl (fun b_1 => ?_)
 refine lq (q_assign rfl) rfl <| WL.nil <| WT.seq <| WT.seq <| WT.region <| lq (q_move rfl) rfl <| lq (q_lenR Sl_28 rfl rfl ph0) rfl <| lq (q_move rfl) rfl <| WL.nil <| WT.block <| WT.loop <| WT.mono (l' := [(1, .string p1), (4, .pointer (some ⟨b_1, 0, none⟩)), (8, pv0), (9, .int .i64 (p0.length : Int)), (10, .int .i64 0)]) (S' := St w0 Φ [(b_1, .cells #[.int .i64 0, .int .i64 0, .string (⟨#[]⟩ : ByteArray)] 79 (0, 0))] []) ⟨rfl, rfl, rfl, rfl, rfl, trivial⟩ (fun w1 hw => (hw.sel (js := []) rfl).selO (js := [0]) rfl) ?_
 refine loop_ind (σ := Int) (fun s => [(1, .string p1), (4, .pointer (some ⟨b_1, 0, none⟩)), (8, pv0), (9, .int .i64 (p0.length : Int)), (10, .int .i64 s)]) (fun s => St w0 Φ [(b_1, .cells #[.int .i64 0, .int .i64 0, .string (⟨#[]⟩ : ByteArray)] 79 (0, 0))] []) (fun m s => m_i_BindOf_l1 N p0 p1 m s = some r) (fun s hm => none_ne (show (none : Option (TVal × Bool)) = some r from hm)) (fun n1 ih1 s hm => ?_) N (0) h
 revert hm; revert s; intro s1 hm
 have h : m_i_BindOf_l1 N p0 p1 (n1 + 1) s1 = some r := hm
 show WT _ _ [(1, .string p1), (4, .pointer (some ⟨b_1, 0, none⟩)), (8, pv0), (9, .int .i64 (p0.length : Int)), (10, .int .i64 s1)] (St w0 Φ [(b_1, .cells #[.int .i64 0, .int .i64 0, .string (⟨#[]⟩ : ByteArray)] 79 (0, 0))] [])
 unfold m_i_BindOf_l1 at h
 refine WT.seq <| WT.region <| lq (q_lss rfl rfl) rfl <| WL.nil <| WT.seq ?_
 refine WT.cond rfl (fun c1 => ?_) (fun c1 => ?_)
 ·replace h := ite_t h c1
  refine WT.skip <| WT.seq <| WT.block <| WT.seq <| WT.region ?_
  obtain ⟨x1, hx1, h⟩ := bind_some h
  obtain ⟨cs1, F1, -, g1, hb1, hs1, r1⟩ := ph0.el (idx_some hx1).2.2
  obtain ⟨rfl, -⟩ := r1
  refine lq (q_indexAddr Sl_28 rfl rfl ph0 hx1) rfl <| lq (q_loadN Tn_142 rfl (fun w1 hw => (g1.of_eq 0 4 rfl rfl : rg _ _ _ [.string x1.Name, .int .i64 x1.V.K, .int .i64 x1.V.N, .string x1.V.S]).rangeAt hw.fro) rfl) rfl ?_
  refine ln (n_alloc (C := #[.string (⟨#[]⟩ : ByteArray), .int .i64 0, .int .i64 0, .string (⟨#[]⟩ : ByteArray)]) Zr_142 rfl) rfl (fun b_2 => ?_)
  refine ls (s_store (i := 0) (vs := [.string x1.Name, .int .i64 x1.V.K, .int .i64 x1.V.N, .string x1.V.S]) (C' := [.string x1.Name, .int .i64 x1.V.K, .int .i64 x1.V.N, .string x1.V.S]) (O' := [(b_2, .cells #[.string x1.Name, .int .i64 x1.V.K, .int .i64 x1.V.N, .string x1.V.S] 142 (0, 0)), (b_1, .cells #[.int .i64 0, .int .i64 0, .string (⟨#[]⟩ : ByteArray)] 79 (0, 0))]) Sz_142 rfl rfl rfl rfl rfl rfl ⟨rfl, rfl, rfl, rfl, trivial⟩ rfl rfl) rfl ?_
  refine WL.nil <| WT.seq <| WT.region <| lq (q_fieldAddr Fld_142_0 rfl) rfl <| lq (q_load1 T1_9 rfl (fun w1 hw => hw.rgO (i := 0) rfl 0 1 [.string x1.Name] rfl)) rfl <| lq (q_move rfl) rfl <| lq (q_seq rfl rfl) rfl <| WL.nil ?_
  refine WT.cond rfl (fun c2 => ?_) (fun c2 => ?_)
  ·replace h := ite_t h c2
   refine WT.seq <| WT.region <| lq (q_fieldAddr Fld_142_1 rfl) rfl <| lq (q_loadN Tn_79 rfl (fun w1 hw => hw.rgO (i := 0) rfl 1 3 [.int .i64 x1.V.K, .int .i64 x1.V.N, .string x1.V.S] rfl) rfl) rfl <| ls (s_store (i := 1) (vs := [.int .i64 x1.V.K, .int .i64 x1.V.N, .string x1.V.S]) (C' := [.int .i64 x1.V.K, .int .i64 x1.V.N, .string x1.V.S]) (O' := [(b_2, .cells #[.string x1.Name, .int .i64 x1.V.K, .int .i64 x1.V.N, .string x1.V.S] 142 (0, 0)), (b_1, .cells #[.int .i64 x1.V.K, .int .i64 x1.V.N, .string x1.V.S] 79 (0, 0))]) Sz_79 rfl rfl rfl rfl rfl rfl ⟨rfl, rfl, rfl, trivial⟩ rfl rfl) rfl ?_
   refine lq (q_assign rfl) rfl <| WL.nil ?_
   refine WT.ret Try.func90 (resOk.two (rv_cell Tn_79 rfl (fun w1 hw => hw.rgO (i := 1) rfl 0 3 [.int .i64 x1.V.K, .int .i64 x1.V.N, .string x1.V.S] rfl) rfl) rfl) (fun w1 hw => ?_)
   subst hb0
   cases h
   exact post_of_St hw
  replace h := ite_f h c2
  refine WT.skip <| WT.inBlock <| WT.region <| lq (q_add rfl rfl) rfl <| lq (q_move rfl) rfl <| WL.nil ?_
  refine WT.inLoop (WT.mono (l' := [(1, .string p1), (4, .pointer (some ⟨b_1, 0, none⟩)), (8, pv0), (9, .int .i64 (p0.length : Int)), (10, .int .i64 (IntKind.i64.wrap (s1 + 1)))]) (S' := St w0 Φ [(b_1, .cells #[.int .i64 0, .int .i64 0, .string (⟨#[]⟩ : ByteArray)] 79 (0, 0))] []) ⟨rfl, rfl, rfl, rfl, rfl, trivial⟩ (fun w1 hw => (hw.sel (js := []) rfl).selO (js := [1]) rfl) ?_)
  exact ih1 (IntKind.i64.wrap (s1 + 1)) h
 replace h := ite_f h c1
 refine WT.exit rfl <| WT.seq <| WT.region <| lq (q_build (vs := []) (C := #[.int .i64 0, .int .i64 0, .string (⟨#[]⟩ : ByteArray)]) Pl_79 Zr_79 rfl (fill_nil)) rfl <| ls (s_store (i := 0) (vs := [.int .i64 0, .int .i64 0, .string (⟨#[]⟩ : ByteArray)]) (C' := [.int .i64 0, .int .i64 0, .string (⟨#[]⟩ : ByteArray)]) (O' := [(b_1, .cells #[.int .i64 0, .int .i64 0, .string (⟨#[]⟩ : ByteArray)] 79 (0, 0))]) Sz_79 rfl rfl rfl rfl rfl rfl ⟨rfl, rfl, rfl, trivial⟩ rfl rfl) rfl ?_
 refine lq (q_assign rfl) rfl <| WL.nil ?_
 refine WT.ret Try.func90 (resOk.two (rv_cell Tn_79 rfl (fun w1 hw => hw.rgO (i := 0) rfl 0 3 [.int .i64 0, .int .i64 0, .string (⟨#[]⟩ : ByteArray)] rfl) rfl) rfl) (fun w1 hw => ?_)
 subst hb0
 cases h
 exact post_of_St hw
theorem m_i_MatchPat_ok {Φ : Hp} {w : World} (hΦ : In Φ w) (N : Nat) (p0 : TPat) (p1 : TFact) (p2 : (List TBind)) {pv0_0 : Value} {pG0_0 : List Nat} {pv1_0 : Value} {pG1_0 : List Nat} {pv2 : Value} {pG2 : List Nat} (ph0_0 : RSl RTArg 5 Φ pG0_0 pv0_0 p0.Args) (ph1_0 : RSl RTVal 3 Φ pG1_0 pv1_0 p1.Fields) (ph2 : RSl RTBind 4 Φ pG2 pv2 p2) {r : (List TBind) × Bool} (h : m_i_MatchPat N p0 p1 p2 = some r) :
  Calls Try.prog 18 [.agg [.string p0.Kind, pv0_0, .bool p0.Not].toArray, .agg [.string p1.Kind, pv1_0].toArray, pv2].toArray w (PostG Φ w [] (fun Φ' Fs v => ∃ (sr_0_0 : Value), v = .tuple #[sr_0_0, .bool r.2] ∧ Fs = [ob sr_0_0] ∧ OSl RTBind 142 4 Φ' [] sr_0_0 r.1)) := by
 refine enter Try.func18 rfl Try.ntmps18 rfl (St.start0 hΦ) ?_
 have pa0_0 : Old ⟨w, [], Φ⟩ pG0_0 := Old.mk hΦ ph0_0.kn (Dj.empty _)
 have pa1_0 : Old ⟨w, [], Φ⟩ pG1_0 := Old.mk hΦ ph1_0.kn (Dj.empty _)
 have pa2 : Old ⟨w, [], Φ⟩ pG2 := Old.mk hΦ ph2.kn (Dj.empty _)
 revert pa0_0 pa1_0 pa2
 generalize hb0 : (⟨w, [], Φ⟩ : Base) = w0
 intro pa0_0 pa1_0 pa2
 unfold m_i_MatchPat at h
 refine WT.seq <| WT.region ?_
 refine ln (n_box (C := #[.string p0.Kind, pv0_0, .bool p0.Not]) rfl rfl) rfl (fun b_1 => ?_)
 refine ln (n_box (C := #[.string p1.Kind, pv1_0]) rfl rfl) rfl (fun b_2 => ?_)
 refine lq (q_assign rfl) rfl <| lq (q_assign rfl) rfl <| WL.nil <| WT.seq <| WT.seq <| WT.region <| lq (q_fieldAddr Fld_40_0 rfl) rfl <| lq (q_load1 T1_9 rfl (fun w1 hw => hw.rgO (i := 0) rfl 0 1 [.string p1.Kind] rfl)) rfl <| lq (q_fieldAddr Fld_37_0 rfl) rfl <| lq (q_load1 T1_9 rfl (fun w1 hw => hw.rgO (i := 1) rfl 0 1 [.string p0.Kind] rfl)) rfl <| lq (q_sne rfl rfl) rfl <| lq (q_move rfl) rfl ?_
 obtain ⟨b1, hb_1, h⟩ := bind_some h
 refine WL.cutN 8 [(27, .bool b1), (2, pv2), (3, .pointer (some ⟨b_1, 0, none⟩)), (4, .pointer (some ⟨b_2, 0, none⟩))] ?_ (fun K => ?_)
 rotate_left
 ·refine WL.split (d := 19) rfl (fun c1 => ?_) (fun c1 => ?_)
  ·replace hb_1 := ite_t hb_1 c1
   refine WL.no rfl rfl rfl rfl <| WL.no rfl rfl rfl rfl <| WL.no rfl rfl rfl rfl <| WL.no rfl rfl rfl rfl <| WL.no rfl rfl rfl rfl <| WL.no rfl rfl rfl rfl <| WL.no rfl rfl rfl rfl <| WL.q (q_pick1 rfl rfl) rfl rfl rfl ?_
   cases hb_1
   exact WL.keep (by exact ⟨rfl, rfl, rfl, rfl, trivial⟩) K
  ·replace hb_1 := ite_f hb_1 c1
   refine WL.yes rfl rfl <| lq (q_fieldAddr Fld_40_1 rfl) rfl <| WL.yes rfl rfl <| lq (q_load1 T1_38 rfl (fun w1 hw => hw.rgO (i := 0) rfl 1 1 [pv1_0] rfl)) rfl <| WL.yes rfl rfl <| lq (q_lenR Sl_38 rfl rfl ph1_0) rfl <| WL.yes rfl rfl <| lq (q_fieldAddr Fld_37_1 rfl) rfl <| WL.yes rfl rfl <| lq (q_load1 T1_35 rfl (fun w1 hw => hw.rgO (i := 1) rfl 1 1 [pv0_0] rfl)) rfl <| WL.yes rfl rfl <| lq (q_lenR Sl_35 rfl rfl ph0_0) rfl <| WL.yes rfl rfl <| lq (q_neq rfl rfl) rfl ?_
   refine WL.q (q_pick0 rfl rfl) rfl rfl rfl ?_
   cases hb_1
   exact WL.keep (by exact ⟨rfl, rfl, rfl, rfl, trivial⟩) K
 refine WL.nil ?_
 refine WT.cond rfl (fun c2 => ?_) (fun c2 => ?_)
 ·replace h := ite_t h c2
  refine WT.seq <| WT.region <| lq (q_move rfl) rfl ?_
  obtain ⟨x1, hx1, h⟩ := bind_some h
  refine lc (k_call (js := []) (R := []) Fun_89 rfl rfl (fun w1 hw ap hl => m_sl_Clone_Si_Bind_i_Bind_ok hw.fro N p2 ph2  hx1)) rfl (fun v1 Φ_1 F1 q1 => ?_)
  obtain ⟨ap1, fr1, v2, rfl, rfl, h1⟩ := q1
  refine lq (q_assign rfl) rfl <| lq (q_assign rfl) rfl <| WL.nil ?_
  refine WT.ret Try.func18 (resOk.two rfl rfl) (fun w1 hw => ?_)
  subst hb0
  cases h
  refine postG_of_St (js := [0]) hw rfl ⟨v1, rfl, rfl, h1⟩
 replace h := ite_f h c2
 refine WT.skip <| WT.seq <| WT.region <| lq (q_move rfl) rfl ?_
 obtain ⟨x2, hx2, h⟩ := bind_some h
 refine lc (k_call (js := []) (R := []) Fun_89 rfl rfl (fun w1 hw ap hl => m_sl_Clone_Si_Bind_i_Bind_ok hw.fro N p2 ph2  hx2)) rfl (fun v3 Φ_2 F2 q2 => ?_)
 obtain ⟨ap2, fr2, v4, rfl, rfl, h2⟩ := q2
 replace ph2 := ph2.frame RTBind.lasts fr2 (ap2.o pa2)
 replace ph0_0 := ph0_0.frame RTArg.lasts fr2 (ap2.o pa0_0)
 replace ph1_0 := ph1_0.frame RTVal.lasts fr2 (ap2.o pa1_0)
 refine lq (q_assign rfl) rfl <| WL.nil <| WT.seq <| WT.seq <| WT.region <| lq (q_fieldAddr Fld_37_1 rfl) rfl <| lq (q_load1 T1_35 rfl (fun w1 hw => hw.rgO (i := 1) rfl 1 1 [pv0_0] rfl)) rfl <| lq (q_lenR Sl_35 rfl rfl ph0_0) rfl <| lq (q_move rfl) rfl <| WL.nil <| WT.block <| WT.loop <| WT.mono (l' := [(2, pv2), (4, .pointer (some ⟨b_2, 0, none⟩)), (8, v3), (33, pv0_0), (34, .int .i64 (p0.Args.length : Int)), (35, .int .i64 0)]) (S' := St w0 Φ_2 [(b_2, .cells #[.string p1.Kind, pv1_0] 40 (0, 0))] [ob v3]) ⟨rfl, rfl, rfl, rfl, rfl, rfl, trivial⟩ (fun w1 hw => (hw.sel (js := [0]) rfl).selO (js := [0]) rfl) ?_
 refine loop_ind (σ := Hp × (List TBind) × Value × Int) (fun s => [(2, pv2), (4, .pointer (some ⟨b_2, 0, none⟩)), (8, s.2.2.1), (33, pv0_0), (34, .int .i64 (p0.Args.length : Int)), (35, .int .i64 s.2.2.2)]) (fun s => St w0 s.1 [(b_2, .cells #[.string p1.Kind, pv1_0] 40 (0, 0))] [ob s.2.2.1]) (fun m s => m_i_MatchPat_l1 N p0 p1 p2 m s.2.1 s.2.2.2 = some r ∧ (OSl RTBind 142 4 s.1 [] s.2.2.1 s.2.1) ∧ (RSl RTBind 4 s.1 pG2 pv2 p2) ∧ (RSl RTVal 3 s.1 pG1_0 pv1_0 p1.Fields) ∧ (RSl RTArg 5 s.1 pG0_0 pv0_0 p0.Args)) (fun s hm => none_ne (show (none : Option ((List TBind) × Bool)) = some r from hm.1)) (fun n1 ih1 s hm => ?_) N (Φ_2, x2, v3, 0) ⟨h, h2, ph2, ph1_0, ph0_0⟩
 obtain ⟨Φ_3, s1, u1, s2⟩ := s
 obtain ⟨h, k1, ph2, ph1_0, ph0_0⟩ := hm
 replace h : m_i_MatchPat_l1 N p0 p1 p2 (n1 + 1) s1 s2 = some r := h
 replace k1 : OSl RTBind 142 4 Φ_3 [] u1 s1 := k1
 replace ph2 : RSl RTBind 4 Φ_3 pG2 pv2 p2 := ph2
 replace ph1_0 : RSl RTVal 3 Φ_3 pG1_0 pv1_0 p1.Fields := ph1_0
 replace ph0_0 : RSl RTArg 5 Φ_3 pG0_0 pv0_0 p0.Args := ph0_0
 show WT _ _ [(2, pv2), (4, .pointer (some ⟨b_2, 0, none⟩)), (8, u1), (33, pv0_0), (34, .int .i64 (p0.Args.length : Int)), (35, .int .i64 s2)] (St w0 Φ_3 [(b_2, .cells #[.string p1.Kind, pv1_0] 40 (0, 0))] [ob u1])
 unfold m_i_MatchPat_l1 at h
 refine WT.seq <| WT.region <| lq (q_lss rfl rfl) rfl <| WL.nil <| WT.seq ?_
 refine WT.cond rfl (fun c3 => ?_) (fun c3 => ?_)
 ·replace h := ite_t h c3
  refine WT.skip <| WT.seq <| WT.block <| WT.seq <| WT.region <| lq (q_move rfl) rfl ?_
  obtain ⟨x3, hx3, h⟩ := bind_some h
  obtain ⟨cs1, F3, -, g1, hb1, hs1, r1⟩ := ph0_0.el (idx_some hx3).2.2
  obtain ⟨rfl, -⟩ := r1
  refine lq (q_indexAddr Sl_35 rfl rfl ph0_0 hx3) rfl <| lq (q_loadN Tn_83 rfl (fun w1 hw => (g1.of_eq 0 5 rfl rfl : rg _ _ _ [.int .i64 x3.K, .string x3.S, .int .i64 x3.V.K, .int .i64 x3.V.N, .string x3.V.S]).rangeAt hw.fro) rfl) rfl ?_
  refine ln (n_alloc (C := #[.int .i64 0, .string (⟨#[]⟩ : ByteArray), .int .i64 0, .int .i64 0, .string (⟨#[]⟩ : ByteArray)]) Zr_83 rfl) rfl (fun b_3 => ?_)
  refine lq (q_assign rfl) rfl <| ls (s_store (i := 0) (vs := [.int .i64 x3.K, .string x3.S, .int .i64 x3.V.K, .int .i64 x3.V.N, .string x3.V.S]) (C' := [.int .i64 x3.K, .string x3.S, .int .i64 x3.V.K, .int .i64 x3.V.N, .string x3.V.S]) (O' := [(b_3, .cells #[.int .i64 x3.K, .string x3.S, .int .i64 x3.V.K, .int .i64 x3.V.N, .string x3.V.S] 83 (0, 0)), (b_2, .cells #[.string p1.Kind, pv1_0] 40 (0, 0))]) Sz_83 rfl rfl rfl rfl rfl rfl ⟨rfl, rfl, rfl, rfl, rfl, trivial⟩ rfl rfl) rfl ?_
  refine WL.nil <| WT.seq <| WT.region <| lq (q_fieldAddr Fld_40_1 rfl) rfl <| lq (q_load1 T1_38 rfl (fun w1 hw => hw.rgO (i := 1) rfl 1 1 [pv1_0] rfl)) rfl <| lq (q_move rfl) rfl ?_
  obtain ⟨x4, hx4, h⟩ := bind_some h
  obtain ⟨cs2, F4, -, g2, hb2, hs2, r2⟩ := ph1_0.el (idx_some hx4).2.2
  obtain ⟨rfl, -⟩ := r2
  refine lq (q_indexAddr Sl_38 rfl rfl ph1_0 hx4) rfl <| lq (q_loadN Tn_79 rfl (fun w1 hw => (g2.of_eq 0 3 rfl rfl : rg _ _ _ [.int .i64 x4.K, .int .i64 x4.N, .string x4.S]).rangeAt hw.fro) rfl) rfl ?_
  refine ln (n_alloc (C := #[.int .i64 0, .int .i64 0, .string (⟨#[]⟩ : ByteArray)]) Zr_79 rfl) rfl (fun b_4 => ?_)
  refine ls (s_store (i := 0) (vs := [.int .i64 x4.K, .int .i64 x4.N, .string x4.S]) (C' := [.int .i64 x4.K, .int .i64 x4.N, .string x4.S]) (O' := [(b_4, .cells #[.int .i64 x4.K, .int .i64 x4.N, .string x4.S] 79 (0, 0)), (b_3, .cells #[.int .i64 x3.K, .string x3.S, .int .i64 x3.V.K, .int .i64 x3.V.N, .string x3.V.S] 83 (0, 0)), (b_2, .cells #[.string p1.Kind, pv1_0] 40 (0, 0))]) Sz_79 rfl rfl rfl rfl rfl rfl ⟨rfl, rfl, rfl, trivial⟩ rfl rfl) rfl ?_
  refine WL.nil <| WT.seq <| WT.region <| lq (q_fieldAddr Fld_83_0 rfl) rfl <| lq (q_load1 T1_3 rfl (fun w1 hw => hw.rgO (i := 1) rfl 0 1 [.int .i64 x3.K] rfl)) rfl <| WL.nil <| WT.block <| WT.seq <| WT.region <| lq (q_eql rfl rfl) rfl <| lq (q_assign rfl) rfl <| WL.nil ?_
  refine WT.cond rfl (fun c4 => ?_) (fun c4 => ?_)
  ·replace h := ite_t h c4
   refine WT.seq <| WT.region <| lq (q_fieldAddr Fld_83_2 rfl) rfl <| lq (q_loadN Tn_79 rfl (fun w1 hw => hw.rgO (i := 1) rfl 2 3 [.int .i64 x3.V.K, .int .i64 x3.V.N, .string x3.V.S] rfl) rfl) rfl <| lq (q_loadN Tn_79 rfl (fun w1 hw => hw.rgO (i := 0) rfl 0 3 [.int .i64 x4.K, .int .i64 x4.N, .string x4.S] rfl) rfl) rfl <| lq (q_neA EqT_79 rfl rfl rfl (r := eqT_TVal x3.V x4) rfl) rfl <| WL.nil ?_
   refine WT.cond rfl (fun c5 => ?_) (fun c5 => ?_)
   ·replace h := ite_t h c5
    refine WT.seq <| WT.region <| lq (q_move rfl) rfl ?_
    obtain ⟨x5, hx5, h⟩ := bind_some h
    refine lc (k_call (js := []) (R := [ob u1]) Fun_89 rfl rfl (fun w1 hw ap hl => m_sl_Clone_Si_Bind_i_Bind_ok hw.fro N p2 ph2  hx5)) rfl (fun v5 Φ_4 F5 q3 => ?_)
    obtain ⟨ap3, fr3, v6, rfl, rfl, h3⟩ := q3
    refine lq (q_assign rfl) rfl <| lq (q_assign rfl) rfl <| WL.nil ?_
    refine WT.ret Try.func18 (resOk.two rfl rfl) (fun w1 hw => ?_)
    subst hb0
    cases h
    refine postG_of_St (js := [0]) hw rfl ⟨v5, rfl, rfl, h3⟩
   replace h := ite_f h c5
   refine WT.skip <| WT.inBlock <| WT.inBlock <| WT.region <| lq (q_add rfl rfl) rfl <| lq (q_move rfl) rfl <| WL.nil ?_
   refine WT.inLoop (WT.mono (l' := [(2, pv2), (4, .pointer (some ⟨b_2, 0, none⟩)), (8, u1), (33, pv0_0), (34, .int .i64 (p0.Args.length : Int)), (35, .int .i64 (IntKind.i64.wrap (s2 + 1)))]) (S' := St w0 Φ_3 [(b_2, .cells #[.string p1.Kind, pv1_0] 40 (0, 0))] [ob u1]) ⟨rfl, rfl, rfl, rfl, rfl, rfl, trivial⟩ (fun w1 hw => (hw.sel (js := [0]) rfl).selO (js := [2]) rfl) ?_)
   exact ih1 (Φ_3, s1, u1, IntKind.i64.wrap (s2 + 1)) ⟨h, k1, ph2, ph1_0, ph0_0⟩
  replace h := ite_f h c4
  refine WT.seq <| WT.region <| lq (q_eql rfl rfl) rfl <| lq (q_assign rfl) rfl <| WL.nil ?_
  refine WT.cond rfl (fun c6 => ?_) (fun c6 => ?_)
  ·replace h := ite_t h c6
   refine WT.seq <| WT.region <| lq (q_move rfl) rfl <| lq (q_fieldAddr Fld_83_1 rfl) rfl <| lq (q_load1 T1_9 rfl (fun w1 hw => hw.rgO (i := 1) rfl 1 1 [.string x3.S] rfl)) rfl ?_
   obtain ⟨x6, hx6, h⟩ := bind_some h
   refine lp (p_call Fun_90 rfl (fun w1 hw => m_i_BindOf_ok hw.fro N s1 x3.S k1.rsl hx6)) rfl <| lq (q_move rfl) rfl <| lq (q_extract rfl rfl) rfl <| lq (q_extract rfl rfl) rfl ?_
   refine ln (n_alloc (C := #[.int .i64 0, .int .i64 0, .string (⟨#[]⟩ : ByteArray)]) Zr_79 rfl) rfl (fun b_5 => ?_)
   refine ls (s_store (i := 0) (vs := [.int .i64 x6.1.K, .int .i64 x6.1.N, .string x6.1.S]) (C' := [.int .i64 x6.1.K, .int .i64 x6.1.N, .string x6.1.S]) (O' := [(b_5, .cells #[.int .i64 x6.1.K, .int .i64 x6.1.N, .string x6.1.S] 79 (0, 0)), (b_4, .cells #[.int .i64 x4.K, .int .i64 x4.N, .string x4.S] 79 (0, 0)), (b_3, .cells #[.int .i64 x3.K, .string x3.S, .int .i64 x3.V.K, .int .i64 x3.V.N, .string x3.V.S] 83 (0, 0)), (b_2, .cells #[.string p1.Kind, pv1_0] 40 (0, 0))]) Sz_79 rfl rfl rfl rfl rfl rfl ⟨rfl, rfl, rfl, trivial⟩ rfl rfl) rfl ?_
   refine lq (q_assign rfl) rfl <| WL.nil <| WT.seq <| WT.seq <| WT.region <| lq (q_move rfl) rfl <| lq (q_move rfl) rfl ?_
   obtain ⟨b2, hb_2, h⟩ := bind_some h
   refine WL.cutN 4 [(69, .bool b2), (2, pv2), (4, .pointer (some ⟨b_2, 0, none⟩)), (8, u1), (10, .pointer (some ⟨b_3, 0, none⟩)), (11, .pointer (some ⟨b_4, 0, none⟩)), (13, .bool x6.2), (33, pv0_0), (34, .int .i64 (p0.Args.length : Int)), (35, .int .i64 s2)] ?_ (fun K => ?_)
   rotate_left
   ·refine WL.split (d := 65) rfl (fun c7 => ?_) (fun c7 => ?_)
    ·replace hb_2 := ite_t hb_2 c7
     refine WL.yes rfl rfl <| lq (q_loadN Tn_79 rfl (fun w1 hw => hw.rgO (i := 0) rfl 0 3 [.int .i64 x6.1.K, .int .i64 x6.1.N, .string x6.1.S] rfl) rfl) rfl <| WL.yes rfl rfl <| lq (q_loadN Tn_79 rfl (fun w1 hw => hw.rgO (i := 1) rfl 0 3 [.int .i64 x4.K, .int .i64 x4.N, .string x4.S] rfl) rfl) rfl <| WL.yes rfl rfl <| lq (q_neA EqT_79 rfl rfl rfl (r := eqT_TVal x6.1 x4) rfl) rfl <| WL.q (q_pick1 rfl rfl) rfl rfl rfl ?_
     cases hb_2
     exact WL.keep (by exact ⟨rfl, rfl, rfl, rfl, rfl, rfl, rfl, rfl, rfl, rfl, trivial⟩) K
    ·replace hb_2 := ite_f hb_2 c7
     refine WL.no rfl rfl rfl rfl <| WL.no rfl rfl rfl rfl <| WL.no rfl rfl rfl rfl <| WL.q (q_pick0 rfl rfl) rfl rfl rfl ?_
     cases hb_2
     exact WL.keep (by exact ⟨rfl, rfl, rfl, rfl, rfl, rfl, rfl, rfl, rfl, rfl, trivial⟩) K
   refine WL.nil ?_
   refine WT.cond rfl (fun c8 => ?_) (fun c8 => ?_)
   ·replace h := ite_t h c8
    refine WT.seq <| WT.region <| lq (q_move rfl) rfl ?_
    obtain ⟨x7, hx7, h⟩ := bind_some h
    refine lc (k_call (js := []) (R := [ob u1]) Fun_89 rfl rfl (fun w1 hw ap hl => m_sl_Clone_Si_Bind_i_Bind_ok hw.fro N p2 ph2  hx7)) rfl (fun v7 Φ_5 F6 q4 => ?_)
    obtain ⟨ap4, fr4, v8, rfl, rfl, h4⟩ := q4
    refine lq (q_assign rfl) rfl <| lq (q_assign rfl) rfl <| WL.nil ?_
    refine WT.ret Try.func18 (resOk.two rfl rfl) (fun w1 hw => ?_)
    subst hb0
    cases h
    refine postG_of_St (js := [0]) hw rfl ⟨v7, rfl, rfl, h4⟩
   replace h := ite_f h c8
   refine WT.skip <| WT.seq <| WT.region <| lq (q_move rfl) rfl <| lq (q_not rfl) rfl <| WL.nil ?_
   refine WT.cond rfl (fun c9 => ?_) (fun c9 => ?_)
   ·replace h := ite_t h c9
    refine WT.region <| lq (q_move rfl) rfl <| lq (q_fieldAddr Fld_83_1 rfl) rfl <| lq (q_load1 T1_9 rfl (fun w1 hw => hw.rgO (i := 2) rfl 1 1 [.string x3.S] rfl)) rfl <| lq (q_loadN Tn_79 rfl (fun w1 hw => hw.rgO (i := 1) rfl 0 3 [.int .i64 x4.K, .int .i64 x4.N, .string x4.S] rfl) rfl) rfl <| lq (q_build (vs := [(0, .string x3.S), (1, .agg [.int .i64 x4.K, .int .i64 x4.N, .string x4.S].toArray)]) (C := #[.string x3.S, .int .i64 x4.K, .int .i64 x4.N, .string x4.S]) Pl_142 Zr_142 rfl (fill_cons (cells := [.string ⟨#[]⟩, .int .i64 0, .int .i64 0, .string ⟨#[]⟩]) (c := [.string x3.S]) (C' := [.string x3.S, .int .i64 0, .int .i64 0, .string ⟨#[]⟩]) rfl rfl rfl rfl rfl (fill_cons (cells := [.string x3.S, .int .i64 0, .int .i64 0, .string ⟨#[]⟩]) (c := [.int .i64 x4.K, .int .i64 x4.N, .string x4.S]) (C' := [.string x3.S, .int .i64 x4.K, .int .i64 x4.N, .string x4.S]) rfl rfl rfl rfl rfl (fill_nil)))) rfl ?_
    have rc1 : RC RTBind 4 Φ_3 ([[]] : List (List Nat)) [.string x3.S, .int .i64 x4.K, .int .i64 x4.N, .string x4.S] ([(⟨x3.S, x4⟩ : TBind)] : List TBind) := RC.cons (c := [.string x3.S, .int .i64 x4.K, .int .i64 x4.N, .string x4.S]) (cells := []) ⟨rfl, rfl⟩ rfl (RC.nil _ _ _)
    refine le' (e_lit (vs := [(0, .agg [.string x3.S, .int .i64 x4.K, .int .i64 x4.N, .string x4.S].toArray)]) (C := #[.string x3.S, .int .i64 x4.K, .int .i64 x4.N, .string x4.S]) RTBind.lasts Sl_28 Zr_142 rfl rfl rfl rfl (fill_made MC_142_1 (fill_cons (cells := [.string ⟨#[]⟩, .int .i64 0, .int .i64 0, .string ⟨#[]⟩]) (c := [.string x3.S, .int .i64 x4.K, .int .i64 x4.N, .string x4.S]) (C' := [.string x3.S, .int .i64 x4.K, .int .i64 x4.N, .string x4.S]) rfl rfl rfl rfl rfl (fill_nil))) rfl rc1 rfl (by simpa using Kw.nil)) rfl (fun v9 Φ_6 D1 q5 => ?_)
    obtain ⟨fr5, h5⟩ := q5
    replace h5 : OSl RTBind 142 4 Φ_6 [] v9 ([(⟨x3.S, x4⟩ : TBind)] : List TBind) := by simpa using h5
    replace ph2 := ph2.frame RTBind.lasts fr5 (Dj.empty _)
    replace ph1_0 := ph1_0.frame RTVal.lasts fr5 (Dj.empty _)
    replace ph0_0 := ph0_0.frame RTArg.lasts fr5 (Dj.empty _)
    replace k1 := k1.frame RTBind.lasts fr5 (Dj.empty _) (Dj.empty _)
    obtain ⟨x8, hx8, h⟩ := bind_some h
    refine le' (e_appF RTBind.lasts RTBind.one RTBind.flat Sl_28 Ei_142 rfl rfl rfl rfl rfl (js := [1]) (Rr := [ob v9]) rfl k1 h5.rsl hx8) rfl (fun v10 Φ_7 D2 q6 => ?_)
    obtain ⟨⟨ap5, fr6⟩, h6⟩ := q6
    replace ph2 := ph2.frame RTBind.lasts fr6 (ap5.o pa2)
    replace ph1_0 := ph1_0.frame RTVal.lasts fr6 (ap5.o pa1_0)
    replace ph0_0 := ph0_0.frame RTArg.lasts fr6 (ap5.o pa0_0)
    refine lq (q_assign rfl) rfl <| WL.nil <| WT.inBlock <| WT.inBlock <| WT.region <| lq (q_add rfl rfl) rfl <| lq (q_move rfl) rfl <| WL.nil ?_
    refine WT.inLoop (WT.mono (l' := [(2, pv2), (4, .pointer (some ⟨b_2, 0, none⟩)), (8, v10), (33, pv0_0), (34, .int .i64 (p0.Args.length : Int)), (35, .int .i64 (IntKind.i64.wrap (s2 + 1)))]) (S' := St w0 Φ_7 [(b_2, .cells #[.string p1.Kind, pv1_0] 40 (0, 0))] [ob v10]) ⟨rfl, rfl, rfl, rfl, rfl, rfl, trivial⟩ (fun w1 hw => (hw.sel (js := [0]) rfl).selO (js := [3]) rfl) ?_)
    exact ih1 (Φ_7, x8, v10, IntKind.i64.wrap (s2 + 1)) ⟨h, h6, ph2, ph1_0, ph0_0⟩
   replace h := ite_f h c9
   refine WT.skip <| WT.inBlock <| WT.inBlock <| WT.region <| lq (q_add rfl rfl) rfl <| lq (q_move rfl) rfl <| WL.nil ?_
   refine WT.inLoop (WT.mono (l' := [(2, pv2), (4, .pointer (some ⟨b_2, 0, none⟩)), (8, u1), (33, pv0_0), (34, .int .i64 (p0.Args.length : Int)), (35, .int .i64 (IntKind.i64.wrap (s2 + 1)))]) (S' := St w0 Φ_3 [(b_2, .cells #[.string p1.Kind, pv1_0] 40 (0, 0))] [ob u1]) ⟨rfl, rfl, rfl, rfl, rfl, rfl, trivial⟩ (fun w1 hw => (hw.sel (js := [0]) rfl).selO (js := [3]) rfl) ?_)
   exact ih1 (Φ_3, s1, u1, IntKind.i64.wrap (s2 + 1)) ⟨h, k1, ph2, ph1_0, ph0_0⟩
  replace h := ite_f h c6
  refine WT.skip <| WT.inBlock <| WT.inBlock <| WT.region <| lq (q_add rfl rfl) rfl <| lq (q_move rfl) rfl <| WL.nil ?_
  refine WT.inLoop (WT.mono (l' := [(2, pv2), (4, .pointer (some ⟨b_2, 0, none⟩)), (8, u1), (33, pv0_0), (34, .int .i64 (p0.Args.length : Int)), (35, .int .i64 (IntKind.i64.wrap (s2 + 1)))]) (S' := St w0 Φ_3 [(b_2, .cells #[.string p1.Kind, pv1_0] 40 (0, 0))] [ob u1]) ⟨rfl, rfl, rfl, rfl, rfl, rfl, trivial⟩ (fun w1 hw => (hw.sel (js := [0]) rfl).selO (js := [2]) rfl) ?_)
  exact ih1 (Φ_3, s1, u1, IntKind.i64.wrap (s2 + 1)) ⟨h, k1, ph2, ph1_0, ph0_0⟩
 replace h := ite_f h c3
 refine WT.exit rfl <| WT.seq <| WT.region <| lq (q_move rfl) rfl <| lq (q_assign rfl) rfl <| lq (q_assign rfl) rfl <| WL.nil ?_
 refine WT.ret Try.func18 (resOk.two rfl rfl) (fun w1 hw => ?_)
 subst hb0
 cases h
 refine postG_of_St (js := [0]) hw rfl ⟨u1, rfl, rfl, k1⟩
theorem m_i_hitsIn_ok {Φ : Hp} {w : World} (hΦ : In Φ w) (N : Nat) (p0 : TPat) (p1 : TStore) (p2 : (List TBind)) {pv0_0 : Value} {pG0_0 : List Nat} {pv1_0 : Value} {pG1_0 : List Nat} {pv2 : Value} {pG2 : List Nat} (ph0_0 : RSl RTArg 5 Φ pG0_0 pv0_0 p0.Args) (ph1_0 : RSl RTItem 3 Φ pG1_0 pv1_0 p1.Items) (ph2 : RSl RTBind 4 Φ pG2 pv2 p2) {r : Int} (h : m_i_hitsIn N p0 p1 p2 = some r) :
  Calls Try.prog 132 [.agg [.string p0.Kind, pv0_0, .bool p0.Not].toArray, .agg [pv1_0, .int .i64 p1.Next].toArray, pv2].toArray w (Post (.int .i64 r) w) := by
 refine enter Try.func132 rfl Try.ntmps132 rfl (St.start0 hΦ) ?_
 have pa0_0 : Old ⟨w, [], Φ⟩ pG0_0 := Old.mk hΦ ph0_0.kn (Dj.empty _)
 have pa1_0 : Old ⟨w, [], Φ⟩ pG1_0 := Old.mk hΦ ph1_0.kn (Dj.empty _)
 have pa2 : Old ⟨w, [], Φ⟩ pG2 := Old.mk hΦ ph2.kn (Dj.empty _)
 revert pa0_0 pa1_0 pa2
 generalize hb0 : (⟨w, [], Φ⟩ : Base) = w0
 intro pa0_0 pa1_0 pa2
 unfold m_i_hitsIn at h
 refine WT.seq <| WT.region ?_
 refine ln (n_box (C := #[.string p0.Kind, pv0_0, .bool p0.Not]) rfl rfl) rfl (fun b_1 => ?_)
 refine ln (n_box (C := #[pv1_0, .int .i64 p1.Next]) rfl rfl) rfl (fun b_2 => ?_)
 refine lq (q_assign rfl) rfl <| WL.nil <| WT.seq <| WT.region <| lq (q_assign rfl) rfl <| WL.nil <| WT.seq <| WT.seq <| WT.region <| lq (q_fieldAddr Fld_102_0 rfl) rfl <| lq (q_load1 T1_100 rfl (fun w1 hw => hw.rgO (i := 0) rfl 0 1 [pv1_0] rfl)) rfl <| lq (q_lenR Sl_100 rfl rfl ph1_0) rfl <| lq (q_move rfl) rfl <| WL.nil <| WT.block <| WT.loop <| WT.mono (l' := [(2, pv2), (3, .pointer (some ⟨b_1, 0, none⟩)), (7, .int .i64 0), (13, pv1_0), (14, .int .i64 (p1.Items.length : Int)), (15, .int .i64 0)]) (S' := St w0 Φ [(b_1, .cells #[.string p0.Kind, pv0_0, .bool p0.Not] 37 (0, 0))] []) ⟨rfl, rfl, rfl, rfl, rfl, rfl, trivial⟩ (fun w1 hw => (hw.sel (js := []) rfl).selO (js := [1]) rfl) ?_
 refine loop_ind (σ := Hp × Int × Int) (fun s => [(2, pv2), (3, .pointer (some ⟨b_1, 0, none⟩)), (7, .int .i64 s.2.1), (13, pv1_0), (14, .int .i64 (p1.Items.length : Int)), (15, .int .i64 s.2.2)]) (fun s => St w0 s.1 [(b_1, .cells #[.string p0.Kind, pv0_0, .bool p0.Not] 37 (0, 0))] []) (fun m s => m_i_hitsIn_l1 N p0 p1 p2 m s.2.1 s.2.2 = some r ∧ (RSl RTBind 4 s.1 pG2 pv2 p2) ∧ (RSl RTArg 5 s.1 pG0_0 pv0_0 p0.Args) ∧ (RSl RTItem 3 s.1 pG1_0 pv1_0 p1.Items)) (fun s hm => none_ne (show (none : Option (Int)) = some r from hm.1)) (fun n1 ih1 s hm => ?_) N (Φ, 0, 0) ⟨h, ph2, ph0_0, ph1_0⟩
 obtain ⟨Φ_1, s1, s2⟩ := s
 obtain ⟨h, ph2, ph0_0, ph1_0⟩ := hm
 replace h : m_i_hitsIn_l1 N p0 p1 p2 (n1 + 1) s1 s2 = some r := h
 replace ph2 : RSl RTBind 4 Φ_1 pG2 pv2 p2 := ph2
 replace ph0_0 : RSl RTArg 5 Φ_1 pG0_0 pv0_0 p0.Args := ph0_0
 replace ph1_0 : RSl RTItem 3 Φ_1 pG1_0 pv1_0 p1.Items := ph1_0
 show WT _ _ [(2, pv2), (3, .pointer (some ⟨b_1, 0, none⟩)), (7, .int .i64 s1), (13, pv1_0), (14, .int .i64 (p1.Items.length : Int)), (15, .int .i64 s2)] (St w0 Φ_1 [(b_1, .cells #[.string p0.Kind, pv0_0, .bool p0.Not] 37 (0, 0))] [])
 unfold m_i_hitsIn_l1 at h
 refine WT.seq <| WT.region <| lq (q_lss rfl rfl) rfl <| WL.nil <| WT.seq ?_
 refine WT.cond rfl (fun c1 => ?_) (fun c1 => ?_)
 ·replace h := ite_t h c1
  refine WT.skip <| WT.seq <| WT.block <| WT.seq <| WT.region ?_
  obtain ⟨x1, hx1, h⟩ := bind_some h
  obtain ⟨cs1, F1, -, g1, hb1, hs1, r1⟩ := ph1_0.el (idx_some hx1).2.2
  obtain ⟨v1, G1, rfl, hq1, h1⟩ := r1
  obtain rfl := hq1.symm
  refine lq (q_indexAddr Sl_100 rfl rfl ph1_0 hx1) rfl <| lq (q_loadN Tn_169 rfl (fun w1 hw => (g1.of_eq 0 3 rfl rfl : rg _ _ _ [.int .i64 x1.Id, .string x1.F.Kind, v1]).rangeAt hw.fro) rfl) rfl ?_
  refine ln (n_alloc (C := #[.int .i64 0, .string (⟨#[]⟩ : ByteArray), .slice none 0 0]) Zr_169 rfl) rfl (fun b_3 => ?_)
  refine ls (s_store (i := 0) (vs := [.int .i64 x1.Id, .string x1.F.Kind, v1]) (C' := [.int .i64 x1.Id, .string x1.F.Kind, v1]) (O' := [(b_3, .cells #[.int .i64 x1.Id, .string x1.F.Kind, v1] 169 (0, 0)), (b_1, .cells #[.string p0.Kind, pv0_0, .bool p0.Not] 37 (0, 0))]) Sz_169 rfl rfl rfl rfl rfl rfl ⟨rfl, rfl, h1.one, trivial⟩ rfl rfl) rfl <| WL.nil <| WT.seq <| WT.region <| lq (q_loadN Tn_37 rfl (fun w1 hw => hw.rgO (i := 1) rfl 0 3 [.string p0.Kind, pv0_0, .bool p0.Not] rfl) rfl) rfl ?_
  refine lq (q_fieldAddr Fld_169_1 rfl) rfl <| lq (q_loadN Tn_40 rfl (fun w1 hw => hw.rgO (i := 0) rfl 1 2 [.string x1.F.Kind, v1] rfl) rfl) rfl <| lq (q_move rfl) rfl ?_
  obtain ⟨x2, hx2, h⟩ := bind_some h
  refine lc (k_call (js := []) (R := []) Fun_18 rfl rfl (fun w1 hw ap hl => m_i_MatchPat_ok hw.fro N p0 x1.F p2 ph0_0 h1 ph2  hx2)) rfl (fun v2 Φ_2 F2 q1 => ?_)
  obtain ⟨ap1, fr1, v3, rfl, rfl, h2⟩ := q1
  replace ph2 := ph2.frame RTBind.lasts fr1 (ap1.o pa2)
  replace ph0_0 := ph0_0.frame RTArg.lasts fr1 (ap1.o pa0_0)
  replace ph1_0 := ph1_0.frame RTItem.lasts fr1 (ap1.o pa1_0)
  refine lq (q_move rfl) rfl <| lq (q_extract rfl rfl) rfl <| lq (q_extract rfl rfl) rfl <| lq (q_assign rfl) rfl <| lq (q_assign rfl) rfl <| WL.nil <| WT.seq <| WT.region <| lq (q_move rfl) rfl <| WL.nil ?_
  refine WT.cond rfl (fun c2 => ?_) (fun c2 => ?_)
  ·replace h := ite_t h c2
   refine WT.region <| lq (q_move rfl) rfl <| lq (q_add rfl rfl) rfl <| lq (q_assign rfl) rfl <| WL.nil <| WT.inBlock <| WT.region <| lq (q_add rfl rfl) rfl <| lq (q_move rfl) rfl <| WL.nil ?_
   refine WT.inLoop (WT.mono (l' := [(2, pv2), (3, .pointer (some ⟨b_1, 0, none⟩)), (7, .int .i64 (IntKind.i64.wrap (s1 + 1))), (13, pv1_0), (14, .int .i64 (p1.Items.length : Int)), (15, .int .i64 (IntKind.i64.wrap (s2 + 1)))]) (S' := St w0 Φ_2 [(b_1, .cells #[.string p0.Kind, pv0_0, .bool p0.Not] 37 (0, 0))] []) ⟨rfl, rfl, rfl, rfl, rfl, rfl, trivial⟩ (fun w1 hw => (hw.sel (js := []) rfl).selO (js := [1]) rfl) ?_)
   exact ih1 (Φ_2, IntKind.i64.wrap (s1 + 1), IntKind.i64.wrap (s2 + 1)) ⟨h, ph2, ph0_0, ph1_0⟩
  replace h := ite_f h c2
  refine WT.skip <| WT.inBlock <| WT.region <| lq (q_add rfl rfl) rfl <| lq (q_move rfl) rfl <| WL.nil ?_
  refine WT.inLoop (WT.mono (l' := [(2, pv2), (3, .pointer (some ⟨b_1, 0, none⟩)), (7, .int .i64 s1), (13, pv1_0), (14, .int .i64 (p1.Items.length : Int)), (15, .int .i64 (IntKind.i64.wrap (s2 + 1)))]) (S' := St w0 Φ_2 [(b_1, .cells #[.string p0.Kind, pv0_0, .bool p0.Not] 37 (0, 0))] []) ⟨rfl, rfl, rfl, rfl, rfl, rfl, trivial⟩ (fun w1 hw => (hw.sel (js := []) rfl).selO (js := [1]) rfl) ?_)
  exact ih1 (Φ_2, s1, IntKind.i64.wrap (s2 + 1)) ⟨h, ph2, ph0_0, ph1_0⟩
 replace h := ite_f h c1
 refine WT.exit rfl <| WT.seq <| WT.region <| lq (q_move rfl) rfl <| lq (q_assign rfl) rfl <| WL.nil ?_
 refine WT.ret Try.func132 (resOk.one rfl) (fun w1 hw => ?_)
 subst hb0
 cases h
 exact post_of_St hw
theorem m_i_Blocked_ok {Φ : Hp} {w : World} (hΦ : In Φ w) (N : Nat) (p0 : TRule) (p1 : TStore) (p2 : (List TBind)) {pv0_0 : Value} {pG0_0 : List Nat} {pv0_1 : Value} {pG0_1 : List Nat} {pv0_2 : Value} {pG0_2 : List Nat} {pv1_0 : Value} {pG1_0 : List Nat} {pv2 : Value} {pG2 : List Nat} (ph0_0 : RSl RTPat 3 Φ pG0_0 pv0_0 p0.Pats) (ph0_1 : RSl RTCond 11 Φ pG0_1 pv0_1 p0.Conds) (ph0_2 : RSl RTAct 5 Φ pG0_2 pv0_2 p0.Acts) (ph1_0 : RSl RTItem 3 Φ pG1_0 pv1_0 p1.Items) (ph2 : RSl RTBind 4 Φ pG2 pv2 p2) {r : Bool} (h : m_i_Blocked N p0 p1 p2 = some r) :
  Calls Try.prog 56 [.agg [.string p0.Name, .int .i64 p0.Sal, pv0_0, pv0_1, pv0_2].toArray, .agg [pv1_0, .int .i64 p1.Next].toArray, pv2].toArray w (Post (.bool r) w) := by
 refine enter Try.func56 rfl Try.ntmps56 rfl (St.start0 hΦ) ?_
 generalize hb0 : (⟨w, [], Φ⟩ : Base) = w0
 unfold m_i_Blocked at h
 refine WT.seq <| WT.region ?_
 refine ln (n_box (C := #[.string p0.Name, .int .i64 p0.Sal, pv0_0, pv0_1, pv0_2]) rfl rfl) rfl (fun b_1 => ?_)
 refine ln (n_box (C := #[pv1_0, .int .i64 p1.Next]) rfl rfl) rfl (fun b_2 => ?_)
 refine lq (q_assign rfl) rfl <| WL.nil <| WT.seq <| WT.seq <| WT.region <| lq (q_fieldAddr Fld_66_2 rfl) rfl <| lq (q_load1 T1_62 rfl (fun w1 hw => hw.rgO (i := 1) rfl 2 1 [pv0_0] rfl)) rfl <| lq (q_lenR Sl_62 rfl rfl ph0_0) rfl <| lq (q_move rfl) rfl <| WL.nil <| WT.block <| WT.loop <| WT.mono (l' := [(2, pv2), (4, .pointer (some ⟨b_2, 0, none⟩)), (10, pv0_0), (11, .int .i64 (p0.Pats.length : Int)), (12, .int .i64 0)]) (S' := St w0 Φ [(b_2, .cells #[pv1_0, .int .i64 p1.Next] 102 (0, 0))] []) ⟨rfl, rfl, rfl, rfl, rfl, trivial⟩ (fun w1 hw => (hw.sel (js := []) rfl).selO (js := [0]) rfl) ?_
 refine loop_ind (σ := Int) (fun s => [(2, pv2), (4, .pointer (some ⟨b_2, 0, none⟩)), (10, pv0_0), (11, .int .i64 (p0.Pats.length : Int)), (12, .int .i64 s)]) (fun s => St w0 Φ [(b_2, .cells #[pv1_0, .int .i64 p1.Next] 102 (0, 0))] []) (fun m s => m_i_Blocked_l1 N p0 p1 p2 m s = some r) (fun s hm => none_ne (show (none : Option (Bool)) = some r from hm)) (fun n1 ih1 s hm => ?_) N (0) h
 revert hm; revert s; intro s1 hm
 have h : m_i_Blocked_l1 N p0 p1 p2 (n1 + 1) s1 = some r := hm
 show WT _ _ [(2, pv2), (4, .pointer (some ⟨b_2, 0, none⟩)), (10, pv0_0), (11, .int .i64 (p0.Pats.length : Int)), (12, .int .i64 s1)] (St w0 Φ [(b_2, .cells #[pv1_0, .int .i64 p1.Next] 102 (0, 0))] [])
 unfold m_i_Blocked_l1 at h
 refine WT.seq <| WT.region <| lq (q_lss rfl rfl) rfl <| WL.nil <| WT.seq ?_
 refine WT.cond rfl (fun c1 => ?_) (fun c1 => ?_)
 ·replace h := ite_t h c1
  refine WT.skip <| WT.seq <| WT.block <| WT.seq <| WT.region ?_
  obtain ⟨x1, hx1, h⟩ := bind_some h
  obtain ⟨cs1, F1, -, g1, hb1, hs1, r1⟩ := ph0_0.el (idx_some hx1).2.2
  obtain ⟨v1, G1, rfl, hq1, h1⟩ := r1
  obtain rfl := hq1.symm
  refine lq (q_indexAddr Sl_62 rfl rfl ph0_0 hx1) rfl <| lq (q_loadN Tn_37 rfl (fun w1 hw => (g1.of_eq 0 3 rfl rfl : rg _ _ _ [.string x1.Kind, v1, .bool x1.Not]).rangeAt hw.fro) rfl) rfl ?_
  refine ln (n_alloc (C := #[.string (⟨#[]⟩ : ByteArray), .slice none 0 0, .bool false]) Zr_37 rfl) rfl (fun b_3 => ?_)
  refine ls (s_store (i := 0) (vs := [.string x1.Kind, v1, .bool x1.Not]) (C' := [.string x1.Kind, v1, .bool x1.Not]) (O' := [(b_3, .cells #[.string x1.Kind, v1, .bool x1.Not] 37 (0, 0)), (b_2, .cells #[pv1_0, .int .i64 p1.Next] 102 (0, 0))]) Sz_37 rfl rfl rfl rfl rfl rfl ⟨rfl, h1.one, rfl, trivial⟩ rfl rfl) rfl <| WL.nil <| WT.seq <| WT.region <| lq (q_fieldAddr Fld_37_2 rfl) rfl <| lq (q_load1 T1_4 rfl (fun w1 hw => hw.rgO (i := 0) rfl 2 1 [.bool x1.Not] rfl)) rfl ?_
  refine lq (q_move rfl) rfl ?_
  obtain ⟨b1, hb_1, h⟩ := bind_some h
  refine WL.cutN 6 [(24, .bool b1), (2, pv2), (4, .pointer (some ⟨b_2, 0, none⟩)), (10, pv0_0), (11, .int .i64 (p0.Pats.length : Int)), (12, .int .i64 s1)] ?_ (fun K => ?_)
  rotate_left
  ·refine WL.split (d := 18) rfl (fun c2 => ?_) (fun c2 => ?_)
   ·replace hb_1 := ite_t hb_1 c2
    refine WL.yes rfl rfl <| lq (q_loadN Tn_37 rfl (fun w1 hw => hw.rgO (i := 0) rfl 0 3 [.string x1.Kind, v1, .bool x1.Not] rfl) rfl) rfl <| WL.yes rfl rfl <| lq (q_loadN Tn_102 rfl (fun w1 hw => hw.rgO (i := 1) rfl 0 2 [pv1_0, .int .i64 p1.Next] rfl) rfl) rfl <| WL.yes rfl rfl <| lq (q_move rfl) rfl <| WL.yes rfl rfl ?_
    obtain ⟨x2, hx2, hb_1⟩ := bind_some hb_1
    refine lp (p_call Fun_132 rfl (fun w1 hw => m_i_hitsIn_ok hw.fro N x1 p1 p2 h1 ph1_0 ph2 hx2)) rfl <| WL.yes rfl rfl <| lq (q_gtr rfl rfl) rfl <| WL.q (q_pick1 rfl rfl) rfl rfl rfl ?_
    cases hb_1
    exact WL.keep (by exact ⟨rfl, rfl, rfl, rfl, rfl, rfl, trivial⟩) K
   ·replace hb_1 := ite_f hb_1 c2
    refine WL.no rfl rfl rfl rfl <| WL.no rfl rfl rfl rfl <| WL.no rfl rfl rfl rfl <| WL.no rfl rfl rfl rfl <| WL.no rfl rfl rfl rfl <| WL.q (q_pick0 rfl rfl) rfl rfl rfl ?_
    cases hb_1
    exact WL.keep (by exact ⟨rfl, rfl, rfl, rfl, rfl, rfl, trivial⟩) K
  refine WL.nil ?_
  refine WT.cond rfl (fun c3 => ?_) (fun c3 => ?_)
  ·replace h := ite_t h c3
   refine WT.seq <| WT.region <| lq (q_assign rfl) rfl <| WL.nil ?_
   refine WT.ret Try.func56 (resOk.one rfl) (fun w1 hw => ?_)
   subst hb0
   cases h
   exact post_of_St hw
  replace h := ite_f h c3
  refine WT.skip <| WT.inBlock <| WT.region <| lq (q_add rfl rfl) rfl <| lq (q_move rfl) rfl <| WL.nil ?_
  refine WT.inLoop (WT.mono (l' := [(2, pv2), (4, .pointer (some ⟨b_2, 0, none⟩)), (10, pv0_0), (11, .int .i64 (p0.Pats.length : Int)), (12, .int .i64 (IntKind.i64.wrap (s1 + 1)))]) (S' := St w0 Φ [(b_2, .cells #[pv1_0, .int .i64 p1.Next] 102 (0, 0))] []) ⟨rfl, rfl, rfl, rfl, rfl, trivial⟩ (fun w1 hw => (hw.sel (js := []) rfl).selO (js := [1]) rfl) ?_)
  exact ih1 (IntKind.i64.wrap (s1 + 1)) h
 replace h := ite_f h c1
 refine WT.exit rfl <| WT.seq <| WT.region <| lq (q_assign rfl) rfl <| WL.nil ?_
 refine WT.ret Try.func56 (resOk.one rfl) (fun w1 hw => ?_)
 subst hb0
 cases h
 exact post_of_St hw
theorem m_s_BindOf_ok {Φ : Hp} {w : World} (hΦ : In Φ w) (N : Nat) (p0 : (List TBind)) (p1 : ByteArray) {pv0 : Value} {pG0 : List Nat} (ph0 : RSl RTBind 4 Φ pG0 pv0 p0) {r : TVal × Bool} (h : m_s_BindOf N p0 p1 = some r) :
  Calls Try.prog 168 [pv0, .string p1].toArray w (Post (.tuple #[.agg [.int .i64 r.1.K, .int .i64 r.1.N, .string r.1.S].toArray, .bool r.2]) w) := by
 refine enter Try.func168 rfl Try.ntmps168 rfl (St.start0 hΦ) ?_
 generalize hb0 : (⟨w, [], Φ⟩ : Base) = w0
 unfold m_s_BindOf at h
 refine WT.seq <| WT.region ?_
 refine ln (n_alloc (C := #[.int .i64 0, .int .i64 0, .string (⟨#[]⟩ : ByteArray)]) Zr_79 rfl) rfl (fun b_1 => ?_)
 refine lq (q_assign rfl) rfl <| WL.nil <| WT.seq <| WT.seq <| WT.region <| lq (q_assign rfl) rfl <| WL.nil <| WT.block <| WT.loop <| WT.mono (l' := [(0, pv0), (1, .string p1), (4, .pointer (some ⟨b_1, 0, none⟩)), (6, .int .i64 0)]) (S' := St w0 Φ [(b_1, .cells #[.int .i64 0, .int .i64 0, .string (⟨#[]⟩ : ByteArray)] 79 (0, 0))] []) ⟨rfl, rfl, rfl, rfl, trivial⟩ (fun w1 hw => (hw.sel (js := []) rfl).selO (js := [0]) rfl) ?_
 refine loop_ind (σ := Int) (fun s => [(0, pv0), (1, .string p1), (4, .pointer (some ⟨b_1, 0, none⟩)), (6, .int .i64 s)]) (fun s => St w0 Φ [(b_1, .cells #[.int .i64 0, .int .i64 0, .string (⟨#[]⟩ : ByteArray)] 79 (0, 0))] []) (fun m s => m_s_BindOf_l1 N p0 p1 m s = some r) (fun s hm => none_ne (show (none : Option (TVal × Bool)) = some r from hm)) (fun n1 ih1 s hm => ?_) N (0) h
 revert hm; revert s; intro s1 hm
 have h : m_s_BindOf_l1 N p0 p1 (n1 + 1) s1 = some r := hm
 show WT _ _ [(0, pv0), (1, .string p1), (4, .pointer (some ⟨b_1, 0, none⟩)), (6, .int .i64 s1)] (St w0 Φ [(b_1, .cells #[.int .i64 0, .int .i64 0, .string (⟨#[]⟩ : ByteArray)] 79 (0, 0))] [])
 unfold m_s_BindOf_l1 at h
 refine WT.seq <| WT.seq <| WT.region <| lq (q_move rfl) rfl <| lq (q_move rfl) rfl <| lq (q_lenR Sl_28 rfl rfl ph0) rfl <| lq (q_lss rfl rfl) rfl <| WL.nil ?_
 refine WT.cond rfl (fun c1 => ?_) (fun c1 => ?_)
 ·replace h := ite_t h c1
  refine WT.skip <| WT.seq <| WT.block <| WT.seq <| WT.region <| lq (q_move rfl) rfl <| lq (q_move rfl) rfl ?_
  obtain ⟨x1, hx1, h⟩ := bind_some h
  obtain ⟨cs1, F1, -, g1, hb1, hs1, r1⟩ := ph0.el (idx_some hx1).2.2
  obtain ⟨rfl, -⟩ := r1
  refine lq (q_indexAddr Sl_28 rfl rfl ph0 hx1) rfl <| lq (q_fieldAddr Fld_142_0 rfl) rfl <| lq (q_load1 T1_9 rfl (fun w1 hw => (g1.of_eq 0 1 rfl rfl : rg _ _ _ [.string x1.Name]).rangeAt hw.fro)) rfl <| lq (q_move rfl) rfl <| lq (q_seq rfl rfl) rfl <| WL.nil ?_
  refine WT.cond rfl (fun c2 => ?_) (fun c2 => ?_)
  ·replace h := ite_t h c2
   refine WT.seq <| WT.region <| lq (q_move rfl) rfl <| lq (q_move rfl) rfl ?_
   obtain ⟨x2, hx2, h⟩ := bind_some h
   obtain ⟨cs2, F2, -, g2, hb2, hs2, r2⟩ := ph0.el (idx_some hx2).2.2
   obtain ⟨rfl, -⟩ := r2
   refine lq (q_indexAddr Sl_28 rfl rfl ph0 hx2) rfl <| lq (q_fieldAddr Fld_142_1 rfl) rfl <| lq (q_loadN Tn_79 rfl (fun w1 hw => (g2.of_eq 1 3 rfl rfl : rg _ _ _ [.int .i64 x2.V.K, .int .i64 x2.V.N, .string x2.V.S]).rangeAt hw.fro) rfl) rfl <| ls (s_store (i := 0) (vs := [.int .i64 x2.V.K, .int .i64 x2.V.N, .string x2.V.S]) (C' := [.int .i64 x2.V.K, .int .i64 x2.V.N, .string x2.V.S]) (O' := [(b_1, .cells #[.int .i64 x2.V.K, .int .i64 x2.V.N, .string x2.V.S] 79 (0, 0))]) Sz_79 rfl rfl rfl rfl rfl rfl ⟨rfl, rfl, rfl, trivial⟩ rfl rfl) rfl ?_
   refine lq (q_assign rfl) rfl <| WL.nil ?_
   refine WT.ret Try.func168 (resOk.two (rv_cell Tn_79 rfl (fun w1 hw => hw.rgO (i := 0) rfl 0 3 [.int .i64 x2.V.K, .int .i64 x2.V.N, .string x2.V.S] rfl) rfl) rfl) (fun w1 hw => ?_)
   subst hb0
   cases h
   exact post_of_St hw
  replace h := ite_f h c2
  refine WT.skip <| WT.inBlock <| WT.region <| lq (q_move rfl) rfl <| lq (q_add rfl rfl) rfl <| lq (q_assign rfl) rfl <| WL.nil ?_
  refine WT.inLoop (WT.mono (l' := [(0, pv0), (1, .string p1), (4, .pointer (some ⟨b_1, 0, none⟩)), (6, .int .i64 (IntKind.i64.wrap (s1 + 1)))]) (S' := St w0 Φ [(b_1, .cells #[.int .i64 0, .int .i64 0, .string (⟨#[]⟩ : ByteArray)] 79 (0, 0))] []) ⟨rfl, rfl, rfl, rfl, trivial⟩ (fun w1 hw => (hw.sel (js := []) rfl).selO (js := [0]) rfl) ?_)
  exact ih1 (IntKind.i64.wrap (s1 + 1)) h
 replace h := ite_f h c1
 refine WT.exit rfl <| WT.seq <| WT.region <| lq (q_build (vs := []) (C := #[.int .i64 0, .int .i64 0, .string (⟨#[]⟩ : ByteArray)]) Pl_79 Zr_79 rfl (fill_nil)) rfl <| ls (s_store (i := 0) (vs := [.int .i64 0, .int .i64 0, .string (⟨#[]⟩ : ByteArray)]) (C' := [.int .i64 0, .int .i64 0, .string (⟨#[]⟩ : ByteArray)]) (O' := [(b_1, .cells #[.int .i64 0, .int .i64 0, .string (⟨#[]⟩ : ByteArray)] 79 (0, 0))]) Sz_79 rfl rfl rfl rfl rfl rfl ⟨rfl, rfl, rfl, trivial⟩ rfl rfl) rfl ?_
 refine lq (q_assign rfl) rfl <| WL.nil ?_
 refine WT.ret Try.func168 (resOk.two (rv_cell Tn_79 rfl (fun w1 hw => hw.rgO (i := 0) rfl 0 3 [.int .i64 0, .int .i64 0, .string (⟨#[]⟩ : ByteArray)] rfl) rfl) rfl) (fun w1 hw => ?_)
 subst hb0
 cases h
 exact post_of_St hw
end Go.Proofs.Ytmhckcoabhahpaa
