/- Printed by a program of ours: each Go function computes its Lean function. -/
import Derived.Test.YtmhckcoabhahpaaProg
import Derived.Test.YtmhckcoabhahpaaWUrgentWalk1
namespace Go.Proofs.Ytmhckcoabhahpaa
open Eng
open Go.RowKit (Below)
set_option linter.unusedVariables false
set_option linter.unusedSimpArgs false

set_option maxRecDepth 100000
set_option maxHeartbeats 1000000
theorem m_s_l9Draw_ok {Φ : Hp} {w : World} (hΦ : In Φ w) (N : Nat) (p0 : Tl1Cur) (p1 : ByteArray) {pv0_0 : Value} {pG0_0 : List Nat} {pb0 : Nat} (ph0_0 : RSl (RI .u8) 1 Φ pG0_0 pv0_0 p0.b) (pp0 : Φ pb0 = some (.cells #[pv0_0, .int .i64 p0.i, .int .i64 p0.h] 195 (0, 0))) (pd0_0 : Dj pG0_0 [[pb0]].flatten) (hB : [[pb0]].flatten.Nodup) (hlt : ∀ k ∈ [[pb0]].flatten, k < w.heap.size) {r : TRule × Tl1Cur} (h : m_s_l9Draw N p0 p1 = some r) :
  Calls Try.prog 130 [.pointer (some ⟨pb0, 0, none⟩), .string p1].toArray w (PostG Φ w [[pb0]].flatten (fun Φ' Fs v => ∃ (sr_0_0 : Value) (Dr_0_0 : List Nat) (sr_0_1 : Value) (sr_0_2 : Value) (Dr_0_2 : List Nat), v = .agg [.string r.1.Name, .int .i64 r.1.Sal, sr_0_0, sr_0_1, sr_0_2].toArray ∧ Fs = [ob sr_0_0, Dr_0_0, ob sr_0_1, ob sr_0_2, Dr_0_2, [pb0]] ∧ OSl OTPat 37 3 Φ' Dr_0_0 sr_0_0 r.1.Pats ∧ OSl RTCond 206 11 Φ' [] sr_0_1 r.1.Conds ∧ OSl OTAct 96 5 Φ' Dr_0_2 sr_0_2 r.1.Acts ∧ r.2.b = p0.b ∧ Φ' pb0 = some (.cells #[pv0_0, .int .i64 r.2.i, .int .i64 r.2.h] 195 (0, 0)))) := by
 refine enter Try.func130 rfl Try.ntmps130 rfl (St.start hΦ [[pb0]] hB hlt) ?_
 have pa0_0 : Old ⟨w, [[pb0]].flatten, Φ⟩ pG0_0 := Old.mk hΦ ph0_0.kn pd0_0
 revert pa0_0
 generalize hb0 : (⟨w, [[pb0]].flatten, Φ⟩ : Base) = w0
 intro pa0_0
 unfold m_s_l9Draw at h
 refine WT.seq <| WT.region ?_
 refine ln (n_alloc (C := #[.string (⟨#[]⟩ : ByteArray), .int .i64 0, .slice none 0 0, .slice none 0 0, .slice none 0 0]) Zr_66 rfl) rfl (fun b_1 => ?_)
 refine WL.nil <| WT.seq <| WT.region <| lq (q_move rfl) rfl <| lq (q_move rfl) rfl ?_
 have rc1 : RC (RI .i64) 1 Φ ([[], [], [], [], []] : List (List Nat)) [.int .i64 0, .int .i64 0, .int .i64 5, .int .i64 (-5), .int .i64 100] ([0, 0, 5, (-5), 100] : List Int) := RC.cons (c := [.int .i64 0]) (cells := [.int .i64 0, .int .i64 5, .int .i64 (-5), .int .i64 100]) ⟨rfl, rfl⟩ rfl (RC.cons (c := [.int .i64 0]) (cells := [.int .i64 5, .int .i64 (-5), .int .i64 100]) ⟨rfl, rfl⟩ rfl (RC.cons (c := [.int .i64 5]) (cells := [.int .i64 (-5), .int .i64 100]) ⟨rfl, rfl⟩ rfl (RC.cons (c := [.int .i64 (-5)]) (cells := [.int .i64 100]) ⟨rfl, rfl⟩ rfl (RC.cons (c := [.int .i64 100]) (cells := []) ⟨rfl, rfl⟩ rfl (RC.nil _ _ _)))))
 refine le' (e_lit (vs := [(0, .int .i64 0), (1, .int .i64 0), (2, .int .i64 5), (3, .int .i64 (-5)), (4, .int .i64 100)]) (C := #[.int .i64 0, .int .i64 0, .int .i64 5, .int .i64 (-5), .int .i64 100]) RI.lasts Sl_27 Zr_3 rfl rfl rfl rfl (fill_made MC_3_5 (fill_cons (cells := [.int .i64 0, .int .i64 0, .int .i64 0, .int .i64 0, .int .i64 0]) (c := [.int .i64 0]) (C' := [.int .i64 0, .int .i64 0, .int .i64 0, .int .i64 0, .int .i64 0]) rfl rfl rfl rfl rfl (fill_cons (cells := [.int .i64 0, .int .i64 0, .int .i64 0, .int .i64 0, .int .i64 0]) (c := [.int .i64 0]) (C' := [.int .i64 0, .int .i64 0, .int .i64 0, .int .i64 0, .int .i64 0]) rfl rfl rfl rfl rfl (fill_cons (cells := [.int .i64 0, .int .i64 0, .int .i64 0, .int .i64 0, .int .i64 0]) (c := [.int .i64 5]) (C' := [.int .i64 0, .int .i64 0, .int .i64 5, .int .i64 0, .int .i64 0]) rfl rfl rfl rfl rfl (fill_cons (cells := [.int .i64 0, .int .i64 0, .int .i64 5, .int .i64 0, .int .i64 0]) (c := [.int .i64 (-5)]) (C' := [.int .i64 0, .int .i64 0, .int .i64 5, .int .i64 (-5), .int .i64 0]) rfl rfl rfl rfl rfl (fill_cons (cells := [.int .i64 0, .int .i64 0, .int .i64 5, .int .i64 (-5), .int .i64 0]) (c := [.int .i64 100]) (C' := [.int .i64 0, .int .i64 0, .int .i64 5, .int .i64 (-5), .int .i64 100]) rfl rfl rfl rfl rfl (fill_nil))))))) rfl rc1 rfl (by simpa using Kw.nil)) rfl (fun v1 Φ_1 D1 q1 => ?_)
 obtain ⟨fr1, h1⟩ := q1
 replace h1 : OSl (RI .i64) 3 1 Φ_1 [] v1 ([0, 0, 5, (-5), 100] : List Int) := by simpa using h1
 replace ph0_0 := ph0_0.frame RI.lasts fr1 (Dj.empty _)
 replace pp0 := fr1 _ _ (by simp) pp0
 obtain ⟨x1, hx1, h⟩ := bind_some h
 refine lc (k_call (js := [1]) (R := [ob v1]) Fun_120 rfl rfl (fun w1 hw ap hl => m_s_l1Int_ok hw.fro N p0 ([0, 0, 5, (-5), 100] : List Int) ph0_0 pp0 h1.rsl (ap.o pa0_0) (Dj.app (ap.r (i := 0) rfl) (Dj.nil _)) ap.nd hl hx1)) rfl (fun v2 Φ_2 F1 q2 => ?_)
 obtain ⟨ap1, fr2, rfl, rfl, e1, h2⟩ := q2
 replace ph0_0 := ph0_0.frame RI.lasts fr2 (ap1.o pa0_0)
 refine lq (q_build (vs := [(0, .string p1), (1, .int .i64 x1.1)]) (C := #[.string p1, .int .i64 x1.1, .slice none 0 0, .slice none 0 0, .slice none 0 0]) Pl_66 Zr_66 rfl (fill_cons (cells := [.string ⟨#[]⟩, .int .i64 0, .slice none 0 0, .slice none 0 0, .slice none 0 0]) (c := [.string p1]) (C' := [.string p1, .int .i64 0, .slice none 0 0, .slice none 0 0, .slice none 0 0]) rfl rfl rfl rfl rfl (fill_cons (cells := [.string p1, .int .i64 0, .slice none 0 0, .slice none 0 0, .slice none 0 0]) (c := [.int .i64 x1.1]) (C' := [.string p1, .int .i64 x1.1, .slice none 0 0, .slice none 0 0, .slice none 0 0]) rfl rfl rfl rfl rfl (fill_nil)))) rfl ?_
 refine ln (n_alloc (C := #[.string (⟨#[]⟩ : ByteArray), .int .i64 0, .slice none 0 0, .slice none 0 0, .slice none 0 0]) Zr_66 rfl) rfl (fun b_2 => ?_)
 refine ls (s_store (i := 0) (vs := [.string p1, .int .i64 x1.1, .slice none 0 0, .slice none 0 0, .slice none 0 0]) (C' := [.string p1, .int .i64 x1.1, .slice none 0 0, .slice none 0 0, .slice none 0 0]) (O' := [(b_2, .cells #[.string p1, .int .i64 x1.1, .slice none 0 0, .slice none 0 0, .slice none 0 0] 66 (0, 0)), (b_1, .cells #[.string (⟨#[]⟩ : ByteArray), .int .i64 0, .slice none 0 0, .slice none 0 0, .slice none 0 0] 66 (0, 0))]) Sz_66 rfl rfl rfl rfl rfl rfl ⟨rfl, rfl, rfl, rfl, rfl, trivial⟩ rfl rfl) rfl ?_
 refine WL.nil <| WT.seq <| WT.seq <| WT.region <| lq (q_move rfl) rfl ?_
 obtain ⟨x2, hx2, h⟩ := bind_some h
 refine lc (k_call (js := [0]) (R := [ob v1]) Fun_92 rfl rfl (fun w1 hw ap hl => m_s_l1Below_ok hw.fro N (⟨p0.b, x1.2.i, x1.2.h⟩ : Tl1Cur) 3 ph0_0 h2 (ap.o pa0_0) ap.nd hl hx2)) rfl (fun v3 Φ_3 F2 q3 => ?_)
 obtain ⟨ap2, fr3, rfl, rfl, e2, h3⟩ := q3
 replace ph0_0 := ph0_0.frame RI.lasts fr3 (ap2.o pa0_0)
 refine lq (q_add rfl rfl) rfl <| lq (q_assign rfl) rfl <| WL.nil <| WT.block <| WT.loop <| WT.conv (S' := St w0 Φ_3 [(b_2, .cells #[.string p1, .int .i64 x1.1, .slice none 0 0, .slice none 0 0, .slice none 0 0] 66 (0, 0)), (b_1, .cells #[.string (⟨#[]⟩ : ByteArray), .int .i64 0, .slice none 0 0, .slice none 0 0, .slice none 0 0] 66 (0, 0))] (ob (.slice none 0 0) :: [[pb0], ob v1])) (fun w1 hw => hw.addNil) <| WT.conv (S' := St w0 Φ_3 [(b_2, .cells #[.string p1, .int .i64 x1.1, .slice none 0 0, .slice none 0 0, .slice none 0 0] 66 (0, 0)), (b_1, .cells #[.string (⟨#[]⟩ : ByteArray), .int .i64 0, .slice none 0 0, .slice none 0 0, .slice none 0 0] 66 (0, 0))] ([] :: [ob (.slice none 0 0), [pb0], ob v1])) (fun w1 hw => hw.addNil) ?_
 have k1 := OSl.nil OTPat 37 3 Φ_3
 refine WT.mono (l' := [(0, .pointer (some ⟨pb0, 0, none⟩)), (4, .pointer (some ⟨b_1, 0, none⟩)), (5, .pointer (some ⟨b_2, 0, none⟩)), (6, .int .i64 (IntKind.i64.wrap (1 + x2.1)))]) (S' := St w0 Φ_3 [(b_2, .cells #[.string p1, .int .i64 x1.1, (.slice none 0 0), .slice none 0 0, .slice none 0 0] 66 (0, 0)), (b_1, .cells #[.string (⟨#[]⟩ : ByteArray), .int .i64 0, .slice none 0 0, .slice none 0 0, .slice none 0 0] 66 (0, 0))] [[], ob (.slice none 0 0), [pb0]]) ⟨rfl, rfl, rfl, rfl, trivial⟩ (fun w1 hw => (hw.sel (js := [0, 0, 0]) rfl).selO (js := [0, 0]) rfl) ?_
 refine loop_ind (σ := Hp × (List TPat) × Value × List Nat × Int × Int × Int) (fun s => [(0, .pointer (some ⟨pb0, 0, none⟩)), (4, .pointer (some ⟨b_1, 0, none⟩)), (5, .pointer (some ⟨b_2, 0, none⟩)), (6, .int .i64 s.2.2.2.2.1)]) (fun s => St w0 s.1 [(b_2, .cells #[.string p1, .int .i64 x1.1, s.2.2.1, .slice none 0 0, .slice none 0 0] 66 (0, 0)), (b_1, .cells #[.string (⟨#[]⟩ : ByteArray), .int .i64 0, .slice none 0 0, .slice none 0 0, .slice none 0 0] 66 (0, 0))] [s.2.2.2.1, ob s.2.2.1, [pb0]]) (fun m s => m_s_l9Draw_l1 N p0 p1 x1 m s.2.1 s.2.2.2.2.1 s.2.2.2.2.2.1 s.2.2.2.2.2.2 = some r ∧ (OSl OTPat 37 3 s.1 s.2.2.2.1 s.2.2.1 s.2.1) ∧ (s.1 pb0 = some (.cells #[pv0_0, .int .i64 s.2.2.2.2.2.1, .int .i64 s.2.2.2.2.2.2] 195 (0, 0))) ∧ (RSl (RI .u8) 1 s.1 pG0_0 pv0_0 p0.b)) (fun s hm => none_ne (show (none : Option (TRule × Tl1Cur)) = some r from hm.1)) (fun n1 ih1 s hm => ?_) N (Φ_3, ([] : List TPat), (.slice none 0 0), [], IntKind.i64.wrap (1 + x2.1), x2.2.i, x2.2.h) ⟨h, k1, h3, ph0_0⟩
 obtain ⟨Φ_4, s1, u1, D2, s2, s3, s4⟩ := s
 obtain ⟨h, k2, k3, ph0_0⟩ := hm
 replace h : m_s_l9Draw_l1 N p0 p1 x1 (n1 + 1) s1 s2 s3 s4 = some r := h
 replace k2 : OSl OTPat 37 3 Φ_4 D2 u1 s1 := k2
 replace k3 : Φ_4 pb0 = some (.cells #[pv0_0, .int .i64 s3, .int .i64 s4] 195 (0, 0)) := k3
 replace ph0_0 : RSl (RI .u8) 1 Φ_4 pG0_0 pv0_0 p0.b := ph0_0
 show WT _ _ [(0, .pointer (some ⟨pb0, 0, none⟩)), (4, .pointer (some ⟨b_1, 0, none⟩)), (5, .pointer (some ⟨b_2, 0, none⟩)), (6, .int .i64 s2)] (St w0 Φ_4 [(b_2, .cells #[.string p1, .int .i64 x1.1, u1, .slice none 0 0, .slice none 0 0] 66 (0, 0)), (b_1, .cells #[.string (⟨#[]⟩ : ByteArray), .int .i64 0, .slice none 0 0, .slice none 0 0, .slice none 0 0] 66 (0, 0))] [D2, ob u1, [pb0]])
 unfold m_s_l9Draw_l1 at h
 refine WT.seq <| WT.seq <| WT.region <| lq (q_move rfl) rfl <| lq (q_gtr rfl rfl) rfl <| WL.nil ?_
 refine WT.cond rfl (fun c1 => ?_) (fun c1 => ?_)
 ·replace h := ite_t h c1
  refine WT.skip <| WT.seq <| WT.block <| WT.mix (Kn Φ_4 [] [(b_2, .cells #[.string p1, .int .i64 x1.1, u1, .slice none 0 0, .slice none 0 0] 66 (0, 0)), (b_1, .cells #[.string (⟨#[]⟩ : ByteArray), .int .i64 0, .slice none 0 0, .slice none 0 0, .slice none 0 0] 66 (0, 0))]) (fun i => match i with | 7 => false | _ => true) mixed (fun _ h => h.drew) <| mq 0 rfl (by kernel_rfl) (fun w1 hw => Kn.of (fun k hk _ _ => by simp at hk) (AllIn.mem ⟨gM 0 rfl, gM 1 rfl, trivial⟩) hw) (q_fieldAddr Fld_66_2 rfl) rfl ?_
  refine mq 1 rfl (by kernel_rfl) (fun w1 hw => Kn.of (fun k hk _ _ => by simp at hk) (AllIn.mem ⟨gM 0 rfl, gM 1 rfl, trivial⟩) hw) (q_load1 T1_62 rfl (fun w1 hw => hw.rgO (i := 0) rfl 2 1 [u1] rfl)) rfl <| mq 2 rfl (by kernel_rfl) (fun w1 hw => Kn.of (fun k hk _ _ => by simp at hk) (AllIn.mem ⟨gM 0 rfl, gM 1 rfl, trivial⟩) hw) (q_move rfl) rfl ?_
  obtain ⟨x3, hx3, h⟩ := bind_some h
  refine WM.one 3 (by kernel_rfl) (mc rfl (fun _ v Φx D w1 hq hw => Kn.of (fun k hk _ _ => by simp at hk) (AllIn.mem ⟨gM 0 rfl, gM 1 rfl, trivial⟩) hw) (k_call (js := [2]) (R := [D2, ob u1]) Fun_83 rfl rfl (fun w1 hw ap hl => m_s_l6Draw_ok hw.fro N (⟨p0.b, s3, s4⟩ : Tl1Cur) false ph0_0 k3 (ap.o pa0_0) ap.nd hl hx3)) rfl (fun v4 Φ_5 F3 q4 => ?_))
  obtain ⟨ap3, fr4, v5, rfl, rfl, h4, e3, h5⟩ := q4
  replace ph0_0 := ph0_0.frame RI.lasts fr4 (ap3.o pa0_0)
  replace k2 := k2.frame OTPat.lasts fr4 (ap3.r (i := 1) rfl) (ap3.r (i := 0) rfl)
  have rc2 : RC OTPat 3 Φ_5 ([(ob v5 ++ [])] : List (List Nat)) [.string x3.1.Kind, v5, .bool x3.1.Not] ([x3.1] : List TPat) := RC.cons (c := [.string x3.1.Kind, v5, .bool x3.1.Not]) (cells := []) ⟨v5, rfl, rfl, h4⟩ rfl (RC.nil _ _ _)
  refine WM.one 4 (by kernel_rfl) (me rfl (fun _ v Φx D w1 hq hw => Kn.of (fun k hk _ _ => by simp at hk) (AllIn.mem ⟨gM 0 rfl, gM 1 rfl, trivial⟩) hw) (e_lit (vs := [(0, .agg [.string x3.1.Kind, v5, .bool x3.1.Not].toArray)]) (C := #[.string x3.1.Kind, v5, .bool x3.1.Not]) OTPat.lasts Sl_62 Zr_37 rfl rfl rfl rfl (fill_made MC_37_1 (fill_cons (cells := [.string ⟨#[]⟩, .slice none 0 0, .bool false]) (c := [.string x3.1.Kind, v5, .bool x3.1.Not]) (C' := [.string x3.1.Kind, v5, .bool x3.1.Not]) rfl rfl rfl rfl rfl (fill_nil))) rfl rc2 rfl (RC.kn OTPat.knows rc2)) rfl (fun v6 Φ_6 D3 q5 => ?_))
  obtain ⟨fr5, h6⟩ := q5
  replace h6 : OSl OTPat 37 3 Φ_6 ((ob v5 ++ [])) v6 ([x3.1] : List TPat) := by simpa [List.append_assoc] using h6
  replace ph0_0 := ph0_0.frame RI.lasts fr5 (Dj.empty _)
  replace k2 := k2.frame OTPat.lasts fr5 (Dj.empty _) (Dj.empty _)
  replace h5 := fr5 _ _ (by simp) h5
  refine WM.conv (S' := St w0 Φ_6 [(b_2, .cells #[.string p1, .int .i64 x1.1, u1, .slice none 0 0, .slice none 0 0] 66 (0, 0)), (b_1, .cells #[.string (⟨#[]⟩ : ByteArray), .int .i64 0, .slice none 0 0, .slice none 0 0, .slice none 0 0] 66 (0, 0))] [((ob v5 ++ [])), ob v6, [pb0], D2, ob u1]) (fun w1 hw => hw.merge (js := [1]) rfl (SP.eq (by simp [List.append_assoc, ob_nil]))) ?_
  obtain ⟨x4, hx4, h⟩ := bind_some h
  refine WM.one 5 (by kernel_rfl) (me rfl (fun _ v Φx D w1 hq hw => Kn.of (fun k hk _ _ => by simp at hk) (AllIn.mem ⟨gM 0 rfl, gM 1 rfl, trivial⟩) hw) (e_appO OTPat.lasts OTPat.one Sl_62 Ei_37 rfl rfl rfl rfl rfl (js := [4]) (Rr := [((ob v5 ++ [])), ob v6, [pb0], D2]) rfl k2 h6 (fun ap => (ap.r (i := 3) rfl)) (fun ap => (ap.r (i := 0) rfl)) hx4) rfl (fun v7 Φ_7 D4 q6 => ?_))
  obtain ⟨⟨ap4, fr6⟩, h7⟩ := q6
  replace ph0_0 := ph0_0.frame RI.lasts fr6 (ap4.o pa0_0)
  replace h5 := fr6 _ _ ((ap4.r (i := 2) rfl) _ (by simp)) h5
  refine WM.conv (S' := St w0 Φ_7 [(b_2, .cells #[.string p1, .int .i64 x1.1, u1, .slice none 0 0, .slice none 0 0] 66 (0, 0)), (b_1, .cells #[.string (⟨#[]⟩ : ByteArray), .int .i64 0, .slice none 0 0, .slice none 0 0, .slice none 0 0] 66 (0, 0))] [(D2 ++ ((ob v5 ++ []))), ob v7, ob v6, [pb0]]) (fun w1 hw => hw.merge (js := [4, 1]) rfl (SP.eq (by simp))) <| mq 6 rfl (by kernel_rfl) (fun w1 hw => Kn.of (fun k hk _ _ => by simp at hk) (AllIn.mem ⟨gM 0 rfl, gM 1 rfl, trivial⟩) hw) (q_fieldAddr Fld_66_2 rfl) rfl ?_
  refine WM.one 7 (by kernel_rfl) (ms rfl (fun hc => by cases hc) (s_store (i := 0) (vs := [v7]) (C' := [.string p1, .int .i64 x1.1, v7, .slice none 0 0, .slice none 0 0]) (O' := [(b_2, .cells #[.string p1, .int .i64 x1.1, v7, .slice none 0 0, .slice none 0 0] 66 (0, 0)), (b_1, .cells #[.string (⟨#[]⟩ : ByteArray), .int .i64 0, .slice none 0 0, .slice none 0 0, .slice none 0 0] 66 (0, 0))]) Sz_62 rfl rfl rfl (one_cells h7.one) rfl rfl ⟨h7.one, trivial⟩ rfl rfl) rfl ?_)
  refine WM.nil (by kernel_rfl) <| WT.inBlock <| WT.region <| lq (q_move rfl) rfl <| lq (q_sub rfl rfl) rfl <| lq (q_assign rfl) rfl <| WL.nil ?_
  refine WT.inLoop (WT.mono (l' := [(0, .pointer (some ⟨pb0, 0, none⟩)), (4, .pointer (some ⟨b_1, 0, none⟩)), (5, .pointer (some ⟨b_2, 0, none⟩)), (6, .int .i64 (IntKind.i64.wrap (s2 - 1)))]) (S' := St w0 Φ_7 [(b_2, .cells #[.string p1, .int .i64 x1.1, v7, .slice none 0 0, .slice none 0 0] 66 (0, 0)), (b_1, .cells #[.string (⟨#[]⟩ : ByteArray), .int .i64 0, .slice none 0 0, .slice none 0 0, .slice none 0 0] 66 (0, 0))] [(D2 ++ ((ob v5 ++ []))), ob v7, [pb0]]) ⟨rfl, rfl, rfl, rfl, trivial⟩ (fun w1 hw => (hw.sel (js := [0, 0, 1]) rfl).selO (js := [0, 0]) rfl) ?_)
  exact ih1 (Φ_7, x4, v7, (D2 ++ ((ob v5 ++ []))), IntKind.i64.wrap (s2 - 1), x3.2.i, x3.2.h) ⟨h, h7, h5, ph0_0⟩
 replace h := ite_f h c1
 refine WT.exit rfl <| WT.seq <| WT.seq <| WT.region <| lq (q_move rfl) rfl ?_
 obtain ⟨x5, hx5, h⟩ := bind_some h
 refine lc (k_call (js := [2]) (R := [D2, ob u1]) Fun_85 rfl rfl (fun w1 hw ap hl => m_s_l1Once_ok hw.fro N (⟨p0.b, s3, s4⟩ : Tl1Cur) 3 ph0_0 k3 (ap.o pa0_0) ap.nd hl hx5)) rfl (fun v8 Φ_8 F4 q7 => ?_)
 obtain ⟨ap5, fr7, rfl, rfl, e4, h8⟩ := q7
 replace ph0_0 := ph0_0.frame RI.lasts fr7 (ap5.o pa0_0)
 replace k2 := k2.frame OTPat.lasts fr7 (ap5.r (i := 1) rfl) (ap5.r (i := 0) rfl)
 refine WL.nil ?_
 refine cut (σ := Hp × (List TPat) × Value × List Nat × Int × Int) (fun s => [(0, .pointer (some ⟨pb0, 0, none⟩)), (4, .pointer (some ⟨b_1, 0, none⟩)), (5, .pointer (some ⟨b_2, 0, none⟩))]) (fun s => St w0 s.1 [(b_2, .cells #[.string p1, .int .i64 x1.1, s.2.2.1, .slice none 0 0, .slice none 0 0] 66 (0, 0)), (b_1, .cells #[.string (⟨#[]⟩ : ByteArray), .int .i64 0, .slice none 0 0, .slice none 0 0, .slice none 0 0] 66 (0, 0))] [[pb0], s.2.2.2.1, ob s.2.2.1]) (fun s => m_s_l9Draw_j2 N p0 p1 x1 s.2.1 s.2.2.2.2.1 s.2.2.2.2.2 = some r ∧ (OSl OTPat 37 3 s.1 s.2.2.2.1 s.2.2.1 s.2.1) ∧ (s.1 pb0 = some (.cells #[pv0_0, .int .i64 s.2.2.2.2.1, .int .i64 s.2.2.2.2.2] 195 (0, 0))) ∧ (RSl (RI .u8) 1 s.1 pG0_0 pv0_0 p0.b)) (fun s hm => ?_) (fun K => ?_)
 ·clear h
  obtain ⟨Φ_9, s5, u2, D5, s6, s7⟩ := s
  obtain ⟨h, k4, k5, ph0_0⟩ := hm
  replace h : m_s_l9Draw_j2 N p0 p1 x1 s5 s6 s7 = some r := h
  replace k4 : OSl OTPat 37 3 Φ_9 D5 u2 s5 := k4
  replace k5 : Φ_9 pb0 = some (.cells #[pv0_0, .int .i64 s6, .int .i64 s7] 195 (0, 0)) := k5
  replace ph0_0 : RSl (RI .u8) 1 Φ_9 pG0_0 pv0_0 p0.b := ph0_0
  show WT _ _ [(0, .pointer (some ⟨pb0, 0, none⟩)), (4, .pointer (some ⟨b_1, 0, none⟩)), (5, .pointer (some ⟨b_2, 0, none⟩))] (St w0 Φ_9 [(b_2, .cells #[.string p1, .int .i64 x1.1, u2, .slice none 0 0, .slice none 0 0] 66 (0, 0)), (b_1, .cells #[.string (⟨#[]⟩ : ByteArray), .int .i64 0, .slice none 0 0, .slice none 0 0, .slice none 0 0] 66 (0, 0))] [[pb0], D5, ob u2])
  unfold m_s_l9Draw_j2 at h
  refine WT.seq <| WT.region <| lq (q_loadN Tn_66 rfl (fun w1 hw => hw.rgO (i := 0) rfl 0 5 [.string p1, .int .i64 x1.1, u2, .slice none 0 0, .slice none 0 0] rfl) rfl) rfl ?_
  obtain ⟨x6, hx6, h⟩ := bind_some h
  refine lc (k_call (js := []) (R := [[pb0], D5, ob u2]) Fun_40 rfl rfl (fun w1 hw ap hl => m_s_PosVars_ok hw.fro N (⟨p1, x1.1, s5, [], []⟩ : TRule) (k4.rslG OTPat.gives) (RSl.nil _ _ _) (RSl.nil _ _ _)  hx6)) rfl (fun v9 Φ_10 F5 q8 => ?_)
  obtain ⟨ap6, fr8, v10, rfl, rfl, h9⟩ := q8
  replace ph0_0 := ph0_0.frame RI.lasts fr8 (ap6.o pa0_0)
  replace k4 := k4.frame OTPat.lasts fr8 (ap6.r (i := 2) rfl) (ap6.r (i := 1) rfl)
  replace k5 := fr8 _ _ ((ap6.r (i := 0) rfl) _ (by simp)) k5
  refine lq (q_assign rfl) rfl <| WL.nil <| WT.seq <| WT.seq <| WT.region <| lq (q_move rfl) rfl ?_
  obtain ⟨x7, hx7, h⟩ := bind_some h
  refine lc (k_call (js := [1]) (R := [ob v9, D5, ob u2]) Fun_85 rfl rfl (fun w1 hw ap hl => m_s_l1Once_ok hw.fro N (⟨p0.b, s6, s7⟩ : Tl1Cur) 3 ph0_0 k5 (ap.o pa0_0) ap.nd hl hx7)) rfl (fun v11 Φ_11 F6 q9 => ?_)
  obtain ⟨ap7, fr9, rfl, rfl, e5, h10⟩ := q9
  replace ph0_0 := ph0_0.frame RI.lasts fr9 (ap7.o pa0_0)
  replace k4 := k4.frame OTPat.lasts fr9 (ap7.r (i := 2) rfl) (ap7.r (i := 1) rfl)
  replace h9 := h9.frame RS.lasts fr9 (ap7.r (i := 0) rfl) (Dj.nil _)
  refine WL.nil <| WT.conv (S' := St w0 Φ_11 [(b_2, .cells #[.string p1, .int .i64 x1.1, u2, .slice none 0 0, .slice none 0 0] 66 (0, 0)), (b_1, .cells #[.string (⟨#[]⟩ : ByteArray), .int .i64 0, .slice none 0 0, .slice none 0 0, .slice none 0 0] 66 (0, 0))] (ob (.slice none 0 0) :: [[pb0], ob v9, D5, ob u2])) (fun w1 hw => hw.addNil) ?_
  have k6 := OSl.nil RTCond 206 11 Φ_11
  refine cut (σ := Hp × (List TCond) × Value × Int × Int) (fun s => [(0, .pointer (some ⟨pb0, 0, none⟩)), (4, .pointer (some ⟨b_1, 0, none⟩)), (5, .pointer (some ⟨b_2, 0, none⟩)), (7, v9)]) (fun s => St w0 s.1 [(b_2, .cells #[.string p1, .int .i64 x1.1, u2, s.2.2.1, .slice none 0 0] 66 (0, 0)), (b_1, .cells #[.string (⟨#[]⟩ : ByteArray), .int .i64 0, .slice none 0 0, .slice none 0 0, .slice none 0 0] 66 (0, 0))] [ob s.2.2.1, [pb0], ob v9, D5, ob u2]) (fun s => m_s_l9Draw_j3 N p0 p1 x1 s5 x6 s.2.1 s.2.2.2.1 s.2.2.2.2 = some r ∧ (OSl OTPat 37 3 s.1 D5 u2 s5) ∧ (OSl RS 9 1 s.1 [] v9 x6) ∧ (OSl RTCond 206 11 s.1 [] s.2.2.1 s.2.1) ∧ (s.1 pb0 = some (.cells #[pv0_0, .int .i64 s.2.2.2.1, .int .i64 s.2.2.2.2] 195 (0, 0))) ∧ (RSl (RI .u8) 1 s.1 pG0_0 pv0_0 p0.b)) (fun s hm => ?_) (fun K => ?_)
  ·clear h
   obtain ⟨Φ_12, s8, u3, s9, s10⟩ := s
   obtain ⟨h, k4, h9, k7, k8, ph0_0⟩ := hm
   replace h : m_s_l9Draw_j3 N p0 p1 x1 s5 x6 s8 s9 s10 = some r := h
   replace k4 : OSl OTPat 37 3 Φ_12 D5 u2 s5 := k4
   replace h9 : OSl RS 9 1 Φ_12 [] v9 x6 := h9
   replace k7 : OSl RTCond 206 11 Φ_12 [] u3 s8 := k7
   replace k8 : Φ_12 pb0 = some (.cells #[pv0_0, .int .i64 s9, .int .i64 s10] 195 (0, 0)) := k8
   replace ph0_0 : RSl (RI .u8) 1 Φ_12 pG0_0 pv0_0 p0.b := ph0_0
   show WT _ _ [(0, .pointer (some ⟨pb0, 0, none⟩)), (4, .pointer (some ⟨b_1, 0, none⟩)), (5, .pointer (some ⟨b_2, 0, none⟩)), (7, v9)] (St w0 Φ_12 [(b_2, .cells #[.string p1, .int .i64 x1.1, u2, u3, .slice none 0 0] 66 (0, 0)), (b_1, .cells #[.string (⟨#[]⟩ : ByteArray), .int .i64 0, .slice none 0 0, .slice none 0 0, .slice none 0 0] 66 (0, 0))] [ob u3, [pb0], ob v9, D5, ob u2])
   unfold m_s_l9Draw_j3 at h
   refine WT.seq <| WT.seq <| WT.region <| lq (q_move rfl) rfl ?_
   obtain ⟨x8, hx8, h⟩ := bind_some h
   refine lc (k_call (js := [1]) (R := [ob u3, ob v9, D5, ob u2]) Fun_92 rfl rfl (fun w1 hw ap hl => m_s_l1Below_ok hw.fro N (⟨p0.b, s9, s10⟩ : Tl1Cur) 3 ph0_0 k8 (ap.o pa0_0) ap.nd hl hx8)) rfl (fun v12 Φ_13 F7 q10 => ?_)
   obtain ⟨ap8, fr10, rfl, rfl, e6, h11⟩ := q10
   replace ph0_0 := ph0_0.frame RI.lasts fr10 (ap8.o pa0_0)
   replace k4 := k4.frame OTPat.lasts fr10 (ap8.r (i := 3) rfl) (ap8.r (i := 2) rfl)
   replace h9 := h9.frame RS.lasts fr10 (ap8.r (i := 1) rfl) (Dj.nil _)
   replace k7 := k7.frame RTCond.lasts fr10 (ap8.r (i := 0) rfl) (Dj.nil _)
   refine lq (q_add rfl rfl) rfl <| lq (q_assign rfl) rfl <| WL.nil <| WT.block <| WT.loop <| WT.conv (S' := St w0 Φ_13 [(b_2, .cells #[.string p1, .int .i64 x1.1, u2, u3, .slice none 0 0] 66 (0, 0)), (b_1, .cells #[.string (⟨#[]⟩ : ByteArray), .int .i64 0, .slice none 0 0, .slice none 0 0, .slice none 0 0] 66 (0, 0))] (ob (.slice none 0 0) :: [[pb0], ob u3, ob v9, D5, ob u2])) (fun w1 hw => hw.addNil) <| WT.conv (S' := St w0 Φ_13 [(b_2, .cells #[.string p1, .int .i64 x1.1, u2, u3, .slice none 0 0] 66 (0, 0)), (b_1, .cells #[.string (⟨#[]⟩ : ByteArray), .int .i64 0, .slice none 0 0, .slice none 0 0, .slice none 0 0] 66 (0, 0))] ([] :: [ob (.slice none 0 0), [pb0], ob u3, ob v9, D5, ob u2])) (fun w1 hw => hw.addNil) ?_
   have k9 := OSl.nil OTAct 96 5 Φ_13
   refine WT.mono (l' := [(0, .pointer (some ⟨pb0, 0, none⟩)), (4, .pointer (some ⟨b_1, 0, none⟩)), (5, .pointer (some ⟨b_2, 0, none⟩)), (7, v9), (9, .int .i64 (IntKind.i64.wrap (1 + x8.1)))]) (S' := St w0 Φ_13 [(b_2, .cells #[.string p1, .int .i64 x1.1, u2, u3, (.slice none 0 0)] 66 (0, 0)), (b_1, .cells #[.string (⟨#[]⟩ : ByteArray), .int .i64 0, .slice none 0 0, .slice none 0 0, .slice none 0 0] 66 (0, 0))] [[], ob (.slice none 0 0), [pb0], ob u3, ob v9, D5, ob u2]) ⟨rfl, rfl, rfl, rfl, rfl, trivial⟩ (fun w1 hw => (hw.sel (js := [0, 0, 0, 0, 0, 0, 0]) rfl).selO (js := [0, 0]) rfl) ?_
   refine loop_ind (σ := Hp × (List TAct) × Value × List Nat × Int × Int × Int) (fun s => [(0, .pointer (some ⟨pb0, 0, none⟩)), (4, .pointer (some ⟨b_1, 0, none⟩)), (5, .pointer (some ⟨b_2, 0, none⟩)), (7, v9), (9, .int .i64 s.2.2.2.2.1)]) (fun s => St w0 s.1 [(b_2, .cells #[.string p1, .int .i64 x1.1, u2, u3, s.2.2.1] 66 (0, 0)), (b_1, .cells #[.string (⟨#[]⟩ : ByteArray), .int .i64 0, .slice none 0 0, .slice none 0 0, .slice none 0 0] 66 (0, 0))] [s.2.2.2.1, ob s.2.2.1, [pb0], ob u3, ob v9, D5, ob u2]) (fun m s => m_s_l9Draw_l4 N p0 p1 x1 s5 x6 s8 m s.2.1 s.2.2.2.2.1 s.2.2.2.2.2.1 s.2.2.2.2.2.2 = some r ∧ (OSl OTPat 37 3 s.1 D5 u2 s5) ∧ (OSl RS 9 1 s.1 [] v9 x6) ∧ (OSl RTCond 206 11 s.1 [] u3 s8) ∧ (OSl OTAct 96 5 s.1 s.2.2.2.1 s.2.2.1 s.2.1) ∧ (s.1 pb0 = some (.cells #[pv0_0, .int .i64 s.2.2.2.2.2.1, .int .i64 s.2.2.2.2.2.2] 195 (0, 0))) ∧ (RSl (RI .u8) 1 s.1 pG0_0 pv0_0 p0.b)) (fun s hm => none_ne (show (none : Option (TRule × Tl1Cur)) = some r from hm.1)) (fun n4 ih4 s hm => ?_) N (Φ_13, ([] : List TAct), (.slice none 0 0), [], IntKind.i64.wrap (1 + x8.1), x8.2.i, x8.2.h) ⟨h, k4, h9, k7, k9, h11, ph0_0⟩
   obtain ⟨Φ_14, s11, u4, D6, s12, s13, s14⟩ := s
   obtain ⟨h, k4, h9, k7, k10, k11, ph0_0⟩ := hm
   replace h : m_s_l9Draw_l4 N p0 p1 x1 s5 x6 s8 (n4 + 1) s11 s12 s13 s14 = some r := h
   replace k4 : OSl OTPat 37 3 Φ_14 D5 u2 s5 := k4
   replace h9 : OSl RS 9 1 Φ_14 [] v9 x6 := h9
   replace k7 : OSl RTCond 206 11 Φ_14 [] u3 s8 := k7
   replace k10 : OSl OTAct 96 5 Φ_14 D6 u4 s11 := k10
   replace k11 : Φ_14 pb0 = some (.cells #[pv0_0, .int .i64 s13, .int .i64 s14] 195 (0, 0)) := k11
   replace ph0_0 : RSl (RI .u8) 1 Φ_14 pG0_0 pv0_0 p0.b := ph0_0
   show WT _ _ [(0, .pointer (some ⟨pb0, 0, none⟩)), (4, .pointer (some ⟨b_1, 0, none⟩)), (5, .pointer (some ⟨b_2, 0, none⟩)), (7, v9), (9, .int .i64 s12)] (St w0 Φ_14 [(b_2, .cells #[.string p1, .int .i64 x1.1, u2, u3, u4] 66 (0, 0)), (b_1, .cells #[.string (⟨#[]⟩ : ByteArray), .int .i64 0, .slice none 0 0, .slice none 0 0, .slice none 0 0] 66 (0, 0))] [D6, ob u4, [pb0], ob u3, ob v9, D5, ob u2])
   unfold m_s_l9Draw_l4 at h
   refine WT.seq <| WT.seq <| WT.region <| lq (q_move rfl) rfl <| lq (q_gtr rfl rfl) rfl <| WL.nil ?_
   refine WT.cond rfl (fun c2 => ?_) (fun c2 => ?_)
   ·replace h := ite_t h c2
    refine WT.skip <| WT.seq <| WT.block <| WT.seq <| WT.region <| lq (q_move rfl) rfl <| lq (q_loadN Tn_66 rfl (fun w1 hw => hw.rgO (i := 0) rfl 0 5 [.string p1, .int .i64 x1.1, u2, u3, u4] rfl) rfl) rfl ?_
    obtain ⟨x9, hx9, h⟩ := bind_some h
    refine lp (p_call Fun_59 rfl (fun w1 hw => m_s_PosCount_ok hw.fro N (⟨p1, x1.1, s5, s8, s11⟩ : TRule) (k4.rslG OTPat.gives) k7.rsl (k10.rslG OTAct.gives) hx9)) rfl ?_
    obtain ⟨x10, hx10, h⟩ := bind_some h
    refine lc (k_call (js := [2]) (R := [D6, ob u4, ob u3, ob v9, D5, ob u2]) Fun_176 rfl rfl (fun w1 hw ap hl => m_s_l8Draw_ok hw.fro N (⟨p0.b, s13, s14⟩ : Tl1Cur) x9 ph0_0 k11 (ap.o pa0_0) ap.nd hl hx10)) rfl (fun v13 Φ_15 F8 q11 => ?_)
    obtain ⟨ap9, fr11, v14, rfl, rfl, h12, e7, h13⟩ := q11
    replace ph0_0 := ph0_0.frame RI.lasts fr11 (ap9.o pa0_0)
    replace k4 := k4.frame OTPat.lasts fr11 (ap9.r (i := 5) rfl) (ap9.r (i := 4) rfl)
    replace h9 := h9.frame RS.lasts fr11 (ap9.r (i := 3) rfl) (Dj.nil _)
    replace k7 := k7.frame RTCond.lasts fr11 (ap9.r (i := 2) rfl) (Dj.nil _)
    replace k10 := k10.frame OTAct.lasts fr11 (ap9.r (i := 1) rfl) (ap9.r (i := 0) rfl)
    refine ln (n_alloc (C := #[.int .i64 0, .string (⟨#[]⟩ : ByteArray), .slice none 0 0, .int .i64 0, .string (⟨#[]⟩ : ByteArray)]) Zr_96 rfl) rfl (fun b_3 => ?_)
    refine ls (s_store (i := 0) (vs := [.int .i64 x10.1.Kind, .string x10.1.Name, v14, .int .i64 x10.1.N, .string x10.1.Undo]) (C' := [.int .i64 x10.1.Kind, .string x10.1.Name, v14, .int .i64 x10.1.N, .string x10.1.Undo]) (O' := [(b_3, .cells #[.int .i64 x10.1.Kind, .string x10.1.Name, v14, .int .i64 x10.1.N, .string x10.1.Undo] 96 (0, 0)), (b_2, .cells #[.string p1, .int .i64 x1.1, u2, u3, u4] 66 (0, 0)), (b_1, .cells #[.string (⟨#[]⟩ : ByteArray), .int .i64 0, .slice none 0 0, .slice none 0 0, .slice none 0 0] 66 (0, 0))]) Sz_96 rfl rfl rfl rfl rfl rfl ⟨rfl, rfl, h12.one, rfl, rfl, trivial⟩ rfl rfl) rfl ?_
    refine WL.nil <| WT.seq <| WT.seq <| WT.region <| lq (q_assign rfl) rfl <| WL.nil <| WT.block <| WT.loop <| WT.mono (l' := [(0, .pointer (some ⟨pb0, 0, none⟩)), (4, .pointer (some ⟨b_1, 0, none⟩)), (5, .pointer (some ⟨b_2, 0, none⟩)), (7, v9), (9, .int .i64 s12), (10, .pointer (some ⟨b_3, 0, none⟩)), (11, .int .i64 0)]) (S' := St w0 Φ_15 [(b_3, .cells #[.int .i64 x10.1.Kind, .string x10.1.Name, v14, .int .i64 x10.1.N, .string x10.1.Undo] 96 (0, 0)), (b_2, .cells #[.string p1, .int .i64 x1.1, u2, u3, u4] 66 (0, 0)), (b_1, .cells #[.string (⟨#[]⟩ : ByteArray), .int .i64 0, .slice none 0 0, .slice none 0 0, .slice none 0 0] 66 (0, 0))] [ob v14, [pb0], D6, ob u4, ob u3, ob v9, D5, ob u2]) ⟨rfl, rfl, rfl, rfl, rfl, rfl, rfl, trivial⟩ (fun w1 hw => (hw.sel (js := [0, 0, 0, 0, 0, 0, 0, 0]) rfl).selO (js := [0, 0, 0]) rfl) ?_
    refine loop_ind (σ := Hp × (List TExpr) × Int) (fun s => [(0, .pointer (some ⟨pb0, 0, none⟩)), (4, .pointer (some ⟨b_1, 0, none⟩)), (5, .pointer (some ⟨b_2, 0, none⟩)), (7, v9), (9, .int .i64 s12), (10, .pointer (some ⟨b_3, 0, none⟩)), (11, .int .i64 s.2.2)]) (fun s => St w0 s.1 [(b_3, .cells #[.int .i64 x10.1.Kind, .string x10.1.Name, v14, .int .i64 x10.1.N, .string x10.1.Undo] 96 (0, 0)), (b_2, .cells #[.string p1, .int .i64 x1.1, u2, u3, u4] 66 (0, 0)), (b_1, .cells #[.string (⟨#[]⟩ : ByteArray), .int .i64 0, .slice none 0 0, .slice none 0 0, .slice none 0 0] 66 (0, 0))] [ob v14, [pb0], D6, ob u4, ob u3, ob v9, D5, ob u2]) (fun m s => m_s_l9Draw_l5 N x6 s11 s12 (m_s_l9Draw_l4 N p0 p1 x1 s5 x6 s8 n4) x10 m s.2.1 s.2.2 = some r ∧ (OSl OTPat 37 3 s.1 D5 u2 s5) ∧ (OSl RS 9 1 s.1 [] v9 x6) ∧ (OSl RTCond 206 11 s.1 [] u3 s8) ∧ (OSl OTAct 96 5 s.1 D6 u4 s11) ∧ (OSl RTExpr 85 11 s.1 [] v14 s.2.1) ∧ (s.1 pb0 = some (.cells #[pv0_0, .int .i64 x10.2.i, .int .i64 x10.2.h] 195 (0, 0))) ∧ (RSl (RI .u8) 1 s.1 pG0_0 pv0_0 p0.b)) (fun s hm => none_ne (show (none : Option (TRule × Tl1Cur)) = some r from hm.1)) (fun n5 ih5 s hm => ?_) N (Φ_15, x10.1.Args, 0) ⟨h, k4, h9, k7, k10, h12, h13, ph0_0⟩
    obtain ⟨Φ_16, s15, s16⟩ := s
    obtain ⟨h, k4, h9, k7, k10, k12, k13, ph0_0⟩ := hm
    replace h : m_s_l9Draw_l5 N x6 s11 s12 (m_s_l9Draw_l4 N p0 p1 x1 s5 x6 s8 n4) x10 (n5 + 1) s15 s16 = some r := h
    replace k4 : OSl OTPat 37 3 Φ_16 D5 u2 s5 := k4
    replace h9 : OSl RS 9 1 Φ_16 [] v9 x6 := h9
    replace k7 : OSl RTCond 206 11 Φ_16 [] u3 s8 := k7
    replace k10 : OSl OTAct 96 5 Φ_16 D6 u4 s11 := k10
    replace k12 : OSl RTExpr 85 11 Φ_16 [] v14 s15 := k12
    replace k13 : Φ_16 pb0 = some (.cells #[pv0_0, .int .i64 x10.2.i, .int .i64 x10.2.h] 195 (0, 0)) := k13
    replace ph0_0 : RSl (RI .u8) 1 Φ_16 pG0_0 pv0_0 p0.b := ph0_0
    show WT _ _ [(0, .pointer (some ⟨pb0, 0, none⟩)), (4, .pointer (some ⟨b_1, 0, none⟩)), (5, .pointer (some ⟨b_2, 0, none⟩)), (7, v9), (9, .int .i64 s12), (10, .pointer (some ⟨b_3, 0, none⟩)), (11, .int .i64 s16)] (St w0 Φ_16 [(b_3, .cells #[.int .i64 x10.1.Kind, .string x10.1.Name, v14, .int .i64 x10.1.N, .string x10.1.Undo] 96 (0, 0)), (b_2, .cells #[.string p1, .int .i64 x1.1, u2, u3, u4] 66 (0, 0)), (b_1, .cells #[.string (⟨#[]⟩ : ByteArray), .int .i64 0, .slice none 0 0, .slice none 0 0, .slice none 0 0] 66 (0, 0))] [ob v14, [pb0], D6, ob u4, ob u3, ob v9, D5, ob u2])
    unfold m_s_l9Draw_l5 at h
    refine WT.seq <| WT.seq <| WT.region <| lq (q_move rfl) rfl <| lq (q_fieldAddr Fld_96_2 rfl) rfl <| lq (q_load1 T1_73 rfl (fun w1 hw => hw.rgO (i := 0) rfl 2 1 [v14] rfl)) rfl <| lq (q_lenR Sl_73 rfl rfl k12.rsl) rfl <| lq (q_lss rfl rfl) rfl <| WL.nil ?_
    refine WT.cond rfl (fun c3 => ?_) (fun c3 => ?_)
    ·replace h := ite_t h c3
     refine WT.skip <| WT.seq <| WT.block <| WT.seq ?_
     obtain ⟨x11, hx11, h⟩ := bind_some h
     obtain ⟨cs1, F9, h14, r1⟩ := k12.focusF RTExpr.flat hx11
     obtain ⟨rfl, -⟩ := r1
     refine WT.mix (Kn Φ_16 (ob u3 ++ (ob u4 ++ ob v14)) [(b_3, .cells #[.int .i64 x10.1.Kind, .string x10.1.Name, v14, .int .i64 x10.1.N, .string x10.1.Undo] 96 (0, 0)), (b_2, .cells #[.string p1, .int .i64 x1.1, u2, u3, u4] 66 (0, 0)), (b_1, .cells #[.string (⟨#[]⟩ : ByteArray), .int .i64 0, .slice none 0 0, .slice none 0 0, .slice none 0 0] 66 (0, 0))]) (fun i => match i with | 13 => false | _ => true) mixed (fun _ h => h.drew) ?_
     refine mq 0 rfl (by kernel_rfl) (fun w1 hw => Kn.of (fun _ _ _ h => h) (AllIn.mem ⟨gM 0 rfl, gM 1 rfl, gM 2 rfl, trivial⟩) hw) (q_fieldAddr Fld_96_2 rfl) rfl <| mq 1 rfl (by kernel_rfl) (fun w1 hw => Kn.of (fun _ _ _ h => h) (AllIn.mem ⟨gM 0 rfl, gM 1 rfl, gM 2 rfl, trivial⟩) hw) (q_load1 T1_73 rfl (fun w1 hw => hw.rgO (i := 0) rfl 2 1 [v14] rfl)) rfl ?_
     refine mq 2 rfl (by kernel_rfl) (fun w1 hw => Kn.of (fun _ _ _ h => h) (AllIn.mem ⟨gM 0 rfl, gM 1 rfl, gM 2 rfl, trivial⟩) hw) (q_move rfl) rfl <| mq 3 rfl (by kernel_rfl) (fun w1 hw => Kn.of (fun _ _ _ h => h) (AllIn.mem ⟨gM 0 rfl, gM 1 rfl, gM 2 rfl, trivial⟩) hw) (q_fieldAddr Fld_96_2 rfl) rfl ?_
     refine mq 4 rfl (by kernel_rfl) (fun w1 hw => Kn.of (fun _ _ _ h => h) (AllIn.mem ⟨gM 0 rfl, gM 1 rfl, gM 2 rfl, trivial⟩) hw) (q_load1 T1_73 rfl (fun w1 hw => hw.rgO (i := 0) rfl 2 1 [v14] rfl)) rfl <| mq 5 rfl (by kernel_rfl) (fun w1 hw => Kn.of (fun _ _ _ h => h) (AllIn.mem ⟨gM 0 rfl, gM 1 rfl, gM 2 rfl, trivial⟩) hw) (q_move rfl) rfl ?_
     refine mq 6 rfl (by kernel_rfl) (fun w1 hw => Kn.of (fun _ _ _ h => h) (AllIn.mem ⟨gM 0 rfl, gM 1 rfl, gM 2 rfl, trivial⟩) hw) (q_indexAddrH Sl_73 rfl rfl h14 hx11) rfl <| mq 7 rfl (by kernel_rfl) (fun w1 hw => Kn.of (fun _ _ _ h => h) (AllIn.mem ⟨gM 0 rfl, gM 1 rfl, gM 2 rfl, trivial⟩) hw) (q_fieldAddr Fld_85_1 rfl) rfl ?_
     refine mq 8 rfl (by kernel_rfl) (fun w1 hw => Kn.of (fun _ _ _ h => h) (AllIn.mem ⟨gM 0 rfl, gM 1 rfl, gM 2 rfl, trivial⟩) hw) (q_loadN Tn_83 rfl (fun w1 hw => hw.rg (List.mem_append.2 (.inr (List.mem_append.2 (.inr h14.hb)))) (h14.rg.of_eq 1 5 rfl rfl : rg _ _ _ [.int .i64 x11.L.K, .string x11.L.S, .int .i64 x11.L.V.K, .int .i64 x11.L.V.N, .string x11.L.V.S])) rfl) rfl ?_
     refine mq 9 rfl (by kernel_rfl) (fun w1 hw => Kn.of (fun _ _ _ h => h) (AllIn.mem ⟨gM 0 rfl, gM 1 rfl, gM 2 rfl, trivial⟩) hw) (q_move rfl) rfl ?_
     obtain ⟨x12, hx12, h⟩ := bind_some h
     refine WM.one 10 (by kernel_rfl) (mp rfl (fun _ w1 hw => Kn.of (fun _ _ _ h => h) (AllIn.mem ⟨gM 0 rfl, gM 1 rfl, gM 2 rfl, trivial⟩) hw) (p_call Fun_175 rfl (fun w1 hw => m_s_l9Fit_ok hw.fro N x11.L x6 h9.rsl hx12)) rfl ?_)
     refine mqT 11 [12, 13] rfl (by kernel_rfl) (fun w1 hw => Kn.of (fun _ _ _ h => h) (AllIn.mem ⟨gM 0 rfl, gM 1 rfl, gM 2 rfl, trivial⟩) hw) (q_indexAddrH Sl_73 rfl rfl h14 hx11) rfl <| mq 12 rfl (by kernel_rfl) (fun w1 hw => Kn.of (fun _ _ _ h => h) (AllIn.mem ⟨gM 0 rfl, gM 1 rfl, gM 2 rfl, trivial⟩) hw) (q_fieldAddr Fld_85_1 rfl) rfl ?_
     refine WM.one 13 (by kernel_rfl) (mu rfl (fun hc => by cases hc) (u_setH (js := [0]) (Rr := [[pb0], D6, ob u4, ob u3, ob v9, D5, ob u2]) (o := 1) (vs := [.int .i64 x12.K, .string x12.S, .int .i64 x12.V.K, .int .i64 x12.V.N, .string x12.V.S]) (cs' := [.string x11.Op, .int .i64 x12.K, .string x12.S, .int .i64 x12.V.K, .int .i64 x12.V.N, .string x12.V.S, .int .i64 x11.R.K, .string x11.R.S, .int .i64 x11.R.V.K, .int .i64 x11.R.V.N, .string x11.R.V.S]) RTExpr.lasts Sz_83 rfl rfl rfl rfl ⟨rfl, rfl, rfl, rfl, rfl, trivial⟩ rfl h14 rfl rfl (fun ap => (Dj.nil _))) rfl (fun Φ_17 D8 q12 => ?_))
     obtain ⟨⟨ap10, fr12⟩, h15⟩ := q12
     replace ph0_0 := ph0_0.frame RI.lasts fr12 (ap10.o pa0_0)
     replace k4 := k4.frame OTPat.lasts fr12 (ap10.r (i := 6) rfl) (ap10.r (i := 5) rfl)
     replace h9 := h9.frame RS.lasts fr12 (ap10.r (i := 4) rfl) (Dj.nil _)
     replace k7 := k7.frame RTCond.lasts fr12 (ap10.r (i := 3) rfl) (Dj.nil _)
     replace k10 := k10.frame OTAct.lasts fr12 (ap10.r (i := 2) rfl) (ap10.r (i := 1) rfl)
     replace k13 := fr12 _ _ ((ap10.r (i := 0) rfl) _ (by simp)) k13
     refine WM.nil (by kernel_rfl) <| WT.seq <| WT.region <| lq (q_fieldAddr Fld_96_2 rfl) rfl <| lq (q_load1 T1_73 rfl (fun w1 hw => hw.rgO (i := 0) rfl 2 1 [v14] rfl)) rfl <| lq (q_move rfl) rfl <| lq (q_indexAddrH Sl_73 rfl rfl h15 hx11) rfl <| lq (q_fieldAddr Fld_85_0 rfl) rfl <| lq (q_load1 T1_9 rfl (fun w1 hw => (h15.rg.of_eq 0 1 rfl rfl : rg _ _ _ [.string x11.Op]).rangeAt hw.fro)) rfl <| lq (q_sne rfl rfl) rfl <| WL.nil ?_
     refine WT.cond rfl (fun c4 => ?_) (fun c4 => ?_)
     ·replace h := ite_t h c4
      refine WT.mix (Kn Φ_17 (ob u3 ++ (ob u4 ++ ob v14)) [(b_3, .cells #[.int .i64 x10.1.Kind, .string x10.1.Name, v14, .int .i64 x10.1.N, .string x10.1.Undo] 96 (0, 0)), (b_2, .cells #[.string p1, .int .i64 x1.1, u2, u3, u4] 66 (0, 0)), (b_1, .cells #[.string (⟨#[]⟩ : ByteArray), .int .i64 0, .slice none 0 0, .slice none 0 0, .slice none 0 0] 66 (0, 0))]) (fun i => match i with | 13 => false | _ => true) mixed (fun _ h => h.drew) ?_
      refine mq 0 rfl (by kernel_rfl) (fun w1 hw => Kn.of (fun _ _ _ h => h) (AllIn.mem ⟨gM 0 rfl, gM 1 rfl, gM 2 rfl, trivial⟩) hw) (q_fieldAddr Fld_96_2 rfl) rfl <| mq 1 rfl (by kernel_rfl) (fun w1 hw => Kn.of (fun _ _ _ h => h) (AllIn.mem ⟨gM 0 rfl, gM 1 rfl, gM 2 rfl, trivial⟩) hw) (q_load1 T1_73 rfl (fun w1 hw => hw.rgO (i := 0) rfl 2 1 [v14] rfl)) rfl ?_
      refine mq 2 rfl (by kernel_rfl) (fun w1 hw => Kn.of (fun _ _ _ h => h) (AllIn.mem ⟨gM 0 rfl, gM 1 rfl, gM 2 rfl, trivial⟩) hw) (q_move rfl) rfl <| mq 3 rfl (by kernel_rfl) (fun w1 hw => Kn.of (fun _ _ _ h => h) (AllIn.mem ⟨gM 0 rfl, gM 1 rfl, gM 2 rfl, trivial⟩) hw) (q_fieldAddr Fld_96_2 rfl) rfl ?_
      refine mq 4 rfl (by kernel_rfl) (fun w1 hw => Kn.of (fun _ _ _ h => h) (AllIn.mem ⟨gM 0 rfl, gM 1 rfl, gM 2 rfl, trivial⟩) hw) (q_load1 T1_73 rfl (fun w1 hw => hw.rgO (i := 0) rfl 2 1 [v14] rfl)) rfl <| mq 5 rfl (by kernel_rfl) (fun w1 hw => Kn.of (fun _ _ _ h => h) (AllIn.mem ⟨gM 0 rfl, gM 1 rfl, gM 2 rfl, trivial⟩) hw) (q_move rfl) rfl ?_
      refine mq 6 rfl (by kernel_rfl) (fun w1 hw => Kn.of (fun _ _ _ h => h) (AllIn.mem ⟨gM 0 rfl, gM 1 rfl, gM 2 rfl, trivial⟩) hw) (q_indexAddrH Sl_73 rfl rfl h15 hx11) rfl <| mq 7 rfl (by kernel_rfl) (fun w1 hw => Kn.of (fun _ _ _ h => h) (AllIn.mem ⟨gM 0 rfl, gM 1 rfl, gM 2 rfl, trivial⟩) hw) (q_fieldAddr Fld_85_2 rfl) rfl ?_
      refine mq 8 rfl (by kernel_rfl) (fun w1 hw => Kn.of (fun _ _ _ h => h) (AllIn.mem ⟨gM 0 rfl, gM 1 rfl, gM 2 rfl, trivial⟩) hw) (q_loadN Tn_83 rfl (fun w1 hw => hw.rg (List.mem_append.2 (.inr (List.mem_append.2 (.inr h15.hb)))) (h15.rg.of_eq 6 5 rfl rfl : rg _ _ _ [.int .i64 x11.R.K, .string x11.R.S, .int .i64 x11.R.V.K, .int .i64 x11.R.V.N, .string x11.R.V.S])) rfl) rfl ?_
      refine mq 9 rfl (by kernel_rfl) (fun w1 hw => Kn.of (fun _ _ _ h => h) (AllIn.mem ⟨gM 0 rfl, gM 1 rfl, gM 2 rfl, trivial⟩) hw) (q_move rfl) rfl ?_
      obtain ⟨x13, hx13, h⟩ := bind_some h
      refine WM.one 10 (by kernel_rfl) (mp rfl (fun _ w1 hw => Kn.of (fun _ _ _ h => h) (AllIn.mem ⟨gM 0 rfl, gM 1 rfl, gM 2 rfl, trivial⟩) hw) (p_call Fun_175 rfl (fun w1 hw => m_s_l9Fit_ok hw.fro N x11.R x6 h9.rsl hx13)) rfl ?_)
      refine mqT 11 [12, 13] rfl (by kernel_rfl) (fun w1 hw => Kn.of (fun _ _ _ h => h) (AllIn.mem ⟨gM 0 rfl, gM 1 rfl, gM 2 rfl, trivial⟩) hw) (q_indexAddrH Sl_73 rfl rfl h15 hx11) rfl <| mq 12 rfl (by kernel_rfl) (fun w1 hw => Kn.of (fun _ _ _ h => h) (AllIn.mem ⟨gM 0 rfl, gM 1 rfl, gM 2 rfl, trivial⟩) hw) (q_fieldAddr Fld_85_2 rfl) rfl ?_
      refine WM.one 13 (by kernel_rfl) (mu rfl (fun hc => by cases hc) (u_setH (js := [0]) (Rr := [[pb0], D6, ob u4, ob u3, ob v9, D5, ob u2]) (o := 6) (vs := [.int .i64 x13.K, .string x13.S, .int .i64 x13.V.K, .int .i64 x13.V.N, .string x13.V.S]) (cs' := [.string x11.Op, .int .i64 x12.K, .string x12.S, .int .i64 x12.V.K, .int .i64 x12.V.N, .string x12.V.S, .int .i64 x13.K, .string x13.S, .int .i64 x13.V.K, .int .i64 x13.V.N, .string x13.V.S]) RTExpr.lasts Sz_83 rfl rfl rfl rfl ⟨rfl, rfl, rfl, rfl, rfl, trivial⟩ rfl h15 rfl rfl (fun ap => (Dj.nil _))) rfl (fun Φ_18 D9 q13 => ?_))
      obtain ⟨⟨ap11, fr13⟩, h16⟩ := q13
      replace ph0_0 := ph0_0.frame RI.lasts fr13 (ap11.o pa0_0)
      replace k4 := k4.frame OTPat.lasts fr13 (ap11.r (i := 6) rfl) (ap11.r (i := 5) rfl)
      replace h9 := h9.frame RS.lasts fr13 (ap11.r (i := 4) rfl) (Dj.nil _)
      replace k7 := k7.frame RTCond.lasts fr13 (ap11.r (i := 3) rfl) (Dj.nil _)
      replace k10 := k10.frame OTAct.lasts fr13 (ap11.r (i := 2) rfl) (ap11.r (i := 1) rfl)
      replace k13 := fr13 _ _ ((ap11.r (i := 0) rfl) _ (by simp)) k13
      refine WM.nil (by kernel_rfl) <| WT.inBlock <| WT.region <| lq (q_move rfl) rfl <| lq (q_add rfl rfl) rfl <| lq (q_assign rfl) rfl <| WL.nil ?_
      have h17 := h16.unfocusF RTExpr.flat (cs := [.string x11.Op, .int .i64 x12.K, .string x12.S, .int .i64 x12.V.K, .int .i64 x12.V.N, .string x12.V.S, .int .i64 x13.K, .string x13.S, .int .i64 x13.V.K, .int .i64 x13.V.N, .string x13.V.S]) (x' := (⟨x11.Op, x12, x13⟩ : TExpr)) ⟨rfl, rfl⟩
      refine WT.inLoop (WT.mono (l' := [(0, .pointer (some ⟨pb0, 0, none⟩)), (4, .pointer (some ⟨b_1, 0, none⟩)), (5, .pointer (some ⟨b_2, 0, none⟩)), (7, v9), (9, .int .i64 s12), (10, .pointer (some ⟨b_3, 0, none⟩)), (11, .int .i64 (IntKind.i64.wrap (s16 + 1)))]) (S' := St w0 Φ_18 [(b_3, .cells #[.int .i64 x10.1.Kind, .string x10.1.Name, v14, .int .i64 x10.1.N, .string x10.1.Undo] 96 (0, 0)), (b_2, .cells #[.string p1, .int .i64 x1.1, u2, u3, u4] 66 (0, 0)), (b_1, .cells #[.string (⟨#[]⟩ : ByteArray), .int .i64 0, .slice none 0 0, .slice none 0 0, .slice none 0 0] 66 (0, 0))] [ob v14, [pb0], D6, ob u4, ob u3, ob v9, D5, ob u2]) ⟨rfl, rfl, rfl, rfl, rfl, rfl, rfl, trivial⟩ (fun w1 hw => (hw.sel (js := [0, 0, 0, 0, 0, 0, 0, 0]) rfl).selO (js := [0, 0, 0]) rfl) ?_)
      exact ih5 (Φ_18, (s15.set s16.toNat (⟨x11.Op, x12, x13⟩ : TExpr)), IntKind.i64.wrap (s16 + 1)) ⟨h, k4, h9, k7, k10, h17, k13, ph0_0⟩
     replace h := ite_f h c4
     refine WT.skip <| WT.inBlock <| WT.region <| lq (q_move rfl) rfl <| lq (q_add rfl rfl) rfl <| lq (q_assign rfl) rfl <| WL.nil ?_
     have h18 := h15.unfocusF RTExpr.flat (cs := [.string x11.Op, .int .i64 x12.K, .string x12.S, .int .i64 x12.V.K, .int .i64 x12.V.N, .string x12.V.S, .int .i64 x11.R.K, .string x11.R.S, .int .i64 x11.R.V.K, .int .i64 x11.R.V.N, .string x11.R.V.S]) (x' := (⟨x11.Op, x12, x11.R⟩ : TExpr)) ⟨rfl, rfl⟩
     refine WT.inLoop (WT.mono (l' := [(0, .pointer (some ⟨pb0, 0, none⟩)), (4, .pointer (some ⟨b_1, 0, none⟩)), (5, .pointer (some ⟨b_2, 0, none⟩)), (7, v9), (9, .int .i64 s12), (10, .pointer (some ⟨b_3, 0, none⟩)), (11, .int .i64 (IntKind.i64.wrap (s16 + 1)))]) (S' := St w0 Φ_17 [(b_3, .cells #[.int .i64 x10.1.Kind, .string x10.1.Name, v14, .int .i64 x10.1.N, .string x10.1.Undo] 96 (0, 0)), (b_2, .cells #[.string p1, .int .i64 x1.1, u2, u3, u4] 66 (0, 0)), (b_1, .cells #[.string (⟨#[]⟩ : ByteArray), .int .i64 0, .slice none 0 0, .slice none 0 0, .slice none 0 0] 66 (0, 0))] [ob v14, [pb0], D6, ob u4, ob u3, ob v9, D5, ob u2]) ⟨rfl, rfl, rfl, rfl, rfl, rfl, rfl, trivial⟩ (fun w1 hw => (hw.sel (js := [0, 0, 0, 0, 0, 0, 0, 0]) rfl).selO (js := [0, 0, 0]) rfl) ?_)
     exact ih5 (Φ_17, (s15.set s16.toNat (⟨x11.Op, x12, x11.R⟩ : TExpr)), IntKind.i64.wrap (s16 + 1)) ⟨h, k4, h9, k7, k10, h18, k13, ph0_0⟩
    replace h := ite_f h c3
    refine WT.exit rfl <| WT.region <| lq (q_fieldAddr Fld_66_4 rfl) rfl <| lq (q_load1 T1_64 rfl (fun w1 hw => hw.rgO (i := 1) rfl 4 1 [u4] rfl)) rfl <| lq (q_loadN Tn_96 rfl (fun w1 hw => hw.rgO (i := 0) rfl 0 5 [.int .i64 x10.1.Kind, .string x10.1.Name, v14, .int .i64 x10.1.N, .string x10.1.Undo] rfl) rfl) rfl ?_
    have rc3 : RC OTAct 5 Φ_16 ([(ob v14 ++ [])] : List (List Nat)) [.int .i64 x10.1.Kind, .string x10.1.Name, v14, .int .i64 x10.1.N, .string x10.1.Undo] ([(⟨x10.1.Kind, x10.1.Name, s15, x10.1.N, x10.1.Undo⟩ : TAct)] : List TAct) := RC.cons (c := [.int .i64 x10.1.Kind, .string x10.1.Name, v14, .int .i64 x10.1.N, .string x10.1.Undo]) (cells := []) ⟨v14, rfl, rfl, k12⟩ rfl (RC.nil _ _ _)
    refine le' (e_lit (vs := [(0, .agg [.int .i64 x10.1.Kind, .string x10.1.Name, v14, .int .i64 x10.1.N, .string x10.1.Undo].toArray)]) (C := #[.int .i64 x10.1.Kind, .string x10.1.Name, v14, .int .i64 x10.1.N, .string x10.1.Undo]) OTAct.lasts Sl_64 Zr_96 rfl rfl rfl rfl (fill_made MC_96_1 (fill_cons (cells := [.int .i64 0, .string ⟨#[]⟩, .slice none 0 0, .int .i64 0, .string ⟨#[]⟩]) (c := [.int .i64 x10.1.Kind, .string x10.1.Name, v14, .int .i64 x10.1.N, .string x10.1.Undo]) (C' := [.int .i64 x10.1.Kind, .string x10.1.Name, v14, .int .i64 x10.1.N, .string x10.1.Undo]) rfl rfl rfl rfl rfl (fill_nil))) rfl rc3 rfl (RC.kn OTAct.knows rc3)) rfl (fun v15 Φ_19 D10 q14 => ?_)
    obtain ⟨fr14, h19⟩ := q14
    replace h19 : OSl OTAct 96 5 Φ_19 ((ob v14 ++ [])) v15 ([(⟨x10.1.Kind, x10.1.Name, s15, x10.1.N, x10.1.Undo⟩ : TAct)] : List TAct) := by simpa [List.append_assoc] using h19
    replace ph0_0 := ph0_0.frame RI.lasts fr14 (Dj.empty _)
    replace k4 := k4.frame OTPat.lasts fr14 (Dj.empty _) (Dj.empty _)
    replace h9 := h9.frame RS.lasts fr14 (Dj.empty _) (Dj.empty _)
    replace k7 := k7.frame RTCond.lasts fr14 (Dj.empty _) (Dj.empty _)
    replace k10 := k10.frame OTAct.lasts fr14 (Dj.empty _) (Dj.empty _)
    replace k13 := fr14 _ _ (by simp) k13
    refine WL.conv (S' := St w0 Φ_19 [(b_3, .cells #[.int .i64 x10.1.Kind, .string x10.1.Name, v14, .int .i64 x10.1.N, .string x10.1.Undo] 96 (0, 0)), (b_2, .cells #[.string p1, .int .i64 x1.1, u2, u3, u4] 66 (0, 0)), (b_1, .cells #[.string (⟨#[]⟩ : ByteArray), .int .i64 0, .slice none 0 0, .slice none 0 0, .slice none 0 0] 66 (0, 0))] [((ob v14 ++ [])), ob v15, [pb0], D6, ob u4, ob u3, ob v9, D5, ob u2]) (fun w1 hw => hw.merge (js := [1]) rfl (SP.eq (by simp [List.append_assoc, ob_nil]))) ?_
    obtain ⟨x14, hx14, h⟩ := bind_some h
    refine le' (e_appO OTAct.lasts OTAct.one Sl_64 Ei_96 rfl rfl rfl rfl rfl (js := [4]) (Rr := [((ob v14 ++ [])), ob v15, [pb0], D6, ob u3, ob v9, D5, ob u2]) rfl k10 h19 (fun ap => (ap.r (i := 3) rfl)) (fun ap => (ap.r (i := 0) rfl)) hx14) rfl (fun v16 Φ_20 D11 q15 => ?_)
    obtain ⟨⟨ap12, fr15⟩, h20⟩ := q15
    replace ph0_0 := ph0_0.frame RI.lasts fr15 (ap12.o pa0_0)
    replace k4 := k4.frame OTPat.lasts fr15 (ap12.r (i := 7) rfl) (ap12.r (i := 6) rfl)
    replace h9 := h9.frame RS.lasts fr15 (ap12.r (i := 5) rfl) (Dj.nil _)
    replace k7 := k7.frame RTCond.lasts fr15 (ap12.r (i := 4) rfl) (Dj.nil _)
    replace k13 := fr15 _ _ ((ap12.r (i := 2) rfl) _ (by simp)) k13
    refine WL.conv (S' := St w0 Φ_20 [(b_3, .cells #[.int .i64 x10.1.Kind, .string x10.1.Name, v14, .int .i64 x10.1.N, .string x10.1.Undo] 96 (0, 0)), (b_2, .cells #[.string p1, .int .i64 x1.1, u2, u3, u4] 66 (0, 0)), (b_1, .cells #[.string (⟨#[]⟩ : ByteArray), .int .i64 0, .slice none 0 0, .slice none 0 0, .slice none 0 0] 66 (0, 0))] [(D6 ++ ((ob v14 ++ []))), ob v16, ob v15, [pb0], ob u3, ob v9, D5, ob u2]) (fun w1 hw => hw.merge (js := [4, 1]) rfl (SP.eq (by simp))) ?_
    refine lq (q_fieldAddr Fld_66_4 rfl) rfl <| ls (s_store (i := 1) (vs := [v16]) (C' := [.string p1, .int .i64 x1.1, u2, u3, v16]) (O' := [(b_3, .cells #[.int .i64 x10.1.Kind, .string x10.1.Name, v14, .int .i64 x10.1.N, .string x10.1.Undo] 96 (0, 0)), (b_2, .cells #[.string p1, .int .i64 x1.1, u2, u3, v16] 66 (0, 0)), (b_1, .cells #[.string (⟨#[]⟩ : ByteArray), .int .i64 0, .slice none 0 0, .slice none 0 0, .slice none 0 0] 66 (0, 0))]) Sz_64 rfl rfl rfl (one_cells h20.one) rfl rfl ⟨h20.one, trivial⟩ rfl rfl) rfl ?_
    refine WL.nil <| WT.inBlock <| WT.region <| lq (q_move rfl) rfl <| lq (q_sub rfl rfl) rfl <| lq (q_assign rfl) rfl <| WL.nil ?_
    refine WT.inLoop (WT.mono (l' := [(0, .pointer (some ⟨pb0, 0, none⟩)), (4, .pointer (some ⟨b_1, 0, none⟩)), (5, .pointer (some ⟨b_2, 0, none⟩)), (7, v9), (9, .int .i64 (IntKind.i64.wrap (s12 - 1)))]) (S' := St w0 Φ_20 [(b_2, .cells #[.string p1, .int .i64 x1.1, u2, u3, v16] 66 (0, 0)), (b_1, .cells #[.string (⟨#[]⟩ : ByteArray), .int .i64 0, .slice none 0 0, .slice none 0 0, .slice none 0 0] 66 (0, 0))] [(D6 ++ ((ob v14 ++ []))), ob v16, [pb0], ob u3, ob v9, D5, ob u2]) ⟨rfl, rfl, rfl, rfl, rfl, trivial⟩ (fun w1 hw => (hw.sel (js := [0, 0, 1, 1, 1, 1, 1]) rfl).selO (js := [1, 1]) rfl) ?_)
    exact ih4 (Φ_20, x14, v16, (D6 ++ ((ob v14 ++ []))), IntKind.i64.wrap (s12 - 1), x10.2.i, x10.2.h) ⟨h, k4, h9, k7, h20, k13, ph0_0⟩
   replace h := ite_f h c2
   refine WT.exit rfl <| WT.seq <| WT.region <| lq (q_loadN Tn_66 rfl (fun w1 hw => hw.rgO (i := 0) rfl 0 5 [.string p1, .int .i64 x1.1, u2, u3, u4] rfl) rfl) rfl <| ls (s_store (i := 1) (vs := [.string p1, .int .i64 x1.1, u2, u3, u4]) (C' := [.string p1, .int .i64 x1.1, u2, u3, u4]) (O' := [(b_2, .cells #[.string p1, .int .i64 x1.1, u2, u3, u4] 66 (0, 0)), (b_1, .cells #[.string p1, .int .i64 x1.1, u2, u3, u4] 66 (0, 0))]) Sz_66 rfl rfl rfl rfl rfl rfl ⟨rfl, rfl, k4.one, k7.one, k10.one, trivial⟩ rfl rfl) rfl ?_
   refine WL.nil ?_
   refine WT.ret Try.func130 (resOk.one (rv_cell Tn_66 rfl (fun w1 hw => hw.rgO (i := 1) rfl 0 5 [.string p1, .int .i64 x1.1, u2, u3, u4] rfl) rfl)) (fun w1 hw => ?_)
   subst hb0
   cases h
   refine postG_of_St (js := [6, 5, 3, 1, 0, 0]) hw rfl ⟨u2, D5, u3, u4, D6, rfl, rfl, k4, k7, k10, rfl, k11⟩
  refine WT.cond rfl (fun c5 => ?_) (fun c5 => ?_)
  ·replace h := ite_t h c5
   refine WT.seq <| WT.region <| lq (q_move rfl) rfl ?_
   obtain ⟨x15, hx15, h⟩ := bind_some h
   refine lc (k_call (js := [1]) (R := [ob (.slice none 0 0), ob v9, D5, ob u2]) Fun_174 rfl rfl (fun w1 hw ap hl => m_s_l7Draw_ok hw.fro N (⟨p0.b, x7.2.i, x7.2.h⟩ : Tl1Cur) ph0_0 h10 (ap.o pa0_0) ap.nd hl hx15)) rfl (fun v17 Φ_21 F10 q16 => ?_)
   obtain ⟨ap13, fr16, rfl, rfl, e8, h21⟩ := q16
   replace ph0_0 := ph0_0.frame RI.lasts fr16 (ap13.o pa0_0)
   replace k4 := k4.frame OTPat.lasts fr16 (ap13.r (i := 3) rfl) (ap13.r (i := 2) rfl)
   replace h9 := h9.frame RS.lasts fr16 (ap13.r (i := 1) rfl) (Dj.nil _)
   replace k6 := k6.frame RTCond.lasts fr16 (ap13.r (i := 0) rfl) (Dj.nil _)
   refine ln (n_alloc (C := #[.int .i64 0, .int .i64 0, .string (⟨#[]⟩ : ByteArray), .int .i64 0, .int .i64 0, .string (⟨#[]⟩ : ByteArray), .int .i64 0, .string (⟨#[]⟩ : ByteArray), .int .i64 0, .int .i64 0, .string (⟨#[]⟩ : ByteArray)]) Zr_206 rfl) rfl (fun b_4 => ?_)
   refine ls (s_store (i := 0) (vs := [.int .i64 x15.1.Op, .int .i64 x15.1.L.K, .string x15.1.L.S, .int .i64 x15.1.L.V.K, .int .i64 x15.1.L.V.N, .string x15.1.L.V.S, .int .i64 x15.1.R.K, .string x15.1.R.S, .int .i64 x15.1.R.V.K, .int .i64 x15.1.R.V.N, .string x15.1.R.V.S]) (C' := [.int .i64 x15.1.Op, .int .i64 x15.1.L.K, .string x15.1.L.S, .int .i64 x15.1.L.V.K, .int .i64 x15.1.L.V.N, .string x15.1.L.V.S, .int .i64 x15.1.R.K, .string x15.1.R.S, .int .i64 x15.1.R.V.K, .int .i64 x15.1.R.V.N, .string x15.1.R.V.S]) (O' := [(b_4, .cells #[.int .i64 x15.1.Op, .int .i64 x15.1.L.K, .string x15.1.L.S, .int .i64 x15.1.L.V.K, .int .i64 x15.1.L.V.N, .string x15.1.L.V.S, .int .i64 x15.1.R.K, .string x15.1.R.S, .int .i64 x15.1.R.V.K, .int .i64 x15.1.R.V.N, .string x15.1.R.V.S] 206 (0, 0)), (b_2, .cells #[.string p1, .int .i64 x1.1, u2, (.slice none 0 0), .slice none 0 0] 66 (0, 0)), (b_1, .cells #[.string (⟨#[]⟩ : ByteArray), .int .i64 0, .slice none 0 0, .slice none 0 0, .slice none 0 0] 66 (0, 0))]) Sz_206 rfl rfl rfl rfl rfl rfl ⟨rfl, rfl, rfl, rfl, rfl, rfl, rfl, rfl, rfl, rfl, rfl, trivial⟩ rfl rfl) rfl ?_
   refine WL.nil <| WT.seq <| WT.region <| lq (q_fieldAddr Fld_206_1 rfl) rfl <| lq (q_loadN Tn_83 rfl (fun w1 hw => hw.rgO (i := 0) rfl 1 5 [.int .i64 x15.1.L.K, .string x15.1.L.S, .int .i64 x15.1.L.V.K, .int .i64 x15.1.L.V.N, .string x15.1.L.V.S] rfl) rfl) rfl <| lq (q_move rfl) rfl ?_
   obtain ⟨x16, hx16, h⟩ := bind_some h
   refine lp (p_call Fun_175 rfl (fun w1 hw => m_s_l9Fit_ok hw.fro N x15.1.L x6 h9.rsl hx16)) rfl <| lq (q_fieldAddr Fld_206_1 rfl) rfl <| ls (s_store (i := 0) (vs := [.int .i64 x16.K, .string x16.S, .int .i64 x16.V.K, .int .i64 x16.V.N, .string x16.V.S]) (C' := [.int .i64 x15.1.Op, .int .i64 x16.K, .string x16.S, .int .i64 x16.V.K, .int .i64 x16.V.N, .string x16.V.S, .int .i64 x15.1.R.K, .string x15.1.R.S, .int .i64 x15.1.R.V.K, .int .i64 x15.1.R.V.N, .string x15.1.R.V.S]) (O' := [(b_4, .cells #[.int .i64 x15.1.Op, .int .i64 x16.K, .string x16.S, .int .i64 x16.V.K, .int .i64 x16.V.N, .string x16.V.S, .int .i64 x15.1.R.K, .string x15.1.R.S, .int .i64 x15.1.R.V.K, .int .i64 x15.1.R.V.N, .string x15.1.R.V.S] 206 (0, 0)), (b_2, .cells #[.string p1, .int .i64 x1.1, u2, (.slice none 0 0), .slice none 0 0] 66 (0, 0)), (b_1, .cells #[.string (⟨#[]⟩ : ByteArray), .int .i64 0, .slice none 0 0, .slice none 0 0, .slice none 0 0] 66 (0, 0))]) Sz_83 rfl rfl rfl rfl rfl rfl ⟨rfl, rfl, rfl, rfl, rfl, trivial⟩ rfl rfl) rfl ?_
   refine WL.nil <| WT.seq <| WT.region <| lq (q_fieldAddr Fld_206_2 rfl) rfl <| lq (q_loadN Tn_83 rfl (fun w1 hw => hw.rgO (i := 0) rfl 6 5 [.int .i64 x15.1.R.K, .string x15.1.R.S, .int .i64 x15.1.R.V.K, .int .i64 x15.1.R.V.N, .string x15.1.R.V.S] rfl) rfl) rfl <| lq (q_move rfl) rfl ?_
   obtain ⟨x17, hx17, h⟩ := bind_some h
   refine lp (p_call Fun_175 rfl (fun w1 hw => m_s_l9Fit_ok hw.fro N x15.1.R x6 h9.rsl hx17)) rfl <| lq (q_fieldAddr Fld_206_2 rfl) rfl <| ls (s_store (i := 0) (vs := [.int .i64 x17.K, .string x17.S, .int .i64 x17.V.K, .int .i64 x17.V.N, .string x17.V.S]) (C' := [.int .i64 x15.1.Op, .int .i64 x16.K, .string x16.S, .int .i64 x16.V.K, .int .i64 x16.V.N, .string x16.V.S, .int .i64 x17.K, .string x17.S, .int .i64 x17.V.K, .int .i64 x17.V.N, .string x17.V.S]) (O' := [(b_4, .cells #[.int .i64 x15.1.Op, .int .i64 x16.K, .string x16.S, .int .i64 x16.V.K, .int .i64 x16.V.N, .string x16.V.S, .int .i64 x17.K, .string x17.S, .int .i64 x17.V.K, .int .i64 x17.V.N, .string x17.V.S] 206 (0, 0)), (b_2, .cells #[.string p1, .int .i64 x1.1, u2, (.slice none 0 0), .slice none 0 0] 66 (0, 0)), (b_1, .cells #[.string (⟨#[]⟩ : ByteArray), .int .i64 0, .slice none 0 0, .slice none 0 0, .slice none 0 0] 66 (0, 0))]) Sz_83 rfl rfl rfl rfl rfl rfl ⟨rfl, rfl, rfl, rfl, rfl, trivial⟩ rfl rfl) rfl ?_
   refine WL.nil <| WT.region <| lq (q_fieldAddr Fld_66_3 rfl) rfl <| lq (q_load1 T1_63 rfl (fun w1 hw => hw.rgO (i := 1) rfl 3 1 [(.slice none 0 0)] rfl)) rfl <| lq (q_loadN Tn_206 rfl (fun w1 hw => hw.rgO (i := 0) rfl 0 11 [.int .i64 x15.1.Op, .int .i64 x16.K, .string x16.S, .int .i64 x16.V.K, .int .i64 x16.V.N, .string x16.V.S, .int .i64 x17.K, .string x17.S, .int .i64 x17.V.K, .int .i64 x17.V.N, .string x17.V.S] rfl) rfl) rfl ?_
   have rc4 : RC RTCond 11 Φ_21 ([[]] : List (List Nat)) [.int .i64 x15.1.Op, .int .i64 x16.K, .string x16.S, .int .i64 x16.V.K, .int .i64 x16.V.N, .string x16.V.S, .int .i64 x17.K, .string x17.S, .int .i64 x17.V.K, .int .i64 x17.V.N, .string x17.V.S] ([(⟨x15.1.Op, x16, x17⟩ : TCond)] : List TCond) := RC.cons (c := [.int .i64 x15.1.Op, .int .i64 x16.K, .string x16.S, .int .i64 x16.V.K, .int .i64 x16.V.N, .string x16.V.S, .int .i64 x17.K, .string x17.S, .int .i64 x17.V.K, .int .i64 x17.V.N, .string x17.V.S]) (cells := []) ⟨rfl, rfl⟩ rfl (RC.nil _ _ _)
   refine le' (e_lit (vs := [(0, .agg [.int .i64 x15.1.Op, .int .i64 x16.K, .string x16.S, .int .i64 x16.V.K, .int .i64 x16.V.N, .string x16.V.S, .int .i64 x17.K, .string x17.S, .int .i64 x17.V.K, .int .i64 x17.V.N, .string x17.V.S].toArray)]) (C := #[.int .i64 x15.1.Op, .int .i64 x16.K, .string x16.S, .int .i64 x16.V.K, .int .i64 x16.V.N, .string x16.V.S, .int .i64 x17.K, .string x17.S, .int .i64 x17.V.K, .int .i64 x17.V.N, .string x17.V.S]) RTCond.lasts Sl_63 Zr_206 rfl rfl rfl rfl (fill_made MC_206_1 (fill_cons (cells := [.int .i64 0, .int .i64 0, .string ⟨#[]⟩, .int .i64 0, .int .i64 0, .string ⟨#[]⟩, .int .i64 0, .string ⟨#[]⟩, .int .i64 0, .int .i64 0, .string ⟨#[]⟩]) (c := [.int .i64 x15.1.Op, .int .i64 x16.K, .string x16.S, .int .i64 x16.V.K, .int .i64 x16.V.N, .string x16.V.S, .int .i64 x17.K, .string x17.S, .int .i64 x17.V.K, .int .i64 x17.V.N, .string x17.V.S]) (C' := [.int .i64 x15.1.Op, .int .i64 x16.K, .string x16.S, .int .i64 x16.V.K, .int .i64 x16.V.N, .string x16.V.S, .int .i64 x17.K, .string x17.S, .int .i64 x17.V.K, .int .i64 x17.V.N, .string x17.V.S]) rfl rfl rfl rfl rfl (fill_nil))) rfl rc4 rfl (by simpa using Kw.nil)) rfl (fun v18 Φ_22 D12 q17 => ?_)
   obtain ⟨fr17, h22⟩ := q17
   replace h22 : OSl RTCond 206 11 Φ_22 [] v18 ([(⟨x15.1.Op, x16, x17⟩ : TCond)] : List TCond) := by simpa using h22
   replace ph0_0 := ph0_0.frame RI.lasts fr17 (Dj.empty _)
   replace k4 := k4.frame OTPat.lasts fr17 (Dj.empty _) (Dj.empty _)
   replace h9 := h9.frame RS.lasts fr17 (Dj.empty _) (Dj.empty _)
   replace k6 := k6.frame RTCond.lasts fr17 (Dj.empty _) (Dj.empty _)
   replace h21 := fr17 _ _ (by simp) h21
   obtain ⟨x18, hx18, h⟩ := bind_some h
   refine le' (e_appF RTCond.lasts RTCond.one RTCond.flat Sl_63 Ei_206 rfl rfl rfl rfl rfl (js := [2]) (Rr := [ob v18, [pb0], ob v9, D5, ob u2]) rfl k6 h22.rsl hx18) rfl (fun v19 Φ_23 D13 q18 => ?_)
   obtain ⟨⟨ap14, fr18⟩, h23⟩ := q18
   replace ph0_0 := ph0_0.frame RI.lasts fr18 (ap14.o pa0_0)
   replace k4 := k4.frame OTPat.lasts fr18 (ap14.r (i := 4) rfl) (ap14.r (i := 3) rfl)
   replace h9 := h9.frame RS.lasts fr18 (ap14.r (i := 2) rfl) (Dj.nil _)
   replace h21 := fr18 _ _ ((ap14.r (i := 1) rfl) _ (by simp)) h21
   refine lq (q_fieldAddr Fld_66_3 rfl) rfl <| ls (s_store (i := 1) (vs := [v19]) (C' := [.string p1, .int .i64 x1.1, u2, v19, .slice none 0 0]) (O' := [(b_4, .cells #[.int .i64 x15.1.Op, .int .i64 x16.K, .string x16.S, .int .i64 x16.V.K, .int .i64 x16.V.N, .string x16.V.S, .int .i64 x17.K, .string x17.S, .int .i64 x17.V.K, .int .i64 x17.V.N, .string x17.V.S] 206 (0, 0)), (b_2, .cells #[.string p1, .int .i64 x1.1, u2, v19, .slice none 0 0] 66 (0, 0)), (b_1, .cells #[.string (⟨#[]⟩ : ByteArray), .int .i64 0, .slice none 0 0, .slice none 0 0, .slice none 0 0] 66 (0, 0))]) Sz_63 rfl rfl rfl (one_cells h23.one) rfl rfl ⟨h23.one, trivial⟩ rfl rfl) rfl ?_
   refine WL.nil <| WT.mono (l' := [(0, .pointer (some ⟨pb0, 0, none⟩)), (4, .pointer (some ⟨b_1, 0, none⟩)), (5, .pointer (some ⟨b_2, 0, none⟩)), (7, v9)]) (S' := St w0 Φ_23 [(b_2, .cells #[.string p1, .int .i64 x1.1, u2, v19, .slice none 0 0] 66 (0, 0)), (b_1, .cells #[.string (⟨#[]⟩ : ByteArray), .int .i64 0, .slice none 0 0, .slice none 0 0, .slice none 0 0] 66 (0, 0))] [ob v19, [pb0], ob v9, D5, ob u2]) ⟨rfl, rfl, rfl, rfl, trivial⟩ (fun w1 hw => (hw.sel (js := [0, 1, 1, 1, 1]) rfl).selO (js := [1, 1]) rfl) ?_
   exact K (Φ_23, x18, v19, x15.2.i, x15.2.h) ⟨h, k4, h9, h23, h21, ph0_0⟩
  replace h := ite_f h c5
  refine WT.skip <| WT.mono (l' := [(0, .pointer (some ⟨pb0, 0, none⟩)), (4, .pointer (some ⟨b_1, 0, none⟩)), (5, .pointer (some ⟨b_2, 0, none⟩)), (7, v9)]) (S' := St w0 Φ_11 [(b_2, .cells #[.string p1, .int .i64 x1.1, u2, (.slice none 0 0), .slice none 0 0] 66 (0, 0)), (b_1, .cells #[.string (⟨#[]⟩ : ByteArray), .int .i64 0, .slice none 0 0, .slice none 0 0, .slice none 0 0] 66 (0, 0))] [ob (.slice none 0 0), [pb0], ob v9, D5, ob u2]) ⟨rfl, rfl, rfl, rfl, trivial⟩ (fun w1 hw => (hw.sel (js := [0, 0, 0, 0, 0]) rfl).selO (js := [0, 0]) rfl) ?_
  exact K (Φ_11, ([] : List TCond), (.slice none 0 0), x7.2.i, x7.2.h) ⟨h, k4, h9, k6, h10, ph0_0⟩
 refine WT.cond rfl (fun c6 => ?_) (fun c6 => ?_)
 ·replace h := ite_t h c6
  refine WT.mix (Kn Φ_8 [] [(b_2, .cells #[.string p1, .int .i64 x1.1, u1, .slice none 0 0, .slice none 0 0] 66 (0, 0)), (b_1, .cells #[.string (⟨#[]⟩ : ByteArray), .int .i64 0, .slice none 0 0, .slice none 0 0, .slice none 0 0] 66 (0, 0))]) (fun i => match i with | 7 => false | _ => true) mixed (fun _ h => h.drew) <| mq 0 rfl (by kernel_rfl) (fun w1 hw => Kn.of (fun k hk _ _ => by simp at hk) (AllIn.mem ⟨gM 0 rfl, gM 1 rfl, trivial⟩) hw) (q_fieldAddr Fld_66_2 rfl) rfl ?_
  refine mq 1 rfl (by kernel_rfl) (fun w1 hw => Kn.of (fun k hk _ _ => by simp at hk) (AllIn.mem ⟨gM 0 rfl, gM 1 rfl, trivial⟩) hw) (q_load1 T1_62 rfl (fun w1 hw => hw.rgO (i := 0) rfl 2 1 [u1] rfl)) rfl <| mq 2 rfl (by kernel_rfl) (fun w1 hw => Kn.of (fun k hk _ _ => by simp at hk) (AllIn.mem ⟨gM 0 rfl, gM 1 rfl, trivial⟩) hw) (q_move rfl) rfl ?_
  obtain ⟨x19, hx19, h⟩ := bind_some h
  refine WM.one 3 (by kernel_rfl) (mc rfl (fun _ v Φx D w1 hq hw => Kn.of (fun k hk _ _ => by simp at hk) (AllIn.mem ⟨gM 0 rfl, gM 1 rfl, trivial⟩) hw) (k_call (js := [0]) (R := [D2, ob u1]) Fun_83 rfl rfl (fun w1 hw ap hl => m_s_l6Draw_ok hw.fro N (⟨p0.b, x5.2.i, x5.2.h⟩ : Tl1Cur) true ph0_0 h8 (ap.o pa0_0) ap.nd hl hx19)) rfl (fun v20 Φ_24 F11 q19 => ?_))
  obtain ⟨ap15, fr19, v21, rfl, rfl, h24, e9, h25⟩ := q19
  replace ph0_0 := ph0_0.frame RI.lasts fr19 (ap15.o pa0_0)
  replace k2 := k2.frame OTPat.lasts fr19 (ap15.r (i := 1) rfl) (ap15.r (i := 0) rfl)
  have rc5 : RC OTPat 3 Φ_24 ([(ob v21 ++ [])] : List (List Nat)) [.string x19.1.Kind, v21, .bool x19.1.Not] ([x19.1] : List TPat) := RC.cons (c := [.string x19.1.Kind, v21, .bool x19.1.Not]) (cells := []) ⟨v21, rfl, rfl, h24⟩ rfl (RC.nil _ _ _)
  refine WM.one 4 (by kernel_rfl) (me rfl (fun _ v Φx D w1 hq hw => Kn.of (fun k hk _ _ => by simp at hk) (AllIn.mem ⟨gM 0 rfl, gM 1 rfl, trivial⟩) hw) (e_lit (vs := [(0, .agg [.string x19.1.Kind, v21, .bool x19.1.Not].toArray)]) (C := #[.string x19.1.Kind, v21, .bool x19.1.Not]) OTPat.lasts Sl_62 Zr_37 rfl rfl rfl rfl (fill_made MC_37_1 (fill_cons (cells := [.string ⟨#[]⟩, .slice none 0 0, .bool false]) (c := [.string x19.1.Kind, v21, .bool x19.1.Not]) (C' := [.string x19.1.Kind, v21, .bool x19.1.Not]) rfl rfl rfl rfl rfl (fill_nil))) rfl rc5 rfl (RC.kn OTPat.knows rc5)) rfl (fun v22 Φ_25 D14 q20 => ?_))
  obtain ⟨fr20, h26⟩ := q20
  replace h26 : OSl OTPat 37 3 Φ_25 ((ob v21 ++ [])) v22 ([x19.1] : List TPat) := by simpa [List.append_assoc] using h26
  replace ph0_0 := ph0_0.frame RI.lasts fr20 (Dj.empty _)
  replace k2 := k2.frame OTPat.lasts fr20 (Dj.empty _) (Dj.empty _)
  replace h25 := fr20 _ _ (by simp) h25
  refine WM.conv (S' := St w0 Φ_25 [(b_2, .cells #[.string p1, .int .i64 x1.1, u1, .slice none 0 0, .slice none 0 0] 66 (0, 0)), (b_1, .cells #[.string (⟨#[]⟩ : ByteArray), .int .i64 0, .slice none 0 0, .slice none 0 0, .slice none 0 0] 66 (0, 0))] [((ob v21 ++ [])), ob v22, [pb0], D2, ob u1]) (fun w1 hw => hw.merge (js := [1]) rfl (SP.eq (by simp [List.append_assoc, ob_nil]))) ?_
  obtain ⟨x20, hx20, h⟩ := bind_some h
  refine WM.one 5 (by kernel_rfl) (me rfl (fun _ v Φx D w1 hq hw => Kn.of (fun k hk _ _ => by simp at hk) (AllIn.mem ⟨gM 0 rfl, gM 1 rfl, trivial⟩) hw) (e_appO OTPat.lasts OTPat.one Sl_62 Ei_37 rfl rfl rfl rfl rfl (js := [4]) (Rr := [((ob v21 ++ [])), ob v22, [pb0], D2]) rfl k2 h26 (fun ap => (ap.r (i := 3) rfl)) (fun ap => (ap.r (i := 0) rfl)) hx20) rfl (fun v23 Φ_26 D15 q21 => ?_))
  obtain ⟨⟨ap16, fr21⟩, h27⟩ := q21
  replace ph0_0 := ph0_0.frame RI.lasts fr21 (ap16.o pa0_0)
  replace h25 := fr21 _ _ ((ap16.r (i := 2) rfl) _ (by simp)) h25
  refine WM.conv (S' := St w0 Φ_26 [(b_2, .cells #[.string p1, .int .i64 x1.1, u1, .slice none 0 0, .slice none 0 0] 66 (0, 0)), (b_1, .cells #[.string (⟨#[]⟩ : ByteArray), .int .i64 0, .slice none 0 0, .slice none 0 0, .slice none 0 0] 66 (0, 0))] [(D2 ++ ((ob v21 ++ []))), ob v23, ob v22, [pb0]]) (fun w1 hw => hw.merge (js := [4, 1]) rfl (SP.eq (by simp))) <| mq 6 rfl (by kernel_rfl) (fun w1 hw => Kn.of (fun k hk _ _ => by simp at hk) (AllIn.mem ⟨gM 0 rfl, gM 1 rfl, trivial⟩) hw) (q_fieldAddr Fld_66_2 rfl) rfl ?_
  refine WM.one 7 (by kernel_rfl) (ms rfl (fun hc => by cases hc) (s_store (i := 0) (vs := [v23]) (C' := [.string p1, .int .i64 x1.1, v23, .slice none 0 0, .slice none 0 0]) (O' := [(b_2, .cells #[.string p1, .int .i64 x1.1, v23, .slice none 0 0, .slice none 0 0] 66 (0, 0)), (b_1, .cells #[.string (⟨#[]⟩ : ByteArray), .int .i64 0, .slice none 0 0, .slice none 0 0, .slice none 0 0] 66 (0, 0))]) Sz_62 rfl rfl rfl (one_cells h27.one) rfl rfl ⟨h27.one, trivial⟩ rfl rfl) rfl ?_)
  refine WM.nil (by kernel_rfl) <| WT.mono (l' := [(0, .pointer (some ⟨pb0, 0, none⟩)), (4, .pointer (some ⟨b_1, 0, none⟩)), (5, .pointer (some ⟨b_2, 0, none⟩))]) (S' := St w0 Φ_26 [(b_2, .cells #[.string p1, .int .i64 x1.1, v23, .slice none 0 0, .slice none 0 0] 66 (0, 0)), (b_1, .cells #[.string (⟨#[]⟩ : ByteArray), .int .i64 0, .slice none 0 0, .slice none 0 0, .slice none 0 0] 66 (0, 0))] [[pb0], (D2 ++ ((ob v21 ++ []))), ob v23]) ⟨rfl, rfl, rfl, trivial⟩ (fun w1 hw => (hw.sel (js := [3, 0, 0]) rfl).selO (js := [0, 0]) rfl) ?_
  exact K (Φ_26, x20, v23, (D2 ++ ((ob v21 ++ []))), x19.2.i, x19.2.h) ⟨h, h27, h25, ph0_0⟩
 replace h := ite_f h c6
 refine WT.skip <| WT.mono (l' := [(0, .pointer (some ⟨pb0, 0, none⟩)), (4, .pointer (some ⟨b_1, 0, none⟩)), (5, .pointer (some ⟨b_2, 0, none⟩))]) (S' := St w0 Φ_8 [(b_2, .cells #[.string p1, .int .i64 x1.1, u1, .slice none 0 0, .slice none 0 0] 66 (0, 0)), (b_1, .cells #[.string (⟨#[]⟩ : ByteArray), .int .i64 0, .slice none 0 0, .slice none 0 0, .slice none 0 0] 66 (0, 0))] [[pb0], D2, ob u1]) ⟨rfl, rfl, rfl, trivial⟩ (fun w1 hw => (hw.sel (js := [0, 0, 0]) rfl).selO (js := [0, 0]) rfl) ?_
 exact K (Φ_8, s1, u1, D2, x5.2.i, x5.2.h) ⟨h, k2, h8, ph0_0⟩
theorem m_s_l10Draw_ok {Φ : Hp} {w : World} (hΦ : In Φ w) (N : Nat) (p0 : Tl1Cur) {pv0_0 : Value} {pG0_0 : List Nat} {pb0 : Nat} (ph0_0 : RSl (RI .u8) 1 Φ pG0_0 pv0_0 p0.b) (pp0 : Φ pb0 = some (.cells #[pv0_0, .int .i64 p0.i, .int .i64 p0.h] 195 (0, 0))) (pd0_0 : Dj pG0_0 [[pb0]].flatten) (hB : [[pb0]].flatten.Nodup) (hlt : ∀ k ∈ [[pb0]].flatten, k < w.heap.size) {r : TDef × Tl1Cur} (h : m_s_l10Draw N p0 = some r) :
  Calls Try.prog 76 [.pointer (some ⟨pb0, 0, none⟩)].toArray w (PostG Φ w [[pb0]].flatten (fun Φ' Fs v => ∃ (sr_0_0 : Value) (Dr_0_0 : List Nat), v = .agg [.string r.1.Name, sr_0_0].toArray ∧ Fs = [ob sr_0_0, Dr_0_0, [pb0]] ∧ OSl OTRule 66 5 Φ' Dr_0_0 sr_0_0 r.1.Rules ∧ r.2.b = p0.b ∧ Φ' pb0 = some (.cells #[pv0_0, .int .i64 r.2.i, .int .i64 r.2.h] 195 (0, 0)))) := by
 refine enter Try.func76 rfl Try.ntmps76 rfl (St.start hΦ [[pb0]] hB hlt) ?_
 have pa0_0 : Old ⟨w, [[pb0]].flatten, Φ⟩ pG0_0 := Old.mk hΦ ph0_0.kn pd0_0
 revert pa0_0
 generalize hb0 : (⟨w, [[pb0]].flatten, Φ⟩ : Base) = w0
 intro pa0_0
 unfold m_s_l10Draw at h
 refine WT.seq <| WT.region ?_
 refine ln (n_alloc (C := #[.string (⟨#[]⟩ : ByteArray), .slice none 0 0]) Zr_26 rfl) rfl (fun b_1 => ?_)
 refine WL.nil <| WT.seq <| WT.region <| lq (q_move rfl) rfl ?_
 have rc1 : RC RS 1 Φ ([[], [], []] : List (List Nat)) [.string (⟨#[102, 108, 111, 119]⟩ : ByteArray), .string (⟨#[115, 104, 105, 112]⟩ : ByteArray), .string (⟨#[120]⟩ : ByteArray)] ([(⟨#[102, 108, 111, 119]⟩ : ByteArray), (⟨#[115, 104, 105, 112]⟩ : ByteArray), (⟨#[120]⟩ : ByteArray)] : List ByteArray) := RC.cons (c := [.string (⟨#[102, 108, 111, 119]⟩ : ByteArray)]) (cells := [.string (⟨#[115, 104, 105, 112]⟩ : ByteArray), .string (⟨#[120]⟩ : ByteArray)]) ⟨rfl, rfl⟩ rfl (RC.cons (c := [.string (⟨#[115, 104, 105, 112]⟩ : ByteArray)]) (cells := [.string (⟨#[120]⟩ : ByteArray)]) ⟨rfl, rfl⟩ rfl (RC.cons (c := [.string (⟨#[120]⟩ : ByteArray)]) (cells := []) ⟨rfl, rfl⟩ rfl (RC.nil _ _ _)))
 refine le' (e_lit (vs := [(0, .string (⟨#[102, 108, 111, 119]⟩ : ByteArray)), (1, .string (⟨#[115, 104, 105, 112]⟩ : ByteArray)), (2, .string (⟨#[120]⟩ : ByteArray))]) (C := #[.string (⟨#[102, 108, 111, 119]⟩ : ByteArray), .string (⟨#[115, 104, 105, 112]⟩ : ByteArray), .string (⟨#[120]⟩ : ByteArray)]) RS.lasts Sl_68 Zr_9 rfl rfl rfl rfl (fill_made MC_9_3 (fill_cons (cells := [.string ⟨#[]⟩, .string ⟨#[]⟩, .string ⟨#[]⟩]) (c := [.string (⟨#[102, 108, 111, 119]⟩ : ByteArray)]) (C' := [.string (⟨#[102, 108, 111, 119]⟩ : ByteArray), .string ⟨#[]⟩, .string ⟨#[]⟩]) rfl rfl rfl rfl rfl (fill_cons (cells := [.string (⟨#[102, 108, 111, 119]⟩ : ByteArray), .string ⟨#[]⟩, .string ⟨#[]⟩]) (c := [.string (⟨#[115, 104, 105, 112]⟩ : ByteArray)]) (C' := [.string (⟨#[102, 108, 111, 119]⟩ : ByteArray), .string (⟨#[115, 104, 105, 112]⟩ : ByteArray), .string ⟨#[]⟩]) rfl rfl rfl rfl rfl (fill_cons (cells := [.string (⟨#[102, 108, 111, 119]⟩ : ByteArray), .string (⟨#[115, 104, 105, 112]⟩ : ByteArray), .string ⟨#[]⟩]) (c := [.string (⟨#[120]⟩ : ByteArray)]) (C' := [.string (⟨#[102, 108, 111, 119]⟩ : ByteArray), .string (⟨#[115, 104, 105, 112]⟩ : ByteArray), .string (⟨#[120]⟩ : ByteArray)]) rfl rfl rfl rfl rfl (fill_nil))))) rfl rc1 rfl (by simpa using Kw.nil)) rfl (fun v1 Φ_1 D1 q1 => ?_)
 obtain ⟨fr1, h1⟩ := q1
 replace h1 : OSl RS 9 1 Φ_1 [] v1 ([(⟨#[102, 108, 111, 119]⟩ : ByteArray), (⟨#[115, 104, 105, 112]⟩ : ByteArray), (⟨#[120]⟩ : ByteArray)] : List ByteArray) := by simpa using h1
 replace ph0_0 := ph0_0.frame RI.lasts fr1 (Dj.empty _)
 replace pp0 := fr1 _ _ (by simp) pp0
 obtain ⟨x1, hx1, h⟩ := bind_some h
 refine lc (k_call (js := [1]) (R := [ob v1]) Fun_151 rfl rfl (fun w1 hw ap hl => m_s_l1Str_ok hw.fro N p0 ([(⟨#[102, 108, 111, 119]⟩ : ByteArray), (⟨#[115, 104, 105, 112]⟩ : ByteArray), (⟨#[120]⟩ : ByteArray)] : List ByteArray) ph0_0 pp0 h1.rsl (ap.o pa0_0) (Dj.app (ap.r (i := 0) rfl) (Dj.nil _)) ap.nd hl hx1)) rfl (fun v2 Φ_2 F1 q2 => ?_)
 obtain ⟨ap1, fr2, rfl, rfl, e1, h2⟩ := q2
 replace ph0_0 := ph0_0.frame RI.lasts fr2 (ap1.o pa0_0)
 refine lq (q_build (vs := [(0, .string x1.1)]) (C := #[.string x1.1, .slice none 0 0]) Pl_26 Zr_26 rfl (fill_cons (cells := [.string ⟨#[]⟩, .slice none 0 0]) (c := [.string x1.1]) (C' := [.string x1.1, .slice none 0 0]) rfl rfl rfl rfl rfl (fill_nil))) rfl ?_
 refine ln (n_alloc (C := #[.string (⟨#[]⟩ : ByteArray), .slice none 0 0]) Zr_26 rfl) rfl (fun b_2 => ?_)
 refine ls (s_store (i := 0) (vs := [.string x1.1, .slice none 0 0]) (C' := [.string x1.1, .slice none 0 0]) (O' := [(b_2, .cells #[.string x1.1, .slice none 0 0] 26 (0, 0)), (b_1, .cells #[.string (⟨#[]⟩ : ByteArray), .slice none 0 0] 26 (0, 0))]) Sz_26 rfl rfl rfl rfl rfl rfl ⟨rfl, rfl, trivial⟩ rfl rfl) rfl <| WL.nil <| WT.seq <| WT.region ?_
 have rc2 : RC RS 1 Φ_2 ([[], [], [], []] : List (List Nat)) [.string (⟨#[114, 49]⟩ : ByteArray), .string (⟨#[114, 50]⟩ : ByteArray), .string (⟨#[114, 51]⟩ : ByteArray), .string (⟨#[114, 52]⟩ : ByteArray)] ([(⟨#[114, 49]⟩ : ByteArray), (⟨#[114, 50]⟩ : ByteArray), (⟨#[114, 51]⟩ : ByteArray), (⟨#[114, 52]⟩ : ByteArray)] : List ByteArray) := RC.cons (c := [.string (⟨#[114, 49]⟩ : ByteArray)]) (cells := [.string (⟨#[114, 50]⟩ : ByteArray), .string (⟨#[114, 51]⟩ : ByteArray), .string (⟨#[114, 52]⟩ : ByteArray)]) ⟨rfl, rfl⟩ rfl (RC.cons (c := [.string (⟨#[114, 50]⟩ : ByteArray)]) (cells := [.string (⟨#[114, 51]⟩ : ByteArray), .string (⟨#[114, 52]⟩ : ByteArray)]) ⟨rfl, rfl⟩ rfl (RC.cons (c := [.string (⟨#[114, 51]⟩ : ByteArray)]) (cells := [.string (⟨#[114, 52]⟩ : ByteArray)]) ⟨rfl, rfl⟩ rfl (RC.cons (c := [.string (⟨#[114, 52]⟩ : ByteArray)]) (cells := []) ⟨rfl, rfl⟩ rfl (RC.nil _ _ _))))
 refine le' (e_lit (vs := [(0, .string (⟨#[114, 49]⟩ : ByteArray)), (1, .string (⟨#[114, 50]⟩ : ByteArray)), (2, .string (⟨#[114, 51]⟩ : ByteArray)), (3, .string (⟨#[114, 52]⟩ : ByteArray))]) (C := #[.string (⟨#[114, 49]⟩ : ByteArray), .string (⟨#[114, 50]⟩ : ByteArray), .string (⟨#[114, 51]⟩ : ByteArray), .string (⟨#[114, 52]⟩ : ByteArray)]) RS.lasts Sl_68 Zr_9 rfl rfl rfl rfl (fill_made MC_9_4 (fill_cons (cells := [.string ⟨#[]⟩, .string ⟨#[]⟩, .string ⟨#[]⟩, .string ⟨#[]⟩]) (c := [.string (⟨#[114, 49]⟩ : ByteArray)]) (C' := [.string (⟨#[114, 49]⟩ : ByteArray), .string ⟨#[]⟩, .string ⟨#[]⟩, .string ⟨#[]⟩]) rfl rfl rfl rfl rfl (fill_cons (cells := [.string (⟨#[114, 49]⟩ : ByteArray), .string ⟨#[]⟩, .string ⟨#[]⟩, .string ⟨#[]⟩]) (c := [.string (⟨#[114, 50]⟩ : ByteArray)]) (C' := [.string (⟨#[114, 49]⟩ : ByteArray), .string (⟨#[114, 50]⟩ : ByteArray), .string ⟨#[]⟩, .string ⟨#[]⟩]) rfl rfl rfl rfl rfl (fill_cons (cells := [.string (⟨#[114, 49]⟩ : ByteArray), .string (⟨#[114, 50]⟩ : ByteArray), .string ⟨#[]⟩, .string ⟨#[]⟩]) (c := [.string (⟨#[114, 51]⟩ : ByteArray)]) (C' := [.string (⟨#[114, 49]⟩ : ByteArray), .string (⟨#[114, 50]⟩ : ByteArray), .string (⟨#[114, 51]⟩ : ByteArray), .string ⟨#[]⟩]) rfl rfl rfl rfl rfl (fill_cons (cells := [.string (⟨#[114, 49]⟩ : ByteArray), .string (⟨#[114, 50]⟩ : ByteArray), .string (⟨#[114, 51]⟩ : ByteArray), .string ⟨#[]⟩]) (c := [.string (⟨#[114, 52]⟩ : ByteArray)]) (C' := [.string (⟨#[114, 49]⟩ : ByteArray), .string (⟨#[114, 50]⟩ : ByteArray), .string (⟨#[114, 51]⟩ : ByteArray), .string (⟨#[114, 52]⟩ : ByteArray)]) rfl rfl rfl rfl rfl (fill_nil)))))) rfl rc2 rfl (by simpa using Kw.nil)) rfl (fun v3 Φ_3 D2 q3 => ?_)
 obtain ⟨fr3, h3⟩ := q3
 replace h3 : OSl RS 9 1 Φ_3 [] v3 ([(⟨#[114, 49]⟩ : ByteArray), (⟨#[114, 50]⟩ : ByteArray), (⟨#[114, 51]⟩ : ByteArray), (⟨#[114, 52]⟩ : ByteArray)] : List ByteArray) := by simpa using h3
 replace ph0_0 := ph0_0.frame RI.lasts fr3 (Dj.empty _)
 replace h2 := fr3 _ _ (by simp) h2
 refine lq (q_assign rfl) rfl <| WL.nil <| WT.seq <| WT.seq <| WT.region <| lq (q_assign rfl) rfl <| WL.nil <| WT.block <| WT.loop <| WT.conv (S' := St w0 Φ_3 [(b_2, .cells #[.string x1.1, .slice none 0 0] 26 (0, 0)), (b_1, .cells #[.string (⟨#[]⟩ : ByteArray), .slice none 0 0] 26 (0, 0))] (ob (.slice none 0 0) :: [ob v3, [pb0], ob v1])) (fun w1 hw => hw.addNil) <| WT.conv (S' := St w0 Φ_3 [(b_2, .cells #[.string x1.1, .slice none 0 0] 26 (0, 0)), (b_1, .cells #[.string (⟨#[]⟩ : ByteArray), .slice none 0 0] 26 (0, 0))] ([] :: [ob (.slice none 0 0), ob v3, [pb0], ob v1])) (fun w1 hw => hw.addNil) ?_
 have k1 := OSl.nil OTRule 66 5 Φ_3
 refine WT.mono (l' := [(0, .pointer (some ⟨pb0, 0, none⟩)), (2, .pointer (some ⟨b_1, 0, none⟩)), (3, .pointer (some ⟨b_2, 0, none⟩)), (4, v3), (5, .int .i64 0)]) (S' := St w0 Φ_3 [(b_2, .cells #[.string x1.1, (.slice none 0 0)] 26 (0, 0)), (b_1, .cells #[.string (⟨#[]⟩ : ByteArray), .slice none 0 0] 26 (0, 0))] [[], ob (.slice none 0 0), ob v3, [pb0]]) ⟨rfl, rfl, rfl, rfl, rfl, trivial⟩ (fun w1 hw => (hw.sel (js := [0, 0, 0, 0]) rfl).selO (js := [0, 0]) rfl) ?_
 refine loop_ind (σ := Hp × (List TRule) × Value × List Nat × Int × Int × Int) (fun s => [(0, .pointer (some ⟨pb0, 0, none⟩)), (2, .pointer (some ⟨b_1, 0, none⟩)), (3, .pointer (some ⟨b_2, 0, none⟩)), (4, v3), (5, .int .i64 s.2.2.2.2.1)]) (fun s => St w0 s.1 [(b_2, .cells #[.string x1.1, s.2.2.1] 26 (0, 0)), (b_1, .cells #[.string (⟨#[]⟩ : ByteArray), .slice none 0 0] 26 (0, 0))] [s.2.2.2.1, ob s.2.2.1, ob v3, [pb0]]) (fun m s => m_s_l10Draw_l1 N p0 x1 m s.2.1 s.2.2.2.2.1 s.2.2.2.2.2.1 s.2.2.2.2.2.2 = some r ∧ (OSl RS 9 1 s.1 [] v3 ([(⟨#[114, 49]⟩ : ByteArray), (⟨#[114, 50]⟩ : ByteArray), (⟨#[114, 51]⟩ : ByteArray), (⟨#[114, 52]⟩ : ByteArray)] : List ByteArray)) ∧ (OSl OTRule 66 5 s.1 s.2.2.2.1 s.2.2.1 s.2.1) ∧ (s.1 pb0 = some (.cells #[pv0_0, .int .i64 s.2.2.2.2.2.1, .int .i64 s.2.2.2.2.2.2] 195 (0, 0))) ∧ (RSl (RI .u8) 1 s.1 pG0_0 pv0_0 p0.b)) (fun s hm => none_ne (show (none : Option (TDef × Tl1Cur)) = some r from hm.1)) (fun n1 ih1 s hm => ?_) N (Φ_3, ([] : List TRule), (.slice none 0 0), [], 0, x1.2.i, x1.2.h) ⟨h, h3, k1, h2, ph0_0⟩
 obtain ⟨Φ_4, s1, u1, D3, s2, s3, s4⟩ := s
 obtain ⟨h, h3, k2, k3, ph0_0⟩ := hm
 replace h : m_s_l10Draw_l1 N p0 x1 (n1 + 1) s1 s2 s3 s4 = some r := h
 replace h3 : OSl RS 9 1 Φ_4 [] v3 ([(⟨#[114, 49]⟩ : ByteArray), (⟨#[114, 50]⟩ : ByteArray), (⟨#[114, 51]⟩ : ByteArray), (⟨#[114, 52]⟩ : ByteArray)] : List ByteArray) := h3
 replace k2 : OSl OTRule 66 5 Φ_4 D3 u1 s1 := k2
 replace k3 : Φ_4 pb0 = some (.cells #[pv0_0, .int .i64 s3, .int .i64 s4] 195 (0, 0)) := k3
 replace ph0_0 : RSl (RI .u8) 1 Φ_4 pG0_0 pv0_0 p0.b := ph0_0
 show WT _ _ [(0, .pointer (some ⟨pb0, 0, none⟩)), (2, .pointer (some ⟨b_1, 0, none⟩)), (3, .pointer (some ⟨b_2, 0, none⟩)), (4, v3), (5, .int .i64 s2)] (St w0 Φ_4 [(b_2, .cells #[.string x1.1, u1] 26 (0, 0)), (b_1, .cells #[.string (⟨#[]⟩ : ByteArray), .slice none 0 0] 26 (0, 0))] [D3, ob u1, ob v3, [pb0]])
 unfold m_s_l10Draw_l1 at h
 refine WT.seq <| WT.seq <| WT.region <| lq (q_move rfl) rfl <| lq (q_move rfl) rfl ?_
 obtain ⟨x2, hx2, h⟩ := bind_some h
 refine lc (k_call (js := [3]) (R := [D3, ob u1, ob v3]) Fun_92 rfl rfl (fun w1 hw ap hl => m_s_l1Below_ok hw.fro N (⟨p0.b, s3, s4⟩ : Tl1Cur) 4 ph0_0 k3 (ap.o pa0_0) ap.nd hl hx2)) rfl (fun v4 Φ_5 F2 q4 => ?_)
 obtain ⟨ap2, fr4, rfl, rfl, e2, h4⟩ := q4
 replace ph0_0 := ph0_0.frame RI.lasts fr4 (ap2.o pa0_0)
 replace h3 := h3.frame RS.lasts fr4 (ap2.r (i := 2) rfl) (Dj.nil _)
 replace k2 := k2.frame OTRule.lasts fr4 (ap2.r (i := 1) rfl) (ap2.r (i := 0) rfl)
 refine lq (q_add rfl rfl) rfl <| lq (q_lss rfl rfl) rfl <| lq (q_move rfl) rfl ?_
 obtain ⟨b3, hb_1, h⟩ := bind_some h
 refine WL.cutN 3 [(19, .bool b3), (0, .pointer (some ⟨pb0, 0, none⟩)), (2, .pointer (some ⟨b_1, 0, none⟩)), (3, .pointer (some ⟨b_2, 0, none⟩)), (4, v3), (5, .int .i64 s2)] ?_ (fun K => ?_)
 rotate_left
 ·refine WL.split (d := 16) rfl (fun c1 => ?_) (fun c1 => ?_)
  ·replace hb_1 := ite_t hb_1 c1
   refine WL.yes rfl rfl <| lq (q_move rfl) rfl <| WL.yes rfl rfl <| lq (q_lss rfl rfl) rfl <| WL.q (q_pick1 rfl rfl) rfl rfl rfl ?_
   cases hb_1
   exact WL.keep (by exact ⟨rfl, rfl, rfl, rfl, rfl, rfl, trivial⟩) K
  ·replace hb_1 := ite_f hb_1 c1
   refine WL.no rfl rfl rfl rfl <| WL.no rfl rfl rfl rfl <| WL.q (q_pick0 rfl rfl) rfl rfl rfl ?_
   cases hb_1
   exact WL.keep (by exact ⟨rfl, rfl, rfl, rfl, rfl, rfl, trivial⟩) K
 refine WL.nil ?_
 refine WT.cond rfl (fun c2 => ?_) (fun c2 => ?_)
 ·replace h := ite_t h c2
  refine WT.skip <| WT.seq <| WT.block <| WT.mix (Kn Φ_5 (ob v3) [(b_2, .cells #[.string x1.1, u1] 26 (0, 0)), (b_1, .cells #[.string (⟨#[]⟩ : ByteArray), .slice none 0 0] 26 (0, 0))]) (fun i => match i with | 11 => false | _ => true) mixed (fun _ h => h.drew) <| mq 0 rfl (by kernel_rfl) (fun w1 hw => Kn.of (fun _ _ _ h => h) (AllIn.mem ⟨gM 0 rfl, gM 1 rfl, trivial⟩) hw) (q_fieldAddr Fld_26_1 rfl) rfl ?_
  refine mq 1 rfl (by kernel_rfl) (fun w1 hw => Kn.of (fun _ _ _ h => h) (AllIn.mem ⟨gM 0 rfl, gM 1 rfl, trivial⟩) hw) (q_load1 T1_24 rfl (fun w1 hw => hw.rgO (i := 0) rfl 1 1 [u1] rfl)) rfl <| mq 2 rfl (by kernel_rfl) (fun w1 hw => Kn.of (fun _ _ _ h => h) (AllIn.mem ⟨gM 0 rfl, gM 1 rfl, trivial⟩) hw) (q_move rfl) rfl ?_
  refine mq 3 rfl (by kernel_rfl) (fun w1 hw => Kn.of (fun _ _ _ h => h) (AllIn.mem ⟨gM 0 rfl, gM 1 rfl, trivial⟩) hw) (q_move rfl) rfl <| mq 4 rfl (by kernel_rfl) (fun w1 hw => Kn.of (fun _ _ _ h => h) (AllIn.mem ⟨gM 0 rfl, gM 1 rfl, trivial⟩) hw) (q_move rfl) rfl ?_
  obtain ⟨x3, hx3, h⟩ := bind_some h
  obtain ⟨cs1, F3, -, g1, hb1, hs1, r1⟩ := h3.elS (idx_some hx3).2.2
  obtain ⟨rfl, -⟩ := r1
  refine mq 5 rfl (by kernel_rfl) (fun w1 hw => Kn.of (fun _ _ _ h => h) (AllIn.mem ⟨gM 0 rfl, gM 1 rfl, trivial⟩) hw) (q_indexAddr Sl_68 rfl rfl h3.rsl hx3) rfl <| mq 6 rfl (by kernel_rfl) (fun w1 hw => Kn.of (fun _ _ _ h => h) (AllIn.mem ⟨gM 0 rfl, gM 1 rfl, trivial⟩) hw) (q_load1 T1_9 rfl (fun w1 hw => hw.rg hb1 (g1.of_eq 0 1 rfl rfl : rg _ _ _ [.string x3]))) rfl ?_
  obtain ⟨x4, hx4, h⟩ := bind_some h
  refine WM.one 7 (by kernel_rfl) (mc rfl (fun _ v Φx D w1 hq hw => Kn.of (fun k hk o ho => hq.2.1 k o ((hq.1.r (i := 2) rfl) k hk) ((fun _ _ _ h => h) k hk o ho)) (AllIn.mem ⟨gM 0 rfl, gM 1 rfl, trivial⟩) hw) (k_call (js := [0]) (R := [D3, ob u1, ob v3]) Fun_130 rfl rfl (fun w1 hw ap hl => m_s_l9Draw_ok hw.fro N (⟨p0.b, x2.2.i, x2.2.h⟩ : Tl1Cur) x3 ph0_0 h4 (ap.o pa0_0) ap.nd hl hx4)) rfl (fun v5 Φ_6 F4 q5 => ?_))
  obtain ⟨ap3, fr5, v6, D4, v7, v8, D5, rfl, rfl, h5, h6, h7, e3, h8⟩ := q5
  replace ph0_0 := ph0_0.frame RI.lasts fr5 (ap3.o pa0_0)
  replace h3 := h3.frame RS.lasts fr5 (ap3.r (i := 2) rfl) (Dj.nil _)
  replace k2 := k2.frame OTRule.lasts fr5 (ap3.r (i := 1) rfl) (ap3.r (i := 0) rfl)
  have rc3 : RC OTRule 5 Φ_6 ([(ob v6 ++ D4) ++ ((ob v7 ++ []) ++ ((ob v8 ++ D5)))] : List (List Nat)) [.string x4.1.Name, .int .i64 x4.1.Sal, v6, v7, v8] ([x4.1] : List TRule) := RC.cons (c := [.string x4.1.Name, .int .i64 x4.1.Sal, v6, v7, v8]) (cells := []) ⟨v6, D4, v7, v8, D5, rfl, rfl, h5, h6, h7⟩ rfl (RC.nil _ _ _)
  refine WM.one 8 (by kernel_rfl) (me rfl (fun _ v Φx D w1 hq hw => Kn.of (fun k hk o ho => hq.1 k o (by simp) ((fun k hk o ho => fr5 k o ((ap3.r (i := 2) rfl) k hk) ((fun _ _ _ h => h) k hk o ho)) k hk o ho)) (AllIn.mem ⟨gM 0 rfl, gM 1 rfl, trivial⟩) hw) (e_lit (vs := [(0, .agg [.string x4.1.Name, .int .i64 x4.1.Sal, v6, v7, v8].toArray)]) (C := #[.string x4.1.Name, .int .i64 x4.1.Sal, v6, v7, v8]) OTRule.lasts Sl_24 Zr_66 rfl rfl rfl rfl (fill_made MC_66_1 (fill_cons (cells := [.string ⟨#[]⟩, .int .i64 0, .slice none 0 0, .slice none 0 0, .slice none 0 0]) (c := [.string x4.1.Name, .int .i64 x4.1.Sal, v6, v7, v8]) (C' := [.string x4.1.Name, .int .i64 x4.1.Sal, v6, v7, v8]) rfl rfl rfl rfl rfl (fill_nil))) rfl rc3 rfl (RC.kn OTRule.knows rc3)) rfl (fun v9 Φ_7 D6 q6 => ?_))
  obtain ⟨fr6, h9⟩ := q6
  replace h9 : OSl OTRule 66 5 Φ_7 ((ob v6 ++ D4) ++ ((ob v7 ++ []) ++ ((ob v8 ++ D5)))) v9 ([x4.1] : List TRule) := by simpa [List.append_assoc] using h9
  replace ph0_0 := ph0_0.frame RI.lasts fr6 (Dj.empty _)
  replace h3 := h3.frame RS.lasts fr6 (Dj.empty _) (Dj.empty _)
  replace k2 := k2.frame OTRule.lasts fr6 (Dj.empty _) (Dj.empty _)
  replace h8 := fr6 _ _ (by simp) h8
  refine WM.conv (S' := St w0 Φ_7 [(b_2, .cells #[.string x1.1, u1] 26 (0, 0)), (b_1, .cells #[.string (⟨#[]⟩ : ByteArray), .slice none 0 0] 26 (0, 0))] [((ob v6 ++ D4) ++ ((ob v7 ++ []) ++ ((ob v8 ++ D5)))), ob v9, [pb0], D3, ob u1, ob v3]) (fun w1 hw => hw.merge (js := [1, 1, 1, 1, 1]) rfl (SP.eq (by simp [List.append_assoc, ob_nil]))) ?_
  obtain ⟨x5, hx5, h⟩ := bind_some h
  refine WM.one 9 (by kernel_rfl) (me rfl (fun _ v Φx D w1 hq hw => Kn.of (fun k hk o ho => hq.1.2 k o ((hq.1.1.r (i := 4) rfl) k hk) ((fun k hk o ho => fr6 k o (by simp) ((fun k hk o ho => fr5 k o ((ap3.r (i := 2) rfl) k hk) ((fun _ _ _ h => h) k hk o ho)) k hk o ho)) k hk o ho)) (AllIn.mem ⟨gM 0 rfl, gM 1 rfl, trivial⟩) hw) (e_appO OTRule.lasts OTRule.one Sl_24 Ei_66 rfl rfl rfl rfl rfl (js := [4]) (Rr := [((ob v6 ++ D4) ++ ((ob v7 ++ []) ++ ((ob v8 ++ D5)))), ob v9, [pb0], D3, ob v3]) rfl k2 h9 (fun ap => (ap.r (i := 3) rfl)) (fun ap => (ap.r (i := 0) rfl)) hx5) rfl (fun v10 Φ_8 D7 q7 => ?_))
  obtain ⟨⟨ap4, fr7⟩, h10⟩ := q7
  replace ph0_0 := ph0_0.frame RI.lasts fr7 (ap4.o pa0_0)
  replace h3 := h3.frame RS.lasts fr7 (ap4.r (i := 4) rfl) (Dj.nil _)
  replace h8 := fr7 _ _ ((ap4.r (i := 2) rfl) _ (by simp)) h8
  refine WM.conv (S' := St w0 Φ_8 [(b_2, .cells #[.string x1.1, u1] 26 (0, 0)), (b_1, .cells #[.string (⟨#[]⟩ : ByteArray), .slice none 0 0] 26 (0, 0))] [(D3 ++ ((ob v6 ++ D4) ++ ((ob v7 ++ []) ++ ((ob v8 ++ D5))))), ob v10, ob v9, [pb0], ob v3]) (fun w1 hw => hw.merge (js := [4, 1]) rfl (SP.eq (by simp))) <| mq 10 rfl (by kernel_rfl) (fun w1 hw => Kn.of (fun k hk o ho => fr7 k o ((ap4.r (i := 4) rfl) k hk) ((fun k hk o ho => fr6 k o (by simp) ((fun k hk o ho => fr5 k o ((ap3.r (i := 2) rfl) k hk) ((fun _ _ _ h => h) k hk o ho)) k hk o ho)) k hk o ho)) (AllIn.mem ⟨gM 0 rfl, gM 1 rfl, trivial⟩) hw) (q_fieldAddr Fld_26_1 rfl) rfl ?_
  refine WM.one 11 (by kernel_rfl) (ms rfl (fun hc => by cases hc) (s_store (i := 0) (vs := [v10]) (C' := [.string x1.1, v10]) (O' := [(b_2, .cells #[.string x1.1, v10] 26 (0, 0)), (b_1, .cells #[.string (⟨#[]⟩ : ByteArray), .slice none 0 0] 26 (0, 0))]) Sz_24 rfl rfl rfl (one_cells h10.one) rfl rfl ⟨h10.one, trivial⟩ rfl rfl) rfl ?_)
  refine WM.nil (by kernel_rfl) <| WT.inBlock <| WT.region <| lq (q_move rfl) rfl <| lq (q_add rfl rfl) rfl <| lq (q_assign rfl) rfl <| WL.nil ?_
  refine WT.inLoop (WT.mono (l' := [(0, .pointer (some ⟨pb0, 0, none⟩)), (2, .pointer (some ⟨b_1, 0, none⟩)), (3, .pointer (some ⟨b_2, 0, none⟩)), (4, v3), (5, .int .i64 (IntKind.i64.wrap (s2 + 1)))]) (S' := St w0 Φ_8 [(b_2, .cells #[.string x1.1, v10] 26 (0, 0)), (b_1, .cells #[.string (⟨#[]⟩ : ByteArray), .slice none 0 0] 26 (0, 0))] [(D3 ++ ((ob v6 ++ D4) ++ ((ob v7 ++ []) ++ ((ob v8 ++ D5))))), ob v10, ob v3, [pb0]]) ⟨rfl, rfl, rfl, rfl, rfl, trivial⟩ (fun w1 hw => (hw.sel (js := [0, 0, 2, 1]) rfl).selO (js := [0, 0]) rfl) ?_)
  exact ih1 (Φ_8, x5, v10, (D3 ++ ((ob v6 ++ D4) ++ ((ob v7 ++ []) ++ ((ob v8 ++ D5))))), IntKind.i64.wrap (s2 + 1), x4.2.i, x4.2.h) ⟨h, h3, h10, h8, ph0_0⟩
 replace h := ite_f h c2
 refine WT.exit rfl <| WT.seq <| WT.region <| lq (q_loadN Tn_26 rfl (fun w1 hw => hw.rgO (i := 0) rfl 0 2 [.string x1.1, u1] rfl) rfl) rfl <| ls (s_store (i := 1) (vs := [.string x1.1, u1]) (C' := [.string x1.1, u1]) (O' := [(b_2, .cells #[.string x1.1, u1] 26 (0, 0)), (b_1, .cells #[.string x1.1, u1] 26 (0, 0))]) Sz_26 rfl rfl rfl rfl rfl rfl ⟨rfl, k2.one, trivial⟩ rfl rfl) rfl <| WL.nil ?_
 refine WT.ret Try.func76 (resOk.one (rv_cell Tn_26 rfl (fun w1 hw => hw.rgO (i := 1) rfl 0 2 [.string x1.1, u1] rfl) rfl)) (fun w1 hw => ?_)
 subst hb0
 cases h
 refine postG_of_St (js := [2, 1, 0]) hw rfl ⟨u1, D3, rfl, rfl, k2, rfl, h4⟩
theorem m_s_l11Match_ok {Φ : Hp} {w : World} (hΦ : In Φ w) (N : Nat) (p0 : Tl1Cur) {pv0_0 : Value} {pG0_0 : List Nat} {pb0 : Nat} (ph0_0 : RSl (RI .u8) 1 Φ pG0_0 pv0_0 p0.b) (pp0 : Φ pb0 = some (.cells #[pv0_0, .int .i64 p0.i, .int .i64 p0.h] 195 (0, 0))) (pd0_0 : Dj pG0_0 [[pb0]].flatten) (hB : [[pb0]].flatten.Nodup) (hlt : ∀ k ∈ [[pb0]].flatten, k < w.heap.size) {r : TMatch × Tl1Cur} (h : m_s_l11Match N p0 = some r) :
  Calls Try.prog 77 [.pointer (some ⟨pb0, 0, none⟩)].toArray w (PostG Φ w [[pb0]].flatten (fun Φ' Fs v => ∃ (sr_0_0 : Value) (sr_0_1 : Value), v = .agg [.int .i64 r.1.Rule, sr_0_0, sr_0_1].toArray ∧ Fs = [ob sr_0_0, ob sr_0_1, [pb0]] ∧ OSl (RI .i64) 3 1 Φ' [] sr_0_0 r.1.Ids ∧ OSl RTBind 142 4 Φ' [] sr_0_1 r.1.Binds ∧ r.2.b = p0.b ∧ Φ' pb0 = some (.cells #[pv0_0, .int .i64 r.2.i, .int .i64 r.2.h] 195 (0, 0)))) := by
 refine enter Try.func77 rfl Try.ntmps77 rfl (St.start hΦ [[pb0]] hB hlt) ?_
 have pa0_0 : Old ⟨w, [[pb0]].flatten, Φ⟩ pG0_0 := Old.mk hΦ ph0_0.kn pd0_0
 revert pa0_0
 generalize hb0 : (⟨w, [[pb0]].flatten, Φ⟩ : Base) = w0
 intro pa0_0
 unfold m_s_l11Match at h
 refine WT.seq <| WT.region ?_
 refine ln (n_alloc (C := #[.int .i64 0, .slice none 0 0, .slice none 0 0]) Zr_30 rfl) rfl (fun b_1 => ?_)
 refine WL.nil <| WT.seq <| WT.region <| lq (q_move rfl) rfl ?_
 obtain ⟨x1, hx1, h⟩ := bind_some h
 refine lc (k_call (js := [0]) (R := []) Fun_92 rfl rfl (fun w1 hw ap hl => m_s_l1Below_ok hw.fro N p0 3 ph0_0 pp0 (ap.o pa0_0) ap.nd hl hx1)) rfl (fun v1 Φ_1 F1 q1 => ?_)
 obtain ⟨ap1, fr1, rfl, rfl, e1, h1⟩ := q1
 replace ph0_0 := ph0_0.frame RI.lasts fr1 (ap1.o pa0_0)
 refine lq (q_build (vs := [(0, .int .i64 x1.1)]) (C := #[.int .i64 x1.1, .slice none 0 0, .slice none 0 0]) Pl_30 Zr_30 rfl (fill_cons (cells := [.int .i64 0, .slice none 0 0, .slice none 0 0]) (c := [.int .i64 x1.1]) (C' := [.int .i64 x1.1, .slice none 0 0, .slice none 0 0]) rfl rfl rfl rfl rfl (fill_nil))) rfl ?_
 refine ln (n_alloc (C := #[.int .i64 0, .slice none 0 0, .slice none 0 0]) Zr_30 rfl) rfl (fun b_2 => ?_)
 refine ls (s_store (i := 0) (vs := [.int .i64 x1.1, .slice none 0 0, .slice none 0 0]) (C' := [.int .i64 x1.1, .slice none 0 0, .slice none 0 0]) (O' := [(b_2, .cells #[.int .i64 x1.1, .slice none 0 0, .slice none 0 0] 30 (0, 0)), (b_1, .cells #[.int .i64 0, .slice none 0 0, .slice none 0 0] 30 (0, 0))]) Sz_30 rfl rfl rfl rfl rfl rfl ⟨rfl, rfl, rfl, trivial⟩ rfl rfl) rfl <| WL.nil <| WT.seq <| WT.seq <| WT.region <| lq (q_move rfl) rfl ?_
 obtain ⟨x2, hx2, h⟩ := bind_some h
 refine lc (k_call (js := [0]) (R := []) Fun_92 rfl rfl (fun w1 hw ap hl => m_s_l1Below_ok hw.fro N (⟨p0.b, x1.2.i, x1.2.h⟩ : Tl1Cur) 4 ph0_0 h1 (ap.o pa0_0) ap.nd hl hx2)) rfl (fun v2 Φ_2 F2 q2 => ?_)
 obtain ⟨ap2, fr2, rfl, rfl, e2, h2⟩ := q2
 replace ph0_0 := ph0_0.frame RI.lasts fr2 (ap2.o pa0_0)
 refine lq (q_assign rfl) rfl <| WL.nil <| WT.block <| WT.loop <| WT.conv (S' := St w0 Φ_2 [(b_2, .cells #[.int .i64 x1.1, .slice none 0 0, .slice none 0 0] 30 (0, 0)), (b_1, .cells #[.int .i64 0, .slice none 0 0, .slice none 0 0] 30 (0, 0))] (ob (.slice none 0 0) :: [[pb0]])) (fun w1 hw => hw.addNil) ?_
 have k1 := OSl.nil (RI .i64) 3 1 Φ_2
 refine WT.mono (l' := [(0, .pointer (some ⟨pb0, 0, none⟩)), (2, .pointer (some ⟨b_1, 0, none⟩)), (3, .pointer (some ⟨b_2, 0, none⟩)), (4, .int .i64 x2.1)]) (S' := St w0 Φ_2 [(b_2, .cells #[.int .i64 x1.1, (.slice none 0 0), .slice none 0 0] 30 (0, 0)), (b_1, .cells #[.int .i64 0, .slice none 0 0, .slice none 0 0] 30 (0, 0))] [ob (.slice none 0 0), [pb0]]) ⟨rfl, rfl, rfl, rfl, trivial⟩ (fun w1 hw => (hw.sel (js := [0, 0]) rfl).selO (js := [0, 0]) rfl) ?_
 refine loop_ind (σ := Hp × (List Int) × Value × Int × Int × Int) (fun s => [(0, .pointer (some ⟨pb0, 0, none⟩)), (2, .pointer (some ⟨b_1, 0, none⟩)), (3, .pointer (some ⟨b_2, 0, none⟩)), (4, .int .i64 s.2.2.2.1)]) (fun s => St w0 s.1 [(b_2, .cells #[.int .i64 x1.1, s.2.2.1, .slice none 0 0] 30 (0, 0)), (b_1, .cells #[.int .i64 0, .slice none 0 0, .slice none 0 0] 30 (0, 0))] [ob s.2.2.1, [pb0]]) (fun m s => m_s_l11Match_l1 N p0 x1 m s.2.1 s.2.2.2.1 s.2.2.2.2.1 s.2.2.2.2.2 = some r ∧ (OSl (RI .i64) 3 1 s.1 [] s.2.2.1 s.2.1) ∧ (s.1 pb0 = some (.cells #[pv0_0, .int .i64 s.2.2.2.2.1, .int .i64 s.2.2.2.2.2] 195 (0, 0))) ∧ (RSl (RI .u8) 1 s.1 pG0_0 pv0_0 p0.b)) (fun s hm => none_ne (show (none : Option (TMatch × Tl1Cur)) = some r from hm.1)) (fun n1 ih1 s hm => ?_) N (Φ_2, ([] : List Int), (.slice none 0 0), x2.1, x2.2.i, x2.2.h) ⟨h, k1, h2, ph0_0⟩
 obtain ⟨Φ_3, s1, u1, s2, s3, s4⟩ := s
 obtain ⟨h, k2, k3, ph0_0⟩ := hm
 replace h : m_s_l11Match_l1 N p0 x1 (n1 + 1) s1 s2 s3 s4 = some r := h
 replace k2 : OSl (RI .i64) 3 1 Φ_3 [] u1 s1 := k2
 replace k3 : Φ_3 pb0 = some (.cells #[pv0_0, .int .i64 s3, .int .i64 s4] 195 (0, 0)) := k3
 replace ph0_0 : RSl (RI .u8) 1 Φ_3 pG0_0 pv0_0 p0.b := ph0_0
 show WT _ _ [(0, .pointer (some ⟨pb0, 0, none⟩)), (2, .pointer (some ⟨b_1, 0, none⟩)), (3, .pointer (some ⟨b_2, 0, none⟩)), (4, .int .i64 s2)] (St w0 Φ_3 [(b_2, .cells #[.int .i64 x1.1, u1, .slice none 0 0] 30 (0, 0)), (b_1, .cells #[.int .i64 0, .slice none 0 0, .slice none 0 0] 30 (0, 0))] [ob u1, [pb0]])
 unfold m_s_l11Match_l1 at h
 refine WT.seq <| WT.seq <| WT.region <| lq (q_move rfl) rfl <| lq (q_gtr rfl rfl) rfl <| WL.nil ?_
 refine WT.cond rfl (fun c1 => ?_) (fun c1 => ?_)
 ·replace h := ite_t h c1
  refine WT.skip <| WT.seq <| WT.block <| WT.mix (Kn Φ_3 [] [(b_2, .cells #[.int .i64 x1.1, u1, .slice none 0 0] 30 (0, 0)), (b_1, .cells #[.int .i64 0, .slice none 0 0, .slice none 0 0] 30 (0, 0))]) (fun i => match i with | 8 => false | _ => true) mixed (fun _ h => h.drew) <| mq 0 rfl (by kernel_rfl) (fun w1 hw => Kn.of (fun k hk _ _ => by simp at hk) (AllIn.mem ⟨gM 0 rfl, gM 1 rfl, trivial⟩) hw) (q_fieldAddr Fld_30_1 rfl) rfl ?_
  refine mq 1 rfl (by kernel_rfl) (fun w1 hw => Kn.of (fun k hk _ _ => by simp at hk) (AllIn.mem ⟨gM 0 rfl, gM 1 rfl, trivial⟩) hw) (q_load1 T1_27 rfl (fun w1 hw => hw.rgO (i := 0) rfl 1 1 [u1] rfl)) rfl <| mq 2 rfl (by kernel_rfl) (fun w1 hw => Kn.of (fun k hk _ _ => by simp at hk) (AllIn.mem ⟨gM 0 rfl, gM 1 rfl, trivial⟩) hw) (q_move rfl) rfl ?_
  obtain ⟨x3, hx3, h⟩ := bind_some h
  refine WM.one 3 (by kernel_rfl) (mc rfl (fun _ v Φx D w1 hq hw => Kn.of (fun k hk _ _ => by simp at hk) (AllIn.mem ⟨gM 0 rfl, gM 1 rfl, trivial⟩) hw) (k_call (js := [1]) (R := [ob u1]) Fun_92 rfl rfl (fun w1 hw ap hl => m_s_l1Below_ok hw.fro N (⟨p0.b, s3, s4⟩ : Tl1Cur) 3 ph0_0 k3 (ap.o pa0_0) ap.nd hl hx3)) rfl (fun v3 Φ_4 F3 q3 => ?_))
  obtain ⟨ap3, fr3, rfl, rfl, e3, h3⟩ := q3
  replace ph0_0 := ph0_0.frame RI.lasts fr3 (ap3.o pa0_0)
  replace k2 := k2.frame RI.lasts fr3 (ap3.r (i := 0) rfl) (Dj.nil _)
  refine mq 4 rfl (by kernel_rfl) (fun w1 hw => Kn.of (fun k hk _ _ => by simp at hk) (AllIn.mem ⟨gM 0 rfl, gM 1 rfl, trivial⟩) hw) (q_add rfl rfl) rfl ?_
  have rc1 : RC (RI .i64) 1 Φ_4 ([[]] : List (List Nat)) [.int .i64 (IntKind.i64.wrap (1 + x3.1))] ([IntKind.i64.wrap (1 + x3.1)] : List Int) := RC.cons (c := [.int .i64 (IntKind.i64.wrap (1 + x3.1))]) (cells := []) ⟨rfl, rfl⟩ rfl (RC.nil _ _ _)
  refine WM.one 5 (by kernel_rfl) (me rfl (fun _ v Φx D w1 hq hw => Kn.of (fun k hk _ _ => by simp at hk) (AllIn.mem ⟨gM 0 rfl, gM 1 rfl, trivial⟩) hw) (e_lit (vs := [(0, .int .i64 (IntKind.i64.wrap (1 + x3.1)))]) (C := #[.int .i64 (IntKind.i64.wrap (1 + x3.1))]) RI.lasts Sl_27 Zr_3 rfl rfl rfl rfl (fill_made MC_3_1 (fill_cons (cells := [.int .i64 0]) (c := [.int .i64 (IntKind.i64.wrap (1 + x3.1))]) (C' := [.int .i64 (IntKind.i64.wrap (1 + x3.1))]) rfl rfl rfl rfl rfl (fill_nil))) rfl rc1 rfl (by simpa using Kw.nil)) rfl (fun v4 Φ_5 D1 q4 => ?_))
  obtain ⟨fr4, h4⟩ := q4
  replace h4 : OSl (RI .i64) 3 1 Φ_5 [] v4 ([IntKind.i64.wrap (1 + x3.1)] : List Int) := by simpa using h4
  replace ph0_0 := ph0_0.frame RI.lasts fr4 (Dj.empty _)
  replace k2 := k2.frame RI.lasts fr4 (Dj.empty _) (Dj.empty _)
  replace h3 := fr4 _ _ (by simp) h3
  obtain ⟨x4, hx4, h⟩ := bind_some h
  refine WM.one 6 (by kernel_rfl) (me rfl (fun _ v Φx D w1 hq hw => Kn.of (fun k hk _ _ => by simp at hk) (AllIn.mem ⟨gM 0 rfl, gM 1 rfl, trivial⟩) hw) (e_appF RI.lasts RI.one RI.flat Sl_27 Ei_3 rfl rfl rfl rfl rfl (js := [2]) (Rr := [ob v4, [pb0]]) rfl k2 h4.rsl hx4) rfl (fun v5 Φ_6 D2 q5 => ?_))
  obtain ⟨⟨ap4, fr5⟩, h5⟩ := q5
  replace ph0_0 := ph0_0.frame RI.lasts fr5 (ap4.o pa0_0)
  replace h3 := fr5 _ _ ((ap4.r (i := 1) rfl) _ (by simp)) h3
  refine mq 7 rfl (by kernel_rfl) (fun w1 hw => Kn.of (fun k hk _ _ => by simp at hk) (AllIn.mem ⟨gM 0 rfl, gM 1 rfl, trivial⟩) hw) (q_fieldAddr Fld_30_1 rfl) rfl ?_
  refine WM.one 8 (by kernel_rfl) (ms rfl (fun hc => by cases hc) (s_store (i := 0) (vs := [v5]) (C' := [.int .i64 x1.1, v5, .slice none 0 0]) (O' := [(b_2, .cells #[.int .i64 x1.1, v5, .slice none 0 0] 30 (0, 0)), (b_1, .cells #[.int .i64 0, .slice none 0 0, .slice none 0 0] 30 (0, 0))]) Sz_27 rfl rfl rfl (one_cells h5.one) rfl rfl ⟨h5.one, trivial⟩ rfl rfl) rfl ?_)
  refine WM.nil (by kernel_rfl) <| WT.inBlock <| WT.region <| lq (q_move rfl) rfl <| lq (q_sub rfl rfl) rfl <| lq (q_assign rfl) rfl <| WL.nil ?_
  refine WT.inLoop (WT.mono (l' := [(0, .pointer (some ⟨pb0, 0, none⟩)), (2, .pointer (some ⟨b_1, 0, none⟩)), (3, .pointer (some ⟨b_2, 0, none⟩)), (4, .int .i64 (IntKind.i64.wrap (s2 - 1)))]) (S' := St w0 Φ_6 [(b_2, .cells #[.int .i64 x1.1, v5, .slice none 0 0] 30 (0, 0)), (b_1, .cells #[.int .i64 0, .slice none 0 0, .slice none 0 0] 30 (0, 0))] [ob v5, [pb0]]) ⟨rfl, rfl, rfl, rfl, trivial⟩ (fun w1 hw => (hw.sel (js := [0, 1]) rfl).selO (js := [0, 0]) rfl) ?_)
  exact ih1 (Φ_6, x4, v5, IntKind.i64.wrap (s2 - 1), x3.2.i, x3.2.h) ⟨h, h5, h3, ph0_0⟩
 replace h := ite_f h c1
 refine WT.exit rfl <| WT.seq <| WT.region <| lq (q_loadN Tn_30 rfl (fun w1 hw => hw.rgO (i := 0) rfl 0 3 [.int .i64 x1.1, u1, .slice none 0 0] rfl) rfl) rfl <| ls (s_store (i := 1) (vs := [.int .i64 x1.1, u1, .slice none 0 0]) (C' := [.int .i64 x1.1, u1, .slice none 0 0]) (O' := [(b_2, .cells #[.int .i64 x1.1, u1, .slice none 0 0] 30 (0, 0)), (b_1, .cells #[.int .i64 x1.1, u1, .slice none 0 0] 30 (0, 0))]) Sz_30 rfl rfl rfl rfl rfl rfl ⟨rfl, k2.one, rfl, trivial⟩ rfl rfl) rfl ?_
 refine WL.nil ?_
 refine WT.ret Try.func77 (resOk.one (rv_cell Tn_30 rfl (fun w1 hw => hw.rgO (i := 1) rfl 0 3 [.int .i64 x1.1, u1, .slice none 0 0] rfl) rfl)) (fun w1 hw => ?_)
 subst hb0
 cases h
 replace hw := hw.addNil
 refine postG_of_St (js := [1, 0, 0]) hw rfl ⟨u1, .slice none 0 0, rfl, rfl, k2, OSl.nil _ _ _ _, rfl, k3⟩
theorem m_s_DrawUrgent_ok {Φ : Hp} {w : World} (hΦ : In Φ w) (N : Nat) (p0 : (List Int)) {pv0 : Value} {pG0 : List Nat} (ph0 : RSl (RI .u8) 1 Φ pG0 pv0 p0) {r : TDef × TMatch × TMatch} (h : m_s_DrawUrgent N p0 = some r) :
  Calls Try.prog 13 [pv0].toArray w (PostG Φ w [] (fun Φ' Fs v => ∃ (sr_0_0 : Value) (Dr_0_0 : List Nat) (sr_1_0 : Value) (sr_1_1 : Value) (sr_2_0 : Value) (sr_2_1 : Value), v = .tuple #[.agg [.string r.1.Name, sr_0_0].toArray, .agg [.int .i64 r.2.1.Rule, sr_1_0, sr_1_1].toArray, .agg [.int .i64 r.2.2.Rule, sr_2_0, sr_2_1].toArray] ∧ Fs = [ob sr_0_0, Dr_0_0, ob sr_1_0, ob sr_1_1, ob sr_2_0, ob sr_2_1] ∧ OSl OTRule 66 5 Φ' Dr_0_0 sr_0_0 r.1.Rules ∧ OSl (RI .i64) 3 1 Φ' [] sr_1_0 r.2.1.Ids ∧ OSl RTBind 142 4 Φ' [] sr_1_1 r.2.1.Binds ∧ OSl (RI .i64) 3 1 Φ' [] sr_2_0 r.2.2.Ids ∧ OSl RTBind 142 4 Φ' [] sr_2_1 r.2.2.Binds)) := by
 refine enter Try.func13 rfl Try.ntmps13 rfl (St.start0 hΦ) ?_
 have pa0 : Old ⟨w, [], Φ⟩ pG0 := Old.mk hΦ ph0.kn (Dj.empty _)
 unfold m_s_DrawUrgent at h
 refine WT.seq <| WT.region ?_
 refine ln (n_alloc (C := #[.string (⟨#[]⟩ : ByteArray), .slice none 0 0]) Zr_26 rfl) rfl (fun b_1 => ?_)
 refine ln (n_alloc (C := #[.int .i64 0, .slice none 0 0, .slice none 0 0]) Zr_30 rfl) rfl (fun b_2 => ?_)
 refine ln (n_alloc (C := #[.int .i64 0, .slice none 0 0, .slice none 0 0]) Zr_30 rfl) rfl (fun b_3 => ?_)
 refine WL.nil <| WT.seq <| WT.region <| lq (q_move rfl) rfl ?_
 obtain ⟨x1, hx1, h⟩ := bind_some h
 refine lc (k_call (js := []) (R := []) Fun_75 rfl rfl (fun w1 hw ap hl => m_s_l1New_ok hw.fro N p0 ph0  hx1)) rfl (fun v1 Φ_1 F1 q1 => ?_)
 obtain ⟨ap1, fr1, b_4, v2, G1, rfl, rfl, h1, i1, h2⟩ := q1
 refine lq (q_assign rfl) rfl <| WL.nil <| WT.seq <| WT.region <| lq (q_move rfl) rfl ?_
 obtain ⟨x2, hx2, h⟩ := bind_some h
 refine lc (k_call (js := [0]) (R := []) Fun_76 rfl rfl (fun w1 hw ap hl => m_s_l10Draw_ok hw.fro N x1 h1 h2 (Dj.sub (ap.o pa0) i1) ap.nd hl hx2)) rfl (fun v3 Φ_2 F2 q2 => ?_)
 obtain ⟨ap2, fr2, v4, D1, rfl, rfl, h3, e1, h4⟩ := q2
 replace h1 := h1.frame RI.lasts fr2 (Dj.sub (ap2.o pa0) i1)
 refine lq (q_move rfl) rfl ?_
 obtain ⟨x3, hx3, h⟩ := bind_some h
 refine lc (k_call (js := [2]) (R := [ob v4, D1]) Fun_77 rfl rfl (fun w1 hw ap hl => m_s_l11Match_ok hw.fro N (⟨x1.b, x2.2.i, x2.2.h⟩ : Tl1Cur) h1 h4 (Dj.sub (ap.o pa0) i1) ap.nd hl hx3)) rfl (fun v5 Φ_3 F3 q3 => ?_)
 obtain ⟨ap3, fr3, v6, v7, rfl, rfl, h5, h6, e2, h7⟩ := q3
 replace h1 := h1.frame RI.lasts fr3 (Dj.sub (ap3.o pa0) i1)
 replace h3 := h3.frame OTRule.lasts fr3 (ap3.r (i := 0) rfl) (ap3.r (i := 1) rfl)
 refine lq (q_move rfl) rfl ?_
 obtain ⟨x4, hx4, h⟩ := bind_some h
 refine lc (k_call (js := [2]) (R := [ob v6, ob v7, ob v4, D1]) Fun_77 rfl rfl (fun w1 hw ap hl => m_s_l11Match_ok hw.fro N (⟨x1.b, x3.2.i, x3.2.h⟩ : Tl1Cur) h1 h7 (Dj.sub (ap.o pa0) i1) ap.nd hl hx4)) rfl (fun v8 Φ_4 F4 q4 => ?_)
 obtain ⟨ap4, fr4, v9, v10, rfl, rfl, h8, h9, e3, h10⟩ := q4
 replace h3 := h3.frame OTRule.lasts fr4 (ap4.r (i := 2) rfl) (ap4.r (i := 3) rfl)
 replace h5 := h5.frame RI.lasts fr4 (ap4.r (i := 0) rfl) (Dj.nil _)
 replace h6 := h6.frame RTBind.lasts fr4 (ap4.r (i := 1) rfl) (Dj.nil _)
 refine ls (s_store (i := 2) (vs := [.string x2.1.Name, v4]) (C' := [.string x2.1.Name, v4]) (O' := [(b_3, .cells #[.int .i64 0, .slice none 0 0, .slice none 0 0] 30 (0, 0)), (b_2, .cells #[.int .i64 0, .slice none 0 0, .slice none 0 0] 30 (0, 0)), (b_1, .cells #[.string x2.1.Name, v4] 26 (0, 0))]) Sz_26 rfl rfl rfl rfl rfl rfl ⟨rfl, h3.one, trivial⟩ rfl rfl) rfl <| ls (s_store (i := 1) (vs := [.int .i64 x3.1.Rule, v6, v7]) (C' := [.int .i64 x3.1.Rule, v6, v7]) (O' := [(b_3, .cells #[.int .i64 0, .slice none 0 0, .slice none 0 0] 30 (0, 0)), (b_2, .cells #[.int .i64 x3.1.Rule, v6, v7] 30 (0, 0)), (b_1, .cells #[.string x2.1.Name, v4] 26 (0, 0))]) Sz_30 rfl rfl rfl rfl rfl rfl ⟨rfl, h5.one, h6.one, trivial⟩ rfl rfl) rfl ?_
 refine ls (s_store (i := 0) (vs := [.int .i64 x4.1.Rule, v9, v10]) (C' := [.int .i64 x4.1.Rule, v9, v10]) (O' := [(b_3, .cells #[.int .i64 x4.1.Rule, v9, v10] 30 (0, 0)), (b_2, .cells #[.int .i64 x3.1.Rule, v6, v7] 30 (0, 0)), (b_1, .cells #[.string x2.1.Name, v4] 26 (0, 0))]) Sz_30 rfl rfl rfl rfl rfl rfl ⟨rfl, h8.one, h9.one, trivial⟩ rfl rfl) rfl <| WL.nil ?_
 refine WT.ret Try.func13 (resOk.three (rv_cell Tn_26 rfl (fun w1 hw => hw.rgO (i := 2) rfl 0 2 [.string x2.1.Name, v4] rfl) rfl) (rv_cell Tn_30 rfl (fun w1 hw => hw.rgO (i := 1) rfl 0 3 [.int .i64 x3.1.Rule, v6, v7] rfl) rfl) (rv_cell Tn_30 rfl (fun w1 hw => hw.rgO (i := 0) rfl 0 3 [.int .i64 x4.1.Rule, v9, v10] rfl) rfl)) (fun w1 hw => ?_)
 cases h
 refine postG_of_St (js := [5, 5, 3, 3, 0, 0]) hw rfl ⟨v4, D1, v6, v7, v9, v10, rfl, rfl, h3, h5, h6, h8, h9⟩
theorem m_i_hasRule_ok {Φ : Hp} {w : World} (hΦ : In Φ w) (N : Nat) (p0 : TDef) (p1 : TMatch) {pv0_0 : Value} {pG0_0 : List Nat} {pv1_0 : Value} {pG1_0 : List Nat} {pv1_1 : Value} {pG1_1 : List Nat} (ph0_0 : RSl RTRule 5 Φ pG0_0 pv0_0 p0.Rules) (ph1_0 : RSl (RI .i64) 1 Φ pG1_0 pv1_0 p1.Ids) (ph1_1 : RSl RTBind 4 Φ pG1_1 pv1_1 p1.Binds) {r : Bool} (h : m_i_hasRule N p0 p1 = some r) :
  Calls Try.prog 78 [.agg [.string p0.Name, pv0_0].toArray, .agg [.int .i64 p1.Rule, pv1_0, pv1_1].toArray].toArray w (Post (.bool r) w) := by
 refine enter Try.func78 rfl Try.ntmps78 rfl (St.start0 hΦ) ?_
 unfold m_i_hasRule at h
 refine WT.seq <| WT.region ?_
 refine ln (n_box (C := #[.string p0.Name, pv0_0]) rfl rfl) rfl (fun b_1 => ?_)
 refine ln (n_box (C := #[.int .i64 p1.Rule, pv1_0, pv1_1]) rfl rfl) rfl (fun b_2 => ?_)
 refine lq (q_assign rfl) rfl <| WL.nil <| WT.seq <| WT.region <| lq (q_fieldAddr Fld_30_0 rfl) rfl <| lq (q_load1 T1_3 rfl (fun w1 hw => hw.rgO (i := 0) rfl 0 1 [.int .i64 p1.Rule] rfl)) rfl <| lq (q_geq rfl rfl) rfl <| lq (q_move rfl) rfl ?_
 obtain ⟨b1, hb_1, h⟩ := bind_some h
 refine WL.cutN 7 [(15, .bool b1), (4, .bool false)] ?_ (fun K => ?_)
 rotate_left
 ·refine WL.split (d := 8) rfl (fun c1 => ?_) (fun c1 => ?_)
  ·replace hb_1 := ite_t hb_1 c1
   refine WL.yes rfl rfl <| lq (q_fieldAddr Fld_30_0 rfl) rfl <| WL.yes rfl rfl <| lq (q_load1 T1_3 rfl (fun w1 hw => hw.rgO (i := 0) rfl 0 1 [.int .i64 p1.Rule] rfl)) rfl <| WL.yes rfl rfl <| lq (q_fieldAddr Fld_26_1 rfl) rfl <| WL.yes rfl rfl <| lq (q_load1 T1_24 rfl (fun w1 hw => hw.rgO (i := 1) rfl 1 1 [pv0_0] rfl)) rfl <| WL.yes rfl rfl <| lq (q_lenR Sl_24 rfl rfl ph0_0) rfl <| WL.yes rfl rfl <| lq (q_lss rfl rfl) rfl <| WL.q (q_pick1 rfl rfl) rfl rfl rfl ?_
   cases hb_1
   exact WL.keep (by exact ⟨rfl, rfl, trivial⟩) K
  ·replace hb_1 := ite_f hb_1 c1
   refine WL.no rfl rfl rfl rfl <| WL.no rfl rfl rfl rfl <| WL.no rfl rfl rfl rfl <| WL.no rfl rfl rfl rfl <| WL.no rfl rfl rfl rfl <| WL.no rfl rfl rfl rfl <| WL.q (q_pick0 rfl rfl) rfl rfl rfl ?_
   cases hb_1
   exact WL.keep (by exact ⟨rfl, rfl, trivial⟩) K
 refine lq (q_assign rfl) rfl <| WL.nil ?_
 refine WT.ret Try.func78 (resOk.one rfl) (fun w1 hw => ?_)
 cases h
 exact post_of_St hw
theorem m_cmp_Or_int_ok {Φ : Hp} {w : World} (hΦ : In Φ w) (N : Nat) (p0 : (List Int)) {pv0 : Value} {pG0 : List Nat} (ph0 : RSl (RI .i64) 1 Φ pG0 pv0 p0) {r : Int} (h : m_cmp_Or_int N p0 = some r) :
  Calls Try.prog 190 [pv0].toArray w (Post (.int .i64 r) w) := by
 refine enter Try.func190 rfl Try.ntmps190 rfl (St.start0 hΦ) ?_
 generalize hb0 : (⟨w, [], Φ⟩ : Base) = w0
 unfold m_cmp_Or_int at h
 refine WT.seq <| WT.region <| lq (q_assign rfl) rfl <| WL.nil <| WT.seq <| WT.region <| lq (q_assign rfl) rfl <| WL.nil <| WT.seq <| WT.seq <| WT.region <| lq (q_move rfl) rfl <| lq (q_lenR Sl_27 rfl rfl ph0) rfl <| lq (q_move rfl) rfl <| WL.nil <| WT.block <| WT.loop <| WT.mono (l' := [(3, .int .i64 0), (6, pv0), (7, .int .i64 (p0.length : Int)), (8, .int .i64 0)]) (S' := St w0 Φ [] []) ⟨rfl, rfl, rfl, rfl, trivial⟩ (fun w1 hw => (hw.sel (js := []) rfl).selO (js := []) rfl) ?_
 refine loop_ind (σ := Int) (fun s => [(3, .int .i64 0), (6, pv0), (7, .int .i64 (p0.length : Int)), (8, .int .i64 s)]) (fun s => St w0 Φ [] []) (fun m s => m_cmp_Or_int_l1 N p0 m s = some r) (fun s hm => none_ne (show (none : Option (Int)) = some r from hm)) (fun n1 ih1 s hm => ?_) N (0) h
 revert hm; revert s; intro s1 hm
 have h : m_cmp_Or_int_l1 N p0 (n1 + 1) s1 = some r := hm
 show WT _ _ [(3, .int .i64 0), (6, pv0), (7, .int .i64 (p0.length : Int)), (8, .int .i64 s1)] (St w0 Φ [] [])
 unfold m_cmp_Or_int_l1 at h
 refine WT.seq <| WT.region <| lq (q_lss rfl rfl) rfl <| WL.nil <| WT.seq ?_
 refine WT.cond rfl (fun c1 => ?_) (fun c1 => ?_)
 ·replace h := ite_t h c1
  refine WT.skip <| WT.seq <| WT.block <| WT.seq <| WT.region ?_
  obtain ⟨x1, hx1, h⟩ := bind_some h
  obtain ⟨cs1, F1, -, g1, hb1, hs1, r1⟩ := ph0.el (idx_some hx1).2.2
  obtain ⟨rfl, -⟩ := r1
  refine lq (q_indexAddr Sl_27 rfl rfl ph0 hx1) rfl <| lq (q_load1 T1_3 rfl (fun w1 hw => (g1.of_eq 0 1 rfl rfl : rg _ _ _ [.int .i64 x1]).rangeAt hw.fro)) rfl <| lq (q_assign rfl) rfl <| WL.nil <| WT.seq <| WT.region <| lq (q_move rfl) rfl <| lq (q_move rfl) rfl <| lq (q_neq rfl rfl) rfl <| WL.nil ?_
  refine WT.cond rfl (fun c2 => ?_) (fun c2 => ?_)
  ·replace h := ite_t h c2
   refine WT.seq <| WT.region <| lq (q_move rfl) rfl <| lq (q_assign rfl) rfl <| WL.nil ?_
   refine WT.ret Try.func190 (resOk.one rfl) (fun w1 hw => ?_)
   subst hb0
   cases h
   exact post_of_St hw
  replace h := ite_f h c2
  refine WT.skip <| WT.inBlock <| WT.region <| lq (q_add rfl rfl) rfl <| lq (q_move rfl) rfl <| WL.nil ?_
  refine WT.inLoop (WT.mono (l' := [(3, .int .i64 0), (6, pv0), (7, .int .i64 (p0.length : Int)), (8, .int .i64 (IntKind.i64.wrap (s1 + 1)))]) (S' := St w0 Φ [] []) ⟨rfl, rfl, rfl, rfl, trivial⟩ (fun w1 hw => (hw.sel (js := []) rfl).selO (js := []) rfl) ?_)
  exact ih1 (IntKind.i64.wrap (s1 + 1)) h
 replace h := ite_f h c1
 refine WT.exit rfl <| WT.seq <| WT.region <| lq (q_move rfl) rfl <| lq (q_assign rfl) rfl <| WL.nil ?_
 refine WT.ret Try.func190 (resOk.one rfl) (fun w1 hw => ?_)
 subst hb0
 cases h
 exact post_of_St hw
theorem m_cmp_isNaN_int_ok {Φ : Hp} {w : World} (hΦ : In Φ w) (N : Nat) (p0 : Int)   {r : Bool} (h : m_cmp_isNaN_int N p0 = some r) :
  Calls Try.prog 209 [.int .i64 p0].toArray w (Post (.bool r) w) := by
 refine enter Try.func209 rfl Try.ntmps209 rfl (St.start0 hΦ) ?_
 unfold m_cmp_isNaN_int at h
 refine WT.seq <| WT.region <| lq (q_assign rfl) rfl <| WL.nil <| WT.seq <| WT.region <| lq (q_move rfl) rfl <| lq (q_move rfl) rfl <| lq (q_neq rfl rfl) rfl <| lq (q_assign rfl) rfl <| WL.nil ?_
 refine WT.ret Try.func209 (resOk.one rfl) (fun w1 hw => ?_)
 cases h
 exact post_of_St hw
theorem m_cmp_Compare_int_ok {Φ : Hp} {w : World} (hΦ : In Φ w) (N : Nat) (p0 : Int) (p1 : Int)   {r : Int} (h : m_cmp_Compare_int N p0 p1 = some r) :
  Calls Try.prog 191 [.int .i64 p0, .int .i64 p1].toArray w (Post (.int .i64 r) w) := by
 refine enter Try.func191 rfl Try.ntmps191 rfl (St.start0 hΦ) ?_
 unfold m_cmp_Compare_int at h
 refine WT.seq <| WT.region <| lq (q_assign rfl) rfl <| WL.nil <| WT.seq <| WT.region <| lq (q_move rfl) rfl ?_
 obtain ⟨x1, hx1, h⟩ := bind_some h
 refine lp (p_call Fun_209 rfl (fun w1 hw => m_cmp_isNaN_int_ok hw.fro N p0 hx1)) rfl <| lq (q_assign rfl) rfl <| WL.nil <| WT.seq <| WT.region <| lq (q_move rfl) rfl ?_
 obtain ⟨x2, hx2, h⟩ := bind_some h
 refine lp (p_call Fun_209 rfl (fun w1 hw => m_cmp_isNaN_int_ok hw.fro N p1 hx2)) rfl <| lq (q_assign rfl) rfl <| WL.nil <| WT.seq <| WT.seq <| WT.region <| lq (q_move rfl) rfl <| WL.nil ?_
 refine WT.cond rfl (fun c1 => ?_) (fun c1 => ?_)
 ·replace h := ite_t h c1
  refine WT.seq <| WT.seq <| WT.region <| lq (q_move rfl) rfl <| WL.nil ?_
  refine WT.cond rfl (fun c2 => ?_) (fun c2 => ?_)
  ·replace h := ite_t h c2
   refine WT.seq <| WT.region <| lq (q_assign rfl) rfl <| WL.nil ?_
   refine WT.ret Try.func191 (resOk.one rfl) (fun w1 hw => ?_)
   cases h
   exact post_of_St hw
  replace h := ite_f h c2
  refine WT.skip <| WT.seq <| WT.region <| lq (q_assign rfl) rfl <| WL.nil ?_
  refine WT.ret Try.func191 (resOk.one rfl) (fun w1 hw => ?_)
  cases h
  exact post_of_St hw
 replace h := ite_f h c1
 refine WT.skip <| WT.seq <| WT.seq <| WT.region <| lq (q_move rfl) rfl <| WL.nil ?_
 refine WT.cond rfl (fun c3 => ?_) (fun c3 => ?_)
 ·replace h := ite_t h c3
  refine WT.seq <| WT.region <| lq (q_assign rfl) rfl <| WL.nil ?_
  refine WT.ret Try.func191 (resOk.one rfl) (fun w1 hw => ?_)
  cases h
  exact post_of_St hw
 replace h := ite_f h c3
 refine WT.skip <| WT.seq <| WT.seq <| WT.region <| lq (q_move rfl) rfl <| lq (q_move rfl) rfl <| lq (q_lss rfl rfl) rfl <| WL.nil ?_
 refine WT.cond rfl (fun c4 => ?_) (fun c4 => ?_)
 ·replace h := ite_t h c4
  refine WT.seq <| WT.region <| lq (q_assign rfl) rfl <| WL.nil ?_
  refine WT.ret Try.func191 (resOk.one rfl) (fun w1 hw => ?_)
  cases h
  exact post_of_St hw
 replace h := ite_f h c4
 refine WT.skip <| WT.seq <| WT.seq <| WT.region <| lq (q_move rfl) rfl <| lq (q_move rfl) rfl <| lq (q_gtr rfl rfl) rfl <| WL.nil ?_
 refine WT.cond rfl (fun c5 => ?_) (fun c5 => ?_)
 ·replace h := ite_t h c5
  refine WT.seq <| WT.region <| lq (q_assign rfl) rfl <| WL.nil ?_
  refine WT.ret Try.func191 (resOk.one rfl) (fun w1 hw => ?_)
  cases h
  exact post_of_St hw
 replace h := ite_f h c5
 refine WT.skip <| WT.seq <| WT.region <| lq (q_assign rfl) rfl <| WL.nil ?_
 refine WT.ret Try.func191 (resOk.one rfl) (fun w1 hw => ?_)
 cases h
 exact post_of_St hw
theorem m_sl_Compare_Sint_int_ok {Φ : Hp} {w : World} (hΦ : In Φ w) (N : Nat) (p0 : (List Int)) (p1 : (List Int)) {pv0 : Value} {pG0 : List Nat} {pv1 : Value} {pG1 : List Nat} (ph0 : RSl (RI .i64) 1 Φ pG0 pv0 p0) (ph1 : RSl (RI .i64) 1 Φ pG1 pv1 p1) {r : Int} (h : m_sl_Compare_Sint_int N p0 p1 = some r) :
  Calls Try.prog 192 [pv0, pv1].toArray w (Post (.int .i64 r) w) := by
 refine enter Try.func192 rfl Try.ntmps192 rfl (St.start0 hΦ) ?_
 generalize hb0 : (⟨w, [], Φ⟩ : Base) = w0
 unfold m_sl_Compare_Sint_int at h
 refine WT.seq <| WT.region <| lq (q_assign rfl) rfl <| WL.nil <| WT.seq <| WT.seq <| WT.region <| lq (q_move rfl) rfl <| lq (q_lenR Sl_27 rfl rfl ph0) rfl <| lq (q_move rfl) rfl <| WL.nil <| WT.block <| WT.loop <| WT.mono (l' := [(0, pv0), (1, pv1), (9, pv0), (10, .int .i64 (p0.length : Int)), (11, .int .i64 0)]) (S' := St w0 Φ [] []) ⟨rfl, rfl, rfl, rfl, rfl, trivial⟩ (fun w1 hw => (hw.sel (js := []) rfl).selO (js := []) rfl) ?_
 refine loop_ind (σ := Int) (fun s => [(0, pv0), (1, pv1), (9, pv0), (10, .int .i64 (p0.length : Int)), (11, .int .i64 s)]) (fun s => St w0 Φ [] []) (fun m s => m_sl_Compare_Sint_int_l1 N p0 p1 m s = some r) (fun s hm => none_ne (show (none : Option (Int)) = some r from hm)) (fun n1 ih1 s hm => ?_) N (0) h
 revert hm; revert s; intro s1 hm
 have h : m_sl_Compare_Sint_int_l1 N p0 p1 (n1 + 1) s1 = some r := hm
 show WT _ _ [(0, pv0), (1, pv1), (9, pv0), (10, .int .i64 (p0.length : Int)), (11, .int .i64 s1)] (St w0 Φ [] [])
 unfold m_sl_Compare_Sint_int_l1 at h
 refine WT.seq <| WT.region <| lq (q_lss rfl rfl) rfl <| WL.nil <| WT.seq ?_
 refine WT.cond rfl (fun c1 => ?_) (fun c1 => ?_)
 ·replace h := ite_t h c1
  refine WT.skip <| WT.seq <| WT.block <| WT.seq <| WT.region <| lq (q_move rfl) rfl ?_
  obtain ⟨x1, hx1, h⟩ := bind_some h
  obtain ⟨cs1, F1, -, g1, hb1, hs1, r1⟩ := ph0.el (idx_some hx1).2.2
  obtain ⟨rfl, -⟩ := r1
  refine lq (q_indexAddr Sl_27 rfl rfl ph0 hx1) rfl <| lq (q_load1 T1_3 rfl (fun w1 hw => (g1.of_eq 0 1 rfl rfl : rg _ _ _ [.int .i64 x1]).rangeAt hw.fro)) rfl <| lq (q_assign rfl) rfl <| lq (q_assign rfl) rfl <| WL.nil <| WT.seq <| WT.seq <| WT.region <| lq (q_move rfl) rfl <| lq (q_move rfl) rfl <| lq (q_lenR Sl_27 rfl rfl ph1) rfl <| lq (q_geq rfl rfl) rfl <| WL.nil ?_
  refine WT.cond rfl (fun c2 => ?_) (fun c2 => ?_)
  ·replace h := ite_t h c2
   refine WT.seq <| WT.region <| lq (q_assign rfl) rfl <| WL.nil ?_
   refine WT.ret Try.func192 (resOk.one rfl) (fun w1 hw => ?_)
   subst hb0
   cases h
   exact post_of_St hw
  replace h := ite_f h c2
  refine WT.skip <| WT.seq <| WT.region <| lq (q_move rfl) rfl <| lq (q_move rfl) rfl ?_
  obtain ⟨x2, hx2, h⟩ := bind_some h
  obtain ⟨cs2, F2, -, g2, hb2, hs2, r2⟩ := ph1.el (idx_some hx2).2.2
  obtain ⟨rfl, -⟩ := r2
  refine lq (q_indexAddr Sl_27 rfl rfl ph1 hx2) rfl <| lq (q_load1 T1_3 rfl (fun w1 hw => (g2.of_eq 0 1 rfl rfl : rg _ _ _ [.int .i64 x2]).rangeAt hw.fro)) rfl <| lq (q_assign rfl) rfl <| WL.nil <| WT.seq <| WT.region <| lq (q_move rfl) rfl <| lq (q_move rfl) rfl ?_
  obtain ⟨x3, hx3, h⟩ := bind_some h
  refine lp (p_call Fun_191 rfl (fun w1 hw => m_cmp_Compare_int_ok hw.fro N x1 x2 hx3)) rfl <| lq (q_assign rfl) rfl <| WL.nil <| WT.seq <| WT.region <| lq (q_move rfl) rfl <| lq (q_neq rfl rfl) rfl <| WL.nil ?_
  refine WT.cond rfl (fun c3 => ?_) (fun c3 => ?_)
  ·replace h := ite_t h c3
   refine WT.seq <| WT.region <| lq (q_move rfl) rfl <| lq (q_assign rfl) rfl <| WL.nil ?_
   refine WT.ret Try.func192 (resOk.one rfl) (fun w1 hw => ?_)
   subst hb0
   cases h
   exact post_of_St hw
  replace h := ite_f h c3
  refine WT.skip <| WT.inBlock <| WT.region <| lq (q_add rfl rfl) rfl <| lq (q_move rfl) rfl <| WL.nil ?_
  refine WT.inLoop (WT.mono (l' := [(0, pv0), (1, pv1), (9, pv0), (10, .int .i64 (p0.length : Int)), (11, .int .i64 (IntKind.i64.wrap (s1 + 1)))]) (S' := St w0 Φ [] []) ⟨rfl, rfl, rfl, rfl, rfl, trivial⟩ (fun w1 hw => (hw.sel (js := []) rfl).selO (js := []) rfl) ?_)
  exact ih1 (IntKind.i64.wrap (s1 + 1)) h
 replace h := ite_f h c1
 refine WT.exit rfl <| WT.seq <| WT.seq <| WT.region <| lq (q_move rfl) rfl <| lq (q_lenR Sl_27 rfl rfl ph0) rfl <| lq (q_move rfl) rfl <| lq (q_lenR Sl_27 rfl rfl ph1) rfl <| lq (q_lss rfl rfl) rfl <| WL.nil ?_
 refine WT.cond rfl (fun c4 => ?_) (fun c4 => ?_)
 ·replace h := ite_t h c4
  refine WT.seq <| WT.region <| lq (q_assign rfl) rfl <| WL.nil ?_
  refine WT.ret Try.func192 (resOk.one rfl) (fun w1 hw => ?_)
  subst hb0
  cases h
  exact post_of_St hw
 replace h := ite_f h c4
 refine WT.skip <| WT.seq <| WT.region <| lq (q_assign rfl) rfl <| WL.nil ?_
 refine WT.ret Try.func192 (resOk.one rfl) (fun w1 hw => ?_)
 subst hb0
 cases h
 exact post_of_St hw
theorem m_i_compareMatches_ok {Φ : Hp} {w : World} (hΦ : In Φ w) (N : Nat) (p0 : TMatch) (p1 : TMatch) {pv0_0 : Value} {pG0_0 : List Nat} {pv0_1 : Value} {pG0_1 : List Nat} {pv1_0 : Value} {pG1_0 : List Nat} {pv1_1 : Value} {pG1_1 : List Nat} (ph0_0 : RSl (RI .i64) 1 Φ pG0_0 pv0_0 p0.Ids) (ph0_1 : RSl RTBind 4 Φ pG0_1 pv0_1 p0.Binds) (ph1_0 : RSl (RI .i64) 1 Φ pG1_0 pv1_0 p1.Ids) (ph1_1 : RSl RTBind 4 Φ pG1_1 pv1_1 p1.Binds) {r : Int} (h : m_i_compareMatches N p0 p1 = some r) :
  Calls Try.prog 152 [.agg [.int .i64 p0.Rule, pv0_0, pv0_1].toArray, .agg [.int .i64 p1.Rule, pv1_0, pv1_1].toArray].toArray w (Post (.int .i64 r) w) := by
 refine enter Try.func152 rfl Try.ntmps152 rfl (St.start0 hΦ) ?_
 unfold m_i_compareMatches at h
 refine WT.seq <| WT.region ?_
 refine ln (n_box (C := #[.int .i64 p0.Rule, pv0_0, pv0_1]) rfl rfl) rfl (fun b_1 => ?_)
 refine ln (n_box (C := #[.int .i64 p1.Rule, pv1_0, pv1_1]) rfl rfl) rfl (fun b_2 => ?_)
 refine lq (q_assign rfl) rfl <| WL.nil <| WT.seq <| WT.mix (Kn Φ [] [(b_2, .cells #[.int .i64 p1.Rule, pv1_0, pv1_1] 30 (0, 0)), (b_1, .cells #[.int .i64 p0.Rule, pv0_0, pv0_1] 30 (0, 0))]) (fun _ => true) mixed (fun _ h => h.drew) <| mq 0 rfl (by kernel_rfl) (fun w1 hw => Kn.of (fun k hk _ _ => by simp at hk) (AllIn.mem ⟨gM 0 rfl, gM 1 rfl, trivial⟩) hw) (q_fieldAddr Fld_30_0 rfl) rfl ?_
 refine mq 1 rfl (by kernel_rfl) (fun w1 hw => Kn.of (fun k hk _ _ => by simp at hk) (AllIn.mem ⟨gM 0 rfl, gM 1 rfl, trivial⟩) hw) (q_load1 T1_3 rfl (fun w1 hw => hw.rgO (i := 1) rfl 0 1 [.int .i64 p0.Rule] rfl)) rfl <| mq 2 rfl (by kernel_rfl) (fun w1 hw => Kn.of (fun k hk _ _ => by simp at hk) (AllIn.mem ⟨gM 0 rfl, gM 1 rfl, trivial⟩) hw) (q_fieldAddr Fld_30_0 rfl) rfl ?_
 refine mq 3 rfl (by kernel_rfl) (fun w1 hw => Kn.of (fun k hk _ _ => by simp at hk) (AllIn.mem ⟨gM 0 rfl, gM 1 rfl, trivial⟩) hw) (q_load1 T1_3 rfl (fun w1 hw => hw.rgO (i := 0) rfl 0 1 [.int .i64 p1.Rule] rfl)) rfl <| mq 5 rfl (by kernel_rfl) (fun w1 hw => Kn.of (fun k hk _ _ => by simp at hk) (AllIn.mem ⟨gM 0 rfl, gM 1 rfl, trivial⟩) hw) (q_fieldAddr Fld_30_1 rfl) rfl ?_
 refine mq 6 rfl (by kernel_rfl) (fun w1 hw => Kn.of (fun k hk _ _ => by simp at hk) (AllIn.mem ⟨gM 0 rfl, gM 1 rfl, trivial⟩) hw) (q_load1 T1_27 rfl (fun w1 hw => hw.rgO (i := 1) rfl 1 1 [pv0_0] rfl)) rfl <| mq 7 rfl (by kernel_rfl) (fun w1 hw => Kn.of (fun k hk _ _ => by simp at hk) (AllIn.mem ⟨gM 0 rfl, gM 1 rfl, trivial⟩) hw) (q_lenR Sl_27 rfl rfl ph0_0) rfl ?_
 refine mq 8 rfl (by kernel_rfl) (fun w1 hw => Kn.of (fun k hk _ _ => by simp at hk) (AllIn.mem ⟨gM 0 rfl, gM 1 rfl, trivial⟩) hw) (q_fieldAddr Fld_30_1 rfl) rfl <| mq 9 rfl (by kernel_rfl) (fun w1 hw => Kn.of (fun k hk _ _ => by simp at hk) (AllIn.mem ⟨gM 0 rfl, gM 1 rfl, trivial⟩) hw) (q_load1 T1_27 rfl (fun w1 hw => hw.rgO (i := 0) rfl 1 1 [pv1_0] rfl)) rfl ?_
 refine mq 10 rfl (by kernel_rfl) (fun w1 hw => Kn.of (fun k hk _ _ => by simp at hk) (AllIn.mem ⟨gM 0 rfl, gM 1 rfl, trivial⟩) hw) (q_lenR Sl_27 rfl rfl ph1_0) rfl ?_
 obtain ⟨x1, hx1, h⟩ := bind_some h
 refine WM.one 4 (by kernel_rfl) (mp rfl (fun _ w1 hw => Kn.of (fun k hk _ _ => by simp at hk) (AllIn.mem ⟨gM 0 rfl, gM 1 rfl, trivial⟩) hw) (p_call Fun_191 rfl (fun w1 hw => m_cmp_Compare_int_ok hw.fro N p0.Rule p1.Rule hx1)) rfl ?_)
 obtain ⟨x2, hx2, h⟩ := bind_some h
 refine WM.one 11 (by kernel_rfl) (mp rfl (fun _ w1 hw => Kn.of (fun k hk _ _ => by simp at hk) (AllIn.mem ⟨gM 0 rfl, gM 1 rfl, trivial⟩) hw) (p_call Fun_191 rfl (fun w1 hw => m_cmp_Compare_int_ok hw.fro N (p0.Ids.length : Int) (p1.Ids.length : Int) hx2)) rfl ?_)
 have rc1 : RC (RI .i64) 1 Φ ([[], []] : List (List Nat)) [.int .i64 x1, .int .i64 x2] ([x1, x2] : List Int) := RC.cons (c := [.int .i64 x1]) (cells := [.int .i64 x2]) ⟨rfl, rfl⟩ rfl (RC.cons (c := [.int .i64 x2]) (cells := []) ⟨rfl, rfl⟩ rfl (RC.nil _ _ _))
 refine WM.one 12 (by kernel_rfl) (me rfl (fun _ v Φx D w1 hq hw => Kn.of (fun k hk _ _ => by simp at hk) (AllIn.mem ⟨gM 0 rfl, gM 1 rfl, trivial⟩) hw) (e_lit (vs := [(0, .int .i64 x1), (1, .int .i64 x2)]) (C := #[.int .i64 x1, .int .i64 x2]) RI.lasts Sl_27 Zr_3 rfl rfl rfl rfl (fill_made MC_3_2 (fill_cons (cells := [.int .i64 0, .int .i64 0]) (c := [.int .i64 x1]) (C' := [.int .i64 x1, .int .i64 0]) rfl rfl rfl rfl rfl (fill_cons (cells := [.int .i64 x1, .int .i64 0]) (c := [.int .i64 x2]) (C' := [.int .i64 x1, .int .i64 x2]) rfl rfl rfl rfl rfl (fill_nil)))) rfl rc1 rfl (by simpa using Kw.nil)) rfl (fun v1 Φ_1 D1 q1 => ?_))
 obtain ⟨fr1, h1⟩ := q1
 replace h1 : OSl (RI .i64) 3 1 Φ_1 [] v1 ([x1, x2] : List Int) := by simpa using h1
 replace ph0_0 := ph0_0.frame RI.lasts fr1 (Dj.empty _)
 replace ph0_1 := ph0_1.frame RTBind.lasts fr1 (Dj.empty _)
 replace ph1_0 := ph1_0.frame RI.lasts fr1 (Dj.empty _)
 replace ph1_1 := ph1_1.frame RTBind.lasts fr1 (Dj.empty _)
 obtain ⟨x3, hx3, h⟩ := bind_some h
 refine WM.one 13 (by kernel_rfl) (mp rfl (fun _ w1 hw => Kn.of (fun k hk _ _ => by simp at hk) (AllIn.mem ⟨gM 0 rfl, gM 1 rfl, trivial⟩) hw) (p_call Fun_190 rfl (fun w1 hw => m_cmp_Or_int_ok hw.fro N ([x1, x2] : List Int) h1.rsl hx3)) rfl ?_)
 refine mq 14 rfl (by kernel_rfl) (fun w1 hw => Kn.of (fun k hk _ _ => by simp at hk) (AllIn.mem ⟨gM 0 rfl, gM 1 rfl, trivial⟩) hw) (q_assign rfl) rfl <| WM.nil (by kernel_rfl) <| WT.seq <| WT.seq <| WT.region <| lq (q_move rfl) rfl <| lq (q_eql rfl rfl) rfl <| WL.nil ?_
 refine WT.cond rfl (fun c1 => ?_) (fun c1 => ?_)
 ·replace h := ite_t h c1
  refine WT.region <| lq (q_fieldAddr Fld_30_1 rfl) rfl <| lq (q_load1 T1_27 rfl (fun w1 hw => hw.rgO (i := 1) rfl 1 1 [pv0_0] rfl)) rfl <| lq (q_fieldAddr Fld_30_1 rfl) rfl <| lq (q_load1 T1_27 rfl (fun w1 hw => hw.rgO (i := 0) rfl 1 1 [pv1_0] rfl)) rfl ?_
  obtain ⟨x4, hx4, h⟩ := bind_some h
  refine lp (p_call Fun_192 rfl (fun w1 hw => m_sl_Compare_Sint_int_ok hw.fro N p0.Ids p1.Ids ph0_0 ph1_0 hx4)) rfl <| lq (q_assign rfl) rfl <| WL.nil <| WT.seq <| WT.region <| lq (q_move rfl) rfl <| lq (q_assign rfl) rfl <| WL.nil ?_
  refine WT.ret Try.func152 (resOk.one rfl) (fun w1 hw => ?_)
  cases h
  exact post_of_St hw
 replace h := ite_f h c1
 refine WT.skip <| WT.seq <| WT.region <| lq (q_move rfl) rfl <| lq (q_assign rfl) rfl <| WL.nil ?_
 refine WT.ret Try.func152 (resOk.one rfl) (fun w1 hw => ?_)
 cases h
 exact post_of_St hw
theorem m_i_LessMatch_ok {Φ : Hp} {w : World} (hΦ : In Φ w) (N : Nat) (p0 : TMatch) (p1 : TMatch) {pv0_0 : Value} {pG0_0 : List Nat} {pv0_1 : Value} {pG0_1 : List Nat} {pv1_0 : Value} {pG1_0 : List Nat} {pv1_1 : Value} {pG1_1 : List Nat} (ph0_0 : RSl (RI .i64) 1 Φ pG0_0 pv0_0 p0.Ids) (ph0_1 : RSl RTBind 4 Φ pG0_1 pv0_1 p0.Binds) (ph1_0 : RSl (RI .i64) 1 Φ pG1_0 pv1_0 p1.Ids) (ph1_1 : RSl RTBind 4 Φ pG1_1 pv1_1 p1.Binds) {r : Bool} (h : m_i_LessMatch N p0 p1 = some r) :
  Calls Try.prog 79 [.agg [.int .i64 p0.Rule, pv0_0, pv0_1].toArray, .agg [.int .i64 p1.Rule, pv1_0, pv1_1].toArray].toArray w (Post (.bool r) w) := by
 refine enter Try.func79 rfl Try.ntmps79 rfl (St.start0 hΦ) ?_
 unfold m_i_LessMatch at h
 refine WT.seq <| WT.region ?_
 refine ln (n_box (C := #[.int .i64 p0.Rule, pv0_0, pv0_1]) rfl rfl) rfl (fun b_1 => ?_)
 refine ln (n_box (C := #[.int .i64 p1.Rule, pv1_0, pv1_1]) rfl rfl) rfl (fun b_2 => ?_)
 refine lq (q_assign rfl) rfl <| WL.nil <| WT.seq <| WT.region <| lq (q_loadN Tn_30 rfl (fun w1 hw => hw.rgO (i := 1) rfl 0 3 [.int .i64 p0.Rule, pv0_0, pv0_1] rfl) rfl) rfl <| lq (q_loadN Tn_30 rfl (fun w1 hw => hw.rgO (i := 0) rfl 0 3 [.int .i64 p1.Rule, pv1_0, pv1_1] rfl) rfl) rfl ?_
 obtain ⟨x1, hx1, h⟩ := bind_some h
 refine lp (p_call Fun_152 rfl (fun w1 hw => m_i_compareMatches_ok hw.fro N p0 p1 ph0_0 ph0_1 ph1_0 ph1_1 hx1)) rfl <| lq (q_lss rfl rfl) rfl <| lq (q_assign rfl) rfl <| WL.nil ?_
 refine WT.ret Try.func79 (resOk.one rfl) (fun w1 hw => ?_)
 cases h
 exact post_of_St hw
theorem m_i_Urgent_ok {Φ : Hp} {w : World} (hΦ : In Φ w) (N : Nat) (p0 : TDef) (p1 : TMatch) (p2 : TMatch) {pv0_0 : Value} {pG0_0 : List Nat} {pv1_0 : Value} {pG1_0 : List Nat} {pv1_1 : Value} {pG1_1 : List Nat} {pv2_0 : Value} {pG2_0 : List Nat} {pv2_1 : Value} {pG2_1 : List Nat} (ph0_0 : RSl RTRule 5 Φ pG0_0 pv0_0 p0.Rules) (ph1_0 : RSl (RI .i64) 1 Φ pG1_0 pv1_0 p1.Ids) (ph1_1 : RSl RTBind 4 Φ pG1_1 pv1_1 p1.Binds) (ph2_0 : RSl (RI .i64) 1 Φ pG2_0 pv2_0 p2.Ids) (ph2_1 : RSl RTBind 4 Φ pG2_1 pv2_1 p2.Binds) {r : Bool} (h : m_i_Urgent N p0 p1 p2 = some r) :
  Calls Try.prog 14 [.agg [.string p0.Name, pv0_0].toArray, .agg [.int .i64 p1.Rule, pv1_0, pv1_1].toArray, .agg [.int .i64 p2.Rule, pv2_0, pv2_1].toArray].toArray w (Post (.bool r) w) := by
 refine enter Try.func14 rfl Try.ntmps14 rfl (St.start0 hΦ) ?_
 unfold m_i_Urgent at h
 refine WT.seq <| WT.region ?_
 refine ln (n_box (C := #[.string p0.Name, pv0_0]) rfl rfl) rfl (fun b_1 => ?_)
 refine ln (n_box (C := #[.int .i64 p1.Rule, pv1_0, pv1_1]) rfl rfl) rfl (fun b_2 => ?_)
 refine ln (n_box (C := #[.int .i64 p2.Rule, pv2_0, pv2_1]) rfl rfl) rfl (fun b_3 => ?_)
 refine lq (q_assign rfl) rfl <| WL.nil <| WT.seq <| WT.seq <| WT.region <| lq (q_loadN Tn_26 rfl (fun w1 hw => hw.rgO (i := 2) rfl 0 2 [.string p0.Name, pv0_0] rfl) rfl) rfl <| lq (q_loadN Tn_30 rfl (fun w1 hw => hw.rgO (i := 1) rfl 0 3 [.int .i64 p1.Rule, pv1_0, pv1_1] rfl) rfl) rfl ?_
 obtain ⟨x1, hx1, h⟩ := bind_some h
 refine lp (p_call Fun_78 rfl (fun w1 hw => m_i_hasRule_ok hw.fro N p0 p1 ph0_0 ph1_0 ph1_1 hx1)) rfl <| lq (q_not rfl) rfl <| lq (q_move rfl) rfl ?_
 obtain ⟨b1, hb_1, h⟩ := bind_some h
 refine WL.cutN 5 [(18, .bool b1), (3, .pointer (some ⟨b_1, 0, none⟩)), (4, .pointer (some ⟨b_2, 0, none⟩)), (5, .pointer (some ⟨b_3, 0, none⟩))] ?_ (fun K => ?_)
 rotate_left
 ·refine WL.split (d := 13) rfl (fun c1 => ?_) (fun c1 => ?_)
  ·replace hb_1 := ite_t hb_1 c1
   refine WL.no rfl rfl rfl rfl <| WL.no rfl rfl rfl rfl <| WL.no rfl rfl rfl rfl <| WL.no rfl rfl rfl rfl <| WL.q (q_pick1 rfl rfl) rfl rfl rfl ?_
   cases hb_1
   exact WL.keep (by exact ⟨rfl, rfl, rfl, rfl, trivial⟩) K
  ·replace hb_1 := ite_f hb_1 c1
   refine WL.yes rfl rfl <| lq (q_loadN Tn_26 rfl (fun w1 hw => hw.rgO (i := 2) rfl 0 2 [.string p0.Name, pv0_0] rfl) rfl) rfl <| WL.yes rfl rfl <| lq (q_loadN Tn_30 rfl (fun w1 hw => hw.rgO (i := 0) rfl 0 3 [.int .i64 p2.Rule, pv2_0, pv2_1] rfl) rfl) rfl <| WL.yes rfl rfl ?_
   obtain ⟨x2, hx2, hb_1⟩ := bind_some hb_1
   refine lp (p_call Fun_78 rfl (fun w1 hw => m_i_hasRule_ok hw.fro N p0 p2 ph0_0 ph2_0 ph2_1 hx2)) rfl <| WL.yes rfl rfl <| lq (q_not rfl) rfl <| WL.q (q_pick0 rfl rfl) rfl rfl rfl ?_
   cases hb_1
   exact WL.keep (by exact ⟨rfl, rfl, rfl, rfl, trivial⟩) K
 refine WL.nil ?_
 refine WT.cond rfl (fun c2 => ?_) (fun c2 => ?_)
 ·replace h := ite_t h c2
  refine WT.seq <| WT.region <| lq (q_assign rfl) rfl <| WL.nil ?_
  refine WT.ret Try.func14 (resOk.one rfl) (fun w1 hw => ?_)
  cases h
  exact post_of_St hw
 replace h := ite_f h c2
 refine WT.skip <| WT.seq <| WT.draw mixed (by kernel_rfl) (fun _ h => h.drew) <| qq (q_fieldAddr Fld_26_1 rfl) rfl <| qq (q_load1 T1_24 rfl (fun w1 hw => hw.rgO (i := 2) rfl 1 1 [pv0_0] rfl)) rfl <| qq (q_fieldAddr Fld_30_0 rfl) rfl <| qq (q_load1 T1_3 rfl (fun w1 hw => hw.rgO (i := 1) rfl 0 1 [.int .i64 p1.Rule] rfl)) rfl ?_
 obtain ⟨x3, hx3, h⟩ := bind_some h
 obtain ⟨cs1, F1, -, g1, hb1, hs1, r1⟩ := ph0_0.el (idx_some hx3).2.2
 obtain ⟨v1, G1, v2, G2, v3, G3, rfl, rfl, h1, h2, h3⟩ := r1
 refine qq (q_indexAddr Sl_24 rfl rfl ph0_0 hx3) rfl <| qq (q_fieldAddr Fld_66_1 rfl) rfl <| qq (q_load1 T1_3 rfl (fun w1 hw => (g1.of_eq 1 1 rfl rfl : rg _ _ _ [.int .i64 x3.Sal]).rangeAt hw.fro)) rfl <| qq (q_fieldAddr Fld_26_1 rfl) rfl <| qq (q_load1 T1_24 rfl (fun w1 hw => hw.rgO (i := 2) rfl 1 1 [pv0_0] rfl)) rfl <| qq (q_fieldAddr Fld_30_0 rfl) rfl <| qq (q_load1 T1_3 rfl (fun w1 hw => hw.rgO (i := 0) rfl 0 1 [.int .i64 p2.Rule] rfl)) rfl ?_
 obtain ⟨x4, hx4, h⟩ := bind_some h
 obtain ⟨cs2, F2, -, g2, hb2, hs2, r2⟩ := ph0_0.el (idx_some hx4).2.2
 obtain ⟨v4, G4, v5, G5, v6, G6, rfl, rfl, h4, h5, h6⟩ := r2
 refine qq (q_indexAddr Sl_24 rfl rfl ph0_0 hx4) rfl <| qq (q_fieldAddr Fld_66_1 rfl) rfl <| qq (q_load1 T1_3 rfl (fun w1 hw => (g2.of_eq 1 1 rfl rfl : rg _ _ _ [.int .i64 x4.Sal]).rangeAt hw.fro)) rfl <| qq (q_assign rfl) rfl <| qq (q_assign rfl) rfl <| WQ.nil <| WT.seq <| WT.region <| lq (q_move rfl) rfl <| lq (q_move rfl) rfl <| lq (q_gtr rfl rfl) rfl <| lq (q_move rfl) rfl ?_
 obtain ⟨b2, hb_2, h⟩ := bind_some h
 refine WL.cutN 9 [(45, .bool b2)] ?_ (fun K => ?_)
 rotate_left
 ·refine WL.split (d := 36) rfl (fun c3 => ?_) (fun c3 => ?_)
  ·replace hb_2 := ite_t hb_2 c3
   refine WL.no rfl rfl rfl rfl <| WL.no rfl rfl rfl rfl <| WL.no rfl rfl rfl rfl <| WL.no rfl rfl rfl rfl <| WL.nox rfl rfl rfl rfl <| WL.nox rfl rfl rfl rfl <| WL.nox rfl rfl rfl rfl <| WL.no rfl rfl rfl rfl <| WL.q (q_pick1 rfl rfl) rfl rfl rfl ?_
   cases hb_2
   exact WL.keep (by exact ⟨rfl, trivial⟩) K
  ·replace hb_2 := ite_f hb_2 c3
   refine WL.yes rfl rfl <| lq (q_move rfl) rfl <| WL.yes rfl rfl <| lq (q_move rfl) rfl <| WL.yes rfl rfl <| lq (q_eql rfl rfl) rfl <| WL.yes rfl rfl <| lq (q_move rfl) rfl ?_
   obtain ⟨b3, hb_3, hb_2⟩ := bind_some hb_2
   refine WL.cutN 4 [(44, .bool b3), (36, .bool false)] ?_ (fun K => ?_)
   rotate_left
   ·refine WL.split (d := 40) rfl (fun c4 => ?_) (fun c4 => ?_)
    ·replace hb_3 := ite_t hb_3 c4
     refine WL.yes rfl rfl <| lq (q_loadN Tn_30 rfl (fun w1 hw => hw.rgO (i := 1) rfl 0 3 [.int .i64 p1.Rule, pv1_0, pv1_1] rfl) rfl) rfl <| WL.yes rfl rfl <| lq (q_loadN Tn_30 rfl (fun w1 hw => hw.rgO (i := 0) rfl 0 3 [.int .i64 p2.Rule, pv2_0, pv2_1] rfl) rfl) rfl <| WL.yes rfl rfl ?_
     obtain ⟨x5, hx5, hb_3⟩ := bind_some hb_3
     refine lp (p_call Fun_79 rfl (fun w1 hw => m_i_LessMatch_ok hw.fro N p1 p2 ph1_0 ph1_1 ph2_0 ph2_1 hx5)) rfl <| WL.yes rfl rfl <| WL.q (q_pick1 rfl rfl) rfl rfl rfl ?_
     cases hb_3
     exact WL.keep (by exact ⟨rfl, rfl, trivial⟩) K
    ·replace hb_3 := ite_f hb_3 c4
     refine WL.no rfl rfl rfl rfl <| WL.no rfl rfl rfl rfl <| WL.no rfl rfl rfl rfl <| WL.yes rfl rfl <| WL.q (q_pick0 rfl rfl) rfl rfl rfl ?_
     cases hb_3
     exact WL.keep (by exact ⟨rfl, rfl, trivial⟩) K
   refine WL.q (q_pick0 rfl rfl) rfl rfl rfl ?_
   cases hb_2
   exact WL.keep (by exact ⟨rfl, trivial⟩) K
 refine lq (q_assign rfl) rfl <| WL.nil ?_
 refine WT.ret Try.func14 (resOk.one rfl) (fun w1 hw => ?_)
 cases h
 exact post_of_St hw
theorem m_s_l15Rule_ok {Φ : Hp} {w : World} (hΦ : In Φ w) (N : Nat) (p0 : TDef) (p1 : TMatch) {pv0_0 : Value} {pG0_0 : List Nat} {pv1_0 : Value} {pG1_0 : List Nat} {pv1_1 : Value} {pG1_1 : List Nat} (ph0_0 : RSl RTRule 5 Φ pG0_0 pv0_0 p0.Rules) (ph1_0 : RSl (RI .i64) 1 Φ pG1_0 pv1_0 p1.Ids) (ph1_1 : RSl RTBind 4 Φ pG1_1 pv1_1 p1.Binds) {r : Bool} (h : m_s_l15Rule N p0 p1 = some r) :
  Calls Try.prog 80 [.agg [.string p0.Name, pv0_0].toArray, .agg [.int .i64 p1.Rule, pv1_0, pv1_1].toArray].toArray w (Post (.bool r) w) := by
 refine enter Try.func80 rfl Try.ntmps80 rfl (St.start0 hΦ) ?_
 unfold m_s_l15Rule at h
 refine WT.seq <| WT.region ?_
 refine ln (n_box (C := #[.string p0.Name, pv0_0]) rfl rfl) rfl (fun b_1 => ?_)
 refine ln (n_box (C := #[.int .i64 p1.Rule, pv1_0, pv1_1]) rfl rfl) rfl (fun b_2 => ?_)
 refine lq (q_assign rfl) rfl <| WL.nil <| WT.seq <| WT.region <| lq (q_fieldAddr Fld_30_0 rfl) rfl <| lq (q_load1 T1_3 rfl (fun w1 hw => hw.rgO (i := 0) rfl 0 1 [.int .i64 p1.Rule] rfl)) rfl <| lq (q_geq rfl rfl) rfl <| lq (q_move rfl) rfl ?_
 obtain ⟨b1, hb_1, h⟩ := bind_some h
 refine WL.cutN 7 [(15, .bool b1), (4, .bool false)] ?_ (fun K => ?_)
 rotate_left
 ·refine WL.split (d := 8) rfl (fun c1 => ?_) (fun c1 => ?_)
  ·replace hb_1 := ite_t hb_1 c1
   refine WL.yes rfl rfl <| lq (q_fieldAddr Fld_30_0 rfl) rfl <| WL.yes rfl rfl <| lq (q_load1 T1_3 rfl (fun w1 hw => hw.rgO (i := 0) rfl 0 1 [.int .i64 p1.Rule] rfl)) rfl <| WL.yes rfl rfl <| lq (q_fieldAddr Fld_26_1 rfl) rfl <| WL.yes rfl rfl <| lq (q_load1 T1_24 rfl (fun w1 hw => hw.rgO (i := 1) rfl 1 1 [pv0_0] rfl)) rfl <| WL.yes rfl rfl <| lq (q_lenR Sl_24 rfl rfl ph0_0) rfl <| WL.yes rfl rfl <| lq (q_lss rfl rfl) rfl <| WL.q (q_pick1 rfl rfl) rfl rfl rfl ?_
   cases hb_1
   exact WL.keep (by exact ⟨rfl, rfl, trivial⟩) K
  ·replace hb_1 := ite_f hb_1 c1
   refine WL.no rfl rfl rfl rfl <| WL.no rfl rfl rfl rfl <| WL.no rfl rfl rfl rfl <| WL.no rfl rfl rfl rfl <| WL.no rfl rfl rfl rfl <| WL.no rfl rfl rfl rfl <| WL.q (q_pick0 rfl rfl) rfl rfl rfl ?_
   cases hb_1
   exact WL.keep (by exact ⟨rfl, rfl, trivial⟩) K
 refine lq (q_assign rfl) rfl <| WL.nil ?_
 refine WT.ret Try.func80 (resOk.one rfl) (fun w1 hw => ?_)
 cases h
 exact post_of_St hw
theorem m_s_LessMatch_ok {Φ : Hp} {w : World} (hΦ : In Φ w) (N : Nat) (p0 : TMatch) (p1 : TMatch) {pv0_0 : Value} {pG0_0 : List Nat} {pv0_1 : Value} {pG0_1 : List Nat} {pv1_0 : Value} {pG1_0 : List Nat} {pv1_1 : Value} {pG1_1 : List Nat} (ph0_0 : RSl (RI .i64) 1 Φ pG0_0 pv0_0 p0.Ids) (ph0_1 : RSl RTBind 4 Φ pG0_1 pv0_1 p0.Binds) (ph1_0 : RSl (RI .i64) 1 Φ pG1_0 pv1_0 p1.Ids) (ph1_1 : RSl RTBind 4 Φ pG1_1 pv1_1 p1.Binds) {r : Bool} (h : m_s_LessMatch N p0 p1 = some r) :
  Calls Try.prog 81 [.agg [.int .i64 p0.Rule, pv0_0, pv0_1].toArray, .agg [.int .i64 p1.Rule, pv1_0, pv1_1].toArray].toArray w (Post (.bool r) w) := by
 refine enter Try.func81 rfl Try.ntmps81 rfl (St.start0 hΦ) ?_
 generalize hb0 : (⟨w, [], Φ⟩ : Base) = w0
 unfold m_s_LessMatch at h
 refine WT.seq <| WT.region ?_
 refine ln (n_box (C := #[.int .i64 p0.Rule, pv0_0, pv0_1]) rfl rfl) rfl (fun b_1 => ?_)
 refine ln (n_box (C := #[.int .i64 p1.Rule, pv1_0, pv1_1]) rfl rfl) rfl (fun b_2 => ?_)
 refine lq (q_assign rfl) rfl <| WL.nil <| WT.seq <| WT.block <| WT.seq <| WT.region <| lq (q_fieldAddr Fld_30_0 rfl) rfl <| lq (q_load1 T1_3 rfl (fun w1 hw => hw.rgO (i := 1) rfl 0 1 [.int .i64 p0.Rule] rfl)) rfl <| lq (q_fieldAddr Fld_30_0 rfl) rfl <| lq (q_load1 T1_3 rfl (fun w1 hw => hw.rgO (i := 0) rfl 0 1 [.int .i64 p1.Rule] rfl)) rfl <| lq (q_neq rfl rfl) rfl <| lq (q_assign rfl) rfl <| WL.nil ?_
 refine WT.cond rfl (fun c1 => ?_) (fun c1 => ?_)
 ·replace h := ite_t h c1
  refine WT.seq <| WT.region <| lq (q_fieldAddr Fld_30_0 rfl) rfl <| lq (q_load1 T1_3 rfl (fun w1 hw => hw.rgO (i := 1) rfl 0 1 [.int .i64 p0.Rule] rfl)) rfl <| lq (q_fieldAddr Fld_30_0 rfl) rfl <| lq (q_load1 T1_3 rfl (fun w1 hw => hw.rgO (i := 0) rfl 0 1 [.int .i64 p1.Rule] rfl)) rfl <| lq (q_lss rfl rfl) rfl <| lq (q_assign rfl) rfl <| WL.nil ?_
  refine WT.ret Try.func81 (resOk.one rfl) (fun w1 hw => ?_)
  subst hb0
  cases h
  exact post_of_St hw
 replace h := ite_f h c1
 refine WT.seq <| WT.region <| lq (q_fieldAddr Fld_30_1 rfl) rfl <| lq (q_load1 T1_27 rfl (fun w1 hw => hw.rgO (i := 1) rfl 1 1 [pv0_0] rfl)) rfl <| lq (q_lenR Sl_27 rfl rfl ph0_0) rfl <| lq (q_fieldAddr Fld_30_1 rfl) rfl <| lq (q_load1 T1_27 rfl (fun w1 hw => hw.rgO (i := 0) rfl 1 1 [pv1_0] rfl)) rfl <| lq (q_lenR Sl_27 rfl rfl ph1_0) rfl <| lq (q_neq rfl rfl) rfl <| lq (q_assign rfl) rfl <| WL.nil ?_
 refine WT.cond rfl (fun c2 => ?_) (fun c2 => ?_)
 ·replace h := ite_t h c2
  refine WT.seq <| WT.region <| lq (q_fieldAddr Fld_30_1 rfl) rfl <| lq (q_load1 T1_27 rfl (fun w1 hw => hw.rgO (i := 1) rfl 1 1 [pv0_0] rfl)) rfl <| lq (q_lenR Sl_27 rfl rfl ph0_0) rfl <| lq (q_fieldAddr Fld_30_1 rfl) rfl <| lq (q_load1 T1_27 rfl (fun w1 hw => hw.rgO (i := 0) rfl 1 1 [pv1_0] rfl)) rfl <| lq (q_lenR Sl_27 rfl rfl ph1_0) rfl <| lq (q_lss rfl rfl) rfl <| lq (q_assign rfl) rfl <| WL.nil ?_
  refine WT.ret Try.func81 (resOk.one rfl) (fun w1 hw => ?_)
  subst hb0
  cases h
  exact post_of_St hw
 replace h := ite_f h c2
 refine WT.skip <| WT.inBlock <| WT.seq <| WT.seq <| WT.region <| lq (q_assign rfl) rfl <| WL.nil <| WT.block <| WT.loop <| WT.mono (l' := [(2, .pointer (some ⟨b_1, 0, none⟩)), (3, .pointer (some ⟨b_2, 0, none⟩)), (5, .int .i64 0)]) (S' := St w0 Φ [(b_2, .cells #[.int .i64 p1.Rule, pv1_0, pv1_1] 30 (0, 0)), (b_1, .cells #[.int .i64 p0.Rule, pv0_0, pv0_1] 30 (0, 0))] []) ⟨rfl, rfl, rfl, trivial⟩ (fun w1 hw => (hw.sel (js := []) rfl).selO (js := [0, 0]) rfl) ?_
 refine loop_ind (σ := Int) (fun s => [(2, .pointer (some ⟨b_1, 0, none⟩)), (3, .pointer (some ⟨b_2, 0, none⟩)), (5, .int .i64 s)]) (fun s => St w0 Φ [(b_2, .cells #[.int .i64 p1.Rule, pv1_0, pv1_1] 30 (0, 0)), (b_1, .cells #[.int .i64 p0.Rule, pv0_0, pv0_1] 30 (0, 0))] []) (fun m s => m_s_LessMatch_l1 N p0 p1 m s = some r) (fun s hm => none_ne (show (none : Option (Bool)) = some r from hm)) (fun n1 ih1 s hm => ?_) N (0) h
 revert hm; revert s; intro s1 hm
 have h : m_s_LessMatch_l1 N p0 p1 (n1 + 1) s1 = some r := hm
 show WT _ _ [(2, .pointer (some ⟨b_1, 0, none⟩)), (3, .pointer (some ⟨b_2, 0, none⟩)), (5, .int .i64 s1)] (St w0 Φ [(b_2, .cells #[.int .i64 p1.Rule, pv1_0, pv1_1] 30 (0, 0)), (b_1, .cells #[.int .i64 p0.Rule, pv0_0, pv0_1] 30 (0, 0))] [])
 unfold m_s_LessMatch_l1 at h
 refine WT.seq <| WT.seq <| WT.region <| lq (q_move rfl) rfl <| lq (q_fieldAddr Fld_30_1 rfl) rfl <| lq (q_load1 T1_27 rfl (fun w1 hw => hw.rgO (i := 1) rfl 1 1 [pv0_0] rfl)) rfl <| lq (q_lenR Sl_27 rfl rfl ph0_0) rfl <| lq (q_lss rfl rfl) rfl <| WL.nil ?_
 refine WT.cond rfl (fun c3 => ?_) (fun c3 => ?_)
 ·replace h := ite_t h c3
  refine WT.skip <| WT.seq <| WT.block <| WT.seq <| WT.draw mixed (by kernel_rfl) (fun _ h => h.drew) <| qq (q_fieldAddr Fld_30_1 rfl) rfl <| qq (q_load1 T1_27 rfl (fun w1 hw => hw.rgO (i := 1) rfl 1 1 [pv0_0] rfl)) rfl <| qq (q_move rfl) rfl ?_
  obtain ⟨x1, hx1, h⟩ := bind_some h
  obtain ⟨cs1, F1, -, g1, hb1, hs1, r1⟩ := ph0_0.el (idx_some hx1).2.2
  obtain ⟨rfl, -⟩ := r1
  refine qq (q_indexAddr Sl_27 rfl rfl ph0_0 hx1) rfl <| qq (q_load1 T1_3 rfl (fun w1 hw => (g1.of_eq 0 1 rfl rfl : rg _ _ _ [.int .i64 x1]).rangeAt hw.fro)) rfl <| qq (q_fieldAddr Fld_30_1 rfl) rfl <| qq (q_load1 T1_27 rfl (fun w1 hw => hw.rgO (i := 0) rfl 1 1 [pv1_0] rfl)) rfl <| qq (q_move rfl) rfl ?_
  obtain ⟨x2, hx2, h⟩ := bind_some h
  obtain ⟨cs2, F2, -, g2, hb2, hs2, r2⟩ := ph1_0.el (idx_some hx2).2.2
  obtain ⟨rfl, -⟩ := r2
  refine qq (q_indexAddr Sl_27 rfl rfl ph1_0 hx2) rfl <| qq (q_load1 T1_3 rfl (fun w1 hw => (g2.of_eq 0 1 rfl rfl : rg _ _ _ [.int .i64 x2]).rangeAt hw.fro)) rfl <| qq (q_neq rfl rfl) rfl <| WQ.nil ?_
  refine WT.cond rfl (fun c4 => ?_) (fun c4 => ?_)
  ·replace h := ite_t h c4
   refine WT.seq <| WT.draw mixed (by kernel_rfl) (fun _ h => h.drew) <| qq (q_fieldAddr Fld_30_1 rfl) rfl <| qq (q_load1 T1_27 rfl (fun w1 hw => hw.rgO (i := 1) rfl 1 1 [pv0_0] rfl)) rfl <| qq (q_move rfl) rfl ?_
   obtain ⟨x3, hx3, h⟩ := bind_some h
   obtain ⟨cs3, F3, -, g3, hb3, hs3, r3⟩ := ph0_0.el (idx_some hx3).2.2
   obtain ⟨rfl, -⟩ := r3
   refine qq (q_indexAddr Sl_27 rfl rfl ph0_0 hx3) rfl <| qq (q_load1 T1_3 rfl (fun w1 hw => (g3.of_eq 0 1 rfl rfl : rg _ _ _ [.int .i64 x3]).rangeAt hw.fro)) rfl <| qq (q_fieldAddr Fld_30_1 rfl) rfl <| qq (q_load1 T1_27 rfl (fun w1 hw => hw.rgO (i := 0) rfl 1 1 [pv1_0] rfl)) rfl <| qq (q_move rfl) rfl ?_
   obtain ⟨x4, hx4, h⟩ := bind_some h
   obtain ⟨cs4, F4, -, g4, hb4, hs4, r4⟩ := ph1_0.el (idx_some hx4).2.2
   obtain ⟨rfl, -⟩ := r4
   refine qq (q_indexAddr Sl_27 rfl rfl ph1_0 hx4) rfl <| qq (q_load1 T1_3 rfl (fun w1 hw => (g4.of_eq 0 1 rfl rfl : rg _ _ _ [.int .i64 x4]).rangeAt hw.fro)) rfl <| qq (q_lss rfl rfl) rfl <| qq (q_assign rfl) rfl <| WQ.nil ?_
   refine WT.ret Try.func81 (resOk.one rfl) (fun w1 hw => ?_)
   subst hb0
   cases h
   exact post_of_St hw
  replace h := ite_f h c4
  refine WT.skip <| WT.inBlock <| WT.region <| lq (q_move rfl) rfl <| lq (q_add rfl rfl) rfl <| lq (q_assign rfl) rfl <| WL.nil ?_
  refine WT.inLoop (WT.mono (l' := [(2, .pointer (some ⟨b_1, 0, none⟩)), (3, .pointer (some ⟨b_2, 0, none⟩)), (5, .int .i64 (IntKind.i64.wrap (s1 + 1)))]) (S' := St w0 Φ [(b_2, .cells #[.int .i64 p1.Rule, pv1_0, pv1_1] 30 (0, 0)), (b_1, .cells #[.int .i64 p0.Rule, pv0_0, pv0_1] 30 (0, 0))] []) ⟨rfl, rfl, rfl, trivial⟩ (fun w1 hw => (hw.sel (js := []) rfl).selO (js := [0, 0]) rfl) ?_)
  exact ih1 (IntKind.i64.wrap (s1 + 1)) h
 replace h := ite_f h c3
 refine WT.exit rfl <| WT.seq <| WT.region <| lq (q_assign rfl) rfl <| WL.nil ?_
 refine WT.ret Try.func81 (resOk.one rfl) (fun w1 hw => ?_)
 subst hb0
 cases h
 exact post_of_St hw
theorem m_s_Urgent_ok {Φ : Hp} {w : World} (hΦ : In Φ w) (N : Nat) (p0 : TDef) (p1 : TMatch) (p2 : TMatch) {pv0_0 : Value} {pG0_0 : List Nat} {pv1_0 : Value} {pG1_0 : List Nat} {pv1_1 : Value} {pG1_1 : List Nat} {pv2_0 : Value} {pG2_0 : List Nat} {pv2_1 : Value} {pG2_1 : List Nat} (ph0_0 : RSl RTRule 5 Φ pG0_0 pv0_0 p0.Rules) (ph1_0 : RSl (RI .i64) 1 Φ pG1_0 pv1_0 p1.Ids) (ph1_1 : RSl RTBind 4 Φ pG1_1 pv1_1 p1.Binds) (ph2_0 : RSl (RI .i64) 1 Φ pG2_0 pv2_0 p2.Ids) (ph2_1 : RSl RTBind 4 Φ pG2_1 pv2_1 p2.Binds) {r : Bool} (h : m_s_Urgent N p0 p1 p2 = some r) :
  Calls Try.prog 15 [.agg [.string p0.Name, pv0_0].toArray, .agg [.int .i64 p1.Rule, pv1_0, pv1_1].toArray, .agg [.int .i64 p2.Rule, pv2_0, pv2_1].toArray].toArray w (Post (.bool r) w) := by
 refine enter Try.func15 rfl Try.ntmps15 rfl (St.start0 hΦ) ?_
 unfold m_s_Urgent at h
 refine WT.seq <| WT.region ?_
 refine ln (n_box (C := #[.string p0.Name, pv0_0]) rfl rfl) rfl (fun b_1 => ?_)
 refine ln (n_box (C := #[.int .i64 p1.Rule, pv1_0, pv1_1]) rfl rfl) rfl (fun b_2 => ?_)
 refine ln (n_box (C := #[.int .i64 p2.Rule, pv2_0, pv2_1]) rfl rfl) rfl (fun b_3 => ?_)
 refine lq (q_assign rfl) rfl <| WL.nil <| WT.seq <| WT.seq <| WT.region <| lq (q_loadN Tn_26 rfl (fun w1 hw => hw.rgO (i := 2) rfl 0 2 [.string p0.Name, pv0_0] rfl) rfl) rfl <| lq (q_loadN Tn_30 rfl (fun w1 hw => hw.rgO (i := 1) rfl 0 3 [.int .i64 p1.Rule, pv1_0, pv1_1] rfl) rfl) rfl ?_
 obtain ⟨x1, hx1, h⟩ := bind_some h
 refine lp (p_call Fun_80 rfl (fun w1 hw => m_s_l15Rule_ok hw.fro N p0 p1 ph0_0 ph1_0 ph1_1 hx1)) rfl <| lq (q_not rfl) rfl <| lq (q_move rfl) rfl ?_
 obtain ⟨b1, hb_1, h⟩ := bind_some h
 refine WL.cutN 5 [(18, .bool b1), (3, .pointer (some ⟨b_1, 0, none⟩)), (4, .pointer (some ⟨b_2, 0, none⟩)), (5, .pointer (some ⟨b_3, 0, none⟩))] ?_ (fun K => ?_)
 rotate_left
 ·refine WL.split (d := 13) rfl (fun c1 => ?_) (fun c1 => ?_)
  ·replace hb_1 := ite_t hb_1 c1
   refine WL.no rfl rfl rfl rfl <| WL.no rfl rfl rfl rfl <| WL.no rfl rfl rfl rfl <| WL.no rfl rfl rfl rfl <| WL.q (q_pick1 rfl rfl) rfl rfl rfl ?_
   cases hb_1
   exact WL.keep (by exact ⟨rfl, rfl, rfl, rfl, trivial⟩) K
  ·replace hb_1 := ite_f hb_1 c1
   refine WL.yes rfl rfl <| lq (q_loadN Tn_26 rfl (fun w1 hw => hw.rgO (i := 2) rfl 0 2 [.string p0.Name, pv0_0] rfl) rfl) rfl <| WL.yes rfl rfl <| lq (q_loadN Tn_30 rfl (fun w1 hw => hw.rgO (i := 0) rfl 0 3 [.int .i64 p2.Rule, pv2_0, pv2_1] rfl) rfl) rfl <| WL.yes rfl rfl ?_
   obtain ⟨x2, hx2, hb_1⟩ := bind_some hb_1
   refine lp (p_call Fun_80 rfl (fun w1 hw => m_s_l15Rule_ok hw.fro N p0 p2 ph0_0 ph2_0 ph2_1 hx2)) rfl <| WL.yes rfl rfl <| lq (q_not rfl) rfl <| WL.q (q_pick0 rfl rfl) rfl rfl rfl ?_
   cases hb_1
   exact WL.keep (by exact ⟨rfl, rfl, rfl, rfl, trivial⟩) K
 refine WL.nil ?_
 refine WT.cond rfl (fun c2 => ?_) (fun c2 => ?_)
 ·replace h := ite_t h c2
  refine WT.seq <| WT.region <| lq (q_assign rfl) rfl <| WL.nil ?_
  refine WT.ret Try.func15 (resOk.one rfl) (fun w1 hw => ?_)
  cases h
  exact post_of_St hw
 replace h := ite_f h c2
 refine WT.skip <| WT.seq <| WT.region <| lq (q_fieldAddr Fld_26_1 rfl) rfl <| lq (q_load1 T1_24 rfl (fun w1 hw => hw.rgO (i := 2) rfl 1 1 [pv0_0] rfl)) rfl <| lq (q_fieldAddr Fld_30_0 rfl) rfl <| lq (q_load1 T1_3 rfl (fun w1 hw => hw.rgO (i := 1) rfl 0 1 [.int .i64 p1.Rule] rfl)) rfl ?_
 obtain ⟨x3, hx3, h⟩ := bind_some h
 obtain ⟨cs1, F1, -, g1, hb1, hs1, r1⟩ := ph0_0.el (idx_some hx3).2.2
 obtain ⟨v1, G1, v2, G2, v3, G3, rfl, rfl, h1, h2, h3⟩ := r1
 refine lq (q_indexAddr Sl_24 rfl rfl ph0_0 hx3) rfl <| lq (q_fieldAddr Fld_66_1 rfl) rfl <| lq (q_load1 T1_3 rfl (fun w1 hw => (g1.of_eq 1 1 rfl rfl : rg _ _ _ [.int .i64 x3.Sal]).rangeAt hw.fro)) rfl <| lq (q_assign rfl) rfl <| WL.nil <| WT.seq <| WT.region <| lq (q_fieldAddr Fld_26_1 rfl) rfl <| lq (q_load1 T1_24 rfl (fun w1 hw => hw.rgO (i := 2) rfl 1 1 [pv0_0] rfl)) rfl <| lq (q_fieldAddr Fld_30_0 rfl) rfl <| lq (q_load1 T1_3 rfl (fun w1 hw => hw.rgO (i := 0) rfl 0 1 [.int .i64 p2.Rule] rfl)) rfl ?_
 obtain ⟨x4, hx4, h⟩ := bind_some h
 obtain ⟨cs2, F2, -, g2, hb2, hs2, r2⟩ := ph0_0.el (idx_some hx4).2.2
 obtain ⟨v4, G4, v5, G5, v6, G6, rfl, rfl, h4, h5, h6⟩ := r2
 refine lq (q_indexAddr Sl_24 rfl rfl ph0_0 hx4) rfl <| lq (q_fieldAddr Fld_66_1 rfl) rfl <| lq (q_load1 T1_3 rfl (fun w1 hw => (g2.of_eq 1 1 rfl rfl : rg _ _ _ [.int .i64 x4.Sal]).rangeAt hw.fro)) rfl <| lq (q_assign rfl) rfl <| WL.nil <| WT.seq <| WT.region <| lq (q_move rfl) rfl <| lq (q_move rfl) rfl <| lq (q_gtr rfl rfl) rfl <| lq (q_move rfl) rfl ?_
 obtain ⟨b2, hb_2, h⟩ := bind_some h
 refine WL.cutN 9 [(45, .bool b2)] ?_ (fun K => ?_)
 rotate_left
 ·refine WL.split (d := 36) rfl (fun c3 => ?_) (fun c3 => ?_)
  ·replace hb_2 := ite_t hb_2 c3
   refine WL.no rfl rfl rfl rfl <| WL.no rfl rfl rfl rfl <| WL.no rfl rfl rfl rfl <| WL.no rfl rfl rfl rfl <| WL.nox rfl rfl rfl rfl <| WL.nox rfl rfl rfl rfl <| WL.nox rfl rfl rfl rfl <| WL.no rfl rfl rfl rfl <| WL.q (q_pick1 rfl rfl) rfl rfl rfl ?_
   cases hb_2
   exact WL.keep (by exact ⟨rfl, trivial⟩) K
  ·replace hb_2 := ite_f hb_2 c3
   refine WL.yes rfl rfl <| lq (q_move rfl) rfl <| WL.yes rfl rfl <| lq (q_move rfl) rfl <| WL.yes rfl rfl <| lq (q_eql rfl rfl) rfl <| WL.yes rfl rfl <| lq (q_move rfl) rfl ?_
   obtain ⟨b3, hb_3, hb_2⟩ := bind_some hb_2
   refine WL.cutN 4 [(44, .bool b3), (36, .bool false)] ?_ (fun K => ?_)
   rotate_left
   ·refine WL.split (d := 40) rfl (fun c4 => ?_) (fun c4 => ?_)
    ·replace hb_3 := ite_t hb_3 c4
     refine WL.yes rfl rfl <| lq (q_loadN Tn_30 rfl (fun w1 hw => hw.rgO (i := 1) rfl 0 3 [.int .i64 p1.Rule, pv1_0, pv1_1] rfl) rfl) rfl <| WL.yes rfl rfl <| lq (q_loadN Tn_30 rfl (fun w1 hw => hw.rgO (i := 0) rfl 0 3 [.int .i64 p2.Rule, pv2_0, pv2_1] rfl) rfl) rfl <| WL.yes rfl rfl ?_
     obtain ⟨x5, hx5, hb_3⟩ := bind_some hb_3
     refine lp (p_call Fun_81 rfl (fun w1 hw => m_s_LessMatch_ok hw.fro N p1 p2 ph1_0 ph1_1 ph2_0 ph2_1 hx5)) rfl <| WL.yes rfl rfl <| WL.q (q_pick1 rfl rfl) rfl rfl rfl ?_
     cases hb_3
     exact WL.keep (by exact ⟨rfl, rfl, trivial⟩) K
    ·replace hb_3 := ite_f hb_3 c4
     refine WL.no rfl rfl rfl rfl <| WL.no rfl rfl rfl rfl <| WL.no rfl rfl rfl rfl <| WL.yes rfl rfl <| WL.q (q_pick0 rfl rfl) rfl rfl rfl ?_
     cases hb_3
     exact WL.keep (by exact ⟨rfl, rfl, trivial⟩) K
   refine WL.q (q_pick0 rfl rfl) rfl rfl rfl ?_
   cases hb_2
   exact WL.keep (by exact ⟨rfl, trivial⟩) K
 refine lq (q_assign rfl) rfl <| WL.nil ?_
 refine WT.ret Try.func15 (resOk.one rfl) (fun w1 hw => ?_)
 cases h
 exact post_of_St hw
theorem m_sl_Equal_Sint_int_ok {Φ : Hp} {w : World} (hΦ : In Φ w) (N : Nat) (p0 : (List Int)) (p1 : (List Int)) {pv0 : Value} {pG0 : List Nat} {pv1 : Value} {pG1 : List Nat} (ph0 : RSl (RI .i64) 1 Φ pG0 pv0 p0) (ph1 : RSl (RI .i64) 1 Φ pG1 pv1 p1) {r : Bool} (h : m_sl_Equal_Sint_int N p0 p1 = some r) :
  Calls Try.prog 82 [pv0, pv1].toArray w (Post (.bool r) w) := by
 refine enter Try.func82 rfl Try.ntmps82 rfl (St.start0 hΦ) ?_
 generalize hb0 : (⟨w, [], Φ⟩ : Base) = w0
 unfold m_sl_Equal_Sint_int at h
 refine WT.seq <| WT.region <| lq (q_assign rfl) rfl <| WL.nil <| WT.seq <| WT.seq <| WT.region <| lq (q_move rfl) rfl <| lq (q_lenR Sl_27 rfl rfl ph0) rfl <| lq (q_move rfl) rfl <| lq (q_lenR Sl_27 rfl rfl ph1) rfl <| lq (q_neq rfl rfl) rfl <| WL.nil ?_
 refine WT.cond rfl (fun c1 => ?_) (fun c1 => ?_)
 ·replace h := ite_t h c1
  refine WT.seq <| WT.region <| lq (q_assign rfl) rfl <| WL.nil ?_
  refine WT.ret Try.func82 (resOk.one rfl) (fun w1 hw => ?_)
  subst hb0
  cases h
  exact post_of_St hw
 replace h := ite_f h c1
 refine WT.skip <| WT.seq <| WT.seq <| WT.region <| lq (q_move rfl) rfl <| lq (q_lenR Sl_27 rfl rfl ph0) rfl <| lq (q_move rfl) rfl <| WL.nil <| WT.block <| WT.loop <| WT.mono (l' := [(0, pv0), (1, pv1), (12, .int .i64 (p0.length : Int)), (13, .int .i64 0)]) (S' := St w0 Φ [] []) ⟨rfl, rfl, rfl, rfl, trivial⟩ (fun w1 hw => (hw.sel (js := []) rfl).selO (js := []) rfl) ?_
 refine loop_ind (σ := Int) (fun s => [(0, pv0), (1, pv1), (12, .int .i64 (p0.length : Int)), (13, .int .i64 s)]) (fun s => St w0 Φ [] []) (fun m s => m_sl_Equal_Sint_int_l1 N p0 p1 m s = some r) (fun s hm => none_ne (show (none : Option (Bool)) = some r from hm)) (fun n1 ih1 s hm => ?_) N (0) h
 revert hm; revert s; intro s1 hm
 have h : m_sl_Equal_Sint_int_l1 N p0 p1 (n1 + 1) s1 = some r := hm
 show WT _ _ [(0, pv0), (1, pv1), (12, .int .i64 (p0.length : Int)), (13, .int .i64 s1)] (St w0 Φ [] [])
 unfold m_sl_Equal_Sint_int_l1 at h
 refine WT.seq <| WT.region <| lq (q_lss rfl rfl) rfl <| WL.nil <| WT.seq ?_
 refine WT.cond rfl (fun c2 => ?_) (fun c2 => ?_)
 ·replace h := ite_t h c2
  refine WT.skip <| WT.seq <| WT.block <| WT.seq <| WT.region <| lq (q_move rfl) rfl <| lq (q_assign rfl) rfl <| WL.nil <| WT.seq <| WT.draw mixed (by kernel_rfl) (fun _ h => h.drew) <| qq (q_move rfl) rfl <| qq (q_move rfl) rfl ?_
  obtain ⟨x1, hx1, h⟩ := bind_some h
  obtain ⟨cs1, F1, -, g1, hb1, hs1, r1⟩ := ph0.el (idx_some hx1).2.2
  obtain ⟨rfl, -⟩ := r1
  refine qq (q_indexAddr Sl_27 rfl rfl ph0 hx1) rfl <| qq (q_load1 T1_3 rfl (fun w1 hw => (g1.of_eq 0 1 rfl rfl : rg _ _ _ [.int .i64 x1]).rangeAt hw.fro)) rfl <| qq (q_move rfl) rfl <| qq (q_move rfl) rfl ?_
  obtain ⟨x2, hx2, h⟩ := bind_some h
  obtain ⟨cs2, F2, -, g2, hb2, hs2, r2⟩ := ph1.el (idx_some hx2).2.2
  obtain ⟨rfl, -⟩ := r2
  refine qq (q_indexAddr Sl_27 rfl rfl ph1 hx2) rfl <| qq (q_load1 T1_3 rfl (fun w1 hw => (g2.of_eq 0 1 rfl rfl : rg _ _ _ [.int .i64 x2]).rangeAt hw.fro)) rfl <| qq (q_neq rfl rfl) rfl <| WQ.nil ?_
  refine WT.cond rfl (fun c3 => ?_) (fun c3 => ?_)
  ·replace h := ite_t h c3
   refine WT.seq <| WT.region <| lq (q_assign rfl) rfl <| WL.nil ?_
   refine WT.ret Try.func82 (resOk.one rfl) (fun w1 hw => ?_)
   subst hb0
   cases h
   exact post_of_St hw
  replace h := ite_f h c3
  refine WT.skip <| WT.inBlock <| WT.region <| lq (q_add rfl rfl) rfl <| lq (q_move rfl) rfl <| WL.nil ?_
  refine WT.inLoop (WT.mono (l' := [(0, pv0), (1, pv1), (12, .int .i64 (p0.length : Int)), (13, .int .i64 (IntKind.i64.wrap (s1 + 1)))]) (S' := St w0 Φ [] []) ⟨rfl, rfl, rfl, rfl, trivial⟩ (fun w1 hw => (hw.sel (js := []) rfl).selO (js := []) rfl) ?_)
  exact ih1 (IntKind.i64.wrap (s1 + 1)) h
 replace h := ite_f h c2
 refine WT.exit rfl <| WT.seq <| WT.region <| lq (q_assign rfl) rfl <| WL.nil ?_
 refine WT.ret Try.func82 (resOk.one rfl) (fun w1 hw => ?_)
 subst hb0
 cases h
 exact post_of_St hw
theorem m_i_SameMatch_ok {Φ : Hp} {w : World} (hΦ : In Φ w) (N : Nat) (p0 : TMatch) (p1 : TMatch) {pv0_0 : Value} {pG0_0 : List Nat} {pv0_1 : Value} {pG0_1 : List Nat} {pv1_0 : Value} {pG1_0 : List Nat} {pv1_1 : Value} {pG1_1 : List Nat} (ph0_0 : RSl (RI .i64) 1 Φ pG0_0 pv0_0 p0.Ids) (ph0_1 : RSl RTBind 4 Φ pG0_1 pv0_1 p0.Binds) (ph1_0 : RSl (RI .i64) 1 Φ pG1_0 pv1_0 p1.Ids) (ph1_1 : RSl RTBind 4 Φ pG1_1 pv1_1 p1.Binds) {r : Bool} (h : m_i_SameMatch N p0 p1 = some r) :
  Calls Try.prog 16 [.agg [.int .i64 p0.Rule, pv0_0, pv0_1].toArray, .agg [.int .i64 p1.Rule, pv1_0, pv1_1].toArray].toArray w (Post (.bool r) w) := by
 refine enter Try.func16 rfl Try.ntmps16 rfl (St.start0 hΦ) ?_
 unfold m_i_SameMatch at h
 refine WT.seq <| WT.region ?_
 refine ln (n_box (C := #[.int .i64 p0.Rule, pv0_0, pv0_1]) rfl rfl) rfl (fun b_1 => ?_)
 refine ln (n_box (C := #[.int .i64 p1.Rule, pv1_0, pv1_1]) rfl rfl) rfl (fun b_2 => ?_)
 refine lq (q_assign rfl) rfl <| WL.nil <| WT.seq <| WT.region <| lq (q_fieldAddr Fld_30_0 rfl) rfl <| lq (q_load1 T1_3 rfl (fun w1 hw => hw.rgO (i := 1) rfl 0 1 [.int .i64 p0.Rule] rfl)) rfl <| lq (q_fieldAddr Fld_30_0 rfl) rfl <| lq (q_load1 T1_3 rfl (fun w1 hw => hw.rgO (i := 0) rfl 0 1 [.int .i64 p1.Rule] rfl)) rfl <| lq (q_eql rfl rfl) rfl <| lq (q_move rfl) rfl ?_
 obtain ⟨b1, hb_1, h⟩ := bind_some h
 refine WL.cutN 6 [(16, .bool b1), (4, .bool false)] ?_ (fun K => ?_)
 rotate_left
 ·refine WL.split (d := 10) rfl (fun c1 => ?_) (fun c1 => ?_)
  ·replace hb_1 := ite_t hb_1 c1
   refine WL.yes rfl rfl <| lq (q_fieldAddr Fld_30_1 rfl) rfl <| WL.yes rfl rfl <| lq (q_load1 T1_27 rfl (fun w1 hw => hw.rgO (i := 1) rfl 1 1 [pv0_0] rfl)) rfl <| WL.yes rfl rfl <| lq (q_fieldAddr Fld_30_1 rfl) rfl <| WL.yes rfl rfl <| lq (q_load1 T1_27 rfl (fun w1 hw => hw.rgO (i := 0) rfl 1 1 [pv1_0] rfl)) rfl <| WL.yes rfl rfl ?_
   obtain ⟨x1, hx1, hb_1⟩ := bind_some hb_1
   refine lp (p_call Fun_82 rfl (fun w1 hw => m_sl_Equal_Sint_int_ok hw.fro N p0.Ids p1.Ids ph0_0 ph1_0 hx1)) rfl <| WL.q (q_pick1 rfl rfl) rfl rfl rfl ?_
   cases hb_1
   exact WL.keep (by exact ⟨rfl, rfl, trivial⟩) K
  ·replace hb_1 := ite_f hb_1 c1
   refine WL.no rfl rfl rfl rfl <| WL.no rfl rfl rfl rfl <| WL.no rfl rfl rfl rfl <| WL.no rfl rfl rfl rfl <| WL.no rfl rfl rfl rfl <| WL.q (q_pick0 rfl rfl) rfl rfl rfl ?_
   cases hb_1
   exact WL.keep (by exact ⟨rfl, rfl, trivial⟩) K
 refine lq (q_assign rfl) rfl <| WL.nil ?_
 refine WT.ret Try.func16 (resOk.one rfl) (fun w1 hw => ?_)
 cases h
 exact post_of_St hw
theorem m_l_FnUrgent_ok {Φ : Hp} {w : World} (hΦ : In Φ w) (N : Nat) (p0 : (List Int)) {pv0 : Value} {pG0 : List Nat} (ph0 : RSl (RI .u8) 1 Φ pG0 pv0 p0) {r : Bool} (h : m_l_FnUrgent N p0 = some r) :
  Calls Try.prog 3 [pv0].toArray w (Post (.bool r) w) := by
 refine enter Try.func3 rfl Try.ntmps3 rfl (St.start0 hΦ) ?_
 unfold m_l_FnUrgent at h
 refine WT.seq <| WT.region <| lq (q_assign rfl) rfl <| WL.nil <| WT.seq <| WT.seq <| WT.region <| lq (q_move rfl) rfl ?_
 obtain ⟨x1, hx1, h⟩ := bind_some h
 refine lp (p_call Fun_12 rfl (fun w1 hw => m_l_big_ok hw.fro N p0 ph0 hx1)) rfl <| WL.nil ?_
 refine WT.cond rfl (fun c1 => ?_) (fun c1 => ?_)
 ·replace h := ite_t h c1
  refine WT.seq <| WT.region <| lq (q_assign rfl) rfl <| WL.nil ?_
  refine WT.ret Try.func3 (resOk.one rfl) (fun w1 hw => ?_)
  cases h
  exact post_of_St hw
 replace h := ite_f h c1
 refine WT.skip <| WT.seq <| WT.region <| lq (q_move rfl) rfl ?_
 obtain ⟨x2, hx2, h⟩ := bind_some h
 refine lc (k_call (js := []) (R := []) Fun_13 rfl rfl (fun w1 hw ap hl => m_s_DrawUrgent_ok hw.fro N p0 ph0  hx2)) rfl (fun v1 Φ_1 F1 q1 => ?_)
 obtain ⟨ap1, fr1, v2, D1, v3, v4, v5, v6, rfl, rfl, h1, h2, h3, h4, h5⟩ := q1
 refine lq (q_move rfl) rfl <| lq (q_extract rfl rfl) rfl <| lq (q_extract rfl rfl) rfl <| lq (q_extract rfl rfl) rfl ?_
 refine ln (n_alloc (C := #[.string (⟨#[]⟩ : ByteArray), .slice none 0 0]) Zr_26 rfl) rfl (fun b_1 => ?_)
 refine ln (n_alloc (C := #[.int .i64 0, .slice none 0 0, .slice none 0 0]) Zr_30 rfl) rfl (fun b_2 => ?_)
 refine ln (n_alloc (C := #[.int .i64 0, .slice none 0 0, .slice none 0 0]) Zr_30 rfl) rfl (fun b_3 => ?_)
 refine ls (s_store (i := 2) (vs := [.string x2.1.Name, v2]) (C' := [.string x2.1.Name, v2]) (O' := [(b_3, .cells #[.int .i64 0, .slice none 0 0, .slice none 0 0] 30 (0, 0)), (b_2, .cells #[.int .i64 0, .slice none 0 0, .slice none 0 0] 30 (0, 0)), (b_1, .cells #[.string x2.1.Name, v2] 26 (0, 0))]) Sz_26 rfl rfl rfl rfl rfl rfl ⟨rfl, h1.one, trivial⟩ rfl rfl) rfl <| ls (s_store (i := 1) (vs := [.int .i64 x2.2.1.Rule, v3, v4]) (C' := [.int .i64 x2.2.1.Rule, v3, v4]) (O' := [(b_3, .cells #[.int .i64 0, .slice none 0 0, .slice none 0 0] 30 (0, 0)), (b_2, .cells #[.int .i64 x2.2.1.Rule, v3, v4] 30 (0, 0)), (b_1, .cells #[.string x2.1.Name, v2] 26 (0, 0))]) Sz_30 rfl rfl rfl rfl rfl rfl ⟨rfl, h2.one, h3.one, trivial⟩ rfl rfl) rfl ?_
 refine ls (s_store (i := 0) (vs := [.int .i64 x2.2.2.Rule, v5, v6]) (C' := [.int .i64 x2.2.2.Rule, v5, v6]) (O' := [(b_3, .cells #[.int .i64 x2.2.2.Rule, v5, v6] 30 (0, 0)), (b_2, .cells #[.int .i64 x2.2.1.Rule, v3, v4] 30 (0, 0)), (b_1, .cells #[.string x2.1.Name, v2] 26 (0, 0))]) Sz_30 rfl rfl rfl rfl rfl rfl ⟨rfl, h4.one, h5.one, trivial⟩ rfl rfl) rfl <| WL.nil <| WT.seq <| WT.region <| lq (q_loadN Tn_26 rfl (fun w1 hw => hw.rgO (i := 2) rfl 0 2 [.string x2.1.Name, v2] rfl) rfl) rfl ?_
 refine lq (q_loadN Tn_30 rfl (fun w1 hw => hw.rgO (i := 1) rfl 0 3 [.int .i64 x2.2.1.Rule, v3, v4] rfl) rfl) rfl <| lq (q_loadN Tn_30 rfl (fun w1 hw => hw.rgO (i := 0) rfl 0 3 [.int .i64 x2.2.2.Rule, v5, v6] rfl) rfl) rfl ?_
 obtain ⟨x3, hx3, h⟩ := bind_some h
 refine lp (p_call Fun_14 rfl (fun w1 hw => m_i_Urgent_ok hw.fro N x2.1 x2.2.1 x2.2.2 (h1.rslG OTRule.gives) h2.rsl h3.rsl h4.rsl h5.rsl hx3)) rfl <| lq (q_assign rfl) rfl <| WL.nil <| WT.seq <| WT.region <| lq (q_loadN Tn_26 rfl (fun w1 hw => hw.rgO (i := 2) rfl 0 2 [.string x2.1.Name, v2] rfl) rfl) rfl <| lq (q_loadN Tn_30 rfl (fun w1 hw => hw.rgO (i := 0) rfl 0 3 [.int .i64 x2.2.2.Rule, v5, v6] rfl) rfl) rfl <| lq (q_loadN Tn_30 rfl (fun w1 hw => hw.rgO (i := 1) rfl 0 3 [.int .i64 x2.2.1.Rule, v3, v4] rfl) rfl) rfl ?_
 obtain ⟨x4, hx4, h⟩ := bind_some h
 refine lp (p_call Fun_14 rfl (fun w1 hw => m_i_Urgent_ok hw.fro N x2.1 x2.2.2 x2.2.1 (h1.rslG OTRule.gives) h4.rsl h5.rsl h2.rsl h3.rsl hx4)) rfl <| lq (q_assign rfl) rfl <| WL.nil <| WT.seq <| WT.seq <| WT.region <| lq (q_move rfl) rfl <| lq (q_loadN Tn_26 rfl (fun w1 hw => hw.rgO (i := 2) rfl 0 2 [.string x2.1.Name, v2] rfl) rfl) rfl <| lq (q_loadN Tn_30 rfl (fun w1 hw => hw.rgO (i := 1) rfl 0 3 [.int .i64 x2.2.1.Rule, v3, v4] rfl) rfl) rfl ?_
 refine lq (q_loadN Tn_30 rfl (fun w1 hw => hw.rgO (i := 0) rfl 0 3 [.int .i64 x2.2.2.Rule, v5, v6] rfl) rfl) rfl ?_
 obtain ⟨x5, hx5, h⟩ := bind_some h
 refine lp (p_call Fun_15 rfl (fun w1 hw => m_s_Urgent_ok hw.fro N x2.1 x2.2.1 x2.2.2 (h1.rslG OTRule.gives) h2.rsl h3.rsl h4.rsl h5.rsl hx5)) rfl <| lq (q_bne Bo_4 rfl rfl) rfl <| lq (q_move rfl) rfl ?_
 obtain ⟨b1, hb_1, h⟩ := bind_some h
 refine WL.cutN 5 [(35, .bool b1), (3, .pointer (some ⟨b_1, 0, none⟩)), (4, .pointer (some ⟨b_2, 0, none⟩)), (5, .pointer (some ⟨b_3, 0, none⟩)), (6, .bool x3), (7, .bool x4)] ?_ (fun K => ?_)
 rotate_left
 ·refine WL.split (d := 30) rfl (fun c2 => ?_) (fun c2 => ?_)
  ·replace hb_1 := ite_t hb_1 c2
   refine WL.no rfl rfl rfl rfl <| WL.no rfl rfl rfl rfl <| WL.nox rfl rfl rfl rfl <| WL.no rfl rfl rfl rfl <| WL.q (q_pick1 rfl rfl) rfl rfl rfl ?_
   cases hb_1
   exact WL.keep (by exact ⟨rfl, rfl, rfl, rfl, rfl, rfl, trivial⟩) K
  ·replace hb_1 := ite_f hb_1 c2
   refine WL.yes rfl rfl <| lq (q_move rfl) rfl <| WL.yes rfl rfl <| lq (q_move rfl) rfl ?_
   obtain ⟨b2, hb_2, hb_1⟩ := bind_some hb_1
   refine WL.cutN 2 [(34, .bool b2), (3, .pointer (some ⟨b_1, 0, none⟩)), (4, .pointer (some ⟨b_2, 0, none⟩)), (5, .pointer (some ⟨b_3, 0, none⟩)), (6, .bool x3), (7, .bool x4), (30, .bool false)] ?_ (fun K => ?_)
   rotate_left
   ·refine WL.split (d := 32) rfl (fun c3 => ?_) (fun c3 => ?_)
    ·replace hb_2 := ite_t hb_2 c3
     refine WL.yes rfl rfl <| lq (q_move rfl) rfl <| WL.yes rfl rfl <| WL.q (q_pick1 rfl rfl) rfl rfl rfl ?_
     cases hb_2
     exact WL.keep (by exact ⟨rfl, rfl, rfl, rfl, rfl, rfl, rfl, trivial⟩) K
    ·replace hb_2 := ite_f hb_2 c3
     refine WL.no rfl rfl rfl rfl <| WL.yes rfl rfl <| WL.q (q_pick0 rfl rfl) rfl rfl rfl ?_
     cases hb_2
     exact WL.keep (by exact ⟨rfl, rfl, rfl, rfl, rfl, rfl, rfl, trivial⟩) K
   refine WL.q (q_pick0 rfl rfl) rfl rfl rfl ?_
   cases hb_1
   exact WL.keep (by exact ⟨rfl, rfl, rfl, rfl, rfl, rfl, trivial⟩) K
 refine lq (q_move rfl) rfl ?_
 obtain ⟨b3, hb_3, h⟩ := bind_some h
 refine WL.cutN 5 [(41, .bool b3), (3, .pointer (some ⟨b_1, 0, none⟩)), (4, .pointer (some ⟨b_2, 0, none⟩)), (5, .pointer (some ⟨b_3, 0, none⟩)), (6, .bool x3), (7, .bool x4)] ?_ (fun K => ?_)
 rotate_left
 ·refine WL.split (d := 36) rfl (fun c4 => ?_) (fun c4 => ?_)
  ·replace hb_3 := ite_t hb_3 c4
   refine WL.no rfl rfl rfl rfl <| WL.no rfl rfl rfl rfl <| WL.no rfl rfl rfl rfl <| WL.no rfl rfl rfl rfl <| WL.q (q_pick1 rfl rfl) rfl rfl rfl ?_
   cases hb_3
   exact WL.keep (by exact ⟨rfl, rfl, rfl, rfl, rfl, rfl, trivial⟩) K
  ·replace hb_3 := ite_f hb_3 c4
   refine WL.yes rfl rfl <| lq (q_loadN Tn_26 rfl (fun w1 hw => hw.rgO (i := 2) rfl 0 2 [.string x2.1.Name, v2] rfl) rfl) rfl <| WL.yes rfl rfl <| lq (q_loadN Tn_30 rfl (fun w1 hw => hw.rgO (i := 1) rfl 0 3 [.int .i64 x2.2.1.Rule, v3, v4] rfl) rfl) rfl <| WL.yes rfl rfl <| lq (q_loadN Tn_30 rfl (fun w1 hw => hw.rgO (i := 1) rfl 0 3 [.int .i64 x2.2.1.Rule, v3, v4] rfl) rfl) rfl <| WL.yes rfl rfl ?_
   obtain ⟨x6, hx6, hb_3⟩ := bind_some hb_3
   refine lp (p_call Fun_14 rfl (fun w1 hw => m_i_Urgent_ok hw.fro N x2.1 x2.2.1 x2.2.1 (h1.rslG OTRule.gives) h2.rsl h3.rsl h2.rsl h3.rsl hx6)) rfl <| WL.q (q_pick0 rfl rfl) rfl rfl rfl ?_
   cases hb_3
   exact WL.keep (by exact ⟨rfl, rfl, rfl, rfl, rfl, rfl, trivial⟩) K
 refine WL.nil ?_
 refine WT.cond rfl (fun c5 => ?_) (fun c5 => ?_)
 ·replace h := ite_t h c5
  refine WT.seq <| WT.region <| lq (q_assign rfl) rfl <| WL.nil ?_
  refine WT.ret Try.func3 (resOk.one rfl) (fun w1 hw => ?_)
  cases h
  exact post_of_St hw
 replace h := ite_f h c5
 refine WT.skip <| WT.seq <| WT.seq <| WT.region <| lq (q_fieldAddr Fld_30_0 rfl) rfl <| lq (q_load1 T1_3 rfl (fun w1 hw => hw.rgO (i := 1) rfl 0 1 [.int .i64 x2.2.1.Rule] rfl)) rfl <| lq (q_fieldAddr Fld_26_1 rfl) rfl <| lq (q_load1 T1_24 rfl (fun w1 hw => hw.rgO (i := 2) rfl 1 1 [v2] rfl)) rfl <| lq (q_lenR Sl_24 rfl rfl (h1.rslG OTRule.gives)) rfl <| lq (q_geq rfl rfl) rfl <| lq (q_move rfl) rfl ?_
 obtain ⟨b4, hb_4, h⟩ := bind_some h
 refine WL.cutN 7 [(55, .bool b4), (4, .pointer (some ⟨b_2, 0, none⟩)), (5, .pointer (some ⟨b_3, 0, none⟩)), (6, .bool x3), (7, .bool x4)] ?_ (fun K => ?_)
 rotate_left
 ·refine WL.split (d := 48) rfl (fun c6 => ?_) (fun c6 => ?_)
  ·replace hb_4 := ite_t hb_4 c6
   refine WL.no rfl rfl rfl rfl <| WL.no rfl rfl rfl rfl <| WL.no rfl rfl rfl rfl <| WL.no rfl rfl rfl rfl <| WL.no rfl rfl rfl rfl <| WL.no rfl rfl rfl rfl <| WL.q (q_pick1 rfl rfl) rfl rfl rfl ?_
   cases hb_4
   exact WL.keep (by exact ⟨rfl, rfl, rfl, rfl, rfl, trivial⟩) K
  ·replace hb_4 := ite_f hb_4 c6
   refine WL.yes rfl rfl <| lq (q_fieldAddr Fld_30_0 rfl) rfl <| WL.yes rfl rfl <| lq (q_load1 T1_3 rfl (fun w1 hw => hw.rgO (i := 0) rfl 0 1 [.int .i64 x2.2.2.Rule] rfl)) rfl <| WL.yes rfl rfl <| lq (q_fieldAddr Fld_26_1 rfl) rfl <| WL.yes rfl rfl <| lq (q_load1 T1_24 rfl (fun w1 hw => hw.rgO (i := 2) rfl 1 1 [v2] rfl)) rfl <| WL.yes rfl rfl <| lq (q_lenR Sl_24 rfl rfl (h1.rslG OTRule.gives)) rfl <| WL.yes rfl rfl <| lq (q_geq rfl rfl) rfl <| WL.q (q_pick0 rfl rfl) rfl rfl rfl ?_
   cases hb_4
   exact WL.keep (by exact ⟨rfl, rfl, rfl, rfl, rfl, trivial⟩) K
 refine WL.nil ?_
 refine WT.cond rfl (fun c7 => ?_) (fun c7 => ?_)
 ·replace h := ite_t h c7
  refine WT.seq <| WT.region <| lq (q_move rfl) rfl <| lq (q_not rfl) rfl <| lq (q_move rfl) rfl ?_
  obtain ⟨b5, hb_5, h⟩ := bind_some h
  refine WL.cutN 3 [(61, .bool b5)] ?_ (fun K => ?_)
  rotate_left
  ·refine WL.split (d := 58) rfl (fun c8 => ?_) (fun c8 => ?_)
   ·replace hb_5 := ite_t hb_5 c8
    refine WL.yes rfl rfl <| lq (q_move rfl) rfl <| WL.yes rfl rfl <| lq (q_not rfl) rfl <| WL.q (q_pick1 rfl rfl) rfl rfl rfl ?_
    cases hb_5
    exact WL.keep (by exact ⟨rfl, trivial⟩) K
   ·replace hb_5 := ite_f hb_5 c8
    refine WL.no rfl rfl rfl rfl <| WL.no rfl rfl rfl rfl <| WL.q (q_pick0 rfl rfl) rfl rfl rfl ?_
    cases hb_5
    exact WL.keep (by exact ⟨rfl, trivial⟩) K
  refine lq (q_assign rfl) rfl <| WL.nil ?_
  refine WT.ret Try.func3 (resOk.one rfl) (fun w1 hw => ?_)
  cases h
  exact post_of_St hw
 replace h := ite_f h c7
 refine WT.skip <| WT.seq <| WT.region <| lq (q_move rfl) rfl <| lq (q_move rfl) rfl ?_
 obtain ⟨b6, hb_6, h⟩ := bind_some h
 refine WL.cutN 2 [(65, .bool b6), (4, .pointer (some ⟨b_2, 0, none⟩)), (5, .pointer (some ⟨b_3, 0, none⟩))] ?_ (fun K => ?_)
 rotate_left
 ·refine WL.split (d := 63) rfl (fun c9 => ?_) (fun c9 => ?_)
  ·replace hb_6 := ite_t hb_6 c9
   refine WL.no rfl rfl rfl rfl <| WL.q (q_pick1 rfl rfl) rfl rfl rfl ?_
   cases hb_6
   exact WL.keep (by exact ⟨rfl, rfl, rfl, trivial⟩) K
  ·replace hb_6 := ite_f hb_6 c9
   refine WL.yes rfl rfl <| lq (q_move rfl) rfl <| WL.q (q_pick0 rfl rfl) rfl rfl rfl ?_
   cases hb_6
   exact WL.keep (by exact ⟨rfl, rfl, rfl, trivial⟩) K
 refine lq (q_loadN Tn_30 rfl (fun w1 hw => hw.rgO (i := 1) rfl 0 3 [.int .i64 x2.2.1.Rule, v3, v4] rfl) rfl) rfl <| lq (q_loadN Tn_30 rfl (fun w1 hw => hw.rgO (i := 0) rfl 0 3 [.int .i64 x2.2.2.Rule, v5, v6] rfl) rfl) rfl ?_
 obtain ⟨x7, hx7, h⟩ := bind_some h
 refine lp (p_call Fun_16 rfl (fun w1 hw => m_i_SameMatch_ok hw.fro N x2.2.1 x2.2.2 h2.rsl h3.rsl h4.rsl h5.rsl hx7)) rfl <| lq (q_bne Bo_4 rfl rfl) rfl <| lq (q_assign rfl) rfl <| WL.nil ?_
 refine WT.ret Try.func3 (resOk.one rfl) (fun w1 hw => ?_)
 cases h
 exact post_of_St hw
end Go.Proofs.Ytmhckcoabhahpaa
