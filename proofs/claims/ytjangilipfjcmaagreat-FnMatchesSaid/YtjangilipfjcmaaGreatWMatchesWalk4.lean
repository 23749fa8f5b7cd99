/- Printed by a program of ours: each Go function computes its Lean function. -/
import Derived.Test.YtjangilipfjcmaaGreatProg
import Derived.Test.YtjangilipfjcmaaGreatWMatchesWalk3
namespace Go.Proofs.YtjangilipfjcmaaGreat
open Eng
open Go.RowKit (Below)
set_option linter.unusedVariables false
set_option linter.unusedSimpArgs false

set_option maxRecDepth 100000
set_option maxHeartbeats 1000000
theorem m_s_l3Draw_ok {Φ : Hp} {w : World} (hΦ : In Φ w) (N : Nat) (p0 : Tl1Cur) {pv0_0 : Value} {pG0_0 : List Nat} {pb0 : Nat} (ph0_0 : RSl (RI .u8) 1 Φ pG0_0 pv0_0 p0.b) (pp0 : Φ pb0 = some (.cells #[pv0_0, .int .i64 p0.i, .int .i64 p0.h] 159 (0, 0))) (pd0_0 : Dj pG0_0 [[pb0]].flatten) (hB : [[pb0]].flatten.Nodup) (hlt : ∀ k ∈ [[pb0]].flatten, k < w.heap.size) {r : TFact × Tl1Cur} (h : m_s_l3Draw N p0 = some r) :
  Calls Tryz.prog 122 [.pointer (some ⟨pb0, 0, none⟩)].toArray w (PostG Φ w [[pb0]].flatten (fun Φ' Fs v => ∃ (sr_0_0 : Value), v = .agg [.string r.1.Kind, sr_0_0].toArray ∧ Fs = [ob sr_0_0, [pb0]] ∧ OSl RTVal 121 3 Φ' [] sr_0_0 r.1.Fields ∧ r.2.b = p0.b ∧ Φ' pb0 = some (.cells #[pv0_0, .int .i64 r.2.i, .int .i64 r.2.h] 159 (0, 0)))) := by
 refine enter Tryz.func122 rfl Tryz.ntmps122 rfl (St.start hΦ [[pb0]] hB hlt) ?_
 have pa0_0 : Old ⟨w, [[pb0]].flatten, Φ⟩ pG0_0 := Old.mk hΦ ph0_0.kn pd0_0
 revert pa0_0
 generalize hb0 : (⟨w, [[pb0]].flatten, Φ⟩ : Base) = w0
 intro pa0_0
 unfold m_s_l3Draw at h
 refine WT.seq <| WT.region ?_
 refine ln (n_alloc (C := #[.string (⟨#[]⟩ : ByteArray), .slice none 0 0]) Zr_116 rfl) rfl (fun b_1 => ?_)
 refine WL.nil <| WT.seq <| WT.region <| lq (q_move rfl) rfl ?_
 have rc1 : RC RS 1 Φ ([[], [], [], []] : List (List Nat)) [.string (⟨#[111, 114, 100, 101, 114]⟩ : ByteArray), .string (⟨#[112, 97, 105, 100]⟩ : ByteArray), .string (⟨#[105, 116, 101, 109]⟩ : ByteArray), .string (⟨#[111, 114, 100, 101, 114]⟩ : ByteArray)] ([(⟨#[111, 114, 100, 101, 114]⟩ : ByteArray), (⟨#[112, 97, 105, 100]⟩ : ByteArray), (⟨#[105, 116, 101, 109]⟩ : ByteArray), (⟨#[111, 114, 100, 101, 114]⟩ : ByteArray)] : List ByteArray) := RC.cons (c := [.string (⟨#[111, 114, 100, 101, 114]⟩ : ByteArray)]) (cells := [.string (⟨#[112, 97, 105, 100]⟩ : ByteArray), .string (⟨#[105, 116, 101, 109]⟩ : ByteArray), .string (⟨#[111, 114, 100, 101, 114]⟩ : ByteArray)]) ⟨rfl, rfl⟩ rfl (RC.cons (c := [.string (⟨#[112, 97, 105, 100]⟩ : ByteArray)]) (cells := [.string (⟨#[105, 116, 101, 109]⟩ : ByteArray), .string (⟨#[111, 114, 100, 101, 114]⟩ : ByteArray)]) ⟨rfl, rfl⟩ rfl (RC.cons (c := [.string (⟨#[105, 116, 101, 109]⟩ : ByteArray)]) (cells := [.string (⟨#[111, 114, 100, 101, 114]⟩ : ByteArray)]) ⟨rfl, rfl⟩ rfl (RC.cons (c := [.string (⟨#[111, 114, 100, 101, 114]⟩ : ByteArray)]) (cells := []) ⟨rfl, rfl⟩ rfl (RC.nil _ _ _))))
 refine le' (e_lit (vs := [(0, .string (⟨#[111, 114, 100, 101, 114]⟩ : ByteArray)), (1, .string (⟨#[112, 97, 105, 100]⟩ : ByteArray)), (2, .string (⟨#[105, 116, 101, 109]⟩ : ByteArray)), (3, .string (⟨#[111, 114, 100, 101, 114]⟩ : ByteArray))]) (C := #[.string (⟨#[111, 114, 100, 101, 114]⟩ : ByteArray), .string (⟨#[112, 97, 105, 100]⟩ : ByteArray), .string (⟨#[105, 116, 101, 109]⟩ : ByteArray), .string (⟨#[111, 114, 100, 101, 114]⟩ : ByteArray)]) RS.lasts Sl_137 Zr_9 rfl rfl rfl rfl (fill_made MC_9_4 (fill_cons (cells := [.string ⟨#[]⟩, .string ⟨#[]⟩, .string ⟨#[]⟩, .string ⟨#[]⟩]) (c := [.string (⟨#[111, 114, 100, 101, 114]⟩ : ByteArray)]) (C' := [.string (⟨#[111, 114, 100, 101, 114]⟩ : ByteArray), .string ⟨#[]⟩, .string ⟨#[]⟩, .string ⟨#[]⟩]) rfl rfl rfl rfl rfl (fill_cons (cells := [.string (⟨#[111, 114, 100, 101, 114]⟩ : ByteArray), .string ⟨#[]⟩, .string ⟨#[]⟩, .string ⟨#[]⟩]) (c := [.string (⟨#[112, 97, 105, 100]⟩ : ByteArray)]) (C' := [.string (⟨#[111, 114, 100, 101, 114]⟩ : ByteArray), .string (⟨#[112, 97, 105, 100]⟩ : ByteArray), .string ⟨#[]⟩, .string ⟨#[]⟩]) rfl rfl rfl rfl rfl (fill_cons (cells := [.string (⟨#[111, 114, 100, 101, 114]⟩ : ByteArray), .string (⟨#[112, 97, 105, 100]⟩ : ByteArray), .string ⟨#[]⟩, .string ⟨#[]⟩]) (c := [.string (⟨#[105, 116, 101, 109]⟩ : ByteArray)]) (C' := [.string (⟨#[111, 114, 100, 101, 114]⟩ : ByteArray), .string (⟨#[112, 97, 105, 100]⟩ : ByteArray), .string (⟨#[105, 116, 101, 109]⟩ : ByteArray), .string ⟨#[]⟩]) rfl rfl rfl rfl rfl (fill_cons (cells := [.string (⟨#[111, 114, 100, 101, 114]⟩ : ByteArray), .string (⟨#[112, 97, 105, 100]⟩ : ByteArray), .string (⟨#[105, 116, 101, 109]⟩ : ByteArray), .string ⟨#[]⟩]) (c := [.string (⟨#[111, 114, 100, 101, 114]⟩ : ByteArray)]) (C' := [.string (⟨#[111, 114, 100, 101, 114]⟩ : ByteArray), .string (⟨#[112, 97, 105, 100]⟩ : ByteArray), .string (⟨#[105, 116, 101, 109]⟩ : ByteArray), .string (⟨#[111, 114, 100, 101, 114]⟩ : ByteArray)]) rfl rfl rfl rfl rfl (fill_nil)))))) rfl rc1 rfl (by simpa using Kw.nil)) rfl (fun v1 Φ_1 D1 q1 => ?_)
 obtain ⟨fr1, h1⟩ := q1
 replace h1 : OSl RS 9 1 Φ_1 [] v1 ([(⟨#[111, 114, 100, 101, 114]⟩ : ByteArray), (⟨#[112, 97, 105, 100]⟩ : ByteArray), (⟨#[105, 116, 101, 109]⟩ : ByteArray), (⟨#[111, 114, 100, 101, 114]⟩ : ByteArray)] : List ByteArray) := by simpa using h1
 replace ph0_0 := ph0_0.frame RI.lasts fr1 (Dj.empty _)
 replace pp0 := fr1 _ _ (by simp) pp0
 obtain ⟨x1, hx1, h⟩ := bind_some h
 refine lc (k_call (js := [1]) (R := [ob v1]) Fun_101 rfl rfl (fun w1 hw ap hl => m_s_l1Str_ok hw.fro N p0 ([(⟨#[111, 114, 100, 101, 114]⟩ : ByteArray), (⟨#[112, 97, 105, 100]⟩ : ByteArray), (⟨#[105, 116, 101, 109]⟩ : ByteArray), (⟨#[111, 114, 100, 101, 114]⟩ : ByteArray)] : List ByteArray) ph0_0 pp0 h1.rsl (ap.o pa0_0) (Dj.app (ap.r (i := 0) rfl) (Dj.nil _)) ap.nd hl hx1)) rfl (fun v2 Φ_2 F1 q2 => ?_)
 obtain ⟨ap1, fr2, rfl, rfl, e1, h2⟩ := q2
 replace ph0_0 := ph0_0.frame RI.lasts fr2 (ap1.o pa0_0)
 refine lq (q_build (vs := [(0, .string x1.1)]) (C := #[.string x1.1, .slice none 0 0]) Pl_116 Zr_116 rfl (fill_cons (cells := [.string ⟨#[]⟩, .slice none 0 0]) (c := [.string x1.1]) (C' := [.string x1.1, .slice none 0 0]) rfl rfl rfl rfl rfl (fill_nil))) rfl ?_
 refine ln (n_alloc (C := #[.string (⟨#[]⟩ : ByteArray), .slice none 0 0]) Zr_116 rfl) rfl (fun b_2 => ?_)
 refine ls (s_store (i := 0) (vs := [.string x1.1, .slice none 0 0]) (C' := [.string x1.1, .slice none 0 0]) (O' := [(b_2, .cells #[.string x1.1, .slice none 0 0] 116 (0, 0)), (b_1, .cells #[.string (⟨#[]⟩ : ByteArray), .slice none 0 0] 116 (0, 0))]) Sz_116 rfl rfl rfl rfl rfl rfl ⟨rfl, rfl, trivial⟩ rfl rfl) rfl <| WL.nil <| WT.seq <| WT.region <| lq (q_assign rfl) rfl <| WL.nil <| WT.seq <| WT.seq <| WT.region <| lq (q_fieldAddr Fld_116_0 rfl) rfl ?_
 refine lq (q_load1 T1_9 rfl (fun w1 hw => hw.rgO (i := 0) rfl 0 1 [.string x1.1] rfl)) rfl <| lq (q_seq rfl rfl) rfl <| WL.nil ?_
 refine cut (σ := Int) (fun s => [(0, .pointer (some ⟨pb0, 0, none⟩)), (2, .pointer (some ⟨b_1, 0, none⟩)), (3, .pointer (some ⟨b_2, 0, none⟩)), (4, .int .i64 s)]) (fun s => St w0 Φ_2 [(b_2, .cells #[.string x1.1, .slice none 0 0] 116 (0, 0)), (b_1, .cells #[.string (⟨#[]⟩ : ByteArray), .slice none 0 0] 116 (0, 0))] [[pb0]]) (fun s => m_s_l3Draw_j1 N p0 x1 s = some r) (fun s hm => ?_) (fun K => ?_)
 ·clear h
  revert hm; revert s; intro s1 hm
  have h : m_s_l3Draw_j1 N p0 x1 s1 = some r := hm
  show WT _ _ [(0, .pointer (some ⟨pb0, 0, none⟩)), (2, .pointer (some ⟨b_1, 0, none⟩)), (3, .pointer (some ⟨b_2, 0, none⟩)), (4, .int .i64 s1)] (St w0 Φ_2 [(b_2, .cells #[.string x1.1, .slice none 0 0] 116 (0, 0)), (b_1, .cells #[.string (⟨#[]⟩ : ByteArray), .slice none 0 0] 116 (0, 0))] [[pb0]])
  unfold m_s_l3Draw_j1 at h
  refine WT.seq <| WT.seq <| WT.region <| lq (q_move rfl) rfl ?_
  obtain ⟨x2, hx2, h⟩ := bind_some h
  refine lc (k_call (js := [0]) (R := []) Fun_47 rfl rfl (fun w1 hw ap hl => m_s_l1Once_ok hw.fro N (⟨p0.b, x1.2.i, x1.2.h⟩ : Tl1Cur) 12 ph0_0 h2 (ap.o pa0_0) ap.nd hl hx2)) rfl (fun v3 Φ_3 F2 q3 => ?_)
  obtain ⟨ap2, fr3, rfl, rfl, e2, h3⟩ := q3
  replace ph0_0 := ph0_0.frame RI.lasts fr3 (ap2.o pa0_0)
  refine WL.nil ?_
  refine cut (σ := Hp × Int × Int × Int) (fun s => [(0, .pointer (some ⟨pb0, 0, none⟩)), (2, .pointer (some ⟨b_1, 0, none⟩)), (3, .pointer (some ⟨b_2, 0, none⟩)), (4, .int .i64 s.2.1)]) (fun s => St w0 s.1 [(b_2, .cells #[.string x1.1, .slice none 0 0] 116 (0, 0)), (b_1, .cells #[.string (⟨#[]⟩ : ByteArray), .slice none 0 0] 116 (0, 0))] [[pb0]]) (fun s => m_s_l3Draw_j2 N p0 x1 s.2.1 s.2.2.1 s.2.2.2 = some r ∧ (s.1 pb0 = some (.cells #[pv0_0, .int .i64 s.2.2.1, .int .i64 s.2.2.2] 159 (0, 0))) ∧ (RSl (RI .u8) 1 s.1 pG0_0 pv0_0 p0.b)) (fun s hm => ?_) (fun K => ?_)
  ·clear h
   obtain ⟨Φ_4, s2, s3, s4⟩ := s
   obtain ⟨h, k1, ph0_0⟩ := hm
   replace h : m_s_l3Draw_j2 N p0 x1 s2 s3 s4 = some r := h
   replace k1 : Φ_4 pb0 = some (.cells #[pv0_0, .int .i64 s3, .int .i64 s4] 159 (0, 0)) := k1
   replace ph0_0 : RSl (RI .u8) 1 Φ_4 pG0_0 pv0_0 p0.b := ph0_0
   show WT _ _ [(0, .pointer (some ⟨pb0, 0, none⟩)), (2, .pointer (some ⟨b_1, 0, none⟩)), (3, .pointer (some ⟨b_2, 0, none⟩)), (4, .int .i64 s2)] (St w0 Φ_4 [(b_2, .cells #[.string x1.1, .slice none 0 0] 116 (0, 0)), (b_1, .cells #[.string (⟨#[]⟩ : ByteArray), .slice none 0 0] 116 (0, 0))] [[pb0]])
   unfold m_s_l3Draw_j2 at h
   refine WT.seq <| WT.seq <| WT.region <| lq (q_assign rfl) rfl <| WL.nil <| WT.block <| WT.loop <| WT.conv (S' := St w0 Φ_4 [(b_2, .cells #[.string x1.1, .slice none 0 0] 116 (0, 0)), (b_1, .cells #[.string (⟨#[]⟩ : ByteArray), .slice none 0 0] 116 (0, 0))] (ob (.slice none 0 0) :: [[pb0]])) (fun w1 hw => hw.addNil) ?_
   have k2 := OSl.nil RTVal 121 3 Φ_4
   refine WT.mono (l' := [(0, .pointer (some ⟨pb0, 0, none⟩)), (2, .pointer (some ⟨b_1, 0, none⟩)), (3, .pointer (some ⟨b_2, 0, none⟩)), (4, .int .i64 s2), (5, .int .i64 0)]) (S' := St w0 Φ_4 [(b_2, .cells #[.string x1.1, (.slice none 0 0)] 116 (0, 0)), (b_1, .cells #[.string (⟨#[]⟩ : ByteArray), .slice none 0 0] 116 (0, 0))] [ob (.slice none 0 0), [pb0]]) ⟨rfl, rfl, rfl, rfl, rfl, trivial⟩ (fun w1 hw => (hw.sel (js := [0, 0]) rfl).selO (js := [0, 0]) rfl) ?_
   refine loop_ind (σ := Hp × (List TVal) × Value × Int × Int × Int) (fun s => [(0, .pointer (some ⟨pb0, 0, none⟩)), (2, .pointer (some ⟨b_1, 0, none⟩)), (3, .pointer (some ⟨b_2, 0, none⟩)), (4, .int .i64 s2), (5, .int .i64 s.2.2.2.1)]) (fun s => St w0 s.1 [(b_2, .cells #[.string x1.1, s.2.2.1] 116 (0, 0)), (b_1, .cells #[.string (⟨#[]⟩ : ByteArray), .slice none 0 0] 116 (0, 0))] [ob s.2.2.1, [pb0]]) (fun m s => m_s_l3Draw_l3 N p0 x1 s2 m s.2.1 s.2.2.2.1 s.2.2.2.2.1 s.2.2.2.2.2 = some r ∧ (OSl RTVal 121 3 s.1 [] s.2.2.1 s.2.1) ∧ (s.1 pb0 = some (.cells #[pv0_0, .int .i64 s.2.2.2.2.1, .int .i64 s.2.2.2.2.2] 159 (0, 0))) ∧ (RSl (RI .u8) 1 s.1 pG0_0 pv0_0 p0.b)) (fun s hm => none_ne (show (none : Option (TFact × Tl1Cur)) = some r from hm.1)) (fun n3 ih3 s hm => ?_) N (Φ_4, ([] : List TVal), (.slice none 0 0), 0, s3, s4) ⟨h, k2, k1, ph0_0⟩
   obtain ⟨Φ_5, s5, u1, s6, s7, s8⟩ := s
   obtain ⟨h, k3, k4, ph0_0⟩ := hm
   replace h : m_s_l3Draw_l3 N p0 x1 s2 (n3 + 1) s5 s6 s7 s8 = some r := h
   replace k3 : OSl RTVal 121 3 Φ_5 [] u1 s5 := k3
   replace k4 : Φ_5 pb0 = some (.cells #[pv0_0, .int .i64 s7, .int .i64 s8] 159 (0, 0)) := k4
   replace ph0_0 : RSl (RI .u8) 1 Φ_5 pG0_0 pv0_0 p0.b := ph0_0
   show WT _ _ [(0, .pointer (some ⟨pb0, 0, none⟩)), (2, .pointer (some ⟨b_1, 0, none⟩)), (3, .pointer (some ⟨b_2, 0, none⟩)), (4, .int .i64 s2), (5, .int .i64 s6)] (St w0 Φ_5 [(b_2, .cells #[.string x1.1, u1] 116 (0, 0)), (b_1, .cells #[.string (⟨#[]⟩ : ByteArray), .slice none 0 0] 116 (0, 0))] [ob u1, [pb0]])
   unfold m_s_l3Draw_l3 at h
   refine WT.seq <| WT.seq <| WT.region <| lq (q_move rfl) rfl <| lq (q_move rfl) rfl <| lq (q_lss rfl rfl) rfl <| WL.nil ?_
   refine WT.cond rfl (fun c1 => ?_) (fun c1 => ?_)
   ·replace h := ite_t h c1
    refine WT.skip <| WT.seq <| WT.block <| WT.mix (Kn Φ_5 [] [(b_2, .cells #[.string x1.1, u1] 116 (0, 0)), (b_1, .cells #[.string (⟨#[]⟩ : ByteArray), .slice none 0 0] 116 (0, 0))]) (fun i => match i with | 7 => false | _ => true) mixed (fun _ h => h.drew) <| mq 0 rfl (by kernel_rfl) (fun w1 hw => Kn.of (fun k hk _ _ => by simp at hk) (AllIn.mem ⟨gM 0 rfl, gM 1 rfl, trivial⟩) hw) (q_fieldAddr Fld_116_1 rfl) rfl ?_
    refine mq 1 rfl (by kernel_rfl) (fun w1 hw => Kn.of (fun k hk _ _ => by simp at hk) (AllIn.mem ⟨gM 0 rfl, gM 1 rfl, trivial⟩) hw) (q_load1 T1_100 rfl (fun w1 hw => hw.rgO (i := 0) rfl 1 1 [u1] rfl)) rfl <| mq 2 rfl (by kernel_rfl) (fun w1 hw => Kn.of (fun k hk _ _ => by simp at hk) (AllIn.mem ⟨gM 0 rfl, gM 1 rfl, trivial⟩) hw) (q_move rfl) rfl ?_
    obtain ⟨x3, hx3, h⟩ := bind_some h
    refine WM.one 3 (by kernel_rfl) (mc rfl (fun _ v Φx D w1 hq hw => Kn.of (fun k hk _ _ => by simp at hk) (AllIn.mem ⟨gM 0 rfl, gM 1 rfl, trivial⟩) hw) (k_call (js := [1]) (R := [ob u1]) Fun_183 rfl rfl (fun w1 hw ap hl => m_s_l3Small_ok hw.fro N (⟨p0.b, s7, s8⟩ : Tl1Cur) ph0_0 k4 (ap.o pa0_0) ap.nd hl hx3)) rfl (fun v4 Φ_6 F3 q4 => ?_))
    obtain ⟨ap3, fr4, rfl, rfl, e3, h4⟩ := q4
    replace ph0_0 := ph0_0.frame RI.lasts fr4 (ap3.o pa0_0)
    replace k3 := k3.frame RTVal.lasts fr4 (ap3.r (i := 0) rfl) (Dj.nil _)
    have rc2 : RC RTVal 3 Φ_6 ([[]] : List (List Nat)) [.int .i64 x3.1.K, .int .i64 x3.1.N, .string x3.1.S] ([x3.1] : List TVal) := RC.cons (c := [.int .i64 x3.1.K, .int .i64 x3.1.N, .string x3.1.S]) (cells := []) ⟨rfl, rfl⟩ rfl (RC.nil _ _ _)
    refine WM.one 4 (by kernel_rfl) (me rfl (fun _ v Φx D w1 hq hw => Kn.of (fun k hk _ _ => by simp at hk) (AllIn.mem ⟨gM 0 rfl, gM 1 rfl, trivial⟩) hw) (e_lit (vs := [(0, .agg [.int .i64 x3.1.K, .int .i64 x3.1.N, .string x3.1.S].toArray)]) (C := #[.int .i64 x3.1.K, .int .i64 x3.1.N, .string x3.1.S]) RTVal.lasts Sl_100 Zr_121 rfl rfl rfl rfl (fill_made MC_121_1 (fill_cons (cells := [.int .i64 0, .int .i64 0, .string ⟨#[]⟩]) (c := [.int .i64 x3.1.K, .int .i64 x3.1.N, .string x3.1.S]) (C' := [.int .i64 x3.1.K, .int .i64 x3.1.N, .string x3.1.S]) rfl rfl rfl rfl rfl (fill_nil))) rfl rc2 rfl (by simpa using Kw.nil)) rfl (fun v5 Φ_7 D2 q5 => ?_))
    obtain ⟨fr5, h5⟩ := q5
    replace h5 : OSl RTVal 121 3 Φ_7 [] v5 ([x3.1] : List TVal) := by simpa using h5
    replace ph0_0 := ph0_0.frame RI.lasts fr5 (Dj.empty _)
    replace k3 := k3.frame RTVal.lasts fr5 (Dj.empty _) (Dj.empty _)
    replace h4 := fr5 _ _ (by simp) h4
    obtain ⟨x4, hx4, h⟩ := bind_some h
    refine WM.one 5 (by kernel_rfl) (me rfl (fun _ v Φx D w1 hq hw => Kn.of (fun k hk _ _ => by simp at hk) (AllIn.mem ⟨gM 0 rfl, gM 1 rfl, trivial⟩) hw) (e_appF RTVal.lasts RTVal.one RTVal.flat Sl_100 Ei_121 rfl rfl rfl rfl rfl (js := [2]) (Rr := [ob v5, [pb0]]) rfl k3 h5.rsl hx4) rfl (fun v6 Φ_8 D3 q6 => ?_))
    obtain ⟨⟨ap4, fr6⟩, h6⟩ := q6
    replace ph0_0 := ph0_0.frame RI.lasts fr6 (ap4.o pa0_0)
    replace h4 := fr6 _ _ ((ap4.r (i := 1) rfl) _ (by simp)) h4
    refine mq 6 rfl (by kernel_rfl) (fun w1 hw => Kn.of (fun k hk _ _ => by simp at hk) (AllIn.mem ⟨gM 0 rfl, gM 1 rfl, trivial⟩) hw) (q_fieldAddr Fld_116_1 rfl) rfl ?_
    refine WM.one 7 (by kernel_rfl) (ms rfl (fun hc => by cases hc) (s_store (i := 0) (vs := [v6]) (C' := [.string x1.1, v6]) (O' := [(b_2, .cells #[.string x1.1, v6] 116 (0, 0)), (b_1, .cells #[.string (⟨#[]⟩ : ByteArray), .slice none 0 0] 116 (0, 0))]) Sz_100 rfl rfl rfl (one_cells h6.one) rfl rfl ⟨h6.one, trivial⟩ rfl rfl) rfl ?_)
    refine WM.nil (by kernel_rfl) <| WT.inBlock <| WT.region <| lq (q_move rfl) rfl <| lq (q_add rfl rfl) rfl <| lq (q_assign rfl) rfl <| WL.nil ?_
    refine WT.inLoop (WT.mono (l' := [(0, .pointer (some ⟨pb0, 0, none⟩)), (2, .pointer (some ⟨b_1, 0, none⟩)), (3, .pointer (some ⟨b_2, 0, none⟩)), (4, .int .i64 s2), (5, .int .i64 (IntKind.i64.wrap (s6 + 1)))]) (S' := St w0 Φ_8 [(b_2, .cells #[.string x1.1, v6] 116 (0, 0)), (b_1, .cells #[.string (⟨#[]⟩ : ByteArray), .slice none 0 0] 116 (0, 0))] [ob v6, [pb0]]) ⟨rfl, rfl, rfl, rfl, rfl, trivial⟩ (fun w1 hw => (hw.sel (js := [0, 1]) rfl).selO (js := [0, 0]) rfl) ?_)
    exact ih3 (Φ_8, x4, v6, IntKind.i64.wrap (s6 + 1), x3.2.i, x3.2.h) ⟨h, h6, h4, ph0_0⟩
   replace h := ite_f h c1
   refine WT.exit rfl <| WT.seq <| WT.region <| lq (q_loadN Tn_116 rfl (fun w1 hw => hw.rgO (i := 0) rfl 0 2 [.string x1.1, u1] rfl) rfl) rfl <| ls (s_store (i := 1) (vs := [.string x1.1, u1]) (C' := [.string x1.1, u1]) (O' := [(b_2, .cells #[.string x1.1, u1] 116 (0, 0)), (b_1, .cells #[.string x1.1, u1] 116 (0, 0))]) Sz_116 rfl rfl rfl rfl rfl rfl ⟨rfl, k3.one, trivial⟩ rfl rfl) rfl <| WL.nil ?_
   refine WT.ret Tryz.func122 (resOk.one (rv_cell Tn_116 rfl (fun w1 hw => hw.rgO (i := 1) rfl 0 2 [.string x1.1, u1] rfl) rfl)) (fun w1 hw => ?_)
   subst hb0
   cases h
   refine postG_of_St (js := [0, 0]) hw rfl ⟨u1, rfl, rfl, k3, rfl, k4⟩
  refine WT.cond rfl (fun c2 => ?_) (fun c2 => ?_)
  ·replace h := ite_t h c2
   refine WT.region <| lq (q_move rfl) rfl ?_
   obtain ⟨x5, hx5, h⟩ := bind_some h
   refine lc (k_call (js := [0]) (R := []) Fun_59 rfl rfl (fun w1 hw ap hl => m_s_l1Below_ok hw.fro N (⟨p0.b, x2.2.i, x2.2.h⟩ : Tl1Cur) 6 ph0_0 h3 (ap.o pa0_0) ap.nd hl hx5)) rfl (fun v7 Φ_9 F4 q7 => ?_)
   obtain ⟨ap5, fr7, rfl, rfl, e4, h7⟩ := q7
   replace ph0_0 := ph0_0.frame RI.lasts fr7 (ap5.o pa0_0)
   refine lq (q_assign rfl) rfl <| WL.nil <| WT.mono (l' := [(0, .pointer (some ⟨pb0, 0, none⟩)), (2, .pointer (some ⟨b_1, 0, none⟩)), (3, .pointer (some ⟨b_2, 0, none⟩)), (4, .int .i64 x5.1)]) (S' := St w0 Φ_9 [(b_2, .cells #[.string x1.1, .slice none 0 0] 116 (0, 0)), (b_1, .cells #[.string (⟨#[]⟩ : ByteArray), .slice none 0 0] 116 (0, 0))] [[pb0]]) ⟨rfl, rfl, rfl, rfl, trivial⟩ (fun w1 hw => (hw.sel (js := [0]) rfl).selO (js := [0, 0]) rfl) ?_
   exact K (Φ_9, x5.1, x5.2.i, x5.2.h) ⟨h, h7, ph0_0⟩
  replace h := ite_f h c2
  refine WT.skip <| WT.mono (l' := [(0, .pointer (some ⟨pb0, 0, none⟩)), (2, .pointer (some ⟨b_1, 0, none⟩)), (3, .pointer (some ⟨b_2, 0, none⟩)), (4, .int .i64 s1)]) (S' := St w0 Φ_3 [(b_2, .cells #[.string x1.1, .slice none 0 0] 116 (0, 0)), (b_1, .cells #[.string (⟨#[]⟩ : ByteArray), .slice none 0 0] 116 (0, 0))] [[pb0]]) ⟨rfl, rfl, rfl, rfl, trivial⟩ (fun w1 hw => (hw.sel (js := [0]) rfl).selO (js := [0, 0]) rfl) ?_
  exact K (Φ_3, s1, x2.2.i, x2.2.h) ⟨h, h3, ph0_0⟩
 refine WT.cond rfl (fun c3 => ?_) (fun c3 => ?_)
 ·replace h := ite_t h c3
  refine WT.region <| lq (q_assign rfl) rfl <| WL.nil <| WT.mono (l' := [(0, .pointer (some ⟨pb0, 0, none⟩)), (2, .pointer (some ⟨b_1, 0, none⟩)), (3, .pointer (some ⟨b_2, 0, none⟩)), (4, .int .i64 2)]) (S' := St w0 Φ_2 [(b_2, .cells #[.string x1.1, .slice none 0 0] 116 (0, 0)), (b_1, .cells #[.string (⟨#[]⟩ : ByteArray), .slice none 0 0] 116 (0, 0))] [[pb0]]) ⟨rfl, rfl, rfl, rfl, trivial⟩ (fun w1 hw => (hw.sel (js := [0]) rfl).selO (js := [0, 0]) rfl) ?_
  exact K (2) h
 replace h := ite_f h c3
 refine WT.skip <| WT.mono (l' := [(0, .pointer (some ⟨pb0, 0, none⟩)), (2, .pointer (some ⟨b_1, 0, none⟩)), (3, .pointer (some ⟨b_2, 0, none⟩)), (4, .int .i64 1)]) (S' := St w0 Φ_2 [(b_2, .cells #[.string x1.1, .slice none 0 0] 116 (0, 0)), (b_1, .cells #[.string (⟨#[]⟩ : ByteArray), .slice none 0 0] 116 (0, 0))] [[pb0]]) ⟨rfl, rfl, rfl, rfl, trivial⟩ (fun w1 hw => (hw.sel (js := [0]) rfl).selO (js := [0, 0]) rfl) ?_
 exact K (1) h
theorem m_s_l4Draw_ok {Φ : Hp} {w : World} (hΦ : In Φ w) (N : Nat) (p0 : Tl1Cur) {pv0_0 : Value} {pG0_0 : List Nat} {pb0 : Nat} (ph0_0 : RSl (RI .u8) 1 Φ pG0_0 pv0_0 p0.b) (pp0 : Φ pb0 = some (.cells #[pv0_0, .int .i64 p0.i, .int .i64 p0.h] 159 (0, 0))) (pd0_0 : Dj pG0_0 [[pb0]].flatten) (hB : [[pb0]].flatten.Nodup) (hlt : ∀ k ∈ [[pb0]].flatten, k < w.heap.size) {r : TStore × Tl1Cur} (h : m_s_l4Draw N p0 = some r) :
  Calls Tryz.prog 57 [.pointer (some ⟨pb0, 0, none⟩)].toArray w (PostG Φ w [[pb0]].flatten (fun Φ' Fs v => ∃ (sr_0_0 : Value) (Dr_0_0 : List Nat) (X : List Nat), v = .agg [sr_0_0, .int .i64 r.1.Next].toArray ∧ Fs = [ob sr_0_0, [pb0], X] ∧ OSl RTItem 142 3 Φ' Dr_0_0 sr_0_0 r.1.Items ∧ (∀ k ∈ Dr_0_0, k ∈ X) ∧ r.2.b = p0.b ∧ Φ' pb0 = some (.cells #[pv0_0, .int .i64 r.2.i, .int .i64 r.2.h] 159 (0, 0)))) := by
 refine enter Tryz.func57 rfl Tryz.ntmps57 rfl (St.start hΦ [[pb0]] hB hlt) ?_
 have pa0_0 : Old ⟨w, [[pb0]].flatten, Φ⟩ pG0_0 := Old.mk hΦ ph0_0.kn pd0_0
 revert pa0_0
 generalize hb0 : (⟨w, [[pb0]].flatten, Φ⟩ : Base) = w0
 intro pa0_0
 unfold m_s_l4Draw at h
 refine WT.seq <| WT.region ?_
 refine ln (n_alloc (C := #[.slice none 0 0, .int .i64 0]) Zr_52 rfl) rfl (fun b_1 => ?_)
 refine WL.nil <| WT.seq <| WT.region <| lq (q_build (vs := [(1, .int .i64 1)]) (C := #[.slice none 0 0, .int .i64 1]) Pl_52 Zr_52 rfl (fill_cons (cells := [.slice none 0 0, .int .i64 0]) (c := [.int .i64 1]) (C' := [.slice none 0 0, .int .i64 1]) rfl rfl rfl rfl rfl (fill_nil))) rfl ?_
 refine ln (n_alloc (C := #[.slice none 0 0, .int .i64 0]) Zr_52 rfl) rfl (fun b_2 => ?_)
 refine ls (s_store (i := 0) (vs := [.slice none 0 0, .int .i64 1]) (C' := [.slice none 0 0, .int .i64 1]) (O' := [(b_2, .cells #[.slice none 0 0, .int .i64 1] 52 (0, 0)), (b_1, .cells #[.slice none 0 0, .int .i64 0] 52 (0, 0))]) Sz_52 rfl rfl rfl rfl rfl rfl ⟨rfl, rfl, trivial⟩ rfl rfl) rfl <| WL.nil <| WT.seq <| WT.seq <| WT.region <| lq (q_move rfl) rfl ?_
 obtain ⟨x1, hx1, h⟩ := bind_some h
 refine lc (k_call (js := [0]) (R := []) Fun_59 rfl rfl (fun w1 hw ap hl => m_s_l1Below_ok hw.fro N p0 9 ph0_0 pp0 (ap.o pa0_0) ap.nd hl hx1)) rfl (fun v1 Φ_1 F1 q1 => ?_)
 obtain ⟨ap1, fr1, rfl, rfl, e1, h1⟩ := q1
 replace ph0_0 := ph0_0.frame RI.lasts fr1 (ap1.o pa0_0)
 refine lq (q_assign rfl) rfl <| WL.nil <| WT.block <| WT.loop <| WT.conv (S' := St w0 Φ_1 [(b_2, .cells #[.slice none 0 0, .int .i64 1] 52 (0, 0)), (b_1, .cells #[.slice none 0 0, .int .i64 0] 52 (0, 0))] ([] :: [[pb0]])) (fun w1 hw => hw.addNil) <| WT.conv (S' := St w0 Φ_1 [(b_2, .cells #[.slice none 0 0, .int .i64 1] 52 (0, 0)), (b_1, .cells #[.slice none 0 0, .int .i64 0] 52 (0, 0))] (ob (.slice none 0 0) :: [[], [pb0]])) (fun w1 hw => hw.addNil) ?_
 have k1 := OSl.nil RTItem 142 3 Φ_1
 refine WT.mono (l' := [(0, .pointer (some ⟨pb0, 0, none⟩)), (2, .pointer (some ⟨b_1, 0, none⟩)), (3, .pointer (some ⟨b_2, 0, none⟩)), (4, .int .i64 x1.1)]) (S' := St w0 Φ_1 [(b_2, .cells #[(.slice none 0 0), .int .i64 1] 52 (0, 0)), (b_1, .cells #[.slice none 0 0, .int .i64 0] 52 (0, 0))] [ob (.slice none 0 0), [], [pb0]]) ⟨rfl, rfl, rfl, rfl, trivial⟩ (fun w1 hw => (hw.sel (js := [0, 0, 0]) rfl).selO (js := [0, 0]) rfl) ?_
 refine loop_ind (σ := Hp × List Nat × (List TItem) × Value × List Nat × Int × Int × Int × Int) (fun s => [(0, .pointer (some ⟨pb0, 0, none⟩)), (2, .pointer (some ⟨b_1, 0, none⟩)), (3, .pointer (some ⟨b_2, 0, none⟩)), (4, .int .i64 s.2.2.2.2.2.1)]) (fun s => St w0 s.1 [(b_2, .cells #[s.2.2.2.1, .int .i64 s.2.2.2.2.2.2.2.2] 52 (0, 0)), (b_1, .cells #[.slice none 0 0, .int .i64 0] 52 (0, 0))] [ob s.2.2.2.1, s.2.1, [pb0]]) (fun m s => m_s_l4Draw_l1 N p0 m s.2.2.1 s.2.2.2.2.2.1 s.2.2.2.2.2.2.1 s.2.2.2.2.2.2.2.1 s.2.2.2.2.2.2.2.2 = some r ∧ (OSl RTItem 142 3 s.1 s.2.2.2.2.1 s.2.2.2.1 s.2.2.1) ∧ (∀ k ∈ s.2.2.2.2.1, k ∈ s.2.1) ∧ (s.1 pb0 = some (.cells #[pv0_0, .int .i64 s.2.2.2.2.2.2.1, .int .i64 s.2.2.2.2.2.2.2.1] 159 (0, 0))) ∧ (RSl (RI .u8) 1 s.1 pG0_0 pv0_0 p0.b)) (fun s hm => none_ne (show (none : Option (TStore × Tl1Cur)) = some r from hm.1)) (fun n1 ih1 s hm => ?_) N (Φ_1, [], ([] : List TItem), (.slice none 0 0), [], x1.1, x1.2.i, x1.2.h, 1) ⟨h, k1, (by simp), h1, ph0_0⟩
 obtain ⟨Φ_2, X1, s1, u1, D1, s2, s3, s4, s5⟩ := s
 obtain ⟨h, k2, i1, k3, ph0_0⟩ := hm
 replace h : m_s_l4Draw_l1 N p0 (n1 + 1) s1 s2 s3 s4 s5 = some r := h
 replace k2 : OSl RTItem 142 3 Φ_2 D1 u1 s1 := k2
 replace i1 : ∀ k ∈ D1, k ∈ X1 := i1
 replace k3 : Φ_2 pb0 = some (.cells #[pv0_0, .int .i64 s3, .int .i64 s4] 159 (0, 0)) := k3
 replace ph0_0 : RSl (RI .u8) 1 Φ_2 pG0_0 pv0_0 p0.b := ph0_0
 show WT _ _ [(0, .pointer (some ⟨pb0, 0, none⟩)), (2, .pointer (some ⟨b_1, 0, none⟩)), (3, .pointer (some ⟨b_2, 0, none⟩)), (4, .int .i64 s2)] (St w0 Φ_2 [(b_2, .cells #[u1, .int .i64 s5] 52 (0, 0)), (b_1, .cells #[.slice none 0 0, .int .i64 0] 52 (0, 0))] [ob u1, X1, [pb0]])
 unfold m_s_l4Draw_l1 at h
 refine WT.seq <| WT.seq <| WT.region <| lq (q_move rfl) rfl <| lq (q_gtr rfl rfl) rfl <| WL.nil ?_
 refine WT.cond rfl (fun c1 => ?_) (fun c1 => ?_)
 ·replace h := ite_t h c1
  refine WT.skip <| WT.seq <| WT.block <| WT.seq <| WT.seq <| WT.region <| lq (q_move rfl) rfl ?_
  obtain ⟨x2, hx2, h⟩ := bind_some h
  refine lc (k_call (js := [2]) (R := [ob u1, X1]) Fun_47 rfl rfl (fun w1 hw ap hl => m_s_l1Once_ok hw.fro N (⟨p0.b, s3, s4⟩ : Tl1Cur) 5 ph0_0 k3 (ap.o pa0_0) ap.nd hl hx2)) rfl (fun v2 Φ_3 F2 q2 => ?_)
  obtain ⟨ap2, fr2, rfl, rfl, e2, h2⟩ := q2
  replace ph0_0 := ph0_0.frame RI.lasts fr2 (ap2.o pa0_0)
  replace k2 := k2.frame RTItem.lasts fr2 (ap2.r (i := 0) rfl) (Dj.sub (ap2.r (i := 1) rfl) i1)
  refine lq (q_move rfl) rfl ?_
  obtain ⟨b3, hb_1, h⟩ := bind_some h
  refine WL.cutN 5 [(19, .bool b3), (0, .pointer (some ⟨pb0, 0, none⟩)), (2, .pointer (some ⟨b_1, 0, none⟩)), (3, .pointer (some ⟨b_2, 0, none⟩)), (4, .int .i64 s2)] ?_ (fun K => ?_)
  rotate_left
  ·refine WL.split (d := 14) rfl (fun c2 => ?_) (fun c2 => ?_)
   ·replace hb_1 := ite_t hb_1 c2
    refine WL.yes rfl rfl <| lq (q_fieldAddr Fld_52_0 rfl) rfl <| WL.yes rfl rfl <| lq (q_load1 T1_50 rfl (fun w1 hw => hw.rgO (i := 0) rfl 0 1 [u1] rfl)) rfl <| WL.yes rfl rfl <| lq (q_lenR Sl_50 rfl rfl k2.rsl) rfl <| WL.yes rfl rfl <| lq (q_gtr rfl rfl) rfl <| WL.q (q_pick1 rfl rfl) rfl rfl rfl ?_
    cases hb_1
    exact WL.keep (by exact ⟨rfl, rfl, rfl, rfl, rfl, trivial⟩) K
   ·replace hb_1 := ite_f hb_1 c2
    refine WL.no rfl rfl rfl rfl <| WL.no rfl rfl rfl rfl <| WL.no rfl rfl rfl rfl <| WL.no rfl rfl rfl rfl <| WL.q (q_pick0 rfl rfl) rfl rfl rfl ?_
    cases hb_1
    exact WL.keep (by exact ⟨rfl, rfl, rfl, rfl, rfl, trivial⟩) K
  refine WL.nil ?_
  refine WT.cond rfl (fun c3 => ?_) (fun c3 => ?_)
  ·replace h := ite_t h c3
   refine WT.seq <| WT.mix (Kn Φ_3 [] [(b_2, .cells #[u1, .int .i64 s5] 52 (0, 0)), (b_1, .cells #[.slice none 0 0, .int .i64 0] 52 (0, 0))]) (fun i => match i with | 10 => false | _ => true) mixed (fun _ h => h.drew) <| mqT 0 [1, 7, 8, 9, 10] rfl (by kernel_rfl) (fun w1 hw => Kn.of (fun k hk _ _ => by simp at hk) (AllIn.mem ⟨gM 0 rfl, gM 1 rfl, trivial⟩) hw) (q_fieldAddr Fld_52_0 rfl) rfl ?_
   refine mqT 1 [7, 8, 9, 10] rfl (by kernel_rfl) (fun w1 hw => Kn.of (fun k hk _ _ => by simp at hk) (AllIn.mem ⟨gM 0 rfl, gM 1 rfl, trivial⟩) hw) (q_load1 T1_50 rfl (fun w1 hw => hw.rgO (i := 0) rfl 0 1 [u1] rfl)) rfl <| mqT 2 [6, 7, 8, 9, 10] rfl (by kernel_rfl) (fun w1 hw => Kn.of (fun k hk _ _ => by simp at hk) (AllIn.mem ⟨gM 0 rfl, gM 1 rfl, trivial⟩) hw) (q_move rfl) rfl ?_
   refine mqT 3 [4, 5, 6, 7, 8, 9, 10] rfl (by kernel_rfl) (fun w1 hw => Kn.of (fun k hk _ _ => by simp at hk) (AllIn.mem ⟨gM 0 rfl, gM 1 rfl, trivial⟩) hw) (q_fieldAddr Fld_52_0 rfl) rfl <| mqT 4 [5, 6, 7, 8, 9, 10] rfl (by kernel_rfl) (fun w1 hw => Kn.of (fun k hk _ _ => by simp at hk) (AllIn.mem ⟨gM 0 rfl, gM 1 rfl, trivial⟩) hw) (q_load1 T1_50 rfl (fun w1 hw => hw.rgO (i := 0) rfl 0 1 [u1] rfl)) rfl ?_
   refine mqT 5 [6, 7, 8, 9, 10] rfl (by kernel_rfl) (fun w1 hw => Kn.of (fun k hk _ _ => by simp at hk) (AllIn.mem ⟨gM 0 rfl, gM 1 rfl, trivial⟩) hw) (q_lenR Sl_50 rfl rfl k2.rsl) rfl ?_
   obtain ⟨x3, hx3, h⟩ := bind_some h
   refine WM.one 6 (by kernel_rfl) (mc rfl (fun _ v Φx D w1 hq hw => Kn.of (fun k hk _ _ => by simp at hk) (AllIn.mem ⟨gM 0 rfl, gM 1 rfl, trivial⟩) hw) (k_call (js := [0]) (R := [ob u1, X1]) Fun_59 rfl rfl (fun w1 hw ap hl => m_s_l1Below_ok hw.fro N (⟨p0.b, x2.2.i, x2.2.h⟩ : Tl1Cur) (s1.length : Int) ph0_0 h2 (ap.o pa0_0) ap.nd hl hx3)) rfl (fun v3 Φ_4 F3 q3 => ?_))
   obtain ⟨ap3, fr3, rfl, rfl, e3, h3⟩ := q3
   replace ph0_0 := ph0_0.frame RI.lasts fr3 (ap3.o pa0_0)
   replace k2 := k2.frame RTItem.lasts fr3 (ap3.r (i := 0) rfl) (Dj.sub (ap3.r (i := 1) rfl) i1)
   obtain ⟨x4, hx4, h⟩ := bind_some h
   obtain ⟨cs1, F4, -, g1, hb1, hs1, r1⟩ := k2.elS (idx_some hx4).2.2
   obtain ⟨v4, G1, rfl, hq1, h4⟩ := r1
   obtain rfl := hq1.symm
   refine mqT 7 [8, 9, 10] rfl (by kernel_rfl) (fun w1 hw => Kn.of (fun k hk _ _ => by simp at hk) (AllIn.mem ⟨gM 0 rfl, gM 1 rfl, trivial⟩) hw) (q_indexAddr Sl_50 rfl rfl k2.rsl hx4) rfl <| mqT 8 [9, 10] rfl (by kernel_rfl) (fun w1 hw => Kn.of (fun k hk _ _ => by simp at hk) (AllIn.mem ⟨gM 0 rfl, gM 1 rfl, trivial⟩) hw) (q_fieldAddr Fld_142_0 rfl) rfl ?_
   refine WM.one 9 (by kernel_rfl) (mv rfl (fun _ w1 hw => Kn.of (fun k hk _ _ => by simp at hk) (AllIn.mem ⟨gM 0 rfl, gM 1 rfl, trivial⟩) hw) (q_load1 T1_3 rfl (fun w1 hw => (g1.of_eq 0 1 rfl rfl : rg _ _ _ [.int .i64 x4.Id]).rangeAt hw.fro)) rfl ?_)
   refine WM.frz (js := [0]) (R := [(b_1, .cells #[.slice none 0 0, .int .i64 0] 52 (0, 0))]) rfl (fun Φ_5 fr4 k4 => ?_)
   replace ph0_0 := ph0_0.frame RI.lasts fr4 (Dj.empty _)
   replace k2 := k2.frame RTItem.lasts fr4 (Dj.empty _) (Dj.empty _)
   replace h3 := fr4 _ _ (by simp) h3
   obtain ⟨x5, hx5, h⟩ := bind_some h
   refine WM.one 10 (by kernel_rfl) (mc rfl (fun hc => by cases hc) (k_call (js := [0]) (R := [[pb0], ob u1, X1]) Fun_120 rfl rfl (fun w1 hw ap hl => m_s_l4Drop_ok hw.fro N (⟨s1, s5⟩ : TStore) x4.Id k2.rsl k4 (Dj.app (ap.r (i := 1) rfl) (Dj.sub (ap.r (i := 2) rfl) i1)) ap.nd hl hx5)) rfl (fun v5 Φ_6 F5 q4 => ?_))
   obtain ⟨ap4, fr5, v6, D2, rfl, rfl, h5, i2, h6⟩ := q4
   replace ph0_0 := ph0_0.frame RI.lasts fr5 (ap4.o pa0_0)
   replace h3 := fr5 _ _ ((ap4.r (i := 0) rfl) _ (by simp)) h3
   refine WM.nil (by kernel_rfl) <| WT.exit rfl <| WT.region <| lq (q_move rfl) rfl <| lq (q_sub rfl rfl) rfl <| lq (q_assign rfl) rfl <| WL.nil ?_
   refine WT.thw (js := [0]) (R := [ob v6, [pb0], ob u1, X1]) rfl h6 (fun Φ_7 ap5 fr6 => ?_)
   replace ph0_0 := ph0_0.frame RI.lasts fr6 (ap5.o pa0_0)
   replace h5 := h5.frame RTItem.lasts fr6 (ap5.r (i := 0) rfl) (Dj.sub (Dj.app (ap5.r (i := 2) rfl) (Dj.sub (ap5.r (i := 3) rfl) i1)) i2)
   replace h3 := fr6 _ _ ((ap5.r (i := 1) rfl) _ (by simp)) h3
   refine WT.conv (S' := St w0 Φ_7 [(b_2, .cells #[v6, .int .i64 x5.2.Next] 52 (0, 0)), (b_1, .cells #[.slice none 0 0, .int .i64 0] 52 (0, 0))] [(X1 ++ (ob u1)), ob v6, [pb0]]) (fun w1 hw => hw.merge (js := [3, 2]) rfl (SP.eq (by simp [List.append_assoc]))) ?_
   refine WT.inLoop (WT.mono (l' := [(0, .pointer (some ⟨pb0, 0, none⟩)), (2, .pointer (some ⟨b_1, 0, none⟩)), (3, .pointer (some ⟨b_2, 0, none⟩)), (4, .int .i64 (IntKind.i64.wrap (s2 - 1)))]) (S' := St w0 Φ_7 [(b_2, .cells #[v6, .int .i64 x5.2.Next] 52 (0, 0)), (b_1, .cells #[.slice none 0 0, .int .i64 0] 52 (0, 0))] [ob v6, (X1 ++ (ob u1)), [pb0]]) ⟨rfl, rfl, rfl, rfl, trivial⟩ (fun w1 hw => (hw.sel (js := [1, 0, 0]) rfl).selO (js := [0, 0]) rfl) ?_)
   exact ih1 (Φ_7, (X1 ++ (ob u1)), x5.2.Items, v6, D2, IntKind.i64.wrap (s2 - 1), x3.2.i, x3.2.h, x5.2.Next) ⟨h, h5, (fun k hk => ((List.mem_append.1 (i2 k hk)).elim (fun h => ((fun k hk => (List.mem_append.2 (.inr hk))) k h)) (fun h => ((fun k hk => (List.mem_append.2 (.inl hk))) k (i1 k h))))), h3, ph0_0⟩
  replace h := ite_f h c3
  refine WT.skip <| WT.region <| lq (q_move rfl) rfl ?_
  obtain ⟨x6, hx6, h⟩ := bind_some h
  refine lc (k_call (js := [0]) (R := [ob u1, X1]) Fun_122 rfl rfl (fun w1 hw ap hl => m_s_l3Draw_ok hw.fro N (⟨p0.b, x2.2.i, x2.2.h⟩ : Tl1Cur) ph0_0 h2 (ap.o pa0_0) ap.nd hl hx6)) rfl (fun v7 Φ_8 F6 q5 => ?_)
  obtain ⟨ap6, fr7, v8, rfl, rfl, h7, e4, h8⟩ := q5
  replace ph0_0 := ph0_0.frame RI.lasts fr7 (ap6.o pa0_0)
  replace k2 := k2.frame RTItem.lasts fr7 (ap6.r (i := 0) rfl) (Dj.sub (ap6.r (i := 1) rfl) i1)
  refine WL.frz (js := [0]) (R := [(b_1, .cells #[.slice none 0 0, .int .i64 0] 52 (0, 0))]) rfl (fun Φ_9 fr8 k5 => ?_)
  replace ph0_0 := ph0_0.frame RI.lasts fr8 (Dj.empty _)
  replace k2 := k2.frame RTItem.lasts fr8 (Dj.empty _) (Dj.empty _)
  replace h7 := h7.frame RTVal.lasts fr8 (Dj.empty _) (Dj.empty _)
  replace h8 := fr8 _ _ (by simp) h8
  obtain ⟨x7, hx7, h⟩ := bind_some h
  refine lc (k_call (js := [0, 2]) (R := [ob v8, [pb0], X1]) Fun_121 rfl rfl (fun w1 hw ap hl => m_s_l4Assert_ok hw.fro N (⟨s1, s5⟩ : TStore) x6.1 k2 k5 h7.rsl (Dj.sub (ap.r (i := 2) rfl) i1) (Dj.app (ap.r (i := 0) rfl) (Dj.nil _)) ap.nd hl hx7)) rfl (fun v9 Φ_10 F7 q6 => ?_)
  obtain ⟨ap7, fr9, v10, D3, X2, rfl, rfl, h9, i3, h10⟩ := q6
  replace ph0_0 := ph0_0.frame RI.lasts fr9 (ap7.o pa0_0)
  replace h8 := fr9 _ _ ((ap7.r (i := 1) rfl) _ (by simp)) h8
  refine WL.nil <| WT.inBlock <| WT.region <| lq (q_move rfl) rfl <| lq (q_sub rfl rfl) rfl <| lq (q_assign rfl) rfl <| WL.nil ?_
  refine WT.thw (js := [0]) (R := [ob v10, X2, ob v8, [pb0], X1]) rfl h10 (fun Φ_11 ap8 fr10 => ?_)
  replace ph0_0 := ph0_0.frame RI.lasts fr10 (ap8.o pa0_0)
  replace h9 := h9.frame RTItem.lasts fr10 (ap8.r (i := 0) rfl) (Dj.sub (Dj.app (ap8.r (i := 1) rfl) (Dj.sub (ap8.r (i := 4) rfl) i1)) i3)
  replace h8 := fr10 _ _ ((ap8.r (i := 3) rfl) _ (by simp)) h8
  refine WT.conv (S' := St w0 Φ_11 [(b_2, .cells #[v10, .int .i64 x7.2.Next] 52 (0, 0)), (b_1, .cells #[.slice none 0 0, .int .i64 0] 52 (0, 0))] [(X1 ++ (X2)), ob v10, ob v8, [pb0]]) (fun w1 hw => hw.merge (js := [4, 1]) rfl (SP.eq (by simp [List.append_assoc]))) ?_
  refine WT.inLoop (WT.mono (l' := [(0, .pointer (some ⟨pb0, 0, none⟩)), (2, .pointer (some ⟨b_1, 0, none⟩)), (3, .pointer (some ⟨b_2, 0, none⟩)), (4, .int .i64 (IntKind.i64.wrap (s2 - 1)))]) (S' := St w0 Φ_11 [(b_2, .cells #[v10, .int .i64 x7.2.Next] 52 (0, 0)), (b_1, .cells #[.slice none 0 0, .int .i64 0] 52 (0, 0))] [ob v10, (X1 ++ (X2)), [pb0]]) ⟨rfl, rfl, rfl, rfl, trivial⟩ (fun w1 hw => (hw.sel (js := [1, 0, 1]) rfl).selO (js := [0, 0]) rfl) ?_)
  exact ih1 (Φ_11, (X1 ++ (X2)), x7.2.Items, v10, D3, IntKind.i64.wrap (s2 - 1), x6.2.i, x6.2.h, x7.2.Next) ⟨h, h9, (fun k hk => ((List.mem_append.1 (i3 k hk)).elim (fun h => ((fun k hk => (List.mem_append.2 (.inr hk))) k h)) (fun h => ((fun k hk => (List.mem_append.2 (.inl hk))) k (i1 k h))))), h8, ph0_0⟩
 replace h := ite_f h c1
 refine WT.exit rfl <| WT.seq <| WT.region <| lq (q_loadN Tn_52 rfl (fun w1 hw => hw.rgO (i := 0) rfl 0 2 [u1, .int .i64 s5] rfl) rfl) rfl <| ls (s_store (i := 1) (vs := [u1, .int .i64 s5]) (C' := [u1, .int .i64 s5]) (O' := [(b_2, .cells #[u1, .int .i64 s5] 52 (0, 0)), (b_1, .cells #[u1, .int .i64 s5] 52 (0, 0))]) Sz_52 rfl rfl rfl rfl rfl rfl ⟨k2.one, rfl, trivial⟩ rfl rfl) rfl <| WL.nil ?_
 refine WT.ret Tryz.func57 (resOk.one (rv_cell Tn_52 rfl (fun w1 hw => hw.rgO (i := 1) rfl 0 2 [u1, .int .i64 s5] rfl) rfl)) (fun w1 hw => ?_)
 subst hb0
 cases h
 replace hw := hw.merge (js := [1]) (F := [X1].flatten) rfl (SP.eq (by simp))
 refine postG_of_St (js := [1, 1, 0]) hw rfl ⟨u1, D1, [X1].flatten, rfl, rfl, k2, (fun k hk => (List.mem_flatten.2 ⟨X1, by simp, (i1 k hk)⟩)), rfl, k3⟩
theorem m_s_DrawRule_ok {Φ : Hp} {w : World} (hΦ : In Φ w) (N : Nat) (p0 : (List Int)) {pv0 : Value} {pG0 : List Nat} (ph0 : RSl (RI .u8) 1 Φ pG0 pv0 p0) {r : TRule × TStore} (h : m_s_DrawRule N p0 = some r) :
  Calls Tryz.prog 23 [pv0].toArray w (PostG Φ w [] (fun Φ' Fs v => ∃ (sr_0_0 : Value) (Dr_0_0 : List Nat) (sr_0_1 : Value) (sr_0_2 : Value) (Dr_0_2 : List Nat) (sr_1_0 : Value) (Dr_1_0 : List Nat) (X : List Nat), v = .tuple #[.agg [.string r.1.Name, .int .i64 r.1.Sal, sr_0_0, sr_0_1, sr_0_2].toArray, .agg [sr_1_0, .int .i64 r.2.Next].toArray] ∧ Fs = [ob sr_0_0, Dr_0_0, ob sr_0_1, ob sr_0_2, Dr_0_2, ob sr_1_0, X] ∧ OSl OTPat 114 3 Φ' Dr_0_0 sr_0_0 r.1.Pats ∧ OSl RTCond 128 11 Φ' [] sr_0_1 r.1.Conds ∧ OSl OTAct 135 5 Φ' Dr_0_2 sr_0_2 r.1.Acts ∧ OSl RTItem 142 3 Φ' Dr_1_0 sr_1_0 r.2.Items ∧ (∀ k ∈ Dr_1_0, k ∈ X))) := by
 refine enter Tryz.func23 rfl Tryz.ntmps23 rfl (St.start0 hΦ) ?_
 have pa0 : Old ⟨w, [], Φ⟩ pG0 := Old.mk hΦ ph0.kn (Dj.empty _)
 unfold m_s_DrawRule at h
 refine WT.seq <| WT.region ?_
 refine ln (n_alloc (C := #[.string (⟨#[]⟩ : ByteArray), .int .i64 0, .slice none 0 0, .slice none 0 0, .slice none 0 0]) Zr_49 rfl) rfl (fun b_1 => ?_)
 refine ln (n_alloc (C := #[.slice none 0 0, .int .i64 0]) Zr_52 rfl) rfl (fun b_2 => ?_)
 refine WL.nil <| WT.seq <| WT.region <| lq (q_move rfl) rfl ?_
 obtain ⟨x1, hx1, h⟩ := bind_some h
 refine lc (k_call (js := []) (R := []) Fun_44 rfl rfl (fun w1 hw ap hl => m_s_l1New_ok hw.fro N p0 ph0  hx1)) rfl (fun v1 Φ_1 F1 q1 => ?_)
 obtain ⟨ap1, fr1, b_3, v2, G1, rfl, rfl, h1, i1, h2⟩ := q1
 refine lq (q_assign rfl) rfl <| WL.nil <| WT.seq <| WT.region <| lq (q_move rfl) rfl ?_
 obtain ⟨x2, hx2, h⟩ := bind_some h
 refine lc (k_call (js := [0]) (R := []) Fun_56 rfl rfl (fun w1 hw ap hl => m_s_l9Draw_ok hw.fro N x1 (⟨#[114, 49]⟩ : ByteArray) h1 h2 (Dj.sub (ap.o pa0) i1) ap.nd hl hx2)) rfl (fun v3 Φ_2 F2 q2 => ?_)
 obtain ⟨ap2, fr2, v4, D1, v5, v6, D2, rfl, rfl, h3, h4, h5, e1, h6⟩ := q2
 replace h1 := h1.frame RI.lasts fr2 (Dj.sub (ap2.o pa0) i1)
 refine lq (q_move rfl) rfl ?_
 obtain ⟨x3, hx3, h⟩ := bind_some h
 refine lc (k_call (js := [5]) (R := [ob v4, D1, ob v5, ob v6, D2]) Fun_57 rfl rfl (fun w1 hw ap hl => m_s_l4Draw_ok hw.fro N (⟨x1.b, x2.2.i, x2.2.h⟩ : Tl1Cur) h1 h6 (Dj.sub (ap.o pa0) i1) ap.nd hl hx3)) rfl (fun v7 Φ_3 F3 q3 => ?_)
 obtain ⟨ap3, fr3, v8, D3, X1, rfl, rfl, h7, i2, e2, h8⟩ := q3
 replace h3 := h3.frame OTPat.lasts fr3 (ap3.r (i := 0) rfl) (ap3.r (i := 1) rfl)
 replace h4 := h4.frame RTCond.lasts fr3 (ap3.r (i := 2) rfl) (Dj.nil _)
 replace h5 := h5.frame OTAct.lasts fr3 (ap3.r (i := 3) rfl) (ap3.r (i := 4) rfl)
 refine ls (s_store (i := 1) (vs := [.string x2.1.Name, .int .i64 x2.1.Sal, v4, v5, v6]) (C' := [.string x2.1.Name, .int .i64 x2.1.Sal, v4, v5, v6]) (O' := [(b_2, .cells #[.slice none 0 0, .int .i64 0] 52 (0, 0)), (b_1, .cells #[.string x2.1.Name, .int .i64 x2.1.Sal, v4, v5, v6] 49 (0, 0))]) Sz_49 rfl rfl rfl rfl rfl rfl ⟨rfl, rfl, h3.one, h4.one, h5.one, trivial⟩ rfl rfl) rfl <| ls (s_store (i := 0) (vs := [v8, .int .i64 x3.1.Next]) (C' := [v8, .int .i64 x3.1.Next]) (O' := [(b_2, .cells #[v8, .int .i64 x3.1.Next] 52 (0, 0)), (b_1, .cells #[.string x2.1.Name, .int .i64 x2.1.Sal, v4, v5, v6] 49 (0, 0))]) Sz_52 rfl rfl rfl rfl rfl rfl ⟨h7.one, rfl, trivial⟩ rfl rfl) rfl ?_
 refine WL.nil ?_
 refine WT.ret Tryz.func23 (resOk.two (rv_cell Tn_49 rfl (fun w1 hw => hw.rgO (i := 1) rfl 0 5 [.string x2.1.Name, .int .i64 x2.1.Sal, v4, v5, v6] rfl) rfl) (rv_cell Tn_52 rfl (fun w1 hw => hw.rgO (i := 0) rfl 0 2 [v8, .int .i64 x3.1.Next] rfl) rfl)) (fun w1 hw => ?_)
 cases h
 replace hw := hw.merge (js := [2]) (F := [X1].flatten) rfl (SP.eq (by simp))
 refine postG_of_St (js := [3, 3, 3, 3, 3, 1, 0]) hw rfl ⟨v4, D1, v5, v6, D2, v8, D3, [X1].flatten, rfl, rfl, h3, h4, h5, h7, (fun k hk => (List.mem_flatten.2 ⟨X1, by simp, (i2 k hk)⟩))⟩
theorem m_s_BindOf_ok {Φ : Hp} {w : World} (hΦ : In Φ w) (N : Nat) (p0 : (List TBind)) (p1 : ByteArray) {pv0 : Value} {pG0 : List Nat} (ph0 : RSl RTBind 4 Φ pG0 pv0 p0) {r : TVal × Bool} (h : m_s_BindOf N p0 p1 = some r) :
  Calls Tryz.prog 129 [pv0, .string p1].toArray w (Post (.tuple #[.agg [.int .i64 r.1.K, .int .i64 r.1.N, .string r.1.S].toArray, .bool r.2]) w) := by
 refine enter Tryz.func129 rfl Tryz.ntmps129 rfl (St.start0 hΦ) ?_
 generalize hb0 : (⟨w, [], Φ⟩ : Base) = w0
 unfold m_s_BindOf at h
 refine WT.seq <| WT.region ?_
 refine ln (n_alloc (C := #[.int .i64 0, .int .i64 0, .string (⟨#[]⟩ : ByteArray)]) Zr_121 rfl) rfl (fun b_1 => ?_)
 refine lq (q_assign rfl) rfl <| WL.nil <| WT.seq <| WT.seq <| WT.region <| lq (q_assign rfl) rfl <| WL.nil <| WT.block <| WT.loop <| WT.mono (l' := [(0, pv0), (1, .string p1), (4, .pointer (some ⟨b_1, 0, none⟩)), (6, .int .i64 0)]) (S' := St w0 Φ [(b_1, .cells #[.int .i64 0, .int .i64 0, .string (⟨#[]⟩ : ByteArray)] 121 (0, 0))] []) ⟨rfl, rfl, rfl, rfl, trivial⟩ (fun w1 hw => (hw.sel (js := []) rfl).selO (js := [0]) rfl) ?_
 refine loop_ind (σ := Int) (fun s => [(0, pv0), (1, .string p1), (4, .pointer (some ⟨b_1, 0, none⟩)), (6, .int .i64 s)]) (fun s => St w0 Φ [(b_1, .cells #[.int .i64 0, .int .i64 0, .string (⟨#[]⟩ : ByteArray)] 121 (0, 0))] []) (fun m s => m_s_BindOf_l1 N p0 p1 m s = some r) (fun s hm => none_ne (show (none : Option (TVal × Bool)) = some r from hm)) (fun n1 ih1 s hm => ?_) N (0) h
 revert hm; revert s; intro s1 hm
 have h : m_s_BindOf_l1 N p0 p1 (n1 + 1) s1 = some r := hm
 show WT _ _ [(0, pv0), (1, .string p1), (4, .pointer (some ⟨b_1, 0, none⟩)), (6, .int .i64 s1)] (St w0 Φ [(b_1, .cells #[.int .i64 0, .int .i64 0, .string (⟨#[]⟩ : ByteArray)] 121 (0, 0))] [])
 unfold m_s_BindOf_l1 at h
 refine WT.seq <| WT.seq <| WT.region <| lq (q_move rfl) rfl <| lq (q_move rfl) rfl <| lq (q_lenR Sl_55 rfl rfl ph0) rfl <| lq (q_lss rfl rfl) rfl <| WL.nil ?_
 refine WT.cond rfl (fun c1 => ?_) (fun c1 => ?_)
 ·replace h := ite_t h c1
  refine WT.skip <| WT.seq <| WT.block <| WT.seq <| WT.region <| lq (q_move rfl) rfl <| lq (q_move rfl) rfl ?_
  obtain ⟨x1, hx1, h⟩ := bind_some h
  obtain ⟨cs1, F1, -, g1, hb1, hs1, r1⟩ := ph0.el (idx_some hx1).2.2
  obtain ⟨rfl, -⟩ := r1
  refine lq (q_indexAddr Sl_55 rfl rfl ph0 hx1) rfl <| lq (q_fieldAddr Fld_123_0 rfl) rfl <| lq (q_load1 T1_9 rfl (fun w1 hw => (g1.of_eq 0 1 rfl rfl : rg _ _ _ [.string x1.Name]).rangeAt hw.fro)) rfl <| lq (q_move rfl) rfl <| lq (q_seq rfl rfl) rfl <| WL.nil ?_
  refine WT.cond rfl (fun c2 => ?_) (fun c2 => ?_)
  ·replace h := ite_t h c2
   refine WT.seq <| WT.region <| lq (q_move rfl) rfl <| lq (q_move rfl) rfl ?_
   obtain ⟨x2, hx2, h⟩ := bind_some h
   obtain ⟨cs2, F2, -, g2, hb2, hs2, r2⟩ := ph0.el (idx_some hx2).2.2
   obtain ⟨rfl, -⟩ := r2
   refine lq (q_indexAddr Sl_55 rfl rfl ph0 hx2) rfl <| lq (q_fieldAddr Fld_123_1 rfl) rfl <| lq (q_loadN Tn_121 rfl (fun w1 hw => (g2.of_eq 1 3 rfl rfl : rg _ _ _ [.int .i64 x2.V.K, .int .i64 x2.V.N, .string x2.V.S]).rangeAt hw.fro) rfl) rfl <| ls (s_store (i := 0) (vs := [.int .i64 x2.V.K, .int .i64 x2.V.N, .string x2.V.S]) (C' := [.int .i64 x2.V.K, .int .i64 x2.V.N, .string x2.V.S]) (O' := [(b_1, .cells #[.int .i64 x2.V.K, .int .i64 x2.V.N, .string x2.V.S] 121 (0, 0))]) Sz_121 rfl rfl rfl rfl rfl rfl ⟨rfl, rfl, rfl, trivial⟩ rfl rfl) rfl ?_
   refine lq (q_assign rfl) rfl <| WL.nil ?_
   refine WT.ret Tryz.func129 (resOk.two (rv_cell Tn_121 rfl (fun w1 hw => hw.rgO (i := 0) rfl 0 3 [.int .i64 x2.V.K, .int .i64 x2.V.N, .string x2.V.S] rfl) rfl) rfl) (fun w1 hw => ?_)
   subst hb0
   cases h
   exact post_of_St hw
  replace h := ite_f h c2
  refine WT.skip <| WT.inBlock <| WT.region <| lq (q_move rfl) rfl <| lq (q_add rfl rfl) rfl <| lq (q_assign rfl) rfl <| WL.nil ?_
  refine WT.inLoop (WT.mono (l' := [(0, pv0), (1, .string p1), (4, .pointer (some ⟨b_1, 0, none⟩)), (6, .int .i64 (IntKind.i64.wrap (s1 + 1)))]) (S' := St w0 Φ [(b_1, .cells #[.int .i64 0, .int .i64 0, .string (⟨#[]⟩ : ByteArray)] 121 (0, 0))] []) ⟨rfl, rfl, rfl, rfl, trivial⟩ (fun w1 hw => (hw.sel (js := []) rfl).selO (js := [0]) rfl) ?_)
  exact ih1 (IntKind.i64.wrap (s1 + 1)) h
 replace h := ite_f h c1
 refine WT.exit rfl <| WT.seq <| WT.region <| lq (q_build (vs := []) (C := #[.int .i64 0, .int .i64 0, .string (⟨#[]⟩ : ByteArray)]) Pl_121 Zr_121 rfl (fill_nil)) rfl <| ls (s_store (i := 0) (vs := [.int .i64 0, .int .i64 0, .string (⟨#[]⟩ : ByteArray)]) (C' := [.int .i64 0, .int .i64 0, .string (⟨#[]⟩ : ByteArray)]) (O' := [(b_1, .cells #[.int .i64 0, .int .i64 0, .string (⟨#[]⟩ : ByteArray)] 121 (0, 0))]) Sz_121 rfl rfl rfl rfl rfl rfl ⟨rfl, rfl, rfl, trivial⟩ rfl rfl) rfl ?_
 refine lq (q_assign rfl) rfl <| WL.nil ?_
 refine WT.ret Tryz.func129 (resOk.two (rv_cell Tn_121 rfl (fun w1 hw => hw.rgO (i := 0) rfl 0 3 [.int .i64 0, .int .i64 0, .string (⟨#[]⟩ : ByteArray)] rfl) rfl) rfl) (fun w1 hw => ?_)
 subst hb0
 cases h
 exact post_of_St hw
theorem m_s_MatchPat_ok {Φ : Hp} {w : World} (hΦ : In Φ w) (N : Nat) (p0 : TPat) (p1 : TFact) (p2 : (List TBind)) {pv0_0 : Value} {pG0_0 : List Nat} {pv1_0 : Value} {pG1_0 : List Nat} {pv2 : Value} {pG2 : List Nat} (ph0_0 : RSl RTArg 5 Φ pG0_0 pv0_0 p0.Args) (ph1_0 : RSl RTVal 3 Φ pG1_0 pv1_0 p1.Fields) (ph2 : RSl RTBind 4 Φ pG2 pv2 p2) {r : (List TBind) × Bool} (h : m_s_MatchPat N p0 p1 p2 = some r) :
  Calls Tryz.prog 64 [.agg [.string p0.Kind, pv0_0, .bool p0.Not].toArray, .agg [.string p1.Kind, pv1_0].toArray, pv2].toArray w (PostG Φ w [] (fun Φ' Fs v => ∃ (sr_0_0 : Value), v = .tuple #[sr_0_0, .bool r.2] ∧ Fs = [ob sr_0_0] ∧ OSl RTBind 123 4 Φ' [] sr_0_0 r.1)) := by
 refine enter Tryz.func64 rfl Tryz.ntmps64 rfl (St.start0 hΦ) ?_
 have pa0_0 : Old ⟨w, [], Φ⟩ pG0_0 := Old.mk hΦ ph0_0.kn (Dj.empty _)
 have pa1_0 : Old ⟨w, [], Φ⟩ pG1_0 := Old.mk hΦ ph1_0.kn (Dj.empty _)
 have pa2 : Old ⟨w, [], Φ⟩ pG2 := Old.mk hΦ ph2.kn (Dj.empty _)
 revert pa0_0 pa1_0 pa2
 generalize hb0 : (⟨w, [], Φ⟩ : Base) = w0
 intro pa0_0 pa1_0 pa2
 unfold m_s_MatchPat at h
 refine WT.seq <| WT.region ?_
 refine ln (n_box (C := #[.string p0.Kind, pv0_0, .bool p0.Not]) rfl rfl) rfl (fun b_1 => ?_)
 refine ln (n_box (C := #[.string p1.Kind, pv1_0]) rfl rfl) rfl (fun b_2 => ?_)
 refine lq (q_assign rfl) rfl <| lq (q_assign rfl) rfl <| WL.nil <| WT.seq <| WT.region ?_
 have rc1 : RC RTBind 4 Φ ([] : List (List Nat)) [] ([] : List TBind) := RC.nil _ _ _
 refine le' (e_lit (vs := []) (C := #[]) RTBind.lasts Sl_55 Zr_123 rfl rfl rfl rfl (fill_made MC_123_0 (fill_nil)) rfl rc1 rfl (by simpa using Kw.nil)) rfl (fun v1 Φ_1 D1 q1 => ?_)
 obtain ⟨fr1, h1⟩ := q1
 replace h1 : OSl RTBind 123 4 Φ_1 [] v1 ([] : List TBind) := by simpa using h1
 replace ph2 := ph2.frame RTBind.lasts fr1 (Dj.empty _)
 replace ph0_0 := ph0_0.frame RTArg.lasts fr1 (Dj.empty _)
 replace ph1_0 := ph1_0.frame RTVal.lasts fr1 (Dj.empty _)
 refine lq (q_move rfl) rfl ?_
 obtain ⟨x1, hx1, h⟩ := bind_some h
 refine le' (e_appF RTBind.lasts RTBind.one RTBind.flat Sl_55 Ei_123 rfl rfl rfl rfl rfl (js := [0]) (Rr := []) rfl h1 ph2 hx1) rfl (fun v2 Φ_2 D2 q2 => ?_)
 obtain ⟨⟨ap1, fr2⟩, h2⟩ := q2
 replace ph2 := ph2.frame RTBind.lasts fr2 (ap1.o pa2)
 replace ph0_0 := ph0_0.frame RTArg.lasts fr2 (ap1.o pa0_0)
 replace ph1_0 := ph1_0.frame RTVal.lasts fr2 (ap1.o pa1_0)
 refine lq (q_assign rfl) rfl <| WL.nil <| WT.seq <| WT.seq <| WT.region <| lq (q_fieldAddr Fld_114_0 rfl) rfl <| lq (q_load1 T1_9 rfl (fun w1 hw => hw.rgO (i := 1) rfl 0 1 [.string p0.Kind] rfl)) rfl <| lq (q_fieldAddr Fld_116_0 rfl) rfl <| lq (q_load1 T1_9 rfl (fun w1 hw => hw.rgO (i := 0) rfl 0 1 [.string p1.Kind] rfl)) rfl <| lq (q_sne rfl rfl) rfl <| lq (q_move rfl) rfl ?_
 obtain ⟨b1, hb_1, h⟩ := bind_some h
 refine WL.cutN 8 [(29, .bool b1), (2, pv2), (3, .pointer (some ⟨b_1, 0, none⟩)), (4, .pointer (some ⟨b_2, 0, none⟩)), (8, v2)] ?_ (fun K => ?_)
 rotate_left
 ·refine WL.split (d := 21) rfl (fun c1 => ?_) (fun c1 => ?_)
  ·replace hb_1 := ite_t hb_1 c1
   refine WL.no rfl rfl rfl rfl <| WL.no rfl rfl rfl rfl <| WL.no rfl rfl rfl rfl <| WL.no rfl rfl rfl rfl <| WL.no rfl rfl rfl rfl <| WL.no rfl rfl rfl rfl <| WL.no rfl rfl rfl rfl <| WL.q (q_pick1 rfl rfl) rfl rfl rfl ?_
   cases hb_1
   exact WL.keep (by exact ⟨rfl, rfl, rfl, rfl, rfl, trivial⟩) K
  ·replace hb_1 := ite_f hb_1 c1
   refine WL.yes rfl rfl <| lq (q_fieldAddr Fld_114_1 rfl) rfl <| WL.yes rfl rfl <| lq (q_load1 T1_112 rfl (fun w1 hw => hw.rgO (i := 1) rfl 1 1 [pv0_0] rfl)) rfl <| WL.yes rfl rfl <| lq (q_lenR Sl_112 rfl rfl ph0_0) rfl <| WL.yes rfl rfl <| lq (q_fieldAddr Fld_116_1 rfl) rfl <| WL.yes rfl rfl <| lq (q_load1 T1_100 rfl (fun w1 hw => hw.rgO (i := 0) rfl 1 1 [pv1_0] rfl)) rfl <| WL.yes rfl rfl <| lq (q_lenR Sl_100 rfl rfl ph1_0) rfl <| WL.yes rfl rfl <| lq (q_neq rfl rfl) rfl ?_
   refine WL.q (q_pick0 rfl rfl) rfl rfl rfl ?_
   cases hb_1
   exact WL.keep (by exact ⟨rfl, rfl, rfl, rfl, rfl, trivial⟩) K
 refine WL.nil ?_
 refine WT.cond rfl (fun c2 => ?_) (fun c2 => ?_)
 ·replace h := ite_t h c2
  refine WT.seq <| WT.region <| lq (q_move rfl) rfl <| lq (q_assign rfl) rfl <| lq (q_assign rfl) rfl <| WL.nil ?_
  refine WT.ret Tryz.func64 (resOk.two rfl rfl) (fun w1 hw => ?_)
  subst hb0
  cases h
  refine postG_of_St (js := [0]) hw rfl ⟨v2, rfl, rfl, h2⟩
 replace h := ite_f h c2
 refine WT.skip <| WT.seq <| WT.seq <| WT.region <| lq (q_assign rfl) rfl <| WL.nil <| WT.block <| WT.loop <| WT.mono (l' := [(2, pv2), (3, .pointer (some ⟨b_1, 0, none⟩)), (4, .pointer (some ⟨b_2, 0, none⟩)), (8, v2), (9, .int .i64 0)]) (S' := St w0 Φ_2 [(b_2, .cells #[.string p1.Kind, pv1_0] 116 (0, 0)), (b_1, .cells #[.string p0.Kind, pv0_0, .bool p0.Not] 114 (0, 0))] [ob v2]) ⟨rfl, rfl, rfl, rfl, rfl, trivial⟩ (fun w1 hw => (hw.sel (js := [0]) rfl).selO (js := [0, 0]) rfl) ?_
 refine loop_ind (σ := Hp × (List TBind) × Value × Int) (fun s => [(2, pv2), (3, .pointer (some ⟨b_1, 0, none⟩)), (4, .pointer (some ⟨b_2, 0, none⟩)), (8, s.2.2.1), (9, .int .i64 s.2.2.2)]) (fun s => St w0 s.1 [(b_2, .cells #[.string p1.Kind, pv1_0] 116 (0, 0)), (b_1, .cells #[.string p0.Kind, pv0_0, .bool p0.Not] 114 (0, 0))] [ob s.2.2.1]) (fun m s => m_s_MatchPat_l1 N p0 p1 p2 m s.2.1 s.2.2.2 = some r ∧ (OSl RTBind 123 4 s.1 [] s.2.2.1 s.2.1) ∧ (RSl RTBind 4 s.1 pG2 pv2 p2) ∧ (RSl RTArg 5 s.1 pG0_0 pv0_0 p0.Args) ∧ (RSl RTVal 3 s.1 pG1_0 pv1_0 p1.Fields)) (fun s hm => none_ne (show (none : Option ((List TBind) × Bool)) = some r from hm.1)) (fun n1 ih1 s hm => ?_) N (Φ_2, x1, v2, 0) ⟨h, h2, ph2, ph0_0, ph1_0⟩
 obtain ⟨Φ_3, s1, u1, s2⟩ := s
 obtain ⟨h, k1, ph2, ph0_0, ph1_0⟩ := hm
 replace h : m_s_MatchPat_l1 N p0 p1 p2 (n1 + 1) s1 s2 = some r := h
 replace k1 : OSl RTBind 123 4 Φ_3 [] u1 s1 := k1
 replace ph2 : RSl RTBind 4 Φ_3 pG2 pv2 p2 := ph2
 replace ph0_0 : RSl RTArg 5 Φ_3 pG0_0 pv0_0 p0.Args := ph0_0
 replace ph1_0 : RSl RTVal 3 Φ_3 pG1_0 pv1_0 p1.Fields := ph1_0
 show WT _ _ [(2, pv2), (3, .pointer (some ⟨b_1, 0, none⟩)), (4, .pointer (some ⟨b_2, 0, none⟩)), (8, u1), (9, .int .i64 s2)] (St w0 Φ_3 [(b_2, .cells #[.string p1.Kind, pv1_0] 116 (0, 0)), (b_1, .cells #[.string p0.Kind, pv0_0, .bool p0.Not] 114 (0, 0))] [ob u1])
 unfold m_s_MatchPat_l1 at h
 refine WT.seq <| WT.seq <| WT.region <| lq (q_move rfl) rfl <| lq (q_fieldAddr Fld_114_1 rfl) rfl <| lq (q_load1 T1_112 rfl (fun w1 hw => hw.rgO (i := 1) rfl 1 1 [pv0_0] rfl)) rfl <| lq (q_lenR Sl_112 rfl rfl ph0_0) rfl <| lq (q_lss rfl rfl) rfl <| WL.nil ?_
 refine WT.cond rfl (fun c3 => ?_) (fun c3 => ?_)
 ·replace h := ite_t h c3
  refine WT.skip <| WT.seq <| WT.block <| WT.seq <| WT.region <| lq (q_fieldAddr Fld_114_1 rfl) rfl <| lq (q_load1 T1_112 rfl (fun w1 hw => hw.rgO (i := 1) rfl 1 1 [pv0_0] rfl)) rfl <| lq (q_move rfl) rfl ?_
  obtain ⟨x2, hx2, h⟩ := bind_some h
  obtain ⟨cs1, F1, -, g1, hb1, hs1, r1⟩ := ph0_0.el (idx_some hx2).2.2
  obtain ⟨rfl, -⟩ := r1
  refine lq (q_indexAddr Sl_112 rfl rfl ph0_0 hx2) rfl <| lq (q_loadN Tn_126 rfl (fun w1 hw => (g1.of_eq 0 5 rfl rfl : rg _ _ _ [.int .i64 x2.K, .string x2.S, .int .i64 x2.V.K, .int .i64 x2.V.N, .string x2.V.S]).rangeAt hw.fro) rfl) rfl ?_
  refine ln (n_alloc (C := #[.int .i64 0, .string (⟨#[]⟩ : ByteArray), .int .i64 0, .int .i64 0, .string (⟨#[]⟩ : ByteArray)]) Zr_126 rfl) rfl (fun b_3 => ?_)
  refine ls (s_store (i := 0) (vs := [.int .i64 x2.K, .string x2.S, .int .i64 x2.V.K, .int .i64 x2.V.N, .string x2.V.S]) (C' := [.int .i64 x2.K, .string x2.S, .int .i64 x2.V.K, .int .i64 x2.V.N, .string x2.V.S]) (O' := [(b_3, .cells #[.int .i64 x2.K, .string x2.S, .int .i64 x2.V.K, .int .i64 x2.V.N, .string x2.V.S] 126 (0, 0)), (b_2, .cells #[.string p1.Kind, pv1_0] 116 (0, 0)), (b_1, .cells #[.string p0.Kind, pv0_0, .bool p0.Not] 114 (0, 0))]) Sz_126 rfl rfl rfl rfl rfl rfl ⟨rfl, rfl, rfl, rfl, rfl, trivial⟩ rfl rfl) rfl ?_
  refine WL.nil <| WT.seq <| WT.region <| lq (q_move rfl) rfl <| lq (q_fieldAddr Fld_126_1 rfl) rfl <| lq (q_load1 T1_9 rfl (fun w1 hw => hw.rgO (i := 0) rfl 1 1 [.string x2.S] rfl)) rfl ?_
  obtain ⟨x3, hx3, h⟩ := bind_some h
  refine lp (p_call Fun_129 rfl (fun w1 hw => m_s_BindOf_ok hw.fro N s1 x2.S k1.rsl hx3)) rfl <| lq (q_move rfl) rfl <| lq (q_extract rfl rfl) rfl <| lq (q_extract rfl rfl) rfl ?_
  refine ln (n_alloc (C := #[.int .i64 0, .int .i64 0, .string (⟨#[]⟩ : ByteArray)]) Zr_121 rfl) rfl (fun b_4 => ?_)
  refine ls (s_store (i := 0) (vs := [.int .i64 x3.1.K, .int .i64 x3.1.N, .string x3.1.S]) (C' := [.int .i64 x3.1.K, .int .i64 x3.1.N, .string x3.1.S]) (O' := [(b_4, .cells #[.int .i64 x3.1.K, .int .i64 x3.1.N, .string x3.1.S] 121 (0, 0)), (b_3, .cells #[.int .i64 x2.K, .string x2.S, .int .i64 x2.V.K, .int .i64 x2.V.N, .string x2.V.S] 126 (0, 0)), (b_2, .cells #[.string p1.Kind, pv1_0] 116 (0, 0)), (b_1, .cells #[.string p0.Kind, pv0_0, .bool p0.Not] 114 (0, 0))]) Sz_121 rfl rfl rfl rfl rfl rfl ⟨rfl, rfl, rfl, trivial⟩ rfl rfl) rfl ?_
  refine lq (q_assign rfl) rfl <| WL.nil <| WT.seq <| WT.seq <| WT.draw mixed (by kernel_rfl) (fun _ h => h.drew) <| qq (q_fieldAddr Fld_126_0 rfl) rfl <| qq (q_load1 T1_3 rfl (fun w1 hw => hw.rgO (i := 1) rfl 0 1 [.int .i64 x2.K] rfl)) rfl <| qq (q_eql rfl rfl) rfl <| qq (q_move rfl) rfl ?_
  obtain ⟨b2, hb_2, h⟩ := bind_some h
  refine WQ.cutN 9 [(62, .bool b2), (2, pv2), (3, .pointer (some ⟨b_1, 0, none⟩)), (4, .pointer (some ⟨b_2, 0, none⟩)), (8, u1), (9, .int .i64 s2), (10, .pointer (some ⟨b_3, 0, none⟩)), (11, .pointer (some ⟨b_4, 0, none⟩)), (12, .bool x3.2)] ?_ (fun K => ?_)
  rotate_left
  ·refine WQ.split (d := 53) rfl (fun c4 => ?_) (fun c4 => ?_)
   ·replace hb_2 := ite_t hb_2 c4
    refine WQ.yes rfl rfl <| qq (q_fieldAddr Fld_126_2 rfl) rfl <| WQ.yes rfl rfl <| qq (q_loadN Tn_121 rfl (fun w1 hw => hw.rgO (i := 1) rfl 2 3 [.int .i64 x2.V.K, .int .i64 x2.V.N, .string x2.V.S] rfl) rfl) rfl <| WQ.yes rfl rfl <| qq (q_fieldAddr Fld_116_1 rfl) rfl <| WQ.yes rfl rfl <| qq (q_load1 T1_100 rfl (fun w1 hw => hw.rgO (i := 2) rfl 1 1 [pv1_0] rfl)) rfl <| WQ.yes rfl rfl <| qq (q_move rfl) rfl <| WQ.yes rfl rfl ?_
    obtain ⟨x4, hx4, hb_2⟩ := bind_some hb_2
    obtain ⟨cs2, F2, -, g2, hb2, hs2, r2⟩ := ph1_0.el (idx_some hx4).2.2
    obtain ⟨rfl, -⟩ := r2
    refine qq (q_indexAddr Sl_100 rfl rfl ph1_0 hx4) rfl <| WQ.yes rfl rfl <| qq (q_loadN Tn_121 rfl (fun w1 hw => (g2.of_eq 0 3 rfl rfl : rg _ _ _ [.int .i64 x4.K, .int .i64 x4.N, .string x4.S]).rangeAt hw.fro) rfl) rfl <| WQ.yes rfl rfl <| qq (q_neA EqT_121 rfl rfl rfl (r := eqT_TVal x2.V x4) rfl) rfl <| WQ.q (q_pick1 rfl rfl) rfl rfl rfl ?_
    cases hb_2
    exact WQ.keep (by exact ⟨rfl, rfl, rfl, rfl, rfl, rfl, rfl, rfl, rfl, trivial⟩) K
   ·replace hb_2 := ite_f hb_2 c4
    refine WQ.no rfl rfl rfl rfl <| WQ.no rfl rfl rfl rfl <| WQ.no rfl rfl rfl rfl <| WQ.no rfl rfl rfl rfl <| WQ.no rfl rfl rfl rfl <| WQ.no rfl rfl rfl rfl <| WQ.no rfl rfl rfl rfl <| WQ.no rfl rfl rfl rfl <| WQ.q (q_pick0 rfl rfl) rfl rfl rfl ?_
    cases hb_2
    exact WQ.keep (by exact ⟨rfl, rfl, rfl, rfl, rfl, rfl, rfl, rfl, rfl, trivial⟩) K
  refine qq (q_move rfl) rfl ?_
  obtain ⟨b3, hb_3, h⟩ := bind_some h
  refine WQ.cutN 16 [(79, .bool b3), (2, pv2), (3, .pointer (some ⟨b_1, 0, none⟩)), (4, .pointer (some ⟨b_2, 0, none⟩)), (8, u1), (9, .int .i64 s2), (10, .pointer (some ⟨b_3, 0, none⟩)), (12, .bool x3.2)] ?_ (fun K => ?_)
  rotate_left
  ·refine WQ.split (d := 63) rfl (fun c5 => ?_) (fun c5 => ?_)
   ·replace hb_3 := ite_t hb_3 c5
    refine WQ.no rfl rfl rfl rfl <| WQ.no rfl rfl rfl rfl <| WQ.no rfl rfl rfl rfl <| WQ.no rfl rfl rfl rfl <| WQ.nox rfl rfl rfl rfl <| WQ.no rfl rfl rfl rfl <| WQ.no rfl rfl rfl rfl <| WQ.nox rfl rfl rfl rfl <| WQ.nox rfl rfl rfl rfl <| WQ.nox rfl rfl rfl rfl <| WQ.nox rfl rfl rfl rfl <| WQ.nox rfl rfl rfl rfl <| WQ.nox rfl rfl rfl rfl <| WQ.nox rfl rfl rfl rfl <| WQ.no rfl rfl rfl rfl <| WQ.q (q_pick1 rfl rfl) rfl rfl rfl ?_
    cases hb_3
    exact WQ.keep (by exact ⟨rfl, rfl, rfl, rfl, rfl, rfl, rfl, rfl, trivial⟩) K
   ·replace hb_3 := ite_f hb_3 c5
    refine WQ.yes rfl rfl <| qq (q_fieldAddr Fld_126_0 rfl) rfl <| WQ.yes rfl rfl <| qq (q_load1 T1_3 rfl (fun w1 hw => hw.rgO (i := 1) rfl 0 1 [.int .i64 x2.K] rfl)) rfl <| WQ.yes rfl rfl <| qq (q_eql rfl rfl) rfl <| WQ.yes rfl rfl <| qq (q_move rfl) rfl ?_
    obtain ⟨b4, hb_4, hb_3⟩ := bind_some hb_3
    refine WQ.cutN 2 [(69, .bool b4), (2, pv2), (3, .pointer (some ⟨b_1, 0, none⟩)), (4, .pointer (some ⟨b_2, 0, none⟩)), (8, u1), (9, .int .i64 s2), (10, .pointer (some ⟨b_3, 0, none⟩)), (11, .pointer (some ⟨b_4, 0, none⟩)), (12, .bool x3.2), (63, .bool false)] ?_ (fun K => ?_)
    rotate_left
    ·refine WQ.split (d := 67) rfl (fun c6 => ?_) (fun c6 => ?_)
     ·replace hb_4 := ite_t hb_4 c6
      refine WQ.yes rfl rfl <| qq (q_move rfl) rfl <| WQ.yes rfl rfl <| WQ.q (q_pick1 rfl rfl) rfl rfl rfl ?_
      cases hb_4
      exact WQ.keep (by exact ⟨rfl, rfl, rfl, rfl, rfl, rfl, rfl, rfl, rfl, rfl, trivial⟩) K
     ·replace hb_4 := ite_f hb_4 c6
      refine WQ.no rfl rfl rfl rfl <| WQ.yes rfl rfl <| WQ.q (q_pick0 rfl rfl) rfl rfl rfl ?_
      cases hb_4
      exact WQ.keep (by exact ⟨rfl, rfl, rfl, rfl, rfl, rfl, rfl, rfl, rfl, rfl, trivial⟩) K
    refine WQ.yes rfl rfl <| qq (q_move rfl) rfl ?_
    obtain ⟨b5, hb_5, hb_3⟩ := bind_some hb_3
    refine WQ.cutN 8 [(78, .bool b5), (2, pv2), (3, .pointer (some ⟨b_1, 0, none⟩)), (4, .pointer (some ⟨b_2, 0, none⟩)), (8, u1), (9, .int .i64 s2), (10, .pointer (some ⟨b_3, 0, none⟩)), (12, .bool x3.2), (63, .bool false)] ?_ (fun K => ?_)
    rotate_left
    ·refine WQ.split (d := 70) rfl (fun c7 => ?_) (fun c7 => ?_)
     ·replace hb_5 := ite_t hb_5 c7
      refine WQ.yes rfl rfl <| qq (q_loadN Tn_121 rfl (fun w1 hw => hw.rgO (i := 0) rfl 0 3 [.int .i64 x3.1.K, .int .i64 x3.1.N, .string x3.1.S] rfl) rfl) rfl <| WQ.yes rfl rfl <| qq (q_fieldAddr Fld_116_1 rfl) rfl <| WQ.yes rfl rfl <| qq (q_load1 T1_100 rfl (fun w1 hw => hw.rgO (i := 2) rfl 1 1 [pv1_0] rfl)) rfl <| WQ.yes rfl rfl <| qq (q_move rfl) rfl <| WQ.yes rfl rfl ?_
      obtain ⟨x5, hx5, hb_5⟩ := bind_some hb_5
      obtain ⟨cs3, F3, -, g3, hb3, hs3, r3⟩ := ph1_0.el (idx_some hx5).2.2
      obtain ⟨rfl, -⟩ := r3
      refine qq (q_indexAddr Sl_100 rfl rfl ph1_0 hx5) rfl <| WQ.yes rfl rfl <| qq (q_loadN Tn_121 rfl (fun w1 hw => (g3.of_eq 0 3 rfl rfl : rg _ _ _ [.int .i64 x5.K, .int .i64 x5.N, .string x5.S]).rangeAt hw.fro) rfl) rfl <| WQ.yes rfl rfl <| qq (q_neA EqT_121 rfl rfl rfl (r := eqT_TVal x3.1 x5) rfl) rfl <| WQ.yes rfl rfl <| WQ.q (q_pick1 rfl rfl) rfl rfl rfl ?_
      cases hb_5
      exact WQ.keep (by exact ⟨rfl, rfl, rfl, rfl, rfl, rfl, rfl, rfl, rfl, trivial⟩) K
     ·replace hb_5 := ite_f hb_5 c7
      refine WQ.no rfl rfl rfl rfl <| WQ.no rfl rfl rfl rfl <| WQ.no rfl rfl rfl rfl <| WQ.no rfl rfl rfl rfl <| WQ.no rfl rfl rfl rfl <| WQ.no rfl rfl rfl rfl <| WQ.no rfl rfl rfl rfl <| WQ.yes rfl rfl <| WQ.q (q_pick0 rfl rfl) rfl rfl rfl ?_
      cases hb_5
      exact WQ.keep (by exact ⟨rfl, rfl, rfl, rfl, rfl, rfl, rfl, rfl, rfl, trivial⟩) K
    refine WQ.q (q_pick0 rfl rfl) rfl rfl rfl ?_
    cases hb_3
    exact WQ.keep (by exact ⟨rfl, rfl, rfl, rfl, rfl, rfl, rfl, rfl, trivial⟩) K
  refine WQ.nil ?_
  refine WT.cond rfl (fun c8 => ?_) (fun c8 => ?_)
  ·replace h := ite_t h c8
   refine WT.seq <| WT.region ?_
   have rc2 : RC RTBind 4 Φ_3 ([] : List (List Nat)) [] ([] : List TBind) := RC.nil _ _ _
   refine le' (e_lit (vs := []) (C := #[]) RTBind.lasts Sl_55 Zr_123 rfl rfl rfl rfl (fill_made MC_123_0 (fill_nil)) rfl rc2 rfl (by simpa using Kw.nil)) rfl (fun v3 Φ_4 D3 q3 => ?_)
   obtain ⟨fr3, h3⟩ := q3
   replace h3 : OSl RTBind 123 4 Φ_4 [] v3 ([] : List TBind) := by simpa using h3
   replace ph2 := ph2.frame RTBind.lasts fr3 (Dj.empty _)
   refine lq (q_move rfl) rfl ?_
   obtain ⟨x6, hx6, h⟩ := bind_some h
   refine le' (e_appF RTBind.lasts RTBind.one RTBind.flat Sl_55 Ei_123 rfl rfl rfl rfl rfl (js := [0]) (Rr := [ob u1]) rfl h3 ph2 hx6) rfl (fun v4 Φ_5 D4 q4 => ?_)
   obtain ⟨⟨ap2, fr4⟩, h4⟩ := q4
   refine lq (q_assign rfl) rfl <| lq (q_assign rfl) rfl <| WL.nil ?_
   refine WT.ret Tryz.func64 (resOk.two rfl rfl) (fun w1 hw => ?_)
   subst hb0
   cases h
   refine postG_of_St (js := [0]) hw rfl ⟨v4, rfl, rfl, h4⟩
  replace h := ite_f h c8
  refine WT.skip <| WT.seq <| WT.region <| lq (q_fieldAddr Fld_126_0 rfl) rfl <| lq (q_load1 T1_3 rfl (fun w1 hw => hw.rgO (i := 1) rfl 0 1 [.int .i64 x2.K] rfl)) rfl <| lq (q_eql rfl rfl) rfl <| lq (q_move rfl) rfl ?_
  obtain ⟨b6, hb_6, h⟩ := bind_some h
  refine WL.cutN 3 [(89, .bool b6), (2, pv2), (3, .pointer (some ⟨b_1, 0, none⟩)), (4, .pointer (some ⟨b_2, 0, none⟩)), (8, u1), (9, .int .i64 s2), (10, .pointer (some ⟨b_3, 0, none⟩))] ?_ (fun K => ?_)
  rotate_left
  ·refine WL.split (d := 86) rfl (fun c9 => ?_) (fun c9 => ?_)
   ·replace hb_6 := ite_t hb_6 c9
    refine WL.yes rfl rfl <| lq (q_move rfl) rfl <| WL.yes rfl rfl <| lq (q_not rfl) rfl <| WL.q (q_pick1 rfl rfl) rfl rfl rfl ?_
    cases hb_6
    exact WL.keep (by exact ⟨rfl, rfl, rfl, rfl, rfl, rfl, rfl, trivial⟩) K
   ·replace hb_6 := ite_f hb_6 c9
    refine WL.no rfl rfl rfl rfl <| WL.no rfl rfl rfl rfl <| WL.q (q_pick0 rfl rfl) rfl rfl rfl ?_
    cases hb_6
    exact WL.keep (by exact ⟨rfl, rfl, rfl, rfl, rfl, rfl, rfl, trivial⟩) K
  refine WL.nil ?_
  refine WT.cond rfl (fun c10 => ?_) (fun c10 => ?_)
  ·replace h := ite_t h c10
   refine WT.mix (Kn Φ_3 pG1_0 [(b_4, .cells #[.int .i64 x3.1.K, .int .i64 x3.1.N, .string x3.1.S] 121 (0, 0)), (b_3, .cells #[.int .i64 x2.K, .string x2.S, .int .i64 x2.V.K, .int .i64 x2.V.N, .string x2.V.S] 126 (0, 0)), (b_2, .cells #[.string p1.Kind, pv1_0] 116 (0, 0)), (b_1, .cells #[.string p0.Kind, pv0_0, .bool p0.Not] 114 (0, 0))]) (fun _ => true) mixed (fun _ h => h.drew) <| mq 0 rfl (by kernel_rfl) (fun w1 hw => Kn.of (fun _ _ _ h => h) (AllIn.mem ⟨gM 0 rfl, gM 1 rfl, gM 2 rfl, gM 3 rfl, trivial⟩) hw) (q_move rfl) rfl ?_
   refine mq 1 rfl (by kernel_rfl) (fun w1 hw => Kn.of (fun _ _ _ h => h) (AllIn.mem ⟨gM 0 rfl, gM 1 rfl, gM 2 rfl, gM 3 rfl, trivial⟩) hw) (q_fieldAddr Fld_126_1 rfl) rfl <| mq 2 rfl (by kernel_rfl) (fun w1 hw => Kn.of (fun _ _ _ h => h) (AllIn.mem ⟨gM 0 rfl, gM 1 rfl, gM 2 rfl, gM 3 rfl, trivial⟩) hw) (q_load1 T1_9 rfl (fun w1 hw => hw.rgO (i := 1) rfl 1 1 [.string x2.S] rfl)) rfl ?_
   refine mq 3 rfl (by kernel_rfl) (fun w1 hw => Kn.of (fun _ _ _ h => h) (AllIn.mem ⟨gM 0 rfl, gM 1 rfl, gM 2 rfl, gM 3 rfl, trivial⟩) hw) (q_fieldAddr Fld_116_1 rfl) rfl <| mq 4 rfl (by kernel_rfl) (fun w1 hw => Kn.of (fun _ _ _ h => h) (AllIn.mem ⟨gM 0 rfl, gM 1 rfl, gM 2 rfl, gM 3 rfl, trivial⟩) hw) (q_load1 T1_100 rfl (fun w1 hw => hw.rgO (i := 2) rfl 1 1 [pv1_0] rfl)) rfl ?_
   refine mq 5 rfl (by kernel_rfl) (fun w1 hw => Kn.of (fun _ _ _ h => h) (AllIn.mem ⟨gM 0 rfl, gM 1 rfl, gM 2 rfl, gM 3 rfl, trivial⟩) hw) (q_move rfl) rfl ?_
   obtain ⟨x7, hx7, h⟩ := bind_some h
   obtain ⟨cs4, F4, -, g4, hb4, hs4, r4⟩ := ph1_0.el (idx_some hx7).2.2
   obtain ⟨rfl, -⟩ := r4
   refine mq 6 rfl (by kernel_rfl) (fun w1 hw => Kn.of (fun _ _ _ h => h) (AllIn.mem ⟨gM 0 rfl, gM 1 rfl, gM 2 rfl, gM 3 rfl, trivial⟩) hw) (q_indexAddr Sl_100 rfl rfl ph1_0 hx7) rfl <| mq 7 rfl (by kernel_rfl) (fun w1 hw => Kn.of (fun _ _ _ h => h) (AllIn.mem ⟨gM 0 rfl, gM 1 rfl, gM 2 rfl, gM 3 rfl, trivial⟩) hw) (q_loadN Tn_121 rfl (fun w1 hw => hw.rg hb4 (g4.of_eq 0 3 rfl rfl : rg _ _ _ [.int .i64 x7.K, .int .i64 x7.N, .string x7.S])) rfl) rfl ?_
   refine mq 8 rfl (by kernel_rfl) (fun w1 hw => Kn.of (fun _ _ _ h => h) (AllIn.mem ⟨gM 0 rfl, gM 1 rfl, gM 2 rfl, gM 3 rfl, trivial⟩) hw) (q_build (vs := [(0, .string x2.S), (1, .agg [.int .i64 x7.K, .int .i64 x7.N, .string x7.S].toArray)]) (C := #[.string x2.S, .int .i64 x7.K, .int .i64 x7.N, .string x7.S]) Pl_123 Zr_123 rfl (fill_cons (cells := [.string ⟨#[]⟩, .int .i64 0, .int .i64 0, .string ⟨#[]⟩]) (c := [.string x2.S]) (C' := [.string x2.S, .int .i64 0, .int .i64 0, .string ⟨#[]⟩]) rfl rfl rfl rfl rfl (fill_cons (cells := [.string x2.S, .int .i64 0, .int .i64 0, .string ⟨#[]⟩]) (c := [.int .i64 x7.K, .int .i64 x7.N, .string x7.S]) (C' := [.string x2.S, .int .i64 x7.K, .int .i64 x7.N, .string x7.S]) rfl rfl rfl rfl rfl (fill_nil)))) rfl ?_
   have rc3 : RC RTBind 4 Φ_3 ([[]] : List (List Nat)) [.string x2.S, .int .i64 x7.K, .int .i64 x7.N, .string x7.S] ([(⟨x2.S, x7⟩ : TBind)] : List TBind) := RC.cons (c := [.string x2.S, .int .i64 x7.K, .int .i64 x7.N, .string x7.S]) (cells := []) ⟨rfl, rfl⟩ rfl (RC.nil _ _ _)
   refine WM.one 9 (by kernel_rfl) (me rfl (fun _ v Φx D w1 hq hw => Kn.of (fun k hk o ho => hq.1 k o (by simp) ((fun _ _ _ h => h) k hk o ho)) (AllIn.mem ⟨gM 0 rfl, gM 1 rfl, gM 2 rfl, gM 3 rfl, trivial⟩) hw) (e_lit (vs := [(0, .agg [.string x2.S, .int .i64 x7.K, .int .i64 x7.N, .string x7.S].toArray)]) (C := #[.string x2.S, .int .i64 x7.K, .int .i64 x7.N, .string x7.S]) RTBind.lasts Sl_55 Zr_123 rfl rfl rfl rfl (fill_made MC_123_1 (fill_cons (cells := [.string ⟨#[]⟩, .int .i64 0, .int .i64 0, .string ⟨#[]⟩]) (c := [.string x2.S, .int .i64 x7.K, .int .i64 x7.N, .string x7.S]) (C' := [.string x2.S, .int .i64 x7.K, .int .i64 x7.N, .string x7.S]) rfl rfl rfl rfl rfl (fill_nil))) rfl rc3 rfl (by simpa using Kw.nil)) rfl (fun v5 Φ_6 D5 q5 => ?_))
   obtain ⟨fr5, h5⟩ := q5
   replace h5 : OSl RTBind 123 4 Φ_6 [] v5 ([(⟨x2.S, x7⟩ : TBind)] : List TBind) := by simpa using h5
   replace ph2 := ph2.frame RTBind.lasts fr5 (Dj.empty _)
   replace ph0_0 := ph0_0.frame RTArg.lasts fr5 (Dj.empty _)
   replace ph1_0 := ph1_0.frame RTVal.lasts fr5 (Dj.empty _)
   replace k1 := k1.frame RTBind.lasts fr5 (Dj.empty _) (Dj.empty _)
   obtain ⟨x8, hx8, h⟩ := bind_some h
   refine WM.one 10 (by kernel_rfl) (me rfl (fun _ v Φx D w1 hq hw => Kn.of (fun k hk o ho => hq.1.2 k o ((hq.1.1.o pa1_0) k hk) ((fun k hk o ho => fr5 k o (by simp) ((fun _ _ _ h => h) k hk o ho)) k hk o ho)) (AllIn.mem ⟨gM 0 rfl, gM 1 rfl, gM 2 rfl, gM 3 rfl, trivial⟩) hw) (e_appF RTBind.lasts RTBind.one RTBind.flat Sl_55 Ei_123 rfl rfl rfl rfl rfl (js := [1]) (Rr := [ob v5]) rfl k1 h5.rsl hx8) rfl (fun v6 Φ_7 D6 q6 => ?_))
   obtain ⟨⟨ap3, fr6⟩, h6⟩ := q6
   replace ph2 := ph2.frame RTBind.lasts fr6 (ap3.o pa2)
   replace ph0_0 := ph0_0.frame RTArg.lasts fr6 (ap3.o pa0_0)
   replace ph1_0 := ph1_0.frame RTVal.lasts fr6 (ap3.o pa1_0)
   refine mq 11 rfl (by kernel_rfl) (fun w1 hw => Kn.of (fun k hk o ho => fr6 k o ((ap3.o pa1_0) k hk) ((fun k hk o ho => fr5 k o (by simp) ((fun _ _ _ h => h) k hk o ho)) k hk o ho)) (AllIn.mem ⟨gM 0 rfl, gM 1 rfl, gM 2 rfl, gM 3 rfl, trivial⟩) hw) (q_assign rfl) rfl <| WM.nil (by kernel_rfl) <| WT.inBlock <| WT.region <| lq (q_move rfl) rfl ?_
   refine lq (q_add rfl rfl) rfl <| lq (q_assign rfl) rfl <| WL.nil ?_
   refine WT.inLoop (WT.mono (l' := [(2, pv2), (3, .pointer (some ⟨b_1, 0, none⟩)), (4, .pointer (some ⟨b_2, 0, none⟩)), (8, v6), (9, .int .i64 (IntKind.i64.wrap (s2 + 1)))]) (S' := St w0 Φ_7 [(b_2, .cells #[.string p1.Kind, pv1_0] 116 (0, 0)), (b_1, .cells #[.string p0.Kind, pv0_0, .bool p0.Not] 114 (0, 0))] [ob v6]) ⟨rfl, rfl, rfl, rfl, rfl, trivial⟩ (fun w1 hw => (hw.sel (js := [0]) rfl).selO (js := [2, 2]) rfl) ?_)
   exact ih1 (Φ_7, x8, v6, IntKind.i64.wrap (s2 + 1)) ⟨h, h6, ph2, ph0_0, ph1_0⟩
  replace h := ite_f h c10
  refine WT.skip <| WT.inBlock <| WT.region <| lq (q_move rfl) rfl <| lq (q_add rfl rfl) rfl <| lq (q_assign rfl) rfl <| WL.nil ?_
  refine WT.inLoop (WT.mono (l' := [(2, pv2), (3, .pointer (some ⟨b_1, 0, none⟩)), (4, .pointer (some ⟨b_2, 0, none⟩)), (8, u1), (9, .int .i64 (IntKind.i64.wrap (s2 + 1)))]) (S' := St w0 Φ_3 [(b_2, .cells #[.string p1.Kind, pv1_0] 116 (0, 0)), (b_1, .cells #[.string p0.Kind, pv0_0, .bool p0.Not] 114 (0, 0))] [ob u1]) ⟨rfl, rfl, rfl, rfl, rfl, trivial⟩ (fun w1 hw => (hw.sel (js := [0]) rfl).selO (js := [2, 2]) rfl) ?_)
  exact ih1 (Φ_3, s1, u1, IntKind.i64.wrap (s2 + 1)) ⟨h, k1, ph2, ph0_0, ph1_0⟩
 replace h := ite_f h c3
 refine WT.exit rfl <| WT.seq <| WT.region <| lq (q_move rfl) rfl <| lq (q_assign rfl) rfl <| lq (q_assign rfl) rfl <| WL.nil ?_
 refine WT.ret Tryz.func64 (resOk.two rfl rfl) (fun w1 hw => ?_)
 subst hb0
 cases h
 refine postG_of_St (js := [0]) hw rfl ⟨u1, rfl, rfl, k1⟩
theorem m_s_Blocked_ok {Φ : Hp} {w : World} (hΦ : In Φ w) (N : Nat) (p0 : TRule) (p1 : TStore) (p2 : (List TBind)) {pv0_0 : Value} {pG0_0 : List Nat} {pv0_1 : Value} {pG0_1 : List Nat} {pv0_2 : Value} {pG0_2 : List Nat} {pv1_0 : Value} {pG1_0 : List Nat} {pv2 : Value} {pG2 : List Nat} (ph0_0 : RSl RTPat 3 Φ pG0_0 pv0_0 p0.Pats) (ph0_1 : RSl RTCond 11 Φ pG0_1 pv0_1 p0.Conds) (ph0_2 : RSl RTAct 5 Φ pG0_2 pv0_2 p0.Acts) (ph1_0 : RSl RTItem 3 Φ pG1_0 pv1_0 p1.Items) (ph2 : RSl RTBind 4 Φ pG2 pv2 p2) {r : Bool} (h : m_s_Blocked N p0 p1 p2 = some r) :
  Calls Tryz.prog 184 [.agg [.string p0.Name, .int .i64 p0.Sal, pv0_0, pv0_1, pv0_2].toArray, .agg [pv1_0, .int .i64 p1.Next].toArray, pv2].toArray w (Post (.bool r) w) := by
 refine enter Tryz.func184 rfl Tryz.ntmps184 rfl (St.start0 hΦ) ?_
 have pa0_0 : Old ⟨w, [], Φ⟩ pG0_0 := Old.mk hΦ ph0_0.kn (Dj.empty _)
 have pa0_1 : Old ⟨w, [], Φ⟩ pG0_1 := Old.mk hΦ ph0_1.kn (Dj.empty _)
 have pa0_2 : Old ⟨w, [], Φ⟩ pG0_2 := Old.mk hΦ ph0_2.kn (Dj.empty _)
 have pa1_0 : Old ⟨w, [], Φ⟩ pG1_0 := Old.mk hΦ ph1_0.kn (Dj.empty _)
 have pa2 : Old ⟨w, [], Φ⟩ pG2 := Old.mk hΦ ph2.kn (Dj.empty _)
 revert pa0_0 pa0_1 pa0_2 pa1_0 pa2
 generalize hb0 : (⟨w, [], Φ⟩ : Base) = w0
 intro pa0_0 pa0_1 pa0_2 pa1_0 pa2
 unfold m_s_Blocked at h
 refine WT.seq <| WT.region ?_
 refine ln (n_box (C := #[.string p0.Name, .int .i64 p0.Sal, pv0_0, pv0_1, pv0_2]) rfl rfl) rfl (fun b_1 => ?_)
 refine ln (n_box (C := #[pv1_0, .int .i64 p1.Next]) rfl rfl) rfl (fun b_2 => ?_)
 refine lq (q_assign rfl) rfl <| WL.nil <| WT.seq <| WT.seq <| WT.region <| lq (q_assign rfl) rfl <| WL.nil <| WT.block <| WT.loop <| WT.mono (l' := [(2, pv2), (3, .pointer (some ⟨b_1, 0, none⟩)), (4, .pointer (some ⟨b_2, 0, none⟩)), (7, .int .i64 0)]) (S' := St w0 Φ [(b_2, .cells #[pv1_0, .int .i64 p1.Next] 52 (0, 0)), (b_1, .cells #[.string p0.Name, .int .i64 p0.Sal, pv0_0, pv0_1, pv0_2] 49 (0, 0))] []) ⟨rfl, rfl, rfl, rfl, trivial⟩ (fun w1 hw => (hw.sel (js := []) rfl).selO (js := [0, 0]) rfl) ?_
 refine loop_ind (σ := Hp × Int) (fun s => [(2, pv2), (3, .pointer (some ⟨b_1, 0, none⟩)), (4, .pointer (some ⟨b_2, 0, none⟩)), (7, .int .i64 s.2)]) (fun s => St w0 s.1 [(b_2, .cells #[pv1_0, .int .i64 p1.Next] 52 (0, 0)), (b_1, .cells #[.string p0.Name, .int .i64 p0.Sal, pv0_0, pv0_1, pv0_2] 49 (0, 0))] []) (fun m s => m_s_Blocked_l1 N p0 p1 p2 m s.2 = some r ∧ (RSl RTBind 4 s.1 pG2 pv2 p2) ∧ (RSl RTPat 3 s.1 pG0_0 pv0_0 p0.Pats) ∧ (RSl RTCond 11 s.1 pG0_1 pv0_1 p0.Conds) ∧ (RSl RTAct 5 s.1 pG0_2 pv0_2 p0.Acts) ∧ (RSl RTItem 3 s.1 pG1_0 pv1_0 p1.Items)) (fun s hm => none_ne (show (none : Option (Bool)) = some r from hm.1)) (fun n1 ih1 s hm => ?_) N (Φ, 0) ⟨h, ph2, ph0_0, ph0_1, ph0_2, ph1_0⟩
 obtain ⟨Φ_1, s1⟩ := s
 obtain ⟨h, ph2, ph0_0, ph0_1, ph0_2, ph1_0⟩ := hm
 replace h : m_s_Blocked_l1 N p0 p1 p2 (n1 + 1) s1 = some r := h
 replace ph2 : RSl RTBind 4 Φ_1 pG2 pv2 p2 := ph2
 replace ph0_0 : RSl RTPat 3 Φ_1 pG0_0 pv0_0 p0.Pats := ph0_0
 replace ph0_1 : RSl RTCond 11 Φ_1 pG0_1 pv0_1 p0.Conds := ph0_1
 replace ph0_2 : RSl RTAct 5 Φ_1 pG0_2 pv0_2 p0.Acts := ph0_2
 replace ph1_0 : RSl RTItem 3 Φ_1 pG1_0 pv1_0 p1.Items := ph1_0
 show WT _ _ [(2, pv2), (3, .pointer (some ⟨b_1, 0, none⟩)), (4, .pointer (some ⟨b_2, 0, none⟩)), (7, .int .i64 s1)] (St w0 Φ_1 [(b_2, .cells #[pv1_0, .int .i64 p1.Next] 52 (0, 0)), (b_1, .cells #[.string p0.Name, .int .i64 p0.Sal, pv0_0, pv0_1, pv0_2] 49 (0, 0))] [])
 unfold m_s_Blocked_l1 at h
 refine WT.seq <| WT.seq <| WT.region <| lq (q_move rfl) rfl <| lq (q_fieldAddr Fld_49_2 rfl) rfl <| lq (q_load1 T1_45 rfl (fun w1 hw => hw.rgO (i := 1) rfl 2 1 [pv0_0] rfl)) rfl <| lq (q_lenR Sl_45 rfl rfl ph0_0) rfl <| lq (q_lss rfl rfl) rfl <| WL.nil ?_
 refine WT.cond rfl (fun c1 => ?_) (fun c1 => ?_)
 ·replace h := ite_t h c1
  refine WT.skip <| WT.seq <| WT.block <| WT.seq <| WT.region <| lq (q_assign rfl) rfl <| WL.nil <| WT.block <| WT.loop <| WT.mono (l' := [(2, pv2), (3, .pointer (some ⟨b_1, 0, none⟩)), (4, .pointer (some ⟨b_2, 0, none⟩)), (7, .int .i64 s1), (8, .int .i64 0)]) (S' := St w0 Φ_1 [(b_2, .cells #[pv1_0, .int .i64 p1.Next] 52 (0, 0)), (b_1, .cells #[.string p0.Name, .int .i64 p0.Sal, pv0_0, pv0_1, pv0_2] 49 (0, 0))] []) ⟨rfl, rfl, rfl, rfl, rfl, trivial⟩ (fun w1 hw => (hw.sel (js := []) rfl).selO (js := [0, 0]) rfl) ?_
  refine loop_ind (σ := Hp × Int) (fun s => [(2, pv2), (3, .pointer (some ⟨b_1, 0, none⟩)), (4, .pointer (some ⟨b_2, 0, none⟩)), (7, .int .i64 s1), (8, .int .i64 s.2)]) (fun s => St w0 s.1 [(b_2, .cells #[pv1_0, .int .i64 p1.Next] 52 (0, 0)), (b_1, .cells #[.string p0.Name, .int .i64 p0.Sal, pv0_0, pv0_1, pv0_2] 49 (0, 0))] []) (fun m s => m_s_Blocked_l2 N p0 p1 p2 s1 (m_s_Blocked_l1 N p0 p1 p2 n1) m s.2 = some r ∧ (RSl RTBind 4 s.1 pG2 pv2 p2) ∧ (RSl RTPat 3 s.1 pG0_0 pv0_0 p0.Pats) ∧ (RSl RTCond 11 s.1 pG0_1 pv0_1 p0.Conds) ∧ (RSl RTAct 5 s.1 pG0_2 pv0_2 p0.Acts) ∧ (RSl RTItem 3 s.1 pG1_0 pv1_0 p1.Items)) (fun s hm => none_ne (show (none : Option (Bool)) = some r from hm.1)) (fun n2 ih2 s hm => ?_) N (Φ_1, 0) ⟨h, ph2, ph0_0, ph0_1, ph0_2, ph1_0⟩
  obtain ⟨Φ_2, s2⟩ := s
  obtain ⟨h, ph2, ph0_0, ph0_1, ph0_2, ph1_0⟩ := hm
  replace h : m_s_Blocked_l2 N p0 p1 p2 s1 (m_s_Blocked_l1 N p0 p1 p2 n1) (n2 + 1) s2 = some r := h
  replace ph2 : RSl RTBind 4 Φ_2 pG2 pv2 p2 := ph2
  replace ph0_0 : RSl RTPat 3 Φ_2 pG0_0 pv0_0 p0.Pats := ph0_0
  replace ph0_1 : RSl RTCond 11 Φ_2 pG0_1 pv0_1 p0.Conds := ph0_1
  replace ph0_2 : RSl RTAct 5 Φ_2 pG0_2 pv0_2 p0.Acts := ph0_2
  replace ph1_0 : RSl RTItem 3 Φ_2 pG1_0 pv1_0 p1.Items := ph1_0
  show WT _ _ [(2, pv2), (3, .pointer (some ⟨b_1, 0, none⟩)), (4, .pointer (some ⟨b_2, 0, none⟩)), (7, .int .i64 s1), (8, .int .i64 s2)] (St w0 Φ_2 [(b_2, .cells #[pv1_0, .int .i64 p1.Next] 52 (0, 0)), (b_1, .cells #[.string p0.Name, .int .i64 p0.Sal, pv0_0, pv0_1, pv0_2] 49 (0, 0))] [])
  unfold m_s_Blocked_l2 at h
  refine WT.seq <| WT.seq <| WT.region <| lq (q_move rfl) rfl <| lq (q_fieldAddr Fld_52_0 rfl) rfl <| lq (q_load1 T1_50 rfl (fun w1 hw => hw.rgO (i := 0) rfl 0 1 [pv1_0] rfl)) rfl <| lq (q_lenR Sl_50 rfl rfl ph1_0) rfl <| lq (q_lss rfl rfl) rfl <| lq (q_move rfl) rfl ?_
  obtain ⟨b1, hb_1, h⟩ := bind_some h
  refine WL.cutN 7 [(30, .bool b1), (2, pv2), (3, .pointer (some ⟨b_1, 0, none⟩)), (4, .pointer (some ⟨b_2, 0, none⟩)), (7, .int .i64 s1), (8, .int .i64 s2)] ?_ (fun K => ?_)
  rotate_left
  ·refine WL.split (d := 23) rfl (fun c2 => ?_) (fun c2 => ?_)
   ·replace hb_1 := ite_t hb_1 c2
    refine WL.yes rfl rfl <| lq (q_fieldAddr Fld_49_2 rfl) rfl <| WL.yes rfl rfl <| lq (q_load1 T1_45 rfl (fun w1 hw => hw.rgO (i := 1) rfl 2 1 [pv0_0] rfl)) rfl <| WL.yes rfl rfl <| lq (q_move rfl) rfl <| WL.yes rfl rfl ?_
    obtain ⟨x1, hx1, hb_1⟩ := bind_some hb_1
    obtain ⟨cs1, F1, -, g1, hb1, hs1, r1⟩ := ph0_0.el (idx_some hx1).2.2
    obtain ⟨v1, G1, rfl, hq1, h1⟩ := r1
    obtain rfl := hq1.symm
    refine lq (q_indexAddr Sl_45 rfl rfl ph0_0 hx1) rfl <| WL.yes rfl rfl <| lq (q_fieldAddr Fld_114_2 rfl) rfl <| WL.yes rfl rfl <| lq (q_load1 T1_4 rfl (fun w1 hw => (g1.of_eq 2 1 rfl rfl : rg _ _ _ [.bool x1.Not]).rangeAt hw.fro)) rfl <| WL.q (q_pick1 rfl rfl) rfl rfl rfl ?_
    cases hb_1
    exact WL.keep (by exact ⟨rfl, rfl, rfl, rfl, rfl, rfl, trivial⟩) K
   ·replace hb_1 := ite_f hb_1 c2
    refine WL.no rfl rfl rfl rfl <| WL.no rfl rfl rfl rfl <| WL.no rfl rfl rfl rfl <| WL.no rfl rfl rfl rfl <| WL.no rfl rfl rfl rfl <| WL.no rfl rfl rfl rfl <| WL.q (q_pick0 rfl rfl) rfl rfl rfl ?_
    cases hb_1
    exact WL.keep (by exact ⟨rfl, rfl, rfl, rfl, rfl, rfl, trivial⟩) K
  refine WL.nil ?_
  refine WT.cond rfl (fun c3 => ?_) (fun c3 => ?_)
  ·replace h := ite_t h c3
   refine WT.skip <| WT.seq <| WT.block <| WT.seq <| WT.mix (Kn Φ_2 (pG0_0 ++ pG1_0) [(b_2, .cells #[pv1_0, .int .i64 p1.Next] 52 (0, 0)), (b_1, .cells #[.string p0.Name, .int .i64 p0.Sal, pv0_0, pv0_1, pv0_2] 49 (0, 0))]) (fun _ => true) mixed (fun _ h => h.drew) <| mq 0 rfl (by kernel_rfl) (fun w1 hw => Kn.of (fun _ _ _ h => h) (AllIn.mem ⟨gM 0 rfl, gM 1 rfl, trivial⟩) hw) (q_fieldAddr Fld_49_2 rfl) rfl ?_
   refine mq 1 rfl (by kernel_rfl) (fun w1 hw => Kn.of (fun _ _ _ h => h) (AllIn.mem ⟨gM 0 rfl, gM 1 rfl, trivial⟩) hw) (q_load1 T1_45 rfl (fun w1 hw => hw.rgO (i := 1) rfl 2 1 [pv0_0] rfl)) rfl <| mq 2 rfl (by kernel_rfl) (fun w1 hw => Kn.of (fun _ _ _ h => h) (AllIn.mem ⟨gM 0 rfl, gM 1 rfl, trivial⟩) hw) (q_move rfl) rfl ?_
   obtain ⟨x2, hx2, h⟩ := bind_some h
   obtain ⟨cs2, F2, -, g2, hb2, hs2, r2⟩ := ph0_0.el (idx_some hx2).2.2
   obtain ⟨v2, G2, rfl, hq2, h2⟩ := r2
   obtain rfl := hq2.symm
   refine mq 3 rfl (by kernel_rfl) (fun w1 hw => Kn.of (fun _ _ _ h => h) (AllIn.mem ⟨gM 0 rfl, gM 1 rfl, trivial⟩) hw) (q_indexAddr Sl_45 rfl rfl ph0_0 hx2) rfl <| mq 4 rfl (by kernel_rfl) (fun w1 hw => Kn.of (fun _ _ _ h => h) (AllIn.mem ⟨gM 0 rfl, gM 1 rfl, trivial⟩) hw) (q_loadN Tn_114 rfl (fun w1 hw => hw.rg (List.mem_append.2 (.inl hb2)) (g2.of_eq 0 3 rfl rfl : rg _ _ _ [.string x2.Kind, v2, .bool x2.Not])) rfl) rfl ?_
   refine mq 5 rfl (by kernel_rfl) (fun w1 hw => Kn.of (fun _ _ _ h => h) (AllIn.mem ⟨gM 0 rfl, gM 1 rfl, trivial⟩) hw) (q_fieldAddr Fld_52_0 rfl) rfl <| mq 6 rfl (by kernel_rfl) (fun w1 hw => Kn.of (fun _ _ _ h => h) (AllIn.mem ⟨gM 0 rfl, gM 1 rfl, trivial⟩) hw) (q_load1 T1_50 rfl (fun w1 hw => hw.rgO (i := 0) rfl 0 1 [pv1_0] rfl)) rfl ?_
   refine mq 7 rfl (by kernel_rfl) (fun w1 hw => Kn.of (fun _ _ _ h => h) (AllIn.mem ⟨gM 0 rfl, gM 1 rfl, trivial⟩) hw) (q_move rfl) rfl ?_
   obtain ⟨x3, hx3, h⟩ := bind_some h
   obtain ⟨cs3, F3, -, g3, hb3, hs3, r3⟩ := ph1_0.el (idx_some hx3).2.2
   obtain ⟨v3, G3, rfl, hq3, h3⟩ := r3
   obtain rfl := hq3.symm
   refine mq 8 rfl (by kernel_rfl) (fun w1 hw => Kn.of (fun _ _ _ h => h) (AllIn.mem ⟨gM 0 rfl, gM 1 rfl, trivial⟩) hw) (q_indexAddr Sl_50 rfl rfl ph1_0 hx3) rfl <| mq 9 rfl (by kernel_rfl) (fun w1 hw => Kn.of (fun _ _ _ h => h) (AllIn.mem ⟨gM 0 rfl, gM 1 rfl, trivial⟩) hw) (q_fieldAddr Fld_142_1 rfl) rfl <| mq 10 rfl (by kernel_rfl) (fun w1 hw => Kn.of (fun _ _ _ h => h) (AllIn.mem ⟨gM 0 rfl, gM 1 rfl, trivial⟩) hw) (q_loadN Tn_116 rfl (fun w1 hw => hw.rg (List.mem_append.2 (.inr hb3)) (g3.of_eq 1 2 rfl rfl : rg _ _ _ [.string x3.F.Kind, v3])) rfl) rfl ?_
   refine mq 11 rfl (by kernel_rfl) (fun w1 hw => Kn.of (fun _ _ _ h => h) (AllIn.mem ⟨gM 0 rfl, gM 1 rfl, trivial⟩) hw) (q_move rfl) rfl ?_
   obtain ⟨x4, hx4, h⟩ := bind_some h
   refine WM.one 12 (by kernel_rfl) (mc rfl (fun _ v Φx D w1 hq hw => Kn.of (fun k hk o ho => hq.2.1 k o ((Dj.app (hq.1.o pa0_0) (hq.1.o pa1_0)) k hk) ((fun _ _ _ h => h) k hk o ho)) (AllIn.mem ⟨gM 0 rfl, gM 1 rfl, trivial⟩) hw) (k_call (js := []) (R := []) Fun_64 rfl rfl (fun w1 hw ap hl => m_s_MatchPat_ok hw.fro N x2 x3.F p2 h2 h3 ph2  hx4)) rfl (fun v4 Φ_3 F4 q1 => ?_))
   obtain ⟨ap1, fr1, v5, rfl, rfl, h4⟩ := q1
   replace ph2 := ph2.frame RTBind.lasts fr1 (ap1.o pa2)
   replace ph0_0 := ph0_0.frame RTPat.lasts fr1 (ap1.o pa0_0)
   replace ph0_1 := ph0_1.frame RTCond.lasts fr1 (ap1.o pa0_1)
   replace ph0_2 := ph0_2.frame RTAct.lasts fr1 (ap1.o pa0_2)
   replace ph1_0 := ph1_0.frame RTItem.lasts fr1 (ap1.o pa1_0)
   refine mq 13 rfl (by kernel_rfl) (fun w1 hw => Kn.of (fun k hk o ho => fr1 k o ((Dj.app (ap1.o pa0_0) (ap1.o pa1_0)) k hk) ((fun _ _ _ h => h) k hk o ho)) (AllIn.mem ⟨gM 0 rfl, gM 1 rfl, trivial⟩) hw) (q_move rfl) rfl <| mq 14 rfl (by kernel_rfl) (fun w1 hw => Kn.of (fun k hk o ho => fr1 k o ((Dj.app (ap1.o pa0_0) (ap1.o pa1_0)) k hk) ((fun _ _ _ h => h) k hk o ho)) (AllIn.mem ⟨gM 0 rfl, gM 1 rfl, trivial⟩) hw) (q_extract rfl rfl) rfl ?_
   refine mq 15 rfl (by kernel_rfl) (fun w1 hw => Kn.of (fun k hk o ho => fr1 k o ((Dj.app (ap1.o pa0_0) (ap1.o pa1_0)) k hk) ((fun _ _ _ h => h) k hk o ho)) (AllIn.mem ⟨gM 0 rfl, gM 1 rfl, trivial⟩) hw) (q_extract rfl rfl) rfl <| mq 16 rfl (by kernel_rfl) (fun w1 hw => Kn.of (fun k hk o ho => fr1 k o ((Dj.app (ap1.o pa0_0) (ap1.o pa1_0)) k hk) ((fun _ _ _ h => h) k hk o ho)) (AllIn.mem ⟨gM 0 rfl, gM 1 rfl, trivial⟩) hw) (q_assign rfl) rfl ?_
   refine mq 17 rfl (by kernel_rfl) (fun w1 hw => Kn.of (fun k hk o ho => fr1 k o ((Dj.app (ap1.o pa0_0) (ap1.o pa1_0)) k hk) ((fun _ _ _ h => h) k hk o ho)) (AllIn.mem ⟨gM 0 rfl, gM 1 rfl, trivial⟩) hw) (q_assign rfl) rfl <| WM.nil (by kernel_rfl) <| WT.seq <| WT.region <| lq (q_move rfl) rfl <| WL.nil ?_
   refine WT.cond rfl (fun c4 => ?_) (fun c4 => ?_)
   ·replace h := ite_t h c4
    refine WT.seq <| WT.region <| lq (q_assign rfl) rfl <| WL.nil ?_
    refine WT.ret Tryz.func184 (resOk.one rfl) (fun w1 hw => ?_)
    subst hb0
    cases h
    exact post_of_St hw
   replace h := ite_f h c4
   refine WT.skip <| WT.inBlock <| WT.region <| lq (q_move rfl) rfl <| lq (q_add rfl rfl) rfl <| lq (q_assign rfl) rfl <| WL.nil ?_
   refine WT.inLoop (WT.mono (l' := [(2, pv2), (3, .pointer (some ⟨b_1, 0, none⟩)), (4, .pointer (some ⟨b_2, 0, none⟩)), (7, .int .i64 s1), (8, .int .i64 (IntKind.i64.wrap (s2 + 1)))]) (S' := St w0 Φ_3 [(b_2, .cells #[pv1_0, .int .i64 p1.Next] 52 (0, 0)), (b_1, .cells #[.string p0.Name, .int .i64 p0.Sal, pv0_0, pv0_1, pv0_2] 49 (0, 0))] []) ⟨rfl, rfl, rfl, rfl, rfl, trivial⟩ (fun w1 hw => (hw.sel (js := []) rfl).selO (js := [0, 0]) rfl) ?_)
   exact ih2 (Φ_3, IntKind.i64.wrap (s2 + 1)) ⟨h, ph2, ph0_0, ph0_1, ph0_2, ph1_0⟩
  replace h := ite_f h c3
  refine WT.exit rfl <| WT.inBlock <| WT.region <| lq (q_move rfl) rfl <| lq (q_add rfl rfl) rfl <| lq (q_assign rfl) rfl <| WL.nil ?_
  refine WT.inLoop (WT.mono (l' := [(2, pv2), (3, .pointer (some ⟨b_1, 0, none⟩)), (4, .pointer (some ⟨b_2, 0, none⟩)), (7, .int .i64 (IntKind.i64.wrap (s1 + 1)))]) (S' := St w0 Φ_2 [(b_2, .cells #[pv1_0, .int .i64 p1.Next] 52 (0, 0)), (b_1, .cells #[.string p0.Name, .int .i64 p0.Sal, pv0_0, pv0_1, pv0_2] 49 (0, 0))] []) ⟨rfl, rfl, rfl, rfl, trivial⟩ (fun w1 hw => (hw.sel (js := []) rfl).selO (js := [0, 0]) rfl) ?_)
  exact ih1 (Φ_2, IntKind.i64.wrap (s1 + 1)) ⟨h, ph2, ph0_0, ph0_1, ph0_2, ph1_0⟩
 replace h := ite_f h c1
 refine WT.exit rfl <| WT.seq <| WT.region <| lq (q_assign rfl) rfl <| WL.nil ?_
 refine WT.ret Tryz.func184 (resOk.one rfl) (fun w1 hw => ?_)
 subst hb0
 cases h
 exact post_of_St hw
theorem m_s_ArgVal_ok {Φ : Hp} {w : World} (hΦ : In Φ w) (N : Nat) (p0 : TArg) (p1 : (List TBind)) {pv1 : Value} {pG1 : List Nat} (ph1 : RSl RTBind 4 Φ pG1 pv1 p1) {r : TVal × Bool} (h : m_s_ArgVal N p0 p1 = some r) :
  Calls Tryz.prog 238 [.agg [.int .i64 p0.K, .string p0.S, .int .i64 p0.V.K, .int .i64 p0.V.N, .string p0.V.S].toArray, pv1].toArray w (Post (.tuple #[.agg [.int .i64 r.1.K, .int .i64 r.1.N, .string r.1.S].toArray, .bool r.2]) w) := by
 refine enter Tryz.func238 rfl Tryz.ntmps238 rfl (St.start0 hΦ) ?_
 unfold m_s_ArgVal at h
 refine WT.seq <| WT.region ?_
 refine ln (n_box (C := #[.int .i64 p0.K, .string p0.S, .int .i64 p0.V.K, .int .i64 p0.V.N, .string p0.V.S]) rfl rfl) rfl (fun b_1 => ?_)
 refine ln (n_alloc (C := #[.int .i64 0, .int .i64 0, .string (⟨#[]⟩ : ByteArray)]) Zr_121 rfl) rfl (fun b_2 => ?_)
 refine lq (q_assign rfl) rfl <| WL.nil <| WT.seq <| WT.seq <| WT.region <| lq (q_fieldAddr Fld_126_0 rfl) rfl <| lq (q_load1 T1_3 rfl (fun w1 hw => hw.rgO (i := 1) rfl 0 1 [.int .i64 p0.K] rfl)) rfl <| WL.nil <| WT.block <| WT.seq <| WT.region <| lq (q_eql rfl rfl) rfl <| lq (q_assign rfl) rfl <| WL.nil ?_
 refine WT.cond rfl (fun c1 => ?_) (fun c1 => ?_)
 ·replace h := ite_t h c1
  refine WT.seq <| WT.region <| lq (q_fieldAddr Fld_126_2 rfl) rfl <| lq (q_loadN Tn_121 rfl (fun w1 hw => hw.rgO (i := 1) rfl 2 3 [.int .i64 p0.V.K, .int .i64 p0.V.N, .string p0.V.S] rfl) rfl) rfl <| ls (s_store (i := 0) (vs := [.int .i64 p0.V.K, .int .i64 p0.V.N, .string p0.V.S]) (C' := [.int .i64 p0.V.K, .int .i64 p0.V.N, .string p0.V.S]) (O' := [(b_2, .cells #[.int .i64 p0.V.K, .int .i64 p0.V.N, .string p0.V.S] 121 (0, 0)), (b_1, .cells #[.int .i64 p0.K, .string p0.S, .int .i64 p0.V.K, .int .i64 p0.V.N, .string p0.V.S] 126 (0, 0))]) Sz_121 rfl rfl rfl rfl rfl rfl ⟨rfl, rfl, rfl, trivial⟩ rfl rfl) rfl ?_
  refine lq (q_assign rfl) rfl <| WL.nil ?_
  refine WT.ret Tryz.func238 (resOk.two (rv_cell Tn_121 rfl (fun w1 hw => hw.rgO (i := 0) rfl 0 3 [.int .i64 p0.V.K, .int .i64 p0.V.N, .string p0.V.S] rfl) rfl) rfl) (fun w1 hw => ?_)
  cases h
  exact post_of_St hw
 replace h := ite_f h c1
 refine WT.seq <| WT.region <| lq (q_eql rfl rfl) rfl <| lq (q_assign rfl) rfl <| WL.nil ?_
 refine WT.cond rfl (fun c2 => ?_) (fun c2 => ?_)
 ·replace h := ite_t h c2
  refine WT.seq <| WT.region <| lq (q_move rfl) rfl <| lq (q_fieldAddr Fld_126_1 rfl) rfl <| lq (q_load1 T1_9 rfl (fun w1 hw => hw.rgO (i := 1) rfl 1 1 [.string p0.S] rfl)) rfl ?_
  obtain ⟨x1, hx1, h⟩ := bind_some h
  refine lp (p_call Fun_129 rfl (fun w1 hw => m_s_BindOf_ok hw.fro N p1 p0.S ph1 hx1)) rfl <| lq (q_extract rfl rfl) rfl <| lq (q_extract rfl rfl) rfl <| ls (s_store (i := 0) (vs := [.int .i64 x1.1.K, .int .i64 x1.1.N, .string x1.1.S]) (C' := [.int .i64 x1.1.K, .int .i64 x1.1.N, .string x1.1.S]) (O' := [(b_2, .cells #[.int .i64 x1.1.K, .int .i64 x1.1.N, .string x1.1.S] 121 (0, 0)), (b_1, .cells #[.int .i64 p0.K, .string p0.S, .int .i64 p0.V.K, .int .i64 p0.V.N, .string p0.V.S] 126 (0, 0))]) Sz_121 rfl rfl rfl rfl rfl rfl ⟨rfl, rfl, rfl, trivial⟩ rfl rfl) rfl ?_
  refine lq (q_assign rfl) rfl <| WL.nil ?_
  refine WT.ret Tryz.func238 (resOk.two (rv_cell Tn_121 rfl (fun w1 hw => hw.rgO (i := 0) rfl 0 3 [.int .i64 x1.1.K, .int .i64 x1.1.N, .string x1.1.S] rfl) rfl) rfl) (fun w1 hw => ?_)
  cases h
  exact post_of_St hw
 replace h := ite_f h c2
 refine WT.skip <| WT.inBlock <| WT.seq <| WT.region <| lq (q_build (vs := []) (C := #[.int .i64 0, .int .i64 0, .string (⟨#[]⟩ : ByteArray)]) Pl_121 Zr_121 rfl (fill_nil)) rfl <| ls (s_store (i := 0) (vs := [.int .i64 0, .int .i64 0, .string (⟨#[]⟩ : ByteArray)]) (C' := [.int .i64 0, .int .i64 0, .string (⟨#[]⟩ : ByteArray)]) (O' := [(b_2, .cells #[.int .i64 0, .int .i64 0, .string (⟨#[]⟩ : ByteArray)] 121 (0, 0)), (b_1, .cells #[.int .i64 p0.K, .string p0.S, .int .i64 p0.V.K, .int .i64 p0.V.N, .string p0.V.S] 126 (0, 0))]) Sz_121 rfl rfl rfl rfl rfl rfl ⟨rfl, rfl, rfl, trivial⟩ rfl rfl) rfl ?_
 refine lq (q_assign rfl) rfl <| WL.nil ?_
 refine WT.ret Tryz.func238 (resOk.two (rv_cell Tn_121 rfl (fun w1 hw => hw.rgO (i := 0) rfl 0 3 [.int .i64 0, .int .i64 0, .string (⟨#[]⟩ : ByteArray)] rfl) rfl) rfl) (fun w1 hw => ?_)
 cases h
 exact post_of_St hw
theorem m_s_LessVal_ok {Φ : Hp} {w : World} (hΦ : In Φ w) (N : Nat) (p0 : TVal) (p1 : TVal)   {r : Bool} (h : m_s_LessVal N p0 p1 = some r) :
  Calls Tryz.prog 239 [.agg [.int .i64 p0.K, .int .i64 p0.N, .string p0.S].toArray, .agg [.int .i64 p1.K, .int .i64 p1.N, .string p1.S].toArray].toArray w (Post (.bool r) w) := by
 refine enter Tryz.func239 rfl Tryz.ntmps239 rfl (St.start0 hΦ) ?_
 unfold m_s_LessVal at h
 refine WT.seq <| WT.region ?_
 refine ln (n_box (C := #[.int .i64 p0.K, .int .i64 p0.N, .string p0.S]) rfl rfl) rfl (fun b_1 => ?_)
 refine ln (n_box (C := #[.int .i64 p1.K, .int .i64 p1.N, .string p1.S]) rfl rfl) rfl (fun b_2 => ?_)
 refine lq (q_assign rfl) rfl <| WL.nil <| WT.seq <| WT.block <| WT.seq <| WT.region <| lq (q_fieldAddr Fld_121_0 rfl) rfl <| lq (q_load1 T1_3 rfl (fun w1 hw => hw.rgO (i := 1) rfl 0 1 [.int .i64 p0.K] rfl)) rfl <| lq (q_fieldAddr Fld_121_0 rfl) rfl <| lq (q_load1 T1_3 rfl (fun w1 hw => hw.rgO (i := 0) rfl 0 1 [.int .i64 p1.K] rfl)) rfl <| lq (q_neq rfl rfl) rfl <| lq (q_assign rfl) rfl <| WL.nil ?_
 refine WT.cond rfl (fun c1 => ?_) (fun c1 => ?_)
 ·replace h := ite_t h c1
  refine WT.seq <| WT.region <| lq (q_fieldAddr Fld_121_0 rfl) rfl <| lq (q_load1 T1_3 rfl (fun w1 hw => hw.rgO (i := 1) rfl 0 1 [.int .i64 p0.K] rfl)) rfl <| lq (q_fieldAddr Fld_121_0 rfl) rfl <| lq (q_load1 T1_3 rfl (fun w1 hw => hw.rgO (i := 0) rfl 0 1 [.int .i64 p1.K] rfl)) rfl <| lq (q_lss rfl rfl) rfl <| lq (q_assign rfl) rfl <| WL.nil ?_
  refine WT.ret Tryz.func239 (resOk.one rfl) (fun w1 hw => ?_)
  cases h
  exact post_of_St hw
 replace h := ite_f h c1
 refine WT.seq <| WT.region <| lq (q_fieldAddr Fld_121_1 rfl) rfl <| lq (q_load1 T1_3 rfl (fun w1 hw => hw.rgO (i := 1) rfl 1 1 [.int .i64 p0.N] rfl)) rfl <| lq (q_fieldAddr Fld_121_1 rfl) rfl <| lq (q_load1 T1_3 rfl (fun w1 hw => hw.rgO (i := 0) rfl 1 1 [.int .i64 p1.N] rfl)) rfl <| lq (q_neq rfl rfl) rfl <| lq (q_assign rfl) rfl <| WL.nil ?_
 refine WT.cond rfl (fun c2 => ?_) (fun c2 => ?_)
 ·replace h := ite_t h c2
  refine WT.seq <| WT.region <| lq (q_fieldAddr Fld_121_1 rfl) rfl <| lq (q_load1 T1_3 rfl (fun w1 hw => hw.rgO (i := 1) rfl 1 1 [.int .i64 p0.N] rfl)) rfl <| lq (q_fieldAddr Fld_121_1 rfl) rfl <| lq (q_load1 T1_3 rfl (fun w1 hw => hw.rgO (i := 0) rfl 1 1 [.int .i64 p1.N] rfl)) rfl <| lq (q_lss rfl rfl) rfl <| lq (q_assign rfl) rfl <| WL.nil ?_
  refine WT.ret Tryz.func239 (resOk.one rfl) (fun w1 hw => ?_)
  cases h
  exact post_of_St hw
 replace h := ite_f h c2
 refine WT.skip <| WT.inBlock <| WT.seq <| WT.region <| lq (q_fieldAddr Fld_121_2 rfl) rfl <| lq (q_load1 T1_9 rfl (fun w1 hw => hw.rgO (i := 1) rfl 2 1 [.string p0.S] rfl)) rfl <| lq (q_fieldAddr Fld_121_2 rfl) rfl <| lq (q_load1 T1_9 rfl (fun w1 hw => hw.rgO (i := 0) rfl 2 1 [.string p1.S] rfl)) rfl <| lq (q_slt rfl rfl) rfl <| lq (q_assign rfl) rfl <| WL.nil ?_
 refine WT.ret Tryz.func239 (resOk.one rfl) (fun w1 hw => ?_)
 cases h
 exact post_of_St hw
theorem m_s_Holds_ok {Φ : Hp} {w : World} (hΦ : In Φ w) (N : Nat) (p0 : TCond) (p1 : (List TBind)) {pv1 : Value} {pG1 : List Nat} (ph1 : RSl RTBind 4 Φ pG1 pv1 p1) {r : Bool} (h : m_s_Holds N p0 p1 = some r) :
  Calls Tryz.prog 218 [.agg [.int .i64 p0.Op, .int .i64 p0.L.K, .string p0.L.S, .int .i64 p0.L.V.K, .int .i64 p0.L.V.N, .string p0.L.V.S, .int .i64 p0.R.K, .string p0.R.S, .int .i64 p0.R.V.K, .int .i64 p0.R.V.N, .string p0.R.V.S].toArray, pv1].toArray w (Post (.bool r) w) := by
 refine enter Tryz.func218 rfl Tryz.ntmps218 rfl (St.start0 hΦ) ?_
 unfold m_s_Holds at h
 refine WT.seq <| WT.region ?_
 refine ln (n_box (C := #[.int .i64 p0.Op, .int .i64 p0.L.K, .string p0.L.S, .int .i64 p0.L.V.K, .int .i64 p0.L.V.N, .string p0.L.V.S, .int .i64 p0.R.K, .string p0.R.S, .int .i64 p0.R.V.K, .int .i64 p0.R.V.N, .string p0.R.V.S]) rfl rfl) rfl (fun b_1 => ?_)
 refine lq (q_assign rfl) rfl <| WL.nil <| WT.seq <| WT.region <| lq (q_fieldAddr Fld_128_1 rfl) rfl <| lq (q_loadN Tn_126 rfl (fun w1 hw => hw.rgO (i := 0) rfl 1 5 [.int .i64 p0.L.K, .string p0.L.S, .int .i64 p0.L.V.K, .int .i64 p0.L.V.N, .string p0.L.V.S] rfl) rfl) rfl <| lq (q_move rfl) rfl ?_
 obtain ⟨x1, hx1, h⟩ := bind_some h
 refine lp (p_call Fun_238 rfl (fun w1 hw => m_s_ArgVal_ok hw.fro N p0.L p1 ph1 hx1)) rfl <| lq (q_move rfl) rfl <| lq (q_extract rfl rfl) rfl <| lq (q_extract rfl rfl) rfl ?_
 refine ln (n_alloc (C := #[.int .i64 0, .int .i64 0, .string (⟨#[]⟩ : ByteArray)]) Zr_121 rfl) rfl (fun b_2 => ?_)
 refine ls (s_store (i := 0) (vs := [.int .i64 x1.1.K, .int .i64 x1.1.N, .string x1.1.S]) (C' := [.int .i64 x1.1.K, .int .i64 x1.1.N, .string x1.1.S]) (O' := [(b_2, .cells #[.int .i64 x1.1.K, .int .i64 x1.1.N, .string x1.1.S] 121 (0, 0)), (b_1, .cells #[.int .i64 p0.Op, .int .i64 p0.L.K, .string p0.L.S, .int .i64 p0.L.V.K, .int .i64 p0.L.V.N, .string p0.L.V.S, .int .i64 p0.R.K, .string p0.R.S, .int .i64 p0.R.V.K, .int .i64 p0.R.V.N, .string p0.R.V.S] 128 (0, 0))]) Sz_121 rfl rfl rfl rfl rfl rfl ⟨rfl, rfl, rfl, trivial⟩ rfl rfl) rfl ?_
 refine lq (q_assign rfl) rfl <| WL.nil <| WT.seq <| WT.region <| lq (q_fieldAddr Fld_128_2 rfl) rfl <| lq (q_loadN Tn_126 rfl (fun w1 hw => hw.rgO (i := 1) rfl 6 5 [.int .i64 p0.R.K, .string p0.R.S, .int .i64 p0.R.V.K, .int .i64 p0.R.V.N, .string p0.R.V.S] rfl) rfl) rfl <| lq (q_move rfl) rfl ?_
 obtain ⟨x2, hx2, h⟩ := bind_some h
 refine lp (p_call Fun_238 rfl (fun w1 hw => m_s_ArgVal_ok hw.fro N p0.R p1 ph1 hx2)) rfl <| lq (q_move rfl) rfl <| lq (q_extract rfl rfl) rfl <| lq (q_extract rfl rfl) rfl ?_
 refine ln (n_alloc (C := #[.int .i64 0, .int .i64 0, .string (⟨#[]⟩ : ByteArray)]) Zr_121 rfl) rfl (fun b_3 => ?_)
 refine ls (s_store (i := 0) (vs := [.int .i64 x2.1.K, .int .i64 x2.1.N, .string x2.1.S]) (C' := [.int .i64 x2.1.K, .int .i64 x2.1.N, .string x2.1.S]) (O' := [(b_3, .cells #[.int .i64 x2.1.K, .int .i64 x2.1.N, .string x2.1.S] 121 (0, 0)), (b_2, .cells #[.int .i64 x1.1.K, .int .i64 x1.1.N, .string x1.1.S] 121 (0, 0)), (b_1, .cells #[.int .i64 p0.Op, .int .i64 p0.L.K, .string p0.L.S, .int .i64 p0.L.V.K, .int .i64 p0.L.V.N, .string p0.L.V.S, .int .i64 p0.R.K, .string p0.R.S, .int .i64 p0.R.V.K, .int .i64 p0.R.V.N, .string p0.R.V.S] 128 (0, 0))]) Sz_121 rfl rfl rfl rfl rfl rfl ⟨rfl, rfl, rfl, trivial⟩ rfl rfl) rfl ?_
 refine lq (q_assign rfl) rfl <| WL.nil <| WT.seq <| WT.seq <| WT.region <| lq (q_move rfl) rfl <| lq (q_not rfl) rfl <| lq (q_move rfl) rfl ?_
 obtain ⟨b1, hb_1, h⟩ := bind_some h
 refine WL.cutN 3 [(28, .bool b1), (2, .pointer (some ⟨b_1, 0, none⟩)), (5, .pointer (some ⟨b_2, 0, none⟩)), (7, .pointer (some ⟨b_3, 0, none⟩))] ?_ (fun K => ?_)
 rotate_left
 ·refine WL.split (d := 25) rfl (fun c1 => ?_) (fun c1 => ?_)
  ·replace hb_1 := ite_t hb_1 c1
   refine WL.no rfl rfl rfl rfl <| WL.no rfl rfl rfl rfl <| WL.q (q_pick1 rfl rfl) rfl rfl rfl ?_
   cases hb_1
   exact WL.keep (by exact ⟨rfl, rfl, rfl, rfl, trivial⟩) K
  ·replace hb_1 := ite_f hb_1 c1
   refine WL.yes rfl rfl <| lq (q_move rfl) rfl <| WL.yes rfl rfl <| lq (q_not rfl) rfl <| WL.q (q_pick0 rfl rfl) rfl rfl rfl ?_
   cases hb_1
   exact WL.keep (by exact ⟨rfl, rfl, rfl, rfl, trivial⟩) K
 refine WL.nil ?_
 refine WT.cond rfl (fun c2 => ?_) (fun c2 => ?_)
 ·replace h := ite_t h c2
  refine WT.seq <| WT.region <| lq (q_assign rfl) rfl <| WL.nil ?_
  refine WT.ret Tryz.func218 (resOk.one rfl) (fun w1 hw => ?_)
  cases h
  exact post_of_St hw
 replace h := ite_f h c2
 refine WT.skip <| WT.seq <| WT.seq <| WT.region <| lq (q_fieldAddr Fld_128_0 rfl) rfl <| lq (q_load1 T1_3 rfl (fun w1 hw => hw.rgO (i := 2) rfl 0 1 [.int .i64 p0.Op] rfl)) rfl <| WL.nil <| WT.block <| WT.seq <| WT.region <| lq (q_eql rfl rfl) rfl <| lq (q_assign rfl) rfl <| WL.nil ?_
 refine WT.cond rfl (fun c3 => ?_) (fun c3 => ?_)
 ·replace h := ite_t h c3
  refine WT.seq <| WT.region <| lq (q_loadN Tn_121 rfl (fun w1 hw => hw.rgO (i := 1) rfl 0 3 [.int .i64 x1.1.K, .int .i64 x1.1.N, .string x1.1.S] rfl) rfl) rfl <| lq (q_loadN Tn_121 rfl (fun w1 hw => hw.rgO (i := 0) rfl 0 3 [.int .i64 x2.1.K, .int .i64 x2.1.N, .string x2.1.S] rfl) rfl) rfl <| lq (q_eqA EqT_121 rfl rfl rfl (r := eqT_TVal x1.1 x2.1) rfl) rfl <| lq (q_assign rfl) rfl <| WL.nil ?_
  refine WT.ret Tryz.func218 (resOk.one rfl) (fun w1 hw => ?_)
  cases h
  exact post_of_St hw
 replace h := ite_f h c3
 refine WT.seq <| WT.region <| lq (q_eql rfl rfl) rfl <| lq (q_assign rfl) rfl <| WL.nil ?_
 refine WT.cond rfl (fun c4 => ?_) (fun c4 => ?_)
 ·replace h := ite_t h c4
  refine WT.seq <| WT.region <| lq (q_loadN Tn_121 rfl (fun w1 hw => hw.rgO (i := 1) rfl 0 3 [.int .i64 x1.1.K, .int .i64 x1.1.N, .string x1.1.S] rfl) rfl) rfl <| lq (q_loadN Tn_121 rfl (fun w1 hw => hw.rgO (i := 0) rfl 0 3 [.int .i64 x2.1.K, .int .i64 x2.1.N, .string x2.1.S] rfl) rfl) rfl <| lq (q_neA EqT_121 rfl rfl rfl (r := eqT_TVal x1.1 x2.1) rfl) rfl <| lq (q_assign rfl) rfl <| WL.nil ?_
  refine WT.ret Tryz.func218 (resOk.one rfl) (fun w1 hw => ?_)
  cases h
  exact post_of_St hw
 replace h := ite_f h c4
 refine WT.seq <| WT.region <| lq (q_eql rfl rfl) rfl <| lq (q_assign rfl) rfl <| WL.nil ?_
 refine WT.cond rfl (fun c5 => ?_) (fun c5 => ?_)
 ·replace h := ite_t h c5
  refine WT.seq <| WT.region <| lq (q_loadN Tn_121 rfl (fun w1 hw => hw.rgO (i := 1) rfl 0 3 [.int .i64 x1.1.K, .int .i64 x1.1.N, .string x1.1.S] rfl) rfl) rfl <| lq (q_loadN Tn_121 rfl (fun w1 hw => hw.rgO (i := 0) rfl 0 3 [.int .i64 x2.1.K, .int .i64 x2.1.N, .string x2.1.S] rfl) rfl) rfl ?_
  obtain ⟨x3, hx3, h⟩ := bind_some h
  refine lp (p_call Fun_239 rfl (fun w1 hw => m_s_LessVal_ok hw.fro N x1.1 x2.1 hx3)) rfl <| lq (q_assign rfl) rfl <| WL.nil ?_
  refine WT.ret Tryz.func218 (resOk.one rfl) (fun w1 hw => ?_)
  cases h
  exact post_of_St hw
 replace h := ite_f h c5
 refine WT.skip <| WT.inBlock <| WT.seq <| WT.region <| lq (q_assign rfl) rfl <| WL.nil ?_
 refine WT.ret Tryz.func218 (resOk.one rfl) (fun w1 hw => ?_)
 cases h
 exact post_of_St hw
theorem m_s_HoldAll_ok {Φ : Hp} {w : World} (hΦ : In Φ w) (N : Nat) (p0 : (List TCond)) (p1 : (List TBind)) {pv0 : Value} {pG0 : List Nat} {pv1 : Value} {pG1 : List Nat} (ph0 : RSl RTCond 11 Φ pG0 pv0 p0) (ph1 : RSl RTBind 4 Φ pG1 pv1 p1) {r : Bool} (h : m_s_HoldAll N p0 p1 = some r) :
  Calls Tryz.prog 185 [pv0, pv1].toArray w (Post (.bool r) w) := by
 refine enter Tryz.func185 rfl Tryz.ntmps185 rfl (St.start0 hΦ) ?_
 generalize hb0 : (⟨w, [], Φ⟩ : Base) = w0
 unfold m_s_HoldAll at h
 refine WT.seq <| WT.region <| lq (q_assign rfl) rfl <| WL.nil <| WT.seq <| WT.seq <| WT.region <| lq (q_assign rfl) rfl <| WL.nil <| WT.block <| WT.loop <| WT.mono (l' := [(0, pv0), (1, pv1), (5, .int .i64 0)]) (S' := St w0 Φ [] []) ⟨rfl, rfl, rfl, trivial⟩ (fun w1 hw => (hw.sel (js := []) rfl).selO (js := []) rfl) ?_
 refine loop_ind (σ := Int) (fun s => [(0, pv0), (1, pv1), (5, .int .i64 s)]) (fun s => St w0 Φ [] []) (fun m s => m_s_HoldAll_l1 N p0 p1 m s = some r) (fun s hm => none_ne (show (none : Option (Bool)) = some r from hm)) (fun n1 ih1 s hm => ?_) N (0) h
 revert hm; revert s; intro s1 hm
 have h : m_s_HoldAll_l1 N p0 p1 (n1 + 1) s1 = some r := hm
 show WT _ _ [(0, pv0), (1, pv1), (5, .int .i64 s1)] (St w0 Φ [] [])
 unfold m_s_HoldAll_l1 at h
 refine WT.seq <| WT.seq <| WT.region <| lq (q_move rfl) rfl <| lq (q_move rfl) rfl <| lq (q_lenR Sl_46 rfl rfl ph0) rfl <| lq (q_lss rfl rfl) rfl <| WL.nil ?_
 refine WT.cond rfl (fun c1 => ?_) (fun c1 => ?_)
 ·replace h := ite_t h c1
  refine WT.skip <| WT.seq <| WT.block <| WT.seq <| WT.region <| lq (q_move rfl) rfl <| lq (q_move rfl) rfl ?_
  obtain ⟨x1, hx1, h⟩ := bind_some h
  obtain ⟨cs1, F1, -, g1, hb1, hs1, r1⟩ := ph0.el (idx_some hx1).2.2
  obtain ⟨rfl, -⟩ := r1
  refine lq (q_indexAddr Sl_46 rfl rfl ph0 hx1) rfl <| lq (q_loadN Tn_128 rfl (fun w1 hw => (g1.of_eq 0 11 rfl rfl : rg _ _ _ [.int .i64 x1.Op, .int .i64 x1.L.K, .string x1.L.S, .int .i64 x1.L.V.K, .int .i64 x1.L.V.N, .string x1.L.V.S, .int .i64 x1.R.K, .string x1.R.S, .int .i64 x1.R.V.K, .int .i64 x1.R.V.N, .string x1.R.V.S]).rangeAt hw.fro) rfl) rfl <| lq (q_move rfl) rfl ?_
  obtain ⟨x2, hx2, h⟩ := bind_some h
  refine lp (p_call Fun_218 rfl (fun w1 hw => m_s_Holds_ok hw.fro N x1 p1 ph1 hx2)) rfl <| lq (q_not rfl) rfl <| WL.nil ?_
  refine WT.cond rfl (fun c2 => ?_) (fun c2 => ?_)
  ·replace h := ite_t h c2
   refine WT.seq <| WT.region <| lq (q_assign rfl) rfl <| WL.nil ?_
   refine WT.ret Tryz.func185 (resOk.one rfl) (fun w1 hw => ?_)
   subst hb0
   cases h
   exact post_of_St hw
  replace h := ite_f h c2
  refine WT.skip <| WT.inBlock <| WT.region <| lq (q_move rfl) rfl <| lq (q_add rfl rfl) rfl <| lq (q_assign rfl) rfl <| WL.nil ?_
  refine WT.inLoop (WT.mono (l' := [(0, pv0), (1, pv1), (5, .int .i64 (IntKind.i64.wrap (s1 + 1)))]) (S' := St w0 Φ [] []) ⟨rfl, rfl, rfl, trivial⟩ (fun w1 hw => (hw.sel (js := []) rfl).selO (js := []) rfl) ?_)
  exact ih1 (IntKind.i64.wrap (s1 + 1)) h
 replace h := ite_f h c1
 refine WT.exit rfl <| WT.seq <| WT.region <| lq (q_assign rfl) rfl <| WL.nil ?_
 refine WT.ret Tryz.func185 (resOk.one rfl) (fun w1 hw => ?_)
 subst hb0
 cases h
 exact post_of_St hw
theorem m_s_l11Rows_ok (N : Nat) : ∀ {Φ : Hp} {w : World} (hΦ : In Φ w) (p0 : (List TMatch)) (p1 : TRule) (p2 : TStore) (p3 : (List Int)) (p4 : (List TBind)) {pv0 : Value} {pD0 : List Nat} {pb0 : Nat} {pv1_0 : Value} {pG1_0 : List Nat} {pv1_1 : Value} {pG1_1 : List Nat} {pv1_2 : Value} {pG1_2 : List Nat} {pv2_0 : Value} {pG2_0 : List Nat} {pv3 : Value} {pG3 : List Nat} {pv4 : Value} {pG4 : List Nat} (ph0 : OSl OTMatch 63 3 Φ pD0 pv0 p0) (pp0 : Φ pb0 = some (.cells #[pv0] 59 (0, 0))) (ph1_0 : RSl RTPat 3 Φ pG1_0 pv1_0 p1.Pats) (ph1_1 : RSl RTCond 11 Φ pG1_1 pv1_1 p1.Conds) (ph1_2 : RSl RTAct 5 Φ pG1_2 pv1_2 p1.Acts) (ph2_0 : RSl RTItem 3 Φ pG2_0 pv2_0 p2.Items) (ph3 : RSl (RI .i64) 1 Φ pG3 pv3 p3) (ph4 : RSl RTBind 4 Φ pG4 pv4 p4) (pd1_0 : Dj pG1_0 [[pb0], ob pv0, pD0].flatten) (pd1_1 : Dj pG1_1 [[pb0], ob pv0, pD0].flatten) (pd1_2 : Dj pG1_2 [[pb0], ob pv0, pD0].flatten) (pd2_0 : Dj pG2_0 [[pb0], ob pv0, pD0].flatten) (pd3 : Dj pG3 [[pb0], ob pv0, pD0].flatten) (pd4 : Dj pG4 [[pb0], ob pv0, pD0].flatten) (hB : [[pb0], ob pv0, pD0].flatten.Nodup) (hlt : ∀ k ∈ [[pb0], ob pv0, pD0].flatten, k < w.heap.size) {r : (List TMatch)} (h : m_s_l11Rows N p0 p1 p2 p3 p4 = some r),
  Calls Tryz.prog 123 [.pointer (some ⟨pb0, 0, none⟩), .agg [.string p1.Name, .int .i64 p1.Sal, pv1_0, pv1_1, pv1_2].toArray, .agg [pv2_0, .int .i64 p2.Next].toArray, pv3, pv4].toArray w (PostG Φ w [[pb0], ob pv0, pD0].flatten (fun Φ' Fs v => ∃ (so_0_0 : Value) (Do_0_0 : List Nat), v = .tuple #[] ∧ Fs = [[pb0], ob so_0_0, Do_0_0] ∧ OSl OTMatch 63 3 Φ' Do_0_0 so_0_0 r ∧ Φ' pb0 = some (.cells #[so_0_0] 59 (0, 0)))) := by
 induction N with
 | zero => intros; rename_i h; simp [m_s_l11Rows] at h
 | succ N ih =>
 intro Φ w hΦ p0 p1 p2 p3 p4 pv0 pD0 pb0 pv1_0 pG1_0 pv1_1 pG1_1 pv1_2 pG1_2 pv2_0 pG2_0 pv3 pG3 pv4 pG4 ph0 pp0 ph1_0 ph1_1 ph1_2 ph2_0 ph3 ph4 pd1_0 pd1_1 pd1_2 pd2_0 pd3 pd4 hB hlt r h
 refine enter Tryz.func123 rfl Tryz.ntmps123 rfl (St.start hΦ [[pb0], ob pv0, pD0] hB hlt) ?_
 have pa1_0 : Old ⟨w, [[pb0], ob pv0, pD0].flatten, Φ⟩ pG1_0 := Old.mk hΦ ph1_0.kn pd1_0
 have pa1_1 : Old ⟨w, [[pb0], ob pv0, pD0].flatten, Φ⟩ pG1_1 := Old.mk hΦ ph1_1.kn pd1_1
 have pa1_2 : Old ⟨w, [[pb0], ob pv0, pD0].flatten, Φ⟩ pG1_2 := Old.mk hΦ ph1_2.kn pd1_2
 have pa2_0 : Old ⟨w, [[pb0], ob pv0, pD0].flatten, Φ⟩ pG2_0 := Old.mk hΦ ph2_0.kn pd2_0
 have pa3 : Old ⟨w, [[pb0], ob pv0, pD0].flatten, Φ⟩ pG3 := Old.mk hΦ ph3.kn pd3
 have pa4 : Old ⟨w, [[pb0], ob pv0, pD0].flatten, Φ⟩ pG4 := Old.mk hΦ ph4.kn pd4
 revert pa1_0 pa1_1 pa1_2 pa2_0 pa3 pa4
 generalize hb0 : (⟨w, [[pb0], ob pv0, pD0].flatten, Φ⟩ : Base) = w0
 intro pa1_0 pa1_1 pa1_2 pa2_0 pa3 pa4
 unfold m_s_l11Rows at h
 refine WT.seq <| WT.region ?_
 refine ln (n_box (C := #[.string p1.Name, .int .i64 p1.Sal, pv1_0, pv1_1, pv1_2]) rfl rfl) rfl (fun b_1 => ?_)
 refine ln (n_box (C := #[pv2_0, .int .i64 p2.Next]) rfl rfl) rfl (fun b_2 => ?_)
 refine WL.nil <| WT.seq <| WT.seq <| WT.region <| lq (q_move rfl) rfl <| lq (q_lenR Sl_41 rfl rfl ph3) rfl <| lq (q_loadN Tn_49 rfl (fun w1 hw => hw.rgO (i := 1) rfl 0 5 [.string p1.Name, .int .i64 p1.Sal, pv1_0, pv1_1, pv1_2] rfl) rfl) rfl ?_
 obtain ⟨x1, hx1, h⟩ := bind_some h
 refine lp (p_call Fun_119 rfl (fun w1 hw => m_s_PosCount_ok hw.fro N p1 ph1_0 ph1_1 ph1_2 hx1)) rfl <| lq (q_eql rfl rfl) rfl <| WL.nil ?_
 refine WT.cond rfl (fun c1 => ?_) (fun c1 => ?_)
 ·replace h := ite_t h c1
  refine WT.seq <| WT.seq <| WT.region <| lq (q_loadN Tn_49 rfl (fun w1 hw => hw.rgO (i := 1) rfl 0 5 [.string p1.Name, .int .i64 p1.Sal, pv1_0, pv1_1, pv1_2] rfl) rfl) rfl <| lq (q_loadN Tn_52 rfl (fun w1 hw => hw.rgO (i := 0) rfl 0 2 [pv2_0, .int .i64 p2.Next] rfl) rfl) rfl <| lq (q_move rfl) rfl ?_
  obtain ⟨x2, hx2, h⟩ := bind_some h
  refine lp (p_call Fun_184 rfl (fun w1 hw => m_s_Blocked_ok hw.fro N p1 p2 p4 ph1_0 ph1_1 ph1_2 ph2_0 ph4 hx2)) rfl <| lq (q_not rfl) rfl <| lq (q_move rfl) rfl ?_
  obtain ⟨b1, hb_1, h⟩ := bind_some h
  refine WL.cutN 5 [(28, .bool b1), (0, .pointer (some ⟨pb0, 0, none⟩)), (3, pv3), (4, pv4)] ?_ (fun K => ?_)
  rotate_left
  ·refine WL.split (d := 23) rfl (fun c2 => ?_) (fun c2 => ?_)
   ·replace hb_1 := ite_t hb_1 c2
    refine WL.yes rfl rfl <| lq (q_fieldAddr Fld_49_3 rfl) rfl <| WL.yes rfl rfl <| lq (q_load1 T1_46 rfl (fun w1 hw => hw.rgO (i := 1) rfl 3 1 [pv1_1] rfl)) rfl <| WL.yes rfl rfl <| lq (q_move rfl) rfl <| WL.yes rfl rfl ?_
    obtain ⟨x3, hx3, hb_1⟩ := bind_some hb_1
    refine lp (p_call Fun_185 rfl (fun w1 hw => m_s_HoldAll_ok hw.fro N p1.Conds p4 ph1_1 ph4 hx3)) rfl <| WL.q (q_pick1 rfl rfl) rfl rfl rfl ?_
    cases hb_1
    exact WL.keep (by exact ⟨rfl, rfl, rfl, rfl, trivial⟩) K
   ·replace hb_1 := ite_f hb_1 c2
    refine WL.no rfl rfl rfl rfl <| WL.no rfl rfl rfl rfl <| WL.no rfl rfl rfl rfl <| WL.no rfl rfl rfl rfl <| WL.q (q_pick0 rfl rfl) rfl rfl rfl ?_
    cases hb_1
    exact WL.keep (by exact ⟨rfl, rfl, rfl, rfl, trivial⟩) K
  refine WL.nil ?_
  refine WT.cond rfl (fun c3 => ?_) (fun c3 => ?_)
  ·replace h := ite_t h c3
   refine cut (σ := Hp × (List TMatch) × Value × List Nat) (fun s => []) (fun s => St w0 s.1 [(pb0, .cells #[s.2.2.1] 59 (0, 0))] [s.2.2.2, ob s.2.2.1]) (fun s => m_s_l11Rows_j1 N s.2.1 = some r ∧ (OSl OTMatch 63 3 s.1 s.2.2.2 s.2.2.1 s.2.1)) (fun s hm => ?_) (fun K => ?_)
   ·clear h
    obtain ⟨Φ_8, s1, u1, D7⟩ := s
    obtain ⟨h, k1⟩ := hm
    replace h : m_s_l11Rows_j1 N s1 = some r := h
    replace k1 : OSl OTMatch 63 3 Φ_8 D7 u1 s1 := k1
    show WT _ _ [] (St w0 Φ_8 [(pb0, .cells #[u1] 59 (0, 0))] [D7, ob u1])
    unfold m_s_l11Rows_j1 at h
    refine WT.frz (js := [0]) (R := []) rfl (fun Φ_9 fr8 k2 => ?_)
    replace k1 := k1.frame OTMatch.lasts fr8 (Dj.empty _) (Dj.empty _)
    refine WT.ret Tryz.func123 resOk.none (fun w1 hw => ?_)
    subst hb0
    cases h
    refine postG_of_St (js := [0, 1, 0]) hw rfl ⟨u1, D7, rfl, rfl, k1, k2⟩
   refine WT.mix (Kn Φ [pb0] [(b_2, .cells #[pv2_0, .int .i64 p2.Next] 52 (0, 0)), (b_1, .cells #[.string p1.Name, .int .i64 p1.Sal, pv1_0, pv1_1, pv1_2] 49 (0, 0))]) (fun i => match i with | 14 => false | _ => true) mixed (fun _ h => h.drew) <| mq 0 rfl (by kernel_rfl) (fun w1 hw => Kn.of (fun _ _ _ h => h) (AllIn.mem ⟨gM 0 rfl, gM 1 rfl, trivial⟩) hw) (q_move rfl) rfl ?_
   refine mq 1 rfl (by kernel_rfl) (fun w1 hw => Kn.of (fun _ _ _ h => h) (AllIn.mem ⟨gM 0 rfl, gM 1 rfl, trivial⟩) hw) (q_move rfl) rfl <| mq 2 rfl (by kernel_rfl) (fun w1 hw => Kn.of (fun _ _ _ h => h) (AllIn.mem ⟨gM 0 rfl, gM 1 rfl, trivial⟩) hw) (q_nilCheck rfl) rfl <| mq 3 rfl (by kernel_rfl) (fun w1 hw => Kn.of (fun _ _ _ h => h) (AllIn.mem ⟨gM 0 rfl, gM 1 rfl, trivial⟩) hw) (q_load1 T1_59 rfl (fun w1 hw => hw.rg (by simp) ((rg_cells pp0).of_eq 0 1 rfl rfl : rg _ _ _ [pv0]))) rfl ?_
   refine mq 5 rfl (by kernel_rfl) (fun w1 hw => Kn.of (fun _ _ _ h => h) (AllIn.mem ⟨gM 0 rfl, gM 1 rfl, trivial⟩) hw) (q_move rfl) rfl <| mq 8 rfl (by kernel_rfl) (fun w1 hw => Kn.of (fun _ _ _ h => h) (AllIn.mem ⟨gM 0 rfl, gM 1 rfl, trivial⟩) hw) (q_move rfl) rfl ?_
   refine WM.two 4 7 (by kernel_rfl) ?_ ?_
   ·skip
    have rc4 : RC (RI .i64) 1 Φ ([] : List (List Nat)) [] ([] : List Int) := RC.nil _ _ _
    refine me rfl (fun _ v Φx D w1 hq hw => Kn.of (fun k hk o ho => hq.1 k o (by simp) ((fun _ _ _ h => h) k hk o ho)) (AllIn.mem ⟨gM 0 rfl, gM 1 rfl, trivial⟩) hw) (e_lit (vs := []) (C := #[]) RI.lasts Sl_41 Zr_3 rfl rfl rfl rfl (fill_made MC_3_0 (fill_nil)) rfl rc4 rfl (by simpa using Kw.nil)) rfl (fun v7 Φ_10 D8 q7 => ?_)
    obtain ⟨fr9, h7⟩ := q7
    replace h7 : OSl (RI .i64) 3 1 Φ_10 [] v7 ([] : List Int) := by simpa using h7
    replace ph3 := ph3.frame RI.lasts fr9 (Dj.empty _)
    replace ph4 := ph4.frame RTBind.lasts fr9 (Dj.empty _)
    replace ph0 := ph0.frame OTMatch.lasts fr9 (Dj.empty _) (Dj.empty _)
    replace pp0 := fr9 _ _ (by simp) pp0
    refine WM.two 6 7 (by kernel_rfl) ?_ ?_
    ·skip
     obtain ⟨x7, hx7, h⟩ := bind_some h
     refine me rfl (fun _ v Φx D w1 hq hw => Kn.of (fun k hk o ho => hq.1.2 k o ((hq.1.1.r (i := 0) rfl) k hk) ((fun k hk o ho => fr9 k o (by simp) ((fun _ _ _ h => h) k hk o ho)) k hk o ho)) (AllIn.mem ⟨gM 0 rfl, gM 1 rfl, trivial⟩) hw) (e_appF RI.lasts RI.one RI.flat Sl_41 Ei_3 rfl rfl rfl rfl rfl (js := [0]) (Rr := [[pb0], ob pv0, pD0]) rfl h7 ph3 hx7) rfl (fun v8 Φ_11 D9 q8 => ?_)
     obtain ⟨⟨ap5, fr10⟩, h8⟩ := q8
     replace ph4 := ph4.frame RTBind.lasts fr10 (ap5.o pa4)
     replace ph0 := ph0.frame OTMatch.lasts fr10 (ap5.r (i := 1) rfl) (ap5.r (i := 2) rfl)
     replace pp0 := fr10 _ _ ((ap5.r (i := 0) rfl) _ (by simp)) pp0
     have rc5 : RC RTBind 4 Φ_11 ([] : List (List Nat)) [] ([] : List TBind) := RC.nil _ _ _
     refine WM.one 7 (by kernel_rfl) (me rfl (fun _ v Φx D w1 hq hw => Kn.of (fun k hk o ho => hq.1 k o (by simp) ((fun k hk o ho => fr10 k o ((ap5.r (i := 0) rfl) k hk) ((fun k hk o ho => fr9 k o (by simp) ((fun _ _ _ h => h) k hk o ho)) k hk o ho)) k hk o ho)) (AllIn.mem ⟨gM 0 rfl, gM 1 rfl, trivial⟩) hw) (e_lit (vs := []) (C := #[]) RTBind.lasts Sl_55 Zr_123 rfl rfl rfl rfl (fill_made MC_123_0 (fill_nil)) rfl rc5 rfl (by simpa using Kw.nil)) rfl (fun v9 Φ_12 D10 q9 => ?_))
     obtain ⟨fr11, h9⟩ := q9
     replace h9 : OSl RTBind 123 4 Φ_12 [] v9 ([] : List TBind) := by simpa using h9
     replace ph4 := ph4.frame RTBind.lasts fr11 (Dj.empty _)
     replace ph0 := ph0.frame OTMatch.lasts fr11 (Dj.empty _) (Dj.empty _)
     replace h8 := h8.frame RI.lasts fr11 (Dj.empty _) (Dj.empty _)
     replace pp0 := fr11 _ _ (by simp) pp0
     obtain ⟨x8, hx8, h⟩ := bind_some h
     refine WM.one 9 (by kernel_rfl) (me rfl (fun _ v Φx D w1 hq hw => Kn.of (fun k hk o ho => hq.1.2 k o ((hq.1.1.r (i := 1) rfl) k hk) ((fun k hk o ho => fr11 k o (by simp) ((fun k hk o ho => fr10 k o ((ap5.r (i := 0) rfl) k hk) ((fun k hk o ho => fr9 k o (by simp) ((fun _ _ _ h => h) k hk o ho)) k hk o ho)) k hk o ho)) k hk o ho)) (AllIn.mem ⟨gM 0 rfl, gM 1 rfl, trivial⟩) hw) (e_appF RTBind.lasts RTBind.one RTBind.flat Sl_55 Ei_123 rfl rfl rfl rfl rfl (js := [0]) (Rr := [ob v8, [pb0], ob pv0, pD0]) rfl h9 ph4 hx8) rfl (fun v10 Φ_13 D11 q10 => ?_))
     obtain ⟨⟨ap6, fr12⟩, h10⟩ := q10
     replace ph0 := ph0.frame OTMatch.lasts fr12 (ap6.r (i := 2) rfl) (ap6.r (i := 3) rfl)
     replace h8 := h8.frame RI.lasts fr12 (ap6.r (i := 0) rfl) (Dj.nil _)
     replace pp0 := fr12 _ _ ((ap6.r (i := 1) rfl) _ (by simp)) pp0
     refine mq 10 rfl (by kernel_rfl) (fun w1 hw => Kn.of (fun k hk o ho => fr12 k o ((ap6.r (i := 1) rfl) k hk) ((fun k hk o ho => fr11 k o (by simp) ((fun k hk o ho => fr10 k o ((ap5.r (i := 0) rfl) k hk) ((fun k hk o ho => fr9 k o (by simp) ((fun _ _ _ h => h) k hk o ho)) k hk o ho)) k hk o ho)) k hk o ho)) (AllIn.mem ⟨gM 0 rfl, gM 1 rfl, trivial⟩) hw) (q_build (vs := [(1, v8), (2, v10)]) (C := #[.int .i64 0, v8, v10]) Pl_63 Zr_63 rfl (fill_cons (cells := [.int .i64 0, .slice none 0 0, .slice none 0 0]) (c := [v8]) (C' := [.int .i64 0, v8, .slice none 0 0]) rfl (one_cells h8.one) rfl rfl rfl (fill_cons (cells := [.int .i64 0, v8, .slice none 0 0]) (c := [v10]) (C' := [.int .i64 0, v8, v10]) rfl (one_cells h10.one) rfl rfl rfl (fill_nil)))) rfl ?_
     have rc6 : RC OTMatch 3 Φ_13 ([(ob v8 ++ []) ++ ((ob v10 ++ []))] : List (List Nat)) [.int .i64 0, v8, v10] ([(⟨0, x7, x8⟩ : TMatch)] : List TMatch) := RC.cons (c := [.int .i64 0, v8, v10]) (cells := []) ⟨v8, v10, rfl, rfl, h8, h10⟩ rfl (RC.nil _ _ _)
     refine WM.one 11 (by kernel_rfl) (me rfl (fun _ v Φx D w1 hq hw => Kn.of (fun k hk o ho => hq.1 k o (by simp) ((fun k hk o ho => fr12 k o ((ap6.r (i := 1) rfl) k hk) ((fun k hk o ho => fr11 k o (by simp) ((fun k hk o ho => fr10 k o ((ap5.r (i := 0) rfl) k hk) ((fun k hk o ho => fr9 k o (by simp) ((fun _ _ _ h => h) k hk o ho)) k hk o ho)) k hk o ho)) k hk o ho)) k hk o ho)) (AllIn.mem ⟨gM 0 rfl, gM 1 rfl, trivial⟩) hw) (e_lit (vs := [(0, .agg [.int .i64 0, v8, v10].toArray)]) (C := #[.int .i64 0, v8, v10]) OTMatch.lasts Sl_59 Zr_63 rfl rfl rfl rfl (fill_made MC_63_1 (fill_cons (cells := [.int .i64 0, .slice none 0 0, .slice none 0 0]) (c := [.int .i64 0, v8, v10]) (C' := [.int .i64 0, v8, v10]) rfl rfl rfl rfl rfl (fill_nil))) rfl rc6 rfl (RC.kn OTMatch.knows rc6)) rfl (fun v11 Φ_14 D12 q11 => ?_))
     obtain ⟨fr13, h11⟩ := q11
     replace h11 : OSl OTMatch 63 3 Φ_14 ((ob v8 ++ []) ++ ((ob v10 ++ []))) v11 ([(⟨0, x7, x8⟩ : TMatch)] : List TMatch) := by simpa [List.append_assoc] using h11
     replace ph0 := ph0.frame OTMatch.lasts fr13 (Dj.empty _) (Dj.empty _)
     replace pp0 := fr13 _ _ (by simp) pp0
     refine WM.conv (S' := St w0 Φ_14 [(b_2, .cells #[pv2_0, .int .i64 p2.Next] 52 (0, 0)), (b_1, .cells #[.string p1.Name, .int .i64 p1.Sal, pv1_0, pv1_1, pv1_2] 49 (0, 0))] [((ob v8 ++ []) ++ ((ob v10 ++ []))), ob v11, [pb0], ob pv0, pD0]) (fun w1 hw => hw.merge (js := [2, 1]) rfl (SP.eq (by simp [List.append_assoc, ob_nil]))) ?_
     obtain ⟨x9, hx9, h⟩ := bind_some h
     refine WM.one 12 (by kernel_rfl) (me rfl (fun _ v Φx D w1 hq hw => Kn.of (fun k hk o ho => hq.1.2 k o ((hq.1.1.r (i := 2) rfl) k hk) ((fun k hk o ho => fr13 k o (by simp) ((fun k hk o ho => fr12 k o ((ap6.r (i := 1) rfl) k hk) ((fun k hk o ho => fr11 k o (by simp) ((fun k hk o ho => fr10 k o ((ap5.r (i := 0) rfl) k hk) ((fun k hk o ho => fr9 k o (by simp) ((fun _ _ _ h => h) k hk o ho)) k hk o ho)) k hk o ho)) k hk o ho)) k hk o ho)) k hk o ho)) (AllIn.mem ⟨gM 0 rfl, gM 1 rfl, trivial⟩) hw) (e_appO OTMatch.lasts OTMatch.one Sl_59 Ei_63 rfl rfl rfl rfl rfl (js := [3]) (Rr := [((ob v8 ++ []) ++ ((ob v10 ++ []))), ob v11, [pb0], pD0]) rfl ph0 h11 (fun ap => (ap.r (i := 3) rfl)) (fun ap => (ap.r (i := 0) rfl)) hx9) rfl (fun v12 Φ_15 D13 q12 => ?_))
     obtain ⟨⟨ap7, fr14⟩, h12⟩ := q12
     replace pp0 := fr14 _ _ ((ap7.r (i := 2) rfl) _ (by simp)) pp0
     refine WM.conv (S' := St w0 Φ_15 [(b_2, .cells #[pv2_0, .int .i64 p2.Next] 52 (0, 0)), (b_1, .cells #[.string p1.Name, .int .i64 p1.Sal, pv1_0, pv1_1, pv1_2] 49 (0, 0))] [(pD0 ++ ((ob v8 ++ []) ++ ((ob v10 ++ [])))), ob v12, ob v11, [pb0]]) (fun w1 hw => hw.merge (js := [4, 1]) rfl (SP.eq (by simp))) <| mq 13 rfl (by kernel_rfl) (fun w1 hw => Kn.of (fun k hk o ho => fr14 k o ((ap7.r (i := 2) rfl) k hk) ((fun k hk o ho => fr13 k o (by simp) ((fun k hk o ho => fr12 k o ((ap6.r (i := 1) rfl) k hk) ((fun k hk o ho => fr11 k o (by simp) ((fun k hk o ho => fr10 k o ((ap5.r (i := 0) rfl) k hk) ((fun k hk o ho => fr9 k o (by simp) ((fun _ _ _ h => h) k hk o ho)) k hk o ho)) k hk o ho)) k hk o ho)) k hk o ho)) k hk o ho)) (AllIn.mem ⟨gM 0 rfl, gM 1 rfl, trivial⟩) hw) (q_nilCheck rfl) rfl ?_
     refine WM.thw (js := [3]) (R := [(pD0 ++ ((ob v8 ++ []) ++ ((ob v10 ++ [])))), ob v12, ob v11]) rfl pp0 (fun Φ_16 ap8 fr15 => ?_)
     replace h12 := h12.frame OTMatch.lasts fr15 (ap8.r (i := 1) rfl) (ap8.r (i := 0) rfl)
     refine WM.one 14 (by kernel_rfl) (ms rfl (fun hc => by cases hc) (s_store (i := 0) (vs := [v12]) (C' := [v12]) (O' := [(pb0, .cells #[v12] 59 (0, 0)), (b_2, .cells #[pv2_0, .int .i64 p2.Next] 52 (0, 0)), (b_1, .cells #[.string p1.Name, .int .i64 p1.Sal, pv1_0, pv1_1, pv1_2] 49 (0, 0))]) Sz_59 rfl rfl rfl (one_cells h12.one) rfl rfl ⟨h12.one, trivial⟩ rfl rfl) rfl ?_)
     refine WM.nil (by kernel_rfl) <| WT.mono (l' := []) (S' := St w0 Φ_16 [(pb0, .cells #[v12] 59 (0, 0))] [(pD0 ++ ((ob v8 ++ []) ++ ((ob v10 ++ [])))), ob v12]) trivial (fun w1 hw => (hw.sel (js := [0, 0]) rfl).selO (js := [0]) rfl) ?_
     exact K (Φ_16, x9, v12, (pD0 ++ ((ob v8 ++ []) ++ ((ob v10 ++ []))))) ⟨h, h12⟩
    have rc7 : RC RTBind 4 Φ_10 ([] : List (List Nat)) [] ([] : List TBind) := RC.nil _ _ _
    refine me rfl (fun _ v Φx D w1 hq hw => Kn.of (fun k hk o ho => hq.1 k o (by simp) ((fun k hk o ho => fr9 k o (by simp) ((fun _ _ _ h => h) k hk o ho)) k hk o ho)) (AllIn.mem ⟨gM 0 rfl, gM 1 rfl, trivial⟩) hw) (e_lit (vs := []) (C := #[]) RTBind.lasts Sl_55 Zr_123 rfl rfl rfl rfl (fill_made MC_123_0 (fill_nil)) rfl rc7 rfl (by simpa using Kw.nil)) rfl (fun v13 Φ_17 D14 q13 => ?_)
    obtain ⟨fr16, h13⟩ := q13
    replace h13 : OSl RTBind 123 4 Φ_17 [] v13 ([] : List TBind) := by simpa using h13
    replace ph3 := ph3.frame RI.lasts fr16 (Dj.empty _)
    replace ph4 := ph4.frame RTBind.lasts fr16 (Dj.empty _)
    replace ph0 := ph0.frame OTMatch.lasts fr16 (Dj.empty _) (Dj.empty _)
    replace h7 := h7.frame RI.lasts fr16 (Dj.empty _) (Dj.empty _)
    replace pp0 := fr16 _ _ (by simp) pp0
    obtain ⟨x10, hx10, h⟩ := bind_some h
    refine WM.one 6 (by kernel_rfl) (me rfl (fun _ v Φx D w1 hq hw => Kn.of (fun k hk o ho => hq.1.2 k o ((hq.1.1.r (i := 1) rfl) k hk) ((fun k hk o ho => fr16 k o (by simp) ((fun k hk o ho => fr9 k o (by simp) ((fun _ _ _ h => h) k hk o ho)) k hk o ho)) k hk o ho)) (AllIn.mem ⟨gM 0 rfl, gM 1 rfl, trivial⟩) hw) (e_appF RI.lasts RI.one RI.flat Sl_41 Ei_3 rfl rfl rfl rfl rfl (js := [1]) (Rr := [ob v13, [pb0], ob pv0, pD0]) rfl h7 ph3 hx10) rfl (fun v14 Φ_18 D15 q14 => ?_))
    obtain ⟨⟨ap9, fr17⟩, h14⟩ := q14
    replace ph4 := ph4.frame RTBind.lasts fr17 (ap9.o pa4)
    replace ph0 := ph0.frame OTMatch.lasts fr17 (ap9.r (i := 2) rfl) (ap9.r (i := 3) rfl)
    replace h13 := h13.frame RTBind.lasts fr17 (ap9.r (i := 0) rfl) (Dj.nil _)
    replace pp0 := fr17 _ _ ((ap9.r (i := 1) rfl) _ (by simp)) pp0
    obtain ⟨x11, hx11, h⟩ := bind_some h
    refine WM.one 9 (by kernel_rfl) (me rfl (fun _ v Φx D w1 hq hw => Kn.of (fun k hk o ho => hq.1.2 k o ((hq.1.1.r (i := 1) rfl) k hk) ((fun k hk o ho => fr17 k o ((ap9.r (i := 1) rfl) k hk) ((fun k hk o ho => fr16 k o (by simp) ((fun k hk o ho => fr9 k o (by simp) ((fun _ _ _ h => h) k hk o ho)) k hk o ho)) k hk o ho)) k hk o ho)) (AllIn.mem ⟨gM 0 rfl, gM 1 rfl, trivial⟩) hw) (e_appF RTBind.lasts RTBind.one RTBind.flat Sl_55 Ei_123 rfl rfl rfl rfl rfl (js := [1]) (Rr := [ob v14, [pb0], ob pv0, pD0]) rfl h13 ph4 hx11) rfl (fun v15 Φ_19 D16 q15 => ?_))
    obtain ⟨⟨ap10, fr18⟩, h15⟩ := q15
    replace ph0 := ph0.frame OTMatch.lasts fr18 (ap10.r (i := 2) rfl) (ap10.r (i := 3) rfl)
    replace h14 := h14.frame RI.lasts fr18 (ap10.r (i := 0) rfl) (Dj.nil _)
    replace pp0 := fr18 _ _ ((ap10.r (i := 1) rfl) _ (by simp)) pp0
    refine mq 10 rfl (by kernel_rfl) (fun w1 hw => Kn.of (fun k hk o ho => fr18 k o ((ap10.r (i := 1) rfl) k hk) ((fun k hk o ho => fr17 k o ((ap9.r (i := 1) rfl) k hk) ((fun k hk o ho => fr16 k o (by simp) ((fun k hk o ho => fr9 k o (by simp) ((fun _ _ _ h => h) k hk o ho)) k hk o ho)) k hk o ho)) k hk o ho)) (AllIn.mem ⟨gM 0 rfl, gM 1 rfl, trivial⟩) hw) (q_build (vs := [(1, v14), (2, v15)]) (C := #[.int .i64 0, v14, v15]) Pl_63 Zr_63 rfl (fill_cons (cells := [.int .i64 0, .slice none 0 0, .slice none 0 0]) (c := [v14]) (C' := [.int .i64 0, v14, .slice none 0 0]) rfl (one_cells h14.one) rfl rfl rfl (fill_cons (cells := [.int .i64 0, v14, .slice none 0 0]) (c := [v15]) (C' := [.int .i64 0, v14, v15]) rfl (one_cells h15.one) rfl rfl rfl (fill_nil)))) rfl ?_
    have rc8 : RC OTMatch 3 Φ_19 ([(ob v14 ++ []) ++ ((ob v15 ++ []))] : List (List Nat)) [.int .i64 0, v14, v15] ([(⟨0, x10, x11⟩ : TMatch)] : List TMatch) := RC.cons (c := [.int .i64 0, v14, v15]) (cells := []) ⟨v14, v15, rfl, rfl, h14, h15⟩ rfl (RC.nil _ _ _)
    refine WM.one 11 (by kernel_rfl) (me rfl (fun _ v Φx D w1 hq hw => Kn.of (fun k hk o ho => hq.1 k o (by simp) ((fun k hk o ho => fr18 k o ((ap10.r (i := 1) rfl) k hk) ((fun k hk o ho => fr17 k o ((ap9.r (i := 1) rfl) k hk) ((fun k hk o ho => fr16 k o (by simp) ((fun k hk o ho => fr9 k o (by simp) ((fun _ _ _ h => h) k hk o ho)) k hk o ho)) k hk o ho)) k hk o ho)) k hk o ho)) (AllIn.mem ⟨gM 0 rfl, gM 1 rfl, trivial⟩) hw) (e_lit (vs := [(0, .agg [.int .i64 0, v14, v15].toArray)]) (C := #[.int .i64 0, v14, v15]) OTMatch.lasts Sl_59 Zr_63 rfl rfl rfl rfl (fill_made MC_63_1 (fill_cons (cells := [.int .i64 0, .slice none 0 0, .slice none 0 0]) (c := [.int .i64 0, v14, v15]) (C' := [.int .i64 0, v14, v15]) rfl rfl rfl rfl rfl (fill_nil))) rfl rc8 rfl (RC.kn OTMatch.knows rc8)) rfl (fun v16 Φ_20 D17 q16 => ?_))
    obtain ⟨fr19, h16⟩ := q16
    replace h16 : OSl OTMatch 63 3 Φ_20 ((ob v14 ++ []) ++ ((ob v15 ++ []))) v16 ([(⟨0, x10, x11⟩ : TMatch)] : List TMatch) := by simpa [List.append_assoc] using h16
    replace ph0 := ph0.frame OTMatch.lasts fr19 (Dj.empty _) (Dj.empty _)
    replace pp0 := fr19 _ _ (by simp) pp0
    refine WM.conv (S' := St w0 Φ_20 [(b_2, .cells #[pv2_0, .int .i64 p2.Next] 52 (0, 0)), (b_1, .cells #[.string p1.Name, .int .i64 p1.Sal, pv1_0, pv1_1, pv1_2] 49 (0, 0))] [((ob v14 ++ []) ++ ((ob v15 ++ []))), ob v16, [pb0], ob pv0, pD0]) (fun w1 hw => hw.merge (js := [2, 1]) rfl (SP.eq (by simp [List.append_assoc, ob_nil]))) ?_
    obtain ⟨x12, hx12, h⟩ := bind_some h
    refine WM.one 12 (by kernel_rfl) (me rfl (fun _ v Φx D w1 hq hw => Kn.of (fun k hk o ho => hq.1.2 k o ((hq.1.1.r (i := 2) rfl) k hk) ((fun k hk o ho => fr19 k o (by simp) ((fun k hk o ho => fr18 k o ((ap10.r (i := 1) rfl) k hk) ((fun k hk o ho => fr17 k o ((ap9.r (i := 1) rfl) k hk) ((fun k hk o ho => fr16 k o (by simp) ((fun k hk o ho => fr9 k o (by simp) ((fun _ _ _ h => h) k hk o ho)) k hk o ho)) k hk o ho)) k hk o ho)) k hk o ho)) k hk o ho)) (AllIn.mem ⟨gM 0 rfl, gM 1 rfl, trivial⟩) hw) (e_appO OTMatch.lasts OTMatch.one Sl_59 Ei_63 rfl rfl rfl rfl rfl (js := [3]) (Rr := [((ob v14 ++ []) ++ ((ob v15 ++ []))), ob v16, [pb0], pD0]) rfl ph0 h16 (fun ap => (ap.r (i := 3) rfl)) (fun ap => (ap.r (i := 0) rfl)) hx12) rfl (fun v17 Φ_21 D18 q17 => ?_))
    obtain ⟨⟨ap11, fr20⟩, h17⟩ := q17
    replace pp0 := fr20 _ _ ((ap11.r (i := 2) rfl) _ (by simp)) pp0
    refine WM.conv (S' := St w0 Φ_21 [(b_2, .cells #[pv2_0, .int .i64 p2.Next] 52 (0, 0)), (b_1, .cells #[.string p1.Name, .int .i64 p1.Sal, pv1_0, pv1_1, pv1_2] 49 (0, 0))] [(pD0 ++ ((ob v14 ++ []) ++ ((ob v15 ++ [])))), ob v17, ob v16, [pb0]]) (fun w1 hw => hw.merge (js := [4, 1]) rfl (SP.eq (by simp))) <| mq 13 rfl (by kernel_rfl) (fun w1 hw => Kn.of (fun k hk o ho => fr20 k o ((ap11.r (i := 2) rfl) k hk) ((fun k hk o ho => fr19 k o (by simp) ((fun k hk o ho => fr18 k o ((ap10.r (i := 1) rfl) k hk) ((fun k hk o ho => fr17 k o ((ap9.r (i := 1) rfl) k hk) ((fun k hk o ho => fr16 k o (by simp) ((fun k hk o ho => fr9 k o (by simp) ((fun _ _ _ h => h) k hk o ho)) k hk o ho)) k hk o ho)) k hk o ho)) k hk o ho)) k hk o ho)) (AllIn.mem ⟨gM 0 rfl, gM 1 rfl, trivial⟩) hw) (q_nilCheck rfl) rfl ?_
    refine WM.thw (js := [3]) (R := [(pD0 ++ ((ob v14 ++ []) ++ ((ob v15 ++ [])))), ob v17, ob v16]) rfl pp0 (fun Φ_22 ap12 fr21 => ?_)
    replace h17 := h17.frame OTMatch.lasts fr21 (ap12.r (i := 1) rfl) (ap12.r (i := 0) rfl)
    refine WM.one 14 (by kernel_rfl) (ms rfl (fun hc => by cases hc) (s_store (i := 0) (vs := [v17]) (C' := [v17]) (O' := [(pb0, .cells #[v17] 59 (0, 0)), (b_2, .cells #[pv2_0, .int .i64 p2.Next] 52 (0, 0)), (b_1, .cells #[.string p1.Name, .int .i64 p1.Sal, pv1_0, pv1_1, pv1_2] 49 (0, 0))]) Sz_59 rfl rfl rfl (one_cells h17.one) rfl rfl ⟨h17.one, trivial⟩ rfl rfl) rfl ?_)
    refine WM.nil (by kernel_rfl) <| WT.mono (l' := []) (S' := St w0 Φ_22 [(pb0, .cells #[v17] 59 (0, 0))] [(pD0 ++ ((ob v14 ++ []) ++ ((ob v15 ++ [])))), ob v17]) trivial (fun w1 hw => (hw.sel (js := [0, 0]) rfl).selO (js := [0]) rfl) ?_
    exact K (Φ_22, x12, v17, (pD0 ++ ((ob v14 ++ []) ++ ((ob v15 ++ []))))) ⟨h, h17⟩
   have rc9 : RC RTBind 4 Φ ([] : List (List Nat)) [] ([] : List TBind) := RC.nil _ _ _
   refine me rfl (fun _ v Φx D w1 hq hw => Kn.of (fun k hk o ho => hq.1 k o (by simp) ((fun _ _ _ h => h) k hk o ho)) (AllIn.mem ⟨gM 0 rfl, gM 1 rfl, trivial⟩) hw) (e_lit (vs := []) (C := #[]) RTBind.lasts Sl_55 Zr_123 rfl rfl rfl rfl (fill_made MC_123_0 (fill_nil)) rfl rc9 rfl (by simpa using Kw.nil)) rfl (fun v18 Φ_23 D19 q18 => ?_)
   obtain ⟨fr22, h18⟩ := q18
   replace h18 : OSl RTBind 123 4 Φ_23 [] v18 ([] : List TBind) := by simpa using h18
   replace ph3 := ph3.frame RI.lasts fr22 (Dj.empty _)
   replace ph4 := ph4.frame RTBind.lasts fr22 (Dj.empty _)
   replace ph0 := ph0.frame OTMatch.lasts fr22 (Dj.empty _) (Dj.empty _)
   replace pp0 := fr22 _ _ (by simp) pp0
   have rc10 : RC (RI .i64) 1 Φ_23 ([] : List (List Nat)) [] ([] : List Int) := RC.nil _ _ _
   refine WM.one 4 (by kernel_rfl) (me rfl (fun _ v Φx D w1 hq hw => Kn.of (fun k hk o ho => hq.1 k o (by simp) ((fun k hk o ho => fr22 k o (by simp) ((fun _ _ _ h => h) k hk o ho)) k hk o ho)) (AllIn.mem ⟨gM 0 rfl, gM 1 rfl, trivial⟩) hw) (e_lit (vs := []) (C := #[]) RI.lasts Sl_41 Zr_3 rfl rfl rfl rfl (fill_made MC_3_0 (fill_nil)) rfl rc10 rfl (by simpa using Kw.nil)) rfl (fun v19 Φ_24 D20 q19 => ?_))
   obtain ⟨fr23, h19⟩ := q19
   replace h19 : OSl (RI .i64) 3 1 Φ_24 [] v19 ([] : List Int) := by simpa using h19
   replace ph3 := ph3.frame RI.lasts fr23 (Dj.empty _)
   replace ph4 := ph4.frame RTBind.lasts fr23 (Dj.empty _)
   replace ph0 := ph0.frame OTMatch.lasts fr23 (Dj.empty _) (Dj.empty _)
   replace h18 := h18.frame RTBind.lasts fr23 (Dj.empty _) (Dj.empty _)
   replace pp0 := fr23 _ _ (by simp) pp0
   obtain ⟨x13, hx13, h⟩ := bind_some h
   refine WM.one 6 (by kernel_rfl) (me rfl (fun _ v Φx D w1 hq hw => Kn.of (fun k hk o ho => hq.1.2 k o ((hq.1.1.r (i := 1) rfl) k hk) ((fun k hk o ho => fr23 k o (by simp) ((fun k hk o ho => fr22 k o (by simp) ((fun _ _ _ h => h) k hk o ho)) k hk o ho)) k hk o ho)) (AllIn.mem ⟨gM 0 rfl, gM 1 rfl, trivial⟩) hw) (e_appF RI.lasts RI.one RI.flat Sl_41 Ei_3 rfl rfl rfl rfl rfl (js := [0]) (Rr := [ob v18, [pb0], ob pv0, pD0]) rfl h19 ph3 hx13) rfl (fun v20 Φ_25 D21 q20 => ?_))
   obtain ⟨⟨ap13, fr24⟩, h20⟩ := q20
   replace ph4 := ph4.frame RTBind.lasts fr24 (ap13.o pa4)
   replace ph0 := ph0.frame OTMatch.lasts fr24 (ap13.r (i := 2) rfl) (ap13.r (i := 3) rfl)
   replace h18 := h18.frame RTBind.lasts fr24 (ap13.r (i := 0) rfl) (Dj.nil _)
   replace pp0 := fr24 _ _ ((ap13.r (i := 1) rfl) _ (by simp)) pp0
   obtain ⟨x14, hx14, h⟩ := bind_some h
   refine WM.one 9 (by kernel_rfl) (me rfl (fun _ v Φx D w1 hq hw => Kn.of (fun k hk o ho => hq.1.2 k o ((hq.1.1.r (i := 1) rfl) k hk) ((fun k hk o ho => fr24 k o ((ap13.r (i := 1) rfl) k hk) ((fun k hk o ho => fr23 k o (by simp) ((fun k hk o ho => fr22 k o (by simp) ((fun _ _ _ h => h) k hk o ho)) k hk o ho)) k hk o ho)) k hk o ho)) (AllIn.mem ⟨gM 0 rfl, gM 1 rfl, trivial⟩) hw) (e_appF RTBind.lasts RTBind.one RTBind.flat Sl_55 Ei_123 rfl rfl rfl rfl rfl (js := [1]) (Rr := [ob v20, [pb0], ob pv0, pD0]) rfl h18 ph4 hx14) rfl (fun v21 Φ_26 D22 q21 => ?_))
   obtain ⟨⟨ap14, fr25⟩, h21⟩ := q21
   replace ph0 := ph0.frame OTMatch.lasts fr25 (ap14.r (i := 2) rfl) (ap14.r (i := 3) rfl)
   replace h20 := h20.frame RI.lasts fr25 (ap14.r (i := 0) rfl) (Dj.nil _)
   replace pp0 := fr25 _ _ ((ap14.r (i := 1) rfl) _ (by simp)) pp0
   refine mq 10 rfl (by kernel_rfl) (fun w1 hw => Kn.of (fun k hk o ho => fr25 k o ((ap14.r (i := 1) rfl) k hk) ((fun k hk o ho => fr24 k o ((ap13.r (i := 1) rfl) k hk) ((fun k hk o ho => fr23 k o (by simp) ((fun k hk o ho => fr22 k o (by simp) ((fun _ _ _ h => h) k hk o ho)) k hk o ho)) k hk o ho)) k hk o ho)) (AllIn.mem ⟨gM 0 rfl, gM 1 rfl, trivial⟩) hw) (q_build (vs := [(1, v20), (2, v21)]) (C := #[.int .i64 0, v20, v21]) Pl_63 Zr_63 rfl (fill_cons (cells := [.int .i64 0, .slice none 0 0, .slice none 0 0]) (c := [v20]) (C' := [.int .i64 0, v20, .slice none 0 0]) rfl (one_cells h20.one) rfl rfl rfl (fill_cons (cells := [.int .i64 0, v20, .slice none 0 0]) (c := [v21]) (C' := [.int .i64 0, v20, v21]) rfl (one_cells h21.one) rfl rfl rfl (fill_nil)))) rfl ?_
   have rc11 : RC OTMatch 3 Φ_26 ([(ob v20 ++ []) ++ ((ob v21 ++ []))] : List (List Nat)) [.int .i64 0, v20, v21] ([(⟨0, x13, x14⟩ : TMatch)] : List TMatch) := RC.cons (c := [.int .i64 0, v20, v21]) (cells := []) ⟨v20, v21, rfl, rfl, h20, h21⟩ rfl (RC.nil _ _ _)
   refine WM.one 11 (by kernel_rfl) (me rfl (fun _ v Φx D w1 hq hw => Kn.of (fun k hk o ho => hq.1 k o (by simp) ((fun k hk o ho => fr25 k o ((ap14.r (i := 1) rfl) k hk) ((fun k hk o ho => fr24 k o ((ap13.r (i := 1) rfl) k hk) ((fun k hk o ho => fr23 k o (by simp) ((fun k hk o ho => fr22 k o (by simp) ((fun _ _ _ h => h) k hk o ho)) k hk o ho)) k hk o ho)) k hk o ho)) k hk o ho)) (AllIn.mem ⟨gM 0 rfl, gM 1 rfl, trivial⟩) hw) (e_lit (vs := [(0, .agg [.int .i64 0, v20, v21].toArray)]) (C := #[.int .i64 0, v20, v21]) OTMatch.lasts Sl_59 Zr_63 rfl rfl rfl rfl (fill_made MC_63_1 (fill_cons (cells := [.int .i64 0, .slice none 0 0, .slice none 0 0]) (c := [.int .i64 0, v20, v21]) (C' := [.int .i64 0, v20, v21]) rfl rfl rfl rfl rfl (fill_nil))) rfl rc11 rfl (RC.kn OTMatch.knows rc11)) rfl (fun v22 Φ_27 D23 q22 => ?_))
   obtain ⟨fr26, h22⟩ := q22
   replace h22 : OSl OTMatch 63 3 Φ_27 ((ob v20 ++ []) ++ ((ob v21 ++ []))) v22 ([(⟨0, x13, x14⟩ : TMatch)] : List TMatch) := by simpa [List.append_assoc] using h22
   replace ph0 := ph0.frame OTMatch.lasts fr26 (Dj.empty _) (Dj.empty _)
   replace pp0 := fr26 _ _ (by simp) pp0
   refine WM.conv (S' := St w0 Φ_27 [(b_2, .cells #[pv2_0, .int .i64 p2.Next] 52 (0, 0)), (b_1, .cells #[.string p1.Name, .int .i64 p1.Sal, pv1_0, pv1_1, pv1_2] 49 (0, 0))] [((ob v20 ++ []) ++ ((ob v21 ++ []))), ob v22, [pb0], ob pv0, pD0]) (fun w1 hw => hw.merge (js := [2, 1]) rfl (SP.eq (by simp [List.append_assoc, ob_nil]))) ?_
   obtain ⟨x15, hx15, h⟩ := bind_some h
   refine WM.one 12 (by kernel_rfl) (me rfl (fun _ v Φx D w1 hq hw => Kn.of (fun k hk o ho => hq.1.2 k o ((hq.1.1.r (i := 2) rfl) k hk) ((fun k hk o ho => fr26 k o (by simp) ((fun k hk o ho => fr25 k o ((ap14.r (i := 1) rfl) k hk) ((fun k hk o ho => fr24 k o ((ap13.r (i := 1) rfl) k hk) ((fun k hk o ho => fr23 k o (by simp) ((fun k hk o ho => fr22 k o (by simp) ((fun _ _ _ h => h) k hk o ho)) k hk o ho)) k hk o ho)) k hk o ho)) k hk o ho)) k hk o ho)) (AllIn.mem ⟨gM 0 rfl, gM 1 rfl, trivial⟩) hw) (e_appO OTMatch.lasts OTMatch.one Sl_59 Ei_63 rfl rfl rfl rfl rfl (js := [3]) (Rr := [((ob v20 ++ []) ++ ((ob v21 ++ []))), ob v22, [pb0], pD0]) rfl ph0 h22 (fun ap => (ap.r (i := 3) rfl)) (fun ap => (ap.r (i := 0) rfl)) hx15) rfl (fun v23 Φ_28 D24 q23 => ?_))
   obtain ⟨⟨ap15, fr27⟩, h23⟩ := q23
   replace pp0 := fr27 _ _ ((ap15.r (i := 2) rfl) _ (by simp)) pp0
   refine WM.conv (S' := St w0 Φ_28 [(b_2, .cells #[pv2_0, .int .i64 p2.Next] 52 (0, 0)), (b_1, .cells #[.string p1.Name, .int .i64 p1.Sal, pv1_0, pv1_1, pv1_2] 49 (0, 0))] [(pD0 ++ ((ob v20 ++ []) ++ ((ob v21 ++ [])))), ob v23, ob v22, [pb0]]) (fun w1 hw => hw.merge (js := [4, 1]) rfl (SP.eq (by simp))) <| mq 13 rfl (by kernel_rfl) (fun w1 hw => Kn.of (fun k hk o ho => fr27 k o ((ap15.r (i := 2) rfl) k hk) ((fun k hk o ho => fr26 k o (by simp) ((fun k hk o ho => fr25 k o ((ap14.r (i := 1) rfl) k hk) ((fun k hk o ho => fr24 k o ((ap13.r (i := 1) rfl) k hk) ((fun k hk o ho => fr23 k o (by simp) ((fun k hk o ho => fr22 k o (by simp) ((fun _ _ _ h => h) k hk o ho)) k hk o ho)) k hk o ho)) k hk o ho)) k hk o ho)) k hk o ho)) (AllIn.mem ⟨gM 0 rfl, gM 1 rfl, trivial⟩) hw) (q_nilCheck rfl) rfl ?_
   refine WM.thw (js := [3]) (R := [(pD0 ++ ((ob v20 ++ []) ++ ((ob v21 ++ [])))), ob v23, ob v22]) rfl pp0 (fun Φ_29 ap16 fr28 => ?_)
   replace h23 := h23.frame OTMatch.lasts fr28 (ap16.r (i := 1) rfl) (ap16.r (i := 0) rfl)
   refine WM.one 14 (by kernel_rfl) (ms rfl (fun hc => by cases hc) (s_store (i := 0) (vs := [v23]) (C' := [v23]) (O' := [(pb0, .cells #[v23] 59 (0, 0)), (b_2, .cells #[pv2_0, .int .i64 p2.Next] 52 (0, 0)), (b_1, .cells #[.string p1.Name, .int .i64 p1.Sal, pv1_0, pv1_1, pv1_2] 49 (0, 0))]) Sz_59 rfl rfl rfl (one_cells h23.one) rfl rfl ⟨h23.one, trivial⟩ rfl rfl) rfl ?_)
   refine WM.nil (by kernel_rfl) <| WT.mono (l' := []) (S' := St w0 Φ_29 [(pb0, .cells #[v23] 59 (0, 0))] [(pD0 ++ ((ob v20 ++ []) ++ ((ob v21 ++ [])))), ob v23]) trivial (fun w1 hw => (hw.sel (js := [0, 0]) rfl).selO (js := [0]) rfl) ?_
   exact K (Φ_29, x15, v23, (pD0 ++ ((ob v20 ++ []) ++ ((ob v21 ++ []))))) ⟨h, h23⟩
  replace h := ite_f h c3
  refine WT.skip ?_
  refine WT.ret Tryz.func123 resOk.none (fun w1 hw => ?_)
  subst hb0
  cases h
  refine postG_of_St (js := [0, 0, 0]) hw rfl ⟨pv0, pD0, rfl, rfl, ph0, pp0⟩
 replace h := ite_f h c1
 refine WT.skip <| WT.seq <| WT.region <| lq (q_assign rfl) rfl <| WL.nil <| WT.block <| WT.loop <| WT.mono (l' := [(0, .pointer (some ⟨pb0, 0, none⟩)), (3, pv3), (4, pv4), (6, .pointer (some ⟨b_1, 0, none⟩)), (7, .pointer (some ⟨b_2, 0, none⟩)), (10, .int .i64 0)]) (S' := St w0 Φ [(b_2, .cells #[pv2_0, .int .i64 p2.Next] 52 (0, 0)), (b_1, .cells #[.string p1.Name, .int .i64 p1.Sal, pv1_0, pv1_1, pv1_2] 49 (0, 0))] [[pb0], ob pv0, pD0]) ⟨rfl, rfl, rfl, rfl, rfl, rfl, trivial⟩ (fun w1 hw => (hw.sel (js := [0, 0, 0]) rfl).selO (js := [0, 0]) rfl) ?_
 refine loop_ind (σ := Hp × (List TMatch) × Value × List Nat × Int) (fun s => [(0, .pointer (some ⟨pb0, 0, none⟩)), (3, pv3), (4, pv4), (6, .pointer (some ⟨b_1, 0, none⟩)), (7, .pointer (some ⟨b_2, 0, none⟩)), (10, .int .i64 s.2.2.2.2)]) (fun s => St w0 s.1 [(b_2, .cells #[pv2_0, .int .i64 p2.Next] 52 (0, 0)), (b_1, .cells #[.string p1.Name, .int .i64 p1.Sal, pv1_0, pv1_1, pv1_2] 49 (0, 0))] [[pb0], ob s.2.2.1, s.2.2.2.1]) (fun m s => m_s_l11Rows_l2 N p1 p2 p3 p4 (m_s_l11Rows N) m s.2.1 s.2.2.2.2 = some r ∧ (OSl OTMatch 63 3 s.1 s.2.2.2.1 s.2.2.1 s.2.1) ∧ (s.1 pb0 = some (.cells #[s.2.2.1] 59 (0, 0))) ∧ (RSl (RI .i64) 1 s.1 pG3 pv3 p3) ∧ (RSl RTBind 4 s.1 pG4 pv4 p4) ∧ (RSl RTPat 3 s.1 pG1_0 pv1_0 p1.Pats) ∧ (RSl RTCond 11 s.1 pG1_1 pv1_1 p1.Conds) ∧ (RSl RTAct 5 s.1 pG1_2 pv1_2 p1.Acts) ∧ (RSl RTItem 3 s.1 pG2_0 pv2_0 p2.Items)) (fun s hm => none_ne (show (none : Option ((List TMatch))) = some r from hm.1)) (fun n2 ih2 s hm => ?_) N (Φ, p0, pv0, pD0, 0) ⟨h, ph0, pp0, ph3, ph4, ph1_0, ph1_1, ph1_2, ph2_0⟩
 obtain ⟨Φ_30, s2, u2, D25, s3⟩ := s
 obtain ⟨h, k3, k4, ph3, ph4, ph1_0, ph1_1, ph1_2, ph2_0⟩ := hm
 replace h : m_s_l11Rows_l2 N p1 p2 p3 p4 (m_s_l11Rows N) (n2 + 1) s2 s3 = some r := h
 replace k3 : OSl OTMatch 63 3 Φ_30 D25 u2 s2 := k3
 replace k4 : Φ_30 pb0 = some (.cells #[u2] 59 (0, 0)) := k4
 replace ph3 : RSl (RI .i64) 1 Φ_30 pG3 pv3 p3 := ph3
 replace ph4 : RSl RTBind 4 Φ_30 pG4 pv4 p4 := ph4
 replace ph1_0 : RSl RTPat 3 Φ_30 pG1_0 pv1_0 p1.Pats := ph1_0
 replace ph1_1 : RSl RTCond 11 Φ_30 pG1_1 pv1_1 p1.Conds := ph1_1
 replace ph1_2 : RSl RTAct 5 Φ_30 pG1_2 pv1_2 p1.Acts := ph1_2
 replace ph2_0 : RSl RTItem 3 Φ_30 pG2_0 pv2_0 p2.Items := ph2_0
 show WT _ _ [(0, .pointer (some ⟨pb0, 0, none⟩)), (3, pv3), (4, pv4), (6, .pointer (some ⟨b_1, 0, none⟩)), (7, .pointer (some ⟨b_2, 0, none⟩)), (10, .int .i64 s3)] (St w0 Φ_30 [(b_2, .cells #[pv2_0, .int .i64 p2.Next] 52 (0, 0)), (b_1, .cells #[.string p1.Name, .int .i64 p1.Sal, pv1_0, pv1_1, pv1_2] 49 (0, 0))] [[pb0], ob u2, D25])
 unfold m_s_l11Rows_l2 at h
 refine WT.seq <| WT.seq <| WT.region <| lq (q_move rfl) rfl <| lq (q_fieldAddr Fld_52_0 rfl) rfl <| lq (q_load1 T1_50 rfl (fun w1 hw => hw.rgO (i := 0) rfl 0 1 [pv2_0] rfl)) rfl <| lq (q_lenR Sl_50 rfl rfl ph2_0) rfl <| lq (q_lss rfl rfl) rfl <| WL.nil ?_
 refine WT.cond rfl (fun c4 => ?_) (fun c4 => ?_)
 ·replace h := ite_t h c4
  refine WT.skip <| WT.seq <| WT.block <| WT.seq <| WT.mix (Kn Φ_30 (pG1_0 ++ pG2_0) [(b_2, .cells #[pv2_0, .int .i64 p2.Next] 52 (0, 0)), (b_1, .cells #[.string p1.Name, .int .i64 p1.Sal, pv1_0, pv1_1, pv1_2] 49 (0, 0))]) (fun _ => true) mixed (fun _ h => h.drew) <| mq 0 rfl (by kernel_rfl) (fun w1 hw => Kn.of (fun _ _ _ h => h) (AllIn.mem ⟨gM 0 rfl, gM 1 rfl, trivial⟩) hw) (q_fieldAddr Fld_49_2 rfl) rfl ?_
  refine mq 1 rfl (by kernel_rfl) (fun w1 hw => Kn.of (fun _ _ _ h => h) (AllIn.mem ⟨gM 0 rfl, gM 1 rfl, trivial⟩) hw) (q_load1 T1_45 rfl (fun w1 hw => hw.rgO (i := 1) rfl 2 1 [pv1_0] rfl)) rfl <| mq 2 rfl (by kernel_rfl) (fun w1 hw => Kn.of (fun _ _ _ h => h) (AllIn.mem ⟨gM 0 rfl, gM 1 rfl, trivial⟩) hw) (q_move rfl) rfl ?_
  refine mq 3 rfl (by kernel_rfl) (fun w1 hw => Kn.of (fun _ _ _ h => h) (AllIn.mem ⟨gM 0 rfl, gM 1 rfl, trivial⟩) hw) (q_lenR Sl_41 rfl rfl ph3) rfl ?_
  obtain ⟨x16, hx16, h⟩ := bind_some h
  obtain ⟨cs1, F1, -, g1, hb1, hs1, r1⟩ := ph1_0.el (idx_some hx16).2.2
  obtain ⟨v24, G1, rfl, hq1, h24⟩ := r1
  obtain rfl := hq1.symm
  refine mq 4 rfl (by kernel_rfl) (fun w1 hw => Kn.of (fun _ _ _ h => h) (AllIn.mem ⟨gM 0 rfl, gM 1 rfl, trivial⟩) hw) (q_indexAddr Sl_45 rfl rfl ph1_0 hx16) rfl <| mq 5 rfl (by kernel_rfl) (fun w1 hw => Kn.of (fun _ _ _ h => h) (AllIn.mem ⟨gM 0 rfl, gM 1 rfl, trivial⟩) hw) (q_loadN Tn_114 rfl (fun w1 hw => hw.rg (List.mem_append.2 (.inl hb1)) (g1.of_eq 0 3 rfl rfl : rg _ _ _ [.string x16.Kind, v24, .bool x16.Not])) rfl) rfl ?_
  refine mq 6 rfl (by kernel_rfl) (fun w1 hw => Kn.of (fun _ _ _ h => h) (AllIn.mem ⟨gM 0 rfl, gM 1 rfl, trivial⟩) hw) (q_fieldAddr Fld_52_0 rfl) rfl <| mq 7 rfl (by kernel_rfl) (fun w1 hw => Kn.of (fun _ _ _ h => h) (AllIn.mem ⟨gM 0 rfl, gM 1 rfl, trivial⟩) hw) (q_load1 T1_50 rfl (fun w1 hw => hw.rgO (i := 0) rfl 0 1 [pv2_0] rfl)) rfl ?_
  refine mq 8 rfl (by kernel_rfl) (fun w1 hw => Kn.of (fun _ _ _ h => h) (AllIn.mem ⟨gM 0 rfl, gM 1 rfl, trivial⟩) hw) (q_move rfl) rfl ?_
  obtain ⟨x17, hx17, h⟩ := bind_some h
  obtain ⟨cs2, F2, -, g2, hb2, hs2, r2⟩ := ph2_0.el (idx_some hx17).2.2
  obtain ⟨v25, G2, rfl, hq2, h25⟩ := r2
  obtain rfl := hq2.symm
  refine mq 9 rfl (by kernel_rfl) (fun w1 hw => Kn.of (fun _ _ _ h => h) (AllIn.mem ⟨gM 0 rfl, gM 1 rfl, trivial⟩) hw) (q_indexAddr Sl_50 rfl rfl ph2_0 hx17) rfl <| mq 10 rfl (by kernel_rfl) (fun w1 hw => Kn.of (fun _ _ _ h => h) (AllIn.mem ⟨gM 0 rfl, gM 1 rfl, trivial⟩) hw) (q_fieldAddr Fld_142_1 rfl) rfl <| mq 11 rfl (by kernel_rfl) (fun w1 hw => Kn.of (fun _ _ _ h => h) (AllIn.mem ⟨gM 0 rfl, gM 1 rfl, trivial⟩) hw) (q_loadN Tn_116 rfl (fun w1 hw => hw.rg (List.mem_append.2 (.inr hb2)) (g2.of_eq 1 2 rfl rfl : rg _ _ _ [.string x17.F.Kind, v25])) rfl) rfl ?_
  refine mq 12 rfl (by kernel_rfl) (fun w1 hw => Kn.of (fun _ _ _ h => h) (AllIn.mem ⟨gM 0 rfl, gM 1 rfl, trivial⟩) hw) (q_move rfl) rfl ?_
  obtain ⟨x18, hx18, h⟩ := bind_some h
  refine WM.one 13 (by kernel_rfl) (mc rfl (fun _ v Φx D w1 hq hw => Kn.of (fun k hk o ho => hq.2.1 k o ((Dj.app (hq.1.o pa1_0) (hq.1.o pa2_0)) k hk) ((fun _ _ _ h => h) k hk o ho)) (AllIn.mem ⟨gM 0 rfl, gM 1 rfl, trivial⟩) hw) (k_call (js := []) (R := [[pb0], ob u2, D25]) Fun_64 rfl rfl (fun w1 hw ap hl => m_s_MatchPat_ok hw.fro N x16 x17.F p4 h24 h25 ph4  hx18)) rfl (fun v26 Φ_31 F3 q24 => ?_))
  obtain ⟨ap17, fr29, v27, rfl, rfl, h26⟩ := q24
  replace ph3 := ph3.frame RI.lasts fr29 (ap17.o pa3)
  replace ph4 := ph4.frame RTBind.lasts fr29 (ap17.o pa4)
  replace ph1_0 := ph1_0.frame RTPat.lasts fr29 (ap17.o pa1_0)
  replace ph1_1 := ph1_1.frame RTCond.lasts fr29 (ap17.o pa1_1)
  replace ph1_2 := ph1_2.frame RTAct.lasts fr29 (ap17.o pa1_2)
  replace ph2_0 := ph2_0.frame RTItem.lasts fr29 (ap17.o pa2_0)
  replace k3 := k3.frame OTMatch.lasts fr29 (ap17.r (i := 1) rfl) (ap17.r (i := 2) rfl)
  replace k4 := fr29 _ _ ((ap17.r (i := 0) rfl) _ (by simp)) k4
  refine mq 14 rfl (by kernel_rfl) (fun w1 hw => Kn.of (fun k hk o ho => fr29 k o ((Dj.app (ap17.o pa1_0) (ap17.o pa2_0)) k hk) ((fun _ _ _ h => h) k hk o ho)) (AllIn.mem ⟨gM 0 rfl, gM 1 rfl, trivial⟩) hw) (q_move rfl) rfl <| mq 15 rfl (by kernel_rfl) (fun w1 hw => Kn.of (fun k hk o ho => fr29 k o ((Dj.app (ap17.o pa1_0) (ap17.o pa2_0)) k hk) ((fun _ _ _ h => h) k hk o ho)) (AllIn.mem ⟨gM 0 rfl, gM 1 rfl, trivial⟩) hw) (q_extract rfl rfl) rfl ?_
  refine mq 16 rfl (by kernel_rfl) (fun w1 hw => Kn.of (fun k hk o ho => fr29 k o ((Dj.app (ap17.o pa1_0) (ap17.o pa2_0)) k hk) ((fun _ _ _ h => h) k hk o ho)) (AllIn.mem ⟨gM 0 rfl, gM 1 rfl, trivial⟩) hw) (q_extract rfl rfl) rfl <| mq 17 rfl (by kernel_rfl) (fun w1 hw => Kn.of (fun k hk o ho => fr29 k o ((Dj.app (ap17.o pa1_0) (ap17.o pa2_0)) k hk) ((fun _ _ _ h => h) k hk o ho)) (AllIn.mem ⟨gM 0 rfl, gM 1 rfl, trivial⟩) hw) (q_assign rfl) rfl ?_
  refine mq 18 rfl (by kernel_rfl) (fun w1 hw => Kn.of (fun k hk o ho => fr29 k o ((Dj.app (ap17.o pa1_0) (ap17.o pa2_0)) k hk) ((fun _ _ _ h => h) k hk o ho)) (AllIn.mem ⟨gM 0 rfl, gM 1 rfl, trivial⟩) hw) (q_assign rfl) rfl <| WM.nil (by kernel_rfl) <| WT.seq <| WT.region <| lq (q_move rfl) rfl <| WL.nil ?_
  refine WT.cond rfl (fun c5 => ?_) (fun c5 => ?_)
  ·replace h := ite_t h c5
   refine cut (σ := Hp × (List TMatch) × Value × List Nat) (fun s => [(0, .pointer (some ⟨pb0, 0, none⟩)), (3, pv3), (4, pv4), (6, .pointer (some ⟨b_1, 0, none⟩)), (7, .pointer (some ⟨b_2, 0, none⟩)), (10, .int .i64 s3)]) (fun s => St w0 s.1 [(b_2, .cells #[pv2_0, .int .i64 p2.Next] 52 (0, 0)), (b_1, .cells #[.string p1.Name, .int .i64 p1.Sal, pv1_0, pv1_1, pv1_2] 49 (0, 0))] [[pb0], ob s.2.2.1, s.2.2.2]) (fun s => m_s_l11Rows_j3 N s3 (m_s_l11Rows_l2 N p1 p2 p3 p4 (m_s_l11Rows N) n2) s.2.1 = some r ∧ (OSl OTMatch 63 3 s.1 s.2.2.2 s.2.2.1 s.2.1) ∧ (s.1 pb0 = some (.cells #[s.2.2.1] 59 (0, 0))) ∧ (RSl (RI .i64) 1 s.1 pG3 pv3 p3) ∧ (RSl RTBind 4 s.1 pG4 pv4 p4) ∧ (RSl RTPat 3 s.1 pG1_0 pv1_0 p1.Pats) ∧ (RSl RTCond 11 s.1 pG1_1 pv1_1 p1.Conds) ∧ (RSl RTAct 5 s.1 pG1_2 pv1_2 p1.Acts) ∧ (RSl RTItem 3 s.1 pG2_0 pv2_0 p2.Items)) (fun s hm => ?_) (fun K => ?_)
   ·clear h
    obtain ⟨Φ_37, s4, u3, D31⟩ := s
    obtain ⟨h, k5, k6, ph3, ph4, ph1_0, ph1_1, ph1_2, ph2_0⟩ := hm
    replace h : m_s_l11Rows_j3 N s3 (m_s_l11Rows_l2 N p1 p2 p3 p4 (m_s_l11Rows N) n2) s4 = some r := h
    replace k5 : OSl OTMatch 63 3 Φ_37 D31 u3 s4 := k5
    replace k6 : Φ_37 pb0 = some (.cells #[u3] 59 (0, 0)) := k6
    replace ph3 : RSl (RI .i64) 1 Φ_37 pG3 pv3 p3 := ph3
    replace ph4 : RSl RTBind 4 Φ_37 pG4 pv4 p4 := ph4
    replace ph1_0 : RSl RTPat 3 Φ_37 pG1_0 pv1_0 p1.Pats := ph1_0
    replace ph1_1 : RSl RTCond 11 Φ_37 pG1_1 pv1_1 p1.Conds := ph1_1
    replace ph1_2 : RSl RTAct 5 Φ_37 pG1_2 pv1_2 p1.Acts := ph1_2
    replace ph2_0 : RSl RTItem 3 Φ_37 pG2_0 pv2_0 p2.Items := ph2_0
    show WT _ _ [(0, .pointer (some ⟨pb0, 0, none⟩)), (3, pv3), (4, pv4), (6, .pointer (some ⟨b_1, 0, none⟩)), (7, .pointer (some ⟨b_2, 0, none⟩)), (10, .int .i64 s3)] (St w0 Φ_37 [(b_2, .cells #[pv2_0, .int .i64 p2.Next] 52 (0, 0)), (b_1, .cells #[.string p1.Name, .int .i64 p1.Sal, pv1_0, pv1_1, pv1_2] 49 (0, 0))] [[pb0], ob u3, D31])
    unfold m_s_l11Rows_j3 at h
    refine WT.inBlock <| WT.region <| lq (q_move rfl) rfl <| lq (q_add rfl rfl) rfl <| lq (q_assign rfl) rfl <| WL.nil ?_
    refine WT.inLoop (WT.mono (l' := [(0, .pointer (some ⟨pb0, 0, none⟩)), (3, pv3), (4, pv4), (6, .pointer (some ⟨b_1, 0, none⟩)), (7, .pointer (some ⟨b_2, 0, none⟩)), (10, .int .i64 (IntKind.i64.wrap (s3 + 1)))]) (S' := St w0 Φ_37 [(b_2, .cells #[pv2_0, .int .i64 p2.Next] 52 (0, 0)), (b_1, .cells #[.string p1.Name, .int .i64 p1.Sal, pv1_0, pv1_1, pv1_2] 49 (0, 0))] [[pb0], ob u3, D31]) ⟨rfl, rfl, rfl, rfl, rfl, rfl, trivial⟩ (fun w1 hw => (hw.sel (js := [0, 0, 0]) rfl).selO (js := [0, 0]) rfl) ?_)
    exact ih2 (Φ_37, s4, u3, D31, IntKind.i64.wrap (s3 + 1)) ⟨h, k5, k6, ph3, ph4, ph1_0, ph1_1, ph1_2, ph2_0⟩
   refine WT.mix (Kn Φ_31 pG2_0 [(b_2, .cells #[pv2_0, .int .i64 p2.Next] 52 (0, 0)), (b_1, .cells #[.string p1.Name, .int .i64 p1.Sal, pv1_0, pv1_1, pv1_2] 49 (0, 0))]) (fun i => match i with | 15 => false | _ => true) mixed (fun _ h => h.drew) <| mq 0 rfl (by kernel_rfl) (fun w1 hw => Kn.of (fun _ _ _ h => h) (AllIn.mem ⟨gM 0 rfl, gM 1 rfl, trivial⟩) hw) (q_move rfl) rfl ?_
   refine mq 1 rfl (by kernel_rfl) (fun w1 hw => Kn.of (fun _ _ _ h => h) (AllIn.mem ⟨gM 0 rfl, gM 1 rfl, trivial⟩) hw) (q_loadN Tn_49 rfl (fun w1 hw => hw.rgO (i := 1) rfl 0 5 [.string p1.Name, .int .i64 p1.Sal, pv1_0, pv1_1, pv1_2] rfl) rfl) rfl <| mq 2 rfl (by kernel_rfl) (fun w1 hw => Kn.of (fun _ _ _ h => h) (AllIn.mem ⟨gM 0 rfl, gM 1 rfl, trivial⟩) hw) (q_loadN Tn_52 rfl (fun w1 hw => hw.rgO (i := 0) rfl 0 2 [pv2_0, .int .i64 p2.Next] rfl) rfl) rfl ?_
   refine mq 14 rfl (by kernel_rfl) (fun w1 hw => Kn.of (fun _ _ _ h => h) (AllIn.mem ⟨gM 0 rfl, gM 1 rfl, trivial⟩) hw) (q_move rfl) rfl <| mqT 4 [5, 13, 15] rfl (by kernel_rfl) (fun w1 hw => Kn.of (fun _ _ _ h => h) (AllIn.mem ⟨gM 0 rfl, gM 1 rfl, trivial⟩) hw) (q_move rfl) rfl <| mqT 6 [7, 9, 10, 11, 12, 13, 15] rfl (by kernel_rfl) (fun w1 hw => Kn.of (fun _ _ _ h => h) (AllIn.mem ⟨gM 0 rfl, gM 1 rfl, trivial⟩) hw) (q_fieldAddr Fld_52_0 rfl) rfl ?_
   refine mqT 7 [9, 10, 11, 12, 13, 15] rfl (by kernel_rfl) (fun w1 hw => Kn.of (fun _ _ _ h => h) (AllIn.mem ⟨gM 0 rfl, gM 1 rfl, trivial⟩) hw) (q_load1 T1_50 rfl (fun w1 hw => hw.rgO (i := 0) rfl 0 1 [pv2_0] rfl)) rfl <| mqT 8 [9, 10, 11, 12, 13, 15] rfl (by kernel_rfl) (fun w1 hw => Kn.of (fun _ _ _ h => h) (AllIn.mem ⟨gM 0 rfl, gM 1 rfl, trivial⟩) hw) (q_move rfl) rfl ?_
   obtain ⟨x23, hx23, h⟩ := bind_some h
   obtain ⟨cs4, F6, -, g4, hb4, hs4, r4⟩ := ph2_0.el (idx_some hx23).2.2
   obtain ⟨v35, G4, rfl, hq4, h34⟩ := r4
   obtain rfl := hq4.symm
   refine mqT 9 [10, 11, 12, 13, 15] rfl (by kernel_rfl) (fun w1 hw => Kn.of (fun _ _ _ h => h) (AllIn.mem ⟨gM 0 rfl, gM 1 rfl, trivial⟩) hw) (q_indexAddr Sl_50 rfl rfl ph2_0 hx23) rfl <| mqT 10 [11, 12, 13, 15] rfl (by kernel_rfl) (fun w1 hw => Kn.of (fun _ _ _ h => h) (AllIn.mem ⟨gM 0 rfl, gM 1 rfl, trivial⟩) hw) (q_fieldAddr Fld_142_0 rfl) rfl ?_
   refine mqT 11 [12, 13, 15] rfl (by kernel_rfl) (fun w1 hw => Kn.of (fun _ _ _ h => h) (AllIn.mem ⟨gM 0 rfl, gM 1 rfl, trivial⟩) hw) (q_load1 T1_3 rfl (fun w1 hw => hw.rg hb4 (g4.of_eq 0 1 rfl rfl : rg _ _ _ [.int .i64 x23.Id]))) rfl ?_
   refine WM.two 3 12 (by kernel_rfl) ?_ ?_
   ·skip
    have rc14 : RC (RI .i64) 1 Φ_31 ([] : List (List Nat)) [] ([] : List Int) := RC.nil _ _ _
    refine me rfl (fun _ v Φx D w1 hq hw => Kn.of (fun k hk o ho => hq.1 k o (by simp) ((fun _ _ _ h => h) k hk o ho)) (AllIn.mem ⟨gM 0 rfl, gM 1 rfl, trivial⟩) hw) (e_lit (vs := []) (C := #[]) RI.lasts Sl_41 Zr_3 rfl rfl rfl rfl (fill_made MC_3_0 (fill_nil)) rfl rc14 rfl (by simpa using Kw.nil)) rfl (fun v36 Φ_38 D32 q30 => ?_)
    obtain ⟨fr35, h35⟩ := q30
    replace h35 : OSl (RI .i64) 3 1 Φ_38 [] v36 ([] : List Int) := by simpa using h35
    replace ph3 := ph3.frame RI.lasts fr35 (Dj.empty _)
    replace ph4 := ph4.frame RTBind.lasts fr35 (Dj.empty _)
    replace ph1_0 := ph1_0.frame RTPat.lasts fr35 (Dj.empty _)
    replace ph1_1 := ph1_1.frame RTCond.lasts fr35 (Dj.empty _)
    replace ph1_2 := ph1_2.frame RTAct.lasts fr35 (Dj.empty _)
    replace ph2_0 := ph2_0.frame RTItem.lasts fr35 (Dj.empty _)
    replace k3 := k3.frame OTMatch.lasts fr35 (Dj.empty _) (Dj.empty _)
    replace h26 := h26.frame RTBind.lasts fr35 (Dj.empty _) (Dj.empty _)
    replace k4 := fr35 _ _ (by simp) k4
    refine WM.two 5 12 (by kernel_rfl) ?_ ?_
    ·skip
     obtain ⟨x24, hx24, h⟩ := bind_some h
     refine me rfl (fun _ v Φx D w1 hq hw => Kn.of (fun k hk o ho => hq.1.2 k o ((hq.1.1.o pa2_0) k hk) ((fun k hk o ho => fr35 k o (by simp) ((fun _ _ _ h => h) k hk o ho)) k hk o ho)) (AllIn.mem ⟨gM 0 rfl, gM 1 rfl, trivial⟩) hw) (e_appF RI.lasts RI.one RI.flat Sl_41 Ei_3 rfl rfl rfl rfl rfl (js := [0]) (Rr := [ob v27, [pb0], ob u2, D25]) rfl h35 ph3 hx24) rfl (fun v37 Φ_39 D33 q31 => ?_)
     obtain ⟨⟨ap21, fr36⟩, h36⟩ := q31
     replace ph3 := ph3.frame RI.lasts fr36 (ap21.o pa3)
     replace ph4 := ph4.frame RTBind.lasts fr36 (ap21.o pa4)
     replace ph1_0 := ph1_0.frame RTPat.lasts fr36 (ap21.o pa1_0)
     replace ph1_1 := ph1_1.frame RTCond.lasts fr36 (ap21.o pa1_1)
     replace ph1_2 := ph1_2.frame RTAct.lasts fr36 (ap21.o pa1_2)
     replace ph2_0 := ph2_0.frame RTItem.lasts fr36 (ap21.o pa2_0)
     replace k3 := k3.frame OTMatch.lasts fr36 (ap21.r (i := 2) rfl) (ap21.r (i := 3) rfl)
     replace h26 := h26.frame RTBind.lasts fr36 (ap21.r (i := 0) rfl) (Dj.nil _)
     replace k4 := fr36 _ _ ((ap21.r (i := 1) rfl) _ (by simp)) k4
     have rc15 : RC (RI .i64) 1 Φ_39 ([[]] : List (List Nat)) [.int .i64 x23.Id] ([x23.Id] : List Int) := RC.cons (c := [.int .i64 x23.Id]) (cells := []) ⟨rfl, rfl⟩ rfl (RC.nil _ _ _)
     refine WM.one 12 (by kernel_rfl) (me rfl (fun _ v Φx D w1 hq hw => Kn.of (fun k hk o ho => hq.1 k o (by simp) ((fun k hk o ho => fr36 k o ((ap21.o pa2_0) k hk) ((fun k hk o ho => fr35 k o (by simp) ((fun _ _ _ h => h) k hk o ho)) k hk o ho)) k hk o ho)) (AllIn.mem ⟨gM 0 rfl, gM 1 rfl, trivial⟩) hw) (e_lit (vs := [(0, .int .i64 x23.Id)]) (C := #[.int .i64 x23.Id]) RI.lasts Sl_41 Zr_3 rfl rfl rfl rfl (fill_made MC_3_1 (fill_cons (cells := [.int .i64 0]) (c := [.int .i64 x23.Id]) (C' := [.int .i64 x23.Id]) rfl rfl rfl rfl rfl (fill_nil))) rfl rc15 rfl (by simpa using Kw.nil)) rfl (fun v38 Φ_40 D34 q32 => ?_))
     obtain ⟨fr37, h37⟩ := q32
     replace h37 : OSl (RI .i64) 3 1 Φ_40 [] v38 ([x23.Id] : List Int) := by simpa using h37
     replace ph3 := ph3.frame RI.lasts fr37 (Dj.empty _)
     replace ph4 := ph4.frame RTBind.lasts fr37 (Dj.empty _)
     replace ph1_0 := ph1_0.frame RTPat.lasts fr37 (Dj.empty _)
     replace ph1_1 := ph1_1.frame RTCond.lasts fr37 (Dj.empty _)
     replace ph1_2 := ph1_2.frame RTAct.lasts fr37 (Dj.empty _)
     replace ph2_0 := ph2_0.frame RTItem.lasts fr37 (Dj.empty _)
     replace k3 := k3.frame OTMatch.lasts fr37 (Dj.empty _) (Dj.empty _)
     replace h26 := h26.frame RTBind.lasts fr37 (Dj.empty _) (Dj.empty _)
     replace h36 := h36.frame RI.lasts fr37 (Dj.empty _) (Dj.empty _)
     replace k4 := fr37 _ _ (by simp) k4
     obtain ⟨x25, hx25, h⟩ := bind_some h
     refine WM.one 13 (by kernel_rfl) (me rfl (fun _ v Φx D w1 hq hw => Kn.of (fun k hk o ho => hq.1.2 k o ((hq.1.1.o pa2_0) k hk) ((fun k hk o ho => fr37 k o (by simp) ((fun k hk o ho => fr36 k o ((ap21.o pa2_0) k hk) ((fun k hk o ho => fr35 k o (by simp) ((fun _ _ _ h => h) k hk o ho)) k hk o ho)) k hk o ho)) k hk o ho)) (AllIn.mem ⟨gM 0 rfl, gM 1 rfl, trivial⟩) hw) (e_appF RI.lasts RI.one RI.flat Sl_41 Ei_3 rfl rfl rfl rfl rfl (js := [1]) (Rr := [ob v38, ob v27, [pb0], ob u2, D25]) rfl h36 h37.rsl hx25) rfl (fun v39 Φ_41 D35 q33 => ?_))
     obtain ⟨⟨ap22, fr38⟩, h38⟩ := q33
     replace ph3 := ph3.frame RI.lasts fr38 (ap22.o pa3)
     replace ph4 := ph4.frame RTBind.lasts fr38 (ap22.o pa4)
     replace ph1_0 := ph1_0.frame RTPat.lasts fr38 (ap22.o pa1_0)
     replace ph1_1 := ph1_1.frame RTCond.lasts fr38 (ap22.o pa1_1)
     replace ph1_2 := ph1_2.frame RTAct.lasts fr38 (ap22.o pa1_2)
     replace ph2_0 := ph2_0.frame RTItem.lasts fr38 (ap22.o pa2_0)
     replace k3 := k3.frame OTMatch.lasts fr38 (ap22.r (i := 3) rfl) (ap22.r (i := 4) rfl)
     replace h26 := h26.frame RTBind.lasts fr38 (ap22.r (i := 1) rfl) (Dj.nil _)
     replace k4 := fr38 _ _ ((ap22.r (i := 2) rfl) _ (by simp)) k4
     obtain ⟨x26, hx26, h⟩ := bind_some h
     refine WM.one 15 (by kernel_rfl) (mc rfl (fun hc => by cases hc) (k_call (js := [3, 3, 3]) (R := [ob v39, ob v38, ob v27]) Fun_123 rfl rfl (fun w1 hw ap hl => ih hw.fro s2 p1 p2 x25 x18.1 k3 k4 ph1_0 ph1_1 ph1_2 ph2_0 h38.rsl h26.rsl (ap.o pa1_0) (ap.o pa1_1) (ap.o pa1_2) (ap.o pa2_0) (Dj.app (ap.r (i := 0) rfl) (Dj.nil _)) (Dj.app (ap.r (i := 2) rfl) (Dj.nil _)) ap.nd hl hx26)) rfl (fun v40 Φ_42 F7 q34 => ?_))
     obtain ⟨ap23, fr39, v41, D36, rfl, rfl, h39, h40⟩ := q34
     replace ph3 := ph3.frame RI.lasts fr39 (ap23.o pa3)
     replace ph4 := ph4.frame RTBind.lasts fr39 (ap23.o pa4)
     replace ph1_0 := ph1_0.frame RTPat.lasts fr39 (ap23.o pa1_0)
     replace ph1_1 := ph1_1.frame RTCond.lasts fr39 (ap23.o pa1_1)
     replace ph1_2 := ph1_2.frame RTAct.lasts fr39 (ap23.o pa1_2)
     replace ph2_0 := ph2_0.frame RTItem.lasts fr39 (ap23.o pa2_0)
     refine WM.nil (by kernel_rfl) <| WT.mono (l' := [(0, .pointer (some ⟨pb0, 0, none⟩)), (3, pv3), (4, pv4), (6, .pointer (some ⟨b_1, 0, none⟩)), (7, .pointer (some ⟨b_2, 0, none⟩)), (10, .int .i64 s3)]) (S' := St w0 Φ_42 [(b_2, .cells #[pv2_0, .int .i64 p2.Next] 52 (0, 0)), (b_1, .cells #[.string p1.Name, .int .i64 p1.Sal, pv1_0, pv1_1, pv1_2] 49 (0, 0))] [[pb0], ob v41, D36]) ⟨rfl, rfl, rfl, rfl, rfl, rfl, trivial⟩ (fun w1 hw => (hw.sel (js := [0, 0, 0]) rfl).selO (js := [0, 0]) rfl) ?_
     exact K (Φ_42, x26, v41, D36) ⟨h, h39, h40, ph3, ph4, ph1_0, ph1_1, ph1_2, ph2_0⟩
    have rc16 : RC (RI .i64) 1 Φ_38 ([[]] : List (List Nat)) [.int .i64 x23.Id] ([x23.Id] : List Int) := RC.cons (c := [.int .i64 x23.Id]) (cells := []) ⟨rfl, rfl⟩ rfl (RC.nil _ _ _)
    refine me rfl (fun _ v Φx D w1 hq hw => Kn.of (fun k hk o ho => hq.1 k o (by simp) ((fun k hk o ho => fr35 k o (by simp) ((fun _ _ _ h => h) k hk o ho)) k hk o ho)) (AllIn.mem ⟨gM 0 rfl, gM 1 rfl, trivial⟩) hw) (e_lit (vs := [(0, .int .i64 x23.Id)]) (C := #[.int .i64 x23.Id]) RI.lasts Sl_41 Zr_3 rfl rfl rfl rfl (fill_made MC_3_1 (fill_cons (cells := [.int .i64 0]) (c := [.int .i64 x23.Id]) (C' := [.int .i64 x23.Id]) rfl rfl rfl rfl rfl (fill_nil))) rfl rc16 rfl (by simpa using Kw.nil)) rfl (fun v42 Φ_43 D37 q35 => ?_)
    obtain ⟨fr40, h41⟩ := q35
    replace h41 : OSl (RI .i64) 3 1 Φ_43 [] v42 ([x23.Id] : List Int) := by simpa using h41
    replace ph3 := ph3.frame RI.lasts fr40 (Dj.empty _)
    replace ph4 := ph4.frame RTBind.lasts fr40 (Dj.empty _)
    replace ph1_0 := ph1_0.frame RTPat.lasts fr40 (Dj.empty _)
    replace ph1_1 := ph1_1.frame RTCond.lasts fr40 (Dj.empty _)
    replace ph1_2 := ph1_2.frame RTAct.lasts fr40 (Dj.empty _)
    replace ph2_0 := ph2_0.frame RTItem.lasts fr40 (Dj.empty _)
    replace k3 := k3.frame OTMatch.lasts fr40 (Dj.empty _) (Dj.empty _)
    replace h26 := h26.frame RTBind.lasts fr40 (Dj.empty _) (Dj.empty _)
    replace h35 := h35.frame RI.lasts fr40 (Dj.empty _) (Dj.empty _)
    replace k4 := fr40 _ _ (by simp) k4
    obtain ⟨x27, hx27, h⟩ := bind_some h
    refine WM.one 5 (by kernel_rfl) (me rfl (fun _ v Φx D w1 hq hw => Kn.of (fun k hk o ho => hq.1.2 k o ((hq.1.1.o pa2_0) k hk) ((fun k hk o ho => fr40 k o (by simp) ((fun k hk o ho => fr35 k o (by simp) ((fun _ _ _ h => h) k hk o ho)) k hk o ho)) k hk o ho)) (AllIn.mem ⟨gM 0 rfl, gM 1 rfl, trivial⟩) hw) (e_appF RI.lasts RI.one RI.flat Sl_41 Ei_3 rfl rfl rfl rfl rfl (js := [1]) (Rr := [ob v42, ob v27, [pb0], ob u2, D25]) rfl h35 ph3 hx27) rfl (fun v43 Φ_44 D38 q36 => ?_))
    obtain ⟨⟨ap24, fr41⟩, h42⟩ := q36
    replace ph3 := ph3.frame RI.lasts fr41 (ap24.o pa3)
    replace ph4 := ph4.frame RTBind.lasts fr41 (ap24.o pa4)
    replace ph1_0 := ph1_0.frame RTPat.lasts fr41 (ap24.o pa1_0)
    replace ph1_1 := ph1_1.frame RTCond.lasts fr41 (ap24.o pa1_1)
    replace ph1_2 := ph1_2.frame RTAct.lasts fr41 (ap24.o pa1_2)
    replace ph2_0 := ph2_0.frame RTItem.lasts fr41 (ap24.o pa2_0)
    replace k3 := k3.frame OTMatch.lasts fr41 (ap24.r (i := 3) rfl) (ap24.r (i := 4) rfl)
    replace h26 := h26.frame RTBind.lasts fr41 (ap24.r (i := 1) rfl) (Dj.nil _)
    replace h41 := h41.frame RI.lasts fr41 (ap24.r (i := 0) rfl) (Dj.nil _)
    replace k4 := fr41 _ _ ((ap24.r (i := 2) rfl) _ (by simp)) k4
    obtain ⟨x28, hx28, h⟩ := bind_some h
    refine WM.one 13 (by kernel_rfl) (me rfl (fun _ v Φx D w1 hq hw => Kn.of (fun k hk o ho => hq.1.2 k o ((hq.1.1.o pa2_0) k hk) ((fun k hk o ho => fr41 k o ((ap24.o pa2_0) k hk) ((fun k hk o ho => fr40 k o (by simp) ((fun k hk o ho => fr35 k o (by simp) ((fun _ _ _ h => h) k hk o ho)) k hk o ho)) k hk o ho)) k hk o ho)) (AllIn.mem ⟨gM 0 rfl, gM 1 rfl, trivial⟩) hw) (e_appF RI.lasts RI.one RI.flat Sl_41 Ei_3 rfl rfl rfl rfl rfl (js := [0]) (Rr := [ob v42, ob v27, [pb0], ob u2, D25]) rfl h42 h41.rsl hx28) rfl (fun v44 Φ_45 D39 q37 => ?_))
    obtain ⟨⟨ap25, fr42⟩, h43⟩ := q37
    replace ph3 := ph3.frame RI.lasts fr42 (ap25.o pa3)
    replace ph4 := ph4.frame RTBind.lasts fr42 (ap25.o pa4)
    replace ph1_0 := ph1_0.frame RTPat.lasts fr42 (ap25.o pa1_0)
    replace ph1_1 := ph1_1.frame RTCond.lasts fr42 (ap25.o pa1_1)
    replace ph1_2 := ph1_2.frame RTAct.lasts fr42 (ap25.o pa1_2)
    replace ph2_0 := ph2_0.frame RTItem.lasts fr42 (ap25.o pa2_0)
    replace k3 := k3.frame OTMatch.lasts fr42 (ap25.r (i := 3) rfl) (ap25.r (i := 4) rfl)
    replace h26 := h26.frame RTBind.lasts fr42 (ap25.r (i := 1) rfl) (Dj.nil _)
    replace k4 := fr42 _ _ ((ap25.r (i := 2) rfl) _ (by simp)) k4
    obtain ⟨x29, hx29, h⟩ := bind_some h
    refine WM.one 15 (by kernel_rfl) (mc rfl (fun hc => by cases hc) (k_call (js := [3, 3, 3]) (R := [ob v44, ob v42, ob v27]) Fun_123 rfl rfl (fun w1 hw ap hl => ih hw.fro s2 p1 p2 x28 x18.1 k3 k4 ph1_0 ph1_1 ph1_2 ph2_0 h43.rsl h26.rsl (ap.o pa1_0) (ap.o pa1_1) (ap.o pa1_2) (ap.o pa2_0) (Dj.app (ap.r (i := 0) rfl) (Dj.nil _)) (Dj.app (ap.r (i := 2) rfl) (Dj.nil _)) ap.nd hl hx29)) rfl (fun v45 Φ_46 F8 q38 => ?_))
    obtain ⟨ap26, fr43, v46, D40, rfl, rfl, h44, h45⟩ := q38
    replace ph3 := ph3.frame RI.lasts fr43 (ap26.o pa3)
    replace ph4 := ph4.frame RTBind.lasts fr43 (ap26.o pa4)
    replace ph1_0 := ph1_0.frame RTPat.lasts fr43 (ap26.o pa1_0)
    replace ph1_1 := ph1_1.frame RTCond.lasts fr43 (ap26.o pa1_1)
    replace ph1_2 := ph1_2.frame RTAct.lasts fr43 (ap26.o pa1_2)
    replace ph2_0 := ph2_0.frame RTItem.lasts fr43 (ap26.o pa2_0)
    refine WM.nil (by kernel_rfl) <| WT.mono (l' := [(0, .pointer (some ⟨pb0, 0, none⟩)), (3, pv3), (4, pv4), (6, .pointer (some ⟨b_1, 0, none⟩)), (7, .pointer (some ⟨b_2, 0, none⟩)), (10, .int .i64 s3)]) (S' := St w0 Φ_46 [(b_2, .cells #[pv2_0, .int .i64 p2.Next] 52 (0, 0)), (b_1, .cells #[.string p1.Name, .int .i64 p1.Sal, pv1_0, pv1_1, pv1_2] 49 (0, 0))] [[pb0], ob v46, D40]) ⟨rfl, rfl, rfl, rfl, rfl, rfl, trivial⟩ (fun w1 hw => (hw.sel (js := [0, 0, 0]) rfl).selO (js := [0, 0]) rfl) ?_
    exact K (Φ_46, x29, v46, D40) ⟨h, h44, h45, ph3, ph4, ph1_0, ph1_1, ph1_2, ph2_0⟩
   have rc17 : RC (RI .i64) 1 Φ_31 ([[]] : List (List Nat)) [.int .i64 x23.Id] ([x23.Id] : List Int) := RC.cons (c := [.int .i64 x23.Id]) (cells := []) ⟨rfl, rfl⟩ rfl (RC.nil _ _ _)
   refine me rfl (fun _ v Φx D w1 hq hw => Kn.of (fun k hk o ho => hq.1 k o (by simp) ((fun _ _ _ h => h) k hk o ho)) (AllIn.mem ⟨gM 0 rfl, gM 1 rfl, trivial⟩) hw) (e_lit (vs := [(0, .int .i64 x23.Id)]) (C := #[.int .i64 x23.Id]) RI.lasts Sl_41 Zr_3 rfl rfl rfl rfl (fill_made MC_3_1 (fill_cons (cells := [.int .i64 0]) (c := [.int .i64 x23.Id]) (C' := [.int .i64 x23.Id]) rfl rfl rfl rfl rfl (fill_nil))) rfl rc17 rfl (by simpa using Kw.nil)) rfl (fun v47 Φ_47 D41 q39 => ?_)
   obtain ⟨fr44, h46⟩ := q39
   replace h46 : OSl (RI .i64) 3 1 Φ_47 [] v47 ([x23.Id] : List Int) := by simpa using h46
   replace ph3 := ph3.frame RI.lasts fr44 (Dj.empty _)
   replace ph4 := ph4.frame RTBind.lasts fr44 (Dj.empty _)
   replace ph1_0 := ph1_0.frame RTPat.lasts fr44 (Dj.empty _)
   replace ph1_1 := ph1_1.frame RTCond.lasts fr44 (Dj.empty _)
   replace ph1_2 := ph1_2.frame RTAct.lasts fr44 (Dj.empty _)
   replace ph2_0 := ph2_0.frame RTItem.lasts fr44 (Dj.empty _)
   replace k3 := k3.frame OTMatch.lasts fr44 (Dj.empty _) (Dj.empty _)
   replace h26 := h26.frame RTBind.lasts fr44 (Dj.empty _) (Dj.empty _)
   replace k4 := fr44 _ _ (by simp) k4
   have rc18 : RC (RI .i64) 1 Φ_47 ([] : List (List Nat)) [] ([] : List Int) := RC.nil _ _ _
   refine WM.one 3 (by kernel_rfl) (me rfl (fun _ v Φx D w1 hq hw => Kn.of (fun k hk o ho => hq.1 k o (by simp) ((fun k hk o ho => fr44 k o (by simp) ((fun _ _ _ h => h) k hk o ho)) k hk o ho)) (AllIn.mem ⟨gM 0 rfl, gM 1 rfl, trivial⟩) hw) (e_lit (vs := []) (C := #[]) RI.lasts Sl_41 Zr_3 rfl rfl rfl rfl (fill_made MC_3_0 (fill_nil)) rfl rc18 rfl (by simpa using Kw.nil)) rfl (fun v48 Φ_48 D42 q40 => ?_))
   obtain ⟨fr45, h47⟩ := q40
   replace h47 : OSl (RI .i64) 3 1 Φ_48 [] v48 ([] : List Int) := by simpa using h47
   replace ph3 := ph3.frame RI.lasts fr45 (Dj.empty _)
   replace ph4 := ph4.frame RTBind.lasts fr45 (Dj.empty _)
   replace ph1_0 := ph1_0.frame RTPat.lasts fr45 (Dj.empty _)
   replace ph1_1 := ph1_1.frame RTCond.lasts fr45 (Dj.empty _)
   replace ph1_2 := ph1_2.frame RTAct.lasts fr45 (Dj.empty _)
   replace ph2_0 := ph2_0.frame RTItem.lasts fr45 (Dj.empty _)
   replace k3 := k3.frame OTMatch.lasts fr45 (Dj.empty _) (Dj.empty _)
   replace h26 := h26.frame RTBind.lasts fr45 (Dj.empty _) (Dj.empty _)
   replace h46 := h46.frame RI.lasts fr45 (Dj.empty _) (Dj.empty _)
   replace k4 := fr45 _ _ (by simp) k4
   obtain ⟨x30, hx30, h⟩ := bind_some h
   refine WM.one 5 (by kernel_rfl) (me rfl (fun _ v Φx D w1 hq hw => Kn.of (fun k hk o ho => hq.1.2 k o ((hq.1.1.o pa2_0) k hk) ((fun k hk o ho => fr45 k o (by simp) ((fun k hk o ho => fr44 k o (by simp) ((fun _ _ _ h => h) k hk o ho)) k hk o ho)) k hk o ho)) (AllIn.mem ⟨gM 0 rfl, gM 1 rfl, trivial⟩) hw) (e_appF RI.lasts RI.one RI.flat Sl_41 Ei_3 rfl rfl rfl rfl rfl (js := [0]) (Rr := [ob v47, ob v27, [pb0], ob u2, D25]) rfl h47 ph3 hx30) rfl (fun v49 Φ_49 D43 q41 => ?_))
   obtain ⟨⟨ap27, fr46⟩, h48⟩ := q41
   replace ph3 := ph3.frame RI.lasts fr46 (ap27.o pa3)
   replace ph4 := ph4.frame RTBind.lasts fr46 (ap27.o pa4)
   replace ph1_0 := ph1_0.frame RTPat.lasts fr46 (ap27.o pa1_0)
   replace ph1_1 := ph1_1.frame RTCond.lasts fr46 (ap27.o pa1_1)
   replace ph1_2 := ph1_2.frame RTAct.lasts fr46 (ap27.o pa1_2)
   replace ph2_0 := ph2_0.frame RTItem.lasts fr46 (ap27.o pa2_0)
   replace k3 := k3.frame OTMatch.lasts fr46 (ap27.r (i := 3) rfl) (ap27.r (i := 4) rfl)
   replace h26 := h26.frame RTBind.lasts fr46 (ap27.r (i := 1) rfl) (Dj.nil _)
   replace h46 := h46.frame RI.lasts fr46 (ap27.r (i := 0) rfl) (Dj.nil _)
   replace k4 := fr46 _ _ ((ap27.r (i := 2) rfl) _ (by simp)) k4
   obtain ⟨x31, hx31, h⟩ := bind_some h
   refine WM.one 13 (by kernel_rfl) (me rfl (fun _ v Φx D w1 hq hw => Kn.of (fun k hk o ho => hq.1.2 k o ((hq.1.1.o pa2_0) k hk) ((fun k hk o ho => fr46 k o ((ap27.o pa2_0) k hk) ((fun k hk o ho => fr45 k o (by simp) ((fun k hk o ho => fr44 k o (by simp) ((fun _ _ _ h => h) k hk o ho)) k hk o ho)) k hk o ho)) k hk o ho)) (AllIn.mem ⟨gM 0 rfl, gM 1 rfl, trivial⟩) hw) (e_appF RI.lasts RI.one RI.flat Sl_41 Ei_3 rfl rfl rfl rfl rfl (js := [0]) (Rr := [ob v47, ob v27, [pb0], ob u2, D25]) rfl h48 h46.rsl hx31) rfl (fun v50 Φ_50 D44 q42 => ?_))
   obtain ⟨⟨ap28, fr47⟩, h49⟩ := q42
   replace ph3 := ph3.frame RI.lasts fr47 (ap28.o pa3)
   replace ph4 := ph4.frame RTBind.lasts fr47 (ap28.o pa4)
   replace ph1_0 := ph1_0.frame RTPat.lasts fr47 (ap28.o pa1_0)
   replace ph1_1 := ph1_1.frame RTCond.lasts fr47 (ap28.o pa1_1)
   replace ph1_2 := ph1_2.frame RTAct.lasts fr47 (ap28.o pa1_2)
   replace ph2_0 := ph2_0.frame RTItem.lasts fr47 (ap28.o pa2_0)
   replace k3 := k3.frame OTMatch.lasts fr47 (ap28.r (i := 3) rfl) (ap28.r (i := 4) rfl)
   replace h26 := h26.frame RTBind.lasts fr47 (ap28.r (i := 1) rfl) (Dj.nil _)
   replace k4 := fr47 _ _ ((ap28.r (i := 2) rfl) _ (by simp)) k4
   obtain ⟨x32, hx32, h⟩ := bind_some h
   refine WM.one 15 (by kernel_rfl) (mc rfl (fun hc => by cases hc) (k_call (js := [3, 3, 3]) (R := [ob v50, ob v47, ob v27]) Fun_123 rfl rfl (fun w1 hw ap hl => ih hw.fro s2 p1 p2 x31 x18.1 k3 k4 ph1_0 ph1_1 ph1_2 ph2_0 h49.rsl h26.rsl (ap.o pa1_0) (ap.o pa1_1) (ap.o pa1_2) (ap.o pa2_0) (Dj.app (ap.r (i := 0) rfl) (Dj.nil _)) (Dj.app (ap.r (i := 2) rfl) (Dj.nil _)) ap.nd hl hx32)) rfl (fun v51 Φ_51 F9 q43 => ?_))
   obtain ⟨ap29, fr48, v52, D45, rfl, rfl, h50, h51⟩ := q43
   replace ph3 := ph3.frame RI.lasts fr48 (ap29.o pa3)
   replace ph4 := ph4.frame RTBind.lasts fr48 (ap29.o pa4)
   replace ph1_0 := ph1_0.frame RTPat.lasts fr48 (ap29.o pa1_0)
   replace ph1_1 := ph1_1.frame RTCond.lasts fr48 (ap29.o pa1_1)
   replace ph1_2 := ph1_2.frame RTAct.lasts fr48 (ap29.o pa1_2)
   replace ph2_0 := ph2_0.frame RTItem.lasts fr48 (ap29.o pa2_0)
   refine WM.nil (by kernel_rfl) <| WT.mono (l' := [(0, .pointer (some ⟨pb0, 0, none⟩)), (3, pv3), (4, pv4), (6, .pointer (some ⟨b_1, 0, none⟩)), (7, .pointer (some ⟨b_2, 0, none⟩)), (10, .int .i64 s3)]) (S' := St w0 Φ_51 [(b_2, .cells #[pv2_0, .int .i64 p2.Next] 52 (0, 0)), (b_1, .cells #[.string p1.Name, .int .i64 p1.Sal, pv1_0, pv1_1, pv1_2] 49 (0, 0))] [[pb0], ob v52, D45]) ⟨rfl, rfl, rfl, rfl, rfl, rfl, trivial⟩ (fun w1 hw => (hw.sel (js := [0, 0, 0]) rfl).selO (js := [0, 0]) rfl) ?_
   exact K (Φ_51, x32, v52, D45) ⟨h, h50, h51, ph3, ph4, ph1_0, ph1_1, ph1_2, ph2_0⟩
  replace h := ite_f h c5
  refine WT.skip <| WT.inBlock <| WT.region <| lq (q_move rfl) rfl <| lq (q_add rfl rfl) rfl <| lq (q_assign rfl) rfl <| WL.nil ?_
  refine WT.inLoop (WT.mono (l' := [(0, .pointer (some ⟨pb0, 0, none⟩)), (3, pv3), (4, pv4), (6, .pointer (some ⟨b_1, 0, none⟩)), (7, .pointer (some ⟨b_2, 0, none⟩)), (10, .int .i64 (IntKind.i64.wrap (s3 + 1)))]) (S' := St w0 Φ_31 [(b_2, .cells #[pv2_0, .int .i64 p2.Next] 52 (0, 0)), (b_1, .cells #[.string p1.Name, .int .i64 p1.Sal, pv1_0, pv1_1, pv1_2] 49 (0, 0))] [[pb0], ob u2, D25]) ⟨rfl, rfl, rfl, rfl, rfl, rfl, trivial⟩ (fun w1 hw => (hw.sel (js := [1, 1, 1]) rfl).selO (js := [0, 0]) rfl) ?_)
  exact ih2 (Φ_31, s2, u2, D25, IntKind.i64.wrap (s3 + 1)) ⟨h, k3, k4, ph3, ph4, ph1_0, ph1_1, ph1_2, ph2_0⟩
 replace h := ite_f h c4
 refine WT.exit rfl ?_
 refine WT.fin Tryz.func123 resOk.none (fun w1 hw => ?_)
 subst hb0
 cases h
 refine postG_of_St (js := [0, 0, 0]) hw rfl ⟨u2, D25, rfl, rfl, k3, k4⟩
theorem m_s_l11Of_ok {Φ : Hp} {w : World} (hΦ : In Φ w) (N : Nat) (p0 : TRule) (p1 : TStore) {pv0_0 : Value} {pG0_0 : List Nat} {pv0_1 : Value} {pG0_1 : List Nat} {pv0_2 : Value} {pG0_2 : List Nat} {pv1_0 : Value} {pG1_0 : List Nat} (ph0_0 : RSl RTPat 3 Φ pG0_0 pv0_0 p0.Pats) (ph0_1 : RSl RTCond 11 Φ pG0_1 pv0_1 p0.Conds) (ph0_2 : RSl RTAct 5 Φ pG0_2 pv0_2 p0.Acts) (ph1_0 : RSl RTItem 3 Φ pG1_0 pv1_0 p1.Items) {r : (List TMatch)} (h : m_s_l11Of N p0 p1 = some r) :
  Calls Tryz.prog 58 [.agg [.string p0.Name, .int .i64 p0.Sal, pv0_0, pv0_1, pv0_2].toArray, .agg [pv1_0, .int .i64 p1.Next].toArray].toArray w (PostG Φ w [] (fun Φ' Fs v => ∃ (sr_0_0 : Value) (Dr_0_0 : List Nat), v = sr_0_0 ∧ Fs = [ob sr_0_0, Dr_0_0] ∧ OSl OTMatch 63 3 Φ' Dr_0_0 sr_0_0 r)) := by
 refine enter Tryz.func58 rfl Tryz.ntmps58 rfl (St.start0 hΦ) ?_
 have pa0_0 : Old ⟨w, [], Φ⟩ pG0_0 := Old.mk hΦ ph0_0.kn (Dj.empty _)
 have pa0_1 : Old ⟨w, [], Φ⟩ pG0_1 := Old.mk hΦ ph0_1.kn (Dj.empty _)
 have pa0_2 : Old ⟨w, [], Φ⟩ pG0_2 := Old.mk hΦ ph0_2.kn (Dj.empty _)
 have pa1_0 : Old ⟨w, [], Φ⟩ pG1_0 := Old.mk hΦ ph1_0.kn (Dj.empty _)
 revert pa0_0 pa0_1 pa0_2 pa1_0
 generalize hb0 : (⟨w, [], Φ⟩ : Base) = w0
 intro pa0_0 pa0_1 pa0_2 pa1_0
 unfold m_s_l11Of at h
 refine WT.seq <| WT.region ?_
 refine ln (n_box (C := #[.string p0.Name, .int .i64 p0.Sal, pv0_0, pv0_1, pv0_2]) rfl rfl) rfl (fun b_1 => ?_)
 refine ln (n_box (C := #[pv1_0, .int .i64 p1.Next]) rfl rfl) rfl (fun b_2 => ?_)
 refine lq (q_assign rfl) rfl <| WL.nil <| WT.seq <| WT.region ?_
 have rc1 : RC OTMatch 3 Φ ([] : List (List Nat)) [] ([] : List TMatch) := RC.nil _ _ _
 refine le' (e_lit (vs := []) (C := #[]) OTMatch.lasts Sl_59 Zr_63 rfl rfl rfl rfl (fill_made MC_63_0 (fill_nil)) rfl rc1 rfl (by simpa using Kw.nil)) rfl (fun v1 Φ_1 D1 q1 => ?_)
 obtain ⟨fr1, h1⟩ := q1
 replace h1 : OSl OTMatch 63 3 Φ_1 [] v1 ([] : List TMatch) := by simpa [List.append_assoc] using h1
 replace ph0_0 := ph0_0.frame RTPat.lasts fr1 (Dj.empty _)
 replace ph0_1 := ph0_1.frame RTCond.lasts fr1 (Dj.empty _)
 replace ph0_2 := ph0_2.frame RTAct.lasts fr1 (Dj.empty _)
 replace ph1_0 := ph1_0.frame RTItem.lasts fr1 (Dj.empty _)
 refine WL.conv (S' := St w0 Φ_1 [(b_2, .cells #[pv1_0, .int .i64 p1.Next] 52 (0, 0)), (b_1, .cells #[.string p0.Name, .int .i64 p0.Sal, pv0_0, pv0_1, pv0_2] 49 (0, 0))] [[], ob v1]) (fun w1 hw => hw.addNil) ?_
 refine ln (n_alloc (C := #[.slice none 0 0]) Zr_59 rfl) rfl (fun b_3 => ?_)
 refine ls (s_store (i := 0) (vs := [v1]) (C' := [v1]) (O' := [(b_3, .cells #[v1] 59 (0, 0)), (b_2, .cells #[pv1_0, .int .i64 p1.Next] 52 (0, 0)), (b_1, .cells #[.string p0.Name, .int .i64 p0.Sal, pv0_0, pv0_1, pv0_2] 49 (0, 0))]) Sz_59 rfl rfl rfl (one_cells h1.one) rfl rfl ⟨h1.one, trivial⟩ rfl rfl) rfl <| WL.nil <| WT.seq <| WT.region <| lq (q_loadN Tn_49 rfl (fun w1 hw => hw.rgO (i := 2) rfl 0 5 [.string p0.Name, .int .i64 p0.Sal, pv0_0, pv0_1, pv0_2] rfl) rfl) rfl ?_
 refine lq (q_loadN Tn_52 rfl (fun w1 hw => hw.rgO (i := 1) rfl 0 2 [pv1_0, .int .i64 p1.Next] rfl) rfl) rfl ?_
 have rc2 : RC (RI .i64) 1 Φ_1 ([] : List (List Nat)) [] ([] : List Int) := RC.nil _ _ _
 refine le' (e_lit (vs := []) (C := #[]) RI.lasts Sl_41 Zr_3 rfl rfl rfl rfl (fill_made MC_3_0 (fill_nil)) rfl rc2 rfl (by simpa using Kw.nil)) rfl (fun v2 Φ_2 D2 q2 => ?_)
 obtain ⟨fr2, h2⟩ := q2
 replace h2 : OSl (RI .i64) 3 1 Φ_2 [] v2 ([] : List Int) := by simpa using h2
 replace ph0_0 := ph0_0.frame RTPat.lasts fr2 (Dj.empty _)
 replace ph0_1 := ph0_1.frame RTCond.lasts fr2 (Dj.empty _)
 replace ph0_2 := ph0_2.frame RTAct.lasts fr2 (Dj.empty _)
 replace ph1_0 := ph1_0.frame RTItem.lasts fr2 (Dj.empty _)
 replace h1 := h1.frame OTMatch.lasts fr2 (Dj.empty _) (Dj.empty _)
 have rc3 : RC RTBind 4 Φ_2 ([] : List (List Nat)) [] ([] : List TBind) := RC.nil _ _ _
 refine le' (e_lit (vs := []) (C := #[]) RTBind.lasts Sl_55 Zr_123 rfl rfl rfl rfl (fill_made MC_123_0 (fill_nil)) rfl rc3 rfl (by simpa using Kw.nil)) rfl (fun v3 Φ_3 D3 q3 => ?_)
 obtain ⟨fr3, h3⟩ := q3
 replace h3 : OSl RTBind 123 4 Φ_3 [] v3 ([] : List TBind) := by simpa using h3
 replace ph0_0 := ph0_0.frame RTPat.lasts fr3 (Dj.empty _)
 replace ph0_1 := ph0_1.frame RTCond.lasts fr3 (Dj.empty _)
 replace ph0_2 := ph0_2.frame RTAct.lasts fr3 (Dj.empty _)
 replace ph1_0 := ph1_0.frame RTItem.lasts fr3 (Dj.empty _)
 replace h1 := h1.frame OTMatch.lasts fr3 (Dj.empty _) (Dj.empty _)
 replace h2 := h2.frame RI.lasts fr3 (Dj.empty _) (Dj.empty _)
 refine WL.frz (js := [0]) (R := [(b_2, .cells #[pv1_0, .int .i64 p1.Next] 52 (0, 0)), (b_1, .cells #[.string p0.Name, .int .i64 p0.Sal, pv0_0, pv0_1, pv0_2] 49 (0, 0))]) rfl (fun Φ_4 fr4 k1 => ?_)
 replace ph0_0 := ph0_0.frame RTPat.lasts fr4 (Dj.empty _)
 replace ph0_1 := ph0_1.frame RTCond.lasts fr4 (Dj.empty _)
 replace ph0_2 := ph0_2.frame RTAct.lasts fr4 (Dj.empty _)
 replace ph1_0 := ph1_0.frame RTItem.lasts fr4 (Dj.empty _)
 replace h1 := h1.frame OTMatch.lasts fr4 (Dj.empty _) (Dj.empty _)
 replace h2 := h2.frame RI.lasts fr4 (Dj.empty _) (Dj.empty _)
 replace h3 := h3.frame RTBind.lasts fr4 (Dj.empty _) (Dj.empty _)
 obtain ⟨x1, hx1, h⟩ := bind_some h
 refine lc (k_call (js := [0, 3, 2]) (R := [ob v3, ob v2]) Fun_123 rfl rfl (fun w1 hw ap hl => m_s_l11Rows_ok N hw.fro ([] : List TMatch) p0 p1 ([] : List Int) ([] : List TBind) h1 k1 ph0_0 ph0_1 ph0_2 ph1_0 h2.rsl h3.rsl (ap.o pa0_0) (ap.o pa0_1) (ap.o pa0_2) (ap.o pa1_0) (Dj.app (ap.r (i := 1) rfl) (Dj.nil _)) (Dj.app (ap.r (i := 0) rfl) (Dj.nil _)) ap.nd hl hx1)) rfl (fun v4 Φ_5 F1 q4 => ?_)
 obtain ⟨ap1, fr5, v5, D4, rfl, rfl, h4, h5⟩ := q4
 refine WL.nil <| WT.seq <| WT.region <| lq (q_load1 T1_59 rfl (fun w1 hw => ((rg_cells h5).of_eq 0 1 rfl rfl : rg _ _ _ [v5]).rangeAt hw.fro)) rfl <| lq (q_assign rfl) rfl <| WL.nil ?_
 refine WT.ret Tryz.func58 (resOk.one rfl) (fun w1 hw => ?_)
 subst hb0
 cases h
 refine postG_of_St (js := [1, 1]) hw rfl ⟨v5, D4, rfl, rfl, h4⟩
theorem m_s_l1In_ok {Φ : Hp} {w : World} (hΦ : In Φ w) (N : Nat) (p0 : Int) (p1 : Int) (p2 : Int)   {r : Bool} (h : m_s_l1In N p0 p1 p2 = some r) :
  Calls Tryz.prog 85 [.int .i64 p0, .int .i64 p1, .int .i64 p2].toArray w (Post (.bool r) w) := by
 refine enter Tryz.func85 rfl Tryz.ntmps85 rfl (St.start0 hΦ) ?_
 unfold m_s_l1In at h
 refine WT.seq <| WT.region <| lq (q_assign rfl) rfl <| WL.nil <| WT.seq <| WT.region <| lq (q_move rfl) rfl <| lq (q_move rfl) rfl <| lq (q_geq rfl rfl) rfl <| lq (q_move rfl) rfl ?_
 obtain ⟨b1, hb_1, h⟩ := bind_some h
 refine WL.cutN 4 [(14, .bool b1), (6, .bool false)] ?_ (fun K => ?_)
 rotate_left
 ·refine WL.split (d := 10) rfl (fun c1 => ?_) (fun c1 => ?_)
  ·replace hb_1 := ite_t hb_1 c1
   refine WL.yes rfl rfl <| lq (q_move rfl) rfl <| WL.yes rfl rfl <| lq (q_move rfl) rfl <| WL.yes rfl rfl <| lq (q_leq rfl rfl) rfl <| WL.q (q_pick1 rfl rfl) rfl rfl rfl ?_
   cases hb_1
   exact WL.keep (by exact ⟨rfl, rfl, trivial⟩) K
  ·replace hb_1 := ite_f hb_1 c1
   refine WL.no rfl rfl rfl rfl <| WL.no rfl rfl rfl rfl <| WL.no rfl rfl rfl rfl <| WL.q (q_pick0 rfl rfl) rfl rfl rfl ?_
   cases hb_1
   exact WL.keep (by exact ⟨rfl, rfl, trivial⟩) K
 refine lq (q_assign rfl) rfl <| WL.nil ?_
 refine WT.ret Tryz.func85 (resOk.one rfl) (fun w1 hw => ?_)
 cases h
 exact post_of_St hw
theorem m_s_l1Letter_ok {Φ : Hp} {w : World} (hΦ : In Φ w) (N : Nat) (p0 : Int)   {r : Bool} (h : m_s_l1Letter N p0 = some r) :
  Calls Tryz.prog 150 [.int .u8 p0].toArray w (Post (.bool r) w) := by
 refine enter Tryz.func150 rfl Tryz.ntmps150 rfl (St.start0 hΦ) ?_
 unfold m_s_l1Letter at h
 refine WT.seq <| WT.region <| lq (q_assign rfl) rfl <| WL.nil <| WT.seq <| WT.region <| lq (q_move rfl) rfl <| lq (q_convI Ik_5 Ik_3 rfl) rfl ?_
 obtain ⟨x1, hx1, h⟩ := bind_some h
 refine lp (p_call Fun_85 rfl (fun w1 hw => m_s_l1In_ok hw.fro N (IntKind.i64.wrap p0) 97 122 hx1)) rfl <| lq (q_move rfl) rfl ?_
 obtain ⟨b1, hb_1, h⟩ := bind_some h
 refine WL.cutN 4 [(10, .bool b1), (0, .int .u8 p0), (2, .bool false)] ?_ (fun K => ?_)
 rotate_left
 ·refine WL.split (d := 6) rfl (fun c1 => ?_) (fun c1 => ?_)
  ·replace hb_1 := ite_t hb_1 c1
   refine WL.no rfl rfl rfl rfl <| WL.no rfl rfl rfl rfl <| WL.no rfl rfl rfl rfl <| WL.q (q_pick1 rfl rfl) rfl rfl rfl ?_
   cases hb_1
   exact WL.keep (by exact ⟨rfl, rfl, rfl, trivial⟩) K
  ·replace hb_1 := ite_f hb_1 c1
   refine WL.yes rfl rfl <| lq (q_move rfl) rfl <| WL.yes rfl rfl <| lq (q_convI Ik_5 Ik_3 rfl) rfl <| WL.yes rfl rfl ?_
   obtain ⟨x2, hx2, hb_1⟩ := bind_some hb_1
   refine lp (p_call Fun_85 rfl (fun w1 hw => m_s_l1In_ok hw.fro N (IntKind.i64.wrap p0) 48 57 hx2)) rfl <| WL.q (q_pick0 rfl rfl) rfl rfl rfl ?_
   cases hb_1
   exact WL.keep (by exact ⟨rfl, rfl, rfl, trivial⟩) K
 refine lq (q_move rfl) rfl ?_
 obtain ⟨b2, hb_2, h⟩ := bind_some h
 refine WL.cutN 3 [(14, .bool b2), (2, .bool false)] ?_ (fun K => ?_)
 rotate_left
 ·refine WL.split (d := 11) rfl (fun c2 => ?_) (fun c2 => ?_)
  ·replace hb_2 := ite_t hb_2 c2
   refine WL.no rfl rfl rfl rfl <| WL.no rfl rfl rfl rfl <| WL.q (q_pick1 rfl rfl) rfl rfl rfl ?_
   cases hb_2
   exact WL.keep (by exact ⟨rfl, rfl, trivial⟩) K
  ·replace hb_2 := ite_f hb_2 c2
   refine WL.yes rfl rfl <| lq (q_move rfl) rfl <| WL.yes rfl rfl <| lq (q_eql rfl rfl) rfl <| WL.q (q_pick0 rfl rfl) rfl rfl rfl ?_
   cases hb_2
   exact WL.keep (by exact ⟨rfl, rfl, trivial⟩) K
 refine lq (q_assign rfl) rfl <| WL.nil ?_
 refine WT.ret Tryz.func150 (resOk.one rfl) (fun w1 hw => ?_)
 cases h
 exact post_of_St hw
theorem m_s_NameOk_ok {Φ : Hp} {w : World} (hΦ : In Φ w) (N : Nat) (p0 : ByteArray)   {r : Bool} (h : m_s_NameOk N p0 = some r) :
  Calls Tryz.prog 84 [.string p0].toArray w (Post (.bool r) w) := by
 refine enter Tryz.func84 rfl Tryz.ntmps84 rfl (St.start0 hΦ) ?_
 generalize hb0 : (⟨w, [], Φ⟩ : Base) = w0
 unfold m_s_NameOk at h
 refine WT.seq <| WT.region <| lq (q_assign rfl) rfl <| WL.nil <| WT.seq <| WT.seq <| WT.region <| lq (q_assign rfl) rfl <| WL.nil <| WT.block <| WT.loop <| WT.mono (l' := [(0, .string p0), (3, .int .i64 0)]) (S' := St w0 Φ [] []) ⟨rfl, rfl, trivial⟩ (fun w1 hw => (hw.sel (js := []) rfl).selO (js := []) rfl) ?_
 refine loop_ind (σ := Int) (fun s => [(0, .string p0), (3, .int .i64 s)]) (fun s => St w0 Φ [] []) (fun m s => m_s_NameOk_l1 N p0 m s = some r) (fun s hm => none_ne (show (none : Option (Bool)) = some r from hm)) (fun n1 ih1 s hm => ?_) N (0) h
 revert hm; revert s; intro s1 hm
 have h : m_s_NameOk_l1 N p0 (n1 + 1) s1 = some r := hm
 show WT _ _ [(0, .string p0), (3, .int .i64 s1)] (St w0 Φ [] [])
 unfold m_s_NameOk_l1 at h
 refine WT.seq <| WT.seq <| WT.region <| lq (q_move rfl) rfl <| lq (q_move rfl) rfl <| lq (q_lenS Str_9 rfl rfl) rfl <| lq (q_lss rfl rfl) rfl <| WL.nil ?_
 refine WT.cond rfl (fun c1 => ?_) (fun c1 => ?_)
 ·replace h := ite_t h c1
  refine WT.skip <| WT.seq <| WT.block <| WT.seq <| WT.region <| lq (q_move rfl) rfl <| lq (q_move rfl) rfl ?_
  obtain ⟨y1, hy1, h⟩ := bind_some h
  refine lq (q_indexS Str_9 rfl rfl hy1) rfl ?_
  obtain ⟨x1, hx1, h⟩ := bind_some h
  refine lp (p_call Fun_150 rfl (fun w1 hw => m_s_l1Letter_ok hw.fro N (y1.toNat : Int) hx1)) rfl <| lq (q_not rfl) rfl <| lq (q_move rfl) rfl ?_
  obtain ⟨b1, hb_1, h⟩ := bind_some h
  refine WL.cutN 11 [(26, .bool b1), (0, .string p0), (3, .int .i64 s1)] ?_ (fun K => ?_)
  rotate_left
  ·refine WL.split (d := 15) rfl (fun c2 => ?_) (fun c2 => ?_)
   ·replace hb_1 := ite_t hb_1 c2
    refine WL.no rfl rfl rfl rfl <| WL.no rfl rfl rfl rfl <| WL.no rfl rfl rfl rfl <| WL.nox rfl rfl rfl rfl <| WL.nox rfl rfl rfl rfl <| WL.nox rfl rfl rfl rfl <| WL.nox rfl rfl rfl rfl <| WL.nox rfl rfl rfl rfl <| WL.nox rfl rfl rfl rfl <| WL.no rfl rfl rfl rfl <| WL.q (q_pick1 rfl rfl) rfl rfl rfl ?_
    cases hb_1
    exact WL.keep (by exact ⟨rfl, rfl, rfl, trivial⟩) K
   ·replace hb_1 := ite_f hb_1 c2
    refine WL.yes rfl rfl <| lq (q_move rfl) rfl <| WL.yes rfl rfl <| lq (q_eql rfl rfl) rfl <| WL.yes rfl rfl <| lq (q_move rfl) rfl ?_
    obtain ⟨b2, hb_2, hb_1⟩ := bind_some hb_1
    refine WL.cutN 7 [(25, .bool b2), (0, .string p0), (3, .int .i64 s1), (15, .bool false)] ?_ (fun K => ?_)
    rotate_left
    ·refine WL.split (d := 18) rfl (fun c3 => ?_) (fun c3 => ?_)
     ·replace hb_2 := ite_t hb_2 c3
      refine WL.yes rfl rfl <| lq (q_move rfl) rfl <| WL.yes rfl rfl <| lq (q_move rfl) rfl <| WL.yes rfl rfl ?_
      obtain ⟨y2, hy2, hb_2⟩ := bind_some hb_2
      refine lq (q_indexS Str_9 rfl rfl hy2) rfl <| WL.yes rfl rfl <| lq (q_convI Ik_5 Ik_3 rfl) rfl <| WL.yes rfl rfl ?_
      obtain ⟨x2, hx2, hb_2⟩ := bind_some hb_2
      refine lp (p_call Fun_85 rfl (fun w1 hw => m_s_l1In_ok hw.fro N (IntKind.i64.wrap (y2.toNat : Int)) 97 122 hx2)) rfl <| WL.yes rfl rfl <| lq (q_not rfl) rfl <| WL.yes rfl rfl <| WL.q (q_pick1 rfl rfl) rfl rfl rfl ?_
      cases hb_2
      exact WL.keep (by exact ⟨rfl, rfl, rfl, rfl, trivial⟩) K
     ·replace hb_2 := ite_f hb_2 c3
      refine WL.no rfl rfl rfl rfl <| WL.no rfl rfl rfl rfl <| WL.no rfl rfl rfl rfl <| WL.no rfl rfl rfl rfl <| WL.no rfl rfl rfl rfl <| WL.no rfl rfl rfl rfl <| WL.yes rfl rfl <| WL.q (q_pick0 rfl rfl) rfl rfl rfl ?_
      cases hb_2
      exact WL.keep (by exact ⟨rfl, rfl, rfl, rfl, trivial⟩) K
    refine WL.q (q_pick0 rfl rfl) rfl rfl rfl ?_
    cases hb_1
    exact WL.keep (by exact ⟨rfl, rfl, rfl, trivial⟩) K
  refine WL.nil ?_
  refine WT.cond rfl (fun c4 => ?_) (fun c4 => ?_)
  ·replace h := ite_t h c4
   refine WT.seq <| WT.region <| lq (q_assign rfl) rfl <| WL.nil ?_
   refine WT.ret Tryz.func84 (resOk.one rfl) (fun w1 hw => ?_)
   subst hb0
   cases h
   exact post_of_St hw
  replace h := ite_f h c4
  refine WT.skip <| WT.inBlock <| WT.region <| lq (q_move rfl) rfl <| lq (q_add rfl rfl) rfl <| lq (q_assign rfl) rfl <| WL.nil ?_
  refine WT.inLoop (WT.mono (l' := [(0, .string p0), (3, .int .i64 (IntKind.i64.wrap (s1 + 1)))]) (S' := St w0 Φ [] []) ⟨rfl, rfl, trivial⟩ (fun w1 hw => (hw.sel (js := []) rfl).selO (js := []) rfl) ?_)
  exact ih1 (IntKind.i64.wrap (s1 + 1)) h
 replace h := ite_f h c1
 refine WT.exit rfl <| WT.seq <| WT.region <| lq (q_move rfl) rfl <| lq (q_lenS Str_9 rfl rfl) rfl ?_
 obtain ⟨x3, hx3, h⟩ := bind_some h
 refine lp (p_call Fun_85 rfl (fun w1 hw => m_s_l1In_ok hw.fro N (p0.size : Int) 1 12 hx3)) rfl <| lq (q_assign rfl) rfl <| WL.nil ?_
 refine WT.ret Tryz.func84 (resOk.one rfl) (fun w1 hw => ?_)
 subst hb0
 cases h
 exact post_of_St hw
theorem m_s_l2Plain_ok {Φ : Hp} {w : World} (hΦ : In Φ w) (N : Nat) (p0 : ByteArray)   {r : Bool} (h : m_s_l2Plain N p0 = some r) :
  Calls Tryz.prog 243 [.string p0].toArray w (Post (.bool r) w) := by
 refine enter Tryz.func243 rfl Tryz.ntmps243 rfl (St.start0 hΦ) ?_
 generalize hb0 : (⟨w, [], Φ⟩ : Base) = w0
 unfold m_s_l2Plain at h
 refine WT.seq <| WT.region <| lq (q_assign rfl) rfl <| WL.nil <| WT.seq <| WT.seq <| WT.region <| lq (q_assign rfl) rfl <| WL.nil <| WT.block <| WT.loop <| WT.mono (l' := [(0, .string p0), (3, .int .i64 0)]) (S' := St w0 Φ [] []) ⟨rfl, rfl, trivial⟩ (fun w1 hw => (hw.sel (js := []) rfl).selO (js := []) rfl) ?_
 refine loop_ind (σ := Int) (fun s => [(0, .string p0), (3, .int .i64 s)]) (fun s => St w0 Φ [] []) (fun m s => m_s_l2Plain_l1 N p0 m s = some r) (fun s hm => none_ne (show (none : Option (Bool)) = some r from hm)) (fun n1 ih1 s hm => ?_) N (0) h
 revert hm; revert s; intro s1 hm
 have h : m_s_l2Plain_l1 N p0 (n1 + 1) s1 = some r := hm
 show WT _ _ [(0, .string p0), (3, .int .i64 s1)] (St w0 Φ [] [])
 unfold m_s_l2Plain_l1 at h
 refine WT.seq <| WT.seq <| WT.region <| lq (q_move rfl) rfl <| lq (q_move rfl) rfl <| lq (q_lenS Str_9 rfl rfl) rfl <| lq (q_lss rfl rfl) rfl <| WL.nil ?_
 refine WT.cond rfl (fun c1 => ?_) (fun c1 => ?_)
 ·replace h := ite_t h c1
  refine WT.skip <| WT.seq <| WT.block <| WT.seq <| WT.region <| lq (q_move rfl) rfl <| lq (q_move rfl) rfl ?_
  obtain ⟨y1, hy1, h⟩ := bind_some h
  refine lq (q_indexS Str_9 rfl rfl hy1) rfl ?_
  obtain ⟨x1, hx1, h⟩ := bind_some h
  refine lp (p_call Fun_150 rfl (fun w1 hw => m_s_l1Letter_ok hw.fro N (y1.toNat : Int) hx1)) rfl <| lq (q_not rfl) rfl <| WL.nil ?_
  refine WT.cond rfl (fun c2 => ?_) (fun c2 => ?_)
  ·replace h := ite_t h c2
   refine WT.seq <| WT.region <| lq (q_assign rfl) rfl <| WL.nil ?_
   refine WT.ret Tryz.func243 (resOk.one rfl) (fun w1 hw => ?_)
   subst hb0
   cases h
   exact post_of_St hw
  replace h := ite_f h c2
  refine WT.skip <| WT.inBlock <| WT.region <| lq (q_move rfl) rfl <| lq (q_add rfl rfl) rfl <| lq (q_assign rfl) rfl <| WL.nil ?_
  refine WT.inLoop (WT.mono (l' := [(0, .string p0), (3, .int .i64 (IntKind.i64.wrap (s1 + 1)))]) (S' := St w0 Φ [] []) ⟨rfl, rfl, trivial⟩ (fun w1 hw => (hw.sel (js := []) rfl).selO (js := []) rfl) ?_)
  exact ih1 (IntKind.i64.wrap (s1 + 1)) h
 replace h := ite_f h c1
 refine WT.exit rfl <| WT.seq <| WT.region <| lq (q_move rfl) rfl <| lq (q_lenS Str_9 rfl rfl) rfl <| lq (q_leq rfl rfl) rfl <| lq (q_assign rfl) rfl <| WL.nil ?_
 refine WT.ret Tryz.func243 (resOk.one rfl) (fun w1 hw => ?_)
 subst hb0
 cases h
 exact post_of_St hw
theorem m_s_ValOk_ok {Φ : Hp} {w : World} (hΦ : In Φ w) (N : Nat) (p0 : TVal)   {r : Bool} (h : m_s_ValOk N p0 = some r) :
  Calls Tryz.prog 223 [.agg [.int .i64 p0.K, .int .i64 p0.N, .string p0.S].toArray].toArray w (Post (.bool r) w) := by
 refine enter Tryz.func223 rfl Tryz.ntmps223 rfl (St.start0 hΦ) ?_
 unfold m_s_ValOk at h
 refine WT.seq <| WT.region ?_
 refine ln (n_box (C := #[.int .i64 p0.K, .int .i64 p0.N, .string p0.S]) rfl rfl) rfl (fun b_1 => ?_)
 refine lq (q_assign rfl) rfl <| WL.nil <| WT.seq <| WT.seq <| WT.region <| lq (q_fieldAddr Fld_121_0 rfl) rfl <| lq (q_load1 T1_3 rfl (fun w1 hw => hw.rgO (i := 0) rfl 0 1 [.int .i64 p0.K] rfl)) rfl <| WL.nil <| WT.block <| WT.seq <| WT.region <| lq (q_eql rfl rfl) rfl <| lq (q_assign rfl) rfl <| WL.nil ?_
 refine WT.cond rfl (fun c1 => ?_) (fun c1 => ?_)
 ·replace h := ite_t h c1
  refine WT.seq <| WT.region <| lq (q_fieldAddr Fld_121_1 rfl) rfl <| lq (q_load1 T1_3 rfl (fun w1 hw => hw.rgO (i := 0) rfl 1 1 [.int .i64 p0.N] rfl)) rfl ?_
  obtain ⟨x1, hx1, h⟩ := bind_some h
  refine lp (p_call Fun_85 rfl (fun w1 hw => m_s_l1In_ok hw.fro N p0.N (-1000000000) 1000000000 hx1)) rfl <| lq (q_move rfl) rfl ?_
  obtain ⟨b1, hb_1, h⟩ := bind_some h
  refine WL.cutN 4 [(14, .bool b1), (2, .bool false)] ?_ (fun K => ?_)
  rotate_left
  ·refine WL.split (d := 10) rfl (fun c2 => ?_) (fun c2 => ?_)
   ·replace hb_1 := ite_t hb_1 c2
    refine WL.yes rfl rfl <| lq (q_fieldAddr Fld_121_2 rfl) rfl <| WL.yes rfl rfl <| lq (q_load1 T1_9 rfl (fun w1 hw => hw.rgO (i := 0) rfl 2 1 [.string p0.S] rfl)) rfl <| WL.yes rfl rfl <| lq (q_seq rfl rfl) rfl <| WL.q (q_pick1 rfl rfl) rfl rfl rfl ?_
    cases hb_1
    exact WL.keep (by exact ⟨rfl, rfl, trivial⟩) K
   ·replace hb_1 := ite_f hb_1 c2
    refine WL.no rfl rfl rfl rfl <| WL.no rfl rfl rfl rfl <| WL.no rfl rfl rfl rfl <| WL.q (q_pick0 rfl rfl) rfl rfl rfl ?_
    cases hb_1
    exact WL.keep (by exact ⟨rfl, rfl, trivial⟩) K
  refine lq (q_assign rfl) rfl <| WL.nil ?_
  refine WT.ret Tryz.func223 (resOk.one rfl) (fun w1 hw => ?_)
  cases h
  exact post_of_St hw
 replace h := ite_f h c1
 refine WT.seq <| WT.region <| lq (q_eql rfl rfl) rfl <| lq (q_assign rfl) rfl <| WL.nil ?_
 refine WT.cond rfl (fun c3 => ?_) (fun c3 => ?_)
 ·replace h := ite_t h c3
  refine WT.seq <| WT.region <| lq (q_fieldAddr Fld_121_2 rfl) rfl <| lq (q_load1 T1_9 rfl (fun w1 hw => hw.rgO (i := 0) rfl 2 1 [.string p0.S] rfl)) rfl ?_
  obtain ⟨x2, hx2, h⟩ := bind_some h
  refine lp (p_call Fun_243 rfl (fun w1 hw => m_s_l2Plain_ok hw.fro N p0.S hx2)) rfl <| lq (q_move rfl) rfl ?_
  obtain ⟨b2, hb_2, h⟩ := bind_some h
  refine WL.cutN 4 [(24, .bool b2), (2, .bool false)] ?_ (fun K => ?_)
  rotate_left
  ·refine WL.split (d := 20) rfl (fun c4 => ?_) (fun c4 => ?_)
   ·replace hb_2 := ite_t hb_2 c4
    refine WL.yes rfl rfl <| lq (q_fieldAddr Fld_121_1 rfl) rfl <| WL.yes rfl rfl <| lq (q_load1 T1_3 rfl (fun w1 hw => hw.rgO (i := 0) rfl 1 1 [.int .i64 p0.N] rfl)) rfl <| WL.yes rfl rfl <| lq (q_eql rfl rfl) rfl <| WL.q (q_pick1 rfl rfl) rfl rfl rfl ?_
    cases hb_2
    exact WL.keep (by exact ⟨rfl, rfl, trivial⟩) K
   ·replace hb_2 := ite_f hb_2 c4
    refine WL.no rfl rfl rfl rfl <| WL.no rfl rfl rfl rfl <| WL.no rfl rfl rfl rfl <| WL.q (q_pick0 rfl rfl) rfl rfl rfl ?_
    cases hb_2
    exact WL.keep (by exact ⟨rfl, rfl, trivial⟩) K
  refine lq (q_assign rfl) rfl <| WL.nil ?_
  refine WT.ret Tryz.func223 (resOk.one rfl) (fun w1 hw => ?_)
  cases h
  exact post_of_St hw
 replace h := ite_f h c3
 refine WT.skip <| WT.inBlock <| WT.seq <| WT.region <| lq (q_assign rfl) rfl <| WL.nil ?_
 refine WT.ret Tryz.func223 (resOk.one rfl) (fun w1 hw => ?_)
 cases h
 exact post_of_St hw
theorem m_s_l5Large_ok {Φ : Hp} {w : World} (hΦ : In Φ w) (N : Nat) (p0 : Int)   {r : Bool} (h : m_s_l5Large N p0 = some r) :
  Calls Tryz.prog 254 [.int .u8 p0].toArray w (Post (.bool r) w) := by
 refine enter Tryz.func254 rfl Tryz.ntmps254 rfl (St.start0 hΦ) ?_
 unfold m_s_l5Large at h
 refine WT.seq <| WT.region <| lq (q_assign rfl) rfl <| WL.nil <| WT.seq <| WT.region <| lq (q_move rfl) rfl <| lq (q_convI Ik_5 Ik_3 rfl) rfl ?_
 obtain ⟨x1, hx1, h⟩ := bind_some h
 refine lp (p_call Fun_85 rfl (fun w1 hw => m_s_l1In_ok hw.fro N (IntKind.i64.wrap p0) 65 90 hx1)) rfl <| lq (q_assign rfl) rfl <| WL.nil ?_
 refine WT.ret Tryz.func254 (resOk.one rfl) (fun w1 hw => ?_)
 cases h
 exact post_of_St hw
theorem m_s_l5VarOk_ok {Φ : Hp} {w : World} (hΦ : In Φ w) (N : Nat) (p0 : ByteArray)   {r : Bool} (h : m_s_l5VarOk N p0 = some r) :
  Calls Tryz.prog 241 [.string p0].toArray w (Post (.bool r) w) := by
 refine enter Tryz.func241 rfl Tryz.ntmps241 rfl (St.start0 hΦ) ?_
 generalize hb0 : (⟨w, [], Φ⟩ : Base) = w0
 unfold m_s_l5VarOk at h
 refine WT.seq <| WT.region <| lq (q_assign rfl) rfl <| WL.nil <| WT.seq <| WT.seq <| WT.region <| lq (q_assign rfl) rfl <| WL.nil <| WT.block <| WT.loop <| WT.mono (l' := [(0, .string p0), (3, .int .i64 0)]) (S' := St w0 Φ [] []) ⟨rfl, rfl, trivial⟩ (fun w1 hw => (hw.sel (js := []) rfl).selO (js := []) rfl) ?_
 refine loop_ind (σ := Int) (fun s => [(0, .string p0), (3, .int .i64 s)]) (fun s => St w0 Φ [] []) (fun m s => m_s_l5VarOk_l1 N p0 m s = some r) (fun s hm => none_ne (show (none : Option (Bool)) = some r from hm)) (fun n1 ih1 s hm => ?_) N (0) h
 revert hm; revert s; intro s1 hm
 have h : m_s_l5VarOk_l1 N p0 (n1 + 1) s1 = some r := hm
 show WT _ _ [(0, .string p0), (3, .int .i64 s1)] (St w0 Φ [] [])
 unfold m_s_l5VarOk_l1 at h
 refine WT.seq <| WT.seq <| WT.region <| lq (q_move rfl) rfl <| lq (q_move rfl) rfl <| lq (q_lenS Str_9 rfl rfl) rfl <| lq (q_lss rfl rfl) rfl <| WL.nil ?_
 refine WT.cond rfl (fun c1 => ?_) (fun c1 => ?_)
 ·replace h := ite_t h c1
  refine WT.skip <| WT.seq <| WT.block <| WT.seq <| WT.region <| lq (q_move rfl) rfl <| lq (q_move rfl) rfl ?_
  obtain ⟨y1, hy1, h⟩ := bind_some h
  refine lq (q_indexS Str_9 rfl rfl hy1) rfl ?_
  obtain ⟨x1, hx1, h⟩ := bind_some h
  refine lp (p_call Fun_254 rfl (fun w1 hw => m_s_l5Large_ok hw.fro N (y1.toNat : Int) hx1)) rfl <| lq (q_not rfl) rfl <| lq (q_move rfl) rfl ?_
  obtain ⟨b1, hb_1, h⟩ := bind_some h
  refine WL.cutN 10 [(25, .bool b1), (0, .string p0), (3, .int .i64 s1)] ?_ (fun K => ?_)
  rotate_left
  ·refine WL.split (d := 15) rfl (fun c2 => ?_) (fun c2 => ?_)
   ·replace hb_1 := ite_t hb_1 c2
    refine WL.yes rfl rfl <| lq (q_move rfl) rfl <| WL.yes rfl rfl <| lq (q_eql rfl rfl) rfl <| WL.yes rfl rfl <| lq (q_move rfl) rfl ?_
    obtain ⟨b2, hb_2, hb_1⟩ := bind_some hb_1
    refine WL.cutN 6 [(24, .bool b2), (0, .string p0), (3, .int .i64 s1), (15, .bool true)] ?_ (fun K => ?_)
    rotate_left
    ·refine WL.split (d := 18) rfl (fun c3 => ?_) (fun c3 => ?_)
     ·replace hb_2 := ite_t hb_2 c3
      refine WL.no rfl rfl rfl rfl <| WL.no rfl rfl rfl rfl <| WL.no rfl rfl rfl rfl <| WL.no rfl rfl rfl rfl <| WL.no rfl rfl rfl rfl <| WL.yes rfl rfl <| WL.q (q_pick1 rfl rfl) rfl rfl rfl ?_
      cases hb_2
      exact WL.keep (by exact ⟨rfl, rfl, rfl, rfl, trivial⟩) K
     ·replace hb_2 := ite_f hb_2 c3
      refine WL.yes rfl rfl <| lq (q_move rfl) rfl <| WL.yes rfl rfl <| lq (q_move rfl) rfl <| WL.yes rfl rfl ?_
      obtain ⟨y2, hy2, hb_2⟩ := bind_some hb_2
      refine lq (q_indexS Str_9 rfl rfl hy2) rfl <| WL.yes rfl rfl ?_
      obtain ⟨x2, hx2, hb_2⟩ := bind_some hb_2
      refine lp (p_call Fun_150 rfl (fun w1 hw => m_s_l1Letter_ok hw.fro N (y2.toNat : Int) hx2)) rfl <| WL.yes rfl rfl <| lq (q_not rfl) rfl <| WL.yes rfl rfl <| WL.q (q_pick0 rfl rfl) rfl rfl rfl ?_
      cases hb_2
      exact WL.keep (by exact ⟨rfl, rfl, rfl, rfl, trivial⟩) K
    refine WL.q (q_pick1 rfl rfl) rfl rfl rfl ?_
    cases hb_1
    exact WL.keep (by exact ⟨rfl, rfl, rfl, trivial⟩) K
   ·replace hb_1 := ite_f hb_1 c2
    refine WL.no rfl rfl rfl rfl <| WL.no rfl rfl rfl rfl <| WL.no rfl rfl rfl rfl <| WL.nox rfl rfl rfl rfl <| WL.nox rfl rfl rfl rfl <| WL.nox rfl rfl rfl rfl <| WL.nox rfl rfl rfl rfl <| WL.nox rfl rfl rfl rfl <| WL.no rfl rfl rfl rfl <| WL.q (q_pick0 rfl rfl) rfl rfl rfl ?_
    cases hb_1
    exact WL.keep (by exact ⟨rfl, rfl, rfl, trivial⟩) K
  refine WL.nil ?_
  refine WT.cond rfl (fun c4 => ?_) (fun c4 => ?_)
  ·replace h := ite_t h c4
   refine WT.seq <| WT.region <| lq (q_assign rfl) rfl <| WL.nil ?_
   refine WT.ret Tryz.func241 (resOk.one rfl) (fun w1 hw => ?_)
   subst hb0
   cases h
   exact post_of_St hw
  replace h := ite_f h c4
  refine WT.skip <| WT.inBlock <| WT.region <| lq (q_move rfl) rfl <| lq (q_add rfl rfl) rfl <| lq (q_assign rfl) rfl <| WL.nil ?_
  refine WT.inLoop (WT.mono (l' := [(0, .string p0), (3, .int .i64 (IntKind.i64.wrap (s1 + 1)))]) (S' := St w0 Φ [] []) ⟨rfl, rfl, trivial⟩ (fun w1 hw => (hw.sel (js := []) rfl).selO (js := []) rfl) ?_)
  exact ih1 (IntKind.i64.wrap (s1 + 1)) h
 replace h := ite_f h c1
 refine WT.exit rfl <| WT.seq <| WT.region <| lq (q_move rfl) rfl <| lq (q_lenS Str_9 rfl rfl) rfl ?_
 obtain ⟨x3, hx3, h⟩ := bind_some h
 refine lp (p_call Fun_85 rfl (fun w1 hw => m_s_l1In_ok hw.fro N (p0.size : Int) 1 12 hx3)) rfl <| lq (q_assign rfl) rfl <| WL.nil ?_
 refine WT.ret Tryz.func241 (resOk.one rfl) (fun w1 hw => ?_)
 subst hb0
 cases h
 exact post_of_St hw
theorem m_s_ArgOk_ok {Φ : Hp} {w : World} (hΦ : In Φ w) (N : Nat) (p0 : TArg)   {r : Bool} (h : m_s_ArgOk N p0 = some r) :
  Calls Tryz.prog 221 [.agg [.int .i64 p0.K, .string p0.S, .int .i64 p0.V.K, .int .i64 p0.V.N, .string p0.V.S].toArray].toArray w (Post (.bool r) w) := by
 refine enter Tryz.func221 rfl Tryz.ntmps221 rfl (St.start0 hΦ) ?_
 unfold m_s_ArgOk at h
 refine WT.seq <| WT.region ?_
 refine ln (n_box (C := #[.int .i64 p0.K, .string p0.S, .int .i64 p0.V.K, .int .i64 p0.V.N, .string p0.V.S]) rfl rfl) rfl (fun b_1 => ?_)
 refine lq (q_assign rfl) rfl <| WL.nil <| WT.seq <| WT.region <| lq (q_fieldAddr Fld_126_2 rfl) rfl <| lq (q_loadN Tn_121 rfl (fun w1 hw => hw.rgO (i := 0) rfl 2 3 [.int .i64 p0.V.K, .int .i64 p0.V.N, .string p0.V.S] rfl) rfl) rfl <| lq (q_build (vs := []) (C := #[.int .i64 0, .int .i64 0, .string (⟨#[]⟩ : ByteArray)]) Pl_121 Zr_121 rfl (fill_nil)) rfl <| lq (q_eqA EqT_121 rfl rfl rfl (r := eqT_TVal p0.V (⟨0, 0, (⟨#[]⟩ : ByteArray)⟩ : TVal)) rfl) rfl ?_
 refine lq (q_assign rfl) rfl <| WL.nil <| WT.seq <| WT.seq <| WT.region <| lq (q_fieldAddr Fld_126_0 rfl) rfl <| lq (q_load1 T1_3 rfl (fun w1 hw => hw.rgO (i := 0) rfl 0 1 [.int .i64 p0.K] rfl)) rfl <| WL.nil <| WT.block <| WT.seq <| WT.region <| lq (q_eql rfl rfl) rfl <| lq (q_assign rfl) rfl <| WL.nil ?_
 refine WT.cond rfl (fun c1 => ?_) (fun c1 => ?_)
 ·replace h := ite_t h c1
  refine WT.seq <| WT.region <| lq (q_fieldAddr Fld_126_1 rfl) rfl <| lq (q_load1 T1_9 rfl (fun w1 hw => hw.rgO (i := 0) rfl 1 1 [.string p0.S] rfl)) rfl ?_
  obtain ⟨x1, hx1, h⟩ := bind_some h
  refine lp (p_call Fun_241 rfl (fun w1 hw => m_s_l5VarOk_ok hw.fro N p0.S hx1)) rfl <| lq (q_move rfl) rfl ?_
  obtain ⟨b1, hb_1, h⟩ := bind_some h
  refine WL.cutN 2 [(17, .bool b1), (2, .bool false)] ?_ (fun K => ?_)
  rotate_left
  ·refine WL.split (d := 15) rfl (fun c2 => ?_) (fun c2 => ?_)
   ·replace hb_1 := ite_t hb_1 c2
    refine WL.yes rfl rfl <| lq (q_move rfl) rfl <| WL.q (q_pick1 rfl rfl) rfl rfl rfl ?_
    cases hb_1
    exact WL.keep (by exact ⟨rfl, rfl, trivial⟩) K
   ·replace hb_1 := ite_f hb_1 c2
    refine WL.no rfl rfl rfl rfl <| WL.q (q_pick0 rfl rfl) rfl rfl rfl ?_
    cases hb_1
    exact WL.keep (by exact ⟨rfl, rfl, trivial⟩) K
  refine lq (q_assign rfl) rfl <| WL.nil ?_
  refine WT.ret Tryz.func221 (resOk.one rfl) (fun w1 hw => ?_)
  cases h
  exact post_of_St hw
 replace h := ite_f h c1
 refine WT.seq <| WT.region <| lq (q_eql rfl rfl) rfl <| lq (q_assign rfl) rfl <| WL.nil ?_
 refine WT.cond rfl (fun c3 => ?_) (fun c3 => ?_)
 ·replace h := ite_t h c3
  refine WT.seq <| WT.region <| lq (q_fieldAddr Fld_126_2 rfl) rfl <| lq (q_loadN Tn_121 rfl (fun w1 hw => hw.rgO (i := 0) rfl 2 3 [.int .i64 p0.V.K, .int .i64 p0.V.N, .string p0.V.S] rfl) rfl) rfl ?_
  obtain ⟨x2, hx2, h⟩ := bind_some h
  refine lp (p_call Fun_223 rfl (fun w1 hw => m_s_ValOk_ok hw.fro N p0.V hx2)) rfl <| lq (q_move rfl) rfl ?_
  obtain ⟨b2, hb_2, h⟩ := bind_some h
  refine WL.cutN 4 [(27, .bool b2), (2, .bool false)] ?_ (fun K => ?_)
  rotate_left
  ·refine WL.split (d := 23) rfl (fun c4 => ?_) (fun c4 => ?_)
   ·replace hb_2 := ite_t hb_2 c4
    refine WL.yes rfl rfl <| lq (q_fieldAddr Fld_126_1 rfl) rfl <| WL.yes rfl rfl <| lq (q_load1 T1_9 rfl (fun w1 hw => hw.rgO (i := 0) rfl 1 1 [.string p0.S] rfl)) rfl <| WL.yes rfl rfl <| lq (q_seq rfl rfl) rfl <| WL.q (q_pick1 rfl rfl) rfl rfl rfl ?_
    cases hb_2
    exact WL.keep (by exact ⟨rfl, rfl, trivial⟩) K
   ·replace hb_2 := ite_f hb_2 c4
    refine WL.no rfl rfl rfl rfl <| WL.no rfl rfl rfl rfl <| WL.no rfl rfl rfl rfl <| WL.q (q_pick0 rfl rfl) rfl rfl rfl ?_
    cases hb_2
    exact WL.keep (by exact ⟨rfl, rfl, trivial⟩) K
  refine lq (q_assign rfl) rfl <| WL.nil ?_
  refine WT.ret Tryz.func221 (resOk.one rfl) (fun w1 hw => ?_)
  cases h
  exact post_of_St hw
 replace h := ite_f h c3
 refine WT.seq <| WT.region <| lq (q_eql rfl rfl) rfl <| lq (q_assign rfl) rfl <| WL.nil ?_
 refine WT.cond rfl (fun c5 => ?_) (fun c5 => ?_)
 ·replace h := ite_t h c5
  refine WT.seq <| WT.region <| lq (q_fieldAddr Fld_126_1 rfl) rfl <| lq (q_load1 T1_9 rfl (fun w1 hw => hw.rgO (i := 0) rfl 1 1 [.string p0.S] rfl)) rfl <| lq (q_seq rfl rfl) rfl <| lq (q_move rfl) rfl ?_
  obtain ⟨b3, hb_3, h⟩ := bind_some h
  refine WL.cutN 2 [(35, .bool b3), (2, .bool false)] ?_ (fun K => ?_)
  rotate_left
  ·refine WL.split (d := 33) rfl (fun c6 => ?_) (fun c6 => ?_)
   ·replace hb_3 := ite_t hb_3 c6
    refine WL.yes rfl rfl <| lq (q_move rfl) rfl <| WL.q (q_pick1 rfl rfl) rfl rfl rfl ?_
    cases hb_3
    exact WL.keep (by exact ⟨rfl, rfl, trivial⟩) K
   ·replace hb_3 := ite_f hb_3 c6
    refine WL.no rfl rfl rfl rfl <| WL.q (q_pick0 rfl rfl) rfl rfl rfl ?_
    cases hb_3
    exact WL.keep (by exact ⟨rfl, rfl, trivial⟩) K
  refine lq (q_assign rfl) rfl <| WL.nil ?_
  refine WT.ret Tryz.func221 (resOk.one rfl) (fun w1 hw => ?_)
  cases h
  exact post_of_St hw
 replace h := ite_f h c5
 refine WT.skip <| WT.inBlock <| WT.seq <| WT.region <| lq (q_assign rfl) rfl <| WL.nil ?_
 refine WT.ret Tryz.func221 (resOk.one rfl) (fun w1 hw => ?_)
 cases h
 exact post_of_St hw
theorem m_s_PatOk_ok {Φ : Hp} {w : World} (hΦ : In Φ w) (N : Nat) (p0 : TPat) {pv0_0 : Value} {pG0_0 : List Nat} (ph0_0 : RSl RTArg 5 Φ pG0_0 pv0_0 p0.Args) {r : Bool} (h : m_s_PatOk N p0 = some r) :
  Calls Tryz.prog 191 [.agg [.string p0.Kind, pv0_0, .bool p0.Not].toArray].toArray w (Post (.bool r) w) := by
 refine enter Tryz.func191 rfl Tryz.ntmps191 rfl (St.start0 hΦ) ?_
 generalize hb0 : (⟨w, [], Φ⟩ : Base) = w0
 unfold m_s_PatOk at h
 refine WT.seq <| WT.region ?_
 refine ln (n_box (C := #[.string p0.Kind, pv0_0, .bool p0.Not]) rfl rfl) rfl (fun b_1 => ?_)
 refine lq (q_assign rfl) rfl <| WL.nil <| WT.seq <| WT.seq <| WT.region <| lq (q_assign rfl) rfl <| WL.nil <| WT.block <| WT.loop <| WT.mono (l' := [(1, .pointer (some ⟨b_1, 0, none⟩)), (3, .int .i64 0)]) (S' := St w0 Φ [(b_1, .cells #[.string p0.Kind, pv0_0, .bool p0.Not] 114 (0, 0))] []) ⟨rfl, rfl, trivial⟩ (fun w1 hw => (hw.sel (js := []) rfl).selO (js := [0]) rfl) ?_
 refine loop_ind (σ := Int) (fun s => [(1, .pointer (some ⟨b_1, 0, none⟩)), (3, .int .i64 s)]) (fun s => St w0 Φ [(b_1, .cells #[.string p0.Kind, pv0_0, .bool p0.Not] 114 (0, 0))] []) (fun m s => m_s_PatOk_l1 N p0 m s = some r) (fun s hm => none_ne (show (none : Option (Bool)) = some r from hm)) (fun n1 ih1 s hm => ?_) N (0) h
 revert hm; revert s; intro s1 hm
 have h : m_s_PatOk_l1 N p0 (n1 + 1) s1 = some r := hm
 show WT _ _ [(1, .pointer (some ⟨b_1, 0, none⟩)), (3, .int .i64 s1)] (St w0 Φ [(b_1, .cells #[.string p0.Kind, pv0_0, .bool p0.Not] 114 (0, 0))] [])
 unfold m_s_PatOk_l1 at h
 refine WT.seq <| WT.seq <| WT.region <| lq (q_move rfl) rfl <| lq (q_fieldAddr Fld_114_1 rfl) rfl <| lq (q_load1 T1_112 rfl (fun w1 hw => hw.rgO (i := 0) rfl 1 1 [pv0_0] rfl)) rfl <| lq (q_lenR Sl_112 rfl rfl ph0_0) rfl <| lq (q_lss rfl rfl) rfl <| WL.nil ?_
 refine WT.cond rfl (fun c1 => ?_) (fun c1 => ?_)
 ·replace h := ite_t h c1
  refine WT.skip <| WT.seq <| WT.block <| WT.seq <| WT.region <| lq (q_fieldAddr Fld_114_1 rfl) rfl <| lq (q_load1 T1_112 rfl (fun w1 hw => hw.rgO (i := 0) rfl 1 1 [pv0_0] rfl)) rfl <| lq (q_move rfl) rfl ?_
  obtain ⟨x1, hx1, h⟩ := bind_some h
  obtain ⟨cs1, F1, -, g1, hb1, hs1, r1⟩ := ph0_0.el (idx_some hx1).2.2
  obtain ⟨rfl, -⟩ := r1
  refine lq (q_indexAddr Sl_112 rfl rfl ph0_0 hx1) rfl <| lq (q_loadN Tn_126 rfl (fun w1 hw => (g1.of_eq 0 5 rfl rfl : rg _ _ _ [.int .i64 x1.K, .string x1.S, .int .i64 x1.V.K, .int .i64 x1.V.N, .string x1.V.S]).rangeAt hw.fro) rfl) rfl ?_
  obtain ⟨x2, hx2, h⟩ := bind_some h
  refine lp (p_call Fun_221 rfl (fun w1 hw => m_s_ArgOk_ok hw.fro N x1 hx2)) rfl <| lq (q_not rfl) rfl <| WL.nil ?_
  refine WT.cond rfl (fun c2 => ?_) (fun c2 => ?_)
  ·replace h := ite_t h c2
   refine WT.seq <| WT.region <| lq (q_assign rfl) rfl <| WL.nil ?_
   refine WT.ret Tryz.func191 (resOk.one rfl) (fun w1 hw => ?_)
   subst hb0
   cases h
   exact post_of_St hw
  replace h := ite_f h c2
  refine WT.skip <| WT.inBlock <| WT.region <| lq (q_move rfl) rfl <| lq (q_add rfl rfl) rfl <| lq (q_assign rfl) rfl <| WL.nil ?_
  refine WT.inLoop (WT.mono (l' := [(1, .pointer (some ⟨b_1, 0, none⟩)), (3, .int .i64 (IntKind.i64.wrap (s1 + 1)))]) (S' := St w0 Φ [(b_1, .cells #[.string p0.Kind, pv0_0, .bool p0.Not] 114 (0, 0))] []) ⟨rfl, rfl, trivial⟩ (fun w1 hw => (hw.sel (js := []) rfl).selO (js := [0]) rfl) ?_)
  exact ih1 (IntKind.i64.wrap (s1 + 1)) h
 replace h := ite_f h c1
 refine WT.exit rfl <| WT.seq <| WT.region <| lq (q_fieldAddr Fld_114_0 rfl) rfl <| lq (q_load1 T1_9 rfl (fun w1 hw => hw.rgO (i := 0) rfl 0 1 [.string p0.Kind] rfl)) rfl ?_
 obtain ⟨x3, hx3, h⟩ := bind_some h
 refine lp (p_call Fun_84 rfl (fun w1 hw => m_s_NameOk_ok hw.fro N p0.Kind hx3)) rfl <| lq (q_move rfl) rfl ?_
 obtain ⟨b1, hb_1, h⟩ := bind_some h
 refine WL.cutN 5 [(26, .bool b1)] ?_ (fun K => ?_)
 rotate_left
 ·refine WL.split (d := 21) rfl (fun c3 => ?_) (fun c3 => ?_)
  ·replace hb_1 := ite_t hb_1 c3
   refine WL.yes rfl rfl <| lq (q_fieldAddr Fld_114_1 rfl) rfl <| WL.yes rfl rfl <| lq (q_load1 T1_112 rfl (fun w1 hw => hw.rgO (i := 0) rfl 1 1 [pv0_0] rfl)) rfl <| WL.yes rfl rfl <| lq (q_lenR Sl_112 rfl rfl ph0_0) rfl <| WL.yes rfl rfl <| lq (q_leq rfl rfl) rfl <| WL.q (q_pick1 rfl rfl) rfl rfl rfl ?_
   cases hb_1
   exact WL.keep (by exact ⟨rfl, trivial⟩) K
  ·replace hb_1 := ite_f hb_1 c3
   refine WL.no rfl rfl rfl rfl <| WL.no rfl rfl rfl rfl <| WL.no rfl rfl rfl rfl <| WL.no rfl rfl rfl rfl <| WL.q (q_pick0 rfl rfl) rfl rfl rfl ?_
   cases hb_1
   exact WL.keep (by exact ⟨rfl, trivial⟩) K
 refine lq (q_assign rfl) rfl <| WL.nil ?_
 refine WT.ret Tryz.func191 (resOk.one rfl) (fun w1 hw => ?_)
 subst hb0
 cases h
 exact post_of_St hw
end Go.Proofs.YtjangilipfjcmaaGreat
