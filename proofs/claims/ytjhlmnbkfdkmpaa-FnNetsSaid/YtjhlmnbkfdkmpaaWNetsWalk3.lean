/- Printed by a program of ours: each Go function computes its Lean function. -/
import Derived.Test.YtjhlmnbkfdkmpaaProg
import Derived.Test.YtjhlmnbkfdkmpaaWNetsWalk2
namespace Go.Proofs.Ytjhlmnbkfdkmpaa
open Eng
open Go.RowKit (Below)
set_option linter.unusedVariables false
set_option linter.unusedSimpArgs false

set_option maxRecDepth 100000
set_option maxHeartbeats 1000000
theorem m_s_l9Any_ok {Φ : Hp} {w : World} (hΦ : In Φ w) (N : Nat) (p0 : Tl1Cur) {pv0_0 : Value} {pG0_0 : List Nat} {pb0 : Nat} (ph0_0 : RSl (RI .u8) 1 Φ pG0_0 pv0_0 p0.b) (pp0 : Φ pb0 = some (.cells #[pv0_0, .int .i64 p0.i, .int .i64 p0.h] 253 (0, 0))) (pd0_0 : Dj pG0_0 [[pb0]].flatten) (hB : [[pb0]].flatten.Nodup) (hlt : ∀ k ∈ [[pb0]].flatten, k < w.heap.size) {r : TRule × Tl1Cur} (h : m_s_l9Any N p0 = some r) :
    Calls Try.prog 206 [.pointer (some ⟨pb0, 0, none⟩)].toArray w (PostG Φ w [[pb0]].flatten (fun Φ' Fs v => ∃ (sr_0_0 : Value) (Dr_0_0 : List Nat) (sr_0_1 : Value) (Gr_0_1 : List Nat) (sr_0_2 : Value) (Gr_0_2 : List Nat) (X : List Nat), v = .agg [.string r.1.Name, .int .i64 r.1.Sal, sr_0_0, sr_0_1, sr_0_2].toArray ∧ Fs = [ob sr_0_0, [pb0], X] ∧ OSl RTPat 121 3 Φ' Dr_0_0 sr_0_0 r.1.Pats ∧ (∀ k ∈ Dr_0_0, k ∈ X) ∧ RSl RTCond 11 Φ' Gr_0_1 sr_0_1 r.1.Conds ∧ (∀ k ∈ Gr_0_1, k ∈ X) ∧ RSl RTAct 5 Φ' Gr_0_2 sr_0_2 r.1.Acts ∧ (∀ k ∈ Gr_0_2, k ∈ X) ∧ r.2.b = p0.b ∧ Φ' pb0 = some (.cells #[pv0_0, .int .i64 r.2.i, .int .i64 r.2.h] 253 (0, 0)))) := by
  refine enter Try.func206 rfl Try.ntmps206 rfl (St.start hΦ [[pb0]] hB hlt) ?_
  have pa0_0 : Old ⟨w, [[pb0]].flatten, Φ⟩ pG0_0 := Old.mk hΦ ph0_0.kn pd0_0
  revert pa0_0
  generalize hb0 : (⟨w, [[pb0]].flatten, Φ⟩ : Base) = w0
  intro pa0_0
  unfold m_s_l9Any at h
  refine WT.seq ?_
  refine WT.region ?_
  refine ln (n_alloc (C := #[.string (⟨#[]⟩ : ByteArray), .int .i64 0, .slice none 0 0, .slice none 0 0, .slice none 0 0]) Zr_66 rfl) rfl (fun b_1 => ?_)
  refine WL.nil ?_
  refine WT.seq ?_
  refine WT.region ?_
  refine lq (q_move rfl) rfl ?_
  refine lq (q_move rfl) rfl ?_
  have rc1 : RC RS 1 Φ ([[], [], []] : List (List Nat)) [.string (⟨#[114, 49]⟩ : ByteArray), .string (⟨#[114, 50]⟩ : ByteArray), .string (⟨#[115, 104, 105, 112]⟩ : ByteArray)] ([(⟨#[114, 49]⟩ : ByteArray), (⟨#[114, 50]⟩ : ByteArray), (⟨#[115, 104, 105, 112]⟩ : ByteArray)] : List ByteArray) := RC.cons (c := [.string (⟨#[114, 49]⟩ : ByteArray)]) (cells := [.string (⟨#[114, 50]⟩ : ByteArray), .string (⟨#[115, 104, 105, 112]⟩ : ByteArray)]) ⟨rfl, rfl⟩ rfl (RC.cons (c := [.string (⟨#[114, 50]⟩ : ByteArray)]) (cells := [.string (⟨#[115, 104, 105, 112]⟩ : ByteArray)]) ⟨rfl, rfl⟩ rfl (RC.cons (c := [.string (⟨#[115, 104, 105, 112]⟩ : ByteArray)]) (cells := []) ⟨rfl, rfl⟩ rfl (RC.nil _ _ _)))
  refine le' (e_lit (vs := [(0, .string (⟨#[114, 49]⟩ : ByteArray)), (1, .string (⟨#[114, 50]⟩ : ByteArray)), (2, .string (⟨#[115, 104, 105, 112]⟩ : ByteArray))]) (C := #[.string (⟨#[114, 49]⟩ : ByteArray), .string (⟨#[114, 50]⟩ : ByteArray), .string (⟨#[115, 104, 105, 112]⟩ : ByteArray)]) RS.lasts Sl_60 Zr_9 rfl rfl rfl rfl (fill_made MC_9_3 (fill_cons (cells := [.string ⟨#[]⟩, .string ⟨#[]⟩, .string ⟨#[]⟩]) (c := [.string (⟨#[114, 49]⟩ : ByteArray)]) (C' := [.string (⟨#[114, 49]⟩ : ByteArray), .string ⟨#[]⟩, .string ⟨#[]⟩]) rfl rfl rfl rfl rfl (fill_cons (cells := [.string (⟨#[114, 49]⟩ : ByteArray), .string ⟨#[]⟩, .string ⟨#[]⟩]) (c := [.string (⟨#[114, 50]⟩ : ByteArray)]) (C' := [.string (⟨#[114, 49]⟩ : ByteArray), .string (⟨#[114, 50]⟩ : ByteArray), .string ⟨#[]⟩]) rfl rfl rfl rfl rfl (fill_cons (cells := [.string (⟨#[114, 49]⟩ : ByteArray), .string (⟨#[114, 50]⟩ : ByteArray), .string ⟨#[]⟩]) (c := [.string (⟨#[115, 104, 105, 112]⟩ : ByteArray)]) (C' := [.string (⟨#[114, 49]⟩ : ByteArray), .string (⟨#[114, 50]⟩ : ByteArray), .string (⟨#[115, 104, 105, 112]⟩ : ByteArray)]) rfl rfl rfl rfl rfl (fill_nil))))) rfl rc1 rfl (by simpa using Kw.nil)) rfl (fun v1 Φ_1 D1 q1 => ?_)
  obtain ⟨fr1, h1⟩ := q1
  replace h1 : OSl RS 9 1 Φ_1 [] v1 ([(⟨#[114, 49]⟩ : ByteArray), (⟨#[114, 50]⟩ : ByteArray), (⟨#[115, 104, 105, 112]⟩ : ByteArray)] : List ByteArray) := by simpa using h1
  replace ph0_0 := ph0_0.frame RI.lasts fr1 (Dj.empty _)
  replace pp0 := fr1 _ _ (by simp) pp0
  obtain ⟨x1, hx1, h⟩ := bind_some h
  refine lc (k_call (js := [1]) (R := [ob v1]) Fun_185 rfl rfl (fun w1 hw ap hl => m_s_l1Str_ok hw.fro N p0 ([(⟨#[114, 49]⟩ : ByteArray), (⟨#[114, 50]⟩ : ByteArray), (⟨#[115, 104, 105, 112]⟩ : ByteArray)] : List ByteArray) ph0_0 pp0 h1.rsl (ap.o pa0_0) (Dj.app (ap.r (i := 0) rfl) (Dj.nil _)) ap.nd hl hx1)) rfl (fun v2 Φ_2 F1 q2 => ?_)
  obtain ⟨ap1, fr2, rfl, rfl, e1, h2⟩ := q2
  replace ph0_0 := ph0_0.frame RI.lasts fr2 (ap1.o pa0_0)
  obtain ⟨x2, hx2, h⟩ := bind_some h
  refine lc (k_call (js := [0]) (R := [ob v1]) Fun_187 rfl rfl (fun w1 hw ap hl => m_s_l9Draw_ok hw.fro N (⟨p0.b, x1.2.i, x1.2.h⟩ : Tl1Cur) x1.1 ph0_0 h2 (ap.o pa0_0) ap.nd hl hx2)) rfl (fun v3 Φ_3 F2 q3 => ?_)
  obtain ⟨ap2, fr3, v4, D2, v5, v6, D3, rfl, rfl, h3, h4, h5, e2, h6⟩ := q3
  replace ph0_0 := ph0_0.frame RI.lasts fr3 (ap2.o pa0_0)
  refine ln (n_alloc (C := #[.string (⟨#[]⟩ : ByteArray), .int .i64 0, .slice none 0 0, .slice none 0 0, .slice none 0 0]) Zr_66 rfl) rfl (fun b_2 => ?_)
  refine ls (s_store (i := 0) (vs := [.string x2.1.Name, .int .i64 x2.1.Sal, v4, v5, v6]) (C' := [.string x2.1.Name, .int .i64 x2.1.Sal, v4, v5, v6]) (O' := [(b_2, .cells #[.string x2.1.Name, .int .i64 x2.1.Sal, v4, v5, v6] 66 (0, 0)), (b_1, .cells #[.string (⟨#[]⟩ : ByteArray), .int .i64 0, .slice none 0 0, .slice none 0 0, .slice none 0 0] 66 (0, 0))]) Sz_66 rfl rfl rfl rfl rfl rfl ⟨rfl, rfl, h3.one, h4.one, h5.one, trivial⟩ rfl rfl) rfl ?_
  refine WL.nil ?_
  refine WT.seq ?_
  refine WT.seq ?_
  refine WT.region ?_
  refine lq (q_move rfl) rfl ?_
  obtain ⟨x3, hx3, h⟩ := bind_some h
  refine lc (k_call (js := [5]) (R := [ob v4, D2, ob v5, ob v6, D3, ob v1]) Fun_109 rfl rfl (fun w1 hw ap hl => m_s_l1Once_ok hw.fro N (⟨p0.b, x2.2.i, x2.2.h⟩ : Tl1Cur) 3 ph0_0 h6 (ap.o pa0_0) ap.nd hl hx3)) rfl (fun v7 Φ_4 F3 q4 => ?_)
  obtain ⟨ap3, fr4, rfl, rfl, e3, h7⟩ := q4
  replace ph0_0 := ph0_0.frame RI.lasts fr4 (ap3.o pa0_0)
  replace h3 := h3.frame OTPat.lasts fr4 (ap3.r (i := 0) rfl) (ap3.r (i := 1) rfl)
  replace h4 := h4.frame RTCond.lasts fr4 (ap3.r (i := 2) rfl) (Dj.nil _)
  replace h5 := h5.frame OTAct.lasts fr4 (ap3.r (i := 3) rfl) (ap3.r (i := 4) rfl)
  refine WL.nil ?_
  refine WT.conv (S' := St w0 Φ_4 [(b_2, .cells #[.string x2.1.Name, .int .i64 x2.1.Sal, v4, v5, v6] 66 (0, 0)), (b_1, .cells #[.string (⟨#[]⟩ : ByteArray), .int .i64 0, .slice none 0 0, .slice none 0 0, .slice none 0 0] 66 (0, 0))] ([] :: [[pb0], ob v4, D2, ob v5, ob v6, D3, ob v1])) (fun w1 hw => hw.addNil) ?_
  have h8 := h4.rsl
  have h9 := (h5.rslG OTAct.gives)
  replace h3 := h3.gives OTPat.gives
  refine cut (σ := Hp × List Nat × (List TPat) × Value × List Nat × Int × Int × ByteArray × Int × (List TCond) × Value × List Nat × (List TAct) × Value × List Nat) (fun s => [(2, .pointer (some ⟨b_1, 0, none⟩)), (3, .pointer (some ⟨b_2, 0, none⟩))]) (fun s => St w0 s.1 [(b_2, .cells #[.string s.2.2.2.2.2.2.2.1, .int .i64 s.2.2.2.2.2.2.2.2.1, s.2.2.2.1, s.2.2.2.2.2.2.2.2.2.2.1, s.2.2.2.2.2.2.2.2.2.2.2.2.2.1] 66 (0, 0)), (b_1, .cells #[.string (⟨#[]⟩ : ByteArray), .int .i64 0, .slice none 0 0, .slice none 0 0, .slice none 0 0] 66 (0, 0))] [s.2.1, [pb0], ob s.2.2.2.1, D2, ob v5, ob v6, D3]) (fun s => m_s_l9Any_j1 N p0 s.2.2.1 s.2.2.2.2.2.1 s.2.2.2.2.2.2.1 s.2.2.2.2.2.2.2.1 s.2.2.2.2.2.2.2.2.1 s.2.2.2.2.2.2.2.2.2.1 s.2.2.2.2.2.2.2.2.2.2.2.2.1 = some r ∧ (OSl RTPat 121 3 s.1 s.2.2.2.2.1 s.2.2.2.1 s.2.2.1) ∧ (∀ k ∈ s.2.2.2.2.1, k ∈ (D2 ++ s.2.1)) ∧ (s.1 pb0 = some (.cells #[pv0_0, .int .i64 s.2.2.2.2.2.1, .int .i64 s.2.2.2.2.2.2.1] 253 (0, 0))) ∧ (RSl RTCond 11 s.1 s.2.2.2.2.2.2.2.2.2.2.2.1 s.2.2.2.2.2.2.2.2.2.2.1 s.2.2.2.2.2.2.2.2.2.1) ∧ (∀ k ∈ s.2.2.2.2.2.2.2.2.2.2.2.1, k ∈ (ob v5 ++ s.2.1)) ∧ (RSl RTAct 5 s.1 s.2.2.2.2.2.2.2.2.2.2.2.2.2.2 s.2.2.2.2.2.2.2.2.2.2.2.2.2.1 s.2.2.2.2.2.2.2.2.2.2.2.2.1) ∧ (∀ k ∈ s.2.2.2.2.2.2.2.2.2.2.2.2.2.2, k ∈ (ob v6 ++ (D3 ++ s.2.1))) ∧ (RSl (RI .u8) 1 s.1 pG0_0 pv0_0 p0.b)) (fun s hm => ?_) (fun K => ?_)
  · clear h
    obtain ⟨Φ_5, X1, s1, u1, D4, s2, s3, s4, s5, s6, u2, H1, s7, u3, H2⟩ := s
    obtain ⟨h, k1, i1, k2, k3, i2, k4, i3, ph0_0⟩ := hm
    replace h : m_s_l9Any_j1 N p0 s1 s2 s3 s4 s5 s6 s7 = some r := h
    replace k1 : OSl RTPat 121 3 Φ_5 D4 u1 s1 := k1
    replace i1 : ∀ k ∈ D4, k ∈ (D2 ++ X1) := i1
    replace k2 : Φ_5 pb0 = some (.cells #[pv0_0, .int .i64 s2, .int .i64 s3] 253 (0, 0)) := k2
    replace k3 : RSl RTCond 11 Φ_5 H1 u2 s6 := k3
    replace i2 : ∀ k ∈ H1, k ∈ (ob v5 ++ X1) := i2
    replace k4 : RSl RTAct 5 Φ_5 H2 u3 s7 := k4
    replace i3 : ∀ k ∈ H2, k ∈ (ob v6 ++ (D3 ++ X1)) := i3
    replace ph0_0 : RSl (RI .u8) 1 Φ_5 pG0_0 pv0_0 p0.b := ph0_0
    show WT _ _ [(2, .pointer (some ⟨b_1, 0, none⟩)), (3, .pointer (some ⟨b_2, 0, none⟩))] (St w0 Φ_5 [(b_2, .cells #[.string s4, .int .i64 s5, u1, u2, u3] 66 (0, 0)), (b_1, .cells #[.string (⟨#[]⟩ : ByteArray), .int .i64 0, .slice none 0 0, .slice none 0 0, .slice none 0 0] 66 (0, 0))] [X1, [pb0], ob u1, D2, ob v5, ob v6, D3])
    unfold m_s_l9Any_j1 at h
    refine WT.seq ?_
    refine WT.region ?_
    refine lq (q_loadN Tn_66 rfl (fun w1 hw => hw.rgO (i := 0) rfl 0 5 [.string s4, .int .i64 s5, u1, u2, u3] rfl) rfl) rfl ?_
    refine ls (s_store (i := 1) (vs := [.string s4, .int .i64 s5, u1, u2, u3]) (C' := [.string s4, .int .i64 s5, u1, u2, u3]) (O' := [(b_2, .cells #[.string s4, .int .i64 s5, u1, u2, u3] 66 (0, 0)), (b_1, .cells #[.string s4, .int .i64 s5, u1, u2, u3] 66 (0, 0))]) Sz_66 rfl rfl rfl rfl rfl rfl ⟨rfl, rfl, k1.one, k3.one, k4.one, trivial⟩ rfl rfl) rfl ?_
    refine WL.nil ?_
    refine WT.ret Try.func206 (resOk.one (rv_cell Tn_66 rfl (fun w1 hw => hw.rgO (i := 1) rfl 0 5 [.string s4, .int .i64 s5, u1, u2, u3] rfl) rfl)) (fun w1 hw => ?_)
    subst hb0
    cases h
    replace hw := hw.merge (js := [3, 0, 2, 2, 2]) (F := [D2, X1, ob v5, ob v6, D3].flatten) rfl (SP.eq (by simp))
    refine postG_of_St (js := [2, 1, 0]) hw rfl ⟨u1, D4, u2, H1, u3, H2, [D2, X1, ob v5, ob v6, D3].flatten, rfl, rfl, k1, (fun k hk => ((List.mem_append.1 (i1 k hk)).elim (fun h => (List.mem_flatten.2 ⟨D2, by simp, h⟩)) (fun h => (List.mem_flatten.2 ⟨X1, by simp, h⟩)))), k3, (fun k hk => ((List.mem_append.1 (i2 k hk)).elim (fun h => (List.mem_flatten.2 ⟨ob v5, by simp, h⟩)) (fun h => (List.mem_flatten.2 ⟨X1, by simp, h⟩)))), k4, (fun k hk => ((List.mem_append.1 (i3 k hk)).elim (fun h => (List.mem_flatten.2 ⟨ob v6, by simp, h⟩)) (fun h => ((List.mem_append.1 h).elim (fun h => (List.mem_flatten.2 ⟨D3, by simp, h⟩)) (fun h => (List.mem_flatten.2 ⟨X1, by simp, h⟩)))))), rfl, k2⟩
  refine WT.cond rfl (fun c1 => ?_) (fun c1 => ?_)
  · replace h := ite_t h c1
    refine WT.region ?_
    refine lq (q_move rfl) rfl ?_
    refine lq (q_loadN Tn_66 rfl (fun w1 hw => hw.rgO (i := 0) rfl 0 5 [.string x2.1.Name, .int .i64 x2.1.Sal, v4, v5, v6] rfl) rfl) rfl ?_
    obtain ⟨x4, hx4, h⟩ := bind_some h
    refine lc (k_call (js := [1]) (R := [[], ob v4, D2, ob v5, ob v6, D3, ob v1]) Fun_207 rfl rfl (fun w1 hw ap hl => m_s_l9Bend_ok hw.fro N (⟨p0.b, x3.2.i, x3.2.h⟩ : Tl1Cur) x2.1 ph0_0 h7 h3.rsl h8 h9 (ap.o pa0_0) (Dj.app (ap.r (i := 1) rfl) (ap.r (i := 2) rfl)) (Dj.sub (ap.r (i := 3) rfl) apnil) (Dj.app (ap.r (i := 4) rfl) (ap.r (i := 5) rfl)) ap.nd hl hx4)) rfl (fun v8 Φ_6 F6 q5 => ?_)
    obtain ⟨ap4, fr5, v9, D5, v10, G1, v11, G2, X2, rfl, rfl, h10, i4, h11, i5, h12, i6, e6, h13⟩ := q5
    replace h8 := h8.frame RTCond.lasts fr5 (Dj.sub (ap4.r (i := 3) rfl) apnil)
    replace h9 := h9.frame RTAct.lasts fr5 (Dj.app (ap4.r (i := 4) rfl) (ap4.r (i := 5) rfl))
    replace ph0_0 := ph0_0.frame RI.lasts fr5 (ap4.o pa0_0)
    replace h3 := h3.frame RTPat.lasts fr5 (ap4.r (i := 1) rfl) (ap4.r (i := 2) rfl)
    refine ls (s_store (i := 0) (vs := [.string x4.1.Name, .int .i64 x4.1.Sal, v9, v10, v11]) (C' := [.string x4.1.Name, .int .i64 x4.1.Sal, v9, v10, v11]) (O' := [(b_2, .cells #[.string x4.1.Name, .int .i64 x4.1.Sal, v9, v10, v11] 66 (0, 0)), (b_1, .cells #[.string (⟨#[]⟩ : ByteArray), .int .i64 0, .slice none 0 0, .slice none 0 0, .slice none 0 0] 66 (0, 0))]) Sz_66 rfl rfl rfl rfl rfl rfl ⟨rfl, rfl, h10.one, h11.one, h12.one, trivial⟩ rfl rfl) rfl ?_
    refine WL.nil ?_
    refine WT.conv (S' := St w0 Φ_6 [(b_2, .cells #[.string x4.1.Name, .int .i64 x4.1.Sal, v9, v10, v11] 66 (0, 0)), (b_1, .cells #[.string (⟨#[]⟩ : ByteArray), .int .i64 0, .slice none 0 0, .slice none 0 0, .slice none 0 0] 66 (0, 0))] [([] ++ (X2 ++ (ob v4))), ob v9, [pb0], D2, ob v5, ob v6, D3, ob v1]) (fun w1 hw => hw.merge (js := [3, 2, 2]) rfl (SP.eq (by simp [List.append_assoc]))) ?_
    refine WT.mono (l' := [(2, .pointer (some ⟨b_1, 0, none⟩)), (3, .pointer (some ⟨b_2, 0, none⟩))]) (S' := St w0 Φ_6 [(b_2, .cells #[.string x4.1.Name, .int .i64 x4.1.Sal, v9, v10, v11] 66 (0, 0)), (b_1, .cells #[.string (⟨#[]⟩ : ByteArray), .int .i64 0, .slice none 0 0, .slice none 0 0, .slice none 0 0] 66 (0, 0))] [([] ++ (X2 ++ (ob v4))), [pb0], ob v9, D2, ob v5, ob v6, D3]) ⟨rfl, rfl, trivial⟩ (fun w1 hw => (hw.sel (js := [0, 1, 0, 0, 0, 0, 0]) rfl).selO (js := [0, 0]) rfl) ?_
    exact K (Φ_6, ([] ++ (X2 ++ (ob v4))), x4.1.Pats, v9, D5, x4.2.i, x4.2.h, x4.1.Name, x4.1.Sal, x4.1.Conds, v10, G1, x4.1.Acts, v11, G2) ⟨h, h10, (fun k hk => ((List.mem_append.1 (i4 k hk)).elim (fun h => (List.mem_append.2 (.inr ((fun k hk => (List.mem_append.2 (.inr (List.mem_append.2 (.inl hk))))) k h)))) (fun h => ((List.mem_append.1 h).elim (fun h => (List.mem_append.2 (.inr ((fun k hk => (List.mem_append.2 (.inr (List.mem_append.2 (.inr hk))))) k h)))) (fun h => (List.mem_append.2 (.inl h))))))), h13, h11, (fun k hk => ((List.mem_append.1 (i5 k hk)).elim (fun h => (List.mem_append.2 (.inr ((fun k hk => (List.mem_append.2 (.inr (List.mem_append.2 (.inl hk))))) k h)))) (fun h => (List.mem_append.2 (.inl (apnil k h)))))), h12, (fun k hk => ((List.mem_append.1 (i6 k hk)).elim (fun h => (List.mem_append.2 (.inr (List.mem_append.2 (.inr ((fun k hk => (List.mem_append.2 (.inr (List.mem_append.2 (.inl hk))))) k h)))))) (fun h => ((List.mem_append.1 h).elim (fun h => (List.mem_append.2 (.inl h))) (fun h => (List.mem_append.2 (.inr (List.mem_append.2 (.inl h))))))))), ph0_0⟩
  replace h := ite_f h c1
  refine WT.skip ?_
  refine WT.mono (l' := [(2, .pointer (some ⟨b_1, 0, none⟩)), (3, .pointer (some ⟨b_2, 0, none⟩))]) (S' := St w0 Φ_4 [(b_2, .cells #[.string x2.1.Name, .int .i64 x2.1.Sal, v4, v5, v6] 66 (0, 0)), (b_1, .cells #[.string (⟨#[]⟩ : ByteArray), .int .i64 0, .slice none 0 0, .slice none 0 0, .slice none 0 0] 66 (0, 0))] [[], [pb0], ob v4, D2, ob v5, ob v6, D3]) ⟨rfl, rfl, trivial⟩ (fun w1 hw => (hw.sel (js := [0, 0, 0, 0, 0, 0, 0]) rfl).selO (js := [0, 0]) rfl) ?_
  exact K (Φ_4, [], x2.1.Pats, v4, D2, x3.2.i, x3.2.h, x2.1.Name, x2.1.Sal, x2.1.Conds, v5, (ob v5 ++ []), x2.1.Acts, v6, (ob v6 ++ D3)) ⟨h, h3, (fun k hk => (List.mem_append.2 (.inl hk))), h7, h8, (fun k hk => (List.mem_append.2 (.inl (apnil k hk)))), h9, (fun k hk => ((List.mem_append.1 hk).elim (fun h => (List.mem_append.2 (.inl h))) (fun h => (List.mem_append.2 (.inr (List.mem_append.2 (.inl h))))))), ph0_0⟩
theorem m_s_l10Any_ok {Φ : Hp} {w : World} (hΦ : In Φ w) (N : Nat) (p0 : Tl1Cur) {pv0_0 : Value} {pG0_0 : List Nat} {pb0 : Nat} (ph0_0 : RSl (RI .u8) 1 Φ pG0_0 pv0_0 p0.b) (pp0 : Φ pb0 = some (.cells #[pv0_0, .int .i64 p0.i, .int .i64 p0.h] 253 (0, 0))) (pd0_0 : Dj pG0_0 [[pb0]].flatten) (hB : [[pb0]].flatten.Nodup) (hlt : ∀ k ∈ [[pb0]].flatten, k < w.heap.size) {r : TDef × Tl1Cur} (h : m_s_l10Any N p0 = some r) :
    Calls Try.prog 134 [.pointer (some ⟨pb0, 0, none⟩)].toArray w (PostG Φ w [[pb0]].flatten (fun Φ' Fs v => ∃ (sr_0_0 : Value) (Dr_0_0 : List Nat) (X : List Nat), v = .agg [.string r.1.Name, sr_0_0].toArray ∧ Fs = [ob sr_0_0, [pb0], X] ∧ OSl RTRule 66 5 Φ' Dr_0_0 sr_0_0 r.1.Rules ∧ (∀ k ∈ Dr_0_0, k ∈ X) ∧ r.2.b = p0.b ∧ Φ' pb0 = some (.cells #[pv0_0, .int .i64 r.2.i, .int .i64 r.2.h] 253 (0, 0)))) := by
  refine enter Try.func134 rfl Try.ntmps134 rfl (St.start hΦ [[pb0]] hB hlt) ?_
  have pa0_0 : Old ⟨w, [[pb0]].flatten, Φ⟩ pG0_0 := Old.mk hΦ ph0_0.kn pd0_0
  revert pa0_0
  generalize hb0 : (⟨w, [[pb0]].flatten, Φ⟩ : Base) = w0
  intro pa0_0
  unfold m_s_l10Any at h
  refine WT.seq ?_
  refine WT.region ?_
  refine ln (n_alloc (C := #[.string (⟨#[]⟩ : ByteArray), .slice none 0 0]) Zr_29 rfl) rfl (fun b_1 => ?_)
  refine WL.nil ?_
  refine WT.seq ?_
  refine WT.region ?_
  refine lq (q_move rfl) rfl ?_
  obtain ⟨x1, hx1, h⟩ := bind_some h
  refine lc (k_call (js := [0]) (R := []) Fun_106 rfl rfl (fun w1 hw ap hl => m_s_l10Draw_ok hw.fro N p0 ph0_0 pp0 (ap.o pa0_0) ap.nd hl hx1)) rfl (fun v1 Φ_1 F1 q1 => ?_)
  obtain ⟨ap1, fr1, v2, D1, rfl, rfl, h1, e1, h2⟩ := q1
  replace ph0_0 := ph0_0.frame RI.lasts fr1 (ap1.o pa0_0)
  refine ln (n_alloc (C := #[.string (⟨#[]⟩ : ByteArray), .slice none 0 0]) Zr_29 rfl) rfl (fun b_2 => ?_)
  refine ls (s_store (i := 0) (vs := [.string x1.1.Name, v2]) (C' := [.string x1.1.Name, v2]) (O' := [(b_2, .cells #[.string x1.1.Name, v2] 29 (0, 0)), (b_1, .cells #[.string (⟨#[]⟩ : ByteArray), .slice none 0 0] 29 (0, 0))]) Sz_29 rfl rfl rfl rfl rfl rfl ⟨rfl, h1.one, trivial⟩ rfl rfl) rfl ?_
  refine WL.nil ?_
  refine WT.seq ?_
  refine WT.seq ?_
  refine WT.region ?_
  refine lq (q_move rfl) rfl ?_
  obtain ⟨x2, hx2, h⟩ := bind_some h
  refine lc (k_call (js := [2]) (R := [ob v2, D1]) Fun_186 rfl rfl (fun w1 hw ap hl => m_s_l1Below_ok hw.fro N (⟨p0.b, x1.2.i, x1.2.h⟩ : Tl1Cur) 10 ph0_0 h2 (ap.o pa0_0) ap.nd hl hx2)) rfl (fun v3 Φ_2 F2 q2 => ?_)
  obtain ⟨ap2, fr2, rfl, rfl, e2, h3⟩ := q2
  replace ph0_0 := ph0_0.frame RI.lasts fr2 (ap2.o pa0_0)
  replace h1 := h1.frame OTRule.lasts fr2 (ap2.r (i := 0) rfl) (ap2.r (i := 1) rfl)
  refine WL.nil ?_
  refine WT.block ?_
  refine WT.seq ?_
  refine WT.region ?_
  refine lq (q_eql rfl rfl) rfl ?_
  refine lq (q_assign rfl) rfl ?_
  refine WL.nil ?_
  refine WT.conv (S' := St w0 Φ_2 [(b_2, .cells #[.string x1.1.Name, v2] 29 (0, 0)), (b_1, .cells #[.string (⟨#[]⟩ : ByteArray), .slice none 0 0] 29 (0, 0))] ([] :: [[pb0], ob v2, D1])) (fun w1 hw => hw.addNil) ?_
  replace h1 := h1.gives OTRule.gives
  refine cut (σ := Hp × List Nat × (List TRule) × Value × List Nat × Int × Int × ByteArray) (fun s => [(2, .pointer (some ⟨b_1, 0, none⟩)), (3, .pointer (some ⟨b_2, 0, none⟩))]) (fun s => St w0 s.1 [(b_2, .cells #[.string s.2.2.2.2.2.2.2, s.2.2.2.1] 29 (0, 0)), (b_1, .cells #[.string (⟨#[]⟩ : ByteArray), .slice none 0 0] 29 (0, 0))] [s.2.1, [pb0], ob s.2.2.2.1, D1]) (fun s => m_s_l10Any_j1 N p0 s.2.2.1 s.2.2.2.2.2.1 s.2.2.2.2.2.2.1 s.2.2.2.2.2.2.2 = some r ∧ (OSl RTRule 66 5 s.1 s.2.2.2.2.1 s.2.2.2.1 s.2.2.1) ∧ (∀ k ∈ s.2.2.2.2.1, k ∈ (D1 ++ s.2.1)) ∧ (s.1 pb0 = some (.cells #[pv0_0, .int .i64 s.2.2.2.2.2.1, .int .i64 s.2.2.2.2.2.2.1] 253 (0, 0))) ∧ (RSl (RI .u8) 1 s.1 pG0_0 pv0_0 p0.b)) (fun s hm => ?_) (fun K => ?_)
  · clear h
    obtain ⟨Φ_3, X1, s1, u1, D2, s2, s3, s4⟩ := s
    obtain ⟨h, k1, i1, k2, ph0_0⟩ := hm
    replace h : m_s_l10Any_j1 N p0 s1 s2 s3 s4 = some r := h
    replace k1 : OSl RTRule 66 5 Φ_3 D2 u1 s1 := k1
    replace i1 : ∀ k ∈ D2, k ∈ (D1 ++ X1) := i1
    replace k2 : Φ_3 pb0 = some (.cells #[pv0_0, .int .i64 s2, .int .i64 s3] 253 (0, 0)) := k2
    replace ph0_0 : RSl (RI .u8) 1 Φ_3 pG0_0 pv0_0 p0.b := ph0_0
    show WT _ _ [(2, .pointer (some ⟨b_1, 0, none⟩)), (3, .pointer (some ⟨b_2, 0, none⟩))] (St w0 Φ_3 [(b_2, .cells #[.string s4, u1] 29 (0, 0)), (b_1, .cells #[.string (⟨#[]⟩ : ByteArray), .slice none 0 0] 29 (0, 0))] [X1, [pb0], ob u1, D1])
    unfold m_s_l10Any_j1 at h
    refine WT.inBlock ?_
    refine WT.seq ?_
    refine WT.region ?_
    refine lq (q_loadN Tn_29 rfl (fun w1 hw => hw.rgO (i := 0) rfl 0 2 [.string s4, u1] rfl) rfl) rfl ?_
    refine ls (s_store (i := 1) (vs := [.string s4, u1]) (C' := [.string s4, u1]) (O' := [(b_2, .cells #[.string s4, u1] 29 (0, 0)), (b_1, .cells #[.string s4, u1] 29 (0, 0))]) Sz_29 rfl rfl rfl rfl rfl rfl ⟨rfl, k1.one, trivial⟩ rfl rfl) rfl ?_
    refine WL.nil ?_
    refine WT.ret Try.func134 (resOk.one (rv_cell Tn_29 rfl (fun w1 hw => hw.rgO (i := 1) rfl 0 2 [.string s4, u1] rfl) rfl)) (fun w1 hw => ?_)
    subst hb0
    cases h
    replace hw := hw.merge (js := [3, 0]) (F := [D1, X1].flatten) rfl (SP.eq (by simp))
    refine postG_of_St (js := [2, 1, 0]) hw rfl ⟨u1, D2, [D1, X1].flatten, rfl, rfl, k1, (fun k hk => ((List.mem_append.1 (i1 k hk)).elim (fun h => (List.mem_flatten.2 ⟨D1, by simp, h⟩)) (fun h => (List.mem_flatten.2 ⟨X1, by simp, h⟩)))), rfl, k2⟩
  refine WT.cond rfl (fun c1 => ?_) (fun c1 => ?_)
  · replace h := ite_t h c1
    refine WT.region ?_
    refine lq (q_move rfl) rfl ?_
    have rc1 : RC RS 1 Φ_2 ([[], []] : List (List Nat)) [.string (⟨#[]⟩ : ByteArray), .string (⟨#[65]⟩ : ByteArray)] ([(⟨#[]⟩ : ByteArray), (⟨#[65]⟩ : ByteArray)] : List ByteArray) := RC.cons (c := [.string (⟨#[]⟩ : ByteArray)]) (cells := [.string (⟨#[65]⟩ : ByteArray)]) ⟨rfl, rfl⟩ rfl (RC.cons (c := [.string (⟨#[65]⟩ : ByteArray)]) (cells := []) ⟨rfl, rfl⟩ rfl (RC.nil _ _ _))
    refine le' (e_lit (vs := [(0, .string (⟨#[]⟩ : ByteArray)), (1, .string (⟨#[65]⟩ : ByteArray))]) (C := #[.string (⟨#[]⟩ : ByteArray), .string (⟨#[65]⟩ : ByteArray)]) RS.lasts Sl_60 Zr_9 rfl rfl rfl rfl (fill_made MC_9_2 (fill_cons (cells := [.string ⟨#[]⟩, .string ⟨#[]⟩]) (c := [.string (⟨#[]⟩ : ByteArray)]) (C' := [.string (⟨#[]⟩ : ByteArray), .string ⟨#[]⟩]) rfl rfl rfl rfl rfl (fill_cons (cells := [.string (⟨#[]⟩ : ByteArray), .string ⟨#[]⟩]) (c := [.string (⟨#[65]⟩ : ByteArray)]) (C' := [.string (⟨#[]⟩ : ByteArray), .string (⟨#[65]⟩ : ByteArray)]) rfl rfl rfl rfl rfl (fill_nil)))) rfl rc1 rfl (by simpa using Kw.nil)) rfl (fun v4 Φ_4 D3 q3 => ?_)
    obtain ⟨fr3, h4⟩ := q3
    replace h4 : OSl RS 9 1 Φ_4 [] v4 ([(⟨#[]⟩ : ByteArray), (⟨#[65]⟩ : ByteArray)] : List ByteArray) := by simpa using h4
    replace ph0_0 := ph0_0.frame RI.lasts fr3 (Dj.empty _)
    replace h1 := h1.frame RTRule.lasts fr3 (Dj.empty _) (Dj.empty _)
    replace h3 := fr3 _ _ (by simp) h3
    obtain ⟨x3, hx3, h⟩ := bind_some h
    refine lc (k_call (js := [2]) (R := [ob v4, [], ob v2, D1]) Fun_185 rfl rfl (fun w1 hw ap hl => m_s_l1Str_ok hw.fro N (⟨p0.b, x2.2.i, x2.2.h⟩ : Tl1Cur) ([(⟨#[]⟩ : ByteArray), (⟨#[65]⟩ : ByteArray)] : List ByteArray) ph0_0 h3 h4.rsl (ap.o pa0_0) (Dj.app (ap.r (i := 0) rfl) (Dj.nil _)) ap.nd hl hx3)) rfl (fun v5 Φ_5 F3 q4 => ?_)
    obtain ⟨ap3, fr4, rfl, rfl, e3, h5⟩ := q4
    replace ph0_0 := ph0_0.frame RI.lasts fr4 (ap3.o pa0_0)
    replace h1 := h1.frame RTRule.lasts fr4 (ap3.r (i := 2) rfl) (ap3.r (i := 3) rfl)
    refine lq (q_fieldAddr Fld_29_0 rfl) rfl ?_
    refine ls (s_store (i := 0) (vs := [.string x3.1]) (C' := [.string x3.1, v2]) (O' := [(b_2, .cells #[.string x3.1, v2] 29 (0, 0)), (b_1, .cells #[.string (⟨#[]⟩ : ByteArray), .slice none 0 0] 29 (0, 0))]) Sz_9 rfl rfl rfl rfl rfl rfl ⟨rfl, trivial⟩ rfl rfl) rfl ?_
    refine WL.nil ?_
    refine WT.mono (l' := [(2, .pointer (some ⟨b_1, 0, none⟩)), (3, .pointer (some ⟨b_2, 0, none⟩))]) (S' := St w0 Φ_5 [(b_2, .cells #[.string x3.1, v2] 29 (0, 0)), (b_1, .cells #[.string (⟨#[]⟩ : ByteArray), .slice none 0 0] 29 (0, 0))] [[], [pb0], ob v2, D1]) ⟨rfl, rfl, trivial⟩ (fun w1 hw => (hw.sel (js := [2, 0, 1, 1]) rfl).selO (js := [0, 0]) rfl) ?_
    exact K (Φ_5, [], x1.1.Rules, v2, D1, x3.2.i, x3.2.h, x3.1) ⟨h, h1, (fun k hk => (List.mem_append.2 (.inl hk))), h5, ph0_0⟩
  replace h := ite_f h c1
  refine WT.seq ?_
  refine WT.region ?_
  refine lq (q_eql rfl rfl) rfl ?_
  refine lq (q_assign rfl) rfl ?_
  refine WL.nil ?_
  refine WT.cond rfl (fun c2 => ?_) (fun c2 => ?_)
  · replace h := ite_t h c2
    refine WT.mix (Kn Φ_2 [] [(b_2, .cells #[.string x1.1.Name, v2] 29 (0, 0)), (b_1, .cells #[.string (⟨#[]⟩ : ByteArray), .slice none 0 0] 29 (0, 0))]) (fun i => match i with | 7 => false | _ => true) mixed (fun _ h => h.drew) ?_
    refine mq 0 rfl (by kernel_rfl) (fun w1 hw => Kn.of (fun k hk _ _ => by simp at hk) (AllIn.mem ⟨List.mem_of_getElem? (i := 0) rfl, List.mem_of_getElem? (i := 1) rfl, trivial⟩) hw) (q_fieldAddr Fld_29_1 rfl) rfl ?_
    refine mq 1 rfl (by kernel_rfl) (fun w1 hw => Kn.of (fun k hk _ _ => by simp at hk) (AllIn.mem ⟨List.mem_of_getElem? (i := 0) rfl, List.mem_of_getElem? (i := 1) rfl, trivial⟩) hw) (q_load1 T1_27 rfl (fun w1 hw => hw.rgO (i := 0) rfl 1 1 [v2] rfl)) rfl ?_
    refine mq 2 rfl (by kernel_rfl) (fun w1 hw => Kn.of (fun k hk _ _ => by simp at hk) (AllIn.mem ⟨List.mem_of_getElem? (i := 0) rfl, List.mem_of_getElem? (i := 1) rfl, trivial⟩) hw) (q_move rfl) rfl ?_
    obtain ⟨x4, hx4, h⟩ := bind_some h
    refine WM.one 3 (by kernel_rfl) (mc rfl (fun _ v Φx D w1 hq hw => Kn.of (fun k hk _ _ => by simp at hk) (AllIn.mem ⟨List.mem_of_getElem? (i := 0) rfl, List.mem_of_getElem? (i := 1) rfl, trivial⟩) hw) (k_call (js := [1]) (R := [[], ob v2, D1]) Fun_206 rfl rfl (fun w1 hw ap hl => m_s_l9Any_ok hw.fro N (⟨p0.b, x2.2.i, x2.2.h⟩ : Tl1Cur) ph0_0 h3 (ap.o pa0_0) ap.nd hl hx4)) rfl (fun v6 Φ_6 F4 q5 => ?_))
    obtain ⟨ap4, fr5, v7, D4, v8, G1, v9, G2, X2, rfl, rfl, h6, i2, h7, i3, h8, i4, e4, h9⟩ := q5
    replace ph0_0 := ph0_0.frame RI.lasts fr5 (ap4.o pa0_0)
    replace h1 := h1.frame RTRule.lasts fr5 (ap4.r (i := 1) rfl) (ap4.r (i := 2) rfl)
    have rc2 : RC RTRule 5 Φ_6 ([(ob v7 ++ D4) ++ (G1 ++ (G2))] : List (List Nat)) [.string x4.1.Name, .int .i64 x4.1.Sal, v7, v8, v9] ([x4.1] : List TRule) := RC.cons (c := [.string x4.1.Name, .int .i64 x4.1.Sal, v7, v8, v9]) (cells := []) ⟨v7, (ob v7 ++ D4), v8, G1, v9, G2, rfl, rfl, h6.rsl, h7, h8⟩ rfl (RC.nil _ _ _)
    refine WM.one 4 (by kernel_rfl) (me rfl (fun _ v Φx D w1 hq hw => Kn.of (fun k hk _ _ => by simp at hk) (AllIn.mem ⟨List.mem_of_getElem? (i := 0) rfl, List.mem_of_getElem? (i := 1) rfl, trivial⟩) hw) (e_lit (vs := [(0, .agg [.string x4.1.Name, .int .i64 x4.1.Sal, v7, v8, v9].toArray)]) (C := #[.string x4.1.Name, .int .i64 x4.1.Sal, v7, v8, v9]) RTRule.lasts Sl_27 Zr_66 rfl rfl rfl rfl (fill_made MC_66_1 (fill_cons (cells := [.string ⟨#[]⟩, .int .i64 0, .slice none 0 0, .slice none 0 0, .slice none 0 0]) (c := [.string x4.1.Name, .int .i64 x4.1.Sal, v7, v8, v9]) (C' := [.string x4.1.Name, .int .i64 x4.1.Sal, v7, v8, v9]) rfl rfl rfl rfl rfl (fill_nil))) rfl rc2 rfl (RC.kn RTRule.knows rc2)) rfl (fun v10 Φ_7 D5 q6 => ?_))
    obtain ⟨fr6, h10⟩ := q6
    replace h10 : OSl RTRule 66 5 Φ_7 ((ob v7 ++ D4) ++ (G1 ++ (G2))) v10 ([x4.1] : List TRule) := by simpa [List.append_assoc] using h10
    replace ph0_0 := ph0_0.frame RI.lasts fr6 (Dj.empty _)
    replace h1 := h1.frame RTRule.lasts fr6 (Dj.empty _) (Dj.empty _)
    replace h9 := fr6 _ _ (by simp) h9
    obtain ⟨x6, hx5, h⟩ := bind_some h
    refine WM.one 5 (by kernel_rfl) (me rfl (fun _ v Φx D w1 hq hw => Kn.of (fun k hk _ _ => by simp at hk) (AllIn.mem ⟨List.mem_of_getElem? (i := 0) rfl, List.mem_of_getElem? (i := 1) rfl, trivial⟩) hw) (e_appO RTRule.lasts RTRule.one Sl_27 Ei_66 rfl rfl rfl rfl rfl (js := [5]) (Rr := [ob v10, ob v7, [pb0], X2, [], D1]) rfl h1 h10 (fun ap => (ap.r (i := 5) rfl)) (fun ap => (Dj.sub (Dj.app (Dj.app (ap.r (i := 1) rfl) (Dj.sub (ap.r (i := 3) rfl) i2)) (Dj.app (Dj.sub (ap.r (i := 3) rfl) i3) (Dj.sub (ap.r (i := 3) rfl) i4))) (fun k hk => (by simpa [List.append_assoc] using hk : k ∈ ((ob v7 ++ D4) ++ (G1 ++ G2)))))) hx5) rfl (fun v11 Φ_8 D6 q7 => ?_))
    obtain ⟨⟨ap5, fr7⟩, h11⟩ := q7
    replace ph0_0 := ph0_0.frame RI.lasts fr7 (ap5.o pa0_0)
    replace h9 := fr7 _ _ ((ap5.r (i := 2) rfl) _ (by simp)) h9
    refine mq 6 rfl (by kernel_rfl) (fun w1 hw => Kn.of (fun k hk _ _ => by simp at hk) (AllIn.mem ⟨List.mem_of_getElem? (i := 0) rfl, List.mem_of_getElem? (i := 1) rfl, trivial⟩) hw) (q_fieldAddr Fld_29_1 rfl) rfl ?_
    refine WM.one 7 (by kernel_rfl) (ms rfl (fun hc => by cases hc) (s_store (i := 0) (vs := [v11]) (C' := [.string x1.1.Name, v11]) (O' := [(b_2, .cells #[.string x1.1.Name, v11] 29 (0, 0)), (b_1, .cells #[.string (⟨#[]⟩ : ByteArray), .slice none 0 0] 29 (0, 0))]) Sz_27 rfl rfl rfl (one_cells h11.one) rfl rfl ⟨h11.one, trivial⟩ rfl rfl) rfl ?_)
    refine WM.nil (by kernel_rfl) ?_
    refine WT.conv (S' := St w0 Φ_8 [(b_2, .cells #[.string x1.1.Name, v11] 29 (0, 0)), (b_1, .cells #[.string (⟨#[]⟩ : ByteArray), .slice none 0 0] 29 (0, 0))] [([] ++ (ob v7 ++ (X2))), ob v11, ob v10, [pb0], D1]) (fun w1 hw => hw.merge (js := [5, 2, 3]) rfl (SP.eq (by simp [List.append_assoc]))) ?_
    refine WT.mono (l' := [(2, .pointer (some ⟨b_1, 0, none⟩)), (3, .pointer (some ⟨b_2, 0, none⟩))]) (S' := St w0 Φ_8 [(b_2, .cells #[.string x1.1.Name, v11] 29 (0, 0)), (b_1, .cells #[.string (⟨#[]⟩ : ByteArray), .slice none 0 0] 29 (0, 0))] [([] ++ (ob v7 ++ (X2))), [pb0], ob v11, D1]) ⟨rfl, rfl, trivial⟩ (fun w1 hw => (hw.sel (js := [0, 2, 0, 1]) rfl).selO (js := [0, 0]) rfl) ?_
    exact K (Φ_8, ([] ++ (ob v7 ++ (X2))), x6, v11, (D1 ++ ((ob v7 ++ D4) ++ (G1 ++ (G2)))), x4.2.i, x4.2.h, x1.1.Name) ⟨h, h11, (fun k hk => ((List.mem_append.1 hk).elim (fun h => (List.mem_append.2 (.inl h))) (fun h => ((List.mem_append.1 ((fun k hk => (by simpa [List.append_assoc] using hk : k ∈ ((ob v7 ++ D4) ++ (G1 ++ G2)))) k h)).elim (fun h => ((List.mem_append.1 h).elim (fun h => (List.mem_append.2 (.inr ((fun k hk => (List.mem_append.2 (.inr (List.mem_append.2 (.inl hk))))) k h)))) (fun h => (List.mem_append.2 (.inr ((fun k hk => (List.mem_append.2 (.inr (List.mem_append.2 (.inr hk))))) k (i2 k h))))))) (fun h => ((List.mem_append.1 h).elim (fun h => (List.mem_append.2 (.inr ((fun k hk => (List.mem_append.2 (.inr (List.mem_append.2 (.inr hk))))) k (i3 k h))))) (fun h => (List.mem_append.2 (.inr ((fun k hk => (List.mem_append.2 (.inr (List.mem_append.2 (.inr hk))))) k (i4 k h))))))))))), h9, ph0_0⟩
  replace h := ite_f h c2
  refine WT.seq ?_
  refine WT.region ?_
  refine lq (q_eql rfl rfl) rfl ?_
  refine lq (q_assign rfl) rfl ?_
  refine WL.nil ?_
  refine WT.cond rfl (fun c3 => ?_) (fun c3 => ?_)
  · replace h := ite_t h c3
    refine WT.mix (Kn Φ_2 (ob v2) [(b_2, .cells #[.string x1.1.Name, v2] 29 (0, 0)), (b_1, .cells #[.string (⟨#[]⟩ : ByteArray), .slice none 0 0] 29 (0, 0))]) (fun i => match i with | 9 => false | _ => true) mixed (fun _ h => h.drew) ?_
    refine mq 0 rfl (by kernel_rfl) (fun w1 hw => Kn.of (fun _ _ _ h => h) (AllIn.mem ⟨List.mem_of_getElem? (i := 0) rfl, List.mem_of_getElem? (i := 1) rfl, trivial⟩) hw) (q_fieldAddr Fld_29_1 rfl) rfl ?_
    refine mq 1 rfl (by kernel_rfl) (fun w1 hw => Kn.of (fun _ _ _ h => h) (AllIn.mem ⟨List.mem_of_getElem? (i := 0) rfl, List.mem_of_getElem? (i := 1) rfl, trivial⟩) hw) (q_load1 T1_27 rfl (fun w1 hw => hw.rgO (i := 0) rfl 1 1 [v2] rfl)) rfl ?_
    refine mq 2 rfl (by kernel_rfl) (fun w1 hw => Kn.of (fun _ _ _ h => h) (AllIn.mem ⟨List.mem_of_getElem? (i := 0) rfl, List.mem_of_getElem? (i := 1) rfl, trivial⟩) hw) (q_move rfl) rfl ?_
    refine mq 3 rfl (by kernel_rfl) (fun w1 hw => Kn.of (fun _ _ _ h => h) (AllIn.mem ⟨List.mem_of_getElem? (i := 0) rfl, List.mem_of_getElem? (i := 1) rfl, trivial⟩) hw) (q_fieldAddr Fld_29_1 rfl) rfl ?_
    refine mq 4 rfl (by kernel_rfl) (fun w1 hw => Kn.of (fun _ _ _ h => h) (AllIn.mem ⟨List.mem_of_getElem? (i := 0) rfl, List.mem_of_getElem? (i := 1) rfl, trivial⟩) hw) (q_load1 T1_27 rfl (fun w1 hw => hw.rgO (i := 0) rfl 1 1 [v2] rfl)) rfl ?_
    obtain ⟨x7, hx6, h⟩ := bind_some h
    obtain ⟨cs1, F5, -, g1, hb1, hs1, r1⟩ := h1.elS (idx_some hx6).2.2
    obtain ⟨v12, G3, v13, G4, v14, G5, rfl, rfl, h12, h13, h14⟩ := r1
    refine mq 5 rfl (by kernel_rfl) (fun w1 hw => Kn.of (fun _ _ _ h => h) (AllIn.mem ⟨List.mem_of_getElem? (i := 0) rfl, List.mem_of_getElem? (i := 1) rfl, trivial⟩) hw) (q_indexAddr Sl_27 rfl rfl h1.rsl hx6) rfl ?_
    refine mq 6 rfl (by kernel_rfl) (fun w1 hw => Kn.of (fun _ _ _ h => h) (AllIn.mem ⟨List.mem_of_getElem? (i := 0) rfl, List.mem_of_getElem? (i := 1) rfl, trivial⟩) hw) (q_loadN Tn_66 rfl (fun w1 hw => hw.rg hb1 (g1.of_eq 0 5 rfl rfl : rg _ _ _ [.string x7.Name, .int .i64 x7.Sal, v12, v13, v14])) rfl) rfl ?_
    obtain ⟨x8, hx7, h⟩ := bind_some h
    refine WM.one 7 (by kernel_rfl) (mc rfl (fun _ v Φx D w1 hq hw => Kn.of (fun k hk o ho => hq.2.1 k o ((hq.1.r (i := 1) rfl) k hk) ((fun _ _ _ h => h) k hk o ho)) (AllIn.mem ⟨List.mem_of_getElem? (i := 0) rfl, List.mem_of_getElem? (i := 1) rfl, trivial⟩) hw) (k_call (js := [1]) (R := [[], ob v2, D1]) Fun_207 rfl rfl (fun w1 hw ap hl => m_s_l9Bend_ok hw.fro N (⟨p0.b, x2.2.i, x2.2.h⟩ : Tl1Cur) x7 ph0_0 h3 h12 h13 h14 (ap.o pa0_0) (Dj.sub (ap.r (i := 2) rfl) (fun k h => hs1 k (List.mem_append.2 (.inl h)))) (Dj.sub (ap.r (i := 2) rfl) (fun k h => hs1 k (List.mem_append.2 (.inr (List.mem_append.2 (.inl h)))))) (Dj.sub (ap.r (i := 2) rfl) (fun k h => hs1 k (List.mem_append.2 (.inr (List.mem_append.2 (.inr h)))))) ap.nd hl hx7)) rfl (fun v15 Φ_9 F6 q8 => ?_))
    obtain ⟨ap6, fr8, v16, D7, v17, G6, v18, G7, X3, rfl, rfl, h15, i5, h16, i6, h17, i7, e5, h18⟩ := q8
    replace ph0_0 := ph0_0.frame RI.lasts fr8 (ap6.o pa0_0)
    replace h1 := h1.frame RTRule.lasts fr8 (ap6.r (i := 1) rfl) (ap6.r (i := 2) rfl)
    obtain ⟨x10, hx8, h⟩ := bind_some h
    obtain ⟨cs2, F7, -, g2, hb2, hs2, r2⟩ := h1.elS (idx_some hx8).2.2
    obtain ⟨v19, G8, v20, G9, v21, G10, rfl, rfl, h19, h20, h21⟩ := r2
    refine mq 8 rfl (by kernel_rfl) (fun w1 hw => Kn.of (fun k hk o ho => fr8 k o ((ap6.r (i := 1) rfl) k hk) ((fun _ _ _ h => h) k hk o ho)) (AllIn.mem ⟨List.mem_of_getElem? (i := 0) rfl, List.mem_of_getElem? (i := 1) rfl, trivial⟩) hw) (q_indexAddr Sl_27 rfl rfl h1.rsl hx8) rfl ?_
    have h23 := h15.rsl
    have r3 : RTRule Φ_9 ((ob v16 ++ D7) ++ (G6 ++ (G7))) [.string x8.1.Name, .int .i64 x8.1.Sal, v16, v17, v18] x8.1 := ⟨v16, (ob v16 ++ D7), v17, G6, v18, G7, rfl, rfl, h23, h16, h17⟩
    refine WM.one 9 (by kernel_rfl) (mu rfl (fun hc => by cases hc) (u_setO (js := [4]) (Rr := [ob v16, [pb0], X3, [], D1]) (vs := [.string x8.1.Name, .int .i64 x8.1.Sal, v16, v17, v18]) (x' := x8.1) RTRule.lasts Sz_66 rfl rfl rfl rfl ⟨rfl, rfl, h23.one, h16.one, h17.one, trivial⟩ rfl h1 (idx_lt hx8) r3 (RTRule.knows _ _ _ _ r3) (fun ap => (ap.r (i := 4) rfl)) (fun ap => by simpa using (Dj.app (Dj.app (ap.r (i := 0) rfl) (Dj.sub (Dj.app (ap.r (i := 2) rfl) (Dj.sub (ap.r (i := 4) rfl) (fun k h => hs1 k (List.mem_append.2 (.inl h))))) i5)) (Dj.app (Dj.sub (Dj.app (ap.r (i := 2) rfl) (Dj.sub (ap.r (i := 4) rfl) (fun k h => hs1 k (List.mem_append.2 (.inr (List.mem_append.2 (.inl h))))))) i6) (Dj.sub (Dj.app (ap.r (i := 2) rfl) (Dj.sub (ap.r (i := 4) rfl) (fun k h => hs1 k (List.mem_append.2 (.inr (List.mem_append.2 (.inr h))))))) i7))))) rfl (fun Φ_10 D8 q9 => ?_))
    obtain ⟨⟨ap7, fr9⟩, sp1, h22⟩ := q9
    replace ph0_0 := ph0_0.frame RI.lasts fr9 (ap7.o pa0_0)
    replace h18 := fr9 _ _ ((ap7.r (i := 1) rfl) _ (by simp)) h18
    refine WM.nil (by kernel_rfl) ?_
    refine WT.conv (S' := St w0 Φ_10 [(b_2, .cells #[.string x1.1.Name, v2] 29 (0, 0)), (b_1, .cells #[.string (⟨#[]⟩ : ByteArray), .slice none 0 0] 29 (0, 0))] [([] ++ (ob v16 ++ (X3))), ob v2, [pb0], D1]) (fun w1 hw => hw.merge (js := [4, 1, 2]) rfl (SP.eq (by simp [List.append_assoc]))) ?_
    refine WT.mono (l' := [(2, .pointer (some ⟨b_1, 0, none⟩)), (3, .pointer (some ⟨b_2, 0, none⟩))]) (S' := St w0 Φ_10 [(b_2, .cells #[.string x1.1.Name, v2] 29 (0, 0)), (b_1, .cells #[.string (⟨#[]⟩ : ByteArray), .slice none 0 0] 29 (0, 0))] [([] ++ (ob v16 ++ (X3))), [pb0], ob v2, D1]) ⟨rfl, rfl, trivial⟩ (fun w1 hw => (hw.sel (js := [0, 1, 0, 0]) rfl).selO (js := [0, 0]) rfl) ?_
    exact K (Φ_10, ([] ++ (ob v16 ++ (X3))), (x1.1.Rules.set (0 : Int).toNat x8.1), v2, D8, x8.2.i, x8.2.h, x1.1.Name) ⟨h, h22, (fun k hk => ((List.mem_append.1 ((fun k hk => (by simpa [List.append_assoc] using sp1.mem hk : k ∈ (D1 ++ ((ob v16 ++ D7) ++ (G6 ++ G7))))) k hk)).elim (fun h => (List.mem_append.2 (.inl h))) (fun h => ((List.mem_append.1 h).elim (fun h => ((List.mem_append.1 h).elim (fun h => (List.mem_append.2 (.inr ((fun k hk => (List.mem_append.2 (.inr (List.mem_append.2 (.inl hk))))) k h)))) (fun h => ((List.mem_append.1 (i5 k h)).elim (fun h => (List.mem_append.2 (.inr ((fun k hk => (List.mem_append.2 (.inr (List.mem_append.2 (.inr hk))))) k h)))) (fun h => (List.mem_append.2 (.inl ((fun k h => hs1 k (List.mem_append.2 (.inl h))) k h)))))))) (fun h => ((List.mem_append.1 h).elim (fun h => ((List.mem_append.1 (i6 k h)).elim (fun h => (List.mem_append.2 (.inr ((fun k hk => (List.mem_append.2 (.inr (List.mem_append.2 (.inr hk))))) k h)))) (fun h => (List.mem_append.2 (.inl ((fun k h => hs1 k (List.mem_append.2 (.inr (List.mem_append.2 (.inl h))))) k h)))))) (fun h => ((List.mem_append.1 (i7 k h)).elim (fun h => (List.mem_append.2 (.inr ((fun k hk => (List.mem_append.2 (.inr (List.mem_append.2 (.inr hk))))) k h)))) (fun h => (List.mem_append.2 (.inl ((fun k h => hs1 k (List.mem_append.2 (.inr (List.mem_append.2 (.inr h))))) k h)))))))))))), h18, ph0_0⟩
  replace h := ite_f h c3
  refine WT.seq ?_
  refine WT.region ?_
  refine lq (q_eql rfl rfl) rfl ?_
  refine lq (q_assign rfl) rfl ?_
  refine WL.nil ?_
  refine WT.cond rfl (fun c4 => ?_) (fun c4 => ?_)
  · replace h := ite_t h c4
    refine WT.region ?_
    refine lq (q_fieldAddr Fld_29_1 rfl) rfl ?_
    refine lq (q_load1 T1_27 rfl (fun w1 hw => hw.rgO (i := 0) rfl 1 1 [v2] rfl)) rfl ?_
    obtain ⟨x11, hx9, h⟩ := bind_some h
    refine lq (q_slH Sl_27 rfl rfl h1.rsl hx9) rfl ?_
    obtain ⟨D9, h24, sp2, e7⟩ := h1.pre hx9
    refine WL.conv (S' := St w0 Φ_2 [(b_2, .cells #[.string x1.1.Name, v2] 29 (0, 0)), (b_1, .cells #[.string (⟨#[]⟩ : ByteArray), .slice none 0 0] 29 (0, 0))] [[], [pb0], ob (slc v2 0 (0 : Int).toNat 5), D1]) (fun w1 hw => by simpa only [e7] using hw) ?_
    refine lq (q_fieldAddr Fld_29_1 rfl) rfl ?_
    refine ls (s_store (i := 0) (vs := [(slc v2 0 (0 : Int).toNat 5)]) (C' := [.string x1.1.Name, (slc v2 0 (0 : Int).toNat 5)]) (O' := [(b_2, .cells #[.string x1.1.Name, (slc v2 0 (0 : Int).toNat 5)] 29 (0, 0)), (b_1, .cells #[.string (⟨#[]⟩ : ByteArray), .slice none 0 0] 29 (0, 0))]) Sz_27 rfl rfl rfl (one_cells h24.one) rfl rfl ⟨h24.one, trivial⟩ rfl rfl) rfl ?_
    refine WL.nil ?_
    refine WT.mono (l' := [(2, .pointer (some ⟨b_1, 0, none⟩)), (3, .pointer (some ⟨b_2, 0, none⟩))]) (S' := St w0 Φ_2 [(b_2, .cells #[.string x1.1.Name, (slc v2 0 (0 : Int).toNat 5)] 29 (0, 0)), (b_1, .cells #[.string (⟨#[]⟩ : ByteArray), .slice none 0 0] 29 (0, 0))] [[], [pb0], ob (slc v2 0 (0 : Int).toNat 5), D1]) ⟨rfl, rfl, trivial⟩ (fun w1 hw => (hw.sel (js := [0, 0, 0, 0]) rfl).selO (js := [0, 0]) rfl) ?_
    exact K (Φ_2, [], x11, (slc v2 0 (0 : Int).toNat 5), D9, x2.2.i, x2.2.h, x1.1.Name) ⟨h, h24, (fun k hk => (List.mem_append.2 (.inl ((fun k h => sp2.mem h) k hk)))), h3, ph0_0⟩
  replace h := ite_f h c4
  refine WT.skip ?_
  refine WT.mono (l' := [(2, .pointer (some ⟨b_1, 0, none⟩)), (3, .pointer (some ⟨b_2, 0, none⟩))]) (S' := St w0 Φ_2 [(b_2, .cells #[.string x1.1.Name, v2] 29 (0, 0)), (b_1, .cells #[.string (⟨#[]⟩ : ByteArray), .slice none 0 0] 29 (0, 0))] [[], [pb0], ob v2, D1]) ⟨rfl, rfl, trivial⟩ (fun w1 hw => (hw.sel (js := [0, 0, 0, 0]) rfl).selO (js := [0, 0]) rfl) ?_
  exact K (Φ_2, [], x1.1.Rules, v2, D1, x2.2.i, x2.2.h, x1.1.Name) ⟨h, h1, (fun k hk => (List.mem_append.2 (.inl hk))), h3, ph0_0⟩
theorem m_s_DrawNetOf_ok {Φ : Hp} {w : World} (hΦ : In Φ w) (N : Nat) (p0 : (List Int)) {pv0 : Value} {pG0 : List Nat} (ph0 : RSl (RI .u8) 1 Φ pG0 pv0 p0) {r : TDef} (h : m_s_DrawNetOf N p0 = some r) :
    Calls Try.prog 59 [pv0].toArray w (PostG Φ w [] (fun Φ' Fs v => ∃ (sr_0_0 : Value) (Dr_0_0 : List Nat) (X : List Nat), v = .agg [.string r.Name, sr_0_0].toArray ∧ Fs = [ob sr_0_0, X] ∧ OSl RTRule 66 5 Φ' Dr_0_0 sr_0_0 r.Rules ∧ (∀ k ∈ Dr_0_0, k ∈ X))) := by
  refine enter Try.func59 rfl Try.ntmps59 rfl (St.start0 hΦ) ?_
  have pa0 : Old ⟨w, [], Φ⟩ pG0 := Old.mk hΦ ph0.kn (Dj.empty _)
  unfold m_s_DrawNetOf at h
  refine WT.seq ?_
  refine WT.region ?_
  refine ln (n_alloc (C := #[.string (⟨#[]⟩ : ByteArray), .slice none 0 0]) Zr_29 rfl) rfl (fun b_1 => ?_)
  refine WL.nil ?_
  refine WT.seq ?_
  refine WT.region ?_
  refine lq (q_move rfl) rfl ?_
  obtain ⟨x1, hx1, h⟩ := bind_some h
  refine lc (k_call (js := []) (R := []) Fun_105 rfl rfl (fun w1 hw ap hl => m_s_l1New_ok hw.fro N p0 ph0  hx1)) rfl (fun v1 Φ_1 F1 q1 => ?_)
  obtain ⟨ap1, fr1, b_2, v2, G1, rfl, rfl, h1, i1, h2⟩ := q1
  refine lq (q_assign rfl) rfl ?_
  refine WL.nil ?_
  refine WT.seq ?_
  refine WT.region ?_
  refine lq (q_move rfl) rfl ?_
  obtain ⟨x2, hx2, h⟩ := bind_some h
  refine lc (k_call (js := [0]) (R := []) Fun_134 rfl rfl (fun w1 hw ap hl => m_s_l10Any_ok hw.fro N x1 h1 h2 (Dj.sub (ap.o pa0) i1) ap.nd hl hx2)) rfl (fun v3 Φ_2 F2 q2 => ?_)
  obtain ⟨ap2, fr2, v4, D1, X1, rfl, rfl, h3, i2, e1, h4⟩ := q2
  refine ls (s_store (i := 0) (vs := [.string x2.1.Name, v4]) (C' := [.string x2.1.Name, v4]) (O' := [(b_1, .cells #[.string x2.1.Name, v4] 29 (0, 0))]) Sz_29 rfl rfl rfl rfl rfl rfl ⟨rfl, h3.one, trivial⟩ rfl rfl) rfl ?_
  refine WL.nil ?_
  refine WT.ret Try.func59 (resOk.one (rv_cell Tn_29 rfl (fun w1 hw => hw.rgO (i := 0) rfl 0 2 [.string x2.1.Name, v4] rfl) rfl)) (fun w1 hw => ?_)
  cases h
  replace hw := hw.merge (js := [2]) (F := [X1].flatten) rfl (SP.eq (by simp))
  refine postG_of_St (js := [1, 0]) hw rfl ⟨v4, D1, [X1].flatten, rfl, rfl, h3, (fun k hk => (List.mem_flatten.2 ⟨X1, by simp, (i2 k hk)⟩))⟩
theorem m_sl_IndexFunc_Si_Rule_i_Rule_ok {Φ : Hp} {w : World} (hΦ : In Φ w) (N : Nat) (p0 : (List TRule)) (p1 : TRule → Option (Bool)) {pv0 : Value} {pG0 : List Nat} {p1f : Nat} {p1fr : List Value} (ph0 : RSl RTRule 5 Φ pG0 pv0 p0) (p1hF : Fun Try.prog p1f = true) (p1h : ∀ {Φ' : Hp} {w' : World}, FrH [] Φ Φ' → In Φ' w' → ∀ (p1a0 : TRule) {p1v0_0 : Value} {p1G0_0 : List Nat} {p1v0_1 : Value} {p1G0_1 : List Nat} {p1v0_2 : Value} {p1G0_2 : List Nat} (_ : RSl RTPat 3 Φ' p1G0_0 p1v0_0 p1a0.Pats) (_ : RSl RTCond 11 Φ' p1G0_1 p1v0_1 p1a0.Conds) (_ : RSl RTAct 5 Φ' p1G0_2 p1v0_2 p1a0.Acts) {r : Bool}, p1 p1a0 = some r → Calls Try.prog p1f (([.agg [.string p1a0.Name, .int .i64 p1a0.Sal, p1v0_0, p1v0_1, p1v0_2].toArray] : List Value) ++ p1fr).toArray w' (Post (.bool r) w')) {r : Int} (h : m_sl_IndexFunc_Si_Rule_i_Rule N p0 p1 = some r) :
    Calls Try.prog 70 [pv0, .func (.func p1f) #[] p1fr.toArray].toArray w (Post (.int .i64 r) w) := by
  refine enter Try.func70 rfl Try.ntmps70 rfl (St.start0 hΦ) ?_
  generalize hb0 : (⟨w, [], Φ⟩ : Base) = w0
  unfold m_sl_IndexFunc_Si_Rule_i_Rule at h
  refine WT.seq ?_
  refine WT.region ?_
  refine lq (q_assign rfl) rfl ?_
  refine WL.nil ?_
  refine WT.seq ?_
  refine WT.seq ?_
  refine WT.region ?_
  refine lq (q_move rfl) rfl ?_
  refine lq (q_lenR Sl_27 rfl rfl ph0) rfl ?_
  refine lq (q_move rfl) rfl ?_
  refine WL.nil ?_
  refine WT.block ?_
  refine WT.loop ?_
  refine WT.mono (l' := [(0, pv0), (1, .func (.func p1f) #[] p1fr.toArray), (7, .int .i64 (p0.length : Int)), (8, .int .i64 0)]) (S' := St w0 Φ [] []) ⟨rfl, rfl, rfl, rfl, trivial⟩ (fun w1 hw => (hw.sel (js := []) rfl).selO (js := []) rfl) ?_
  refine loop_ind (σ := Int) (fun s => [(0, pv0), (1, .func (.func p1f) #[] p1fr.toArray), (7, .int .i64 (p0.length : Int)), (8, .int .i64 s)]) (fun s => St w0 Φ [] []) (fun m s => m_sl_IndexFunc_Si_Rule_i_Rule_l1 N p0 p1 m s = some r) (fun s hm => none_ne (show (none : Option (Int)) = some r from hm)) (fun n1 ih1 s hm => ?_) N (0) h
  revert hm; revert s; intro s1 hm
  have h : m_sl_IndexFunc_Si_Rule_i_Rule_l1 N p0 p1 (n1 + 1) s1 = some r := hm
  show WT _ _ [(0, pv0), (1, .func (.func p1f) #[] p1fr.toArray), (7, .int .i64 (p0.length : Int)), (8, .int .i64 s1)] (St w0 Φ [] [])
  unfold m_sl_IndexFunc_Si_Rule_i_Rule_l1 at h
  refine WT.seq ?_
  refine WT.region ?_
  refine lq (q_lss rfl rfl) rfl ?_
  refine WL.nil ?_
  refine WT.seq ?_
  refine WT.cond rfl (fun c1 => ?_) (fun c1 => ?_)
  · replace h := ite_t h c1
    refine WT.skip ?_
    refine WT.seq ?_
    refine WT.block ?_
    refine WT.seq ?_
    refine WT.region ?_
    refine lq (q_move rfl) rfl ?_
    refine lq (q_assign rfl) rfl ?_
    refine WL.nil ?_
    refine WT.seq ?_
    refine WT.region ?_
    refine lq (q_move rfl) rfl ?_
    refine lq (q_move rfl) rfl ?_
    refine lq (q_move rfl) rfl ?_
    obtain ⟨x1, hx1, h⟩ := bind_some h
    obtain ⟨cs1, F1, -, g1, hb1, hs1, r1⟩ := ph0.el (idx_some hx1).2.2
    obtain ⟨v1, G1, v2, G2, v3, G3, rfl, rfl, h1, h2, h3⟩ := r1
    refine lq (q_indexAddr Sl_27 rfl rfl ph0 hx1) rfl ?_
    refine lq (q_loadN Tn_66 rfl (fun w1 hw => (g1.of_eq 0 5 rfl rfl : rg _ _ _ [.string x1.Name, .int .i64 x1.Sal, v1, v2, v3]).rangeAt hw.fro) rfl) rfl ?_
    obtain ⟨x2, hx2, h⟩ := bind_some h
    refine lp (p_callV p1hF rfl rfl (fun w1 hw => p1h (by subst hb0; exact hw.frB hΦ) hw.fro x1 h1 h2 h3 hx2)) rfl ?_
    refine WL.nil ?_
    refine WT.cond rfl (fun c2 => ?_) (fun c2 => ?_)
    · replace h := ite_t h c2
      refine WT.seq ?_
      refine WT.region ?_
      refine lq (q_move rfl) rfl ?_
      refine lq (q_assign rfl) rfl ?_
      refine WL.nil ?_
      refine WT.ret Try.func70 (resOk.one rfl) (fun w1 hw => ?_)
      subst hb0
      cases h
      exact post_of_St hw
    replace h := ite_f h c2
    refine WT.skip ?_
    refine WT.inBlock ?_
    refine WT.region ?_
    refine lq (q_add rfl rfl) rfl ?_
    refine lq (q_move rfl) rfl ?_
    refine WL.nil ?_
    refine WT.inLoop (WT.mono (l' := [(0, pv0), (1, .func (.func p1f) #[] p1fr.toArray), (7, .int .i64 (p0.length : Int)), (8, .int .i64 (IntKind.i64.wrap (s1 + 1)))]) (S' := St w0 Φ [] []) ⟨rfl, rfl, rfl, rfl, trivial⟩ (fun w1 hw => (hw.sel (js := []) rfl).selO (js := []) rfl) ?_)
    exact ih1 (IntKind.i64.wrap (s1 + 1)) h
  replace h := ite_f h c1
  refine WT.exit rfl ?_
  refine WT.seq ?_
  refine WT.region ?_
  refine lq (q_assign rfl) rfl ?_
  refine WL.nil ?_
  refine WT.ret Try.func70 (resOk.one rfl) (fun w1 hw => ?_)
  subst hb0
  cases h
  exact post_of_St hw
theorem m_i_RuleAt_c1_ok {Φ : Hp} {w : World} (hΦ : In Φ w) (N : Nat) (p0 : TRule) (c0 : ByteArray) {pv0_0 : Value} {pG0_0 : List Nat} {pv0_1 : Value} {pG0_1 : List Nat} {pv0_2 : Value} {pG0_2 : List Nat} {pbc0 : Nat} (ph0_0 : RSl RTPat 3 Φ pG0_0 pv0_0 p0.Pats) (ph0_1 : RSl RTCond 11 Φ pG0_1 pv0_1 p0.Conds) (ph0_2 : RSl RTAct 5 Φ pG0_2 pv0_2 p0.Acts) (ppc0 : Φ pbc0 = some (.cells #[.string c0] 9 (0, 0))) {r : Bool} (h : m_i_RuleAt_c1 N p0 c0 = some r) :
    Calls Try.prog 71 [.agg [.string p0.Name, .int .i64 p0.Sal, pv0_0, pv0_1, pv0_2].toArray, .pointer (some ⟨pbc0, 0, none⟩)].toArray w (Post (.bool r) w) := by
  refine enter Try.func71 rfl Try.ntmps71 rfl (St.start0 hΦ) ?_
  unfold m_i_RuleAt_c1 at h
  refine WT.seq ?_
  refine WT.region ?_
  refine ln (n_box (C := #[.string p0.Name, .int .i64 p0.Sal, pv0_0, pv0_1, pv0_2]) rfl rfl) rfl (fun b_1 => ?_)
  refine lq (q_assign rfl) rfl ?_
  refine WL.nil ?_
  refine WT.seq ?_
  refine WT.region ?_
  refine lq (q_fieldAddr Fld_66_0 rfl) rfl ?_
  refine lq (q_load1 T1_9 rfl (fun w1 hw => hw.rgO (i := 0) rfl 0 1 [.string p0.Name] rfl)) rfl ?_
  refine lq (q_load1 T1_9 rfl (fun w1 hw => ((rg_cells ppc0).of_eq 0 1 rfl rfl : rg _ _ _ [.string c0]).rangeAt hw.fro)) rfl ?_
  refine lq (q_seq rfl rfl) rfl ?_
  refine lq (q_assign rfl) rfl ?_
  refine WL.nil ?_
  refine WT.ret Try.func71 (resOk.one rfl) (fun w1 hw => ?_)
  cases h
  exact post_of_St hw
theorem m_i_RuleAt_ok {Φ : Hp} {w : World} (hΦ : In Φ w) (N : Nat) (p0 : TDef) (p1 : ByteArray) {pv0_0 : Value} {pG0_0 : List Nat} (ph0_0 : RSl RTRule 5 Φ pG0_0 pv0_0 p0.Rules) {r : Int} (h : m_i_RuleAt N p0 p1 = some r) :
    Calls Try.prog 16 [.agg [.string p0.Name, pv0_0].toArray, .string p1].toArray w (Post (.int .i64 r) w) := by
  refine enter Try.func16 rfl Try.ntmps16 rfl (St.start0 hΦ) ?_
  unfold m_i_RuleAt at h
  refine WT.seq ?_
  refine WT.region ?_
  refine ln (n_box (C := #[.string p0.Name, pv0_0]) rfl rfl) rfl (fun b_1 => ?_)
  refine ln (n_box (C := #[.string p1]) rfl rfl) rfl (fun b_2 => ?_)
  refine lq (q_assign rfl) rfl ?_
  refine WL.nil ?_
  refine WT.seq ?_
  refine WT.region ?_
  refine lq (q_fieldAddr Fld_29_1 rfl) rfl ?_
  refine lq (q_load1 T1_27 rfl (fun w1 hw => hw.rgO (i := 1) rfl 1 1 [pv0_0] rfl)) rfl ?_
  refine WL.frz (js := [0]) (R := [(b_1, .cells #[.string p0.Name, pv0_0] 29 (0, 0))]) rfl (fun Φ_1 fr1 k1 => ?_)
  replace ph0_0 := ph0_0.frame RTRule.lasts fr1 (Dj.empty _)
  refine lq (q_makeFunc rfl) rfl ?_
  obtain ⟨x1, hx1, h⟩ := bind_some h
  refine lp (p_call Fun_70 rfl (fun w1 hw => m_sl_IndexFunc_Si_Rule_i_Rule_ok hw.fro N p0.Rules (fun a0 => m_i_RuleAt_c1 N a0 p1) ph0_0 Fun_71 (fun hle' hin a0 => fun f0 f1 f2 => fun hr => m_i_RuleAt_c1_ok hin N a0 p1 f0 f1 f2 (hle' _ _ (by simp) k1) hr) hx1)) rfl ?_
  refine lq (q_assign rfl) rfl ?_
  refine WL.nil ?_
  refine WT.ret Try.func16 (resOk.one rfl) (fun w1 hw => ?_)
  cases h
  exact post_of_St hw
theorem m_sl_Index_Sstring_string_ok {Φ : Hp} {w : World} (hΦ : In Φ w) (N : Nat) (p0 : (List ByteArray)) (p1 : ByteArray) {pv0 : Value} {pG0 : List Nat} (ph0 : RSl RS 1 Φ pG0 pv0 p0) {r : Int} (h : m_sl_Index_Sstring_string N p0 p1 = some r) :
    Calls Try.prog 220 [pv0, .string p1].toArray w (Post (.int .i64 r) w) := by
  refine enter Try.func220 rfl Try.ntmps220 rfl (St.start0 hΦ) ?_
  generalize hb0 : (⟨w, [], Φ⟩ : Base) = w0
  unfold m_sl_Index_Sstring_string at h
  refine WT.seq ?_
  refine WT.region ?_
  refine lq (q_assign rfl) rfl ?_
  refine WL.nil ?_
  refine WT.seq ?_
  refine WT.seq ?_
  refine WT.region ?_
  refine lq (q_move rfl) rfl ?_
  refine lq (q_lenR Sl_60 rfl rfl ph0) rfl ?_
  refine lq (q_move rfl) rfl ?_
  refine WL.nil ?_
  refine WT.block ?_
  refine WT.loop ?_
  refine WT.mono (l' := [(0, pv0), (1, .string p1), (7, .int .i64 (p0.length : Int)), (8, .int .i64 0)]) (S' := St w0 Φ [] []) ⟨rfl, rfl, rfl, rfl, trivial⟩ (fun w1 hw => (hw.sel (js := []) rfl).selO (js := []) rfl) ?_
  refine loop_ind (σ := Int) (fun s => [(0, pv0), (1, .string p1), (7, .int .i64 (p0.length : Int)), (8, .int .i64 s)]) (fun s => St w0 Φ [] []) (fun m s => m_sl_Index_Sstring_string_l1 N p0 p1 m s = some r) (fun s hm => none_ne (show (none : Option (Int)) = some r from hm)) (fun n1 ih1 s hm => ?_) N (0) h
  revert hm; revert s; intro s1 hm
  have h : m_sl_Index_Sstring_string_l1 N p0 p1 (n1 + 1) s1 = some r := hm
  show WT _ _ [(0, pv0), (1, .string p1), (7, .int .i64 (p0.length : Int)), (8, .int .i64 s1)] (St w0 Φ [] [])
  unfold m_sl_Index_Sstring_string_l1 at h
  refine WT.seq ?_
  refine WT.region ?_
  refine lq (q_lss rfl rfl) rfl ?_
  refine WL.nil ?_
  refine WT.seq ?_
  refine WT.cond rfl (fun c1 => ?_) (fun c1 => ?_)
  · replace h := ite_t h c1
    refine WT.skip ?_
    refine WT.seq ?_
    refine WT.block ?_
    refine WT.seq ?_
    refine WT.region ?_
    refine lq (q_move rfl) rfl ?_
    refine lq (q_assign rfl) rfl ?_
    refine WL.nil ?_
    refine WT.seq ?_
    refine WT.region ?_
    refine lq (q_move rfl) rfl ?_
    refine lq (q_move rfl) rfl ?_
    refine lq (q_move rfl) rfl ?_
    obtain ⟨x1, hx1, h⟩ := bind_some h
    obtain ⟨cs1, F1, -, g1, hb1, hs1, r1⟩ := ph0.el (idx_some hx1).2.2
    obtain ⟨rfl, -⟩ := r1
    refine lq (q_indexAddr Sl_60 rfl rfl ph0 hx1) rfl ?_
    refine lq (q_load1 T1_9 rfl (fun w1 hw => (g1.of_eq 0 1 rfl rfl : rg _ _ _ [.string x1]).rangeAt hw.fro)) rfl ?_
    refine lq (q_seq rfl rfl) rfl ?_
    refine WL.nil ?_
    refine WT.cond rfl (fun c2 => ?_) (fun c2 => ?_)
    · replace h := ite_t h c2
      refine WT.seq ?_
      refine WT.region ?_
      refine lq (q_move rfl) rfl ?_
      refine lq (q_assign rfl) rfl ?_
      refine WL.nil ?_
      refine WT.ret Try.func220 (resOk.one rfl) (fun w1 hw => ?_)
      subst hb0
      cases h
      exact post_of_St hw
    replace h := ite_f h c2
    refine WT.skip ?_
    refine WT.inBlock ?_
    refine WT.region ?_
    refine lq (q_add rfl rfl) rfl ?_
    refine lq (q_move rfl) rfl ?_
    refine WL.nil ?_
    refine WT.inLoop (WT.mono (l' := [(0, pv0), (1, .string p1), (7, .int .i64 (p0.length : Int)), (8, .int .i64 (IntKind.i64.wrap (s1 + 1)))]) (S' := St w0 Φ [] []) ⟨rfl, rfl, rfl, rfl, trivial⟩ (fun w1 hw => (hw.sel (js := []) rfl).selO (js := []) rfl) ?_)
    exact ih1 (IntKind.i64.wrap (s1 + 1)) h
  replace h := ite_f h c1
  refine WT.exit rfl ?_
  refine WT.seq ?_
  refine WT.region ?_
  refine lq (q_assign rfl) rfl ?_
  refine WL.nil ?_
  refine WT.ret Try.func220 (resOk.one rfl) (fun w1 hw => ?_)
  subst hb0
  cases h
  exact post_of_St hw
theorem m_sl_Contains_Sstring_string_ok {Φ : Hp} {w : World} (hΦ : In Φ w) (N : Nat) (p0 : (List ByteArray)) (p1 : ByteArray) {pv0 : Value} {pG0 : List Nat} (ph0 : RSl RS 1 Φ pG0 pv0 p0) {r : Bool} (h : m_sl_Contains_Sstring_string N p0 p1 = some r) :
    Calls Try.prog 153 [pv0, .string p1].toArray w (Post (.bool r) w) := by
  refine enter Try.func153 rfl Try.ntmps153 rfl (St.start0 hΦ) ?_
  unfold m_sl_Contains_Sstring_string at h
  refine WT.seq ?_
  refine WT.region ?_
  refine lq (q_assign rfl) rfl ?_
  refine WL.nil ?_
  refine WT.seq ?_
  refine WT.region ?_
  refine lq (q_move rfl) rfl ?_
  refine lq (q_move rfl) rfl ?_
  obtain ⟨x1, hx1, h⟩ := bind_some h
  refine lp (p_call Fun_220 rfl (fun w1 hw => m_sl_Index_Sstring_string_ok hw.fro N p0 p1 ph0 hx1)) rfl ?_
  refine lq (q_geq rfl rfl) rfl ?_
  refine lq (q_assign rfl) rfl ?_
  refine WL.nil ?_
  refine WT.ret Try.func153 (resOk.one rfl) (fun w1 hw => ?_)
  cases h
  exact post_of_St hw
theorem m_i_addOnce_ok {Φ : Hp} {w : World} (hΦ : In Φ w) (N : Nat) (p0 : (List ByteArray)) (p1 : ByteArray) {pv0 : Value} (ph0 : OSl RS 9 1 Φ [] pv0 p0) (hB : [ob pv0].flatten.Nodup) (hlt : ∀ k ∈ [ob pv0].flatten, k < w.heap.size) {r : (List ByteArray)} (h : m_i_addOnce N p0 p1 = some r) :
    Calls Try.prog 97 [pv0, .string p1].toArray w (PostG Φ w [ob pv0].flatten (fun Φ' Fs v => ∃ (sr_0_0 : Value), v = sr_0_0 ∧ Fs = [ob sr_0_0] ∧ OSl RS 9 1 Φ' [] sr_0_0 r)) := by
  refine enter Try.func97 rfl Try.ntmps97 rfl (St.start hΦ [ob pv0] hB hlt) ?_
  unfold m_i_addOnce at h
  refine WT.seq ?_
  refine WT.region ?_
  refine lq (q_assign rfl) rfl ?_
  refine WL.nil ?_
  refine WT.seq ?_
  refine WT.seq ?_
  refine WT.region ?_
  refine lq (q_move rfl) rfl ?_
  refine lq (q_move rfl) rfl ?_
  obtain ⟨x1, hx1, h⟩ := bind_some h
  refine lp (p_call Fun_153 rfl (fun w1 hw => m_sl_Contains_Sstring_string_ok hw.fro N p0 p1 ph0.rsl hx1)) rfl ?_
  refine WL.nil ?_
  refine WT.cond rfl (fun c1 => ?_) (fun c1 => ?_)
  · replace h := ite_t h c1
    refine WT.seq ?_
    refine WT.region ?_
    refine lq (q_move rfl) rfl ?_
    refine lq (q_assign rfl) rfl ?_
    refine WL.nil ?_
    refine WT.ret Try.func97 (resOk.one rfl) (fun w1 hw => ?_)
    cases h
    refine postG_of_St (js := [0]) hw rfl ⟨pv0, rfl, rfl, ph0⟩
  replace h := ite_f h c1
  refine WT.skip ?_
  refine WT.seq ?_
  refine WT.region ?_
  refine lq (q_move rfl) rfl ?_
  refine lq (q_move rfl) rfl ?_
  have rc1 : RC RS 1 Φ ([[]] : List (List Nat)) [.string p1] ([p1] : List ByteArray) := RC.cons (c := [.string p1]) (cells := []) ⟨rfl, rfl⟩ rfl (RC.nil _ _ _)
  refine le' (e_lit (vs := [(0, .string p1)]) (C := #[.string p1]) RS.lasts Sl_60 Zr_9 rfl rfl rfl rfl (fill_made MC_9_1 (fill_cons (cells := [.string ⟨#[]⟩]) (c := [.string p1]) (C' := [.string p1]) rfl rfl rfl rfl rfl (fill_nil))) rfl rc1 rfl (by simpa using Kw.nil)) rfl (fun v1 Φ_1 D1 q1 => ?_)
  obtain ⟨fr1, h1⟩ := q1
  replace h1 : OSl RS 9 1 Φ_1 [] v1 ([p1] : List ByteArray) := by simpa using h1
  replace ph0 := ph0.frame RS.lasts fr1 (Dj.empty _) (Dj.empty _)
  obtain ⟨x2, hx2, h⟩ := bind_some h
  refine le' (e_appF RS.lasts RS.one RS.flat Sl_60 Ei_9 rfl rfl rfl rfl rfl (js := [1]) (Rr := [ob v1]) rfl ph0 h1.rsl hx2) rfl (fun v2 Φ_2 D2 q2 => ?_)
  obtain ⟨⟨ap1, fr2⟩, h2⟩ := q2
  refine lq (q_assign rfl) rfl ?_
  refine WL.nil ?_
  refine WT.ret Try.func97 (resOk.one rfl) (fun w1 hw => ?_)
  cases h
  refine postG_of_St (js := [0]) hw rfl ⟨v2, rfl, rfl, h2⟩
theorem m_i_addVars_ok {Φ : Hp} {w : World} (hΦ : In Φ w) (N : Nat) (p0 : (List ByteArray)) (p1 : (List TArg)) {pv0 : Value} {pv1 : Value} {pG1 : List Nat} (ph0 : OSl RS 9 1 Φ [] pv0 p0) (ph1 : RSl RTArg 5 Φ pG1 pv1 p1) (pd1 : Dj pG1 [ob pv0].flatten) (hB : [ob pv0].flatten.Nodup) (hlt : ∀ k ∈ [ob pv0].flatten, k < w.heap.size) {r : (List ByteArray)} (h : m_i_addVars N p0 p1 = some r) :
    Calls Try.prog 121 [pv0, pv1].toArray w (PostG Φ w [ob pv0].flatten (fun Φ' Fs v => ∃ (sr_0_0 : Value), v = sr_0_0 ∧ Fs = [ob sr_0_0] ∧ OSl RS 9 1 Φ' [] sr_0_0 r)) := by
  refine enter Try.func121 rfl Try.ntmps121 rfl (St.start hΦ [ob pv0] hB hlt) ?_
  have pa1 : Old ⟨w, [ob pv0].flatten, Φ⟩ pG1 := Old.mk hΦ ph1.kn pd1
  revert pa1
  generalize hb0 : (⟨w, [ob pv0].flatten, Φ⟩ : Base) = w0
  intro pa1
  unfold m_i_addVars at h
  refine WT.seq ?_
  refine WT.region ?_
  refine lq (q_assign rfl) rfl ?_
  refine WL.nil ?_
  refine WT.seq ?_
  refine WT.seq ?_
  refine WT.region ?_
  refine lq (q_move rfl) rfl ?_
  refine lq (q_lenR Sl_119 rfl rfl ph1) rfl ?_
  refine lq (q_move rfl) rfl ?_
  refine WL.nil ?_
  refine WT.block ?_
  refine WT.loop ?_
  refine WT.mono (l' := [(0, pv0), (7, pv1), (8, .int .i64 (p1.length : Int)), (9, .int .i64 0)]) (S' := St w0 Φ [] [ob pv0]) ⟨rfl, rfl, rfl, rfl, trivial⟩ (fun w1 hw => (hw.sel (js := [0]) rfl).selO (js := []) rfl) ?_
  refine loop_ind (σ := Hp × (List ByteArray) × Value × Int) (fun s => [(0, s.2.2.1), (7, pv1), (8, .int .i64 (p1.length : Int)), (9, .int .i64 s.2.2.2)]) (fun s => St w0 s.1 [] [ob s.2.2.1]) (fun m s => m_i_addVars_l1 N p1 m s.2.1 s.2.2.2 = some r ∧ (OSl RS 9 1 s.1 [] s.2.2.1 s.2.1) ∧ (RSl RTArg 5 s.1 pG1 pv1 p1)) (fun s hm => none_ne (show (none : Option ((List ByteArray))) = some r from hm.1)) (fun n1 ih1 s hm => ?_) N (Φ, p0, pv0, 0) ⟨h, ph0, ph1⟩
  obtain ⟨Φ_1, s1, u1, s2⟩ := s
  obtain ⟨h, k1, ph1⟩ := hm
  replace h : m_i_addVars_l1 N p1 (n1 + 1) s1 s2 = some r := h
  replace k1 : OSl RS 9 1 Φ_1 [] u1 s1 := k1
  replace ph1 : RSl RTArg 5 Φ_1 pG1 pv1 p1 := ph1
  show WT _ _ [(0, u1), (7, pv1), (8, .int .i64 (p1.length : Int)), (9, .int .i64 s2)] (St w0 Φ_1 [] [ob u1])
  unfold m_i_addVars_l1 at h
  refine WT.seq ?_
  refine WT.region ?_
  refine lq (q_lss rfl rfl) rfl ?_
  refine WL.nil ?_
  refine WT.seq ?_
  refine WT.cond rfl (fun c1 => ?_) (fun c1 => ?_)
  · replace h := ite_t h c1
    refine WT.skip ?_
    refine WT.seq ?_
    refine WT.block ?_
    refine WT.seq ?_
    refine WT.region ?_
    obtain ⟨x1, hx1, h⟩ := bind_some h
    obtain ⟨cs1, F1, -, g1, hb1, hs1, r1⟩ := ph1.el (idx_some hx1).2.2
    obtain ⟨rfl, -⟩ := r1
    refine lq (q_indexAddr Sl_119 rfl rfl ph1 hx1) rfl ?_
    refine lq (q_loadN Tn_206 rfl (fun w1 hw => (g1.of_eq 0 5 rfl rfl : rg _ _ _ [.int .i64 x1.K, .string x1.S, .int .i64 x1.V.K, .int .i64 x1.V.N, .string x1.V.S]).rangeAt hw.fro) rfl) rfl ?_
    refine ln (n_alloc (C := #[.int .i64 0, .string (⟨#[]⟩ : ByteArray), .int .i64 0, .int .i64 0, .string (⟨#[]⟩ : ByteArray)]) Zr_206 rfl) rfl (fun b_1 => ?_)
    refine ls (s_store (i := 0) (vs := [.int .i64 x1.K, .string x1.S, .int .i64 x1.V.K, .int .i64 x1.V.N, .string x1.V.S]) (C' := [.int .i64 x1.K, .string x1.S, .int .i64 x1.V.K, .int .i64 x1.V.N, .string x1.V.S]) (O' := [(b_1, .cells #[.int .i64 x1.K, .string x1.S, .int .i64 x1.V.K, .int .i64 x1.V.N, .string x1.V.S] 206 (0, 0))]) Sz_206 rfl rfl rfl rfl rfl rfl ⟨rfl, rfl, rfl, rfl, rfl, trivial⟩ rfl rfl) rfl ?_
    refine WL.nil ?_
    refine WT.seq ?_
    refine WT.region ?_
    refine lq (q_fieldAddr Fld_206_0 rfl) rfl ?_
    refine lq (q_load1 T1_3 rfl (fun w1 hw => hw.rgO (i := 0) rfl 0 1 [.int .i64 x1.K] rfl)) rfl ?_
    refine lq (q_eql rfl rfl) rfl ?_
    refine WL.nil ?_
    refine WT.cond rfl (fun c2 => ?_) (fun c2 => ?_)
    · replace h := ite_t h c2
      refine WT.region ?_
      refine lq (q_move rfl) rfl ?_
      refine lq (q_fieldAddr Fld_206_1 rfl) rfl ?_
      refine lq (q_load1 T1_9 rfl (fun w1 hw => hw.rgO (i := 0) rfl 1 1 [.string x1.S] rfl)) rfl ?_
      obtain ⟨x2, hx2, h⟩ := bind_some h
      refine lc (k_call (js := [0]) (R := []) Fun_97 rfl rfl (fun w1 hw ap hl => m_i_addOnce_ok hw.fro N s1 x1.S k1 ap.nd hl hx2)) rfl (fun v1 Φ_2 F2 q1 => ?_)
      obtain ⟨ap1, fr1, v2, rfl, rfl, h1⟩ := q1
      replace ph1 := ph1.frame RTArg.lasts fr1 (ap1.o pa1)
      refine lq (q_assign rfl) rfl ?_
      refine WL.nil ?_
      refine WT.inBlock ?_
      refine WT.region ?_
      refine lq (q_add rfl rfl) rfl ?_
      refine lq (q_move rfl) rfl ?_
      refine WL.nil ?_
      refine WT.inLoop (WT.mono (l' := [(0, v1), (7, pv1), (8, .int .i64 (p1.length : Int)), (9, .int .i64 (IntKind.i64.wrap (s2 + 1)))]) (S' := St w0 Φ_2 [] [ob v1]) ⟨rfl, rfl, rfl, rfl, trivial⟩ (fun w1 hw => (hw.sel (js := [0]) rfl).selO (js := []) rfl) ?_)
      exact ih1 (Φ_2, x2, v1, IntKind.i64.wrap (s2 + 1)) ⟨h, h1, ph1⟩
    replace h := ite_f h c2
    refine WT.skip ?_
    refine WT.inBlock ?_
    refine WT.region ?_
    refine lq (q_add rfl rfl) rfl ?_
    refine lq (q_move rfl) rfl ?_
    refine WL.nil ?_
    refine WT.inLoop (WT.mono (l' := [(0, u1), (7, pv1), (8, .int .i64 (p1.length : Int)), (9, .int .i64 (IntKind.i64.wrap (s2 + 1)))]) (S' := St w0 Φ_1 [] [ob u1]) ⟨rfl, rfl, rfl, rfl, trivial⟩ (fun w1 hw => (hw.sel (js := [0]) rfl).selO (js := []) rfl) ?_)
    exact ih1 (Φ_1, s1, u1, IntKind.i64.wrap (s2 + 1)) ⟨h, k1, ph1⟩
  replace h := ite_f h c1
  refine WT.exit rfl ?_
  refine WT.seq ?_
  refine WT.region ?_
  refine lq (q_move rfl) rfl ?_
  refine lq (q_assign rfl) rfl ?_
  refine WL.nil ?_
  refine WT.ret Try.func121 (resOk.one rfl) (fun w1 hw => ?_)
  subst hb0
  cases h
  refine postG_of_St (js := [0]) hw rfl ⟨u1, rfl, rfl, k1⟩
theorem m_i_PosVars_ok {Φ : Hp} {w : World} (hΦ : In Φ w) (N : Nat) (p0 : TRule) {pv0_0 : Value} {pG0_0 : List Nat} {pv0_1 : Value} {pG0_1 : List Nat} {pv0_2 : Value} {pG0_2 : List Nat} (ph0_0 : RSl RTPat 3 Φ pG0_0 pv0_0 p0.Pats) (ph0_1 : RSl RTCond 11 Φ pG0_1 pv0_1 p0.Conds) (ph0_2 : RSl RTAct 5 Φ pG0_2 pv0_2 p0.Acts) {r : (List ByteArray)} (h : m_i_PosVars N p0 = some r) :
    Calls Try.prog 46 [.agg [.string p0.Name, .int .i64 p0.Sal, pv0_0, pv0_1, pv0_2].toArray].toArray w (PostG Φ w [] (fun Φ' Fs v => ∃ (sr_0_0 : Value), v = sr_0_0 ∧ Fs = [ob sr_0_0] ∧ OSl RS 9 1 Φ' [] sr_0_0 r)) := by
  refine enter Try.func46 rfl Try.ntmps46 rfl (St.start0 hΦ) ?_
  have pa0_0 : Old ⟨w, [], Φ⟩ pG0_0 := Old.mk hΦ ph0_0.kn (Dj.empty _)
  revert pa0_0
  generalize hb0 : (⟨w, [], Φ⟩ : Base) = w0
  intro pa0_0
  unfold m_i_PosVars at h
  refine WT.seq ?_
  refine WT.region ?_
  refine ln (n_box (C := #[.string p0.Name, .int .i64 p0.Sal, pv0_0, pv0_1, pv0_2]) rfl rfl) rfl (fun b_1 => ?_)
  refine lq (q_assign rfl) rfl ?_
  refine WL.nil ?_
  refine WT.seq ?_
  refine WT.region ?_
  refine lq (q_assign rfl) rfl ?_
  refine WL.nil ?_
  refine WT.seq ?_
  refine WT.seq ?_
  refine WT.region ?_
  refine lq (q_fieldAddr Fld_66_2 rfl) rfl ?_
  refine lq (q_load1 T1_62 rfl (fun w1 hw => hw.rgO (i := 0) rfl 2 1 [pv0_0] rfl)) rfl ?_
  refine lq (q_lenR Sl_62 rfl rfl ph0_0) rfl ?_
  refine lq (q_move rfl) rfl ?_
  refine WL.nil ?_
  refine WT.block ?_
  refine WT.loop ?_
  refine WT.conv (S' := St w0 Φ [(b_1, .cells #[.string p0.Name, .int .i64 p0.Sal, pv0_0, pv0_1, pv0_2] 66 (0, 0))] (ob (.slice none 0 0) :: [])) (fun w1 hw => hw.addNil) ?_
  have k1 := OSl.nil RS 9 1 Φ
  refine WT.mono (l' := [(3, (.slice none 0 0)), (7, pv0_0), (8, .int .i64 (p0.Pats.length : Int)), (9, .int .i64 0)]) (S' := St w0 Φ [] [ob (.slice none 0 0)]) ⟨rfl, rfl, rfl, rfl, trivial⟩ (fun w1 hw => (hw.sel (js := [0]) rfl).selO (js := []) rfl) ?_
  refine loop_ind (σ := Hp × (List ByteArray) × Value × Int) (fun s => [(3, s.2.2.1), (7, pv0_0), (8, .int .i64 (p0.Pats.length : Int)), (9, .int .i64 s.2.2.2)]) (fun s => St w0 s.1 [] [ob s.2.2.1]) (fun m s => m_i_PosVars_l1 N p0 m s.2.1 s.2.2.2 = some r ∧ (OSl RS 9 1 s.1 [] s.2.2.1 s.2.1) ∧ (RSl RTPat 3 s.1 pG0_0 pv0_0 p0.Pats)) (fun s hm => none_ne (show (none : Option ((List ByteArray))) = some r from hm.1)) (fun n1 ih1 s hm => ?_) N (Φ, ([] : List ByteArray), (.slice none 0 0), 0) ⟨h, k1, ph0_0⟩
  obtain ⟨Φ_1, s1, u1, s2⟩ := s
  obtain ⟨h, k2, ph0_0⟩ := hm
  replace h : m_i_PosVars_l1 N p0 (n1 + 1) s1 s2 = some r := h
  replace k2 : OSl RS 9 1 Φ_1 [] u1 s1 := k2
  replace ph0_0 : RSl RTPat 3 Φ_1 pG0_0 pv0_0 p0.Pats := ph0_0
  show WT _ _ [(3, u1), (7, pv0_0), (8, .int .i64 (p0.Pats.length : Int)), (9, .int .i64 s2)] (St w0 Φ_1 [] [ob u1])
  unfold m_i_PosVars_l1 at h
  refine WT.seq ?_
  refine WT.region ?_
  refine lq (q_lss rfl rfl) rfl ?_
  refine WL.nil ?_
  refine WT.seq ?_
  refine WT.cond rfl (fun c1 => ?_) (fun c1 => ?_)
  · replace h := ite_t h c1
    refine WT.skip ?_
    refine WT.seq ?_
    refine WT.block ?_
    refine WT.seq ?_
    refine WT.region ?_
    obtain ⟨x1, hx1, h⟩ := bind_some h
    obtain ⟨cs1, F1, -, g1, hb1, hs1, r1⟩ := ph0_0.el (idx_some hx1).2.2
    obtain ⟨v1, G1, rfl, hq1, h1⟩ := r1
    obtain rfl := hq1.symm
    refine lq (q_indexAddr Sl_62 rfl rfl ph0_0 hx1) rfl ?_
    refine lq (q_loadN Tn_121 rfl (fun w1 hw => (g1.of_eq 0 3 rfl rfl : rg _ _ _ [.string x1.Kind, v1, .bool x1.Not]).rangeAt hw.fro) rfl) rfl ?_
    refine ln (n_alloc (C := #[.string (⟨#[]⟩ : ByteArray), .slice none 0 0, .bool false]) Zr_121 rfl) rfl (fun b_2 => ?_)
    refine ls (s_store (i := 0) (vs := [.string x1.Kind, v1, .bool x1.Not]) (C' := [.string x1.Kind, v1, .bool x1.Not]) (O' := [(b_2, .cells #[.string x1.Kind, v1, .bool x1.Not] 121 (0, 0))]) Sz_121 rfl rfl rfl rfl rfl rfl ⟨rfl, h1.one, rfl, trivial⟩ rfl rfl) rfl ?_
    refine WL.nil ?_
    refine WT.seq ?_
    refine WT.region ?_
    refine lq (q_fieldAddr Fld_121_2 rfl) rfl ?_
    refine lq (q_load1 T1_4 rfl (fun w1 hw => hw.rgO (i := 0) rfl 2 1 [.bool x1.Not] rfl)) rfl ?_
    refine lq (q_not rfl) rfl ?_
    refine WL.nil ?_
    refine WT.cond rfl (fun c2 => ?_) (fun c2 => ?_)
    · replace h := ite_t h c2
      refine WT.region ?_
      refine lq (q_move rfl) rfl ?_
      refine lq (q_fieldAddr Fld_121_1 rfl) rfl ?_
      refine lq (q_load1 T1_119 rfl (fun w1 hw => hw.rgO (i := 0) rfl 1 1 [v1] rfl)) rfl ?_
      obtain ⟨x2, hx2, h⟩ := bind_some h
      refine lc (k_call (js := [0]) (R := []) Fun_121 rfl rfl (fun w1 hw ap hl => m_i_addVars_ok hw.fro N s1 x1.Args k2 h1 (Dj.sub (ap.o pa0_0) (fun k h => hs1 k h)) ap.nd hl hx2)) rfl (fun v2 Φ_2 F2 q1 => ?_)
      obtain ⟨ap1, fr1, v3, rfl, rfl, h2⟩ := q1
      replace ph0_0 := ph0_0.frame RTPat.lasts fr1 (ap1.o pa0_0)
      refine lq (q_assign rfl) rfl ?_
      refine WL.nil ?_
      refine WT.inBlock ?_
      refine WT.region ?_
      refine lq (q_add rfl rfl) rfl ?_
      refine lq (q_move rfl) rfl ?_
      refine WL.nil ?_
      refine WT.inLoop (WT.mono (l' := [(3, v2), (7, pv0_0), (8, .int .i64 (p0.Pats.length : Int)), (9, .int .i64 (IntKind.i64.wrap (s2 + 1)))]) (S' := St w0 Φ_2 [] [ob v2]) ⟨rfl, rfl, rfl, rfl, trivial⟩ (fun w1 hw => (hw.sel (js := [0]) rfl).selO (js := []) rfl) ?_)
      exact ih1 (Φ_2, x2, v2, IntKind.i64.wrap (s2 + 1)) ⟨h, h2, ph0_0⟩
    replace h := ite_f h c2
    refine WT.skip ?_
    refine WT.inBlock ?_
    refine WT.region ?_
    refine lq (q_add rfl rfl) rfl ?_
    refine lq (q_move rfl) rfl ?_
    refine WL.nil ?_
    refine WT.inLoop (WT.mono (l' := [(3, u1), (7, pv0_0), (8, .int .i64 (p0.Pats.length : Int)), (9, .int .i64 (IntKind.i64.wrap (s2 + 1)))]) (S' := St w0 Φ_1 [] [ob u1]) ⟨rfl, rfl, rfl, rfl, trivial⟩ (fun w1 hw => (hw.sel (js := [0]) rfl).selO (js := []) rfl) ?_)
    exact ih1 (Φ_1, s1, u1, IntKind.i64.wrap (s2 + 1)) ⟨h, k2, ph0_0⟩
  replace h := ite_f h c1
  refine WT.exit rfl ?_
  refine WT.seq ?_
  refine WT.region ?_
  refine lq (q_move rfl) rfl ?_
  refine lq (q_assign rfl) rfl ?_
  refine WL.nil ?_
  refine WT.ret Try.func46 (resOk.one rfl) (fun w1 hw => ?_)
  subst hb0
  cases h
  refine postG_of_St (js := [0]) hw rfl ⟨u1, rfl, rfl, k2⟩
theorem m_i_PosCount_ok {Φ : Hp} {w : World} (hΦ : In Φ w) (N : Nat) (p0 : TRule) {pv0_0 : Value} {pG0_0 : List Nat} {pv0_1 : Value} {pG0_1 : List Nat} {pv0_2 : Value} {pG0_2 : List Nat} (ph0_0 : RSl RTPat 3 Φ pG0_0 pv0_0 p0.Pats) (ph0_1 : RSl RTCond 11 Φ pG0_1 pv0_1 p0.Conds) (ph0_2 : RSl RTAct 5 Φ pG0_2 pv0_2 p0.Acts) {r : Int} (h : m_i_PosCount N p0 = some r) :
    Calls Try.prog 64 [.agg [.string p0.Name, .int .i64 p0.Sal, pv0_0, pv0_1, pv0_2].toArray].toArray w (Post (.int .i64 r) w) := by
  refine enter Try.func64 rfl Try.ntmps64 rfl (St.start0 hΦ) ?_
  generalize hb0 : (⟨w, [], Φ⟩ : Base) = w0
  unfold m_i_PosCount at h
  refine WT.seq ?_
  refine WT.region ?_
  refine ln (n_box (C := #[.string p0.Name, .int .i64 p0.Sal, pv0_0, pv0_1, pv0_2]) rfl rfl) rfl (fun b_1 => ?_)
  refine lq (q_assign rfl) rfl ?_
  refine WL.nil ?_
  refine WT.seq ?_
  refine WT.region ?_
  refine lq (q_assign rfl) rfl ?_
  refine WL.nil ?_
  refine WT.seq ?_
  refine WT.seq ?_
  refine WT.region ?_
  refine lq (q_fieldAddr Fld_66_2 rfl) rfl ?_
  refine lq (q_load1 T1_62 rfl (fun w1 hw => hw.rgO (i := 0) rfl 2 1 [pv0_0] rfl)) rfl ?_
  refine lq (q_lenR Sl_62 rfl rfl ph0_0) rfl ?_
  refine lq (q_move rfl) rfl ?_
  refine WL.nil ?_
  refine WT.block ?_
  refine WT.loop ?_
  refine WT.mono (l' := [(3, .int .i64 0), (7, pv0_0), (8, .int .i64 (p0.Pats.length : Int)), (9, .int .i64 0)]) (S' := St w0 Φ [] []) ⟨rfl, rfl, rfl, rfl, trivial⟩ (fun w1 hw => (hw.sel (js := []) rfl).selO (js := []) rfl) ?_
  refine loop_ind (σ := Int × Int) (fun s => [(3, .int .i64 s.1), (7, pv0_0), (8, .int .i64 (p0.Pats.length : Int)), (9, .int .i64 s.2)]) (fun s => St w0 Φ [] []) (fun m s => m_i_PosCount_l1 N p0 m s.1 s.2 = some r) (fun s hm => none_ne (show (none : Option (Int)) = some r from hm)) (fun n1 ih1 s hm => ?_) N (0, 0) h
  obtain ⟨s1, s2⟩ := s
  have h : m_i_PosCount_l1 N p0 (n1 + 1) s1 s2 = some r := hm
  show WT _ _ [(3, .int .i64 s1), (7, pv0_0), (8, .int .i64 (p0.Pats.length : Int)), (9, .int .i64 s2)] (St w0 Φ [] [])
  unfold m_i_PosCount_l1 at h
  refine WT.seq ?_
  refine WT.region ?_
  refine lq (q_lss rfl rfl) rfl ?_
  refine WL.nil ?_
  refine WT.seq ?_
  refine WT.cond rfl (fun c1 => ?_) (fun c1 => ?_)
  · replace h := ite_t h c1
    refine WT.skip ?_
    refine WT.seq ?_
    refine WT.block ?_
    refine WT.seq ?_
    refine WT.region ?_
    obtain ⟨x1, hx1, h⟩ := bind_some h
    obtain ⟨cs1, F1, -, g1, hb1, hs1, r1⟩ := ph0_0.el (idx_some hx1).2.2
    obtain ⟨v1, G1, rfl, hq1, h1⟩ := r1
    obtain rfl := hq1.symm
    refine lq (q_indexAddr Sl_62 rfl rfl ph0_0 hx1) rfl ?_
    refine lq (q_loadN Tn_121 rfl (fun w1 hw => (g1.of_eq 0 3 rfl rfl : rg _ _ _ [.string x1.Kind, v1, .bool x1.Not]).rangeAt hw.fro) rfl) rfl ?_
    refine ln (n_alloc (C := #[.string (⟨#[]⟩ : ByteArray), .slice none 0 0, .bool false]) Zr_121 rfl) rfl (fun b_2 => ?_)
    refine ls (s_store (i := 0) (vs := [.string x1.Kind, v1, .bool x1.Not]) (C' := [.string x1.Kind, v1, .bool x1.Not]) (O' := [(b_2, .cells #[.string x1.Kind, v1, .bool x1.Not] 121 (0, 0))]) Sz_121 rfl rfl rfl rfl rfl rfl ⟨rfl, h1.one, rfl, trivial⟩ rfl rfl) rfl ?_
    refine WL.nil ?_
    refine WT.seq ?_
    refine WT.region ?_
    refine lq (q_fieldAddr Fld_121_2 rfl) rfl ?_
    refine lq (q_load1 T1_4 rfl (fun w1 hw => hw.rgO (i := 0) rfl 2 1 [.bool x1.Not] rfl)) rfl ?_
    refine lq (q_not rfl) rfl ?_
    refine WL.nil ?_
    refine WT.cond rfl (fun c2 => ?_) (fun c2 => ?_)
    · replace h := ite_t h c2
      refine WT.region ?_
      refine lq (q_move rfl) rfl ?_
      refine lq (q_add rfl rfl) rfl ?_
      refine lq (q_assign rfl) rfl ?_
      refine WL.nil ?_
      refine WT.inBlock ?_
      refine WT.region ?_
      refine lq (q_add rfl rfl) rfl ?_
      refine lq (q_move rfl) rfl ?_
      refine WL.nil ?_
      refine WT.inLoop (WT.mono (l' := [(3, .int .i64 (IntKind.i64.wrap (s1 + 1))), (7, pv0_0), (8, .int .i64 (p0.Pats.length : Int)), (9, .int .i64 (IntKind.i64.wrap (s2 + 1)))]) (S' := St w0 Φ [] []) ⟨rfl, rfl, rfl, rfl, trivial⟩ (fun w1 hw => (hw.sel (js := []) rfl).selO (js := []) rfl) ?_)
      exact ih1 (IntKind.i64.wrap (s1 + 1), IntKind.i64.wrap (s2 + 1)) h
    replace h := ite_f h c2
    refine WT.skip ?_
    refine WT.inBlock ?_
    refine WT.region ?_
    refine lq (q_add rfl rfl) rfl ?_
    refine lq (q_move rfl) rfl ?_
    refine WL.nil ?_
    refine WT.inLoop (WT.mono (l' := [(3, .int .i64 s1), (7, pv0_0), (8, .int .i64 (p0.Pats.length : Int)), (9, .int .i64 (IntKind.i64.wrap (s2 + 1)))]) (S' := St w0 Φ [] []) ⟨rfl, rfl, rfl, rfl, trivial⟩ (fun w1 hw => (hw.sel (js := []) rfl).selO (js := []) rfl) ?_)
    exact ih1 (s1, IntKind.i64.wrap (s2 + 1)) h
  replace h := ite_f h c1
  refine WT.exit rfl ?_
  refine WT.seq ?_
  refine WT.region ?_
  refine lq (q_move rfl) rfl ?_
  refine lq (q_assign rfl) rfl ?_
  refine WL.nil ?_
  refine WT.ret Try.func64 (resOk.one rfl) (fun w1 hw => ?_)
  subst hb0
  cases h
  exact post_of_St hw
theorem m_i_isSmall_ok {Φ : Hp} {w : World} (hΦ : In Φ w) (N : Nat) (p0 : Int)   {r : Bool} (h : m_i_isSmall N p0 = some r) :
    Calls Try.prog 214 [.int .u8 p0].toArray w (Post (.bool r) w) := by
  refine enter Try.func214 rfl Try.ntmps214 rfl (St.start0 hΦ) ?_
  unfold m_i_isSmall at h
  refine WT.seq ?_
  refine WT.region ?_
  refine lq (q_assign rfl) rfl ?_
  refine WL.nil ?_
  refine WT.seq ?_
  refine WT.region ?_
  refine lq (q_move rfl) rfl ?_
  refine lq (q_geq rfl rfl) rfl ?_
  refine lq (q_move rfl) rfl ?_
  obtain ⟨b1, hb_1, h⟩ := bind_some h
  refine WL.cutN 3 [(8, .bool b1), (2, .bool false)] ?_ (fun K => ?_)
  rotate_left
  · refine WL.split (d := 5) rfl (fun c1 => ?_) (fun c1 => ?_)
    · replace hb_1 := ite_t hb_1 c1
      refine WL.yes rfl rfl ?_
      refine lq (q_move rfl) rfl ?_
      refine WL.yes rfl rfl ?_
      refine lq (q_leq rfl rfl) rfl ?_
      refine WL.q (q_pick1 rfl rfl) rfl rfl rfl ?_
      cases hb_1
      exact WL.keep (by exact ⟨rfl, rfl, trivial⟩) K
    · replace hb_1 := ite_f hb_1 c1
      refine WL.no rfl rfl rfl rfl ?_
      refine WL.no rfl rfl rfl rfl ?_
      refine WL.q (q_pick0 rfl rfl) rfl rfl rfl ?_
      cases hb_1
      exact WL.keep (by exact ⟨rfl, rfl, trivial⟩) K
  refine lq (q_assign rfl) rfl ?_
  refine WL.nil ?_
  refine WT.ret Try.func214 (resOk.one rfl) (fun w1 hw => ?_)
  cases h
  exact post_of_St hw
theorem m_i_isDigit_ok {Φ : Hp} {w : World} (hΦ : In Φ w) (N : Nat) (p0 : Int)   {r : Bool} (h : m_i_isDigit N p0 = some r) :
    Calls Try.prog 279 [.int .u8 p0].toArray w (Post (.bool r) w) := by
  refine enter Try.func279 rfl Try.ntmps279 rfl (St.start0 hΦ) ?_
  unfold m_i_isDigit at h
  refine WT.seq ?_
  refine WT.region ?_
  refine lq (q_assign rfl) rfl ?_
  refine WL.nil ?_
  refine WT.seq ?_
  refine WT.region ?_
  refine lq (q_move rfl) rfl ?_
  refine lq (q_geq rfl rfl) rfl ?_
  refine lq (q_move rfl) rfl ?_
  obtain ⟨b1, hb_1, h⟩ := bind_some h
  refine WL.cutN 3 [(8, .bool b1), (2, .bool false)] ?_ (fun K => ?_)
  rotate_left
  · refine WL.split (d := 5) rfl (fun c1 => ?_) (fun c1 => ?_)
    · replace hb_1 := ite_t hb_1 c1
      refine WL.yes rfl rfl ?_
      refine lq (q_move rfl) rfl ?_
      refine WL.yes rfl rfl ?_
      refine lq (q_leq rfl rfl) rfl ?_
      refine WL.q (q_pick1 rfl rfl) rfl rfl rfl ?_
      cases hb_1
      exact WL.keep (by exact ⟨rfl, rfl, trivial⟩) K
    · replace hb_1 := ite_f hb_1 c1
      refine WL.no rfl rfl rfl rfl ?_
      refine WL.no rfl rfl rfl rfl ?_
      refine WL.q (q_pick0 rfl rfl) rfl rfl rfl ?_
      cases hb_1
      exact WL.keep (by exact ⟨rfl, rfl, trivial⟩) K
  refine lq (q_assign rfl) rfl ?_
  refine WL.nil ?_
  refine WT.ret Try.func279 (resOk.one rfl) (fun w1 hw => ?_)
  cases h
  exact post_of_St hw
theorem m_i_isWordByte_ok {Φ : Hp} {w : World} (hΦ : In Φ w) (N : Nat) (p0 : Int)   {r : Bool} (h : m_i_isWordByte N p0 = some r) :
    Calls Try.prog 261 [.int .u8 p0].toArray w (Post (.bool r) w) := by
  refine enter Try.func261 rfl Try.ntmps261 rfl (St.start0 hΦ) ?_
  unfold m_i_isWordByte at h
  refine WT.seq ?_
  refine WT.region ?_
  refine lq (q_assign rfl) rfl ?_
  refine WL.nil ?_
  refine WT.seq ?_
  refine WT.region ?_
  refine lq (q_move rfl) rfl ?_
  obtain ⟨x1, hx1, h⟩ := bind_some h
  refine lp (p_call Fun_214 rfl (fun w1 hw => m_i_isSmall_ok hw.fro N p0 hx1)) rfl ?_
  refine lq (q_move rfl) rfl ?_
  obtain ⟨b1, hb_1, h⟩ := bind_some h
  refine WL.cutN 3 [(8, .bool b1), (0, .int .u8 p0), (2, .bool false)] ?_ (fun K => ?_)
  rotate_left
  · refine WL.split (d := 5) rfl (fun c1 => ?_) (fun c1 => ?_)
    · replace hb_1 := ite_t hb_1 c1
      refine WL.no rfl rfl rfl rfl ?_
      refine WL.no rfl rfl rfl rfl ?_
      refine WL.q (q_pick1 rfl rfl) rfl rfl rfl ?_
      cases hb_1
      exact WL.keep (by exact ⟨rfl, rfl, rfl, trivial⟩) K
    · replace hb_1 := ite_f hb_1 c1
      refine WL.yes rfl rfl ?_
      refine lq (q_move rfl) rfl ?_
      refine WL.yes rfl rfl ?_
      obtain ⟨x2, hx2, hb_1⟩ := bind_some hb_1
      refine lp (p_call Fun_279 rfl (fun w1 hw => m_i_isDigit_ok hw.fro N p0 hx2)) rfl ?_
      refine WL.q (q_pick0 rfl rfl) rfl rfl rfl ?_
      cases hb_1
      exact WL.keep (by exact ⟨rfl, rfl, rfl, trivial⟩) K
  refine lq (q_move rfl) rfl ?_
  obtain ⟨b2, hb_2, h⟩ := bind_some h
  refine WL.cutN 3 [(12, .bool b2), (2, .bool false)] ?_ (fun K => ?_)
  rotate_left
  · refine WL.split (d := 9) rfl (fun c2 => ?_) (fun c2 => ?_)
    · replace hb_2 := ite_t hb_2 c2
      refine WL.no rfl rfl rfl rfl ?_
      refine WL.no rfl rfl rfl rfl ?_
      refine WL.q (q_pick1 rfl rfl) rfl rfl rfl ?_
      cases hb_2
      exact WL.keep (by exact ⟨rfl, rfl, trivial⟩) K
    · replace hb_2 := ite_f hb_2 c2
      refine WL.yes rfl rfl ?_
      refine lq (q_move rfl) rfl ?_
      refine WL.yes rfl rfl ?_
      refine lq (q_eql rfl rfl) rfl ?_
      refine WL.q (q_pick0 rfl rfl) rfl rfl rfl ?_
      cases hb_2
      exact WL.keep (by exact ⟨rfl, rfl, trivial⟩) K
  refine lq (q_assign rfl) rfl ?_
  refine WL.nil ?_
  refine WT.ret Try.func261 (resOk.one rfl) (fun w1 hw => ?_)
  cases h
  exact post_of_St hw
theorem m_i_isWord_ok {Φ : Hp} {w : World} (hΦ : In Φ w) (N : Nat) (p0 : ByteArray) (p1 : Int)   {r : Bool} (h : m_i_isWord N p0 p1 = some r) :
    Calls Try.prog 215 [.string p0, .int .i64 p1].toArray w (Post (.bool r) w) := by
  refine enter Try.func215 rfl Try.ntmps215 rfl (St.start0 hΦ) ?_
  generalize hb0 : (⟨w, [], Φ⟩ : Base) = w0
  unfold m_i_isWord at h
  refine WT.seq ?_
  refine WT.region ?_
  refine lq (q_assign rfl) rfl ?_
  refine WL.nil ?_
  refine WT.seq ?_
  refine WT.seq ?_
  refine WT.region ?_
  refine lq (q_move rfl) rfl ?_
  refine lq (q_lenS Str_9 rfl rfl) rfl ?_
  refine lq (q_move rfl) rfl ?_
  refine lq (q_gtr rfl rfl) rfl ?_
  refine WL.nil ?_
  refine WT.cond rfl (fun c1 => ?_) (fun c1 => ?_)
  · replace h := ite_t h c1
    refine WT.seq ?_
    refine WT.region ?_
    refine lq (q_assign rfl) rfl ?_
    refine WL.nil ?_
    refine WT.ret Try.func215 (resOk.one rfl) (fun w1 hw => ?_)
    subst hb0
    cases h
    exact post_of_St hw
  replace h := ite_f h c1
  refine WT.skip ?_
  refine WT.seq ?_
  refine WT.seq ?_
  refine WT.region ?_
  refine lq (q_assign rfl) rfl ?_
  refine WL.nil ?_
  refine WT.block ?_
  refine WT.loop ?_
  refine WT.mono (l' := [(0, .string p0), (5, .int .i64 0)]) (S' := St w0 Φ [] []) ⟨rfl, rfl, trivial⟩ (fun w1 hw => (hw.sel (js := []) rfl).selO (js := []) rfl) ?_
  refine loop_ind (σ := Int) (fun s => [(0, .string p0), (5, .int .i64 s)]) (fun s => St w0 Φ [] []) (fun m s => m_i_isWord_l1 N p0 m s = some r) (fun s hm => none_ne (show (none : Option (Bool)) = some r from hm)) (fun n1 ih1 s hm => ?_) N (0) h
  revert hm; revert s; intro s1 hm
  have h : m_i_isWord_l1 N p0 (n1 + 1) s1 = some r := hm
  show WT _ _ [(0, .string p0), (5, .int .i64 s1)] (St w0 Φ [] [])
  unfold m_i_isWord_l1 at h
  refine WT.seq ?_
  refine WT.seq ?_
  refine WT.region ?_
  refine lq (q_move rfl) rfl ?_
  refine lq (q_move rfl) rfl ?_
  refine lq (q_lenS Str_9 rfl rfl) rfl ?_
  refine lq (q_lss rfl rfl) rfl ?_
  refine WL.nil ?_
  refine WT.cond rfl (fun c2 => ?_) (fun c2 => ?_)
  · replace h := ite_t h c2
    refine WT.skip ?_
    refine WT.seq ?_
    refine WT.block ?_
    refine WT.seq ?_
    refine WT.region ?_
    refine lq (q_move rfl) rfl ?_
    refine lq (q_move rfl) rfl ?_
    obtain ⟨y1, hy1, h⟩ := bind_some h
    refine lq (q_indexS Str_9 rfl rfl hy1) rfl ?_
    obtain ⟨x1, hx1, h⟩ := bind_some h
    refine lp (p_call Fun_261 rfl (fun w1 hw => m_i_isWordByte_ok hw.fro N (y1.toNat : Int) hx1)) rfl ?_
    refine lq (q_not rfl) rfl ?_
    refine WL.nil ?_
    refine WT.cond rfl (fun c3 => ?_) (fun c3 => ?_)
    · replace h := ite_t h c3
      refine WT.seq ?_
      refine WT.region ?_
      refine lq (q_assign rfl) rfl ?_
      refine WL.nil ?_
      refine WT.ret Try.func215 (resOk.one rfl) (fun w1 hw => ?_)
      subst hb0
      cases h
      exact post_of_St hw
    replace h := ite_f h c3
    refine WT.skip ?_
    refine WT.inBlock ?_
    refine WT.region ?_
    refine lq (q_move rfl) rfl ?_
    refine lq (q_add rfl rfl) rfl ?_
    refine lq (q_assign rfl) rfl ?_
    refine WL.nil ?_
    refine WT.inLoop (WT.mono (l' := [(0, .string p0), (5, .int .i64 (IntKind.i64.wrap (s1 + 1)))]) (S' := St w0 Φ [] []) ⟨rfl, rfl, trivial⟩ (fun w1 hw => (hw.sel (js := []) rfl).selO (js := []) rfl) ?_)
    exact ih1 (IntKind.i64.wrap (s1 + 1)) h
  replace h := ite_f h c2
  refine WT.exit rfl ?_
  refine WT.seq ?_
  refine WT.region ?_
  refine lq (q_assign rfl) rfl ?_
  refine WL.nil ?_
  refine WT.ret Try.func215 (resOk.one rfl) (fun w1 hw => ?_)
  subst hb0
  cases h
  exact post_of_St hw
theorem m_i_NameOk_ok {Φ : Hp} {w : World} (hΦ : In Φ w) (N : Nat) (p0 : ByteArray)   {r : Bool} (h : m_i_NameOk N p0 = some r) :
    Calls Try.prog 147 [.string p0].toArray w (Post (.bool r) w) := by
  refine enter Try.func147 rfl Try.ntmps147 rfl (St.start0 hΦ) ?_
  unfold m_i_NameOk at h
  refine WT.seq ?_
  refine WT.region ?_
  refine lq (q_assign rfl) rfl ?_
  refine WL.nil ?_
  refine WT.seq ?_
  refine WT.region ?_
  refine lq (q_move rfl) rfl ?_
  refine lq (q_lenS Str_9 rfl rfl) rfl ?_
  refine lq (q_gtr rfl rfl) rfl ?_
  refine lq (q_move rfl) rfl ?_
  obtain ⟨b1, hb_1, h⟩ := bind_some h
  refine WL.cutN 4 [(10, .bool b1), (0, .string p0), (2, .bool false)] ?_ (fun K => ?_)
  rotate_left
  · refine WL.split (d := 6) rfl (fun c1 => ?_) (fun c1 => ?_)
    · replace hb_1 := ite_t hb_1 c1
      refine WL.yes rfl rfl ?_
      refine lq (q_move rfl) rfl ?_
      refine WL.yes rfl rfl ?_
      obtain ⟨y1, hy1, hb_1⟩ := bind_some hb_1
      refine lq (q_indexS Str_9 rfl rfl hy1) rfl ?_
      refine WL.yes rfl rfl ?_
      obtain ⟨x1, hx1, hb_1⟩ := bind_some hb_1
      refine lp (p_call Fun_214 rfl (fun w1 hw => m_i_isSmall_ok hw.fro N (y1.toNat : Int) hx1)) rfl ?_
      refine WL.q (q_pick1 rfl rfl) rfl rfl rfl ?_
      cases hb_1
      exact WL.keep (by exact ⟨rfl, rfl, rfl, trivial⟩) K
    · replace hb_1 := ite_f hb_1 c1
      refine WL.no rfl rfl rfl rfl ?_
      refine WL.no rfl rfl rfl rfl ?_
      refine WL.no rfl rfl rfl rfl ?_
      refine WL.q (q_pick0 rfl rfl) rfl rfl rfl ?_
      cases hb_1
      exact WL.keep (by exact ⟨rfl, rfl, rfl, trivial⟩) K
  refine lq (q_move rfl) rfl ?_
  obtain ⟨b2, hb_2, h⟩ := bind_some h
  refine WL.cutN 3 [(14, .bool b2), (2, .bool false)] ?_ (fun K => ?_)
  rotate_left
  · refine WL.split (d := 11) rfl (fun c2 => ?_) (fun c2 => ?_)
    · replace hb_2 := ite_t hb_2 c2
      refine WL.yes rfl rfl ?_
      refine lq (q_move rfl) rfl ?_
      refine WL.yes rfl rfl ?_
      obtain ⟨x2, hx2, hb_2⟩ := bind_some hb_2
      refine lp (p_call Fun_215 rfl (fun w1 hw => m_i_isWord_ok hw.fro N p0 12 hx2)) rfl ?_
      refine WL.q (q_pick1 rfl rfl) rfl rfl rfl ?_
      cases hb_2
      exact WL.keep (by exact ⟨rfl, rfl, trivial⟩) K
    · replace hb_2 := ite_f hb_2 c2
      refine WL.no rfl rfl rfl rfl ?_
      refine WL.no rfl rfl rfl rfl ?_
      refine WL.q (q_pick0 rfl rfl) rfl rfl rfl ?_
      cases hb_2
      exact WL.keep (by exact ⟨rfl, rfl, trivial⟩) K
  refine lq (q_assign rfl) rfl ?_
  refine WL.nil ?_
  refine WT.ret Try.func147 (resOk.one rfl) (fun w1 hw => ?_)
  cases h
  exact post_of_St hw
theorem m_i_inRange_ok {Φ : Hp} {w : World} (hΦ : In Φ w) (N : Nat) (p0 : Int) (p1 : Int) (p2 : Int)   {r : Bool} (h : m_i_inRange N p0 p1 p2 = some r) :
    Calls Try.prog 148 [.int .i64 p0, .int .i64 p1, .int .i64 p2].toArray w (Post (.bool r) w) := by
  refine enter Try.func148 rfl Try.ntmps148 rfl (St.start0 hΦ) ?_
  unfold m_i_inRange at h
  refine WT.seq ?_
  refine WT.region ?_
  refine lq (q_assign rfl) rfl ?_
  refine WL.nil ?_
  refine WT.seq ?_
  refine WT.region ?_
  refine lq (q_move rfl) rfl ?_
  refine lq (q_move rfl) rfl ?_
  refine lq (q_geq rfl rfl) rfl ?_
  refine lq (q_move rfl) rfl ?_
  obtain ⟨b1, hb_1, h⟩ := bind_some h
  refine WL.cutN 4 [(14, .bool b1), (6, .bool false)] ?_ (fun K => ?_)
  rotate_left
  · refine WL.split (d := 10) rfl (fun c1 => ?_) (fun c1 => ?_)
    · replace hb_1 := ite_t hb_1 c1
      refine WL.yes rfl rfl ?_
      refine lq (q_move rfl) rfl ?_
      refine WL.yes rfl rfl ?_
      refine lq (q_move rfl) rfl ?_
      refine WL.yes rfl rfl ?_
      refine lq (q_leq rfl rfl) rfl ?_
      refine WL.q (q_pick1 rfl rfl) rfl rfl rfl ?_
      cases hb_1
      exact WL.keep (by exact ⟨rfl, rfl, trivial⟩) K
    · replace hb_1 := ite_f hb_1 c1
      refine WL.no rfl rfl rfl rfl ?_
      refine WL.no rfl rfl rfl rfl ?_
      refine WL.no rfl rfl rfl rfl ?_
      refine WL.q (q_pick0 rfl rfl) rfl rfl rfl ?_
      cases hb_1
      exact WL.keep (by exact ⟨rfl, rfl, trivial⟩) K
  refine lq (q_assign rfl) rfl ?_
  refine WL.nil ?_
  refine WT.ret Try.func148 (resOk.one rfl) (fun w1 hw => ?_)
  cases h
  exact post_of_St hw
theorem m_i_isLarge_ok {Φ : Hp} {w : World} (hΦ : In Φ w) (N : Nat) (p0 : Int)   {r : Bool} (h : m_i_isLarge N p0 = some r) :
    Calls Try.prog 288 [.int .u8 p0].toArray w (Post (.bool r) w) := by
  refine enter Try.func288 rfl Try.ntmps288 rfl (St.start0 hΦ) ?_
  unfold m_i_isLarge at h
  refine WT.seq ?_
  refine WT.region ?_
  refine lq (q_assign rfl) rfl ?_
  refine WL.nil ?_
  refine WT.seq ?_
  refine WT.region ?_
  refine lq (q_move rfl) rfl ?_
  refine lq (q_geq rfl rfl) rfl ?_
  refine lq (q_move rfl) rfl ?_
  obtain ⟨b1, hb_1, h⟩ := bind_some h
  refine WL.cutN 3 [(8, .bool b1), (2, .bool false)] ?_ (fun K => ?_)
  rotate_left
  · refine WL.split (d := 5) rfl (fun c1 => ?_) (fun c1 => ?_)
    · replace hb_1 := ite_t hb_1 c1
      refine WL.yes rfl rfl ?_
      refine lq (q_move rfl) rfl ?_
      refine WL.yes rfl rfl ?_
      refine lq (q_leq rfl rfl) rfl ?_
      refine WL.q (q_pick1 rfl rfl) rfl rfl rfl ?_
      cases hb_1
      exact WL.keep (by exact ⟨rfl, rfl, trivial⟩) K
    · replace hb_1 := ite_f hb_1 c1
      refine WL.no rfl rfl rfl rfl ?_
      refine WL.no rfl rfl rfl rfl ?_
      refine WL.q (q_pick0 rfl rfl) rfl rfl rfl ?_
      cases hb_1
      exact WL.keep (by exact ⟨rfl, rfl, trivial⟩) K
  refine lq (q_assign rfl) rfl ?_
  refine WL.nil ?_
  refine WT.ret Try.func288 (resOk.one rfl) (fun w1 hw => ?_)
  cases h
  exact post_of_St hw
theorem m_i_isVar_ok {Φ : Hp} {w : World} (hΦ : In Φ w) (N : Nat) (p0 : ByteArray)   {r : Bool} (h : m_i_isVar N p0 = some r) :
    Calls Try.prog 280 [.string p0].toArray w (Post (.bool r) w) := by
  refine enter Try.func280 rfl Try.ntmps280 rfl (St.start0 hΦ) ?_
  generalize hb0 : (⟨w, [], Φ⟩ : Base) = w0
  unfold m_i_isVar at h
  refine WT.seq ?_
  refine WT.region ?_
  refine lq (q_assign rfl) rfl ?_
  refine WL.nil ?_
  refine WT.seq ?_
  refine WT.seq ?_
  refine WT.region ?_
  refine lq (q_move rfl) rfl ?_
  refine lq (q_lenS Str_9 rfl rfl) rfl ?_
  refine lq (q_lss rfl rfl) rfl ?_
  refine lq (q_move rfl) rfl ?_
  obtain ⟨b1, hb_1, h⟩ := bind_some h
  refine WL.cutN 4 [(11, .bool b1), (0, .string p0)] ?_ (fun K => ?_)
  rotate_left
  · refine WL.split (d := 7) rfl (fun c1 => ?_) (fun c1 => ?_)
    · replace hb_1 := ite_t hb_1 c1
      refine WL.no rfl rfl rfl rfl ?_
      refine WL.no rfl rfl rfl rfl ?_
      refine WL.no rfl rfl rfl rfl ?_
      refine WL.q (q_pick1 rfl rfl) rfl rfl rfl ?_
      cases hb_1
      exact WL.keep (by exact ⟨rfl, rfl, trivial⟩) K
    · replace hb_1 := ite_f hb_1 c1
      refine WL.yes rfl rfl ?_
      refine lq (q_move rfl) rfl ?_
      refine WL.yes rfl rfl ?_
      refine lq (q_lenS Str_9 rfl rfl) rfl ?_
      refine WL.yes rfl rfl ?_
      refine lq (q_gtr rfl rfl) rfl ?_
      refine WL.q (q_pick0 rfl rfl) rfl rfl rfl ?_
      cases hb_1
      exact WL.keep (by exact ⟨rfl, rfl, trivial⟩) K
  refine lq (q_move rfl) rfl ?_
  obtain ⟨b2, hb_2, h⟩ := bind_some h
  refine WL.cutN 5 [(17, .bool b2), (0, .string p0)] ?_ (fun K => ?_)
  rotate_left
  · refine WL.split (d := 12) rfl (fun c2 => ?_) (fun c2 => ?_)
    · replace hb_2 := ite_t hb_2 c2
      refine WL.no rfl rfl rfl rfl ?_
      refine WL.no rfl rfl rfl rfl ?_
      refine WL.no rfl rfl rfl rfl ?_
      refine WL.no rfl rfl rfl rfl ?_
      refine WL.q (q_pick1 rfl rfl) rfl rfl rfl ?_
      cases hb_2
      exact WL.keep (by exact ⟨rfl, rfl, trivial⟩) K
    · replace hb_2 := ite_f hb_2 c2
      refine WL.yes rfl rfl ?_
      refine lq (q_move rfl) rfl ?_
      refine WL.yes rfl rfl ?_
      obtain ⟨y1, hy1, hb_2⟩ := bind_some hb_2
      refine lq (q_indexS Str_9 rfl rfl hy1) rfl ?_
      refine WL.yes rfl rfl ?_
      obtain ⟨x1, hx1, hb_2⟩ := bind_some hb_2
      refine lp (p_call Fun_288 rfl (fun w1 hw => m_i_isLarge_ok hw.fro N (y1.toNat : Int) hx1)) rfl ?_
      refine WL.yes rfl rfl ?_
      refine lq (q_not rfl) rfl ?_
      refine WL.q (q_pick0 rfl rfl) rfl rfl rfl ?_
      cases hb_2
      exact WL.keep (by exact ⟨rfl, rfl, trivial⟩) K
  refine WL.nil ?_
  refine WT.cond rfl (fun c3 => ?_) (fun c3 => ?_)
  · replace h := ite_t h c3
    refine WT.seq ?_
    refine WT.region ?_
    refine lq (q_assign rfl) rfl ?_
    refine WL.nil ?_
    refine WT.ret Try.func280 (resOk.one rfl) (fun w1 hw => ?_)
    subst hb0
    cases h
    exact post_of_St hw
  replace h := ite_f h c3
  refine WT.skip ?_
  refine WT.seq ?_
  refine WT.seq ?_
  refine WT.region ?_
  refine lq (q_assign rfl) rfl ?_
  refine WL.nil ?_
  refine WT.block ?_
  refine WT.loop ?_
  refine WT.mono (l' := [(0, .string p0), (3, .int .i64 0)]) (S' := St w0 Φ [] []) ⟨rfl, rfl, trivial⟩ (fun w1 hw => (hw.sel (js := []) rfl).selO (js := []) rfl) ?_
  refine loop_ind (σ := Int) (fun s => [(0, .string p0), (3, .int .i64 s)]) (fun s => St w0 Φ [] []) (fun m s => m_i_isVar_l1 N p0 m s = some r) (fun s hm => none_ne (show (none : Option (Bool)) = some r from hm)) (fun n1 ih1 s hm => ?_) N (0) h
  revert hm; revert s; intro s1 hm
  have h : m_i_isVar_l1 N p0 (n1 + 1) s1 = some r := hm
  show WT _ _ [(0, .string p0), (3, .int .i64 s1)] (St w0 Φ [] [])
  unfold m_i_isVar_l1 at h
  refine WT.seq ?_
  refine WT.seq ?_
  refine WT.region ?_
  refine lq (q_move rfl) rfl ?_
  refine lq (q_move rfl) rfl ?_
  refine lq (q_lenS Str_9 rfl rfl) rfl ?_
  refine lq (q_lss rfl rfl) rfl ?_
  refine WL.nil ?_
  refine WT.cond rfl (fun c4 => ?_) (fun c4 => ?_)
  · replace h := ite_t h c4
    refine WT.skip ?_
    refine WT.seq ?_
    refine WT.block ?_
    refine WT.seq ?_
    refine WT.region ?_
    refine lq (q_move rfl) rfl ?_
    refine lq (q_move rfl) rfl ?_
    obtain ⟨y2, hy2, h⟩ := bind_some h
    refine lq (q_indexS Str_9 rfl rfl hy2) rfl ?_
    obtain ⟨x2, hx2, h⟩ := bind_some h
    refine lp (p_call Fun_261 rfl (fun w1 hw => m_i_isWordByte_ok hw.fro N (y2.toNat : Int) hx2)) rfl ?_
    refine lq (q_not rfl) rfl ?_
    refine lq (q_move rfl) rfl ?_
    obtain ⟨b3, hb_3, h⟩ := bind_some h
    refine WL.cutN 6 [(35, .bool b3), (0, .string p0), (3, .int .i64 s1)] ?_ (fun K => ?_)
    rotate_left
    · refine WL.split (d := 29) rfl (fun c5 => ?_) (fun c5 => ?_)
      · replace hb_3 := ite_t hb_3 c5
        refine WL.yes rfl rfl ?_
        refine lq (q_move rfl) rfl ?_
        refine WL.yes rfl rfl ?_
        refine lq (q_move rfl) rfl ?_
        refine WL.yes rfl rfl ?_
        obtain ⟨y3, hy3, hb_3⟩ := bind_some hb_3
        refine lq (q_indexS Str_9 rfl rfl hy3) rfl ?_
        refine WL.yes rfl rfl ?_
        obtain ⟨x3, hx3, hb_3⟩ := bind_some hb_3
        refine lp (p_call Fun_288 rfl (fun w1 hw => m_i_isLarge_ok hw.fro N (y3.toNat : Int) hx3)) rfl ?_
        refine WL.yes rfl rfl ?_
        refine lq (q_not rfl) rfl ?_
        refine WL.q (q_pick1 rfl rfl) rfl rfl rfl ?_
        cases hb_3
        exact WL.keep (by exact ⟨rfl, rfl, rfl, trivial⟩) K
      · replace hb_3 := ite_f hb_3 c5
        refine WL.no rfl rfl rfl rfl ?_
        refine WL.no rfl rfl rfl rfl ?_
        refine WL.no rfl rfl rfl rfl ?_
        refine WL.no rfl rfl rfl rfl ?_
        refine WL.no rfl rfl rfl rfl ?_
        refine WL.q (q_pick0 rfl rfl) rfl rfl rfl ?_
        cases hb_3
        exact WL.keep (by exact ⟨rfl, rfl, rfl, trivial⟩) K
    refine WL.nil ?_
    refine WT.cond rfl (fun c6 => ?_) (fun c6 => ?_)
    · replace h := ite_t h c6
      refine WT.seq ?_
      refine WT.region ?_
      refine lq (q_assign rfl) rfl ?_
      refine WL.nil ?_
      refine WT.ret Try.func280 (resOk.one rfl) (fun w1 hw => ?_)
      subst hb0
      cases h
      exact post_of_St hw
    replace h := ite_f h c6
    refine WT.skip ?_
    refine WT.inBlock ?_
    refine WT.region ?_
    refine lq (q_move rfl) rfl ?_
    refine lq (q_add rfl rfl) rfl ?_
    refine lq (q_assign rfl) rfl ?_
    refine WL.nil ?_
    refine WT.inLoop (WT.mono (l' := [(0, .string p0), (3, .int .i64 (IntKind.i64.wrap (s1 + 1)))]) (S' := St w0 Φ [] []) ⟨rfl, rfl, trivial⟩ (fun w1 hw => (hw.sel (js := []) rfl).selO (js := []) rfl) ?_)
    exact ih1 (IntKind.i64.wrap (s1 + 1)) h
  replace h := ite_f h c4
  refine WT.exit rfl ?_
  refine WT.seq ?_
  refine WT.region ?_
  refine lq (q_assign rfl) rfl ?_
  refine WL.nil ?_
  refine WT.ret Try.func280 (resOk.one rfl) (fun w1 hw => ?_)
  subst hb0
  cases h
  exact post_of_St hw
theorem m_i_ValOk_ok {Φ : Hp} {w : World} (hΦ : In Φ w) (N : Nat) (p0 : TVal)   {r : Bool} (h : m_i_ValOk N p0 = some r) :
    Calls Try.prog 281 [.agg [.int .i64 p0.K, .int .i64 p0.N, .string p0.S].toArray].toArray w (Post (.bool r) w) := by
  refine enter Try.func281 rfl Try.ntmps281 rfl (St.start0 hΦ) ?_
  unfold m_i_ValOk at h
  refine WT.seq ?_
  refine WT.region ?_
  refine ln (n_box (C := #[.int .i64 p0.K, .int .i64 p0.N, .string p0.S]) rfl rfl) rfl (fun b_1 => ?_)
  refine lq (q_assign rfl) rfl ?_
  refine WL.nil ?_
  refine WT.seq ?_
  refine WT.seq ?_
  refine WT.region ?_
  refine lq (q_fieldAddr Fld_192_0 rfl) rfl ?_
  refine lq (q_load1 T1_3 rfl (fun w1 hw => hw.rgO (i := 0) rfl 0 1 [.int .i64 p0.K] rfl)) rfl ?_
  refine WL.nil ?_
  refine WT.block ?_
  refine WT.seq ?_
  refine WT.region ?_
  refine lq (q_eql rfl rfl) rfl ?_
  refine lq (q_assign rfl) rfl ?_
  refine WL.nil ?_
  refine WT.cond rfl (fun c1 => ?_) (fun c1 => ?_)
  · replace h := ite_t h c1
    refine WT.seq ?_
    refine WT.region ?_
    refine lq (q_fieldAddr Fld_192_1 rfl) rfl ?_
    refine lq (q_load1 T1_3 rfl (fun w1 hw => hw.rgO (i := 0) rfl 1 1 [.int .i64 p0.N] rfl)) rfl ?_
    obtain ⟨x1, hx1, h⟩ := bind_some h
    refine lp (p_call Fun_148 rfl (fun w1 hw => m_i_inRange_ok hw.fro N p0.N (-1000000000) 1000000000 hx1)) rfl ?_
    refine lq (q_move rfl) rfl ?_
    obtain ⟨b1, hb_1, h⟩ := bind_some h
    refine WL.cutN 4 [(14, .bool b1), (2, .bool false)] ?_ (fun K => ?_)
    rotate_left
    · refine WL.split (d := 10) rfl (fun c2 => ?_) (fun c2 => ?_)
      · replace hb_1 := ite_t hb_1 c2
        refine WL.yes rfl rfl ?_
        refine lq (q_fieldAddr Fld_192_2 rfl) rfl ?_
        refine WL.yes rfl rfl ?_
        refine lq (q_load1 T1_9 rfl (fun w1 hw => hw.rgO (i := 0) rfl 2 1 [.string p0.S] rfl)) rfl ?_
        refine WL.yes rfl rfl ?_
        refine lq (q_seq rfl rfl) rfl ?_
        refine WL.q (q_pick1 rfl rfl) rfl rfl rfl ?_
        cases hb_1
        exact WL.keep (by exact ⟨rfl, rfl, trivial⟩) K
      · replace hb_1 := ite_f hb_1 c2
        refine WL.no rfl rfl rfl rfl ?_
        refine WL.no rfl rfl rfl rfl ?_
        refine WL.no rfl rfl rfl rfl ?_
        refine WL.q (q_pick0 rfl rfl) rfl rfl rfl ?_
        cases hb_1
        exact WL.keep (by exact ⟨rfl, rfl, trivial⟩) K
    refine lq (q_assign rfl) rfl ?_
    refine WL.nil ?_
    refine WT.ret Try.func281 (resOk.one rfl) (fun w1 hw => ?_)
    cases h
    exact post_of_St hw
  replace h := ite_f h c1
  refine WT.seq ?_
  refine WT.region ?_
  refine lq (q_eql rfl rfl) rfl ?_
  refine lq (q_assign rfl) rfl ?_
  refine WL.nil ?_
  refine WT.cond rfl (fun c3 => ?_) (fun c3 => ?_)
  · replace h := ite_t h c3
    refine WT.seq ?_
    refine WT.region ?_
    refine lq (q_fieldAddr Fld_192_1 rfl) rfl ?_
    refine lq (q_load1 T1_3 rfl (fun w1 hw => hw.rgO (i := 0) rfl 1 1 [.int .i64 p0.N] rfl)) rfl ?_
    refine lq (q_eql rfl rfl) rfl ?_
    refine lq (q_move rfl) rfl ?_
    obtain ⟨b2, hb_2, h⟩ := bind_some h
    refine WL.cutN 4 [(24, .bool b2), (2, .bool false)] ?_ (fun K => ?_)
    rotate_left
    · refine WL.split (d := 20) rfl (fun c4 => ?_) (fun c4 => ?_)
      · replace hb_2 := ite_t hb_2 c4
        refine WL.yes rfl rfl ?_
        refine lq (q_fieldAddr Fld_192_2 rfl) rfl ?_
        refine WL.yes rfl rfl ?_
        refine lq (q_load1 T1_9 rfl (fun w1 hw => hw.rgO (i := 0) rfl 2 1 [.string p0.S] rfl)) rfl ?_
        refine WL.yes rfl rfl ?_
        obtain ⟨x2, hx2, hb_2⟩ := bind_some hb_2
        refine lp (p_call Fun_215 rfl (fun w1 hw => m_i_isWord_ok hw.fro N p0.S 20 hx2)) rfl ?_
        refine WL.q (q_pick1 rfl rfl) rfl rfl rfl ?_
        cases hb_2
        exact WL.keep (by exact ⟨rfl, rfl, trivial⟩) K
      · replace hb_2 := ite_f hb_2 c4
        refine WL.no rfl rfl rfl rfl ?_
        refine WL.no rfl rfl rfl rfl ?_
        refine WL.no rfl rfl rfl rfl ?_
        refine WL.q (q_pick0 rfl rfl) rfl rfl rfl ?_
        cases hb_2
        exact WL.keep (by exact ⟨rfl, rfl, trivial⟩) K
    refine lq (q_assign rfl) rfl ?_
    refine WL.nil ?_
    refine WT.ret Try.func281 (resOk.one rfl) (fun w1 hw => ?_)
    cases h
    exact post_of_St hw
  replace h := ite_f h c3
  refine WT.skip ?_
  refine WT.inBlock ?_
  refine WT.seq ?_
  refine WT.region ?_
  refine lq (q_assign rfl) rfl ?_
  refine WL.nil ?_
  refine WT.ret Try.func281 (resOk.one rfl) (fun w1 hw => ?_)
  cases h
  exact post_of_St hw
theorem m_i_ArgOk_ok {Φ : Hp} {w : World} (hΦ : In Φ w) (N : Nat) (p0 : TArg)   {r : Bool} (h : m_i_ArgOk N p0 = some r) :
    Calls Try.prog 262 [.agg [.int .i64 p0.K, .string p0.S, .int .i64 p0.V.K, .int .i64 p0.V.N, .string p0.V.S].toArray].toArray w (Post (.bool r) w) := by
  refine enter Try.func262 rfl Try.ntmps262 rfl (St.start0 hΦ) ?_
  unfold m_i_ArgOk at h
  refine WT.seq ?_
  refine WT.region ?_
  refine ln (n_box (C := #[.int .i64 p0.K, .string p0.S, .int .i64 p0.V.K, .int .i64 p0.V.N, .string p0.V.S]) rfl rfl) rfl (fun b_1 => ?_)
  refine lq (q_assign rfl) rfl ?_
  refine WL.nil ?_
  refine WT.seq ?_
  refine WT.seq ?_
  refine WT.region ?_
  refine lq (q_fieldAddr Fld_206_0 rfl) rfl ?_
  refine lq (q_load1 T1_3 rfl (fun w1 hw => hw.rgO (i := 0) rfl 0 1 [.int .i64 p0.K] rfl)) rfl ?_
  refine WL.nil ?_
  refine WT.block ?_
  refine WT.seq ?_
  refine WT.region ?_
  refine lq (q_eql rfl rfl) rfl ?_
  refine lq (q_assign rfl) rfl ?_
  refine WL.nil ?_
  refine WT.cond rfl (fun c1 => ?_) (fun c1 => ?_)
  · replace h := ite_t h c1
    refine WT.seq ?_
    refine WT.region ?_
    refine lq (q_fieldAddr Fld_206_1 rfl) rfl ?_
    refine lq (q_load1 T1_9 rfl (fun w1 hw => hw.rgO (i := 0) rfl 1 1 [.string p0.S] rfl)) rfl ?_
    obtain ⟨x1, hx1, h⟩ := bind_some h
    refine lp (p_call Fun_280 rfl (fun w1 hw => m_i_isVar_ok hw.fro N p0.S hx1)) rfl ?_
    refine lq (q_move rfl) rfl ?_
    obtain ⟨b1, hb_1, h⟩ := bind_some h
    refine WL.cutN 5 [(15, .bool b1), (2, .bool false)] ?_ (fun K => ?_)
    rotate_left
    · refine WL.split (d := 10) rfl (fun c2 => ?_) (fun c2 => ?_)
      · replace hb_1 := ite_t hb_1 c2
        refine WL.yes rfl rfl ?_
        refine lq (q_fieldAddr Fld_206_2 rfl) rfl ?_
        refine WL.yes rfl rfl ?_
        refine lq (q_loadN Tn_192 rfl (fun w1 hw => hw.rgO (i := 0) rfl 2 3 [.int .i64 p0.V.K, .int .i64 p0.V.N, .string p0.V.S] rfl) rfl) rfl ?_
        refine WL.yes rfl rfl ?_
        refine lq (q_build (vs := []) (C := #[.int .i64 0, .int .i64 0, .string (⟨#[]⟩ : ByteArray)]) Pl_192 Zr_192 rfl (fill_nil)) rfl ?_
        refine WL.yes rfl rfl ?_
        refine lq (q_eqA EqT_192 rfl rfl rfl (r := eqT_TVal p0.V (⟨0, 0, (⟨#[]⟩ : ByteArray)⟩ : TVal)) rfl) rfl ?_
        refine WL.q (q_pick1 rfl rfl) rfl rfl rfl ?_
        cases hb_1
        exact WL.keep (by exact ⟨rfl, rfl, trivial⟩) K
      · replace hb_1 := ite_f hb_1 c2
        refine WL.no rfl rfl rfl rfl ?_
        refine WL.no rfl rfl rfl rfl ?_
        refine WL.no rfl rfl rfl rfl ?_
        refine WL.no rfl rfl rfl rfl ?_
        refine WL.q (q_pick0 rfl rfl) rfl rfl rfl ?_
        cases hb_1
        exact WL.keep (by exact ⟨rfl, rfl, trivial⟩) K
    refine lq (q_assign rfl) rfl ?_
    refine WL.nil ?_
    refine WT.ret Try.func262 (resOk.one rfl) (fun w1 hw => ?_)
    cases h
    exact post_of_St hw
  replace h := ite_f h c1
  refine WT.seq ?_
  refine WT.region ?_
  refine lq (q_eql rfl rfl) rfl ?_
  refine lq (q_assign rfl) rfl ?_
  refine WL.nil ?_
  refine WT.cond rfl (fun c3 => ?_) (fun c3 => ?_)
  · replace h := ite_t h c3
    refine WT.seq ?_
    refine WT.region ?_
    refine lq (q_fieldAddr Fld_206_1 rfl) rfl ?_
    refine lq (q_load1 T1_9 rfl (fun w1 hw => hw.rgO (i := 0) rfl 1 1 [.string p0.S] rfl)) rfl ?_
    refine lq (q_seq rfl rfl) rfl ?_
    refine lq (q_move rfl) rfl ?_
    obtain ⟨b2, hb_2, h⟩ := bind_some h
    refine WL.cutN 4 [(25, .bool b2), (2, .bool false)] ?_ (fun K => ?_)
    rotate_left
    · refine WL.split (d := 21) rfl (fun c4 => ?_) (fun c4 => ?_)
      · replace hb_2 := ite_t hb_2 c4
        refine WL.yes rfl rfl ?_
        refine lq (q_fieldAddr Fld_206_2 rfl) rfl ?_
        refine WL.yes rfl rfl ?_
        refine lq (q_loadN Tn_192 rfl (fun w1 hw => hw.rgO (i := 0) rfl 2 3 [.int .i64 p0.V.K, .int .i64 p0.V.N, .string p0.V.S] rfl) rfl) rfl ?_
        refine WL.yes rfl rfl ?_
        obtain ⟨x2, hx2, hb_2⟩ := bind_some hb_2
        refine lp (p_call Fun_281 rfl (fun w1 hw => m_i_ValOk_ok hw.fro N p0.V hx2)) rfl ?_
        refine WL.q (q_pick1 rfl rfl) rfl rfl rfl ?_
        cases hb_2
        exact WL.keep (by exact ⟨rfl, rfl, trivial⟩) K
      · replace hb_2 := ite_f hb_2 c4
        refine WL.no rfl rfl rfl rfl ?_
        refine WL.no rfl rfl rfl rfl ?_
        refine WL.no rfl rfl rfl rfl ?_
        refine WL.q (q_pick0 rfl rfl) rfl rfl rfl ?_
        cases hb_2
        exact WL.keep (by exact ⟨rfl, rfl, trivial⟩) K
    refine lq (q_assign rfl) rfl ?_
    refine WL.nil ?_
    refine WT.ret Try.func262 (resOk.one rfl) (fun w1 hw => ?_)
    cases h
    exact post_of_St hw
  replace h := ite_f h c3
  refine WT.seq ?_
  refine WT.region ?_
  refine lq (q_eql rfl rfl) rfl ?_
  refine lq (q_assign rfl) rfl ?_
  refine WL.nil ?_
  refine WT.cond rfl (fun c5 => ?_) (fun c5 => ?_)
  · replace h := ite_t h c5
    refine WT.seq ?_
    refine WT.region ?_
    refine lq (q_fieldAddr Fld_206_1 rfl) rfl ?_
    refine lq (q_load1 T1_9 rfl (fun w1 hw => hw.rgO (i := 0) rfl 1 1 [.string p0.S] rfl)) rfl ?_
    refine lq (q_seq rfl rfl) rfl ?_
    refine lq (q_move rfl) rfl ?_
    obtain ⟨b3, hb_3, h⟩ := bind_some h
    refine WL.cutN 5 [(36, .bool b3), (2, .bool false)] ?_ (fun K => ?_)
    rotate_left
    · refine WL.split (d := 31) rfl (fun c6 => ?_) (fun c6 => ?_)
      · replace hb_3 := ite_t hb_3 c6
        refine WL.yes rfl rfl ?_
        refine lq (q_fieldAddr Fld_206_2 rfl) rfl ?_
        refine WL.yes rfl rfl ?_
        refine lq (q_loadN Tn_192 rfl (fun w1 hw => hw.rgO (i := 0) rfl 2 3 [.int .i64 p0.V.K, .int .i64 p0.V.N, .string p0.V.S] rfl) rfl) rfl ?_
        refine WL.yes rfl rfl ?_
        refine lq (q_build (vs := []) (C := #[.int .i64 0, .int .i64 0, .string (⟨#[]⟩ : ByteArray)]) Pl_192 Zr_192 rfl (fill_nil)) rfl ?_
        refine WL.yes rfl rfl ?_
        refine lq (q_eqA EqT_192 rfl rfl rfl (r := eqT_TVal p0.V (⟨0, 0, (⟨#[]⟩ : ByteArray)⟩ : TVal)) rfl) rfl ?_
        refine WL.q (q_pick1 rfl rfl) rfl rfl rfl ?_
        cases hb_3
        exact WL.keep (by exact ⟨rfl, rfl, trivial⟩) K
      · replace hb_3 := ite_f hb_3 c6
        refine WL.no rfl rfl rfl rfl ?_
        refine WL.no rfl rfl rfl rfl ?_
        refine WL.no rfl rfl rfl rfl ?_
        refine WL.no rfl rfl rfl rfl ?_
        refine WL.q (q_pick0 rfl rfl) rfl rfl rfl ?_
        cases hb_3
        exact WL.keep (by exact ⟨rfl, rfl, trivial⟩) K
    refine lq (q_assign rfl) rfl ?_
    refine WL.nil ?_
    refine WT.ret Try.func262 (resOk.one rfl) (fun w1 hw => ?_)
    cases h
    exact post_of_St hw
  replace h := ite_f h c5
  refine WT.skip ?_
  refine WT.inBlock ?_
  refine WT.seq ?_
  refine WT.region ?_
  refine lq (q_assign rfl) rfl ?_
  refine WL.nil ?_
  refine WT.ret Try.func262 (resOk.one rfl) (fun w1 hw => ?_)
  cases h
  exact post_of_St hw
theorem m_i_PatOk_ok {Φ : Hp} {w : World} (hΦ : In Φ w) (N : Nat) (p0 : TPat) {pv0_0 : Value} {pG0_0 : List Nat} (ph0_0 : RSl RTArg 5 Φ pG0_0 pv0_0 p0.Args) {r : Bool} (h : m_i_PatOk N p0 = some r) :
    Calls Try.prog 216 [.agg [.string p0.Kind, pv0_0, .bool p0.Not].toArray].toArray w (Post (.bool r) w) := by
  refine enter Try.func216 rfl Try.ntmps216 rfl (St.start0 hΦ) ?_
  generalize hb0 : (⟨w, [], Φ⟩ : Base) = w0
  unfold m_i_PatOk at h
  refine WT.seq ?_
  refine WT.region ?_
  refine ln (n_box (C := #[.string p0.Kind, pv0_0, .bool p0.Not]) rfl rfl) rfl (fun b_1 => ?_)
  refine lq (q_assign rfl) rfl ?_
  refine WL.nil ?_
  refine WT.seq ?_
  refine WT.seq ?_
  refine WT.region ?_
  refine lq (q_fieldAddr Fld_121_0 rfl) rfl ?_
  refine lq (q_load1 T1_9 rfl (fun w1 hw => hw.rgO (i := 0) rfl 0 1 [.string p0.Kind] rfl)) rfl ?_
  obtain ⟨x1, hx1, h⟩ := bind_some h
  refine lp (p_call Fun_147 rfl (fun w1 hw => m_i_NameOk_ok hw.fro N p0.Kind hx1)) rfl ?_
  refine lq (q_not rfl) rfl ?_
  refine lq (q_move rfl) rfl ?_
  obtain ⟨b1, hb_1, h⟩ := bind_some h
  refine WL.cutN 5 [(14, .bool b1), (1, .pointer (some ⟨b_1, 0, none⟩))] ?_ (fun K => ?_)
  rotate_left
  · refine WL.split (d := 9) rfl (fun c1 => ?_) (fun c1 => ?_)
    · replace hb_1 := ite_t hb_1 c1
      refine WL.no rfl rfl rfl rfl ?_
      refine WL.no rfl rfl rfl rfl ?_
      refine WL.no rfl rfl rfl rfl ?_
      refine WL.no rfl rfl rfl rfl ?_
      refine WL.q (q_pick1 rfl rfl) rfl rfl rfl ?_
      cases hb_1
      exact WL.keep (by exact ⟨rfl, rfl, trivial⟩) K
    · replace hb_1 := ite_f hb_1 c1
      refine WL.yes rfl rfl ?_
      refine lq (q_fieldAddr Fld_121_1 rfl) rfl ?_
      refine WL.yes rfl rfl ?_
      refine lq (q_load1 T1_119 rfl (fun w1 hw => hw.rgO (i := 0) rfl 1 1 [pv0_0] rfl)) rfl ?_
      refine WL.yes rfl rfl ?_
      refine lq (q_lenR Sl_119 rfl rfl ph0_0) rfl ?_
      refine WL.yes rfl rfl ?_
      refine lq (q_gtr rfl rfl) rfl ?_
      refine WL.q (q_pick0 rfl rfl) rfl rfl rfl ?_
      cases hb_1
      exact WL.keep (by exact ⟨rfl, rfl, trivial⟩) K
  refine WL.nil ?_
  refine WT.cond rfl (fun c2 => ?_) (fun c2 => ?_)
  · replace h := ite_t h c2
    refine WT.seq ?_
    refine WT.region ?_
    refine lq (q_assign rfl) rfl ?_
    refine WL.nil ?_
    refine WT.ret Try.func216 (resOk.one rfl) (fun w1 hw => ?_)
    subst hb0
    cases h
    exact post_of_St hw
  replace h := ite_f h c2
  refine WT.skip ?_
  refine WT.seq ?_
  refine WT.seq ?_
  refine WT.region ?_
  refine lq (q_fieldAddr Fld_121_1 rfl) rfl ?_
  refine lq (q_load1 T1_119 rfl (fun w1 hw => hw.rgO (i := 0) rfl 1 1 [pv0_0] rfl)) rfl ?_
  refine lq (q_lenR Sl_119 rfl rfl ph0_0) rfl ?_
  refine lq (q_move rfl) rfl ?_
  refine WL.nil ?_
  refine WT.block ?_
  refine WT.loop ?_
  refine WT.mono (l' := [(16, pv0_0), (17, .int .i64 (p0.Args.length : Int)), (18, .int .i64 0)]) (S' := St w0 Φ [] []) ⟨rfl, rfl, rfl, trivial⟩ (fun w1 hw => (hw.sel (js := []) rfl).selO (js := []) rfl) ?_
  refine loop_ind (σ := Int) (fun s => [(16, pv0_0), (17, .int .i64 (p0.Args.length : Int)), (18, .int .i64 s)]) (fun s => St w0 Φ [] []) (fun m s => m_i_PatOk_l1 N p0 m s = some r) (fun s hm => none_ne (show (none : Option (Bool)) = some r from hm)) (fun n1 ih1 s hm => ?_) N (0) h
  revert hm; revert s; intro s1 hm
  have h : m_i_PatOk_l1 N p0 (n1 + 1) s1 = some r := hm
  show WT _ _ [(16, pv0_0), (17, .int .i64 (p0.Args.length : Int)), (18, .int .i64 s1)] (St w0 Φ [] [])
  unfold m_i_PatOk_l1 at h
  refine WT.seq ?_
  refine WT.region ?_
  refine lq (q_lss rfl rfl) rfl ?_
  refine WL.nil ?_
  refine WT.seq ?_
  refine WT.cond rfl (fun c3 => ?_) (fun c3 => ?_)
  · replace h := ite_t h c3
    refine WT.skip ?_
    refine WT.seq ?_
    refine WT.block ?_
    refine WT.seq ?_
    refine WT.region ?_
    obtain ⟨x2, hx2, h⟩ := bind_some h
    obtain ⟨cs1, F1, -, g1, hb1, hs1, r1⟩ := ph0_0.el (idx_some hx2).2.2
    obtain ⟨rfl, -⟩ := r1
    refine lq (q_indexAddr Sl_119 rfl rfl ph0_0 hx2) rfl ?_
    refine lq (q_loadN Tn_206 rfl (fun w1 hw => (g1.of_eq 0 5 rfl rfl : rg _ _ _ [.int .i64 x2.K, .string x2.S, .int .i64 x2.V.K, .int .i64 x2.V.N, .string x2.V.S]).rangeAt hw.fro) rfl) rfl ?_
    refine ln (n_alloc (C := #[.int .i64 0, .string (⟨#[]⟩ : ByteArray), .int .i64 0, .int .i64 0, .string (⟨#[]⟩ : ByteArray)]) Zr_206 rfl) rfl (fun b_2 => ?_)
    refine ls (s_store (i := 0) (vs := [.int .i64 x2.K, .string x2.S, .int .i64 x2.V.K, .int .i64 x2.V.N, .string x2.V.S]) (C' := [.int .i64 x2.K, .string x2.S, .int .i64 x2.V.K, .int .i64 x2.V.N, .string x2.V.S]) (O' := [(b_2, .cells #[.int .i64 x2.K, .string x2.S, .int .i64 x2.V.K, .int .i64 x2.V.N, .string x2.V.S] 206 (0, 0))]) Sz_206 rfl rfl rfl rfl rfl rfl ⟨rfl, rfl, rfl, rfl, rfl, trivial⟩ rfl rfl) rfl ?_
    refine WL.nil ?_
    refine WT.seq ?_
    refine WT.region ?_
    refine lq (q_loadN Tn_206 rfl (fun w1 hw => hw.rgO (i := 0) rfl 0 5 [.int .i64 x2.K, .string x2.S, .int .i64 x2.V.K, .int .i64 x2.V.N, .string x2.V.S] rfl) rfl) rfl ?_
    obtain ⟨x3, hx3, h⟩ := bind_some h
    refine lp (p_call Fun_262 rfl (fun w1 hw => m_i_ArgOk_ok hw.fro N x2 hx3)) rfl ?_
    refine lq (q_not rfl) rfl ?_
    refine WL.nil ?_
    refine WT.cond rfl (fun c4 => ?_) (fun c4 => ?_)
    · replace h := ite_t h c4
      refine WT.seq ?_
      refine WT.region ?_
      refine lq (q_assign rfl) rfl ?_
      refine WL.nil ?_
      refine WT.ret Try.func216 (resOk.one rfl) (fun w1 hw => ?_)
      subst hb0
      cases h
      exact post_of_St hw
    replace h := ite_f h c4
    refine WT.skip ?_
    refine WT.inBlock ?_
    refine WT.region ?_
    refine lq (q_add rfl rfl) rfl ?_
    refine lq (q_move rfl) rfl ?_
    refine WL.nil ?_
    refine WT.inLoop (WT.mono (l' := [(16, pv0_0), (17, .int .i64 (p0.Args.length : Int)), (18, .int .i64 (IntKind.i64.wrap (s1 + 1)))]) (S' := St w0 Φ [] []) ⟨rfl, rfl, rfl, trivial⟩ (fun w1 hw => (hw.sel (js := []) rfl).selO (js := []) rfl) ?_)
    exact ih1 (IntKind.i64.wrap (s1 + 1)) h
  replace h := ite_f h c3
  refine WT.exit rfl ?_
  refine WT.seq ?_
  refine WT.region ?_
  refine lq (q_assign rfl) rfl ?_
  refine WL.nil ?_
  refine WT.ret Try.func216 (resOk.one rfl) (fun w1 hw => ?_)
  subst hb0
  cases h
  exact post_of_St hw
theorem m_i_patsOk_ok {Φ : Hp} {w : World} (hΦ : In Φ w) (N : Nat) (p0 : TRule) {pv0_0 : Value} {pG0_0 : List Nat} {pv0_1 : Value} {pG0_1 : List Nat} {pv0_2 : Value} {pG0_2 : List Nat} (ph0_0 : RSl RTPat 3 Φ pG0_0 pv0_0 p0.Pats) (ph0_1 : RSl RTCond 11 Φ pG0_1 pv0_1 p0.Conds) (ph0_2 : RSl RTAct 5 Φ pG0_2 pv0_2 p0.Acts) {r : Bool} (h : m_i_patsOk N p0 = some r) :
    Calls Try.prog 149 [.agg [.string p0.Name, .int .i64 p0.Sal, pv0_0, pv0_1, pv0_2].toArray].toArray w (Post (.bool r) w) := by
  refine enter Try.func149 rfl Try.ntmps149 rfl (St.start0 hΦ) ?_
  generalize hb0 : (⟨w, [], Φ⟩ : Base) = w0
  unfold m_i_patsOk at h
  refine WT.seq ?_
  refine WT.region ?_
  refine ln (n_box (C := #[.string p0.Name, .int .i64 p0.Sal, pv0_0, pv0_1, pv0_2]) rfl rfl) rfl (fun b_1 => ?_)
  refine lq (q_assign rfl) rfl ?_
  refine WL.nil ?_
  refine WT.seq ?_
  refine WT.seq ?_
  refine WT.region ?_
  refine lq (q_fieldAddr Fld_66_2 rfl) rfl ?_
  refine lq (q_load1 T1_62 rfl (fun w1 hw => hw.rgO (i := 0) rfl 2 1 [pv0_0] rfl)) rfl ?_
  refine lq (q_lenR Sl_62 rfl rfl ph0_0) rfl ?_
  obtain ⟨x1, hx1, h⟩ := bind_some h
  refine lp (p_call Fun_148 rfl (fun w1 hw => m_i_inRange_ok hw.fro N (p0.Pats.length : Int) 1 6 hx1)) rfl ?_
  refine lq (q_not rfl) rfl ?_
  refine lq (q_move rfl) rfl ?_
  obtain ⟨b1, hb_1, h⟩ := bind_some h
  refine WL.cutN 5 [(15, .bool b1), (1, .pointer (some ⟨b_1, 0, none⟩))] ?_ (fun K => ?_)
  rotate_left
  · refine WL.split (d := 10) rfl (fun c1 => ?_) (fun c1 => ?_)
    · replace hb_1 := ite_t hb_1 c1
      refine WL.no rfl rfl rfl rfl ?_
      refine WL.no rfl rfl rfl rfl ?_
      refine WL.no rfl rfl rfl rfl ?_
      refine WL.no rfl rfl rfl rfl ?_
      refine WL.q (q_pick1 rfl rfl) rfl rfl rfl ?_
      cases hb_1
      exact WL.keep (by exact ⟨rfl, rfl, trivial⟩) K
    · replace hb_1 := ite_f hb_1 c1
      refine WL.yes rfl rfl ?_
      refine lq (q_loadN Tn_66 rfl (fun w1 hw => hw.rgO (i := 0) rfl 0 5 [.string p0.Name, .int .i64 p0.Sal, pv0_0, pv0_1, pv0_2] rfl) rfl) rfl ?_
      refine WL.yes rfl rfl ?_
      obtain ⟨x2, hx2, hb_1⟩ := bind_some hb_1
      refine lp (p_call Fun_64 rfl (fun w1 hw => m_i_PosCount_ok hw.fro N p0 ph0_0 ph0_1 ph0_2 hx2)) rfl ?_
      refine WL.yes rfl rfl ?_
      obtain ⟨x3, hx3, hb_1⟩ := bind_some hb_1
      refine lp (p_call Fun_148 rfl (fun w1 hw => m_i_inRange_ok hw.fro N x2 1 3 hx3)) rfl ?_
      refine WL.yes rfl rfl ?_
      refine lq (q_not rfl) rfl ?_
      refine WL.q (q_pick0 rfl rfl) rfl rfl rfl ?_
      cases hb_1
      exact WL.keep (by exact ⟨rfl, rfl, trivial⟩) K
  refine WL.nil ?_
  refine WT.cond rfl (fun c2 => ?_) (fun c2 => ?_)
  · replace h := ite_t h c2
    refine WT.seq ?_
    refine WT.region ?_
    refine lq (q_assign rfl) rfl ?_
    refine WL.nil ?_
    refine WT.ret Try.func149 (resOk.one rfl) (fun w1 hw => ?_)
    subst hb0
    cases h
    exact post_of_St hw
  replace h := ite_f h c2
  refine WT.skip ?_
  refine WT.seq ?_
  refine WT.seq ?_
  refine WT.region ?_
  refine lq (q_fieldAddr Fld_66_2 rfl) rfl ?_
  refine lq (q_load1 T1_62 rfl (fun w1 hw => hw.rgO (i := 0) rfl 2 1 [pv0_0] rfl)) rfl ?_
  refine lq (q_lenR Sl_62 rfl rfl ph0_0) rfl ?_
  refine lq (q_move rfl) rfl ?_
  refine WL.nil ?_
  refine WT.block ?_
  refine WT.loop ?_
  refine WT.mono (l' := [(1, .pointer (some ⟨b_1, 0, none⟩)), (17, pv0_0), (18, .int .i64 (p0.Pats.length : Int)), (19, .int .i64 0)]) (S' := St w0 Φ [(b_1, .cells #[.string p0.Name, .int .i64 p0.Sal, pv0_0, pv0_1, pv0_2] 66 (0, 0))] []) ⟨rfl, rfl, rfl, rfl, trivial⟩ (fun w1 hw => (hw.sel (js := []) rfl).selO (js := [0]) rfl) ?_
  refine loop_ind (σ := Int) (fun s => [(1, .pointer (some ⟨b_1, 0, none⟩)), (17, pv0_0), (18, .int .i64 (p0.Pats.length : Int)), (19, .int .i64 s)]) (fun s => St w0 Φ [(b_1, .cells #[.string p0.Name, .int .i64 p0.Sal, pv0_0, pv0_1, pv0_2] 66 (0, 0))] []) (fun m s => m_i_patsOk_l1 N p0 m s = some r) (fun s hm => none_ne (show (none : Option (Bool)) = some r from hm)) (fun n1 ih1 s hm => ?_) N (0) h
  revert hm; revert s; intro s1 hm
  have h : m_i_patsOk_l1 N p0 (n1 + 1) s1 = some r := hm
  show WT _ _ [(1, .pointer (some ⟨b_1, 0, none⟩)), (17, pv0_0), (18, .int .i64 (p0.Pats.length : Int)), (19, .int .i64 s1)] (St w0 Φ [(b_1, .cells #[.string p0.Name, .int .i64 p0.Sal, pv0_0, pv0_1, pv0_2] 66 (0, 0))] [])
  unfold m_i_patsOk_l1 at h
  refine WT.seq ?_
  refine WT.region ?_
  refine lq (q_lss rfl rfl) rfl ?_
  refine WL.nil ?_
  refine WT.seq ?_
  refine WT.cond rfl (fun c3 => ?_) (fun c3 => ?_)
  · replace h := ite_t h c3
    refine WT.skip ?_
    refine WT.seq ?_
    refine WT.block ?_
    refine WT.seq ?_
    refine WT.region ?_
    refine lq (q_move rfl) rfl ?_
    obtain ⟨x4, hx4, h⟩ := bind_some h
    obtain ⟨cs1, F1, -, g1, hb1, hs1, r1⟩ := ph0_0.el (idx_some hx4).2.2
    obtain ⟨v1, G1, rfl, hq1, h1⟩ := r1
    obtain rfl := hq1.symm
    refine lq (q_indexAddr Sl_62 rfl rfl ph0_0 hx4) rfl ?_
    refine lq (q_loadN Tn_121 rfl (fun w1 hw => (g1.of_eq 0 3 rfl rfl : rg _ _ _ [.string x4.Kind, v1, .bool x4.Not]).rangeAt hw.fro) rfl) rfl ?_
    refine ln (n_alloc (C := #[.string (⟨#[]⟩ : ByteArray), .slice none 0 0, .bool false]) Zr_121 rfl) rfl (fun b_2 => ?_)
    refine lq (q_assign rfl) rfl ?_
    refine ls (s_store (i := 0) (vs := [.string x4.Kind, v1, .bool x4.Not]) (C' := [.string x4.Kind, v1, .bool x4.Not]) (O' := [(b_2, .cells #[.string x4.Kind, v1, .bool x4.Not] 121 (0, 0)), (b_1, .cells #[.string p0.Name, .int .i64 p0.Sal, pv0_0, pv0_1, pv0_2] 66 (0, 0))]) Sz_121 rfl rfl rfl rfl rfl rfl ⟨rfl, h1.one, rfl, trivial⟩ rfl rfl) rfl ?_
    refine WL.nil ?_
    refine WT.seq ?_
    refine WT.draw mixed (by kernel_rfl) (fun _ h => h.drew) ?_
    refine qq (q_loadN Tn_121 rfl (fun w1 hw => hw.rgO (i := 0) rfl 0 3 [.string x4.Kind, v1, .bool x4.Not] rfl) rfl) rfl ?_
    obtain ⟨x5, hx5, h⟩ := bind_some h
    refine qp (p_call Fun_216 rfl (fun w1 hw => m_i_PatOk_ok hw.fro N x4 h1 hx5)) rfl ?_
    refine qq (q_not rfl) rfl ?_
    refine qq (q_move rfl) rfl ?_
    obtain ⟨b2, hb_2, h⟩ := bind_some h
    refine WQ.cutN 8 [(35, .bool b2), (1, .pointer (some ⟨b_1, 0, none⟩)), (17, pv0_0), (18, .int .i64 (p0.Pats.length : Int)), (19, .int .i64 s1)] ?_ (fun K => ?_)
    rotate_left
    · refine WQ.split (d := 27) rfl (fun c4 => ?_) (fun c4 => ?_)
      · replace hb_2 := ite_t hb_2 c4
        refine WQ.no rfl rfl rfl rfl ?_
        refine WQ.no rfl rfl rfl rfl ?_
        refine WQ.no rfl rfl rfl rfl ?_
        refine WQ.no rfl rfl rfl rfl ?_
        refine WQ.no rfl rfl rfl rfl ?_
        refine WQ.no rfl rfl rfl rfl ?_
        refine WQ.no rfl rfl rfl rfl ?_
        refine WQ.q (q_pick1 rfl rfl) rfl rfl rfl ?_
        cases hb_2
        exact WQ.keep (by exact ⟨rfl, rfl, rfl, rfl, rfl, trivial⟩) K
      · replace hb_2 := ite_f hb_2 c4
        refine WQ.yes rfl rfl ?_
        refine qq (q_fieldAddr Fld_121_2 rfl) rfl ?_
        refine WQ.yes rfl rfl ?_
        refine qq (q_load1 T1_4 rfl (fun w1 hw => hw.rgO (i := 0) rfl 2 1 [.bool x4.Not] rfl)) rfl ?_
        refine WQ.yes rfl rfl ?_
        refine qq (q_move rfl) rfl ?_
        refine WQ.yes rfl rfl ?_
        refine qq (q_loadN Tn_66 rfl (fun w1 hw => hw.rgO (i := 1) rfl 0 5 [.string p0.Name, .int .i64 p0.Sal, pv0_0, pv0_1, pv0_2] rfl) rfl) rfl ?_
        refine WQ.yes rfl rfl ?_
        obtain ⟨x6, hx6, hb_2⟩ := bind_some hb_2
        refine qp (p_call Fun_64 rfl (fun w1 hw => m_i_PosCount_ok hw.fro N p0 ph0_0 ph0_1 ph0_2 hx6)) rfl ?_
        refine WQ.yes rfl rfl ?_
        refine qq (q_geq rfl rfl) rfl ?_
        refine WQ.yes rfl rfl ?_
        refine qq (q_bne Bo_4 rfl rfl) rfl ?_
        refine WQ.q (q_pick0 rfl rfl) rfl rfl rfl ?_
        cases hb_2
        exact WQ.keep (by exact ⟨rfl, rfl, rfl, rfl, rfl, trivial⟩) K
    refine WQ.nil ?_
    refine WT.cond rfl (fun c5 => ?_) (fun c5 => ?_)
    · replace h := ite_t h c5
      refine WT.seq ?_
      refine WT.region ?_
      refine lq (q_assign rfl) rfl ?_
      refine WL.nil ?_
      refine WT.ret Try.func149 (resOk.one rfl) (fun w1 hw => ?_)
      subst hb0
      cases h
      exact post_of_St hw
    replace h := ite_f h c5
    refine WT.skip ?_
    refine WT.inBlock ?_
    refine WT.region ?_
    refine lq (q_add rfl rfl) rfl ?_
    refine lq (q_move rfl) rfl ?_
    refine WL.nil ?_
    refine WT.inLoop (WT.mono (l' := [(1, .pointer (some ⟨b_1, 0, none⟩)), (17, pv0_0), (18, .int .i64 (p0.Pats.length : Int)), (19, .int .i64 (IntKind.i64.wrap (s1 + 1)))]) (S' := St w0 Φ [(b_1, .cells #[.string p0.Name, .int .i64 p0.Sal, pv0_0, pv0_1, pv0_2] 66 (0, 0))] []) ⟨rfl, rfl, rfl, rfl, trivial⟩ (fun w1 hw => (hw.sel (js := []) rfl).selO (js := [1]) rfl) ?_)
    exact ih1 (IntKind.i64.wrap (s1 + 1)) h
  replace h := ite_f h c3
  refine WT.exit rfl ?_
  refine WT.seq ?_
  refine WT.region ?_
  refine lq (q_assign rfl) rfl ?_
  refine WL.nil ?_
  refine WT.ret Try.func149 (resOk.one rfl) (fun w1 hw => ?_)
  subst hb0
  cases h
  exact post_of_St hw
theorem m_i_isTerm_ok {Φ : Hp} {w : World} (hΦ : In Φ w) (N : Nat) (p0 : TArg)   {r : Bool} (h : m_i_isTerm N p0 = some r) :
    Calls Try.prog 217 [.agg [.int .i64 p0.K, .string p0.S, .int .i64 p0.V.K, .int .i64 p0.V.N, .string p0.V.S].toArray].toArray w (Post (.bool r) w) := by
  refine enter Try.func217 rfl Try.ntmps217 rfl (St.start0 hΦ) ?_
  unfold m_i_isTerm at h
  refine WT.seq ?_
  refine WT.region ?_
  refine ln (n_box (C := #[.int .i64 p0.K, .string p0.S, .int .i64 p0.V.K, .int .i64 p0.V.N, .string p0.V.S]) rfl rfl) rfl (fun b_1 => ?_)
  refine lq (q_assign rfl) rfl ?_
  refine WL.nil ?_
  refine WT.seq ?_
  refine WT.region ?_
  refine lq (q_fieldAddr Fld_206_0 rfl) rfl ?_
  refine lq (q_load1 T1_3 rfl (fun w1 hw => hw.rgO (i := 0) rfl 0 1 [.int .i64 p0.K] rfl)) rfl ?_
  refine lq (q_neq rfl rfl) rfl ?_
  refine lq (q_move rfl) rfl ?_
  obtain ⟨b1, hb_1, h⟩ := bind_some h
  refine WL.cutN 3 [(9, .bool b1), (2, .bool false)] ?_ (fun K => ?_)
  rotate_left
  · refine WL.split (d := 6) rfl (fun c1 => ?_) (fun c1 => ?_)
    · replace hb_1 := ite_t hb_1 c1
      refine WL.yes rfl rfl ?_
      refine lq (q_loadN Tn_206 rfl (fun w1 hw => hw.rgO (i := 0) rfl 0 5 [.int .i64 p0.K, .string p0.S, .int .i64 p0.V.K, .int .i64 p0.V.N, .string p0.V.S] rfl) rfl) rfl ?_
      refine WL.yes rfl rfl ?_
      obtain ⟨x1, hx1, hb_1⟩ := bind_some hb_1
      refine lp (p_call Fun_262 rfl (fun w1 hw => m_i_ArgOk_ok hw.fro N p0 hx1)) rfl ?_
      refine WL.q (q_pick1 rfl rfl) rfl rfl rfl ?_
      cases hb_1
      exact WL.keep (by exact ⟨rfl, rfl, trivial⟩) K
    · replace hb_1 := ite_f hb_1 c1
      refine WL.no rfl rfl rfl rfl ?_
      refine WL.no rfl rfl rfl rfl ?_
      refine WL.q (q_pick0 rfl rfl) rfl rfl rfl ?_
      cases hb_1
      exact WL.keep (by exact ⟨rfl, rfl, trivial⟩) K
  refine lq (q_assign rfl) rfl ?_
  refine WL.nil ?_
  refine WT.ret Try.func217 (resOk.one rfl) (fun w1 hw => ?_)
  cases h
  exact post_of_St hw
theorem m_i_CondOk_ok {Φ : Hp} {w : World} (hΦ : In Φ w) (N : Nat) (p0 : TCond)   {r : Bool} (h : m_i_CondOk N p0 = some r) :
    Calls Try.prog 150 [.agg [.int .i64 p0.Op, .int .i64 p0.L.K, .string p0.L.S, .int .i64 p0.L.V.K, .int .i64 p0.L.V.N, .string p0.L.V.S, .int .i64 p0.R.K, .string p0.R.S, .int .i64 p0.R.V.K, .int .i64 p0.R.V.N, .string p0.R.V.S].toArray].toArray w (Post (.bool r) w) := by
  refine enter Try.func150 rfl Try.ntmps150 rfl (St.start0 hΦ) ?_
  unfold m_i_CondOk at h
  refine WT.seq ?_
  refine WT.region ?_
  refine ln (n_box (C := #[.int .i64 p0.Op, .int .i64 p0.L.K, .string p0.L.S, .int .i64 p0.L.V.K, .int .i64 p0.L.V.N, .string p0.L.V.S, .int .i64 p0.R.K, .string p0.R.S, .int .i64 p0.R.V.K, .int .i64 p0.R.V.N, .string p0.R.V.S]) rfl rfl) rfl (fun b_1 => ?_)
  refine lq (q_assign rfl) rfl ?_
  refine WL.nil ?_
  refine WT.seq ?_
  refine WT.region ?_
  refine lq (q_fieldAddr Fld_211_0 rfl) rfl ?_
  refine lq (q_load1 T1_3 rfl (fun w1 hw => hw.rgO (i := 0) rfl 0 1 [.int .i64 p0.Op] rfl)) rfl ?_
  obtain ⟨x1, hx1, h⟩ := bind_some h
  refine lp (p_call Fun_148 rfl (fun w1 hw => m_i_inRange_ok hw.fro N p0.Op 1 3 hx1)) rfl ?_
  refine lq (q_move rfl) rfl ?_
  obtain ⟨b1, hb_1, h⟩ := bind_some h
  refine WL.cutN 4 [(10, .bool b1), (1, .pointer (some ⟨b_1, 0, none⟩)), (2, .bool false)] ?_ (fun K => ?_)
  rotate_left
  · refine WL.split (d := 6) rfl (fun c1 => ?_) (fun c1 => ?_)
    · replace hb_1 := ite_t hb_1 c1
      refine WL.yes rfl rfl ?_
      refine lq (q_fieldAddr Fld_211_1 rfl) rfl ?_
      refine WL.yes rfl rfl ?_
      refine lq (q_loadN Tn_206 rfl (fun w1 hw => hw.rgO (i := 0) rfl 1 5 [.int .i64 p0.L.K, .string p0.L.S, .int .i64 p0.L.V.K, .int .i64 p0.L.V.N, .string p0.L.V.S] rfl) rfl) rfl ?_
      refine WL.yes rfl rfl ?_
      obtain ⟨x2, hx2, hb_1⟩ := bind_some hb_1
      refine lp (p_call Fun_217 rfl (fun w1 hw => m_i_isTerm_ok hw.fro N p0.L hx2)) rfl ?_
      refine WL.q (q_pick1 rfl rfl) rfl rfl rfl ?_
      cases hb_1
      exact WL.keep (by exact ⟨rfl, rfl, rfl, trivial⟩) K
    · replace hb_1 := ite_f hb_1 c1
      refine WL.no rfl rfl rfl rfl ?_
      refine WL.no rfl rfl rfl rfl ?_
      refine WL.no rfl rfl rfl rfl ?_
      refine WL.q (q_pick0 rfl rfl) rfl rfl rfl ?_
      cases hb_1
      exact WL.keep (by exact ⟨rfl, rfl, rfl, trivial⟩) K
  refine lq (q_move rfl) rfl ?_
  obtain ⟨b2, hb_2, h⟩ := bind_some h
  refine WL.cutN 4 [(15, .bool b2), (2, .bool false)] ?_ (fun K => ?_)
  rotate_left
  · refine WL.split (d := 11) rfl (fun c2 => ?_) (fun c2 => ?_)
    · replace hb_2 := ite_t hb_2 c2
      refine WL.yes rfl rfl ?_
      refine lq (q_fieldAddr Fld_211_2 rfl) rfl ?_
      refine WL.yes rfl rfl ?_
      refine lq (q_loadN Tn_206 rfl (fun w1 hw => hw.rgO (i := 0) rfl 6 5 [.int .i64 p0.R.K, .string p0.R.S, .int .i64 p0.R.V.K, .int .i64 p0.R.V.N, .string p0.R.V.S] rfl) rfl) rfl ?_
      refine WL.yes rfl rfl ?_
      obtain ⟨x3, hx3, hb_2⟩ := bind_some hb_2
      refine lp (p_call Fun_217 rfl (fun w1 hw => m_i_isTerm_ok hw.fro N p0.R hx3)) rfl ?_
      refine WL.q (q_pick1 rfl rfl) rfl rfl rfl ?_
      cases hb_2
      exact WL.keep (by exact ⟨rfl, rfl, trivial⟩) K
    · replace hb_2 := ite_f hb_2 c2
      refine WL.no rfl rfl rfl rfl ?_
      refine WL.no rfl rfl rfl rfl ?_
      refine WL.no rfl rfl rfl rfl ?_
      refine WL.q (q_pick0 rfl rfl) rfl rfl rfl ?_
      cases hb_2
      exact WL.keep (by exact ⟨rfl, rfl, trivial⟩) K
  refine lq (q_assign rfl) rfl ?_
  refine WL.nil ?_
  refine WT.ret Try.func150 (resOk.one rfl) (fun w1 hw => ?_)
  cases h
  exact post_of_St hw
theorem m_i_ExprOk_ok {Φ : Hp} {w : World} (hΦ : In Φ w) (N : Nat) (p0 : TExpr)   {r : Bool} (h : m_i_ExprOk N p0 = some r) :
    Calls Try.prog 263 [.agg [.string p0.Op, .int .i64 p0.L.K, .string p0.L.S, .int .i64 p0.L.V.K, .int .i64 p0.L.V.N, .string p0.L.V.S, .int .i64 p0.R.K, .string p0.R.S, .int .i64 p0.R.V.K, .int .i64 p0.R.V.N, .string p0.R.V.S].toArray].toArray w (Post (.bool r) w) := by
  refine enter Try.func263 rfl Try.ntmps263 rfl (St.start0 hΦ) ?_
  generalize hb0 : (⟨w, [], Φ⟩ : Base) = w0
  unfold m_i_ExprOk at h
  refine WT.seq ?_
  refine WT.region ?_
  refine ln (n_box (C := #[.string p0.Op, .int .i64 p0.L.K, .string p0.L.S, .int .i64 p0.L.V.K, .int .i64 p0.L.V.N, .string p0.L.V.S, .int .i64 p0.R.K, .string p0.R.S, .int .i64 p0.R.V.K, .int .i64 p0.R.V.N, .string p0.R.V.S]) rfl rfl) rfl (fun b_1 => ?_)
  refine lq (q_assign rfl) rfl ?_
  refine WL.nil ?_
  refine WT.seq ?_
  refine WT.seq ?_
  refine WT.region ?_
  refine lq (q_fieldAddr Fld_285_0 rfl) rfl ?_
  refine lq (q_load1 T1_9 rfl (fun w1 hw => hw.rgO (i := 0) rfl 0 1 [.string p0.Op] rfl)) rfl ?_
  refine WL.nil ?_
  refine WT.block ?_
  refine WT.seq ?_
  refine WT.region ?_
  refine lq (q_seq rfl rfl) rfl ?_
  refine lq (q_assign rfl) rfl ?_
  refine WL.nil ?_
  refine WT.cond rfl (fun c1 => ?_) (fun c1 => ?_)
  · replace h := ite_t h c1
    refine WT.seq ?_
    refine WT.region ?_
    refine lq (q_fieldAddr Fld_285_1 rfl) rfl ?_
    refine lq (q_loadN Tn_206 rfl (fun w1 hw => hw.rgO (i := 0) rfl 1 5 [.int .i64 p0.L.K, .string p0.L.S, .int .i64 p0.L.V.K, .int .i64 p0.L.V.N, .string p0.L.V.S] rfl) rfl) rfl ?_
    obtain ⟨x1, hx1, h⟩ := bind_some h
    refine lp (p_call Fun_217 rfl (fun w1 hw => m_i_isTerm_ok hw.fro N p0.L hx1)) rfl ?_
    refine lq (q_move rfl) rfl ?_
    obtain ⟨b1, hb_1, h⟩ := bind_some h
    refine WL.cutN 5 [(15, .bool b1), (2, .bool false)] ?_ (fun K => ?_)
    rotate_left
    · refine WL.split (d := 10) rfl (fun c2 => ?_) (fun c2 => ?_)
      · replace hb_1 := ite_t hb_1 c2
        refine WL.yes rfl rfl ?_
        refine lq (q_fieldAddr Fld_285_2 rfl) rfl ?_
        refine WL.yes rfl rfl ?_
        refine lq (q_loadN Tn_206 rfl (fun w1 hw => hw.rgO (i := 0) rfl 6 5 [.int .i64 p0.R.K, .string p0.R.S, .int .i64 p0.R.V.K, .int .i64 p0.R.V.N, .string p0.R.V.S] rfl) rfl) rfl ?_
        refine WL.yes rfl rfl ?_
        refine lq (q_build (vs := []) (C := #[.int .i64 0, .string (⟨#[]⟩ : ByteArray), .int .i64 0, .int .i64 0, .string (⟨#[]⟩ : ByteArray)]) Pl_206 Zr_206 rfl (fill_nil)) rfl ?_
        refine WL.yes rfl rfl ?_
        refine lq (q_eqA EqT_206 rfl rfl rfl (r := eqT_TArg p0.R (⟨0, (⟨#[]⟩ : ByteArray), (⟨0, 0, (⟨#[]⟩ : ByteArray)⟩ : TVal)⟩ : TArg)) rfl) rfl ?_
        refine WL.q (q_pick1 rfl rfl) rfl rfl rfl ?_
        cases hb_1
        exact WL.keep (by exact ⟨rfl, rfl, trivial⟩) K
      · replace hb_1 := ite_f hb_1 c2
        refine WL.no rfl rfl rfl rfl ?_
        refine WL.no rfl rfl rfl rfl ?_
        refine WL.no rfl rfl rfl rfl ?_
        refine WL.no rfl rfl rfl rfl ?_
        refine WL.q (q_pick0 rfl rfl) rfl rfl rfl ?_
        cases hb_1
        exact WL.keep (by exact ⟨rfl, rfl, trivial⟩) K
    refine lq (q_assign rfl) rfl ?_
    refine WL.nil ?_
    refine WT.ret Try.func263 (resOk.one rfl) (fun w1 hw => ?_)
    subst hb0
    cases h
    exact post_of_St hw
  replace h := ite_f h c1
  refine WT.seq ?_
  refine WT.seq ?_
  refine WT.region ?_
  refine lq (q_seq rfl rfl) rfl ?_
  refine lq (q_assign rfl) rfl ?_
  refine WL.nil ?_
  refine cut (σ := Bool) (fun s => [(1, .pointer (some ⟨b_1, 0, none⟩)), (16, .bool s)]) (fun s => St w0 Φ [(b_1, .cells #[.string p0.Op, .int .i64 p0.L.K, .string p0.L.S, .int .i64 p0.L.V.K, .int .i64 p0.L.V.N, .string p0.L.V.S, .int .i64 p0.R.K, .string p0.R.S, .int .i64 p0.R.V.K, .int .i64 p0.R.V.N, .string p0.R.V.S] 285 (0, 0))] []) (fun s => m_i_ExprOk_j1 N p0 s = some r) (fun s hm => ?_) (fun K => ?_)
  · clear h
    revert hm; revert s; intro s1 hm
    have h : m_i_ExprOk_j1 N p0 s1 = some r := hm
    show WT _ _ [(1, .pointer (some ⟨b_1, 0, none⟩)), (16, .bool s1)] (St w0 Φ [(b_1, .cells #[.string p0.Op, .int .i64 p0.L.K, .string p0.L.S, .int .i64 p0.L.V.K, .int .i64 p0.L.V.N, .string p0.L.V.S, .int .i64 p0.R.K, .string p0.R.S, .int .i64 p0.R.V.K, .int .i64 p0.R.V.N, .string p0.R.V.S] 285 (0, 0))] [])
    unfold m_i_ExprOk_j1 at h
    refine WT.cond rfl (fun c3 => ?_) (fun c3 => ?_)
    · replace h := ite_t h c3
      refine WT.seq ?_
      refine WT.region ?_
      refine lq (q_fieldAddr Fld_285_1 rfl) rfl ?_
      refine lq (q_loadN Tn_206 rfl (fun w1 hw => hw.rgO (i := 0) rfl 1 5 [.int .i64 p0.L.K, .string p0.L.S, .int .i64 p0.L.V.K, .int .i64 p0.L.V.N, .string p0.L.V.S] rfl) rfl) rfl ?_
      obtain ⟨x2, hx2, h⟩ := bind_some h
      refine lp (p_call Fun_217 rfl (fun w1 hw => m_i_isTerm_ok hw.fro N p0.L hx2)) rfl ?_
      refine lq (q_move rfl) rfl ?_
      obtain ⟨b2, hb_2, h⟩ := bind_some h
      refine WL.cutN 4 [(26, .bool b2)] ?_ (fun K => ?_)
      rotate_left
      · refine WL.split (d := 22) rfl (fun c4 => ?_) (fun c4 => ?_)
        · replace hb_2 := ite_t hb_2 c4
          refine WL.yes rfl rfl ?_
          refine lq (q_fieldAddr Fld_285_2 rfl) rfl ?_
          refine WL.yes rfl rfl ?_
          refine lq (q_loadN Tn_206 rfl (fun w1 hw => hw.rgO (i := 0) rfl 6 5 [.int .i64 p0.R.K, .string p0.R.S, .int .i64 p0.R.V.K, .int .i64 p0.R.V.N, .string p0.R.V.S] rfl) rfl) rfl ?_
          refine WL.yes rfl rfl ?_
          obtain ⟨x3, hx3, hb_2⟩ := bind_some hb_2
          refine lp (p_call Fun_217 rfl (fun w1 hw => m_i_isTerm_ok hw.fro N p0.R hx3)) rfl ?_
          refine WL.q (q_pick1 rfl rfl) rfl rfl rfl ?_
          cases hb_2
          exact WL.keep (by exact ⟨rfl, trivial⟩) K
        · replace hb_2 := ite_f hb_2 c4
          refine WL.no rfl rfl rfl rfl ?_
          refine WL.no rfl rfl rfl rfl ?_
          refine WL.no rfl rfl rfl rfl ?_
          refine WL.q (q_pick0 rfl rfl) rfl rfl rfl ?_
          cases hb_2
          exact WL.keep (by exact ⟨rfl, trivial⟩) K
      refine lq (q_assign rfl) rfl ?_
      refine WL.nil ?_
      refine WT.ret Try.func263 (resOk.one rfl) (fun w1 hw => ?_)
      subst hb0
      cases h
      exact post_of_St hw
    replace h := ite_f h c3
    refine WT.skip ?_
    refine WT.inBlock ?_
    refine WT.seq ?_
    refine WT.region ?_
    refine lq (q_assign rfl) rfl ?_
    refine WL.nil ?_
    refine WT.ret Try.func263 (resOk.one rfl) (fun w1 hw => ?_)
    subst hb0
    cases h
    exact post_of_St hw
  refine WT.cond rfl (fun c5 => ?_) (fun c5 => ?_)
  · replace h := ite_t h c5
    refine WT.skip ?_
    refine WT.mono (l' := [(1, .pointer (some ⟨b_1, 0, none⟩)), (16, .bool (seq p0.Op (⟨#[43]⟩ : ByteArray)))]) (S' := St w0 Φ [(b_1, .cells #[.string p0.Op, .int .i64 p0.L.K, .string p0.L.S, .int .i64 p0.L.V.K, .int .i64 p0.L.V.N, .string p0.L.V.S, .int .i64 p0.R.K, .string p0.R.S, .int .i64 p0.R.V.K, .int .i64 p0.R.V.N, .string p0.R.V.S] 285 (0, 0))] []) ⟨rfl, rfl, trivial⟩ (fun w1 hw => (hw.sel (js := []) rfl).selO (js := [0]) rfl) ?_
    exact K (seq p0.Op (⟨#[43]⟩ : ByteArray)) h
  replace h := ite_f h c5
  refine WT.region ?_
  refine lq (q_seq rfl rfl) rfl ?_
  refine lq (q_assign rfl) rfl ?_
  refine WL.nil ?_
  refine WT.mono (l' := [(1, .pointer (some ⟨b_1, 0, none⟩)), (16, .bool (seq p0.Op (⟨#[45]⟩ : ByteArray)))]) (S' := St w0 Φ [(b_1, .cells #[.string p0.Op, .int .i64 p0.L.K, .string p0.L.S, .int .i64 p0.L.V.K, .int .i64 p0.L.V.N, .string p0.L.V.S, .int .i64 p0.R.K, .string p0.R.S, .int .i64 p0.R.V.K, .int .i64 p0.R.V.N, .string p0.R.V.S] 285 (0, 0))] []) ⟨rfl, rfl, trivial⟩ (fun w1 hw => (hw.sel (js := []) rfl).selO (js := [0]) rfl) ?_
  exact K (seq p0.Op (⟨#[45]⟩ : ByteArray)) h
theorem m_i_argsOk_ok {Φ : Hp} {w : World} (hΦ : In Φ w) (N : Nat) (p0 : TAct) {pv0_0 : Value} {pG0_0 : List Nat} (ph0_0 : RSl RTExpr 11 Φ pG0_0 pv0_0 p0.Args) {r : Bool} (h : m_i_argsOk N p0 = some r) :
    Calls Try.prog 218 [.agg [.int .i64 p0.Kind, .string p0.Name, pv0_0, .int .i64 p0.N, .string p0.Undo].toArray].toArray w (Post (.bool r) w) := by
  refine enter Try.func218 rfl Try.ntmps218 rfl (St.start0 hΦ) ?_
  generalize hb0 : (⟨w, [], Φ⟩ : Base) = w0
  unfold m_i_argsOk at h
  refine WT.seq ?_
  refine WT.region ?_
  refine ln (n_box (C := #[.int .i64 p0.Kind, .string p0.Name, pv0_0, .int .i64 p0.N, .string p0.Undo]) rfl rfl) rfl (fun b_1 => ?_)
  refine lq (q_assign rfl) rfl ?_
  refine WL.nil ?_
  refine WT.seq ?_
  refine WT.seq ?_
  refine WT.region ?_
  refine lq (q_fieldAddr Fld_215_1 rfl) rfl ?_
  refine lq (q_load1 T1_9 rfl (fun w1 hw => hw.rgO (i := 0) rfl 1 1 [.string p0.Name] rfl)) rfl ?_
  obtain ⟨x1, hx1, h⟩ := bind_some h
  refine lp (p_call Fun_147 rfl (fun w1 hw => m_i_NameOk_ok hw.fro N p0.Name hx1)) rfl ?_
  refine lq (q_not rfl) rfl ?_
  refine lq (q_move rfl) rfl ?_
  obtain ⟨b1, hb_1, h⟩ := bind_some h
  refine WL.cutN 5 [(14, .bool b1), (1, .pointer (some ⟨b_1, 0, none⟩))] ?_ (fun K => ?_)
  rotate_left
  · refine WL.split (d := 9) rfl (fun c1 => ?_) (fun c1 => ?_)
    · replace hb_1 := ite_t hb_1 c1
      refine WL.no rfl rfl rfl rfl ?_
      refine WL.no rfl rfl rfl rfl ?_
      refine WL.no rfl rfl rfl rfl ?_
      refine WL.no rfl rfl rfl rfl ?_
      refine WL.q (q_pick1 rfl rfl) rfl rfl rfl ?_
      cases hb_1
      exact WL.keep (by exact ⟨rfl, rfl, trivial⟩) K
    · replace hb_1 := ite_f hb_1 c1
      refine WL.yes rfl rfl ?_
      refine lq (q_fieldAddr Fld_215_2 rfl) rfl ?_
      refine WL.yes rfl rfl ?_
      refine lq (q_load1 T1_213 rfl (fun w1 hw => hw.rgO (i := 0) rfl 2 1 [pv0_0] rfl)) rfl ?_
      refine WL.yes rfl rfl ?_
      refine lq (q_lenR Sl_213 rfl rfl ph0_0) rfl ?_
      refine WL.yes rfl rfl ?_
      refine lq (q_gtr rfl rfl) rfl ?_
      refine WL.q (q_pick0 rfl rfl) rfl rfl rfl ?_
      cases hb_1
      exact WL.keep (by exact ⟨rfl, rfl, trivial⟩) K
  refine WL.nil ?_
  refine WT.cond rfl (fun c2 => ?_) (fun c2 => ?_)
  · replace h := ite_t h c2
    refine WT.seq ?_
    refine WT.region ?_
    refine lq (q_assign rfl) rfl ?_
    refine WL.nil ?_
    refine WT.ret Try.func218 (resOk.one rfl) (fun w1 hw => ?_)
    subst hb0
    cases h
    exact post_of_St hw
  replace h := ite_f h c2
  refine WT.skip ?_
  refine WT.seq ?_
  refine WT.seq ?_
  refine WT.region ?_
  refine lq (q_fieldAddr Fld_215_2 rfl) rfl ?_
  refine lq (q_load1 T1_213 rfl (fun w1 hw => hw.rgO (i := 0) rfl 2 1 [pv0_0] rfl)) rfl ?_
  refine lq (q_lenR Sl_213 rfl rfl ph0_0) rfl ?_
  refine lq (q_move rfl) rfl ?_
  refine WL.nil ?_
  refine WT.block ?_
  refine WT.loop ?_
  refine WT.mono (l' := [(16, pv0_0), (17, .int .i64 (p0.Args.length : Int)), (18, .int .i64 0)]) (S' := St w0 Φ [] []) ⟨rfl, rfl, rfl, trivial⟩ (fun w1 hw => (hw.sel (js := []) rfl).selO (js := []) rfl) ?_
  refine loop_ind (σ := Int) (fun s => [(16, pv0_0), (17, .int .i64 (p0.Args.length : Int)), (18, .int .i64 s)]) (fun s => St w0 Φ [] []) (fun m s => m_i_argsOk_l1 N p0 m s = some r) (fun s hm => none_ne (show (none : Option (Bool)) = some r from hm)) (fun n1 ih1 s hm => ?_) N (0) h
  revert hm; revert s; intro s1 hm
  have h : m_i_argsOk_l1 N p0 (n1 + 1) s1 = some r := hm
  show WT _ _ [(16, pv0_0), (17, .int .i64 (p0.Args.length : Int)), (18, .int .i64 s1)] (St w0 Φ [] [])
  unfold m_i_argsOk_l1 at h
  refine WT.seq ?_
  refine WT.region ?_
  refine lq (q_lss rfl rfl) rfl ?_
  refine WL.nil ?_
  refine WT.seq ?_
  refine WT.cond rfl (fun c3 => ?_) (fun c3 => ?_)
  · replace h := ite_t h c3
    refine WT.skip ?_
    refine WT.seq ?_
    refine WT.block ?_
    refine WT.seq ?_
    refine WT.region ?_
    obtain ⟨x2, hx2, h⟩ := bind_some h
    obtain ⟨cs1, F1, -, g1, hb1, hs1, r1⟩ := ph0_0.el (idx_some hx2).2.2
    obtain ⟨rfl, -⟩ := r1
    refine lq (q_indexAddr Sl_213 rfl rfl ph0_0 hx2) rfl ?_
    refine lq (q_loadN Tn_285 rfl (fun w1 hw => (g1.of_eq 0 11 rfl rfl : rg _ _ _ [.string x2.Op, .int .i64 x2.L.K, .string x2.L.S, .int .i64 x2.L.V.K, .int .i64 x2.L.V.N, .string x2.L.V.S, .int .i64 x2.R.K, .string x2.R.S, .int .i64 x2.R.V.K, .int .i64 x2.R.V.N, .string x2.R.V.S]).rangeAt hw.fro) rfl) rfl ?_
    refine ln (n_alloc (C := #[.string (⟨#[]⟩ : ByteArray), .int .i64 0, .string (⟨#[]⟩ : ByteArray), .int .i64 0, .int .i64 0, .string (⟨#[]⟩ : ByteArray), .int .i64 0, .string (⟨#[]⟩ : ByteArray), .int .i64 0, .int .i64 0, .string (⟨#[]⟩ : ByteArray)]) Zr_285 rfl) rfl (fun b_2 => ?_)
    refine ls (s_store (i := 0) (vs := [.string x2.Op, .int .i64 x2.L.K, .string x2.L.S, .int .i64 x2.L.V.K, .int .i64 x2.L.V.N, .string x2.L.V.S, .int .i64 x2.R.K, .string x2.R.S, .int .i64 x2.R.V.K, .int .i64 x2.R.V.N, .string x2.R.V.S]) (C' := [.string x2.Op, .int .i64 x2.L.K, .string x2.L.S, .int .i64 x2.L.V.K, .int .i64 x2.L.V.N, .string x2.L.V.S, .int .i64 x2.R.K, .string x2.R.S, .int .i64 x2.R.V.K, .int .i64 x2.R.V.N, .string x2.R.V.S]) (O' := [(b_2, .cells #[.string x2.Op, .int .i64 x2.L.K, .string x2.L.S, .int .i64 x2.L.V.K, .int .i64 x2.L.V.N, .string x2.L.V.S, .int .i64 x2.R.K, .string x2.R.S, .int .i64 x2.R.V.K, .int .i64 x2.R.V.N, .string x2.R.V.S] 285 (0, 0))]) Sz_285 rfl rfl rfl rfl rfl rfl ⟨rfl, rfl, rfl, rfl, rfl, rfl, rfl, rfl, rfl, rfl, rfl, trivial⟩ rfl rfl) rfl ?_
    refine WL.nil ?_
    refine WT.seq ?_
    refine WT.region ?_
    refine lq (q_loadN Tn_285 rfl (fun w1 hw => hw.rgO (i := 0) rfl 0 11 [.string x2.Op, .int .i64 x2.L.K, .string x2.L.S, .int .i64 x2.L.V.K, .int .i64 x2.L.V.N, .string x2.L.V.S, .int .i64 x2.R.K, .string x2.R.S, .int .i64 x2.R.V.K, .int .i64 x2.R.V.N, .string x2.R.V.S] rfl) rfl) rfl ?_
    obtain ⟨x3, hx3, h⟩ := bind_some h
    refine lp (p_call Fun_263 rfl (fun w1 hw => m_i_ExprOk_ok hw.fro N x2 hx3)) rfl ?_
    refine lq (q_not rfl) rfl ?_
    refine WL.nil ?_
    refine WT.cond rfl (fun c4 => ?_) (fun c4 => ?_)
    · replace h := ite_t h c4
      refine WT.seq ?_
      refine WT.region ?_
      refine lq (q_assign rfl) rfl ?_
      refine WL.nil ?_
      refine WT.ret Try.func218 (resOk.one rfl) (fun w1 hw => ?_)
      subst hb0
      cases h
      exact post_of_St hw
    replace h := ite_f h c4
    refine WT.skip ?_
    refine WT.inBlock ?_
    refine WT.region ?_
    refine lq (q_add rfl rfl) rfl ?_
    refine lq (q_move rfl) rfl ?_
    refine WL.nil ?_
    refine WT.inLoop (WT.mono (l' := [(16, pv0_0), (17, .int .i64 (p0.Args.length : Int)), (18, .int .i64 (IntKind.i64.wrap (s1 + 1)))]) (S' := St w0 Φ [] []) ⟨rfl, rfl, rfl, trivial⟩ (fun w1 hw => (hw.sel (js := []) rfl).selO (js := []) rfl) ?_)
    exact ih1 (IntKind.i64.wrap (s1 + 1)) h
  replace h := ite_f h c3
  refine WT.exit rfl ?_
  refine WT.seq ?_
  refine WT.region ?_
  refine lq (q_assign rfl) rfl ?_
  refine WL.nil ?_
  refine WT.ret Try.func218 (resOk.one rfl) (fun w1 hw => ?_)
  subst hb0
  cases h
  exact post_of_St hw
theorem m_i_isUndo_ok {Φ : Hp} {w : World} (hΦ : In Φ w) (N : Nat) (p0 : ByteArray)   {r : Bool} (h : m_i_isUndo N p0 = some r) :
    Calls Try.prog 219 [.string p0].toArray w (Post (.bool r) w) := by
  refine enter Try.func219 rfl Try.ntmps219 rfl (St.start0 hΦ) ?_
  unfold m_i_isUndo at h
  refine WT.seq ?_
  refine WT.region ?_
  refine lq (q_assign rfl) rfl ?_
  refine WL.nil ?_
  refine WT.seq ?_
  refine WT.region ?_
  refine lq (q_move rfl) rfl ?_
  refine lq (q_seq rfl rfl) rfl ?_
  refine lq (q_move rfl) rfl ?_
  obtain ⟨b1, hb_1, h⟩ := bind_some h
  refine WL.cutN 3 [(8, .bool b1), (2, .bool false)] ?_ (fun K => ?_)
  rotate_left
  · refine WL.split (d := 5) rfl (fun c1 => ?_) (fun c1 => ?_)
    · replace hb_1 := ite_t hb_1 c1
      refine WL.no rfl rfl rfl rfl ?_
      refine WL.no rfl rfl rfl rfl ?_
      refine WL.q (q_pick1 rfl rfl) rfl rfl rfl ?_
      cases hb_1
      exact WL.keep (by exact ⟨rfl, rfl, trivial⟩) K
    · replace hb_1 := ite_f hb_1 c1
      refine WL.yes rfl rfl ?_
      refine lq (q_move rfl) rfl ?_
      refine WL.yes rfl rfl ?_
      obtain ⟨x1, hx1, hb_1⟩ := bind_some hb_1
      refine lp (p_call Fun_147 rfl (fun w1 hw => m_i_NameOk_ok hw.fro N p0 hx1)) rfl ?_
      refine WL.q (q_pick0 rfl rfl) rfl rfl rfl ?_
      cases hb_1
      exact WL.keep (by exact ⟨rfl, rfl, trivial⟩) K
  refine lq (q_assign rfl) rfl ?_
  refine WL.nil ?_
  refine WT.ret Try.func219 (resOk.one rfl) (fun w1 hw => ?_)
  cases h
  exact post_of_St hw
theorem m_i_ActOk_ok {Φ : Hp} {w : World} (hΦ : In Φ w) (N : Nat) (p0 : TAct) {pv0_0 : Value} {pG0_0 : List Nat} (ph0_0 : RSl RTExpr 11 Φ pG0_0 pv0_0 p0.Args) {r : Bool} (h : m_i_ActOk N p0 = some r) :
    Calls Try.prog 151 [.agg [.int .i64 p0.Kind, .string p0.Name, pv0_0, .int .i64 p0.N, .string p0.Undo].toArray].toArray w (Post (.bool r) w) := by
  refine enter Try.func151 rfl Try.ntmps151 rfl (St.start0 hΦ) ?_
  generalize hb0 : (⟨w, [], Φ⟩ : Base) = w0
  unfold m_i_ActOk at h
  refine WT.seq ?_
  refine WT.region ?_
  refine ln (n_box (C := #[.int .i64 p0.Kind, .string p0.Name, pv0_0, .int .i64 p0.N, .string p0.Undo]) rfl rfl) rfl (fun b_1 => ?_)
  refine lq (q_assign rfl) rfl ?_
  refine WL.nil ?_
  refine WT.seq ?_
  refine WT.region ?_
  refine lq (q_fieldAddr Fld_215_1 rfl) rfl ?_
  refine lq (q_load1 T1_9 rfl (fun w1 hw => hw.rgO (i := 0) rfl 1 1 [.string p0.Name] rfl)) rfl ?_
  refine lq (q_seq rfl rfl) rfl ?_
  refine lq (q_move rfl) rfl ?_
  obtain ⟨b1, hb_1, h⟩ := bind_some h
  refine WL.cutN 5 [(12, .bool b1), (1, .pointer (some ⟨b_1, 0, none⟩))] ?_ (fun K => ?_)
  rotate_left
  · refine WL.split (d := 7) rfl (fun c1 => ?_) (fun c1 => ?_)
    · replace hb_1 := ite_t hb_1 c1
      refine WL.yes rfl rfl ?_
      refine lq (q_fieldAddr Fld_215_2 rfl) rfl ?_
      refine WL.yes rfl rfl ?_
      refine lq (q_load1 T1_213 rfl (fun w1 hw => hw.rgO (i := 0) rfl 2 1 [pv0_0] rfl)) rfl ?_
      refine WL.yes rfl rfl ?_
      refine lq (q_lenR Sl_213 rfl rfl ph0_0) rfl ?_
      refine WL.yes rfl rfl ?_
      refine lq (q_eql rfl rfl) rfl ?_
      refine WL.q (q_pick1 rfl rfl) rfl rfl rfl ?_
      cases hb_1
      exact WL.keep (by exact ⟨rfl, rfl, trivial⟩) K
    · replace hb_1 := ite_f hb_1 c1
      refine WL.no rfl rfl rfl rfl ?_
      refine WL.no rfl rfl rfl rfl ?_
      refine WL.no rfl rfl rfl rfl ?_
      refine WL.no rfl rfl rfl rfl ?_
      refine WL.q (q_pick0 rfl rfl) rfl rfl rfl ?_
      cases hb_1
      exact WL.keep (by exact ⟨rfl, rfl, trivial⟩) K
  refine lq (q_assign rfl) rfl ?_
  refine WL.nil ?_
  refine WT.seq ?_
  refine WT.seq ?_
  refine WT.region ?_
  refine lq (q_fieldAddr Fld_215_0 rfl) rfl ?_
  refine lq (q_load1 T1_3 rfl (fun w1 hw => hw.rgO (i := 0) rfl 0 1 [.int .i64 p0.Kind] rfl)) rfl ?_
  refine WL.nil ?_
  refine WT.block ?_
  refine WT.seq ?_
  refine WT.region ?_
  refine lq (q_eql rfl rfl) rfl ?_
  refine lq (q_assign rfl) rfl ?_
  refine WL.nil ?_
  refine WT.cond rfl (fun c2 => ?_) (fun c2 => ?_)
  · replace h := ite_t h c2
    refine WT.seq ?_
    refine WT.region ?_
    refine lq (q_loadN Tn_215 rfl (fun w1 hw => hw.rgO (i := 0) rfl 0 5 [.int .i64 p0.Kind, .string p0.Name, pv0_0, .int .i64 p0.N, .string p0.Undo] rfl) rfl) rfl ?_
    obtain ⟨x1, hx1, h⟩ := bind_some h
    refine lp (p_call Fun_218 rfl (fun w1 hw => m_i_argsOk_ok hw.fro N p0 ph0_0 hx1)) rfl ?_
    refine lq (q_move rfl) rfl ?_
    obtain ⟨b2, hb_2, h⟩ := bind_some h
    refine WL.cutN 4 [(23, .bool b2), (1, .pointer (some ⟨b_1, 0, none⟩))] ?_ (fun K => ?_)
    rotate_left
    · refine WL.split (d := 19) rfl (fun c3 => ?_) (fun c3 => ?_)
      · replace hb_2 := ite_t hb_2 c3
        refine WL.yes rfl rfl ?_
        refine lq (q_fieldAddr Fld_215_3 rfl) rfl ?_
        refine WL.yes rfl rfl ?_
        refine lq (q_load1 T1_3 rfl (fun w1 hw => hw.rgO (i := 0) rfl 3 1 [.int .i64 p0.N] rfl)) rfl ?_
        refine WL.yes rfl rfl ?_
        refine lq (q_eql rfl rfl) rfl ?_
        refine WL.q (q_pick1 rfl rfl) rfl rfl rfl ?_
        cases hb_2
        exact WL.keep (by exact ⟨rfl, rfl, trivial⟩) K
      · replace hb_2 := ite_f hb_2 c3
        refine WL.no rfl rfl rfl rfl ?_
        refine WL.no rfl rfl rfl rfl ?_
        refine WL.no rfl rfl rfl rfl ?_
        refine WL.q (q_pick0 rfl rfl) rfl rfl rfl ?_
        cases hb_2
        exact WL.keep (by exact ⟨rfl, rfl, trivial⟩) K
    refine lq (q_move rfl) rfl ?_
    obtain ⟨b3, hb_3, h⟩ := bind_some h
    refine WL.cutN 4 [(28, .bool b3)] ?_ (fun K => ?_)
    rotate_left
    · refine WL.split (d := 24) rfl (fun c4 => ?_) (fun c4 => ?_)
      · replace hb_3 := ite_t hb_3 c4
        refine WL.yes rfl rfl ?_
        refine lq (q_fieldAddr Fld_215_4 rfl) rfl ?_
        refine WL.yes rfl rfl ?_
        refine lq (q_load1 T1_9 rfl (fun w1 hw => hw.rgO (i := 0) rfl 4 1 [.string p0.Undo] rfl)) rfl ?_
        refine WL.yes rfl rfl ?_
        refine lq (q_seq rfl rfl) rfl ?_
        refine WL.q (q_pick1 rfl rfl) rfl rfl rfl ?_
        cases hb_3
        exact WL.keep (by exact ⟨rfl, trivial⟩) K
      · replace hb_3 := ite_f hb_3 c4
        refine WL.no rfl rfl rfl rfl ?_
        refine WL.no rfl rfl rfl rfl ?_
        refine WL.no rfl rfl rfl rfl ?_
        refine WL.q (q_pick0 rfl rfl) rfl rfl rfl ?_
        cases hb_3
        exact WL.keep (by exact ⟨rfl, trivial⟩) K
    refine lq (q_assign rfl) rfl ?_
    refine WL.nil ?_
    refine WT.ret Try.func151 (resOk.one rfl) (fun w1 hw => ?_)
    subst hb0
    cases h
    exact post_of_St hw
  replace h := ite_f h c2
  refine WT.seq ?_
  refine WT.region ?_
  refine lq (q_eql rfl rfl) rfl ?_
  refine lq (q_assign rfl) rfl ?_
  refine WL.nil ?_
  refine WT.cond rfl (fun c5 => ?_) (fun c5 => ?_)
  · replace h := ite_t h c5
    refine WT.seq ?_
    refine WT.region ?_
    refine lq (q_move rfl) rfl ?_
    refine lq (q_move rfl) rfl ?_
    obtain ⟨b4, hb_4, h⟩ := bind_some h
    refine WL.cutN 4 [(36, .bool b4), (1, .pointer (some ⟨b_1, 0, none⟩))] ?_ (fun K => ?_)
    rotate_left
    · refine WL.split (d := 32) rfl (fun c6 => ?_) (fun c6 => ?_)
      · replace hb_4 := ite_t hb_4 c6
        refine WL.yes rfl rfl ?_
        refine lq (q_fieldAddr Fld_215_3 rfl) rfl ?_
        refine WL.yes rfl rfl ?_
        refine lq (q_load1 T1_3 rfl (fun w1 hw => hw.rgO (i := 0) rfl 3 1 [.int .i64 p0.N] rfl)) rfl ?_
        refine WL.yes rfl rfl ?_
        obtain ⟨x2, hx2, hb_4⟩ := bind_some hb_4
        refine lp (p_call Fun_148 rfl (fun w1 hw => m_i_inRange_ok hw.fro N p0.N 0 7 hx2)) rfl ?_
        refine WL.q (q_pick1 rfl rfl) rfl rfl rfl ?_
        cases hb_4
        exact WL.keep (by exact ⟨rfl, rfl, trivial⟩) K
      · replace hb_4 := ite_f hb_4 c6
        refine WL.no rfl rfl rfl rfl ?_
        refine WL.no rfl rfl rfl rfl ?_
        refine WL.no rfl rfl rfl rfl ?_
        refine WL.q (q_pick0 rfl rfl) rfl rfl rfl ?_
        cases hb_4
        exact WL.keep (by exact ⟨rfl, rfl, trivial⟩) K
    refine lq (q_move rfl) rfl ?_
    obtain ⟨b5, hb_5, h⟩ := bind_some h
    refine WL.cutN 4 [(41, .bool b5)] ?_ (fun K => ?_)
    rotate_left
    · refine WL.split (d := 37) rfl (fun c7 => ?_) (fun c7 => ?_)
      · replace hb_5 := ite_t hb_5 c7
        refine WL.yes rfl rfl ?_
        refine lq (q_fieldAddr Fld_215_4 rfl) rfl ?_
        refine WL.yes rfl rfl ?_
        refine lq (q_load1 T1_9 rfl (fun w1 hw => hw.rgO (i := 0) rfl 4 1 [.string p0.Undo] rfl)) rfl ?_
        refine WL.yes rfl rfl ?_
        refine lq (q_seq rfl rfl) rfl ?_
        refine WL.q (q_pick1 rfl rfl) rfl rfl rfl ?_
        cases hb_5
        exact WL.keep (by exact ⟨rfl, trivial⟩) K
      · replace hb_5 := ite_f hb_5 c7
        refine WL.no rfl rfl rfl rfl ?_
        refine WL.no rfl rfl rfl rfl ?_
        refine WL.no rfl rfl rfl rfl ?_
        refine WL.q (q_pick0 rfl rfl) rfl rfl rfl ?_
        cases hb_5
        exact WL.keep (by exact ⟨rfl, trivial⟩) K
    refine lq (q_assign rfl) rfl ?_
    refine WL.nil ?_
    refine WT.ret Try.func151 (resOk.one rfl) (fun w1 hw => ?_)
    subst hb0
    cases h
    exact post_of_St hw
  replace h := ite_f h c5
  refine WT.seq ?_
  refine WT.region ?_
  refine lq (q_eql rfl rfl) rfl ?_
  refine lq (q_assign rfl) rfl ?_
  refine WL.nil ?_
  refine WT.cond rfl (fun c8 => ?_) (fun c8 => ?_)
  · replace h := ite_t h c8
    refine WT.seq ?_
    refine WT.region ?_
    refine lq (q_loadN Tn_215 rfl (fun w1 hw => hw.rgO (i := 0) rfl 0 5 [.int .i64 p0.Kind, .string p0.Name, pv0_0, .int .i64 p0.N, .string p0.Undo] rfl) rfl) rfl ?_
    obtain ⟨x3, hx3, h⟩ := bind_some h
    refine lp (p_call Fun_218 rfl (fun w1 hw => m_i_argsOk_ok hw.fro N p0 ph0_0 hx3)) rfl ?_
    refine lq (q_move rfl) rfl ?_
    obtain ⟨b6, hb_6, h⟩ := bind_some h
    refine WL.cutN 4 [(50, .bool b6), (1, .pointer (some ⟨b_1, 0, none⟩))] ?_ (fun K => ?_)
    rotate_left
    · refine WL.split (d := 46) rfl (fun c9 => ?_) (fun c9 => ?_)
      · replace hb_6 := ite_t hb_6 c9
        refine WL.yes rfl rfl ?_
        refine lq (q_fieldAddr Fld_215_3 rfl) rfl ?_
        refine WL.yes rfl rfl ?_
        refine lq (q_load1 T1_3 rfl (fun w1 hw => hw.rgO (i := 0) rfl 3 1 [.int .i64 p0.N] rfl)) rfl ?_
        refine WL.yes rfl rfl ?_
        refine lq (q_eql rfl rfl) rfl ?_
        refine WL.q (q_pick1 rfl rfl) rfl rfl rfl ?_
        cases hb_6
        exact WL.keep (by exact ⟨rfl, rfl, trivial⟩) K
      · replace hb_6 := ite_f hb_6 c9
        refine WL.no rfl rfl rfl rfl ?_
        refine WL.no rfl rfl rfl rfl ?_
        refine WL.no rfl rfl rfl rfl ?_
        refine WL.q (q_pick0 rfl rfl) rfl rfl rfl ?_
        cases hb_6
        exact WL.keep (by exact ⟨rfl, rfl, trivial⟩) K
    refine lq (q_move rfl) rfl ?_
    obtain ⟨b7, hb_7, h⟩ := bind_some h
    refine WL.cutN 4 [(55, .bool b7)] ?_ (fun K => ?_)
    rotate_left
    · refine WL.split (d := 51) rfl (fun c10 => ?_) (fun c10 => ?_)
      · replace hb_7 := ite_t hb_7 c10
        refine WL.yes rfl rfl ?_
        refine lq (q_fieldAddr Fld_215_4 rfl) rfl ?_
        refine WL.yes rfl rfl ?_
        refine lq (q_load1 T1_9 rfl (fun w1 hw => hw.rgO (i := 0) rfl 4 1 [.string p0.Undo] rfl)) rfl ?_
        refine WL.yes rfl rfl ?_
        obtain ⟨x4, hx4, hb_7⟩ := bind_some hb_7
        refine lp (p_call Fun_219 rfl (fun w1 hw => m_i_isUndo_ok hw.fro N p0.Undo hx4)) rfl ?_
        refine WL.q (q_pick1 rfl rfl) rfl rfl rfl ?_
        cases hb_7
        exact WL.keep (by exact ⟨rfl, trivial⟩) K
      · replace hb_7 := ite_f hb_7 c10
        refine WL.no rfl rfl rfl rfl ?_
        refine WL.no rfl rfl rfl rfl ?_
        refine WL.no rfl rfl rfl rfl ?_
        refine WL.q (q_pick0 rfl rfl) rfl rfl rfl ?_
        cases hb_7
        exact WL.keep (by exact ⟨rfl, trivial⟩) K
    refine lq (q_assign rfl) rfl ?_
    refine WL.nil ?_
    refine WT.ret Try.func151 (resOk.one rfl) (fun w1 hw => ?_)
    subst hb0
    cases h
    exact post_of_St hw
  replace h := ite_f h c8
  refine WT.seq ?_
  refine WT.region ?_
  refine lq (q_eql rfl rfl) rfl ?_
  refine lq (q_assign rfl) rfl ?_
  refine WL.nil ?_
  refine WT.cond rfl (fun c11 => ?_) (fun c11 => ?_)
  · replace h := ite_t h c11
    refine WT.seq ?_
    refine WT.region ?_
    refine lq (q_loadN Tn_215 rfl (fun w1 hw => hw.rgO (i := 0) rfl 0 5 [.int .i64 p0.Kind, .string p0.Name, pv0_0, .int .i64 p0.N, .string p0.Undo] rfl) rfl) rfl ?_
    obtain ⟨x5, hx5, h⟩ := bind_some h
    refine lp (p_call Fun_218 rfl (fun w1 hw => m_i_argsOk_ok hw.fro N p0 ph0_0 hx5)) rfl ?_
    refine lq (q_move rfl) rfl ?_
    obtain ⟨b8, hb_8, h⟩ := bind_some h
    refine WL.cutN 4 [(64, .bool b8), (1, .pointer (some ⟨b_1, 0, none⟩))] ?_ (fun K => ?_)
    rotate_left
    · refine WL.split (d := 60) rfl (fun c12 => ?_) (fun c12 => ?_)
      · replace hb_8 := ite_t hb_8 c12
        refine WL.yes rfl rfl ?_
        refine lq (q_fieldAddr Fld_215_3 rfl) rfl ?_
        refine WL.yes rfl rfl ?_
        refine lq (q_load1 T1_3 rfl (fun w1 hw => hw.rgO (i := 0) rfl 3 1 [.int .i64 p0.N] rfl)) rfl ?_
        refine WL.yes rfl rfl ?_
        obtain ⟨x6, hx6, hb_8⟩ := bind_some hb_8
        refine lp (p_call Fun_148 rfl (fun w1 hw => m_i_inRange_ok hw.fro N p0.N 0 100000 hx6)) rfl ?_
        refine WL.q (q_pick1 rfl rfl) rfl rfl rfl ?_
        cases hb_8
        exact WL.keep (by exact ⟨rfl, rfl, trivial⟩) K
      · replace hb_8 := ite_f hb_8 c12
        refine WL.no rfl rfl rfl rfl ?_
        refine WL.no rfl rfl rfl rfl ?_
        refine WL.no rfl rfl rfl rfl ?_
        refine WL.q (q_pick0 rfl rfl) rfl rfl rfl ?_
        cases hb_8
        exact WL.keep (by exact ⟨rfl, rfl, trivial⟩) K
    refine lq (q_move rfl) rfl ?_
    obtain ⟨b9, hb_9, h⟩ := bind_some h
    refine WL.cutN 4 [(69, .bool b9)] ?_ (fun K => ?_)
    rotate_left
    · refine WL.split (d := 65) rfl (fun c13 => ?_) (fun c13 => ?_)
      · replace hb_9 := ite_t hb_9 c13
        refine WL.yes rfl rfl ?_
        refine lq (q_fieldAddr Fld_215_4 rfl) rfl ?_
        refine WL.yes rfl rfl ?_
        refine lq (q_load1 T1_9 rfl (fun w1 hw => hw.rgO (i := 0) rfl 4 1 [.string p0.Undo] rfl)) rfl ?_
        refine WL.yes rfl rfl ?_
        refine lq (q_seq rfl rfl) rfl ?_
        refine WL.q (q_pick1 rfl rfl) rfl rfl rfl ?_
        cases hb_9
        exact WL.keep (by exact ⟨rfl, trivial⟩) K
      · replace hb_9 := ite_f hb_9 c13
        refine WL.no rfl rfl rfl rfl ?_
        refine WL.no rfl rfl rfl rfl ?_
        refine WL.no rfl rfl rfl rfl ?_
        refine WL.q (q_pick0 rfl rfl) rfl rfl rfl ?_
        cases hb_9
        exact WL.keep (by exact ⟨rfl, trivial⟩) K
    refine lq (q_assign rfl) rfl ?_
    refine WL.nil ?_
    refine WT.ret Try.func151 (resOk.one rfl) (fun w1 hw => ?_)
    subst hb0
    cases h
    exact post_of_St hw
  replace h := ite_f h c11
  refine WT.seq ?_
  refine WT.seq ?_
  refine WT.region ?_
  refine lq (q_eql rfl rfl) rfl ?_
  refine lq (q_assign rfl) rfl ?_
  refine WL.nil ?_
  refine cut (σ := Bool) (fun s => [(1, .pointer (some ⟨b_1, 0, none⟩)), (3, .bool b1), (70, .bool s)]) (fun s => St w0 Φ [(b_1, .cells #[.int .i64 p0.Kind, .string p0.Name, pv0_0, .int .i64 p0.N, .string p0.Undo] 215 (0, 0))] []) (fun s => m_i_ActOk_j1 N p0 b1 s = some r) (fun s hm => ?_) (fun K => ?_)
  · clear h
    revert hm; revert s; intro s1 hm
    have h : m_i_ActOk_j1 N p0 b1 s1 = some r := hm
    show WT _ _ [(1, .pointer (some ⟨b_1, 0, none⟩)), (3, .bool b1), (70, .bool s1)] (St w0 Φ [(b_1, .cells #[.int .i64 p0.Kind, .string p0.Name, pv0_0, .int .i64 p0.N, .string p0.Undo] 215 (0, 0))] [])
    unfold m_i_ActOk_j1 at h
    refine WT.cond rfl (fun c14 => ?_) (fun c14 => ?_)
    · replace h := ite_t h c14
      refine WT.seq ?_
      refine WT.region ?_
      refine lq (q_move rfl) rfl ?_
      refine lq (q_move rfl) rfl ?_
      obtain ⟨b10, hb_10, h⟩ := bind_some h
      refine WL.cutN 4 [(78, .bool b10), (1, .pointer (some ⟨b_1, 0, none⟩))] ?_ (fun K => ?_)
      rotate_left
      · refine WL.split (d := 74) rfl (fun c15 => ?_) (fun c15 => ?_)
        · replace hb_10 := ite_t hb_10 c15
          refine WL.yes rfl rfl ?_
          refine lq (q_fieldAddr Fld_215_3 rfl) rfl ?_
          refine WL.yes rfl rfl ?_
          refine lq (q_load1 T1_3 rfl (fun w1 hw => hw.rgO (i := 0) rfl 3 1 [.int .i64 p0.N] rfl)) rfl ?_
          refine WL.yes rfl rfl ?_
          refine lq (q_eql rfl rfl) rfl ?_
          refine WL.q (q_pick1 rfl rfl) rfl rfl rfl ?_
          cases hb_10
          exact WL.keep (by exact ⟨rfl, rfl, trivial⟩) K
        · replace hb_10 := ite_f hb_10 c15
          refine WL.no rfl rfl rfl rfl ?_
          refine WL.no rfl rfl rfl rfl ?_
          refine WL.no rfl rfl rfl rfl ?_
          refine WL.q (q_pick0 rfl rfl) rfl rfl rfl ?_
          cases hb_10
          exact WL.keep (by exact ⟨rfl, rfl, trivial⟩) K
      refine lq (q_move rfl) rfl ?_
      obtain ⟨b11, hb_11, h⟩ := bind_some h
      refine WL.cutN 4 [(83, .bool b11)] ?_ (fun K => ?_)
      rotate_left
      · refine WL.split (d := 79) rfl (fun c16 => ?_) (fun c16 => ?_)
        · replace hb_11 := ite_t hb_11 c16
          refine WL.yes rfl rfl ?_
          refine lq (q_fieldAddr Fld_215_4 rfl) rfl ?_
          refine WL.yes rfl rfl ?_
          refine lq (q_load1 T1_9 rfl (fun w1 hw => hw.rgO (i := 0) rfl 4 1 [.string p0.Undo] rfl)) rfl ?_
          refine WL.yes rfl rfl ?_
          refine lq (q_seq rfl rfl) rfl ?_
          refine WL.q (q_pick1 rfl rfl) rfl rfl rfl ?_
          cases hb_11
          exact WL.keep (by exact ⟨rfl, trivial⟩) K
        · replace hb_11 := ite_f hb_11 c16
          refine WL.no rfl rfl rfl rfl ?_
          refine WL.no rfl rfl rfl rfl ?_
          refine WL.no rfl rfl rfl rfl ?_
          refine WL.q (q_pick0 rfl rfl) rfl rfl rfl ?_
          cases hb_11
          exact WL.keep (by exact ⟨rfl, trivial⟩) K
      refine lq (q_assign rfl) rfl ?_
      refine WL.nil ?_
      refine WT.ret Try.func151 (resOk.one rfl) (fun w1 hw => ?_)
      subst hb0
      cases h
      exact post_of_St hw
    replace h := ite_f h c14
    refine WT.skip ?_
    refine WT.inBlock ?_
    refine WT.seq ?_
    refine WT.region ?_
    refine lq (q_assign rfl) rfl ?_
    refine WL.nil ?_
    refine WT.ret Try.func151 (resOk.one rfl) (fun w1 hw => ?_)
    subst hb0
    cases h
    exact post_of_St hw
  refine WT.cond rfl (fun c17 => ?_) (fun c17 => ?_)
  · replace h := ite_t h c17
    refine WT.skip ?_
    refine WT.mono (l' := [(1, .pointer (some ⟨b_1, 0, none⟩)), (3, .bool b1), (70, .bool (decide (p0.Kind = 5)))]) (S' := St w0 Φ [(b_1, .cells #[.int .i64 p0.Kind, .string p0.Name, pv0_0, .int .i64 p0.N, .string p0.Undo] 215 (0, 0))] []) ⟨rfl, rfl, rfl, trivial⟩ (fun w1 hw => (hw.sel (js := []) rfl).selO (js := [0]) rfl) ?_
    exact K (decide (p0.Kind = 5)) h
  replace h := ite_f h c17
  refine WT.region ?_
  refine lq (q_eql rfl rfl) rfl ?_
  refine lq (q_assign rfl) rfl ?_
  refine WL.nil ?_
  refine WT.mono (l' := [(1, .pointer (some ⟨b_1, 0, none⟩)), (3, .bool b1), (70, .bool (decide (p0.Kind = 6)))]) (S' := St w0 Φ [(b_1, .cells #[.int .i64 p0.Kind, .string p0.Name, pv0_0, .int .i64 p0.N, .string p0.Undo] 215 (0, 0))] []) ⟨rfl, rfl, rfl, trivial⟩ (fun w1 hw => (hw.sel (js := []) rfl).selO (js := [0]) rfl) ?_
  exact K (decide (p0.Kind = 6)) h
theorem m_i_usedVars_ok {Φ : Hp} {w : World} (hΦ : In Φ w) (N : Nat) (p0 : TRule) {pv0_0 : Value} {pG0_0 : List Nat} {pv0_1 : Value} {pG0_1 : List Nat} {pv0_2 : Value} {pG0_2 : List Nat} (ph0_0 : RSl RTPat 3 Φ pG0_0 pv0_0 p0.Pats) (ph0_1 : RSl RTCond 11 Φ pG0_1 pv0_1 p0.Conds) (ph0_2 : RSl RTAct 5 Φ pG0_2 pv0_2 p0.Acts) {r : (List ByteArray)} (h : m_i_usedVars N p0 = some r) :
    Calls Try.prog 152 [.agg [.string p0.Name, .int .i64 p0.Sal, pv0_0, pv0_1, pv0_2].toArray].toArray w (PostG Φ w [] (fun Φ' Fs v => ∃ (sr_0_0 : Value), v = sr_0_0 ∧ Fs = [ob sr_0_0] ∧ OSl RS 9 1 Φ' [] sr_0_0 r)) := by
  refine enter Try.func152 rfl Try.ntmps152 rfl (St.start0 hΦ) ?_
  have pa0_0 : Old ⟨w, [], Φ⟩ pG0_0 := Old.mk hΦ ph0_0.kn (Dj.empty _)
  have pa0_1 : Old ⟨w, [], Φ⟩ pG0_1 := Old.mk hΦ ph0_1.kn (Dj.empty _)
  have pa0_2 : Old ⟨w, [], Φ⟩ pG0_2 := Old.mk hΦ ph0_2.kn (Dj.empty _)
  revert pa0_0 pa0_1 pa0_2
  generalize hb0 : (⟨w, [], Φ⟩ : Base) = w0
  intro pa0_0 pa0_1 pa0_2
  unfold m_i_usedVars at h
  refine WT.seq ?_
  refine WT.region ?_
  refine ln (n_box (C := #[.string p0.Name, .int .i64 p0.Sal, pv0_0, pv0_1, pv0_2]) rfl rfl) rfl (fun b_1 => ?_)
  refine lq (q_assign rfl) rfl ?_
  refine WL.nil ?_
  refine WT.seq ?_
  refine WT.region ?_
  refine lq (q_assign rfl) rfl ?_
  refine WL.nil ?_
  refine WT.seq ?_
  refine WT.seq ?_
  refine WT.region ?_
  refine lq (q_fieldAddr Fld_66_3 rfl) rfl ?_
  refine lq (q_load1 T1_63 rfl (fun w1 hw => hw.rgO (i := 0) rfl 3 1 [pv0_1] rfl)) rfl ?_
  refine lq (q_lenR Sl_63 rfl rfl ph0_1) rfl ?_
  refine lq (q_move rfl) rfl ?_
  refine WL.nil ?_
  refine WT.block ?_
  refine WT.loop ?_
  refine WT.conv (S' := St w0 Φ [(b_1, .cells #[.string p0.Name, .int .i64 p0.Sal, pv0_0, pv0_1, pv0_2] 66 (0, 0))] (ob (.slice none 0 0) :: [])) (fun w1 hw => hw.addNil) ?_
  have k1 := OSl.nil RS 9 1 Φ
  refine WT.mono (l' := [(1, .pointer (some ⟨b_1, 0, none⟩)), (3, (.slice none 0 0)), (11, pv0_1), (12, .int .i64 (p0.Conds.length : Int)), (13, .int .i64 0)]) (S' := St w0 Φ [(b_1, .cells #[.string p0.Name, .int .i64 p0.Sal, pv0_0, pv0_1, pv0_2] 66 (0, 0))] [ob (.slice none 0 0)]) ⟨rfl, rfl, rfl, rfl, rfl, trivial⟩ (fun w1 hw => (hw.sel (js := [0]) rfl).selO (js := [0]) rfl) ?_
  refine loop_ind (σ := Hp × (List ByteArray) × Value × Int) (fun s => [(1, .pointer (some ⟨b_1, 0, none⟩)), (3, s.2.2.1), (11, pv0_1), (12, .int .i64 (p0.Conds.length : Int)), (13, .int .i64 s.2.2.2)]) (fun s => St w0 s.1 [(b_1, .cells #[.string p0.Name, .int .i64 p0.Sal, pv0_0, pv0_1, pv0_2] 66 (0, 0))] [ob s.2.2.1]) (fun m s => m_i_usedVars_l1 N p0 m s.2.1 s.2.2.2 = some r ∧ (OSl RS 9 1 s.1 [] s.2.2.1 s.2.1) ∧ (RSl RTPat 3 s.1 pG0_0 pv0_0 p0.Pats) ∧ (RSl RTCond 11 s.1 pG0_1 pv0_1 p0.Conds) ∧ (RSl RTAct 5 s.1 pG0_2 pv0_2 p0.Acts)) (fun s hm => none_ne (show (none : Option ((List ByteArray))) = some r from hm.1)) (fun n1 ih1 s hm => ?_) N (Φ, ([] : List ByteArray), (.slice none 0 0), 0) ⟨h, k1, ph0_0, ph0_1, ph0_2⟩
  obtain ⟨Φ_1, s1, u1, s2⟩ := s
  obtain ⟨h, k2, ph0_0, ph0_1, ph0_2⟩ := hm
  replace h : m_i_usedVars_l1 N p0 (n1 + 1) s1 s2 = some r := h
  replace k2 : OSl RS 9 1 Φ_1 [] u1 s1 := k2
  replace ph0_0 : RSl RTPat 3 Φ_1 pG0_0 pv0_0 p0.Pats := ph0_0
  replace ph0_1 : RSl RTCond 11 Φ_1 pG0_1 pv0_1 p0.Conds := ph0_1
  replace ph0_2 : RSl RTAct 5 Φ_1 pG0_2 pv0_2 p0.Acts := ph0_2
  show WT _ _ [(1, .pointer (some ⟨b_1, 0, none⟩)), (3, u1), (11, pv0_1), (12, .int .i64 (p0.Conds.length : Int)), (13, .int .i64 s2)] (St w0 Φ_1 [(b_1, .cells #[.string p0.Name, .int .i64 p0.Sal, pv0_0, pv0_1, pv0_2] 66 (0, 0))] [ob u1])
  unfold m_i_usedVars_l1 at h
  refine WT.seq ?_
  refine WT.region ?_
  refine lq (q_lss rfl rfl) rfl ?_
  refine WL.nil ?_
  refine WT.seq ?_
  refine WT.cond rfl (fun c1 => ?_) (fun c1 => ?_)
  · replace h := ite_t h c1
    refine WT.skip ?_
    refine WT.seq ?_
    refine WT.block ?_
    refine WT.seq ?_
    refine WT.region ?_
    obtain ⟨x1, hx1, h⟩ := bind_some h
    obtain ⟨cs1, F1, -, g1, hb1, hs1, r1⟩ := ph0_1.el (idx_some hx1).2.2
    obtain ⟨rfl, -⟩ := r1
    refine lq (q_indexAddr Sl_63 rfl rfl ph0_1 hx1) rfl ?_
    refine lq (q_loadN Tn_211 rfl (fun w1 hw => (g1.of_eq 0 11 rfl rfl : rg _ _ _ [.int .i64 x1.Op, .int .i64 x1.L.K, .string x1.L.S, .int .i64 x1.L.V.K, .int .i64 x1.L.V.N, .string x1.L.V.S, .int .i64 x1.R.K, .string x1.R.S, .int .i64 x1.R.V.K, .int .i64 x1.R.V.N, .string x1.R.V.S]).rangeAt hw.fro) rfl) rfl ?_
    refine ln (n_alloc (C := #[.int .i64 0, .int .i64 0, .string (⟨#[]⟩ : ByteArray), .int .i64 0, .int .i64 0, .string (⟨#[]⟩ : ByteArray), .int .i64 0, .string (⟨#[]⟩ : ByteArray), .int .i64 0, .int .i64 0, .string (⟨#[]⟩ : ByteArray)]) Zr_211 rfl) rfl (fun b_2 => ?_)
    refine ls (s_store (i := 0) (vs := [.int .i64 x1.Op, .int .i64 x1.L.K, .string x1.L.S, .int .i64 x1.L.V.K, .int .i64 x1.L.V.N, .string x1.L.V.S, .int .i64 x1.R.K, .string x1.R.S, .int .i64 x1.R.V.K, .int .i64 x1.R.V.N, .string x1.R.V.S]) (C' := [.int .i64 x1.Op, .int .i64 x1.L.K, .string x1.L.S, .int .i64 x1.L.V.K, .int .i64 x1.L.V.N, .string x1.L.V.S, .int .i64 x1.R.K, .string x1.R.S, .int .i64 x1.R.V.K, .int .i64 x1.R.V.N, .string x1.R.V.S]) (O' := [(b_2, .cells #[.int .i64 x1.Op, .int .i64 x1.L.K, .string x1.L.S, .int .i64 x1.L.V.K, .int .i64 x1.L.V.N, .string x1.L.V.S, .int .i64 x1.R.K, .string x1.R.S, .int .i64 x1.R.V.K, .int .i64 x1.R.V.N, .string x1.R.V.S] 211 (0, 0)), (b_1, .cells #[.string p0.Name, .int .i64 p0.Sal, pv0_0, pv0_1, pv0_2] 66 (0, 0))]) Sz_211 rfl rfl rfl rfl rfl rfl ⟨rfl, rfl, rfl, rfl, rfl, rfl, rfl, rfl, rfl, rfl, rfl, trivial⟩ rfl rfl) rfl ?_
    refine WL.nil ?_
    refine WT.region ?_
    refine lq (q_move rfl) rfl ?_
    refine lq (q_fieldAddr Fld_211_1 rfl) rfl ?_
    refine lq (q_loadN Tn_206 rfl (fun w1 hw => hw.rgO (i := 0) rfl 1 5 [.int .i64 x1.L.K, .string x1.L.S, .int .i64 x1.L.V.K, .int .i64 x1.L.V.N, .string x1.L.V.S] rfl) rfl) rfl ?_
    refine lq (q_fieldAddr Fld_211_2 rfl) rfl ?_
    refine lq (q_loadN Tn_206 rfl (fun w1 hw => hw.rgO (i := 0) rfl 6 5 [.int .i64 x1.R.K, .string x1.R.S, .int .i64 x1.R.V.K, .int .i64 x1.R.V.N, .string x1.R.V.S] rfl) rfl) rfl ?_
    have rc1 : RC RTArg 5 Φ_1 ([[], []] : List (List Nat)) [.int .i64 x1.L.K, .string x1.L.S, .int .i64 x1.L.V.K, .int .i64 x1.L.V.N, .string x1.L.V.S, .int .i64 x1.R.K, .string x1.R.S, .int .i64 x1.R.V.K, .int .i64 x1.R.V.N, .string x1.R.V.S] ([x1.L, x1.R] : List TArg) := RC.cons (c := [.int .i64 x1.L.K, .string x1.L.S, .int .i64 x1.L.V.K, .int .i64 x1.L.V.N, .string x1.L.V.S]) (cells := [.int .i64 x1.R.K, .string x1.R.S, .int .i64 x1.R.V.K, .int .i64 x1.R.V.N, .string x1.R.V.S]) ⟨rfl, rfl⟩ rfl (RC.cons (c := [.int .i64 x1.R.K, .string x1.R.S, .int .i64 x1.R.V.K, .int .i64 x1.R.V.N, .string x1.R.V.S]) (cells := []) ⟨rfl, rfl⟩ rfl (RC.nil _ _ _))
    refine le' (e_lit (vs := [(0, .agg [.int .i64 x1.L.K, .string x1.L.S, .int .i64 x1.L.V.K, .int .i64 x1.L.V.N, .string x1.L.V.S].toArray), (1, .agg [.int .i64 x1.R.K, .string x1.R.S, .int .i64 x1.R.V.K, .int .i64 x1.R.V.N, .string x1.R.V.S].toArray)]) (C := #[.int .i64 x1.L.K, .string x1.L.S, .int .i64 x1.L.V.K, .int .i64 x1.L.V.N, .string x1.L.V.S, .int .i64 x1.R.K, .string x1.R.S, .int .i64 x1.R.V.K, .int .i64 x1.R.V.N, .string x1.R.V.S]) RTArg.lasts Sl_119 Zr_206 rfl rfl rfl rfl (fill_made MC_206_2 (fill_cons (cells := [.int .i64 0, .string ⟨#[]⟩, .int .i64 0, .int .i64 0, .string ⟨#[]⟩, .int .i64 0, .string ⟨#[]⟩, .int .i64 0, .int .i64 0, .string ⟨#[]⟩]) (c := [.int .i64 x1.L.K, .string x1.L.S, .int .i64 x1.L.V.K, .int .i64 x1.L.V.N, .string x1.L.V.S]) (C' := [.int .i64 x1.L.K, .string x1.L.S, .int .i64 x1.L.V.K, .int .i64 x1.L.V.N, .string x1.L.V.S, .int .i64 0, .string ⟨#[]⟩, .int .i64 0, .int .i64 0, .string ⟨#[]⟩]) rfl rfl rfl rfl rfl (fill_cons (cells := [.int .i64 x1.L.K, .string x1.L.S, .int .i64 x1.L.V.K, .int .i64 x1.L.V.N, .string x1.L.V.S, .int .i64 0, .string ⟨#[]⟩, .int .i64 0, .int .i64 0, .string ⟨#[]⟩]) (c := [.int .i64 x1.R.K, .string x1.R.S, .int .i64 x1.R.V.K, .int .i64 x1.R.V.N, .string x1.R.V.S]) (C' := [.int .i64 x1.L.K, .string x1.L.S, .int .i64 x1.L.V.K, .int .i64 x1.L.V.N, .string x1.L.V.S, .int .i64 x1.R.K, .string x1.R.S, .int .i64 x1.R.V.K, .int .i64 x1.R.V.N, .string x1.R.V.S]) rfl rfl rfl rfl rfl (fill_nil)))) rfl rc1 rfl (by simpa using Kw.nil)) rfl (fun v1 Φ_2 D1 q1 => ?_)
    obtain ⟨fr1, h1⟩ := q1
    replace h1 : OSl RTArg 206 5 Φ_2 [] v1 ([x1.L, x1.R] : List TArg) := by simpa using h1
    replace ph0_0 := ph0_0.frame RTPat.lasts fr1 (Dj.empty _)
    replace ph0_1 := ph0_1.frame RTCond.lasts fr1 (Dj.empty _)
    replace ph0_2 := ph0_2.frame RTAct.lasts fr1 (Dj.empty _)
    replace k2 := k2.frame RS.lasts fr1 (Dj.empty _) (Dj.empty _)
    obtain ⟨x2, hx2, h⟩ := bind_some h
    refine lc (k_call (js := [1]) (R := [ob v1]) Fun_121 rfl rfl (fun w1 hw ap hl => m_i_addVars_ok hw.fro N s1 ([x1.L, x1.R] : List TArg) k2 h1.rsl (Dj.app (ap.r (i := 0) rfl) (Dj.nil _)) ap.nd hl hx2)) rfl (fun v2 Φ_3 F2 q2 => ?_)
    obtain ⟨ap1, fr2, v3, rfl, rfl, h2⟩ := q2
    replace ph0_0 := ph0_0.frame RTPat.lasts fr2 (ap1.o pa0_0)
    replace ph0_1 := ph0_1.frame RTCond.lasts fr2 (ap1.o pa0_1)
    replace ph0_2 := ph0_2.frame RTAct.lasts fr2 (ap1.o pa0_2)
    refine lq (q_assign rfl) rfl ?_
    refine WL.nil ?_
    refine WT.inBlock ?_
    refine WT.region ?_
    refine lq (q_add rfl rfl) rfl ?_
    refine lq (q_move rfl) rfl ?_
    refine WL.nil ?_
    refine WT.inLoop (WT.mono (l' := [(1, .pointer (some ⟨b_1, 0, none⟩)), (3, v2), (11, pv0_1), (12, .int .i64 (p0.Conds.length : Int)), (13, .int .i64 (IntKind.i64.wrap (s2 + 1)))]) (S' := St w0 Φ_3 [(b_1, .cells #[.string p0.Name, .int .i64 p0.Sal, pv0_0, pv0_1, pv0_2] 66 (0, 0))] [ob v2]) ⟨rfl, rfl, rfl, rfl, rfl, trivial⟩ (fun w1 hw => (hw.sel (js := [0]) rfl).selO (js := [1]) rfl) ?_)
    exact ih1 (Φ_3, x2, v2, IntKind.i64.wrap (s2 + 1)) ⟨h, h2, ph0_0, ph0_1, ph0_2⟩
  replace h := ite_f h c1
  refine WT.exit rfl ?_
  refine WT.seq ?_
  refine WT.seq ?_
  refine WT.region ?_
  refine lq (q_fieldAddr Fld_66_4 rfl) rfl ?_
  refine lq (q_load1 T1_64 rfl (fun w1 hw => hw.rgO (i := 0) rfl 4 1 [pv0_2] rfl)) rfl ?_
  refine lq (q_lenR Sl_64 rfl rfl ph0_2) rfl ?_
  refine lq (q_move rfl) rfl ?_
  refine WL.nil ?_
  refine WT.block ?_
  refine WT.loop ?_
  refine WT.mono (l' := [(3, u1), (26, pv0_2), (27, .int .i64 (p0.Acts.length : Int)), (28, .int .i64 0)]) (S' := St w0 Φ_1 [] [ob u1]) ⟨rfl, rfl, rfl, rfl, trivial⟩ (fun w1 hw => (hw.sel (js := [0]) rfl).selO (js := []) rfl) ?_
  refine loop_ind (σ := Hp × (List ByteArray) × Value × Int) (fun s => [(3, s.2.2.1), (26, pv0_2), (27, .int .i64 (p0.Acts.length : Int)), (28, .int .i64 s.2.2.2)]) (fun s => St w0 s.1 [] [ob s.2.2.1]) (fun m s => m_i_usedVars_l2 N p0 m s.2.1 s.2.2.2 = some r ∧ (OSl RS 9 1 s.1 [] s.2.2.1 s.2.1) ∧ (RSl RTAct 5 s.1 pG0_2 pv0_2 p0.Acts)) (fun s hm => none_ne (show (none : Option ((List ByteArray))) = some r from hm.1)) (fun n2 ih2 s hm => ?_) N (Φ_1, s1, u1, 0) ⟨h, k2, ph0_2⟩
  obtain ⟨Φ_4, s3, u2, s4⟩ := s
  obtain ⟨h, k3, ph0_2⟩ := hm
  replace h : m_i_usedVars_l2 N p0 (n2 + 1) s3 s4 = some r := h
  replace k3 : OSl RS 9 1 Φ_4 [] u2 s3 := k3
  replace ph0_2 : RSl RTAct 5 Φ_4 pG0_2 pv0_2 p0.Acts := ph0_2
  show WT _ _ [(3, u2), (26, pv0_2), (27, .int .i64 (p0.Acts.length : Int)), (28, .int .i64 s4)] (St w0 Φ_4 [] [ob u2])
  unfold m_i_usedVars_l2 at h
  refine WT.seq ?_
  refine WT.region ?_
  refine lq (q_lss rfl rfl) rfl ?_
  refine WL.nil ?_
  refine WT.seq ?_
  refine WT.cond rfl (fun c2 => ?_) (fun c2 => ?_)
  · replace h := ite_t h c2
    refine WT.skip ?_
    refine WT.seq ?_
    refine WT.block ?_
    refine WT.seq ?_
    refine WT.region ?_
    obtain ⟨x3, hx3, h⟩ := bind_some h
    obtain ⟨cs2, F3, -, g2, hb2, hs2, r2⟩ := ph0_2.el (idx_some hx3).2.2
    obtain ⟨v4, G1, rfl, hq1, h3⟩ := r2
    obtain rfl := hq1.symm
    refine lq (q_indexAddr Sl_64 rfl rfl ph0_2 hx3) rfl ?_
    refine lq (q_loadN Tn_215 rfl (fun w1 hw => (g2.of_eq 0 5 rfl rfl : rg _ _ _ [.int .i64 x3.Kind, .string x3.Name, v4, .int .i64 x3.N, .string x3.Undo]).rangeAt hw.fro) rfl) rfl ?_
    refine ln (n_alloc (C := #[.int .i64 0, .string (⟨#[]⟩ : ByteArray), .slice none 0 0, .int .i64 0, .string (⟨#[]⟩ : ByteArray)]) Zr_215 rfl) rfl (fun b_3 => ?_)
    refine ls (s_store (i := 0) (vs := [.int .i64 x3.Kind, .string x3.Name, v4, .int .i64 x3.N, .string x3.Undo]) (C' := [.int .i64 x3.Kind, .string x3.Name, v4, .int .i64 x3.N, .string x3.Undo]) (O' := [(b_3, .cells #[.int .i64 x3.Kind, .string x3.Name, v4, .int .i64 x3.N, .string x3.Undo] 215 (0, 0))]) Sz_215 rfl rfl rfl rfl rfl rfl ⟨rfl, rfl, h3.one, rfl, rfl, trivial⟩ rfl rfl) rfl ?_
    refine WL.nil ?_
    refine WT.seq ?_
    refine WT.region ?_
    refine lq (q_fieldAddr Fld_215_2 rfl) rfl ?_
    refine lq (q_load1 T1_213 rfl (fun w1 hw => hw.rgO (i := 0) rfl 2 1 [v4] rfl)) rfl ?_
    refine lq (q_lenR Sl_213 rfl rfl h3) rfl ?_
    refine lq (q_move rfl) rfl ?_
    refine WL.nil ?_
    refine WT.block ?_
    refine WT.loop ?_
    refine WT.mono (l' := [(3, u2), (26, pv0_2), (27, .int .i64 (p0.Acts.length : Int)), (28, .int .i64 s4), (33, v4), (34, .int .i64 (x3.Args.length : Int)), (35, .int .i64 0)]) (S' := St w0 Φ_4 [] [ob u2]) ⟨rfl, rfl, rfl, rfl, rfl, rfl, rfl, trivial⟩ (fun w1 hw => (hw.sel (js := [0]) rfl).selO (js := []) rfl) ?_
    refine loop_ind (σ := Hp × (List ByteArray) × Value × Int) (fun s => [(3, s.2.2.1), (26, pv0_2), (27, .int .i64 (p0.Acts.length : Int)), (28, .int .i64 s4), (33, v4), (34, .int .i64 (x3.Args.length : Int)), (35, .int .i64 s.2.2.2)]) (fun s => St w0 s.1 [] [ob s.2.2.1]) (fun m s => m_i_usedVars_l3 N s4 (m_i_usedVars_l2 N p0 n2) x3 m s.2.1 s.2.2.2 = some r ∧ (OSl RS 9 1 s.1 [] s.2.2.1 s.2.1) ∧ (RSl RTAct 5 s.1 pG0_2 pv0_2 p0.Acts) ∧ (RSl RTExpr 11 s.1 G1 v4 x3.Args)) (fun s hm => none_ne (show (none : Option ((List ByteArray))) = some r from hm.1)) (fun n3 ih3 s hm => ?_) N (Φ_4, s3, u2, 0) ⟨h, k3, ph0_2, h3⟩
    obtain ⟨Φ_5, s5, u3, s6⟩ := s
    obtain ⟨h, k4, ph0_2, h3⟩ := hm
    replace h : m_i_usedVars_l3 N s4 (m_i_usedVars_l2 N p0 n2) x3 (n3 + 1) s5 s6 = some r := h
    replace k4 : OSl RS 9 1 Φ_5 [] u3 s5 := k4
    replace ph0_2 : RSl RTAct 5 Φ_5 pG0_2 pv0_2 p0.Acts := ph0_2
    replace h3 : RSl RTExpr 11 Φ_5 G1 v4 x3.Args := h3
    show WT _ _ [(3, u3), (26, pv0_2), (27, .int .i64 (p0.Acts.length : Int)), (28, .int .i64 s4), (33, v4), (34, .int .i64 (x3.Args.length : Int)), (35, .int .i64 s6)] (St w0 Φ_5 [] [ob u3])
    unfold m_i_usedVars_l3 at h
    refine WT.seq ?_
    refine WT.region ?_
    refine lq (q_lss rfl rfl) rfl ?_
    refine WL.nil ?_
    refine WT.seq ?_
    refine WT.cond rfl (fun c3 => ?_) (fun c3 => ?_)
    · replace h := ite_t h c3
      refine WT.skip ?_
      refine WT.seq ?_
      refine WT.block ?_
      refine WT.seq ?_
      refine WT.region ?_
      obtain ⟨x4, hx4, h⟩ := bind_some h
      obtain ⟨cs3, F4, -, g3, hb3, hs3, r3⟩ := h3.el (idx_some hx4).2.2
      obtain ⟨rfl, -⟩ := r3
      refine lq (q_indexAddr Sl_213 rfl rfl h3 hx4) rfl ?_
      refine lq (q_loadN Tn_285 rfl (fun w1 hw => (g3.of_eq 0 11 rfl rfl : rg _ _ _ [.string x4.Op, .int .i64 x4.L.K, .string x4.L.S, .int .i64 x4.L.V.K, .int .i64 x4.L.V.N, .string x4.L.V.S, .int .i64 x4.R.K, .string x4.R.S, .int .i64 x4.R.V.K, .int .i64 x4.R.V.N, .string x4.R.V.S]).rangeAt hw.fro) rfl) rfl ?_
      refine ln (n_alloc (C := #[.string (⟨#[]⟩ : ByteArray), .int .i64 0, .string (⟨#[]⟩ : ByteArray), .int .i64 0, .int .i64 0, .string (⟨#[]⟩ : ByteArray), .int .i64 0, .string (⟨#[]⟩ : ByteArray), .int .i64 0, .int .i64 0, .string (⟨#[]⟩ : ByteArray)]) Zr_285 rfl) rfl (fun b_4 => ?_)
      refine ls (s_store (i := 0) (vs := [.string x4.Op, .int .i64 x4.L.K, .string x4.L.S, .int .i64 x4.L.V.K, .int .i64 x4.L.V.N, .string x4.L.V.S, .int .i64 x4.R.K, .string x4.R.S, .int .i64 x4.R.V.K, .int .i64 x4.R.V.N, .string x4.R.V.S]) (C' := [.string x4.Op, .int .i64 x4.L.K, .string x4.L.S, .int .i64 x4.L.V.K, .int .i64 x4.L.V.N, .string x4.L.V.S, .int .i64 x4.R.K, .string x4.R.S, .int .i64 x4.R.V.K, .int .i64 x4.R.V.N, .string x4.R.V.S]) (O' := [(b_4, .cells #[.string x4.Op, .int .i64 x4.L.K, .string x4.L.S, .int .i64 x4.L.V.K, .int .i64 x4.L.V.N, .string x4.L.V.S, .int .i64 x4.R.K, .string x4.R.S, .int .i64 x4.R.V.K, .int .i64 x4.R.V.N, .string x4.R.V.S] 285 (0, 0))]) Sz_285 rfl rfl rfl rfl rfl rfl ⟨rfl, rfl, rfl, rfl, rfl, rfl, rfl, rfl, rfl, rfl, rfl, trivial⟩ rfl rfl) rfl ?_
      refine WL.nil ?_
      refine WT.region ?_
      refine lq (q_move rfl) rfl ?_
      refine lq (q_fieldAddr Fld_285_1 rfl) rfl ?_
      refine lq (q_loadN Tn_206 rfl (fun w1 hw => hw.rgO (i := 0) rfl 1 5 [.int .i64 x4.L.K, .string x4.L.S, .int .i64 x4.L.V.K, .int .i64 x4.L.V.N, .string x4.L.V.S] rfl) rfl) rfl ?_
      refine lq (q_fieldAddr Fld_285_2 rfl) rfl ?_
      refine lq (q_loadN Tn_206 rfl (fun w1 hw => hw.rgO (i := 0) rfl 6 5 [.int .i64 x4.R.K, .string x4.R.S, .int .i64 x4.R.V.K, .int .i64 x4.R.V.N, .string x4.R.V.S] rfl) rfl) rfl ?_
      have rc2 : RC RTArg 5 Φ_5 ([[], []] : List (List Nat)) [.int .i64 x4.L.K, .string x4.L.S, .int .i64 x4.L.V.K, .int .i64 x4.L.V.N, .string x4.L.V.S, .int .i64 x4.R.K, .string x4.R.S, .int .i64 x4.R.V.K, .int .i64 x4.R.V.N, .string x4.R.V.S] ([x4.L, x4.R] : List TArg) := RC.cons (c := [.int .i64 x4.L.K, .string x4.L.S, .int .i64 x4.L.V.K, .int .i64 x4.L.V.N, .string x4.L.V.S]) (cells := [.int .i64 x4.R.K, .string x4.R.S, .int .i64 x4.R.V.K, .int .i64 x4.R.V.N, .string x4.R.V.S]) ⟨rfl, rfl⟩ rfl (RC.cons (c := [.int .i64 x4.R.K, .string x4.R.S, .int .i64 x4.R.V.K, .int .i64 x4.R.V.N, .string x4.R.V.S]) (cells := []) ⟨rfl, rfl⟩ rfl (RC.nil _ _ _))
      refine le' (e_lit (vs := [(0, .agg [.int .i64 x4.L.K, .string x4.L.S, .int .i64 x4.L.V.K, .int .i64 x4.L.V.N, .string x4.L.V.S].toArray), (1, .agg [.int .i64 x4.R.K, .string x4.R.S, .int .i64 x4.R.V.K, .int .i64 x4.R.V.N, .string x4.R.V.S].toArray)]) (C := #[.int .i64 x4.L.K, .string x4.L.S, .int .i64 x4.L.V.K, .int .i64 x4.L.V.N, .string x4.L.V.S, .int .i64 x4.R.K, .string x4.R.S, .int .i64 x4.R.V.K, .int .i64 x4.R.V.N, .string x4.R.V.S]) RTArg.lasts Sl_119 Zr_206 rfl rfl rfl rfl (fill_made MC_206_2 (fill_cons (cells := [.int .i64 0, .string ⟨#[]⟩, .int .i64 0, .int .i64 0, .string ⟨#[]⟩, .int .i64 0, .string ⟨#[]⟩, .int .i64 0, .int .i64 0, .string ⟨#[]⟩]) (c := [.int .i64 x4.L.K, .string x4.L.S, .int .i64 x4.L.V.K, .int .i64 x4.L.V.N, .string x4.L.V.S]) (C' := [.int .i64 x4.L.K, .string x4.L.S, .int .i64 x4.L.V.K, .int .i64 x4.L.V.N, .string x4.L.V.S, .int .i64 0, .string ⟨#[]⟩, .int .i64 0, .int .i64 0, .string ⟨#[]⟩]) rfl rfl rfl rfl rfl (fill_cons (cells := [.int .i64 x4.L.K, .string x4.L.S, .int .i64 x4.L.V.K, .int .i64 x4.L.V.N, .string x4.L.V.S, .int .i64 0, .string ⟨#[]⟩, .int .i64 0, .int .i64 0, .string ⟨#[]⟩]) (c := [.int .i64 x4.R.K, .string x4.R.S, .int .i64 x4.R.V.K, .int .i64 x4.R.V.N, .string x4.R.V.S]) (C' := [.int .i64 x4.L.K, .string x4.L.S, .int .i64 x4.L.V.K, .int .i64 x4.L.V.N, .string x4.L.V.S, .int .i64 x4.R.K, .string x4.R.S, .int .i64 x4.R.V.K, .int .i64 x4.R.V.N, .string x4.R.V.S]) rfl rfl rfl rfl rfl (fill_nil)))) rfl rc2 rfl (by simpa using Kw.nil)) rfl (fun v5 Φ_6 D2 q3 => ?_)
      obtain ⟨fr3, h4⟩ := q3
      replace h4 : OSl RTArg 206 5 Φ_6 [] v5 ([x4.L, x4.R] : List TArg) := by simpa using h4
      replace ph0_2 := ph0_2.frame RTAct.lasts fr3 (Dj.empty _)
      replace h3 := h3.frame RTExpr.lasts fr3 (Dj.empty _)
      replace k4 := k4.frame RS.lasts fr3 (Dj.empty _) (Dj.empty _)
      obtain ⟨x5, hx5, h⟩ := bind_some h
      refine lc (k_call (js := [1]) (R := [ob v5]) Fun_121 rfl rfl (fun w1 hw ap hl => m_i_addVars_ok hw.fro N s5 ([x4.L, x4.R] : List TArg) k4 h4.rsl (Dj.app (ap.r (i := 0) rfl) (Dj.nil _)) ap.nd hl hx5)) rfl (fun v6 Φ_7 F5 q4 => ?_)
      obtain ⟨ap2, fr4, v7, rfl, rfl, h5⟩ := q4
      replace ph0_2 := ph0_2.frame RTAct.lasts fr4 (ap2.o pa0_2)
      replace h3 := h3.frame RTExpr.lasts fr4 (Dj.sub (ap2.o pa0_2) (fun k h => hs2 k h))
      refine lq (q_assign rfl) rfl ?_
      refine WL.nil ?_
      refine WT.inBlock ?_
      refine WT.region ?_
      refine lq (q_add rfl rfl) rfl ?_
      refine lq (q_move rfl) rfl ?_
      refine WL.nil ?_
      refine WT.inLoop (WT.mono (l' := [(3, v6), (26, pv0_2), (27, .int .i64 (p0.Acts.length : Int)), (28, .int .i64 s4), (33, v4), (34, .int .i64 (x3.Args.length : Int)), (35, .int .i64 (IntKind.i64.wrap (s6 + 1)))]) (S' := St w0 Φ_7 [] [ob v6]) ⟨rfl, rfl, rfl, rfl, rfl, rfl, rfl, trivial⟩ (fun w1 hw => (hw.sel (js := [0]) rfl).selO (js := []) rfl) ?_)
      exact ih3 (Φ_7, x5, v6, IntKind.i64.wrap (s6 + 1)) ⟨h, h5, ph0_2, h3⟩
    replace h := ite_f h c3
    refine WT.exit rfl ?_
    refine WT.inBlock ?_
    refine WT.region ?_
    refine lq (q_add rfl rfl) rfl ?_
    refine lq (q_move rfl) rfl ?_
    refine WL.nil ?_
    refine WT.inLoop (WT.mono (l' := [(3, u3), (26, pv0_2), (27, .int .i64 (p0.Acts.length : Int)), (28, .int .i64 (IntKind.i64.wrap (s4 + 1)))]) (S' := St w0 Φ_5 [] [ob u3]) ⟨rfl, rfl, rfl, rfl, trivial⟩ (fun w1 hw => (hw.sel (js := [0]) rfl).selO (js := []) rfl) ?_)
    exact ih2 (Φ_5, s5, u3, IntKind.i64.wrap (s4 + 1)) ⟨h, k4, ph0_2⟩
  replace h := ite_f h c2
  refine WT.exit rfl ?_
  refine WT.seq ?_
  refine WT.region ?_
  refine lq (q_move rfl) rfl ?_
  refine lq (q_assign rfl) rfl ?_
  refine WL.nil ?_
  refine WT.ret Try.func152 (resOk.one rfl) (fun w1 hw => ?_)
  subst hb0
  cases h
  refine postG_of_St (js := [0]) hw rfl ⟨u2, rfl, rfl, k3⟩
theorem m_i_RuleOk_ok {Φ : Hp} {w : World} (hΦ : In Φ w) (N : Nat) (p0 : TRule) {pv0_0 : Value} {pG0_0 : List Nat} {pv0_1 : Value} {pG0_1 : List Nat} {pv0_2 : Value} {pG0_2 : List Nat} (ph0_0 : RSl RTPat 3 Φ pG0_0 pv0_0 p0.Pats) (ph0_1 : RSl RTCond 11 Φ pG0_1 pv0_1 p0.Conds) (ph0_2 : RSl RTAct 5 Φ pG0_2 pv0_2 p0.Acts) {r : Bool} (h : m_i_RuleOk N p0 = some r) :
    Calls Try.prog 67 [.agg [.string p0.Name, .int .i64 p0.Sal, pv0_0, pv0_1, pv0_2].toArray].toArray w (Post (.bool r) w) := by
  refine enter Try.func67 rfl Try.ntmps67 rfl (St.start0 hΦ) ?_
  have pa0_0 : Old ⟨w, [], Φ⟩ pG0_0 := Old.mk hΦ ph0_0.kn (Dj.empty _)
  have pa0_1 : Old ⟨w, [], Φ⟩ pG0_1 := Old.mk hΦ ph0_1.kn (Dj.empty _)
  have pa0_2 : Old ⟨w, [], Φ⟩ pG0_2 := Old.mk hΦ ph0_2.kn (Dj.empty _)
  revert pa0_0 pa0_1 pa0_2
  generalize hb0 : (⟨w, [], Φ⟩ : Base) = w0
  intro pa0_0 pa0_1 pa0_2
  unfold m_i_RuleOk at h
  refine WT.seq ?_
  refine WT.region ?_
  refine ln (n_box (C := #[.string p0.Name, .int .i64 p0.Sal, pv0_0, pv0_1, pv0_2]) rfl rfl) rfl (fun b_1 => ?_)
  refine lq (q_assign rfl) rfl ?_
  refine WL.nil ?_
  refine WT.seq ?_
  refine WT.seq ?_
  refine WT.region ?_
  refine lq (q_fieldAddr Fld_66_0 rfl) rfl ?_
  refine lq (q_load1 T1_9 rfl (fun w1 hw => hw.rgO (i := 0) rfl 0 1 [.string p0.Name] rfl)) rfl ?_
  obtain ⟨x1, hx1, h⟩ := bind_some h
  refine lp (p_call Fun_147 rfl (fun w1 hw => m_i_NameOk_ok hw.fro N p0.Name hx1)) rfl ?_
  refine lq (q_not rfl) rfl ?_
  refine lq (q_move rfl) rfl ?_
  obtain ⟨b1, hb_1, h⟩ := bind_some h
  refine WL.cutN 5 [(19, .bool b1), (1, .pointer (some ⟨b_1, 0, none⟩))] ?_ (fun K => ?_)
  rotate_left
  · refine WL.split (d := 14) rfl (fun c1 => ?_) (fun c1 => ?_)
    · replace hb_1 := ite_t hb_1 c1
      refine WL.no rfl rfl rfl rfl ?_
      refine WL.no rfl rfl rfl rfl ?_
      refine WL.no rfl rfl rfl rfl ?_
      refine WL.no rfl rfl rfl rfl ?_
      refine WL.q (q_pick1 rfl rfl) rfl rfl rfl ?_
      cases hb_1
      exact WL.keep (by exact ⟨rfl, rfl, trivial⟩) K
    · replace hb_1 := ite_f hb_1 c1
      refine WL.yes rfl rfl ?_
      refine lq (q_fieldAddr Fld_66_1 rfl) rfl ?_
      refine WL.yes rfl rfl ?_
      refine lq (q_load1 T1_3 rfl (fun w1 hw => hw.rgO (i := 0) rfl 1 1 [.int .i64 p0.Sal] rfl)) rfl ?_
      refine WL.yes rfl rfl ?_
      obtain ⟨x2, hx2, hb_1⟩ := bind_some hb_1
      refine lp (p_call Fun_148 rfl (fun w1 hw => m_i_inRange_ok hw.fro N p0.Sal (-100) 100 hx2)) rfl ?_
      refine WL.yes rfl rfl ?_
      refine lq (q_not rfl) rfl ?_
      refine WL.q (q_pick0 rfl rfl) rfl rfl rfl ?_
      cases hb_1
      exact WL.keep (by exact ⟨rfl, rfl, trivial⟩) K
  refine lq (q_move rfl) rfl ?_
  obtain ⟨b2, hb_2, h⟩ := bind_some h
  refine WL.cutN 4 [(24, .bool b2), (1, .pointer (some ⟨b_1, 0, none⟩))] ?_ (fun K => ?_)
  rotate_left
  · refine WL.split (d := 20) rfl (fun c2 => ?_) (fun c2 => ?_)
    · replace hb_2 := ite_t hb_2 c2
      refine WL.no rfl rfl rfl rfl ?_
      refine WL.no rfl rfl rfl rfl ?_
      refine WL.no rfl rfl rfl rfl ?_
      refine WL.q (q_pick1 rfl rfl) rfl rfl rfl ?_
      cases hb_2
      exact WL.keep (by exact ⟨rfl, rfl, trivial⟩) K
    · replace hb_2 := ite_f hb_2 c2
      refine WL.yes rfl rfl ?_
      refine lq (q_loadN Tn_66 rfl (fun w1 hw => hw.rgO (i := 0) rfl 0 5 [.string p0.Name, .int .i64 p0.Sal, pv0_0, pv0_1, pv0_2] rfl) rfl) rfl ?_
      refine WL.yes rfl rfl ?_
      obtain ⟨x3, hx3, hb_2⟩ := bind_some hb_2
      refine lp (p_call Fun_149 rfl (fun w1 hw => m_i_patsOk_ok hw.fro N p0 ph0_0 ph0_1 ph0_2 hx3)) rfl ?_
      refine WL.yes rfl rfl ?_
      refine lq (q_not rfl) rfl ?_
      refine WL.q (q_pick0 rfl rfl) rfl rfl rfl ?_
      cases hb_2
      exact WL.keep (by exact ⟨rfl, rfl, trivial⟩) K
  refine WL.nil ?_
  refine WT.cond rfl (fun c3 => ?_) (fun c3 => ?_)
  · replace h := ite_t h c3
    refine WT.seq ?_
    refine WT.region ?_
    refine lq (q_assign rfl) rfl ?_
    refine WL.nil ?_
    refine WT.ret Try.func67 (resOk.one rfl) (fun w1 hw => ?_)
    subst hb0
    cases h
    exact post_of_St hw
  replace h := ite_f h c3
  refine WT.skip ?_
  refine WT.seq ?_
  refine WT.seq ?_
  refine WT.region ?_
  refine lq (q_fieldAddr Fld_66_3 rfl) rfl ?_
  refine lq (q_load1 T1_63 rfl (fun w1 hw => hw.rgO (i := 0) rfl 3 1 [pv0_1] rfl)) rfl ?_
  refine lq (q_lenR Sl_63 rfl rfl ph0_1) rfl ?_
  refine lq (q_gtr rfl rfl) rfl ?_
  refine lq (q_move rfl) rfl ?_
  obtain ⟨b3, hb_3, h⟩ := bind_some h
  refine WL.cutN 6 [(35, .bool b3), (1, .pointer (some ⟨b_1, 0, none⟩))] ?_ (fun K => ?_)
  rotate_left
  · refine WL.split (d := 29) rfl (fun c4 => ?_) (fun c4 => ?_)
    · replace hb_3 := ite_t hb_3 c4
      refine WL.no rfl rfl rfl rfl ?_
      refine WL.no rfl rfl rfl rfl ?_
      refine WL.no rfl rfl rfl rfl ?_
      refine WL.no rfl rfl rfl rfl ?_
      refine WL.no rfl rfl rfl rfl ?_
      refine WL.q (q_pick1 rfl rfl) rfl rfl rfl ?_
      cases hb_3
      exact WL.keep (by exact ⟨rfl, rfl, trivial⟩) K
    · replace hb_3 := ite_f hb_3 c4
      refine WL.yes rfl rfl ?_
      refine lq (q_fieldAddr Fld_66_4 rfl) rfl ?_
      refine WL.yes rfl rfl ?_
      refine lq (q_load1 T1_64 rfl (fun w1 hw => hw.rgO (i := 0) rfl 4 1 [pv0_2] rfl)) rfl ?_
      refine WL.yes rfl rfl ?_
      refine lq (q_lenR Sl_64 rfl rfl ph0_2) rfl ?_
      refine WL.yes rfl rfl ?_
      obtain ⟨x4, hx4, hb_3⟩ := bind_some hb_3
      refine lp (p_call Fun_148 rfl (fun w1 hw => m_i_inRange_ok hw.fro N (p0.Acts.length : Int) 1 6 hx4)) rfl ?_
      refine WL.yes rfl rfl ?_
      refine lq (q_not rfl) rfl ?_
      refine WL.q (q_pick0 rfl rfl) rfl rfl rfl ?_
      cases hb_3
      exact WL.keep (by exact ⟨rfl, rfl, trivial⟩) K
  refine WL.nil ?_
  refine WT.cond rfl (fun c5 => ?_) (fun c5 => ?_)
  · replace h := ite_t h c5
    refine WT.seq ?_
    refine WT.region ?_
    refine lq (q_assign rfl) rfl ?_
    refine WL.nil ?_
    refine WT.ret Try.func67 (resOk.one rfl) (fun w1 hw => ?_)
    subst hb0
    cases h
    exact post_of_St hw
  replace h := ite_f h c5
  refine WT.skip ?_
  refine WT.seq ?_
  refine WT.seq ?_
  refine WT.region ?_
  refine lq (q_fieldAddr Fld_66_3 rfl) rfl ?_
  refine lq (q_load1 T1_63 rfl (fun w1 hw => hw.rgO (i := 0) rfl 3 1 [pv0_1] rfl)) rfl ?_
  refine lq (q_lenR Sl_63 rfl rfl ph0_1) rfl ?_
  refine lq (q_move rfl) rfl ?_
  refine WL.nil ?_
  refine WT.block ?_
  refine WT.loop ?_
  refine WT.mono (l' := [(1, .pointer (some ⟨b_1, 0, none⟩)), (37, pv0_1), (38, .int .i64 (p0.Conds.length : Int)), (39, .int .i64 0)]) (S' := St w0 Φ [(b_1, .cells #[.string p0.Name, .int .i64 p0.Sal, pv0_0, pv0_1, pv0_2] 66 (0, 0))] []) ⟨rfl, rfl, rfl, rfl, trivial⟩ (fun w1 hw => (hw.sel (js := []) rfl).selO (js := [0]) rfl) ?_
  refine loop_ind (σ := Int) (fun s => [(1, .pointer (some ⟨b_1, 0, none⟩)), (37, pv0_1), (38, .int .i64 (p0.Conds.length : Int)), (39, .int .i64 s)]) (fun s => St w0 Φ [(b_1, .cells #[.string p0.Name, .int .i64 p0.Sal, pv0_0, pv0_1, pv0_2] 66 (0, 0))] []) (fun m s => m_i_RuleOk_l1 N p0 m s = some r) (fun s hm => none_ne (show (none : Option (Bool)) = some r from hm)) (fun n1 ih1 s hm => ?_) N (0) h
  revert hm; revert s; intro s1 hm
  have h : m_i_RuleOk_l1 N p0 (n1 + 1) s1 = some r := hm
  show WT _ _ [(1, .pointer (some ⟨b_1, 0, none⟩)), (37, pv0_1), (38, .int .i64 (p0.Conds.length : Int)), (39, .int .i64 s1)] (St w0 Φ [(b_1, .cells #[.string p0.Name, .int .i64 p0.Sal, pv0_0, pv0_1, pv0_2] 66 (0, 0))] [])
  unfold m_i_RuleOk_l1 at h
  refine WT.seq ?_
  refine WT.region ?_
  refine lq (q_lss rfl rfl) rfl ?_
  refine WL.nil ?_
  refine WT.seq ?_
  refine WT.cond rfl (fun c6 => ?_) (fun c6 => ?_)
  · replace h := ite_t h c6
    refine WT.skip ?_
    refine WT.seq ?_
    refine WT.block ?_
    refine WT.seq ?_
    refine WT.region ?_
    obtain ⟨x5, hx5, h⟩ := bind_some h
    obtain ⟨cs1, F1, -, g1, hb1, hs1, r1⟩ := ph0_1.el (idx_some hx5).2.2
    obtain ⟨rfl, -⟩ := r1
    refine lq (q_indexAddr Sl_63 rfl rfl ph0_1 hx5) rfl ?_
    refine lq (q_loadN Tn_211 rfl (fun w1 hw => (g1.of_eq 0 11 rfl rfl : rg _ _ _ [.int .i64 x5.Op, .int .i64 x5.L.K, .string x5.L.S, .int .i64 x5.L.V.K, .int .i64 x5.L.V.N, .string x5.L.V.S, .int .i64 x5.R.K, .string x5.R.S, .int .i64 x5.R.V.K, .int .i64 x5.R.V.N, .string x5.R.V.S]).rangeAt hw.fro) rfl) rfl ?_
    refine ln (n_alloc (C := #[.int .i64 0, .int .i64 0, .string (⟨#[]⟩ : ByteArray), .int .i64 0, .int .i64 0, .string (⟨#[]⟩ : ByteArray), .int .i64 0, .string (⟨#[]⟩ : ByteArray), .int .i64 0, .int .i64 0, .string (⟨#[]⟩ : ByteArray)]) Zr_211 rfl) rfl (fun b_2 => ?_)
    refine ls (s_store (i := 0) (vs := [.int .i64 x5.Op, .int .i64 x5.L.K, .string x5.L.S, .int .i64 x5.L.V.K, .int .i64 x5.L.V.N, .string x5.L.V.S, .int .i64 x5.R.K, .string x5.R.S, .int .i64 x5.R.V.K, .int .i64 x5.R.V.N, .string x5.R.V.S]) (C' := [.int .i64 x5.Op, .int .i64 x5.L.K, .string x5.L.S, .int .i64 x5.L.V.K, .int .i64 x5.L.V.N, .string x5.L.V.S, .int .i64 x5.R.K, .string x5.R.S, .int .i64 x5.R.V.K, .int .i64 x5.R.V.N, .string x5.R.V.S]) (O' := [(b_2, .cells #[.int .i64 x5.Op, .int .i64 x5.L.K, .string x5.L.S, .int .i64 x5.L.V.K, .int .i64 x5.L.V.N, .string x5.L.V.S, .int .i64 x5.R.K, .string x5.R.S, .int .i64 x5.R.V.K, .int .i64 x5.R.V.N, .string x5.R.V.S] 211 (0, 0)), (b_1, .cells #[.string p0.Name, .int .i64 p0.Sal, pv0_0, pv0_1, pv0_2] 66 (0, 0))]) Sz_211 rfl rfl rfl rfl rfl rfl ⟨rfl, rfl, rfl, rfl, rfl, rfl, rfl, rfl, rfl, rfl, rfl, trivial⟩ rfl rfl) rfl ?_
    refine WL.nil ?_
    refine WT.seq ?_
    refine WT.region ?_
    refine lq (q_loadN Tn_211 rfl (fun w1 hw => hw.rgO (i := 0) rfl 0 11 [.int .i64 x5.Op, .int .i64 x5.L.K, .string x5.L.S, .int .i64 x5.L.V.K, .int .i64 x5.L.V.N, .string x5.L.V.S, .int .i64 x5.R.K, .string x5.R.S, .int .i64 x5.R.V.K, .int .i64 x5.R.V.N, .string x5.R.V.S] rfl) rfl) rfl ?_
    obtain ⟨x6, hx6, h⟩ := bind_some h
    refine lp (p_call Fun_150 rfl (fun w1 hw => m_i_CondOk_ok hw.fro N x5 hx6)) rfl ?_
    refine lq (q_not rfl) rfl ?_
    refine WL.nil ?_
    refine WT.cond rfl (fun c7 => ?_) (fun c7 => ?_)
    · replace h := ite_t h c7
      refine WT.seq ?_
      refine WT.region ?_
      refine lq (q_assign rfl) rfl ?_
      refine WL.nil ?_
      refine WT.ret Try.func67 (resOk.one rfl) (fun w1 hw => ?_)
      subst hb0
      cases h
      exact post_of_St hw
    replace h := ite_f h c7
    refine WT.skip ?_
    refine WT.inBlock ?_
    refine WT.region ?_
    refine lq (q_add rfl rfl) rfl ?_
    refine lq (q_move rfl) rfl ?_
    refine WL.nil ?_
    refine WT.inLoop (WT.mono (l' := [(1, .pointer (some ⟨b_1, 0, none⟩)), (37, pv0_1), (38, .int .i64 (p0.Conds.length : Int)), (39, .int .i64 (IntKind.i64.wrap (s1 + 1)))]) (S' := St w0 Φ [(b_1, .cells #[.string p0.Name, .int .i64 p0.Sal, pv0_0, pv0_1, pv0_2] 66 (0, 0))] []) ⟨rfl, rfl, rfl, rfl, trivial⟩ (fun w1 hw => (hw.sel (js := []) rfl).selO (js := [1]) rfl) ?_)
    exact ih1 (IntKind.i64.wrap (s1 + 1)) h
  replace h := ite_f h c6
  refine WT.exit rfl ?_
  refine WT.seq ?_
  refine WT.seq ?_
  refine WT.region ?_
  refine lq (q_fieldAddr Fld_66_4 rfl) rfl ?_
  refine lq (q_load1 T1_64 rfl (fun w1 hw => hw.rgO (i := 0) rfl 4 1 [pv0_2] rfl)) rfl ?_
  refine lq (q_lenR Sl_64 rfl rfl ph0_2) rfl ?_
  refine lq (q_move rfl) rfl ?_
  refine WL.nil ?_
  refine WT.block ?_
  refine WT.loop ?_
  refine WT.mono (l' := [(1, .pointer (some ⟨b_1, 0, none⟩)), (48, pv0_2), (49, .int .i64 (p0.Acts.length : Int)), (50, .int .i64 0)]) (S' := St w0 Φ [(b_1, .cells #[.string p0.Name, .int .i64 p0.Sal, pv0_0, pv0_1, pv0_2] 66 (0, 0))] []) ⟨rfl, rfl, rfl, rfl, trivial⟩ (fun w1 hw => (hw.sel (js := []) rfl).selO (js := [0]) rfl) ?_
  refine loop_ind (σ := Int) (fun s => [(1, .pointer (some ⟨b_1, 0, none⟩)), (48, pv0_2), (49, .int .i64 (p0.Acts.length : Int)), (50, .int .i64 s)]) (fun s => St w0 Φ [(b_1, .cells #[.string p0.Name, .int .i64 p0.Sal, pv0_0, pv0_1, pv0_2] 66 (0, 0))] []) (fun m s => m_i_RuleOk_l2 N p0 m s = some r) (fun s hm => none_ne (show (none : Option (Bool)) = some r from hm)) (fun n2 ih2 s hm => ?_) N (0) h
  revert hm; revert s; intro s2 hm
  have h : m_i_RuleOk_l2 N p0 (n2 + 1) s2 = some r := hm
  show WT _ _ [(1, .pointer (some ⟨b_1, 0, none⟩)), (48, pv0_2), (49, .int .i64 (p0.Acts.length : Int)), (50, .int .i64 s2)] (St w0 Φ [(b_1, .cells #[.string p0.Name, .int .i64 p0.Sal, pv0_0, pv0_1, pv0_2] 66 (0, 0))] [])
  unfold m_i_RuleOk_l2 at h
  refine WT.seq ?_
  refine WT.region ?_
  refine lq (q_lss rfl rfl) rfl ?_
  refine WL.nil ?_
  refine WT.seq ?_
  refine WT.cond rfl (fun c8 => ?_) (fun c8 => ?_)
  · replace h := ite_t h c8
    refine WT.skip ?_
    refine WT.seq ?_
    refine WT.block ?_
    refine WT.seq ?_
    refine WT.region ?_
    obtain ⟨x7, hx7, h⟩ := bind_some h
    obtain ⟨cs2, F2, -, g2, hb2, hs2, r2⟩ := ph0_2.el (idx_some hx7).2.2
    obtain ⟨v1, G1, rfl, hq1, h1⟩ := r2
    obtain rfl := hq1.symm
    refine lq (q_indexAddr Sl_64 rfl rfl ph0_2 hx7) rfl ?_
    refine lq (q_loadN Tn_215 rfl (fun w1 hw => (g2.of_eq 0 5 rfl rfl : rg _ _ _ [.int .i64 x7.Kind, .string x7.Name, v1, .int .i64 x7.N, .string x7.Undo]).rangeAt hw.fro) rfl) rfl ?_
    refine ln (n_alloc (C := #[.int .i64 0, .string (⟨#[]⟩ : ByteArray), .slice none 0 0, .int .i64 0, .string (⟨#[]⟩ : ByteArray)]) Zr_215 rfl) rfl (fun b_3 => ?_)
    refine ls (s_store (i := 0) (vs := [.int .i64 x7.Kind, .string x7.Name, v1, .int .i64 x7.N, .string x7.Undo]) (C' := [.int .i64 x7.Kind, .string x7.Name, v1, .int .i64 x7.N, .string x7.Undo]) (O' := [(b_3, .cells #[.int .i64 x7.Kind, .string x7.Name, v1, .int .i64 x7.N, .string x7.Undo] 215 (0, 0)), (b_1, .cells #[.string p0.Name, .int .i64 p0.Sal, pv0_0, pv0_1, pv0_2] 66 (0, 0))]) Sz_215 rfl rfl rfl rfl rfl rfl ⟨rfl, rfl, h1.one, rfl, rfl, trivial⟩ rfl rfl) rfl ?_
    refine WL.nil ?_
    refine WT.seq ?_
    refine WT.draw mixed (by kernel_rfl) (fun _ h => h.drew) ?_
    refine qq (q_loadN Tn_215 rfl (fun w1 hw => hw.rgO (i := 0) rfl 0 5 [.int .i64 x7.Kind, .string x7.Name, v1, .int .i64 x7.N, .string x7.Undo] rfl) rfl) rfl ?_
    obtain ⟨x8, hx8, h⟩ := bind_some h
    refine qp (p_call Fun_151 rfl (fun w1 hw => m_i_ActOk_ok hw.fro N x7 h1 hx8)) rfl ?_
    refine qq (q_not rfl) rfl ?_
    refine qq (q_move rfl) rfl ?_
    obtain ⟨b4, hb_4, h⟩ := bind_some h
    refine WQ.cutN 11 [(68, .bool b4), (1, .pointer (some ⟨b_1, 0, none⟩)), (48, pv0_2), (49, .int .i64 (p0.Acts.length : Int)), (50, .int .i64 s2)] ?_ (fun K => ?_)
    rotate_left
    · refine WQ.split (d := 57) rfl (fun c9 => ?_) (fun c9 => ?_)
      · replace hb_4 := ite_t hb_4 c9
        refine WQ.no rfl rfl rfl rfl ?_
        refine WQ.no rfl rfl rfl rfl ?_
        refine WQ.no rfl rfl rfl rfl ?_
        refine WQ.no rfl rfl rfl rfl ?_
        refine WQ.nox rfl rfl rfl rfl ?_
        refine WQ.nox rfl rfl rfl rfl ?_
        refine WQ.nox rfl rfl rfl rfl ?_
        refine WQ.nox rfl rfl rfl rfl ?_
        refine WQ.nox rfl rfl rfl rfl ?_
        refine WQ.no rfl rfl rfl rfl ?_
        refine WQ.q (q_pick1 rfl rfl) rfl rfl rfl ?_
        cases hb_4
        exact WQ.keep (by exact ⟨rfl, rfl, rfl, rfl, rfl, trivial⟩) K
      · replace hb_4 := ite_f hb_4 c9
        refine WQ.yes rfl rfl ?_
        refine qq (q_fieldAddr Fld_215_0 rfl) rfl ?_
        refine WQ.yes rfl rfl ?_
        refine qq (q_load1 T1_3 rfl (fun w1 hw => hw.rgO (i := 0) rfl 0 1 [.int .i64 x7.Kind] rfl)) rfl ?_
        refine WQ.yes rfl rfl ?_
        refine qq (q_eql rfl rfl) rfl ?_
        refine WQ.yes rfl rfl ?_
        refine qq (q_move rfl) rfl ?_
        obtain ⟨b5, hb_5, hb_4⟩ := bind_some hb_4
        refine WQ.cutN 6 [(67, .bool b5), (1, .pointer (some ⟨b_1, 0, none⟩)), (48, pv0_2), (49, .int .i64 (p0.Acts.length : Int)), (50, .int .i64 s2), (57, .bool false)] ?_ (fun K => ?_)
        rotate_left
        · refine WQ.split (d := 61) rfl (fun c10 => ?_) (fun c10 => ?_)
          · replace hb_5 := ite_t hb_5 c10
            refine WQ.yes rfl rfl ?_
            refine qq (q_fieldAddr Fld_215_3 rfl) rfl ?_
            refine WQ.yes rfl rfl ?_
            refine qq (q_load1 T1_3 rfl (fun w1 hw => hw.rgO (i := 0) rfl 3 1 [.int .i64 x7.N] rfl)) rfl ?_
            refine WQ.yes rfl rfl ?_
            refine qq (q_loadN Tn_66 rfl (fun w1 hw => hw.rgO (i := 1) rfl 0 5 [.string p0.Name, .int .i64 p0.Sal, pv0_0, pv0_1, pv0_2] rfl) rfl) rfl ?_
            refine WQ.yes rfl rfl ?_
            obtain ⟨x9, hx9, hb_5⟩ := bind_some hb_5
            refine qp (p_call Fun_64 rfl (fun w1 hw => m_i_PosCount_ok hw.fro N p0 ph0_0 ph0_1 ph0_2 hx9)) rfl ?_
            refine WQ.yes rfl rfl ?_
            refine qq (q_geq rfl rfl) rfl ?_
            refine WQ.yes rfl rfl ?_
            refine WQ.q (q_pick1 rfl rfl) rfl rfl rfl ?_
            cases hb_5
            exact WQ.keep (by exact ⟨rfl, rfl, rfl, rfl, rfl, rfl, trivial⟩) K
          · replace hb_5 := ite_f hb_5 c10
            refine WQ.no rfl rfl rfl rfl ?_
            refine WQ.no rfl rfl rfl rfl ?_
            refine WQ.no rfl rfl rfl rfl ?_
            refine WQ.no rfl rfl rfl rfl ?_
            refine WQ.no rfl rfl rfl rfl ?_
            refine WQ.yes rfl rfl ?_
            refine WQ.q (q_pick0 rfl rfl) rfl rfl rfl ?_
            cases hb_5
            exact WQ.keep (by exact ⟨rfl, rfl, rfl, rfl, rfl, rfl, trivial⟩) K
        refine WQ.q (q_pick0 rfl rfl) rfl rfl rfl ?_
        cases hb_4
        exact WQ.keep (by exact ⟨rfl, rfl, rfl, rfl, rfl, trivial⟩) K
    refine WQ.nil ?_
    refine WT.cond rfl (fun c11 => ?_) (fun c11 => ?_)
    · replace h := ite_t h c11
      refine WT.seq ?_
      refine WT.region ?_
      refine lq (q_assign rfl) rfl ?_
      refine WL.nil ?_
      refine WT.ret Try.func67 (resOk.one rfl) (fun w1 hw => ?_)
      subst hb0
      cases h
      exact post_of_St hw
    replace h := ite_f h c11
    refine WT.skip ?_
    refine WT.inBlock ?_
    refine WT.region ?_
    refine lq (q_add rfl rfl) rfl ?_
    refine lq (q_move rfl) rfl ?_
    refine WL.nil ?_
    refine WT.inLoop (WT.mono (l' := [(1, .pointer (some ⟨b_1, 0, none⟩)), (48, pv0_2), (49, .int .i64 (p0.Acts.length : Int)), (50, .int .i64 (IntKind.i64.wrap (s2 + 1)))]) (S' := St w0 Φ [(b_1, .cells #[.string p0.Name, .int .i64 p0.Sal, pv0_0, pv0_1, pv0_2] 66 (0, 0))] []) ⟨rfl, rfl, rfl, rfl, trivial⟩ (fun w1 hw => (hw.sel (js := []) rfl).selO (js := [1]) rfl) ?_)
    exact ih2 (IntKind.i64.wrap (s2 + 1)) h
  replace h := ite_f h c8
  refine WT.exit rfl ?_
  refine WT.seq ?_
  refine WT.region ?_
  refine lq (q_loadN Tn_66 rfl (fun w1 hw => hw.rgO (i := 0) rfl 0 5 [.string p0.Name, .int .i64 p0.Sal, pv0_0, pv0_1, pv0_2] rfl) rfl) rfl ?_
  obtain ⟨x10, hx10, h⟩ := bind_some h
  refine lc (k_call (js := []) (R := []) Fun_46 rfl rfl (fun w1 hw ap hl => m_i_PosVars_ok hw.fro N p0 ph0_0 ph0_1 ph0_2  hx10)) rfl (fun v2 Φ_1 F3 q1 => ?_)
  obtain ⟨ap1, fr1, v3, rfl, rfl, h2⟩ := q1
  replace ph0_0 := ph0_0.frame RTPat.lasts fr1 (ap1.o pa0_0)
  replace ph0_1 := ph0_1.frame RTCond.lasts fr1 (ap1.o pa0_1)
  replace ph0_2 := ph0_2.frame RTAct.lasts fr1 (ap1.o pa0_2)
  refine lq (q_assign rfl) rfl ?_
  refine WL.nil ?_
  refine WT.seq ?_
  refine WT.seq ?_
  refine WT.region ?_
  refine lq (q_loadN Tn_66 rfl (fun w1 hw => hw.rgO (i := 0) rfl 0 5 [.string p0.Name, .int .i64 p0.Sal, pv0_0, pv0_1, pv0_2] rfl) rfl) rfl ?_
  obtain ⟨x11, hx11, h⟩ := bind_some h
  refine lc (k_call (js := []) (R := [ob v2]) Fun_152 rfl rfl (fun w1 hw ap hl => m_i_usedVars_ok hw.fro N p0 ph0_0 ph0_1 ph0_2  hx11)) rfl (fun v4 Φ_2 F4 q2 => ?_)
  obtain ⟨ap2, fr2, v5, rfl, rfl, h3⟩ := q2
  replace h2 := h2.frame RS.lasts fr2 (ap2.r (i := 0) rfl) (Dj.nil _)
  refine lq (q_lenR Sl_60 rfl rfl h3.rsl) rfl ?_
  refine lq (q_move rfl) rfl ?_
  refine WL.nil ?_
  refine WT.block ?_
  refine WT.loop ?_
  refine WT.mono (l' := [(7, v2), (73, v4), (74, .int .i64 (x11.length : Int)), (75, .int .i64 0)]) (S' := St w0 Φ_2 [] [ob v4, ob v2]) ⟨rfl, rfl, rfl, rfl, trivial⟩ (fun w1 hw => (hw.sel (js := [0, 0]) rfl).selO (js := []) rfl) ?_
  refine loop_ind (σ := Int) (fun s => [(7, v2), (73, v4), (74, .int .i64 (x11.length : Int)), (75, .int .i64 s)]) (fun s => St w0 Φ_2 [] [ob v4, ob v2]) (fun m s => m_i_RuleOk_l3 N x10 x11 m s = some r) (fun s hm => none_ne (show (none : Option (Bool)) = some r from hm)) (fun n3 ih3 s hm => ?_) N (0) h
  revert hm; revert s; intro s3 hm
  have h : m_i_RuleOk_l3 N x10 x11 (n3 + 1) s3 = some r := hm
  show WT _ _ [(7, v2), (73, v4), (74, .int .i64 (x11.length : Int)), (75, .int .i64 s3)] (St w0 Φ_2 [] [ob v4, ob v2])
  unfold m_i_RuleOk_l3 at h
  refine WT.seq ?_
  refine WT.region ?_
  refine lq (q_lss rfl rfl) rfl ?_
  refine WL.nil ?_
  refine WT.seq ?_
  refine WT.cond rfl (fun c12 => ?_) (fun c12 => ?_)
  · replace h := ite_t h c12
    refine WT.skip ?_
    refine WT.seq ?_
    refine WT.block ?_
    refine WT.seq ?_
    refine WT.region ?_
    obtain ⟨x12, hx12, h⟩ := bind_some h
    obtain ⟨cs3, F5, -, g3, hb3, hs3, r3⟩ := h3.elS (idx_some hx12).2.2
    obtain ⟨rfl, -⟩ := r3
    refine lq (q_indexAddr Sl_60 rfl rfl h3.rsl hx12) rfl ?_
    refine lq (q_load1 T1_9 rfl (fun w1 hw => (g3.of_eq 0 1 rfl rfl : rg _ _ _ [.string x12]).rangeAt hw.fro)) rfl ?_
    refine lq (q_assign rfl) rfl ?_
    refine WL.nil ?_
    refine WT.seq ?_
    refine WT.region ?_
    refine lq (q_move rfl) rfl ?_
    refine lq (q_move rfl) rfl ?_
    obtain ⟨x13, hx13, h⟩ := bind_some h
    refine lp (p_call Fun_153 rfl (fun w1 hw => m_sl_Contains_Sstring_string_ok hw.fro N x10 x12 h2.rsl hx13)) rfl ?_
    refine lq (q_not rfl) rfl ?_
    refine WL.nil ?_
    refine WT.cond rfl (fun c13 => ?_) (fun c13 => ?_)
    · replace h := ite_t h c13
      refine WT.seq ?_
      refine WT.region ?_
      refine lq (q_assign rfl) rfl ?_
      refine WL.nil ?_
      refine WT.ret Try.func67 (resOk.one rfl) (fun w1 hw => ?_)
      subst hb0
      cases h
      exact post_of_St hw
    replace h := ite_f h c13
    refine WT.skip ?_
    refine WT.inBlock ?_
    refine WT.region ?_
    refine lq (q_add rfl rfl) rfl ?_
    refine lq (q_move rfl) rfl ?_
    refine WL.nil ?_
    refine WT.inLoop (WT.mono (l' := [(7, v2), (73, v4), (74, .int .i64 (x11.length : Int)), (75, .int .i64 (IntKind.i64.wrap (s3 + 1)))]) (S' := St w0 Φ_2 [] [ob v4, ob v2]) ⟨rfl, rfl, rfl, rfl, trivial⟩ (fun w1 hw => (hw.sel (js := [0, 0]) rfl).selO (js := []) rfl) ?_)
    exact ih3 (IntKind.i64.wrap (s3 + 1)) h
  replace h := ite_f h c12
  refine WT.exit rfl ?_
  refine WT.seq ?_
  refine WT.region ?_
  refine lq (q_assign rfl) rfl ?_
  refine WL.nil ?_
  refine WT.ret Try.func67 (resOk.one rfl) (fun w1 hw => ?_)
  subst hb0
  cases h
  exact post_of_St hw
theorem m_i_DefOk_ok {Φ : Hp} {w : World} (hΦ : In Φ w) (N : Nat) (p0 : TDef) {pv0_0 : Value} {pG0_0 : List Nat} (ph0_0 : RSl RTRule 5 Φ pG0_0 pv0_0 p0.Rules) {r : Bool} (h : m_i_DefOk N p0 = some r) :
    Calls Try.prog 135 [.agg [.string p0.Name, pv0_0].toArray].toArray w (Post (.bool r) w) := by
  refine enter Try.func135 rfl Try.ntmps135 rfl (St.start0 hΦ) ?_
  generalize hb0 : (⟨w, [], Φ⟩ : Base) = w0
  unfold m_i_DefOk at h
  refine WT.seq ?_
  refine WT.region ?_
  refine ln (n_box (C := #[.string p0.Name, pv0_0]) rfl rfl) rfl (fun b_1 => ?_)
  refine lq (q_assign rfl) rfl ?_
  refine WL.nil ?_
  refine WT.seq ?_
  refine WT.seq ?_
  refine WT.region ?_
  refine lq (q_fieldAddr Fld_29_0 rfl) rfl ?_
  refine lq (q_load1 T1_9 rfl (fun w1 hw => hw.rgO (i := 0) rfl 0 1 [.string p0.Name] rfl)) rfl ?_
  obtain ⟨x1, hx1, h⟩ := bind_some h
  refine lp (p_call Fun_147 rfl (fun w1 hw => m_i_NameOk_ok hw.fro N p0.Name hx1)) rfl ?_
  refine lq (q_not rfl) rfl ?_
  refine lq (q_move rfl) rfl ?_
  obtain ⟨b1, hb_1, h⟩ := bind_some h
  refine WL.cutN 6 [(15, .bool b1), (1, .pointer (some ⟨b_1, 0, none⟩))] ?_ (fun K => ?_)
  rotate_left
  · refine WL.split (d := 9) rfl (fun c1 => ?_) (fun c1 => ?_)
    · replace hb_1 := ite_t hb_1 c1
      refine WL.no rfl rfl rfl rfl ?_
      refine WL.no rfl rfl rfl rfl ?_
      refine WL.no rfl rfl rfl rfl ?_
      refine WL.no rfl rfl rfl rfl ?_
      refine WL.no rfl rfl rfl rfl ?_
      refine WL.q (q_pick1 rfl rfl) rfl rfl rfl ?_
      cases hb_1
      exact WL.keep (by exact ⟨rfl, rfl, trivial⟩) K
    · replace hb_1 := ite_f hb_1 c1
      refine WL.yes rfl rfl ?_
      refine lq (q_fieldAddr Fld_29_1 rfl) rfl ?_
      refine WL.yes rfl rfl ?_
      refine lq (q_load1 T1_27 rfl (fun w1 hw => hw.rgO (i := 0) rfl 1 1 [pv0_0] rfl)) rfl ?_
      refine WL.yes rfl rfl ?_
      refine lq (q_lenR Sl_27 rfl rfl ph0_0) rfl ?_
      refine WL.yes rfl rfl ?_
      obtain ⟨x2, hx2, hb_1⟩ := bind_some hb_1
      refine lp (p_call Fun_148 rfl (fun w1 hw => m_i_inRange_ok hw.fro N (p0.Rules.length : Int) 1 12 hx2)) rfl ?_
      refine WL.yes rfl rfl ?_
      refine lq (q_not rfl) rfl ?_
      refine WL.q (q_pick0 rfl rfl) rfl rfl rfl ?_
      cases hb_1
      exact WL.keep (by exact ⟨rfl, rfl, trivial⟩) K
  refine WL.nil ?_
  refine WT.cond rfl (fun c2 => ?_) (fun c2 => ?_)
  · replace h := ite_t h c2
    refine WT.seq ?_
    refine WT.region ?_
    refine lq (q_assign rfl) rfl ?_
    refine WL.nil ?_
    refine WT.ret Try.func135 (resOk.one rfl) (fun w1 hw => ?_)
    subst hb0
    cases h
    exact post_of_St hw
  replace h := ite_f h c2
  refine WT.skip ?_
  refine WT.seq ?_
  refine WT.seq ?_
  refine WT.region ?_
  refine lq (q_fieldAddr Fld_29_1 rfl) rfl ?_
  refine lq (q_load1 T1_27 rfl (fun w1 hw => hw.rgO (i := 0) rfl 1 1 [pv0_0] rfl)) rfl ?_
  refine lq (q_lenR Sl_27 rfl rfl ph0_0) rfl ?_
  refine lq (q_move rfl) rfl ?_
  refine WL.nil ?_
  refine WT.block ?_
  refine WT.loop ?_
  refine WT.mono (l' := [(1, .pointer (some ⟨b_1, 0, none⟩)), (17, pv0_0), (18, .int .i64 (p0.Rules.length : Int)), (19, .int .i64 0)]) (S' := St w0 Φ [(b_1, .cells #[.string p0.Name, pv0_0] 29 (0, 0))] []) ⟨rfl, rfl, rfl, rfl, trivial⟩ (fun w1 hw => (hw.sel (js := []) rfl).selO (js := [0]) rfl) ?_
  refine loop_ind (σ := Int) (fun s => [(1, .pointer (some ⟨b_1, 0, none⟩)), (17, pv0_0), (18, .int .i64 (p0.Rules.length : Int)), (19, .int .i64 s)]) (fun s => St w0 Φ [(b_1, .cells #[.string p0.Name, pv0_0] 29 (0, 0))] []) (fun m s => m_i_DefOk_l1 N p0 m s = some r) (fun s hm => none_ne (show (none : Option (Bool)) = some r from hm)) (fun n1 ih1 s hm => ?_) N (0) h
  revert hm; revert s; intro s1 hm
  have h : m_i_DefOk_l1 N p0 (n1 + 1) s1 = some r := hm
  show WT _ _ [(1, .pointer (some ⟨b_1, 0, none⟩)), (17, pv0_0), (18, .int .i64 (p0.Rules.length : Int)), (19, .int .i64 s1)] (St w0 Φ [(b_1, .cells #[.string p0.Name, pv0_0] 29 (0, 0))] [])
  unfold m_i_DefOk_l1 at h
  refine WT.seq ?_
  refine WT.region ?_
  refine lq (q_lss rfl rfl) rfl ?_
  refine WL.nil ?_
  refine WT.seq ?_
  refine WT.cond rfl (fun c3 => ?_) (fun c3 => ?_)
  · replace h := ite_t h c3
    refine WT.skip ?_
    refine WT.seq ?_
    refine WT.block ?_
    refine WT.seq ?_
    refine WT.region ?_
    refine lq (q_move rfl) rfl ?_
    obtain ⟨x3, hx3, h⟩ := bind_some h
    obtain ⟨cs1, F1, -, g1, hb1, hs1, r1⟩ := ph0_0.el (idx_some hx3).2.2
    obtain ⟨v1, G1, v2, G2, v3, G3, rfl, rfl, h1, h2, h3⟩ := r1
    refine lq (q_indexAddr Sl_27 rfl rfl ph0_0 hx3) rfl ?_
    refine lq (q_loadN Tn_66 rfl (fun w1 hw => (g1.of_eq 0 5 rfl rfl : rg _ _ _ [.string x3.Name, .int .i64 x3.Sal, v1, v2, v3]).rangeAt hw.fro) rfl) rfl ?_
    refine ln (n_alloc (C := #[.string (⟨#[]⟩ : ByteArray), .int .i64 0, .slice none 0 0, .slice none 0 0, .slice none 0 0]) Zr_66 rfl) rfl (fun b_2 => ?_)
    refine lq (q_assign rfl) rfl ?_
    refine ls (s_store (i := 0) (vs := [.string x3.Name, .int .i64 x3.Sal, v1, v2, v3]) (C' := [.string x3.Name, .int .i64 x3.Sal, v1, v2, v3]) (O' := [(b_2, .cells #[.string x3.Name, .int .i64 x3.Sal, v1, v2, v3] 66 (0, 0)), (b_1, .cells #[.string p0.Name, pv0_0] 29 (0, 0))]) Sz_66 rfl rfl rfl rfl rfl rfl ⟨rfl, rfl, h1.one, h2.one, h3.one, trivial⟩ rfl rfl) rfl ?_
    refine WL.nil ?_
    refine WT.seq ?_
    refine WT.region ?_
    refine lq (q_loadN Tn_66 rfl (fun w1 hw => hw.rgO (i := 0) rfl 0 5 [.string x3.Name, .int .i64 x3.Sal, v1, v2, v3] rfl) rfl) rfl ?_
    obtain ⟨x4, hx4, h⟩ := bind_some h
    refine lp (p_call Fun_67 rfl (fun w1 hw => m_i_RuleOk_ok hw.fro N x3 h1 h2 h3 hx4)) rfl ?_
    refine lq (q_not rfl) rfl ?_
    refine lq (q_move rfl) rfl ?_
    obtain ⟨b2, hb_2, h⟩ := bind_some h
    refine WL.cutN 7 [(34, .bool b2), (1, .pointer (some ⟨b_1, 0, none⟩)), (17, pv0_0), (18, .int .i64 (p0.Rules.length : Int)), (19, .int .i64 s1)] ?_ (fun K => ?_)
    rotate_left
    · refine WL.split (d := 27) rfl (fun c4 => ?_) (fun c4 => ?_)
      · replace hb_2 := ite_t hb_2 c4
        refine WL.no rfl rfl rfl rfl ?_
        refine WL.no rfl rfl rfl rfl ?_
        refine WL.no rfl rfl rfl rfl ?_
        refine WL.no rfl rfl rfl rfl ?_
        refine WL.no rfl rfl rfl rfl ?_
        refine WL.no rfl rfl rfl rfl ?_
        refine WL.q (q_pick1 rfl rfl) rfl rfl rfl ?_
        cases hb_2
        exact WL.keep (by exact ⟨rfl, rfl, rfl, rfl, rfl, trivial⟩) K
      · replace hb_2 := ite_f hb_2 c4
        refine WL.yes rfl rfl ?_
        refine lq (q_loadN Tn_29 rfl (fun w1 hw => hw.rgO (i := 1) rfl 0 2 [.string p0.Name, pv0_0] rfl) rfl) rfl ?_
        refine WL.yes rfl rfl ?_
        refine lq (q_fieldAddr Fld_66_0 rfl) rfl ?_
        refine WL.yes rfl rfl ?_
        refine lq (q_load1 T1_9 rfl (fun w1 hw => hw.rgO (i := 0) rfl 0 1 [.string x3.Name] rfl)) rfl ?_
        refine WL.yes rfl rfl ?_
        obtain ⟨x5, hx5, hb_2⟩ := bind_some hb_2
        refine lp (p_call Fun_16 rfl (fun w1 hw => m_i_RuleAt_ok hw.fro N p0 x3.Name ph0_0 hx5)) rfl ?_
        refine WL.yes rfl rfl ?_
        refine lq (q_move rfl) rfl ?_
        refine WL.yes rfl rfl ?_
        refine lq (q_neq rfl rfl) rfl ?_
        refine WL.q (q_pick0 rfl rfl) rfl rfl rfl ?_
        cases hb_2
        exact WL.keep (by exact ⟨rfl, rfl, rfl, rfl, rfl, trivial⟩) K
    refine WL.nil ?_
    refine WT.cond rfl (fun c5 => ?_) (fun c5 => ?_)
    · replace h := ite_t h c5
      refine WT.seq ?_
      refine WT.region ?_
      refine lq (q_assign rfl) rfl ?_
      refine WL.nil ?_
      refine WT.ret Try.func135 (resOk.one rfl) (fun w1 hw => ?_)
      subst hb0
      cases h
      exact post_of_St hw
    replace h := ite_f h c5
    refine WT.skip ?_
    refine WT.inBlock ?_
    refine WT.region ?_
    refine lq (q_add rfl rfl) rfl ?_
    refine lq (q_move rfl) rfl ?_
    refine WL.nil ?_
    refine WT.inLoop (WT.mono (l' := [(1, .pointer (some ⟨b_1, 0, none⟩)), (17, pv0_0), (18, .int .i64 (p0.Rules.length : Int)), (19, .int .i64 (IntKind.i64.wrap (s1 + 1)))]) (S' := St w0 Φ [(b_1, .cells #[.string p0.Name, pv0_0] 29 (0, 0))] []) ⟨rfl, rfl, rfl, rfl, trivial⟩ (fun w1 hw => (hw.sel (js := []) rfl).selO (js := [1]) rfl) ?_)
    exact ih1 (IntKind.i64.wrap (s1 + 1)) h
  replace h := ite_f h c3
  refine WT.exit rfl ?_
  refine WT.seq ?_
  refine WT.region ?_
  refine lq (q_assign rfl) rfl ?_
  refine WL.nil ?_
  refine WT.ret Try.func135 (resOk.one rfl) (fun w1 hw => ?_)
  subst hb0
  cases h
  exact post_of_St hw
theorem m_sl_Equal_Sint_int_ok {Φ : Hp} {w : World} (hΦ : In Φ w) (N : Nat) (p0 : (List Int)) (p1 : (List Int)) {pv0 : Value} {pG0 : List Nat} {pv1 : Value} {pG1 : List Nat} (ph0 : RSl (RI .i64) 1 Φ pG0 pv0 p0) (ph1 : RSl (RI .i64) 1 Φ pG1 pv1 p1) {r : Bool} (h : m_sl_Equal_Sint_int N p0 p1 = some r) :
    Calls Try.prog 116 [pv0, pv1].toArray w (Post (.bool r) w) := by
  refine enter Try.func116 rfl Try.ntmps116 rfl (St.start0 hΦ) ?_
  generalize hb0 : (⟨w, [], Φ⟩ : Base) = w0
  unfold m_sl_Equal_Sint_int at h
  refine WT.seq ?_
  refine WT.region ?_
  refine lq (q_assign rfl) rfl ?_
  refine WL.nil ?_
  refine WT.seq ?_
  refine WT.seq ?_
  refine WT.region ?_
  refine lq (q_move rfl) rfl ?_
  refine lq (q_lenR Sl_78 rfl rfl ph0) rfl ?_
  refine lq (q_move rfl) rfl ?_
  refine lq (q_lenR Sl_78 rfl rfl ph1) rfl ?_
  refine lq (q_neq rfl rfl) rfl ?_
  refine WL.nil ?_
  refine WT.cond rfl (fun c1 => ?_) (fun c1 => ?_)
  · replace h := ite_t h c1
    refine WT.seq ?_
    refine WT.region ?_
    refine lq (q_assign rfl) rfl ?_
    refine WL.nil ?_
    refine WT.ret Try.func116 (resOk.one rfl) (fun w1 hw => ?_)
    subst hb0
    cases h
    exact post_of_St hw
  replace h := ite_f h c1
  refine WT.skip ?_
  refine WT.seq ?_
  refine WT.seq ?_
  refine WT.region ?_
  refine lq (q_move rfl) rfl ?_
  refine lq (q_lenR Sl_78 rfl rfl ph0) rfl ?_
  refine lq (q_move rfl) rfl ?_
  refine WL.nil ?_
  refine WT.block ?_
  refine WT.loop ?_
  refine WT.mono (l' := [(0, pv0), (1, pv1), (12, .int .i64 (p0.length : Int)), (13, .int .i64 0)]) (S' := St w0 Φ [] []) ⟨rfl, rfl, rfl, rfl, trivial⟩ (fun w1 hw => (hw.sel (js := []) rfl).selO (js := []) rfl) ?_
  refine loop_ind (σ := Int) (fun s => [(0, pv0), (1, pv1), (12, .int .i64 (p0.length : Int)), (13, .int .i64 s)]) (fun s => St w0 Φ [] []) (fun m s => m_sl_Equal_Sint_int_l1 N p0 p1 m s = some r) (fun s hm => none_ne (show (none : Option (Bool)) = some r from hm)) (fun n1 ih1 s hm => ?_) N (0) h
  revert hm; revert s; intro s1 hm
  have h : m_sl_Equal_Sint_int_l1 N p0 p1 (n1 + 1) s1 = some r := hm
  show WT _ _ [(0, pv0), (1, pv1), (12, .int .i64 (p0.length : Int)), (13, .int .i64 s1)] (St w0 Φ [] [])
  unfold m_sl_Equal_Sint_int_l1 at h
  refine WT.seq ?_
  refine WT.region ?_
  refine lq (q_lss rfl rfl) rfl ?_
  refine WL.nil ?_
  refine WT.seq ?_
  refine WT.cond rfl (fun c2 => ?_) (fun c2 => ?_)
  · replace h := ite_t h c2
    refine WT.skip ?_
    refine WT.seq ?_
    refine WT.block ?_
    refine WT.seq ?_
    refine WT.region ?_
    refine lq (q_move rfl) rfl ?_
    refine lq (q_assign rfl) rfl ?_
    refine WL.nil ?_
    refine WT.seq ?_
    refine WT.draw mixed (by kernel_rfl) (fun _ h => h.drew) ?_
    refine qq (q_move rfl) rfl ?_
    refine qq (q_move rfl) rfl ?_
    obtain ⟨x1, hx1, h⟩ := bind_some h
    obtain ⟨cs1, F1, -, g1, hb1, hs1, r1⟩ := ph0.el (idx_some hx1).2.2
    obtain ⟨rfl, -⟩ := r1
    refine qq (q_indexAddr Sl_78 rfl rfl ph0 hx1) rfl ?_
    refine qq (q_load1 T1_3 rfl (fun w1 hw => (g1.of_eq 0 1 rfl rfl : rg _ _ _ [.int .i64 x1]).rangeAt hw.fro)) rfl ?_
    refine qq (q_move rfl) rfl ?_
    refine qq (q_move rfl) rfl ?_
    obtain ⟨x2, hx2, h⟩ := bind_some h
    obtain ⟨cs2, F2, -, g2, hb2, hs2, r2⟩ := ph1.el (idx_some hx2).2.2
    obtain ⟨rfl, -⟩ := r2
    refine qq (q_indexAddr Sl_78 rfl rfl ph1 hx2) rfl ?_
    refine qq (q_load1 T1_3 rfl (fun w1 hw => (g2.of_eq 0 1 rfl rfl : rg _ _ _ [.int .i64 x2]).rangeAt hw.fro)) rfl ?_
    refine qq (q_neq rfl rfl) rfl ?_
    refine WQ.nil ?_
    refine WT.cond rfl (fun c3 => ?_) (fun c3 => ?_)
    · replace h := ite_t h c3
      refine WT.seq ?_
      refine WT.region ?_
      refine lq (q_assign rfl) rfl ?_
      refine WL.nil ?_
      refine WT.ret Try.func116 (resOk.one rfl) (fun w1 hw => ?_)
      subst hb0
      cases h
      exact post_of_St hw
    replace h := ite_f h c3
    refine WT.skip ?_
    refine WT.inBlock ?_
    refine WT.region ?_
    refine lq (q_add rfl rfl) rfl ?_
    refine lq (q_move rfl) rfl ?_
    refine WL.nil ?_
    refine WT.inLoop (WT.mono (l' := [(0, pv0), (1, pv1), (12, .int .i64 (p0.length : Int)), (13, .int .i64 (IntKind.i64.wrap (s1 + 1)))]) (S' := St w0 Φ [] []) ⟨rfl, rfl, rfl, rfl, trivial⟩ (fun w1 hw => (hw.sel (js := []) rfl).selO (js := []) rfl) ?_)
    exact ih1 (IntKind.i64.wrap (s1 + 1)) h
  replace h := ite_f h c2
  refine WT.exit rfl ?_
  refine WT.seq ?_
  refine WT.region ?_
  refine lq (q_assign rfl) rfl ?_
  refine WL.nil ?_
  refine WT.ret Try.func116 (resOk.one rfl) (fun w1 hw => ?_)
  subst hb0
  cases h
  exact post_of_St hw
theorem m_sl_Equal_Si_Val_i_Val_ok {Φ : Hp} {w : World} (hΦ : In Φ w) (N : Nat) (p0 : (List TVal)) (p1 : (List TVal)) {pv0 : Value} {pG0 : List Nat} {pv1 : Value} {pG1 : List Nat} (ph0 : RSl RTVal 3 Φ pG0 pv0 p0) (ph1 : RSl RTVal 3 Φ pG1 pv1 p1) {r : Bool} (h : m_sl_Equal_Si_Val_i_Val N p0 p1 = some r) :
    Calls Try.prog 142 [pv0, pv1].toArray w (Post (.bool r) w) := by
  refine enter Try.func142 rfl Try.ntmps142 rfl (St.start0 hΦ) ?_
  generalize hb0 : (⟨w, [], Φ⟩ : Base) = w0
  unfold m_sl_Equal_Si_Val_i_Val at h
  refine WT.seq ?_
  refine WT.region ?_
  refine lq (q_assign rfl) rfl ?_
  refine WL.nil ?_
  refine WT.seq ?_
  refine WT.seq ?_
  refine WT.region ?_
  refine lq (q_move rfl) rfl ?_
  refine lq (q_lenR Sl_112 rfl rfl ph0) rfl ?_
  refine lq (q_move rfl) rfl ?_
  refine lq (q_lenR Sl_112 rfl rfl ph1) rfl ?_
  refine lq (q_neq rfl rfl) rfl ?_
  refine WL.nil ?_
  refine WT.cond rfl (fun c1 => ?_) (fun c1 => ?_)
  · replace h := ite_t h c1
    refine WT.seq ?_
    refine WT.region ?_
    refine lq (q_assign rfl) rfl ?_
    refine WL.nil ?_
    refine WT.ret Try.func142 (resOk.one rfl) (fun w1 hw => ?_)
    subst hb0
    cases h
    exact post_of_St hw
  replace h := ite_f h c1
  refine WT.skip ?_
  refine WT.seq ?_
  refine WT.seq ?_
  refine WT.region ?_
  refine lq (q_move rfl) rfl ?_
  refine lq (q_lenR Sl_112 rfl rfl ph0) rfl ?_
  refine lq (q_move rfl) rfl ?_
  refine WL.nil ?_
  refine WT.block ?_
  refine WT.loop ?_
  refine WT.mono (l' := [(0, pv0), (1, pv1), (12, .int .i64 (p0.length : Int)), (13, .int .i64 0)]) (S' := St w0 Φ [] []) ⟨rfl, rfl, rfl, rfl, trivial⟩ (fun w1 hw => (hw.sel (js := []) rfl).selO (js := []) rfl) ?_
  refine loop_ind (σ := Int) (fun s => [(0, pv0), (1, pv1), (12, .int .i64 (p0.length : Int)), (13, .int .i64 s)]) (fun s => St w0 Φ [] []) (fun m s => m_sl_Equal_Si_Val_i_Val_l1 N p0 p1 m s = some r) (fun s hm => none_ne (show (none : Option (Bool)) = some r from hm)) (fun n1 ih1 s hm => ?_) N (0) h
  revert hm; revert s; intro s1 hm
  have h : m_sl_Equal_Si_Val_i_Val_l1 N p0 p1 (n1 + 1) s1 = some r := hm
  show WT _ _ [(0, pv0), (1, pv1), (12, .int .i64 (p0.length : Int)), (13, .int .i64 s1)] (St w0 Φ [] [])
  unfold m_sl_Equal_Si_Val_i_Val_l1 at h
  refine WT.seq ?_
  refine WT.region ?_
  refine lq (q_lss rfl rfl) rfl ?_
  refine WL.nil ?_
  refine WT.seq ?_
  refine WT.cond rfl (fun c2 => ?_) (fun c2 => ?_)
  · replace h := ite_t h c2
    refine WT.skip ?_
    refine WT.seq ?_
    refine WT.block ?_
    refine WT.seq ?_
    refine WT.region ?_
    refine lq (q_move rfl) rfl ?_
    refine lq (q_assign rfl) rfl ?_
    refine WL.nil ?_
    refine WT.seq ?_
    refine WT.draw mixed (by kernel_rfl) (fun _ h => h.drew) ?_
    refine qq (q_move rfl) rfl ?_
    refine qq (q_move rfl) rfl ?_
    obtain ⟨x1, hx1, h⟩ := bind_some h
    obtain ⟨cs1, F1, -, g1, hb1, hs1, r1⟩ := ph0.el (idx_some hx1).2.2
    obtain ⟨rfl, -⟩ := r1
    refine qq (q_indexAddr Sl_112 rfl rfl ph0 hx1) rfl ?_
    refine qq (q_loadN Tn_192 rfl (fun w1 hw => (g1.of_eq 0 3 rfl rfl : rg _ _ _ [.int .i64 x1.K, .int .i64 x1.N, .string x1.S]).rangeAt hw.fro) rfl) rfl ?_
    refine qq (q_move rfl) rfl ?_
    refine qq (q_move rfl) rfl ?_
    obtain ⟨x2, hx2, h⟩ := bind_some h
    obtain ⟨cs2, F2, -, g2, hb2, hs2, r2⟩ := ph1.el (idx_some hx2).2.2
    obtain ⟨rfl, -⟩ := r2
    refine qq (q_indexAddr Sl_112 rfl rfl ph1 hx2) rfl ?_
    refine qq (q_loadN Tn_192 rfl (fun w1 hw => (g2.of_eq 0 3 rfl rfl : rg _ _ _ [.int .i64 x2.K, .int .i64 x2.N, .string x2.S]).rangeAt hw.fro) rfl) rfl ?_
    refine qq (q_neA EqT_192 rfl rfl rfl (r := eqT_TVal x1 x2) rfl) rfl ?_
    refine WQ.nil ?_
    refine WT.cond rfl (fun c3 => ?_) (fun c3 => ?_)
    · replace h := ite_t h c3
      refine WT.seq ?_
      refine WT.region ?_
      refine lq (q_assign rfl) rfl ?_
      refine WL.nil ?_
      refine WT.ret Try.func142 (resOk.one rfl) (fun w1 hw => ?_)
      subst hb0
      cases h
      exact post_of_St hw
    replace h := ite_f h c3
    refine WT.skip ?_
    refine WT.inBlock ?_
    refine WT.region ?_
    refine lq (q_add rfl rfl) rfl ?_
    refine lq (q_move rfl) rfl ?_
    refine WL.nil ?_
    refine WT.inLoop (WT.mono (l' := [(0, pv0), (1, pv1), (12, .int .i64 (p0.length : Int)), (13, .int .i64 (IntKind.i64.wrap (s1 + 1)))]) (S' := St w0 Φ [] []) ⟨rfl, rfl, rfl, rfl, trivial⟩ (fun w1 hw => (hw.sel (js := []) rfl).selO (js := []) rfl) ?_)
    exact ih1 (IntKind.i64.wrap (s1 + 1)) h
  replace h := ite_f h c2
  refine WT.exit rfl ?_
  refine WT.seq ?_
  refine WT.region ?_
  refine lq (q_assign rfl) rfl ?_
  refine WL.nil ?_
  refine WT.ret Try.func142 (resOk.one rfl) (fun w1 hw => ?_)
  subst hb0
  cases h
  exact post_of_St hw
end Go.Proofs.Ytjhlmnbkfdkmpaa
