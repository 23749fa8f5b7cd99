/- Printed by a program of ours: each Go function computes its Lean function. -/
import Derived.Test.YtjangilipfjcmaaGreatProg
import Derived.Test.YtjangilipfjcmaaGreatWNetsBentWalk2
namespace Go.Proofs.YtjangilipfjcmaaGreat
open Eng
open Go.RowKit (Below)
set_option linter.unusedVariables false
set_option linter.unusedSimpArgs false

set_option maxRecDepth 100000
set_option maxHeartbeats 1000000
theorem m_s_l9Any_ok {Φ : Hp} {w : World} (hΦ : In Φ w) (N : Nat) (p0 : Tl1Cur) {pv0_0 : Value} {pG0_0 : List Nat} {pb0 : Nat} (ph0_0 : RSl (RI .u8) 1 Φ pG0_0 pv0_0 p0.b) (pp0 : Φ pb0 = some (.cells #[pv0_0, .int .i64 p0.i, .int .i64 p0.h] 159 (0, 0))) (pd0_0 : Dj pG0_0 [[pb0]].flatten) (hB : [[pb0]].flatten.Nodup) (hlt : ∀ k ∈ [[pb0]].flatten, k < w.heap.size) {r : TRule × Tl1Cur} (h : m_s_l9Any N p0 = some r) :
  Calls Tryz.prog 102 [.pointer (some ⟨pb0, 0, none⟩)].toArray w (PostG Φ w [[pb0]].flatten (fun Φ' Fs v => ∃ (sr_0_0 : Value) (Dr_0_0 : List Nat) (sr_0_1 : Value) (Gr_0_1 : List Nat) (sr_0_2 : Value) (Gr_0_2 : List Nat) (X : List Nat), v = .agg [.string r.1.Name, .int .i64 r.1.Sal, sr_0_0, sr_0_1, sr_0_2].toArray ∧ Fs = [ob sr_0_0, [pb0], X] ∧ OSl RTPat 114 3 Φ' Dr_0_0 sr_0_0 r.1.Pats ∧ (∀ k ∈ Dr_0_0, k ∈ X) ∧ RSl RTCond 11 Φ' Gr_0_1 sr_0_1 r.1.Conds ∧ (∀ k ∈ Gr_0_1, k ∈ X) ∧ RSl RTAct 5 Φ' Gr_0_2 sr_0_2 r.1.Acts ∧ (∀ k ∈ Gr_0_2, k ∈ X) ∧ r.2.b = p0.b ∧ Φ' pb0 = some (.cells #[pv0_0, .int .i64 r.2.i, .int .i64 r.2.h] 159 (0, 0)))) := by
 refine enter Tryz.func102 rfl Tryz.ntmps102 rfl (St.start hΦ [[pb0]] hB hlt) ?_
 have pa0_0 : Old ⟨w, [[pb0]].flatten, Φ⟩ pG0_0 := Old.mk hΦ ph0_0.kn pd0_0
 revert pa0_0
 generalize hb0 : (⟨w, [[pb0]].flatten, Φ⟩ : Base) = w0
 intro pa0_0
 unfold m_s_l9Any at h
 refine WT.seq <| WT.region ?_
 refine ln (n_alloc (C := #[.string eS, .int .i64 0, .slice none 0 0, .slice none 0 0, .slice none 0 0]) Zr_49 rfl) rfl (fun b_1 => ?_)
 refine WL.nil <| sr <| lq (q_move rfl) rfl <| lq (q_move rfl) rfl ?_
 have rc1 : RC RS 1 Φ ([[], [], []] : List (List Nat)) [.string (⟨#[114, 49]⟩ : ByteArray), .string (⟨#[114, 50]⟩ : ByteArray), .string (⟨#[115, 104, 105, 112]⟩ : ByteArray)] ([(⟨#[114, 49]⟩ : ByteArray), (⟨#[114, 50]⟩ : ByteArray), (⟨#[115, 104, 105, 112]⟩ : ByteArray)] : List ByteArray) := RC.cons (c := [.string (⟨#[114, 49]⟩ : ByteArray)]) (cells := [.string (⟨#[114, 50]⟩ : ByteArray), .string (⟨#[115, 104, 105, 112]⟩ : ByteArray)]) ⟨rfl, rfl⟩ rfl (RC.cons (c := [.string (⟨#[114, 50]⟩ : ByteArray)]) (cells := [.string (⟨#[115, 104, 105, 112]⟩ : ByteArray)]) ⟨rfl, rfl⟩ rfl (RC.cons (c := [.string (⟨#[115, 104, 105, 112]⟩ : ByteArray)]) (cells := []) ⟨rfl, rfl⟩ rfl (RC.nil _ _ _)))
 refine le' (e_lit (vs := [(0, .string (⟨#[114, 49]⟩ : ByteArray)), (1, .string (⟨#[114, 50]⟩ : ByteArray)), (2, .string (⟨#[115, 104, 105, 112]⟩ : ByteArray))]) (C := #[.string (⟨#[114, 49]⟩ : ByteArray), .string (⟨#[114, 50]⟩ : ByteArray), .string (⟨#[115, 104, 105, 112]⟩ : ByteArray)]) RS.lasts Sl_137 Zr_9 rfl rfl rfl rfl (fill_made MC_9_3 (fill_cons (cells := [.string ⟨#[]⟩, .string ⟨#[]⟩, .string ⟨#[]⟩]) (c := [.string (⟨#[114, 49]⟩ : ByteArray)]) (C' := [.string (⟨#[114, 49]⟩ : ByteArray), .string ⟨#[]⟩, .string ⟨#[]⟩]) rfl rfl rfl rfl rfl (fill_cons (cells := [.string (⟨#[114, 49]⟩ : ByteArray), .string ⟨#[]⟩, .string ⟨#[]⟩]) (c := [.string (⟨#[114, 50]⟩ : ByteArray)]) (C' := [.string (⟨#[114, 49]⟩ : ByteArray), .string (⟨#[114, 50]⟩ : ByteArray), .string ⟨#[]⟩]) rfl rfl rfl rfl rfl (fill_cons (cells := [.string (⟨#[114, 49]⟩ : ByteArray), .string (⟨#[114, 50]⟩ : ByteArray), .string ⟨#[]⟩]) (c := [.string (⟨#[115, 104, 105, 112]⟩ : ByteArray)]) (C' := [.string (⟨#[114, 49]⟩ : ByteArray), .string (⟨#[114, 50]⟩ : ByteArray), .string (⟨#[115, 104, 105, 112]⟩ : ByteArray)]) rfl rfl rfl rfl rfl (fill_nil))))) rfl rc1 rfl (by simpa using Kw.nil)) rfl (fun v1 Φ_1 D1 q1 => ?_)
 obtain ⟨fr1, h1⟩ := q1
 replace h1 : OSl RS 9 1 Φ_1 [] v1 ([(⟨#[114, 49]⟩ : ByteArray), (⟨#[114, 50]⟩ : ByteArray), (⟨#[115, 104, 105, 112]⟩ : ByteArray)] : List ByteArray) := by simpa using h1
 replace ph0_0 := ph0_0.frame RI.lasts fr1 (Dj.empty _)
 replace pp0 := fr1 _ _ (by simp) pp0
 obtain ⟨x1, hx1, h⟩ := bind_some h
 refine lc (k_call (js := [1]) (R := [ob v1]) Fun_101 rfl rfl (fun w1 hw ap hl => m_s_l1Str_ok hw.fro N p0 ([(⟨#[114, 49]⟩ : ByteArray), (⟨#[114, 50]⟩ : ByteArray), (⟨#[115, 104, 105, 112]⟩ : ByteArray)] : List ByteArray) ph0_0 pp0 h1.rsl (ap.o pa0_0) (Dj.app (ap.r (i := 0) rfl) (Dj.nil _)) ap.nd hl hx1)) rfl (fun v2 Φ_2 F1 q2 => ?_)
 obtain ⟨ap1, fr2, rfl, rfl, e1, h2⟩ := q2
 replace ph0_0 := ph0_0.frame RI.lasts fr2 (ap1.o pa0_0)
 obtain ⟨x2, hx2, h⟩ := bind_some h
 refine lc (k_call (js := [0]) (R := [ob v1]) Fun_56 rfl rfl (fun w1 hw ap hl => m_s_l9Draw_ok hw.fro N (⟨p0.b, x1.2.i, x1.2.h⟩ : Tl1Cur) x1.1 ph0_0 h2 (ap.o pa0_0) ap.nd hl hx2)) rfl (fun v3 Φ_3 F2 q3 => ?_)
 obtain ⟨ap2, fr3, v4, D2, v5, v6, D3, rfl, rfl, h3, h4, h5, e2, h6⟩ := q3
 replace ph0_0 := ph0_0.frame RI.lasts fr3 (ap2.o pa0_0)
 refine ln (n_alloc (C := #[.string eS, .int .i64 0, .slice none 0 0, .slice none 0 0, .slice none 0 0]) Zr_49 rfl) rfl (fun b_2 => ?_)
 refine ls (s_store (i := 0) (vs := [.string x2.1.Name, .int .i64 x2.1.Sal, v4, v5, v6]) (C' := [.string x2.1.Name, .int .i64 x2.1.Sal, v4, v5, v6]) (O' := [(b_2, .cells #[.string x2.1.Name, .int .i64 x2.1.Sal, v4, v5, v6] 49 (0, 0)), (b_1, .cells #[.string eS, .int .i64 0, .slice none 0 0, .slice none 0 0, .slice none 0 0] 49 (0, 0))]) Sz_49 rfl rfl rfl rfl rfl rfl ⟨rfl, rfl, h3.one, h4.one, h5.one, trivial⟩ rfl rfl) rfl ?_
 refine WL.nil <| WT.seq <| sr <| lq (q_move rfl) rfl ?_
 obtain ⟨x3, hx3, h⟩ := bind_some h
 refine lc (k_call (js := [5]) (R := [ob v4, D2, ob v5, ob v6, D3, ob v1]) Fun_47 rfl rfl (fun w1 hw ap hl => m_s_l1Once_ok hw.fro N (⟨p0.b, x2.2.i, x2.2.h⟩ : Tl1Cur) 3 ph0_0 h6 (ap.o pa0_0) ap.nd hl hx3)) rfl (fun v7 Φ_4 F3 q4 => ?_)
 obtain ⟨ap3, fr4, rfl, rfl, e3, h7⟩ := q4
 replace ph0_0 := ph0_0.frame RI.lasts fr4 (ap3.o pa0_0)
 replace h3 := h3.frame OTPat.lasts fr4 (ap3.r (i := 0) rfl) (ap3.r (i := 1) rfl)
 replace h4 := h4.frame RTCond.lasts fr4 (ap3.r (i := 2) rfl) (Dj.nil _)
 replace h5 := h5.frame OTAct.lasts fr4 (ap3.r (i := 3) rfl) (ap3.r (i := 4) rfl)
 refine WL.nil <| WT.conv (S' := St w0 Φ_4 [(b_2, .cells #[.string x2.1.Name, .int .i64 x2.1.Sal, v4, v5, v6] 49 (0, 0)), (b_1, .cells #[.string eS, .int .i64 0, .slice none 0 0, .slice none 0 0, .slice none 0 0] 49 (0, 0))] ([] :: [[pb0], ob v4, D2, ob v5, ob v6, D3, ob v1])) (fun w1 hw => hw.addNil) ?_
 have h8 := h4.rsl
 have h9 := (h5.rslG OTAct.gives)
 replace h3 := h3.gives OTPat.gives
 refine cut (σ := Hp × List Nat × (List TPat) × Value × List Nat × Int × Int × ByteArray × Int × (List TCond) × Value × List Nat × (List TAct) × Value × List Nat) (fun s => [(2, .pointer (some ⟨b_1, 0, none⟩)), (3, .pointer (some ⟨b_2, 0, none⟩))]) (fun s => St w0 s.1 [(b_2, .cells #[.string s.2.2.2.2.2.2.2.1, .int .i64 s.2.2.2.2.2.2.2.2.1, s.2.2.2.1, s.2.2.2.2.2.2.2.2.2.2.1, s.2.2.2.2.2.2.2.2.2.2.2.2.2.1] 49 (0, 0)), (b_1, .cells #[.string eS, .int .i64 0, .slice none 0 0, .slice none 0 0, .slice none 0 0] 49 (0, 0))] [s.2.1, [pb0], ob s.2.2.2.1, D2, ob v5, ob v6, D3]) (fun s => m_s_l9Any_j1 N p0 s.2.2.1 s.2.2.2.2.2.1 s.2.2.2.2.2.2.1 s.2.2.2.2.2.2.2.1 s.2.2.2.2.2.2.2.2.1 s.2.2.2.2.2.2.2.2.2.1 s.2.2.2.2.2.2.2.2.2.2.2.2.1 = some r ∧ (OSl RTPat 114 3 s.1 s.2.2.2.2.1 s.2.2.2.1 s.2.2.1) ∧ (∀ k ∈ s.2.2.2.2.1, k ∈ (D2 ++ s.2.1)) ∧ (s.1 pb0 = some (.cells #[pv0_0, .int .i64 s.2.2.2.2.2.1, .int .i64 s.2.2.2.2.2.2.1] 159 (0, 0))) ∧ (RSl RTCond 11 s.1 s.2.2.2.2.2.2.2.2.2.2.2.1 s.2.2.2.2.2.2.2.2.2.2.1 s.2.2.2.2.2.2.2.2.2.1) ∧ (∀ k ∈ s.2.2.2.2.2.2.2.2.2.2.2.1, k ∈ (ob v5 ++ s.2.1)) ∧ (RSl RTAct 5 s.1 s.2.2.2.2.2.2.2.2.2.2.2.2.2.2 s.2.2.2.2.2.2.2.2.2.2.2.2.2.1 s.2.2.2.2.2.2.2.2.2.2.2.2.1) ∧ (∀ k ∈ s.2.2.2.2.2.2.2.2.2.2.2.2.2.2, k ∈ (ob v6 ++ (D3 ++ s.2.1))) ∧ (RSl (RI .u8) 1 s.1 pG0_0 pv0_0 p0.b)) (fun s hm => ?_) (fun K => ?_)
 ·clear h
  obtain ⟨Φ_5, X1, s1, u1, D4, s2, s3, s4, s5, s6, u2, H1, s7, u3, H2⟩ := s
  obtain ⟨h, k1, i1, k2, k3, i2, k4, i3, ph0_0⟩ := hm
  replace h : m_s_l9Any_j1 N p0 s1 s2 s3 s4 s5 s6 s7 = some r := h
  replace k1 : OSl RTPat 114 3 Φ_5 D4 u1 s1 := k1
  replace i1 : ∀ k ∈ D4, k ∈ (D2 ++ X1) := i1
  replace k2 : Φ_5 pb0 = some (.cells #[pv0_0, .int .i64 s2, .int .i64 s3] 159 (0, 0)) := k2
  replace k3 : RSl RTCond 11 Φ_5 H1 u2 s6 := k3
  replace i2 : ∀ k ∈ H1, k ∈ (ob v5 ++ X1) := i2
  replace k4 : RSl RTAct 5 Φ_5 H2 u3 s7 := k4
  replace i3 : ∀ k ∈ H2, k ∈ (ob v6 ++ (D3 ++ X1)) := i3
  replace ph0_0 : RSl (RI .u8) 1 Φ_5 pG0_0 pv0_0 p0.b := ph0_0
  show WT _ _ [(2, .pointer (some ⟨b_1, 0, none⟩)), (3, .pointer (some ⟨b_2, 0, none⟩))] (St w0 Φ_5 [(b_2, .cells #[.string s4, .int .i64 s5, u1, u2, u3] 49 (0, 0)), (b_1, .cells #[.string eS, .int .i64 0, .slice none 0 0, .slice none 0 0, .slice none 0 0] 49 (0, 0))] [X1, [pb0], ob u1, D2, ob v5, ob v6, D3])
  unfold m_s_l9Any_j1 at h
  refine sr <| lq (q_loadN Tn_49 rfl (fun w1 hw => hw.rgO (i := 0) rfl 0 5 [.string s4, .int .i64 s5, u1, u2, u3] rfl) rfl) rfl <| ls (s_store (i := 1) (vs := [.string s4, .int .i64 s5, u1, u2, u3]) (C' := [.string s4, .int .i64 s5, u1, u2, u3]) (O' := [(b_2, .cells #[.string s4, .int .i64 s5, u1, u2, u3] 49 (0, 0)), (b_1, .cells #[.string s4, .int .i64 s5, u1, u2, u3] 49 (0, 0))]) Sz_49 rfl rfl rfl rfl rfl rfl ⟨rfl, rfl, k1.one, k3.one, k4.one, trivial⟩ rfl rfl) rfl ?_
  refine WL.nil ?_
  refine WT.ret Tryz.func102 (resOk.one (rv_cell Tn_49 rfl (fun w1 hw => hw.rgO (i := 1) rfl 0 5 [.string s4, .int .i64 s5, u1, u2, u3] rfl) rfl)) (fun w1 hw => ?_)
  subst hb0
  cases h
  replace hw := hw.merge (js := [3, 0, 2, 2, 2]) (F := [D2, X1, ob v5, ob v6, D3].flatten) rfl (SP.eq (by simp))
  refine postG_of_St (js := [2, 1, 0]) hw rfl ⟨u1, D4, u2, H1, u3, H2, [D2, X1, ob v5, ob v6, D3].flatten, rfl, rfl, k1, (fun k hk => ((List.mem_append.1 (i1 k hk)).elim (fun h => (List.mem_flatten.2 ⟨D2, by simp, h⟩)) (fun h => (List.mem_flatten.2 ⟨X1, by simp, h⟩)))), k3, (fun k hk => ((List.mem_append.1 (i2 k hk)).elim (fun h => (List.mem_flatten.2 ⟨ob v5, by simp, h⟩)) (fun h => (List.mem_flatten.2 ⟨X1, by simp, h⟩)))), k4, (fun k hk => ((List.mem_append.1 (i3 k hk)).elim (fun h => (List.mem_flatten.2 ⟨ob v6, by simp, h⟩)) (fun h => ((List.mem_append.1 h).elim (fun h => (List.mem_flatten.2 ⟨D3, by simp, h⟩)) (fun h => (List.mem_flatten.2 ⟨X1, by simp, h⟩)))))), rfl, k2⟩
 refine WT.cond rfl (fun c1 => ?_) (fun c1 => ?_)
 ·replace h := ite_t h c1
  refine WT.region <| lq (q_move rfl) rfl <| lq (q_loadN Tn_49 rfl (fun w1 hw => hw.rgO (i := 0) rfl 0 5 [.string x2.1.Name, .int .i64 x2.1.Sal, v4, v5, v6] rfl) rfl) rfl ?_
  obtain ⟨x4, hx4, h⟩ := bind_some h
  refine lc (k_call (js := [1]) (R := [[], ob v4, D2, ob v5, ob v6, D3, ob v1]) Fun_103 rfl rfl (fun w1 hw ap hl => m_s_l9Bend_ok hw.fro N (⟨p0.b, x3.2.i, x3.2.h⟩ : Tl1Cur) x2.1 ph0_0 h7 h3.rsl h8 h9 (ap.o pa0_0) (Dj.app (ap.r (i := 1) rfl) (ap.r (i := 2) rfl)) (Dj.sub (ap.r (i := 3) rfl) apnil) (Dj.app (ap.r (i := 4) rfl) (ap.r (i := 5) rfl)) ap.nd hl hx4)) rfl (fun v8 Φ_6 F6 q5 => ?_)
  obtain ⟨ap4, fr5, v9, D5, v10, G1, v11, G2, X2, rfl, rfl, h10, i4, h11, i5, h12, i6, e6, h13⟩ := q5
  replace h8 := h8.frame RTCond.lasts fr5 (Dj.sub (ap4.r (i := 3) rfl) apnil)
  replace h9 := h9.frame RTAct.lasts fr5 (Dj.app (ap4.r (i := 4) rfl) (ap4.r (i := 5) rfl))
  replace ph0_0 := ph0_0.frame RI.lasts fr5 (ap4.o pa0_0)
  replace h3 := h3.frame RTPat.lasts fr5 (ap4.r (i := 1) rfl) (ap4.r (i := 2) rfl)
  refine ls (s_store (i := 0) (vs := [.string x4.1.Name, .int .i64 x4.1.Sal, v9, v10, v11]) (C' := [.string x4.1.Name, .int .i64 x4.1.Sal, v9, v10, v11]) (O' := [(b_2, .cells #[.string x4.1.Name, .int .i64 x4.1.Sal, v9, v10, v11] 49 (0, 0)), (b_1, .cells #[.string eS, .int .i64 0, .slice none 0 0, .slice none 0 0, .slice none 0 0] 49 (0, 0))]) Sz_49 rfl rfl rfl rfl rfl rfl ⟨rfl, rfl, h10.one, h11.one, h12.one, trivial⟩ rfl rfl) rfl ?_
  refine WL.nil <| WT.conv (S' := St w0 Φ_6 [(b_2, .cells #[.string x4.1.Name, .int .i64 x4.1.Sal, v9, v10, v11] 49 (0, 0)), (b_1, .cells #[.string eS, .int .i64 0, .slice none 0 0, .slice none 0 0, .slice none 0 0] 49 (0, 0))] [([] ++ (X2 ++ (ob v4))), ob v9, [pb0], D2, ob v5, ob v6, D3, ob v1]) (fun w1 hw => hw.merge (js := [3, 2, 2]) rfl (SP.eq (by simp [List.append_assoc]))) <| WT.mono (l' := [(2, .pointer (some ⟨b_1, 0, none⟩)), (3, .pointer (some ⟨b_2, 0, none⟩))]) (S' := St w0 Φ_6 [(b_2, .cells #[.string x4.1.Name, .int .i64 x4.1.Sal, v9, v10, v11] 49 (0, 0)), (b_1, .cells #[.string eS, .int .i64 0, .slice none 0 0, .slice none 0 0, .slice none 0 0] 49 (0, 0))] [([] ++ (X2 ++ (ob v4))), [pb0], ob v9, D2, ob v5, ob v6, D3]) ⟨rfl, rfl, trivial⟩ (fun w1 hw => (hw.sel (js := [0, 1, 0, 0, 0, 0, 0]) rfl).selO (js := [0, 0]) rfl) ?_
  exact K (Φ_6, ([] ++ (X2 ++ (ob v4))), x4.1.Pats, v9, D5, x4.2.i, x4.2.h, x4.1.Name, x4.1.Sal, x4.1.Conds, v10, G1, x4.1.Acts, v11, G2) ⟨h, h10, (fun k hk => ((List.mem_append.1 (i4 k hk)).elim (fun h => (List.mem_append.2 (.inr ((fun k hk => (List.mem_append.2 (.inr (List.mem_append.2 (.inl hk))))) k h)))) (fun h => ((List.mem_append.1 h).elim (fun h => (List.mem_append.2 (.inr ((fun k hk => (List.mem_append.2 (.inr (List.mem_append.2 (.inr hk))))) k h)))) (fun h => (List.mem_append.2 (.inl h))))))), h13, h11, (fun k hk => ((List.mem_append.1 (i5 k hk)).elim (fun h => (List.mem_append.2 (.inr ((fun k hk => (List.mem_append.2 (.inr (List.mem_append.2 (.inl hk))))) k h)))) (fun h => (List.mem_append.2 (.inl (apnil k h)))))), h12, (fun k hk => ((List.mem_append.1 (i6 k hk)).elim (fun h => (List.mem_append.2 (.inr (List.mem_append.2 (.inr ((fun k hk => (List.mem_append.2 (.inr (List.mem_append.2 (.inl hk))))) k h)))))) (fun h => ((List.mem_append.1 h).elim (fun h => (List.mem_append.2 (.inl h))) (fun h => (List.mem_append.2 (.inr (List.mem_append.2 (.inl h))))))))), ph0_0⟩
 replace h := ite_f h c1
 refine WT.skip <| WT.mono (l' := [(2, .pointer (some ⟨b_1, 0, none⟩)), (3, .pointer (some ⟨b_2, 0, none⟩))]) (S' := St w0 Φ_4 [(b_2, .cells #[.string x2.1.Name, .int .i64 x2.1.Sal, v4, v5, v6] 49 (0, 0)), (b_1, .cells #[.string eS, .int .i64 0, .slice none 0 0, .slice none 0 0, .slice none 0 0] 49 (0, 0))] [[], [pb0], ob v4, D2, ob v5, ob v6, D3]) ⟨rfl, rfl, trivial⟩ (fun w1 hw => (hw.sel (js := [0, 0, 0, 0, 0, 0, 0]) rfl).selO (js := [0, 0]) rfl) ?_
 exact K (Φ_4, [], x2.1.Pats, v4, D2, x3.2.i, x3.2.h, x2.1.Name, x2.1.Sal, x2.1.Conds, v5, (ob v5 ++ []), x2.1.Acts, v6, (ob v6 ++ D3)) ⟨h, h3, (fun k hk => (List.mem_append.2 (.inl hk))), h7, h8, (fun k hk => (List.mem_append.2 (.inl (apnil k hk)))), h9, (fun k hk => ((List.mem_append.1 hk).elim (fun h => (List.mem_append.2 (.inl h))) (fun h => (List.mem_append.2 (.inr (List.mem_append.2 (.inl h))))))), ph0_0⟩
theorem m_s_l10Any_ok {Φ : Hp} {w : World} (hΦ : In Φ w) (N : Nat) (p0 : Tl1Cur) {pv0_0 : Value} {pG0_0 : List Nat} {pb0 : Nat} (ph0_0 : RSl (RI .u8) 1 Φ pG0_0 pv0_0 p0.b) (pp0 : Φ pb0 = some (.cells #[pv0_0, .int .i64 p0.i, .int .i64 p0.h] 159 (0, 0))) (pd0_0 : Dj pG0_0 [[pb0]].flatten) (hB : [[pb0]].flatten.Nodup) (hlt : ∀ k ∈ [[pb0]].flatten, k < w.heap.size) {r : TDef × Tl1Cur} (h : m_s_l10Any N p0 = some r) :
  Calls Tryz.prog 45 [.pointer (some ⟨pb0, 0, none⟩)].toArray w (PostG Φ w [[pb0]].flatten (fun Φ' Fs v => ∃ (sr_0_0 : Value) (Dr_0_0 : List Nat) (X : List Nat), v = .agg [.string r.1.Name, sr_0_0].toArray ∧ Fs = [ob sr_0_0, [pb0], X] ∧ OSl RTRule 49 5 Φ' Dr_0_0 sr_0_0 r.1.Rules ∧ (∀ k ∈ Dr_0_0, k ∈ X) ∧ r.2.b = p0.b ∧ Φ' pb0 = some (.cells #[pv0_0, .int .i64 r.2.i, .int .i64 r.2.h] 159 (0, 0)))) := by
 refine enter Tryz.func45 rfl Tryz.ntmps45 rfl (St.start hΦ [[pb0]] hB hlt) ?_
 have pa0_0 : Old ⟨w, [[pb0]].flatten, Φ⟩ pG0_0 := Old.mk hΦ ph0_0.kn pd0_0
 revert pa0_0
 generalize hb0 : (⟨w, [[pb0]].flatten, Φ⟩ : Base) = w0
 intro pa0_0
 unfold m_s_l10Any at h
 refine WT.seq <| WT.region ?_
 refine ln (n_alloc (C := #[.string eS, .slice none 0 0]) Zr_30 rfl) rfl (fun b_1 => ?_)
 refine WL.nil <| sr <| lq (q_move rfl) rfl ?_
 obtain ⟨x1, hx1, h⟩ := bind_some h
 refine lc (k_call (js := [0]) (R := []) Fun_81 rfl rfl (fun w1 hw ap hl => m_s_l10Draw_ok hw.fro N p0 ph0_0 pp0 (ap.o pa0_0) ap.nd hl hx1)) rfl (fun v1 Φ_1 F1 q1 => ?_)
 obtain ⟨ap1, fr1, v2, D1, rfl, rfl, h1, e1, h2⟩ := q1
 replace ph0_0 := ph0_0.frame RI.lasts fr1 (ap1.o pa0_0)
 refine ln (n_alloc (C := #[.string eS, .slice none 0 0]) Zr_30 rfl) rfl (fun b_2 => ?_)
 refine ls (s_store (i := 0) (vs := [.string x1.1.Name, v2]) (C' := [.string x1.1.Name, v2]) (O' := [(b_2, .cells #[.string x1.1.Name, v2] 30 (0, 0)), (b_1, .cells #[.string eS, .slice none 0 0] 30 (0, 0))]) Sz_30 rfl rfl rfl rfl rfl rfl ⟨rfl, h1.one, trivial⟩ rfl rfl) rfl <| WL.nil <| WT.seq <| sr <| lq (q_move rfl) rfl ?_
 obtain ⟨x2, hx2, h⟩ := bind_some h
 refine lc (k_call (js := [2]) (R := [ob v2, D1]) Fun_59 rfl rfl (fun w1 hw ap hl => m_s_l1Below_ok hw.fro N (⟨p0.b, x1.2.i, x1.2.h⟩ : Tl1Cur) 10 ph0_0 h2 (ap.o pa0_0) ap.nd hl hx2)) rfl (fun v3 Φ_2 F2 q2 => ?_)
 obtain ⟨ap2, fr2, rfl, rfl, e2, h3⟩ := q2
 replace ph0_0 := ph0_0.frame RI.lasts fr2 (ap2.o pa0_0)
 replace h1 := h1.frame OTRule.lasts fr2 (ap2.r (i := 0) rfl) (ap2.r (i := 1) rfl)
 refine WL.nil <| WT.block <| sr <| lq (q_eql rfl rfl) rfl <| lq (q_assign rfl) rfl <| WL.nil <| WT.conv (S' := St w0 Φ_2 [(b_2, .cells #[.string x1.1.Name, v2] 30 (0, 0)), (b_1, .cells #[.string eS, .slice none 0 0] 30 (0, 0))] ([] :: [[pb0], ob v2, D1])) (fun w1 hw => hw.addNil) ?_
 replace h1 := h1.gives OTRule.gives
 refine cut (σ := Hp × List Nat × (List TRule) × Value × List Nat × Int × Int × ByteArray) (fun s => [(2, .pointer (some ⟨b_1, 0, none⟩)), (3, .pointer (some ⟨b_2, 0, none⟩))]) (fun s => St w0 s.1 [(b_2, .cells #[.string s.2.2.2.2.2.2.2, s.2.2.2.1] 30 (0, 0)), (b_1, .cells #[.string eS, .slice none 0 0] 30 (0, 0))] [s.2.1, [pb0], ob s.2.2.2.1, D1]) (fun s => m_s_l10Any_j1 N p0 s.2.2.1 s.2.2.2.2.2.1 s.2.2.2.2.2.2.1 s.2.2.2.2.2.2.2 = some r ∧ (OSl RTRule 49 5 s.1 s.2.2.2.2.1 s.2.2.2.1 s.2.2.1) ∧ (∀ k ∈ s.2.2.2.2.1, k ∈ (D1 ++ s.2.1)) ∧ (s.1 pb0 = some (.cells #[pv0_0, .int .i64 s.2.2.2.2.2.1, .int .i64 s.2.2.2.2.2.2.1] 159 (0, 0))) ∧ (RSl (RI .u8) 1 s.1 pG0_0 pv0_0 p0.b)) (fun s hm => ?_) (fun K => ?_)
 ·clear h
  obtain ⟨Φ_3, X1, s1, u1, D2, s2, s3, s4⟩ := s
  obtain ⟨h, k1, i1, k2, ph0_0⟩ := hm
  replace h : m_s_l10Any_j1 N p0 s1 s2 s3 s4 = some r := h
  replace k1 : OSl RTRule 49 5 Φ_3 D2 u1 s1 := k1
  replace i1 : ∀ k ∈ D2, k ∈ (D1 ++ X1) := i1
  replace k2 : Φ_3 pb0 = some (.cells #[pv0_0, .int .i64 s2, .int .i64 s3] 159 (0, 0)) := k2
  replace ph0_0 : RSl (RI .u8) 1 Φ_3 pG0_0 pv0_0 p0.b := ph0_0
  show WT _ _ [(2, .pointer (some ⟨b_1, 0, none⟩)), (3, .pointer (some ⟨b_2, 0, none⟩))] (St w0 Φ_3 [(b_2, .cells #[.string s4, u1] 30 (0, 0)), (b_1, .cells #[.string eS, .slice none 0 0] 30 (0, 0))] [X1, [pb0], ob u1, D1])
  unfold m_s_l10Any_j1 at h
  refine WT.inBlock <| sr <| lq (q_loadN Tn_30 rfl (fun w1 hw => hw.rgO (i := 0) rfl 0 2 [.string s4, u1] rfl) rfl) rfl <| ls (s_store (i := 1) (vs := [.string s4, u1]) (C' := [.string s4, u1]) (O' := [(b_2, .cells #[.string s4, u1] 30 (0, 0)), (b_1, .cells #[.string s4, u1] 30 (0, 0))]) Sz_30 rfl rfl rfl rfl rfl rfl ⟨rfl, k1.one, trivial⟩ rfl rfl) rfl <| WL.nil ?_
  refine WT.ret Tryz.func45 (resOk.one (rv_cell Tn_30 rfl (fun w1 hw => hw.rgO (i := 1) rfl 0 2 [.string s4, u1] rfl) rfl)) (fun w1 hw => ?_)
  subst hb0
  cases h
  replace hw := hw.merge (js := [3, 0]) (F := [D1, X1].flatten) rfl (SP.eq (by simp))
  refine postG_of_St (js := [2, 1, 0]) hw rfl ⟨u1, D2, [D1, X1].flatten, rfl, rfl, k1, (fun k hk => ((List.mem_append.1 (i1 k hk)).elim (fun h => (List.mem_flatten.2 ⟨D1, by simp, h⟩)) (fun h => (List.mem_flatten.2 ⟨X1, by simp, h⟩)))), rfl, k2⟩
 refine WT.cond rfl (fun c1 => ?_) (fun c1 => ?_)
 ·replace h := ite_t h c1
  refine WT.region <| lq (q_move rfl) rfl ?_
  have rc1 : RC RS 1 Φ_2 ([[], []] : List (List Nat)) [.string eS, .string (⟨#[65]⟩ : ByteArray)] ([eS, (⟨#[65]⟩ : ByteArray)] : List ByteArray) := RC.cons (c := [.string eS]) (cells := [.string (⟨#[65]⟩ : ByteArray)]) ⟨rfl, rfl⟩ rfl (RC.cons (c := [.string (⟨#[65]⟩ : ByteArray)]) (cells := []) ⟨rfl, rfl⟩ rfl (RC.nil _ _ _))
  refine le' (e_lit (vs := [(0, .string eS), (1, .string (⟨#[65]⟩ : ByteArray))]) (C := #[.string eS, .string (⟨#[65]⟩ : ByteArray)]) RS.lasts Sl_137 Zr_9 rfl rfl rfl rfl (fill_made MC_9_2 (fill_cons (cells := [.string ⟨#[]⟩, .string ⟨#[]⟩]) (c := [.string eS]) (C' := [.string eS, .string ⟨#[]⟩]) rfl rfl rfl rfl rfl (fill_cons (cells := [.string eS, .string ⟨#[]⟩]) (c := [.string (⟨#[65]⟩ : ByteArray)]) (C' := [.string eS, .string (⟨#[65]⟩ : ByteArray)]) rfl rfl rfl rfl rfl (fill_nil)))) rfl rc1 rfl (by simpa using Kw.nil)) rfl (fun v4 Φ_4 D3 q3 => ?_)
  obtain ⟨fr3, h4⟩ := q3
  replace h4 : OSl RS 9 1 Φ_4 [] v4 ([eS, (⟨#[65]⟩ : ByteArray)] : List ByteArray) := by simpa using h4
  replace ph0_0 := ph0_0.frame RI.lasts fr3 (Dj.empty _)
  replace h1 := h1.frame RTRule.lasts fr3 (Dj.empty _) (Dj.empty _)
  replace h3 := fr3 _ _ (by simp) h3
  obtain ⟨x3, hx3, h⟩ := bind_some h
  refine lc (k_call (js := [2]) (R := [ob v4, [], ob v2, D1]) Fun_101 rfl rfl (fun w1 hw ap hl => m_s_l1Str_ok hw.fro N (⟨p0.b, x2.2.i, x2.2.h⟩ : Tl1Cur) ([eS, (⟨#[65]⟩ : ByteArray)] : List ByteArray) ph0_0 h3 h4.rsl (ap.o pa0_0) (Dj.app (ap.r (i := 0) rfl) (Dj.nil _)) ap.nd hl hx3)) rfl (fun v5 Φ_5 F3 q4 => ?_)
  obtain ⟨ap3, fr4, rfl, rfl, e3, h5⟩ := q4
  replace ph0_0 := ph0_0.frame RI.lasts fr4 (ap3.o pa0_0)
  replace h1 := h1.frame RTRule.lasts fr4 (ap3.r (i := 2) rfl) (ap3.r (i := 3) rfl)
  refine lq (q_fieldAddr Fld_30_0 rfl) rfl <| ls (s_store (i := 0) (vs := [.string x3.1]) (C' := [.string x3.1, v2]) (O' := [(b_2, .cells #[.string x3.1, v2] 30 (0, 0)), (b_1, .cells #[.string eS, .slice none 0 0] 30 (0, 0))]) Sz_9 rfl rfl rfl rfl rfl rfl ⟨rfl, trivial⟩ rfl rfl) rfl <| WL.nil <| WT.mono (l' := [(2, .pointer (some ⟨b_1, 0, none⟩)), (3, .pointer (some ⟨b_2, 0, none⟩))]) (S' := St w0 Φ_5 [(b_2, .cells #[.string x3.1, v2] 30 (0, 0)), (b_1, .cells #[.string eS, .slice none 0 0] 30 (0, 0))] [[], [pb0], ob v2, D1]) ⟨rfl, rfl, trivial⟩ (fun w1 hw => (hw.sel (js := [2, 0, 1, 1]) rfl).selO (js := [0, 0]) rfl) ?_
  exact K (Φ_5, [], x1.1.Rules, v2, D1, x3.2.i, x3.2.h, x3.1) ⟨h, h1, (fun k hk => (List.mem_append.2 (.inl hk))), h5, ph0_0⟩
 replace h := ite_f h c1
 refine sr <| lq (q_eql rfl rfl) rfl <| lq (q_assign rfl) rfl <| WL.nil ?_
 refine WT.cond rfl (fun c2 => ?_) (fun c2 => ?_)
 ·replace h := ite_t h c2
  refine WT.mix (Kn Φ_2 [] [(b_2, .cells #[.string x1.1.Name, v2] 30 (0, 0)), (b_1, .cells #[.string eS, .slice none 0 0] 30 (0, 0))]) (fun i => match i with | 7 => false | _ => true) mixed (fun _ h => h.drew) <| mq 0 rfl (by kernel_rfl) (fun w1 hw => Kn.of (fun k hk _ _ => by simp at hk) (ai2 0 1 rfl rfl) hw) (q_fieldAddr Fld_30_1 rfl) rfl ?_
  refine mq 1 rfl (by kernel_rfl) (fun w1 hw => Kn.of (fun k hk _ _ => by simp at hk) (ai2 0 1 rfl rfl) hw) (q_load1 T1_28 rfl (fun w1 hw => hw.rgO (i := 0) rfl 1 1 [v2] rfl)) rfl <| mq 2 rfl (by kernel_rfl) (fun w1 hw => Kn.of (fun k hk _ _ => by simp at hk) (ai2 0 1 rfl rfl) hw) (q_move rfl) rfl ?_
  obtain ⟨x4, hx4, h⟩ := bind_some h
  refine WM.one 3 (by kernel_rfl) (mc rfl (fun _ v Φx D w1 hq hw => Kn.of (fun k hk _ _ => by simp at hk) (ai2 0 1 rfl rfl) hw) (k_call (js := [1]) (R := [[], ob v2, D1]) Fun_102 rfl rfl (fun w1 hw ap hl => m_s_l9Any_ok hw.fro N (⟨p0.b, x2.2.i, x2.2.h⟩ : Tl1Cur) ph0_0 h3 (ap.o pa0_0) ap.nd hl hx4)) rfl (fun v6 Φ_6 F4 q5 => ?_))
  obtain ⟨ap4, fr5, v7, D4, v8, G1, v9, G2, X2, rfl, rfl, h6, i2, h7, i3, h8, i4, e4, h9⟩ := q5
  replace ph0_0 := ph0_0.frame RI.lasts fr5 (ap4.o pa0_0)
  replace h1 := h1.frame RTRule.lasts fr5 (ap4.r (i := 1) rfl) (ap4.r (i := 2) rfl)
  have rc2 : RC RTRule 5 Φ_6 ([(ob v7 ++ D4) ++ (G1 ++ (G2))] : List (List Nat)) [.string x4.1.Name, .int .i64 x4.1.Sal, v7, v8, v9] ([x4.1] : List TRule) := RC.cons (c := [.string x4.1.Name, .int .i64 x4.1.Sal, v7, v8, v9]) (cells := []) ⟨v7, (ob v7 ++ D4), v8, G1, v9, G2, rfl, rfl, h6.rsl, h7, h8⟩ rfl (RC.nil _ _ _)
  refine WM.one 4 (by kernel_rfl) (me rfl (fun _ v Φx D w1 hq hw => Kn.of (fun k hk _ _ => by simp at hk) (ai2 0 1 rfl rfl) hw) (e_lit (vs := [(0, .agg [.string x4.1.Name, .int .i64 x4.1.Sal, v7, v8, v9].toArray)]) (C := #[.string x4.1.Name, .int .i64 x4.1.Sal, v7, v8, v9]) RTRule.lasts Sl_28 Zr_49 rfl rfl rfl rfl (fill_made MC_49_1 (fill_cons (cells := [.string ⟨#[]⟩, .int .i64 0, .slice none 0 0, .slice none 0 0, .slice none 0 0]) (c := [.string x4.1.Name, .int .i64 x4.1.Sal, v7, v8, v9]) (C' := [.string x4.1.Name, .int .i64 x4.1.Sal, v7, v8, v9]) rfl rfl rfl rfl rfl (fill_nil))) rfl rc2 rfl (RC.kn RTRule.knows rc2)) rfl (fun v10 Φ_7 D5 q6 => ?_))
  obtain ⟨fr6, h10⟩ := q6
  replace h10 : OSl RTRule 49 5 Φ_7 ((ob v7 ++ D4) ++ (G1 ++ (G2))) v10 ([x4.1] : List TRule) := by simpa [List.append_assoc] using h10
  replace ph0_0 := ph0_0.frame RI.lasts fr6 (Dj.empty _)
  replace h1 := h1.frame RTRule.lasts fr6 (Dj.empty _) (Dj.empty _)
  replace h9 := fr6 _ _ (by simp) h9
  obtain ⟨x6, hx5, h⟩ := bind_some h
  refine WM.one 5 (by kernel_rfl) (me rfl (fun _ v Φx D w1 hq hw => Kn.of (fun k hk _ _ => by simp at hk) (ai2 0 1 rfl rfl) hw) (e_appO RTRule.lasts RTRule.one Sl_28 Ei_49 rfl rfl rfl rfl rfl (js := [5]) (Rr := [ob v10, ob v7, [pb0], X2, [], D1]) rfl h1 h10 (fun ap => (ap.r (i := 5) rfl)) (fun ap => (Dj.sub (Dj.app (Dj.app (ap.r (i := 1) rfl) (Dj.sub (ap.r (i := 3) rfl) i2)) (Dj.app (Dj.sub (ap.r (i := 3) rfl) i3) (Dj.sub (ap.r (i := 3) rfl) i4))) (fun k hk => (by simpa [List.append_assoc] using hk : k ∈ ((ob v7 ++ D4) ++ (G1 ++ G2)))))) hx5) rfl (fun v11 Φ_8 D6 q7 => ?_))
  obtain ⟨⟨ap5, fr7⟩, h11⟩ := q7
  replace ph0_0 := ph0_0.frame RI.lasts fr7 (ap5.o pa0_0)
  replace h9 := fr7 _ _ ((ap5.r (i := 2) rfl) _ (by simp)) h9
  refine mq 6 rfl (by kernel_rfl) (fun w1 hw => Kn.of (fun k hk _ _ => by simp at hk) (ai2 0 1 rfl rfl) hw) (q_fieldAddr Fld_30_1 rfl) rfl ?_
  refine WM.one 7 (by kernel_rfl) (ms rfl (fun hc => by cases hc) (s_store (i := 0) (vs := [v11]) (C' := [.string x1.1.Name, v11]) (O' := [(b_2, .cells #[.string x1.1.Name, v11] 30 (0, 0)), (b_1, .cells #[.string eS, .slice none 0 0] 30 (0, 0))]) Sz_28 rfl rfl rfl (one_cells h11.one) rfl rfl ⟨h11.one, trivial⟩ rfl rfl) rfl ?_)
  refine WM.nil (by kernel_rfl) <| WT.conv (S' := St w0 Φ_8 [(b_2, .cells #[.string x1.1.Name, v11] 30 (0, 0)), (b_1, .cells #[.string eS, .slice none 0 0] 30 (0, 0))] [([] ++ (ob v7 ++ (X2))), ob v11, ob v10, [pb0], D1]) (fun w1 hw => hw.merge (js := [5, 2, 3]) rfl (SP.eq (by simp [List.append_assoc]))) <| WT.mono (l' := [(2, .pointer (some ⟨b_1, 0, none⟩)), (3, .pointer (some ⟨b_2, 0, none⟩))]) (S' := St w0 Φ_8 [(b_2, .cells #[.string x1.1.Name, v11] 30 (0, 0)), (b_1, .cells #[.string eS, .slice none 0 0] 30 (0, 0))] [([] ++ (ob v7 ++ (X2))), [pb0], ob v11, D1]) ⟨rfl, rfl, trivial⟩ (fun w1 hw => (hw.sel (js := [0, 2, 0, 1]) rfl).selO (js := [0, 0]) rfl) ?_
  exact K (Φ_8, ([] ++ (ob v7 ++ (X2))), x6, v11, (D1 ++ ((ob v7 ++ D4) ++ (G1 ++ (G2)))), x4.2.i, x4.2.h, x1.1.Name) ⟨h, h11, (fun k hk => ((List.mem_append.1 hk).elim (fun h => (List.mem_append.2 (.inl h))) (fun h => ((List.mem_append.1 ((fun k hk => (by simpa [List.append_assoc] using hk : k ∈ ((ob v7 ++ D4) ++ (G1 ++ G2)))) k h)).elim (fun h => ((List.mem_append.1 h).elim (fun h => (List.mem_append.2 (.inr ((fun k hk => (List.mem_append.2 (.inr (List.mem_append.2 (.inl hk))))) k h)))) (fun h => (List.mem_append.2 (.inr ((fun k hk => (List.mem_append.2 (.inr (List.mem_append.2 (.inr hk))))) k (i2 k h))))))) (fun h => ((List.mem_append.1 h).elim (fun h => (List.mem_append.2 (.inr ((fun k hk => (List.mem_append.2 (.inr (List.mem_append.2 (.inr hk))))) k (i3 k h))))) (fun h => (List.mem_append.2 (.inr ((fun k hk => (List.mem_append.2 (.inr (List.mem_append.2 (.inr hk))))) k (i4 k h))))))))))), h9, ph0_0⟩
 replace h := ite_f h c2
 refine sr <| lq (q_eql rfl rfl) rfl <| lq (q_assign rfl) rfl <| WL.nil ?_
 refine WT.cond rfl (fun c3 => ?_) (fun c3 => ?_)
 ·replace h := ite_t h c3
  refine WT.mix (Kn Φ_2 (ob v2) [(b_2, .cells #[.string x1.1.Name, v2] 30 (0, 0)), (b_1, .cells #[.string eS, .slice none 0 0] 30 (0, 0))]) (fun i => match i with | 9 => false | _ => true) mixed (fun _ h => h.drew) <| mq 0 rfl (by kernel_rfl) (fun w1 hw => Kn.of (fun _ _ _ h => h) (ai2 0 1 rfl rfl) hw) (q_fieldAddr Fld_30_1 rfl) rfl ?_
  refine mq 1 rfl (by kernel_rfl) (fun w1 hw => Kn.of (fun _ _ _ h => h) (ai2 0 1 rfl rfl) hw) (q_load1 T1_28 rfl (fun w1 hw => hw.rgO (i := 0) rfl 1 1 [v2] rfl)) rfl <| mq 2 rfl (by kernel_rfl) (fun w1 hw => Kn.of (fun _ _ _ h => h) (ai2 0 1 rfl rfl) hw) (q_move rfl) rfl ?_
  refine mq 3 rfl (by kernel_rfl) (fun w1 hw => Kn.of (fun _ _ _ h => h) (ai2 0 1 rfl rfl) hw) (q_fieldAddr Fld_30_1 rfl) rfl <| mq 4 rfl (by kernel_rfl) (fun w1 hw => Kn.of (fun _ _ _ h => h) (ai2 0 1 rfl rfl) hw) (q_load1 T1_28 rfl (fun w1 hw => hw.rgO (i := 0) rfl 1 1 [v2] rfl)) rfl ?_
  obtain ⟨x7, hx6, h⟩ := bind_some h
  obtain ⟨cs1, F5, -, g1, hb1, hs1, r1⟩ := h1.elS (idx_some hx6).2.2
  obtain ⟨v12, G3, v13, G4, v14, G5, rfl, rfl, h12, h13, h14⟩ := r1
  refine mq 5 rfl (by kernel_rfl) (fun w1 hw => Kn.of (fun _ _ _ h => h) (ai2 0 1 rfl rfl) hw) (q_indexAddr Sl_28 rfl rfl h1.rsl hx6) rfl <| mq 6 rfl (by kernel_rfl) (fun w1 hw => Kn.of (fun _ _ _ h => h) (ai2 0 1 rfl rfl) hw) (q_loadN Tn_49 rfl (fun w1 hw => hw.rg hb1 (g1.of_eq 0 5 rfl rfl : rg _ _ _ [.string x7.Name, .int .i64 x7.Sal, v12, v13, v14])) rfl) rfl ?_
  obtain ⟨x8, hx7, h⟩ := bind_some h
  refine WM.one 7 (by kernel_rfl) (mc rfl (fun _ v Φx D w1 hq hw => Kn.of (fun k hk o ho => hq.2.1 k o ((hq.1.r (i := 1) rfl) k hk) ((fun _ _ _ h => h) k hk o ho)) (ai2 0 1 rfl rfl) hw) (k_call (js := [1]) (R := [[], ob v2, D1]) Fun_103 rfl rfl (fun w1 hw ap hl => m_s_l9Bend_ok hw.fro N (⟨p0.b, x2.2.i, x2.2.h⟩ : Tl1Cur) x7 ph0_0 h3 h12 h13 h14 (ap.o pa0_0) (Dj.sub (ap.r (i := 2) rfl) (fun k h => hs1 k (List.mem_append.2 (.inl h)))) (Dj.sub (ap.r (i := 2) rfl) (fun k h => hs1 k (List.mem_append.2 (.inr (List.mem_append.2 (.inl h)))))) (Dj.sub (ap.r (i := 2) rfl) (fun k h => hs1 k (List.mem_append.2 (.inr (List.mem_append.2 (.inr h)))))) ap.nd hl hx7)) rfl (fun v15 Φ_9 F6 q8 => ?_))
  obtain ⟨ap6, fr8, v16, D7, v17, G6, v18, G7, X3, rfl, rfl, h15, i5, h16, i6, h17, i7, e5, h18⟩ := q8
  replace ph0_0 := ph0_0.frame RI.lasts fr8 (ap6.o pa0_0)
  replace h1 := h1.frame RTRule.lasts fr8 (ap6.r (i := 1) rfl) (ap6.r (i := 2) rfl)
  obtain ⟨x10, hx8, h⟩ := bind_some h
  obtain ⟨cs2, F7, -, g2, hb2, hs2, r2⟩ := h1.elS (idx_some hx8).2.2
  obtain ⟨v19, G8, v20, G9, v21, G10, rfl, rfl, h19, h20, h21⟩ := r2
  refine mq 8 rfl (by kernel_rfl) (fun w1 hw => Kn.of (fun k hk o ho => fr8 k o ((ap6.r (i := 1) rfl) k hk) ((fun _ _ _ h => h) k hk o ho)) (ai2 0 1 rfl rfl) hw) (q_indexAddr Sl_28 rfl rfl h1.rsl hx8) rfl ?_
  have h23 := h15.rsl
  have r3 : RTRule Φ_9 ((ob v16 ++ D7) ++ (G6 ++ (G7))) [.string x8.1.Name, .int .i64 x8.1.Sal, v16, v17, v18] x8.1 := ⟨v16, (ob v16 ++ D7), v17, G6, v18, G7, rfl, rfl, h23, h16, h17⟩
  refine WM.one 9 (by kernel_rfl) (mu rfl (fun hc => by cases hc) (u_setO (js := [4]) (Rr := [ob v16, [pb0], X3, [], D1]) (vs := [.string x8.1.Name, .int .i64 x8.1.Sal, v16, v17, v18]) (x' := x8.1) RTRule.lasts Sz_49 rfl rfl rfl rfl ⟨rfl, rfl, h23.one, h16.one, h17.one, trivial⟩ rfl h1 (idx_lt hx8) r3 (RTRule.knows _ _ _ _ r3) (fun ap => (ap.r (i := 4) rfl)) (fun ap => by simpa using (Dj.app (Dj.app (ap.r (i := 0) rfl) (Dj.sub (Dj.app (ap.r (i := 2) rfl) (Dj.sub (ap.r (i := 4) rfl) (fun k h => hs1 k (List.mem_append.2 (.inl h))))) i5)) (Dj.app (Dj.sub (Dj.app (ap.r (i := 2) rfl) (Dj.sub (ap.r (i := 4) rfl) (fun k h => hs1 k (List.mem_append.2 (.inr (List.mem_append.2 (.inl h))))))) i6) (Dj.sub (Dj.app (ap.r (i := 2) rfl) (Dj.sub (ap.r (i := 4) rfl) (fun k h => hs1 k (List.mem_append.2 (.inr (List.mem_append.2 (.inr h))))))) i7))))) rfl (fun Φ_10 D8 q9 => ?_))
  obtain ⟨⟨ap7, fr9⟩, sp1, h22⟩ := q9
  replace ph0_0 := ph0_0.frame RI.lasts fr9 (ap7.o pa0_0)
  replace h18 := fr9 _ _ ((ap7.r (i := 1) rfl) _ (by simp)) h18
  refine WM.nil (by kernel_rfl) <| WT.conv (S' := St w0 Φ_10 [(b_2, .cells #[.string x1.1.Name, v2] 30 (0, 0)), (b_1, .cells #[.string eS, .slice none 0 0] 30 (0, 0))] [([] ++ (ob v16 ++ (X3))), ob v2, [pb0], D1]) (fun w1 hw => hw.merge (js := [4, 1, 2]) rfl (SP.eq (by simp [List.append_assoc]))) <| WT.mono (l' := [(2, .pointer (some ⟨b_1, 0, none⟩)), (3, .pointer (some ⟨b_2, 0, none⟩))]) (S' := St w0 Φ_10 [(b_2, .cells #[.string x1.1.Name, v2] 30 (0, 0)), (b_1, .cells #[.string eS, .slice none 0 0] 30 (0, 0))] [([] ++ (ob v16 ++ (X3))), [pb0], ob v2, D1]) ⟨rfl, rfl, trivial⟩ (fun w1 hw => (hw.sel (js := [0, 1, 0, 0]) rfl).selO (js := [0, 0]) rfl) ?_
  exact K (Φ_10, ([] ++ (ob v16 ++ (X3))), (x1.1.Rules.set (0 : Int).toNat x8.1), v2, D8, x8.2.i, x8.2.h, x1.1.Name) ⟨h, h22, (fun k hk => ((List.mem_append.1 ((fun k hk => (by simpa [List.append_assoc] using sp1.mem hk : k ∈ (D1 ++ ((ob v16 ++ D7) ++ (G6 ++ G7))))) k hk)).elim (fun h => (List.mem_append.2 (.inl h))) (fun h => ((List.mem_append.1 h).elim (fun h => ((List.mem_append.1 h).elim (fun h => (List.mem_append.2 (.inr ((fun k hk => (List.mem_append.2 (.inr (List.mem_append.2 (.inl hk))))) k h)))) (fun h => ((List.mem_append.1 (i5 k h)).elim (fun h => (List.mem_append.2 (.inr ((fun k hk => (List.mem_append.2 (.inr (List.mem_append.2 (.inr hk))))) k h)))) (fun h => (List.mem_append.2 (.inl ((fun k h => hs1 k (List.mem_append.2 (.inl h))) k h)))))))) (fun h => ((List.mem_append.1 h).elim (fun h => ((List.mem_append.1 (i6 k h)).elim (fun h => (List.mem_append.2 (.inr ((fun k hk => (List.mem_append.2 (.inr (List.mem_append.2 (.inr hk))))) k h)))) (fun h => (List.mem_append.2 (.inl ((fun k h => hs1 k (List.mem_append.2 (.inr (List.mem_append.2 (.inl h))))) k h)))))) (fun h => ((List.mem_append.1 (i7 k h)).elim (fun h => (List.mem_append.2 (.inr ((fun k hk => (List.mem_append.2 (.inr (List.mem_append.2 (.inr hk))))) k h)))) (fun h => (List.mem_append.2 (.inl ((fun k h => hs1 k (List.mem_append.2 (.inr (List.mem_append.2 (.inr h))))) k h)))))))))))), h18, ph0_0⟩
 replace h := ite_f h c3
 refine sr <| lq (q_eql rfl rfl) rfl <| lq (q_assign rfl) rfl <| WL.nil ?_
 refine WT.cond rfl (fun c4 => ?_) (fun c4 => ?_)
 ·replace h := ite_t h c4
  refine WT.region <| lq (q_fieldAddr Fld_30_1 rfl) rfl <| lq (q_load1 T1_28 rfl (fun w1 hw => hw.rgO (i := 0) rfl 1 1 [v2] rfl)) rfl ?_
  obtain ⟨x11, hx9, h⟩ := bind_some h
  refine lq (q_slH Sl_28 rfl rfl h1.rsl hx9) rfl ?_
  obtain ⟨D9, h24, sp2, e7⟩ := h1.pre hx9
  refine WL.conv (S' := St w0 Φ_2 [(b_2, .cells #[.string x1.1.Name, v2] 30 (0, 0)), (b_1, .cells #[.string eS, .slice none 0 0] 30 (0, 0))] [[], [pb0], ob (slc v2 0 (0 : Int).toNat 5), D1]) (fun w1 hw => by simpa only [e7] using hw) <| lq (q_fieldAddr Fld_30_1 rfl) rfl <| ls (s_store (i := 0) (vs := [(slc v2 0 (0 : Int).toNat 5)]) (C' := [.string x1.1.Name, (slc v2 0 (0 : Int).toNat 5)]) (O' := [(b_2, .cells #[.string x1.1.Name, (slc v2 0 (0 : Int).toNat 5)] 30 (0, 0)), (b_1, .cells #[.string eS, .slice none 0 0] 30 (0, 0))]) Sz_28 rfl rfl rfl (one_cells h24.one) rfl rfl ⟨h24.one, trivial⟩ rfl rfl) rfl ?_
  refine WL.nil <| WT.mono (l' := [(2, .pointer (some ⟨b_1, 0, none⟩)), (3, .pointer (some ⟨b_2, 0, none⟩))]) (S' := St w0 Φ_2 [(b_2, .cells #[.string x1.1.Name, (slc v2 0 (0 : Int).toNat 5)] 30 (0, 0)), (b_1, .cells #[.string eS, .slice none 0 0] 30 (0, 0))] [[], [pb0], ob (slc v2 0 (0 : Int).toNat 5), D1]) ⟨rfl, rfl, trivial⟩ (fun w1 hw => (hw.sel (js := [0, 0, 0, 0]) rfl).selO (js := [0, 0]) rfl) ?_
  exact K (Φ_2, [], x11, (slc v2 0 (0 : Int).toNat 5), D9, x2.2.i, x2.2.h, x1.1.Name) ⟨h, h24, (fun k hk => (List.mem_append.2 (.inl ((fun k h => sp2.mem h) k hk)))), h3, ph0_0⟩
 replace h := ite_f h c4
 refine WT.skip <| WT.mono (l' := [(2, .pointer (some ⟨b_1, 0, none⟩)), (3, .pointer (some ⟨b_2, 0, none⟩))]) (S' := St w0 Φ_2 [(b_2, .cells #[.string x1.1.Name, v2] 30 (0, 0)), (b_1, .cells #[.string eS, .slice none 0 0] 30 (0, 0))] [[], [pb0], ob v2, D1]) ⟨rfl, rfl, trivial⟩ (fun w1 hw => (hw.sel (js := [0, 0, 0, 0]) rfl).selO (js := [0, 0]) rfl) ?_
 exact K (Φ_2, [], x1.1.Rules, v2, D1, x2.2.i, x2.2.h, x1.1.Name) ⟨h, h1, (fun k hk => (List.mem_append.2 (.inl hk))), h3, ph0_0⟩
theorem m_s_l11Same_ok {Φ : Hp} {w : World} (hΦ : In Φ w) (N : Nat) (p0 : (List Int)) (p1 : (List Int)) {pv0 : Value} {pG0 : List Nat} {pv1 : Value} {pG1 : List Nat} (ph0 : RSl (RI .i64) 1 Φ pG0 pv0 p0) (ph1 : RSl (RI .i64) 1 Φ pG1 pv1 p1) {r : Bool} (h : m_s_l11Same N p0 p1 = some r) :
  Calls Tryz.prog 112 [pv0, pv1].toArray w (Post (.bool r) w) := by
 refine enter Tryz.func112 rfl Tryz.ntmps112 rfl (St.start0 hΦ) ?_
 generalize hb0 : (⟨w, [], Φ⟩ : Base) = w0
 unfold m_s_l11Same at h
 refine sr <| lq (q_assign rfl) rfl <| WL.nil <| WT.seq <| sr <| lq (q_move rfl) rfl <| lq (q_lenR Sl_41 rfl rfl ph0) rfl <| lq (q_move rfl) rfl <| lq (q_lenR Sl_41 rfl rfl ph1) rfl <| lq (q_neq rfl rfl) rfl <| WL.nil ?_
 refine WT.cond rfl (fun c1 => ?_) (fun c1 => ?_)
 ·replace h := ite_t h c1
  refine sr <| lq (q_assign rfl) rfl <| WL.nil ?_
  refine WT.ret Tryz.func112 (resOk.one rfl) (fun w1 hw => ?_)
  subst hb0
  cases h
  exact post_of_St hw
 replace h := ite_f h c1
 refine WT.skip <| WT.seq <| sr <| lq (q_assign rfl) rfl <| WL.nil <| WT.block <| WT.loop <| WT.mono (l' := [(0, pv0), (1, pv1), (5, .int .i64 0)]) (S' := St w0 Φ [] []) ⟨rfl, rfl, rfl, trivial⟩ (fun w1 hw => (hw.sel (js := []) rfl).selO (js := []) rfl) ?_
 refine loop_ind (σ := Int) (fun s => [(0, pv0), (1, pv1), (5, .int .i64 s)]) (fun s => St w0 Φ [] []) (fun m s => m_s_l11Same_l1 N p0 p1 m s = some r) (fun s hm => none_ne (show (none : Option (Bool)) = some r from hm)) (fun n1 ih1 s hm => ?_) N (0) h
 revert hm; revert s; intro s1 hm
 have h : m_s_l11Same_l1 N p0 p1 (n1 + 1) s1 = some r := hm
 show WT _ _ [(0, pv0), (1, pv1), (5, .int .i64 s1)] (St w0 Φ [] [])
 unfold m_s_l11Same_l1 at h
 refine WT.seq <| sr <| lq (q_move rfl) rfl <| lq (q_move rfl) rfl <| lq (q_lenR Sl_41 rfl rfl ph0) rfl <| lq (q_lss rfl rfl) rfl <| WL.nil ?_
 refine WT.cond rfl (fun c2 => ?_) (fun c2 => ?_)
 ·replace h := ite_t h c2
  refine WT.skip <| WT.seq <| WT.block <| WT.seq <| WT.draw mixed (by kernel_rfl) (fun _ h => h.drew) <| qq (q_move rfl) rfl <| qq (q_move rfl) rfl ?_
  obtain ⟨x1, hx1, h⟩ := bind_some h
  obtain ⟨cs1, F1, -, g1, hb1, hs1, r1⟩ := ph0.el (idx_some hx1).2.2
  obtain ⟨rfl, -⟩ := r1
  refine qq (q_indexAddr Sl_41 rfl rfl ph0 hx1) rfl <| qq (q_load1 T1_3 rfl (fun w1 hw => (g1.of_eq 0 1 rfl rfl : rg _ _ _ [.int .i64 x1]).rangeAt hw.fro)) rfl <| qq (q_move rfl) rfl <| qq (q_move rfl) rfl ?_
  obtain ⟨x2, hx2, h⟩ := bind_some h
  obtain ⟨cs2, F2, -, g2, hb2, hs2, r2⟩ := ph1.el (idx_some hx2).2.2
  obtain ⟨rfl, -⟩ := r2
  refine qq (q_indexAddr Sl_41 rfl rfl ph1 hx2) rfl <| qq (q_load1 T1_3 rfl (fun w1 hw => (g2.of_eq 0 1 rfl rfl : rg _ _ _ [.int .i64 x2]).rangeAt hw.fro)) rfl <| qq (q_neq rfl rfl) rfl <| WQ.nil ?_
  refine WT.cond rfl (fun c3 => ?_) (fun c3 => ?_)
  ·replace h := ite_t h c3
   refine sr <| lq (q_assign rfl) rfl <| WL.nil ?_
   refine WT.ret Tryz.func112 (resOk.one rfl) (fun w1 hw => ?_)
   subst hb0
   cases h
   exact post_of_St hw
  replace h := ite_f h c3
  refine WT.skip <| WT.inBlock <| WT.region <| lq (q_move rfl) rfl <| lq (q_add rfl rfl) rfl <| lq (q_assign rfl) rfl <| WL.nil ?_
  refine WT.inLoop (WT.mono (l' := [(0, pv0), (1, pv1), (5, .int .i64 (IntKind.i64.wrap (s1 + 1)))]) (S' := St w0 Φ [] []) ⟨rfl, rfl, rfl, trivial⟩ (fun w1 hw => (hw.sel (js := []) rfl).selO (js := []) rfl) ?_)
  exact ih1 (IntKind.i64.wrap (s1 + 1)) h
 replace h := ite_f h c2
 refine WT.exit rfl <| sr <| lq (q_assign rfl) rfl <| WL.nil ?_
 refine WT.ret Tryz.func112 (resOk.one rfl) (fun w1 hw => ?_)
 subst hb0
 cases h
 exact post_of_St hw
theorem m_s_l3SameVals_ok {Φ : Hp} {w : World} (hΦ : In Φ w) (N : Nat) (p0 : (List TVal)) (p1 : (List TVal)) {pv0 : Value} {pG0 : List Nat} {pv1 : Value} {pG1 : List Nat} (ph0 : RSl RTVal 3 Φ pG0 pv0 p0) (ph1 : RSl RTVal 3 Φ pG1 pv1 p1) {r : Bool} (h : m_s_l3SameVals N p0 p1 = some r) :
  Calls Tryz.prog 174 [pv0, pv1].toArray w (Post (.bool r) w) := by
 refine enter Tryz.func174 rfl Tryz.ntmps174 rfl (St.start0 hΦ) ?_
 generalize hb0 : (⟨w, [], Φ⟩ : Base) = w0
 unfold m_s_l3SameVals at h
 refine sr <| lq (q_assign rfl) rfl <| WL.nil <| WT.seq <| sr <| lq (q_move rfl) rfl <| lq (q_lenR Sl_100 rfl rfl ph0) rfl <| lq (q_move rfl) rfl <| lq (q_lenR Sl_100 rfl rfl ph1) rfl <| lq (q_neq rfl rfl) rfl <| WL.nil ?_
 refine WT.cond rfl (fun c1 => ?_) (fun c1 => ?_)
 ·replace h := ite_t h c1
  refine sr <| lq (q_assign rfl) rfl <| WL.nil ?_
  refine WT.ret Tryz.func174 (resOk.one rfl) (fun w1 hw => ?_)
  subst hb0
  cases h
  exact post_of_St hw
 replace h := ite_f h c1
 refine WT.skip <| WT.seq <| sr <| lq (q_assign rfl) rfl <| WL.nil <| WT.block <| WT.loop <| WT.mono (l' := [(0, pv0), (1, pv1), (5, .int .i64 0)]) (S' := St w0 Φ [] []) ⟨rfl, rfl, rfl, trivial⟩ (fun w1 hw => (hw.sel (js := []) rfl).selO (js := []) rfl) ?_
 refine loop_ind (σ := Int) (fun s => [(0, pv0), (1, pv1), (5, .int .i64 s)]) (fun s => St w0 Φ [] []) (fun m s => m_s_l3SameVals_l1 N p0 p1 m s = some r) (fun s hm => none_ne (show (none : Option (Bool)) = some r from hm)) (fun n1 ih1 s hm => ?_) N (0) h
 revert hm; revert s; intro s1 hm
 have h : m_s_l3SameVals_l1 N p0 p1 (n1 + 1) s1 = some r := hm
 show WT _ _ [(0, pv0), (1, pv1), (5, .int .i64 s1)] (St w0 Φ [] [])
 unfold m_s_l3SameVals_l1 at h
 refine WT.seq <| sr <| lq (q_move rfl) rfl <| lq (q_move rfl) rfl <| lq (q_lenR Sl_100 rfl rfl ph0) rfl <| lq (q_lss rfl rfl) rfl <| WL.nil ?_
 refine WT.cond rfl (fun c2 => ?_) (fun c2 => ?_)
 ·replace h := ite_t h c2
  refine WT.skip <| WT.seq <| WT.block <| WT.seq <| WT.draw mixed (by kernel_rfl) (fun _ h => h.drew) <| qq (q_move rfl) rfl <| qq (q_move rfl) rfl ?_
  obtain ⟨x1, hx1, h⟩ := bind_some h
  obtain ⟨cs1, F1, -, g1, hb1, hs1, r1⟩ := ph0.el (idx_some hx1).2.2
  obtain ⟨rfl, -⟩ := r1
  refine qq (q_indexAddr Sl_100 rfl rfl ph0 hx1) rfl <| qq (q_loadN Tn_121 rfl (fun w1 hw => (g1.of_eq 0 3 rfl rfl : rg _ _ _ [.int .i64 x1.K, .int .i64 x1.N, .string x1.S]).rangeAt hw.fro) rfl) rfl <| qq (q_move rfl) rfl <| qq (q_move rfl) rfl ?_
  obtain ⟨x2, hx2, h⟩ := bind_some h
  obtain ⟨cs2, F2, -, g2, hb2, hs2, r2⟩ := ph1.el (idx_some hx2).2.2
  obtain ⟨rfl, -⟩ := r2
  refine qq (q_indexAddr Sl_100 rfl rfl ph1 hx2) rfl <| qq (q_loadN Tn_121 rfl (fun w1 hw => (g2.of_eq 0 3 rfl rfl : rg _ _ _ [.int .i64 x2.K, .int .i64 x2.N, .string x2.S]).rangeAt hw.fro) rfl) rfl <| qq (q_neA EqT_121 rfl rfl rfl (r := eqT_TVal x1 x2) rfl) rfl <| WQ.nil ?_
  refine WT.cond rfl (fun c3 => ?_) (fun c3 => ?_)
  ·replace h := ite_t h c3
   refine sr <| lq (q_assign rfl) rfl <| WL.nil ?_
   refine WT.ret Tryz.func174 (resOk.one rfl) (fun w1 hw => ?_)
   subst hb0
   cases h
   exact post_of_St hw
  replace h := ite_f h c3
  refine WT.skip <| WT.inBlock <| WT.region <| lq (q_move rfl) rfl <| lq (q_add rfl rfl) rfl <| lq (q_assign rfl) rfl <| WL.nil ?_
  refine WT.inLoop (WT.mono (l' := [(0, pv0), (1, pv1), (5, .int .i64 (IntKind.i64.wrap (s1 + 1)))]) (S' := St w0 Φ [] []) ⟨rfl, rfl, rfl, trivial⟩ (fun w1 hw => (hw.sel (js := []) rfl).selO (js := []) rfl) ?_)
  exact ih1 (IntKind.i64.wrap (s1 + 1)) h
 replace h := ite_f h c2
 refine WT.exit rfl <| sr <| lq (q_assign rfl) rfl <| WL.nil ?_
 refine WT.ret Tryz.func174 (resOk.one rfl) (fun w1 hw => ?_)
 subst hb0
 cases h
 exact post_of_St hw
theorem m_s_SameAlpha_ok {Φ : Hp} {w : World} (hΦ : In Φ w) (N : Nat) (p0 : TAlpha) (p1 : TAlpha) {pv0_0 : Value} {pG0_0 : List Nat} {pv0_1 : Value} {pG0_1 : List Nat} {pv1_0 : Value} {pG1_0 : List Nat} {pv1_1 : Value} {pG1_1 : List Nat} (ph0_0 : RSl RTVal 3 Φ pG0_0 pv0_0 p0.Consts) (ph0_1 : RSl (RI .i64) 1 Φ pG0_1 pv0_1 p0.At) (ph1_0 : RSl RTVal 3 Φ pG1_0 pv1_0 p1.Consts) (ph1_1 : RSl (RI .i64) 1 Φ pG1_1 pv1_1 p1.At) {r : Bool} (h : m_s_SameAlpha N p0 p1 = some r) :
  Calls Tryz.prog 111 [.agg [.string p0.Kind, .int .i64 p0.N, pv0_0, pv0_1].toArray, .agg [.string p1.Kind, .int .i64 p1.N, pv1_0, pv1_1].toArray].toArray w (Post (.bool r) w) := by
 refine enter Tryz.func111 rfl Tryz.ntmps111 rfl (St.start0 hΦ) ?_
 unfold m_s_SameAlpha at h
 refine WT.seq <| WT.region ?_
 refine ln (n_box (C := #[.string p0.Kind, .int .i64 p0.N, pv0_0, pv0_1]) rfl rfl) rfl (fun b_1 => ?_)
 refine ln (n_box (C := #[.string p1.Kind, .int .i64 p1.N, pv1_0, pv1_1]) rfl rfl) rfl (fun b_2 => ?_)
 refine lq (q_assign rfl) rfl <| WL.nil <| sr <| lq (q_fieldAddr Fld_102_0 rfl) rfl <| lq (q_load1 T1_9 rfl (fun w1 hw => hw.rgO (i := 1) rfl 0 1 [.string p0.Kind] rfl)) rfl <| lq (q_fieldAddr Fld_102_0 rfl) rfl <| lq (q_load1 T1_9 rfl (fun w1 hw => hw.rgO (i := 0) rfl 0 1 [.string p1.Kind] rfl)) rfl <| lq (q_seq rfl rfl) rfl <| lq (q_move rfl) rfl ?_
 obtain ⟨b1, hb_1, h⟩ := bind_some h
 refine WL.cutN 6 [(16, .bool b1), (2, .pointer (some ⟨b_1, 0, none⟩)), (3, .pointer (some ⟨b_2, 0, none⟩)), (4, .bool false)] ?_ (fun K => ?_)
 rotate_left
 ·refine WL.split (d := 10) rfl (fun c1 => ?_) (fun c1 => ?_)
  ·replace hb_1 := ite_t hb_1 c1
   refine WL.yes rfl rfl <| lq (q_fieldAddr Fld_102_1 rfl) rfl <| WL.yes rfl rfl <| lq (q_load1 T1_3 rfl (fun w1 hw => hw.rgO (i := 1) rfl 1 1 [.int .i64 p0.N] rfl)) rfl <| WL.yes rfl rfl <| lq (q_fieldAddr Fld_102_1 rfl) rfl <| WL.yes rfl rfl <| lq (q_load1 T1_3 rfl (fun w1 hw => hw.rgO (i := 0) rfl 1 1 [.int .i64 p1.N] rfl)) rfl <| WL.yes rfl rfl <| lq (q_eql rfl rfl) rfl <| WL.q (q_pick1 rfl rfl) rfl rfl rfl ?_
   cases hb_1
   exact WL.keep (by exact ⟨rfl, rfl, rfl, rfl, trivial⟩) K
  ·replace hb_1 := ite_f hb_1 c1
   refine WL.no rfl rfl rfl rfl <| WL.no rfl rfl rfl rfl <| WL.no rfl rfl rfl rfl <| WL.no rfl rfl rfl rfl <| WL.no rfl rfl rfl rfl <| WL.q (q_pick0 rfl rfl) rfl rfl rfl ?_
   cases hb_1
   exact WL.keep (by exact ⟨rfl, rfl, rfl, rfl, trivial⟩) K
 refine lq (q_move rfl) rfl ?_
 obtain ⟨b2, hb_2, h⟩ := bind_some h
 refine WL.cutN 6 [(23, .bool b2), (2, .pointer (some ⟨b_1, 0, none⟩)), (3, .pointer (some ⟨b_2, 0, none⟩)), (4, .bool false)] ?_ (fun K => ?_)
 rotate_left
 ·refine WL.split (d := 17) rfl (fun c2 => ?_) (fun c2 => ?_)
  ·replace hb_2 := ite_t hb_2 c2
   refine WL.yes rfl rfl <| lq (q_fieldAddr Fld_102_3 rfl) rfl <| WL.yes rfl rfl <| lq (q_load1 T1_41 rfl (fun w1 hw => hw.rgO (i := 1) rfl 3 1 [pv0_1] rfl)) rfl <| WL.yes rfl rfl <| lq (q_fieldAddr Fld_102_3 rfl) rfl <| WL.yes rfl rfl <| lq (q_load1 T1_41 rfl (fun w1 hw => hw.rgO (i := 0) rfl 3 1 [pv1_1] rfl)) rfl <| WL.yes rfl rfl ?_
   obtain ⟨x1, hx1, hb_2⟩ := bind_some hb_2
   refine lp (p_call Fun_112 rfl (fun w1 hw => m_s_l11Same_ok hw.fro N p0.At p1.At ph0_1 ph1_1 hx1)) rfl <| WL.q (q_pick1 rfl rfl) rfl rfl rfl ?_
   cases hb_2
   exact WL.keep (by exact ⟨rfl, rfl, rfl, rfl, trivial⟩) K
  ·replace hb_2 := ite_f hb_2 c2
   refine WL.no rfl rfl rfl rfl <| WL.no rfl rfl rfl rfl <| WL.no rfl rfl rfl rfl <| WL.no rfl rfl rfl rfl <| WL.no rfl rfl rfl rfl <| WL.q (q_pick0 rfl rfl) rfl rfl rfl ?_
   cases hb_2
   exact WL.keep (by exact ⟨rfl, rfl, rfl, rfl, trivial⟩) K
 refine lq (q_move rfl) rfl ?_
 obtain ⟨b3, hb_3, h⟩ := bind_some h
 refine WL.cutN 6 [(30, .bool b3), (4, .bool false)] ?_ (fun K => ?_)
 rotate_left
 ·refine WL.split (d := 24) rfl (fun c3 => ?_) (fun c3 => ?_)
  ·replace hb_3 := ite_t hb_3 c3
   refine WL.yes rfl rfl <| lq (q_fieldAddr Fld_102_2 rfl) rfl <| WL.yes rfl rfl <| lq (q_load1 T1_100 rfl (fun w1 hw => hw.rgO (i := 1) rfl 2 1 [pv0_0] rfl)) rfl <| WL.yes rfl rfl <| lq (q_fieldAddr Fld_102_2 rfl) rfl <| WL.yes rfl rfl <| lq (q_load1 T1_100 rfl (fun w1 hw => hw.rgO (i := 0) rfl 2 1 [pv1_0] rfl)) rfl <| WL.yes rfl rfl ?_
   obtain ⟨x2, hx2, hb_3⟩ := bind_some hb_3
   refine lp (p_call Fun_174 rfl (fun w1 hw => m_s_l3SameVals_ok hw.fro N p0.Consts p1.Consts ph0_0 ph1_0 hx2)) rfl <| WL.q (q_pick1 rfl rfl) rfl rfl rfl ?_
   cases hb_3
   exact WL.keep (by exact ⟨rfl, rfl, trivial⟩) K
  ·replace hb_3 := ite_f hb_3 c3
   refine WL.no rfl rfl rfl rfl <| WL.no rfl rfl rfl rfl <| WL.no rfl rfl rfl rfl <| WL.no rfl rfl rfl rfl <| WL.no rfl rfl rfl rfl <| WL.q (q_pick0 rfl rfl) rfl rfl rfl ?_
   cases hb_3
   exact WL.keep (by exact ⟨rfl, rfl, trivial⟩) K
 refine lq (q_assign rfl) rfl <| WL.nil ?_
 refine WT.ret Tryz.func111 (resOk.one rfl) (fun w1 hw => ?_)
 cases h
 exact post_of_St hw
theorem m_s_l12Find_ok {Φ : Hp} {w : World} (hΦ : In Φ w) (N : Nat) (p0 : TNet) (p1 : TAlpha) {pv0_0 : Value} {pD0_0 : List Nat} {pv0_1 : Value} {pG0_1 : List Nat} {pb0 : Nat} {pv1_0 : Value} {pG1_0 : List Nat} {pv1_1 : Value} {pG1_1 : List Nat} (ph0_0 : OSl RTAlpha 102 4 Φ pD0_0 pv0_0 p0.Alphas) (ph0_1 : RSl RTChain 2 Φ pG0_1 pv0_1 p0.Chains) (pp0 : Φ pb0 = some (.cells #[pv0_0, pv0_1] 27 (0, 0))) (ph1_0 : RSl RTVal 3 Φ pG1_0 pv1_0 p1.Consts) (ph1_1 : RSl (RI .i64) 1 Φ pG1_1 pv1_1 p1.At) (pd0_0 : Dj pD0_0 [[pb0], ob pv0_0].flatten) (pd0_1 : Dj pG0_1 [[pb0], ob pv0_0].flatten) (pd1_0 : Dj pG1_0 [[pb0], ob pv0_0].flatten) (pd1_1 : Dj pG1_1 [[pb0], ob pv0_0].flatten) (hB : [[pb0], ob pv0_0].flatten.Nodup) (hlt : ∀ k ∈ [[pb0], ob pv0_0].flatten, k < w.heap.size) {r : Int × TNet} (h : m_s_l12Find N p0 p1 = some r) :
  Calls Tryz.prog 104 [.pointer (some ⟨pb0, 0, none⟩), .agg [.string p1.Kind, .int .i64 p1.N, pv1_0, pv1_1].toArray].toArray w (PostG Φ w [[pb0], ob pv0_0].flatten (fun Φ' Fs v => ∃ (so_0_0 : Value) (Do_0_0 : List Nat), v = .int .i64 r.1 ∧ Fs = [[pb0], ob so_0_0] ∧ OSl RTAlpha 102 4 Φ' Do_0_0 so_0_0 r.2.Alphas ∧ (∀ k ∈ Do_0_0, k ∈ (pD0_0 ++ (pG1_0 ++ pG1_1))) ∧ r.2.Chains = p0.Chains ∧ Φ' pb0 = some (.cells #[so_0_0, pv0_1] 27 (0, 0)))) := by
 refine enter Tryz.func104 rfl Tryz.ntmps104 rfl (St.start hΦ [[pb0], ob pv0_0] hB hlt) ?_
 have pa0_0 : Old ⟨w, [[pb0], ob pv0_0].flatten, Φ⟩ pD0_0 := Old.mk hΦ ph0_0.kn pd0_0
 have pa0_1 : Old ⟨w, [[pb0], ob pv0_0].flatten, Φ⟩ pG0_1 := Old.mk hΦ ph0_1.kn pd0_1
 have pa1_0 : Old ⟨w, [[pb0], ob pv0_0].flatten, Φ⟩ pG1_0 := Old.mk hΦ ph1_0.kn pd1_0
 have pa1_1 : Old ⟨w, [[pb0], ob pv0_0].flatten, Φ⟩ pG1_1 := Old.mk hΦ ph1_1.kn pd1_1
 revert pa0_0 pa0_1 pa1_0 pa1_1
 generalize hb0 : (⟨w, [[pb0], ob pv0_0].flatten, Φ⟩ : Base) = w0
 intro pa0_0 pa0_1 pa1_0 pa1_1
 unfold m_s_l12Find at h
 refine WT.seq <| WT.region ?_
 refine ln (n_box (C := #[.string p1.Kind, .int .i64 p1.N, pv1_0, pv1_1]) rfl rfl) rfl (fun b_1 => ?_)
 refine lq (q_assign rfl) rfl <| WL.nil <| WT.seq <| sr <| lq (q_assign rfl) rfl <| WL.nil <| WT.block <| WT.loop <| WT.mono (l' := [(0, .pointer (some ⟨pb0, 0, none⟩)), (3, .pointer (some ⟨b_1, 0, none⟩)), (5, .int .i64 0)]) (S' := St w0 Φ [(b_1, .cells #[.string p1.Kind, .int .i64 p1.N, pv1_0, pv1_1] 102 (0, 0))] [[pb0], ob pv0_0]) ⟨rfl, rfl, rfl, trivial⟩ (fun w1 hw => (hw.sel (js := [0, 0]) rfl).selO (js := [0]) rfl) ?_
 refine loop_ind (σ := Int) (fun s => [(0, .pointer (some ⟨pb0, 0, none⟩)), (3, .pointer (some ⟨b_1, 0, none⟩)), (5, .int .i64 s)]) (fun s => St w0 Φ [(b_1, .cells #[.string p1.Kind, .int .i64 p1.N, pv1_0, pv1_1] 102 (0, 0))] [[pb0], ob pv0_0]) (fun m s => m_s_l12Find_l1 N p0 p1 m s = some r) (fun s hm => none_ne (show (none : Option (Int × TNet)) = some r from hm)) (fun n1 ih1 s hm => ?_) N (0) h
 revert hm; revert s; intro s1 hm
 have h : m_s_l12Find_l1 N p0 p1 (n1 + 1) s1 = some r := hm
 show WT _ _ [(0, .pointer (some ⟨pb0, 0, none⟩)), (3, .pointer (some ⟨b_1, 0, none⟩)), (5, .int .i64 s1)] (St w0 Φ [(b_1, .cells #[.string p1.Kind, .int .i64 p1.N, pv1_0, pv1_1] 102 (0, 0))] [[pb0], ob pv0_0])
 unfold m_s_l12Find_l1 at h
 refine WT.seq <| sr <| lq (q_move rfl) rfl <| lq (q_move rfl) rfl <| lq (q_nilCheck rfl) rfl <| lq (q_fieldAddr Fld_27_0 rfl) rfl <| lq (q_load1 T1_24 rfl (fun w1 hw => ((rg_cells pp0).of_eq 0 1 rfl rfl : rg _ _ _ [pv0_0]).rangeAt hw.fro)) rfl <| lq (q_lenR Sl_24 rfl rfl ph0_0.rsl) rfl <| lq (q_lss rfl rfl) rfl <| WL.nil ?_
 refine WT.cond rfl (fun c1 => ?_) (fun c1 => ?_)
 ·replace h := ite_t h c1
  refine WT.skip <| WT.seq <| WT.block <| WT.seq <| WT.draw mixed (by kernel_rfl) (fun _ h => h.drew) <| qq (q_move rfl) rfl <| qq (q_nilCheck rfl) rfl <| qq (q_fieldAddr Fld_27_0 rfl) rfl <| qq (q_load1 T1_24 rfl (fun w1 hw => ((rg_cells pp0).of_eq 0 1 rfl rfl : rg _ _ _ [pv0_0]).rangeAt hw.fro)) rfl <| qq (q_move rfl) rfl ?_
  obtain ⟨x1, hx1, h⟩ := bind_some h
  obtain ⟨cs1, F1, -, g1, hb1, hs1, r1⟩ := ph0_0.elS (idx_some hx1).2.2
  obtain ⟨v1, G1, v2, G2, rfl, rfl, h1, h2⟩ := r1
  refine qq (q_indexAddr Sl_24 rfl rfl ph0_0.rsl hx1) rfl <| qq (q_loadN Tn_102 rfl (fun w1 hw => (g1.of_eq 0 4 rfl rfl : rg _ _ _ [.string x1.Kind, .int .i64 x1.N, v1, v2]).rangeAt hw.fro) rfl) rfl <| qq (q_loadN Tn_102 rfl (fun w1 hw => hw.rgO (i := 0) rfl 0 4 [.string p1.Kind, .int .i64 p1.N, pv1_0, pv1_1] rfl) rfl) rfl ?_
  obtain ⟨x2, hx2, h⟩ := bind_some h
  refine qp (p_call Fun_111 rfl (fun w1 hw => m_s_SameAlpha_ok hw.fro N x1 p1 h1 h2 ph1_0 ph1_1 hx2)) rfl <| WQ.nil ?_
  refine WT.cond rfl (fun c2 => ?_) (fun c2 => ?_)
  ·replace h := ite_t h c2
   refine sr <| lq (q_move rfl) rfl <| lq (q_assign rfl) rfl <| WL.nil ?_
   refine WT.ret Tryz.func104 (resOk.one rfl) (fun w1 hw => ?_)
   subst hb0
   cases h
   refine postG_of_St (js := [0, 0]) hw rfl ⟨pv0_0, pD0_0, rfl, rfl, ph0_0, (fun k hk => (List.mem_append.2 (.inl hk))), rfl, pp0⟩
  replace h := ite_f h c2
  refine WT.skip <| WT.inBlock <| WT.region <| lq (q_move rfl) rfl <| lq (q_add rfl rfl) rfl <| lq (q_assign rfl) rfl <| WL.nil ?_
  refine WT.inLoop (WT.mono (l' := [(0, .pointer (some ⟨pb0, 0, none⟩)), (3, .pointer (some ⟨b_1, 0, none⟩)), (5, .int .i64 (IntKind.i64.wrap (s1 + 1)))]) (S' := St w0 Φ [(b_1, .cells #[.string p1.Kind, .int .i64 p1.N, pv1_0, pv1_1] 102 (0, 0))] [[pb0], ob pv0_0]) ⟨rfl, rfl, rfl, trivial⟩ (fun w1 hw => (hw.sel (js := [0, 0]) rfl).selO (js := [0]) rfl) ?_)
  exact ih1 (IntKind.i64.wrap (s1 + 1)) h
 replace h := ite_f h c1
 refine WT.exit rfl <| WT.seq <| WT.mix (Kn Φ [pb0] [(b_1, .cells #[.string p1.Kind, .int .i64 p1.N, pv1_0, pv1_1] 102 (0, 0))]) (fun i => match i with | 10 => false | _ => true) mixed (fun _ h => h.drew) <| mq 0 rfl (by kernel_rfl) (fun w1 hw => Kn.of (fun _ _ _ h => h) (AllIn.mem ⟨gM 0 rfl, trivial⟩) hw) (q_move rfl) rfl <| mq 1 rfl (by kernel_rfl) (fun w1 hw => Kn.of (fun _ _ _ h => h) (AllIn.mem ⟨gM 0 rfl, trivial⟩) hw) (q_move rfl) rfl ?_
 refine mq 2 rfl (by kernel_rfl) (fun w1 hw => Kn.of (fun _ _ _ h => h) (AllIn.mem ⟨gM 0 rfl, trivial⟩) hw) (q_nilCheck rfl) rfl <| mq 3 rfl (by kernel_rfl) (fun w1 hw => Kn.of (fun _ _ _ h => h) (AllIn.mem ⟨gM 0 rfl, trivial⟩) hw) (q_fieldAddr Fld_27_0 rfl) rfl <| mq 4 rfl (by kernel_rfl) (fun w1 hw => Kn.of (fun _ _ _ h => h) (AllIn.mem ⟨gM 0 rfl, trivial⟩) hw) (q_load1 T1_24 rfl (fun w1 hw => hw.rg (by simp) ((rg_cells pp0).of_eq 0 1 rfl rfl : rg _ _ _ [pv0_0]))) rfl ?_
 refine mq 5 rfl (by kernel_rfl) (fun w1 hw => Kn.of (fun _ _ _ h => h) (AllIn.mem ⟨gM 0 rfl, trivial⟩) hw) (q_loadN Tn_102 rfl (fun w1 hw => hw.rgO (i := 0) rfl 0 4 [.string p1.Kind, .int .i64 p1.N, pv1_0, pv1_1] rfl) rfl) rfl ?_
 have rc1 : RC RTAlpha 4 Φ ([pG1_0 ++ (pG1_1)] : List (List Nat)) [.string p1.Kind, .int .i64 p1.N, pv1_0, pv1_1] ([p1] : List TAlpha) := RC.cons (c := [.string p1.Kind, .int .i64 p1.N, pv1_0, pv1_1]) (cells := []) ⟨pv1_0, pG1_0, pv1_1, pG1_1, rfl, rfl, ph1_0, ph1_1⟩ rfl (RC.nil _ _ _)
 refine WM.one 6 (by kernel_rfl) (me rfl (fun _ v Φx D w1 hq hw => Kn.of (fun k hk o ho => hq.1 k o (by simp) ((fun _ _ _ h => h) k hk o ho)) (AllIn.mem ⟨gM 0 rfl, trivial⟩) hw) (e_lit (vs := [(0, .agg [.string p1.Kind, .int .i64 p1.N, pv1_0, pv1_1].toArray)]) (C := #[.string p1.Kind, .int .i64 p1.N, pv1_0, pv1_1]) RTAlpha.lasts Sl_24 Zr_102 rfl rfl rfl rfl (fill_made MC_102_1 (fill_cons (cells := [.string ⟨#[]⟩, .int .i64 0, .slice none 0 0, .slice none 0 0]) (c := [.string p1.Kind, .int .i64 p1.N, pv1_0, pv1_1]) (C' := [.string p1.Kind, .int .i64 p1.N, pv1_0, pv1_1]) rfl rfl rfl rfl rfl (fill_nil))) rfl rc1 rfl (RC.kn RTAlpha.knows rc1)) rfl (fun v3 Φ_1 D1 q1 => ?_))
 obtain ⟨fr1, h3⟩ := q1
 replace h3 : OSl RTAlpha 102 4 Φ_1 (pG1_0 ++ (pG1_1)) v3 ([p1] : List TAlpha) := by simpa [List.append_assoc] using h3
 replace ph0_1 := ph0_1.frame RTChain.lasts fr1 (Dj.empty _)
 replace ph0_0 := ph0_0.frame RTAlpha.lasts fr1 (Dj.empty _) (Dj.empty _)
 replace pp0 := fr1 _ _ (by simp) pp0
 obtain ⟨x3, hx3, h⟩ := bind_some h
 refine WM.one 7 (by kernel_rfl) (me rfl (fun _ v Φx D w1 hq hw => Kn.of (fun k hk o ho => hq.1.2 k o ((hq.1.1.r (i := 1) rfl) k hk) ((fun k hk o ho => fr1 k o (by simp) ((fun _ _ _ h => h) k hk o ho)) k hk o ho)) (AllIn.mem ⟨gM 0 rfl, trivial⟩) hw) (e_appO RTAlpha.lasts RTAlpha.one Sl_24 Ei_102 rfl rfl rfl rfl rfl (js := [2]) (Rr := [ob v3, [pb0]]) rfl ph0_0 h3 (fun ap => (ap.o pa0_0)) (fun ap => (Dj.sub (Dj.app (ap.o pa1_0) (ap.o pa1_1)) (fun k hk => (by simpa [List.append_assoc] using hk : k ∈ (pG1_0 ++ pG1_1))))) hx3) rfl (fun v4 Φ_2 D2 q2 => ?_))
 obtain ⟨⟨ap1, fr2⟩, h4⟩ := q2
 replace ph0_1 := ph0_1.frame RTChain.lasts fr2 (ap1.o pa0_1)
 replace pp0 := fr2 _ _ ((ap1.r (i := 1) rfl) _ (by simp)) pp0
 refine mqT 8 [9, 10] rfl (by kernel_rfl) (fun w1 hw => Kn.of (fun k hk o ho => fr2 k o ((ap1.r (i := 1) rfl) k hk) ((fun k hk o ho => fr1 k o (by simp) ((fun _ _ _ h => h) k hk o ho)) k hk o ho)) (AllIn.mem ⟨gM 0 rfl, trivial⟩) hw) (q_nilCheck rfl) rfl <| mq 9 rfl (by kernel_rfl) (fun w1 hw => Kn.of (fun k hk o ho => fr2 k o ((ap1.r (i := 1) rfl) k hk) ((fun k hk o ho => fr1 k o (by simp) ((fun _ _ _ h => h) k hk o ho)) k hk o ho)) (AllIn.mem ⟨gM 0 rfl, trivial⟩) hw) (q_fieldAddr Fld_27_0 rfl) rfl ?_
 refine WM.thw (js := [2]) (R := [ob v4, ob v3]) rfl pp0 (fun Φ_3 ap2 fr3 => ?_)
 replace ph0_1 := ph0_1.frame RTChain.lasts fr3 (ap2.o pa0_1)
 replace h4 := h4.frame RTAlpha.lasts fr3 (ap2.r (i := 0) rfl) (Dj.app (ap2.o pa0_0) (Dj.sub (Dj.app (ap2.o pa1_0) (ap2.o pa1_1)) (fun k hk => (by simpa [List.append_assoc] using hk : k ∈ (pG1_0 ++ pG1_1)))))
 refine WM.one 10 (by kernel_rfl) (ms rfl (fun hc => by cases hc) (s_store (i := 0) (vs := [v4]) (C' := [v4, pv0_1]) (O' := [(pb0, .cells #[v4, pv0_1] 27 (0, 0)), (b_1, .cells #[.string p1.Kind, .int .i64 p1.N, pv1_0, pv1_1] 102 (0, 0))]) Sz_24 rfl rfl rfl (one_cells h4.one) rfl rfl ⟨h4.one, trivial⟩ rfl rfl) rfl ?_)
 refine WM.nil (by kernel_rfl) <| sr <| lq (q_move rfl) rfl <| lq (q_nilCheck rfl) rfl <| lq (q_fieldAddr Fld_27_0 rfl) rfl <| lq (q_load1 T1_24 rfl (fun w1 hw => hw.rgO (i := 0) rfl 0 1 [v4] rfl)) rfl <| lq (q_lenR Sl_24 rfl rfl h4.rsl) rfl <| lq (q_sub rfl rfl) rfl <| lq (q_assign rfl) rfl <| WL.nil ?_
 refine WT.frz (js := [0]) (R := [(b_1, .cells #[.string p1.Kind, .int .i64 p1.N, pv1_0, pv1_1] 102 (0, 0))]) rfl (fun Φ_4 fr4 k1 => ?_)
 replace ph0_1 := ph0_1.frame RTChain.lasts fr4 (Dj.empty _)
 replace h4 := h4.frame RTAlpha.lasts fr4 (Dj.empty _) (Dj.empty _)
 refine WT.ret Tryz.func104 (resOk.one rfl) (fun w1 hw => ?_)
 subst hb0
 cases h
 refine postG_of_St (js := [0, 0]) hw rfl ⟨v4, (pD0_0 ++ (pG1_0 ++ (pG1_1))), rfl, rfl, h4, (fun k hk => ((List.mem_append.1 hk).elim (fun h => (List.mem_append.2 (.inl h))) (fun h => ((List.mem_append.1 ((fun k hk => (by simpa [List.append_assoc] using hk : k ∈ (pG1_0 ++ pG1_1))) k h)).elim (fun h => (List.mem_append.2 (.inr (List.mem_append.2 (.inl h))))) (fun h => (List.mem_append.2 (.inr (List.mem_append.2 (.inr h))))))))), rfl, k1⟩
theorem m_s_AlphaOf_ok {Φ : Hp} {w : World} (hΦ : In Φ w) (N : Nat) (p0 : TPat) {pv0_0 : Value} {pG0_0 : List Nat} (ph0_0 : RSl RTArg 5 Φ pG0_0 pv0_0 p0.Args) {r : TAlpha} (h : m_s_AlphaOf N p0 = some r) :
  Calls Tryz.prog 105 [.agg [.string p0.Kind, pv0_0, .bool p0.Not].toArray].toArray w (PostG Φ w [] (fun Φ' Fs v => ∃ (sr_0_0 : Value) (sr_0_1 : Value), v = .agg [.string r.Kind, .int .i64 r.N, sr_0_0, sr_0_1].toArray ∧ Fs = [ob sr_0_0, ob sr_0_1] ∧ OSl RTVal 121 3 Φ' [] sr_0_0 r.Consts ∧ OSl (RI .i64) 3 1 Φ' [] sr_0_1 r.At)) := by
 refine enter Tryz.func105 rfl Tryz.ntmps105 rfl (St.start0 hΦ) ?_
 have pa0_0 : Old ⟨w, [], Φ⟩ pG0_0 := Old.mk hΦ ph0_0.kn (Dj.empty _)
 revert pa0_0
 generalize hb0 : (⟨w, [], Φ⟩ : Base) = w0
 intro pa0_0
 unfold m_s_AlphaOf at h
 refine WT.seq <| WT.region ?_
 refine ln (n_box (C := #[.string p0.Kind, pv0_0, .bool p0.Not]) rfl rfl) rfl (fun b_1 => ?_)
 refine ln (n_alloc (C := #[.string eS, .int .i64 0, .slice none 0 0, .slice none 0 0]) Zr_102 rfl) rfl (fun b_2 => ?_)
 refine WL.nil <| sr <| lq (q_fieldAddr Fld_114_0 rfl) rfl <| lq (q_load1 T1_9 rfl (fun w1 hw => hw.rgO (i := 1) rfl 0 1 [.string p0.Kind] rfl)) rfl <| lq (q_fieldAddr Fld_114_1 rfl) rfl <| lq (q_load1 T1_112 rfl (fun w1 hw => hw.rgO (i := 1) rfl 1 1 [pv0_0] rfl)) rfl <| lq (q_lenR Sl_112 rfl rfl ph0_0) rfl <| lq (q_build (vs := [(0, .string p0.Kind), (1, .int .i64 (p0.Args.length : Int))]) (C := #[.string p0.Kind, .int .i64 (p0.Args.length : Int), .slice none 0 0, .slice none 0 0]) Pl_102 Zr_102 rfl (fill_cons (cells := [.string ⟨#[]⟩, .int .i64 0, .slice none 0 0, .slice none 0 0]) (c := [.string p0.Kind]) (C' := [.string p0.Kind, .int .i64 0, .slice none 0 0, .slice none 0 0]) rfl rfl rfl rfl rfl (fill_cons (cells := [.string p0.Kind, .int .i64 0, .slice none 0 0, .slice none 0 0]) (c := [.int .i64 (p0.Args.length : Int)]) (C' := [.string p0.Kind, .int .i64 (p0.Args.length : Int), .slice none 0 0, .slice none 0 0]) rfl rfl rfl rfl rfl (fill_nil)))) rfl ?_
 refine ln (n_alloc (C := #[.string eS, .int .i64 0, .slice none 0 0, .slice none 0 0]) Zr_102 rfl) rfl (fun b_3 => ?_)
 refine ls (s_store (i := 0) (vs := [.string p0.Kind, .int .i64 (p0.Args.length : Int), .slice none 0 0, .slice none 0 0]) (C' := [.string p0.Kind, .int .i64 (p0.Args.length : Int), .slice none 0 0, .slice none 0 0]) (O' := [(b_3, .cells #[.string p0.Kind, .int .i64 (p0.Args.length : Int), .slice none 0 0, .slice none 0 0] 102 (0, 0)), (b_2, .cells #[.string eS, .int .i64 0, .slice none 0 0, .slice none 0 0] 102 (0, 0)), (b_1, .cells #[.string p0.Kind, pv0_0, .bool p0.Not] 114 (0, 0))]) Sz_102 rfl rfl rfl rfl rfl rfl ⟨rfl, rfl, rfl, rfl, trivial⟩ rfl rfl) rfl ?_
 refine WL.nil <| WT.seq <| sr <| lq (q_assign rfl) rfl <| WL.nil <| WT.block <| WT.loop <| WT.conv (S' := St w0 Φ [(b_3, .cells #[.string p0.Kind, .int .i64 (p0.Args.length : Int), .slice none 0 0, .slice none 0 0] 102 (0, 0)), (b_2, .cells #[.string eS, .int .i64 0, .slice none 0 0, .slice none 0 0] 102 (0, 0)), (b_1, .cells #[.string p0.Kind, pv0_0, .bool p0.Not] 114 (0, 0))] (ob (.slice none 0 0) :: [])) (fun w1 hw => hw.addNil) ?_
 have k1 := OSl.nil RTVal 121 3 Φ
 refine WT.conv (S' := St w0 Φ [(b_3, .cells #[.string p0.Kind, .int .i64 (p0.Args.length : Int), (.slice none 0 0), .slice none 0 0] 102 (0, 0)), (b_2, .cells #[.string eS, .int .i64 0, .slice none 0 0, .slice none 0 0] 102 (0, 0)), (b_1, .cells #[.string p0.Kind, pv0_0, .bool p0.Not] 114 (0, 0))] (ob (.slice none 0 0) :: [ob (.slice none 0 0)])) (fun w1 hw => hw.addNil) ?_
 have k2 := OSl.nil (RI .i64) 3 1 Φ
 refine WT.mono (l' := [(1, .pointer (some ⟨b_1, 0, none⟩)), (2, .pointer (some ⟨b_2, 0, none⟩)), (3, .pointer (some ⟨b_3, 0, none⟩)), (4, .int .i64 0)]) (S' := St w0 Φ [(b_3, .cells #[.string p0.Kind, .int .i64 (p0.Args.length : Int), (.slice none 0 0), (.slice none 0 0)] 102 (0, 0)), (b_2, .cells #[.string eS, .int .i64 0, .slice none 0 0, .slice none 0 0] 102 (0, 0)), (b_1, .cells #[.string p0.Kind, pv0_0, .bool p0.Not] 114 (0, 0))] [ob (.slice none 0 0), ob (.slice none 0 0)]) ⟨rfl, rfl, rfl, rfl, trivial⟩ (fun w1 hw => (hw.sel (js := [0, 0]) rfl).selO (js := [0, 0, 0]) rfl) ?_
 refine loop_ind (σ := Hp × (List TVal) × Value × (List Int) × Value × Int) (fun s => [(1, .pointer (some ⟨b_1, 0, none⟩)), (2, .pointer (some ⟨b_2, 0, none⟩)), (3, .pointer (some ⟨b_3, 0, none⟩)), (4, .int .i64 s.2.2.2.2.2)]) (fun s => St w0 s.1 [(b_3, .cells #[.string p0.Kind, .int .i64 (p0.Args.length : Int), s.2.2.1, s.2.2.2.2.1] 102 (0, 0)), (b_2, .cells #[.string eS, .int .i64 0, .slice none 0 0, .slice none 0 0] 102 (0, 0)), (b_1, .cells #[.string p0.Kind, pv0_0, .bool p0.Not] 114 (0, 0))] [ob s.2.2.2.2.1, ob s.2.2.1]) (fun m s => m_s_AlphaOf_l1 N p0 m s.2.1 s.2.2.2.1 s.2.2.2.2.2 = some r ∧ (OSl RTVal 121 3 s.1 [] s.2.2.1 s.2.1) ∧ (OSl (RI .i64) 3 1 s.1 [] s.2.2.2.2.1 s.2.2.2.1) ∧ (RSl RTArg 5 s.1 pG0_0 pv0_0 p0.Args)) (fun s hm => none_ne (show (none : Option (TAlpha)) = some r from hm.1)) (fun n1 ih1 s hm => ?_) N (Φ, ([] : List TVal), (.slice none 0 0), ([] : List Int), (.slice none 0 0), 0) ⟨h, k1, k2, ph0_0⟩
 obtain ⟨Φ_1, s1, u1, s2, u2, s3⟩ := s
 obtain ⟨h, k3, k4, ph0_0⟩ := hm
 replace h : m_s_AlphaOf_l1 N p0 (n1 + 1) s1 s2 s3 = some r := h
 replace k3 : OSl RTVal 121 3 Φ_1 [] u1 s1 := k3
 replace k4 : OSl (RI .i64) 3 1 Φ_1 [] u2 s2 := k4
 replace ph0_0 : RSl RTArg 5 Φ_1 pG0_0 pv0_0 p0.Args := ph0_0
 show WT _ _ [(1, .pointer (some ⟨b_1, 0, none⟩)), (2, .pointer (some ⟨b_2, 0, none⟩)), (3, .pointer (some ⟨b_3, 0, none⟩)), (4, .int .i64 s3)] (St w0 Φ_1 [(b_3, .cells #[.string p0.Kind, .int .i64 (p0.Args.length : Int), u1, u2] 102 (0, 0)), (b_2, .cells #[.string eS, .int .i64 0, .slice none 0 0, .slice none 0 0] 102 (0, 0)), (b_1, .cells #[.string p0.Kind, pv0_0, .bool p0.Not] 114 (0, 0))] [ob u2, ob u1])
 unfold m_s_AlphaOf_l1 at h
 refine WT.seq <| sr <| lq (q_move rfl) rfl <| lq (q_fieldAddr Fld_114_1 rfl) rfl <| lq (q_load1 T1_112 rfl (fun w1 hw => hw.rgO (i := 2) rfl 1 1 [pv0_0] rfl)) rfl <| lq (q_lenR Sl_112 rfl rfl ph0_0) rfl <| lq (q_lss rfl rfl) rfl <| WL.nil ?_
 refine WT.cond rfl (fun c1 => ?_) (fun c1 => ?_)
 ·replace h := ite_t h c1
  refine WT.skip <| WT.seq <| WT.block <| sr <| lq (q_fieldAddr Fld_114_1 rfl) rfl <| lq (q_load1 T1_112 rfl (fun w1 hw => hw.rgO (i := 2) rfl 1 1 [pv0_0] rfl)) rfl <| lq (q_move rfl) rfl ?_
  obtain ⟨x1, hx1, h⟩ := bind_some h
  obtain ⟨cs1, F1, -, g1, hb1, hs1, r1⟩ := ph0_0.el (idx_some hx1).2.2
  obtain ⟨rfl, -⟩ := r1
  refine lq (q_indexAddr Sl_112 rfl rfl ph0_0 hx1) rfl <| lq (q_fieldAddr Fld_126_0 rfl) rfl <| lq (q_load1 T1_3 rfl (fun w1 hw => (g1.of_eq 0 1 rfl rfl : rg _ _ _ [.int .i64 x1.K]).rangeAt hw.fro)) rfl <| lq (q_eql rfl rfl) rfl <| WL.nil ?_
  refine WT.cond rfl (fun c2 => ?_) (fun c2 => ?_)
  ·replace h := ite_t h c2
   refine WT.seq <| WT.mix (Kn Φ_1 pG0_0 [(b_3, .cells #[.string p0.Kind, .int .i64 (p0.Args.length : Int), u1, u2] 102 (0, 0)), (b_2, .cells #[.string eS, .int .i64 0, .slice none 0 0, .slice none 0 0] 102 (0, 0)), (b_1, .cells #[.string p0.Kind, pv0_0, .bool p0.Not] 114 (0, 0))]) (fun i => match i with | 11 => false | _ => true) mixed (fun _ h => h.drew) <| mq 0 rfl (by kernel_rfl) (fun w1 hw => Kn.of (fun _ _ _ h => h) (AllIn.mem ⟨gM 0 rfl, gM 1 rfl, gM 2 rfl, trivial⟩) hw) (q_fieldAddr Fld_102_2 rfl) rfl ?_
   refine mq 1 rfl (by kernel_rfl) (fun w1 hw => Kn.of (fun _ _ _ h => h) (AllIn.mem ⟨gM 0 rfl, gM 1 rfl, gM 2 rfl, trivial⟩) hw) (q_load1 T1_100 rfl (fun w1 hw => hw.rgO (i := 0) rfl 2 1 [u1] rfl)) rfl <| mq 2 rfl (by kernel_rfl) (fun w1 hw => Kn.of (fun _ _ _ h => h) (AllIn.mem ⟨gM 0 rfl, gM 1 rfl, gM 2 rfl, trivial⟩) hw) (q_fieldAddr Fld_114_1 rfl) rfl ?_
   refine mq 3 rfl (by kernel_rfl) (fun w1 hw => Kn.of (fun _ _ _ h => h) (AllIn.mem ⟨gM 0 rfl, gM 1 rfl, gM 2 rfl, trivial⟩) hw) (q_load1 T1_112 rfl (fun w1 hw => hw.rgO (i := 2) rfl 1 1 [pv0_0] rfl)) rfl <| mq 4 rfl (by kernel_rfl) (fun w1 hw => Kn.of (fun _ _ _ h => h) (AllIn.mem ⟨gM 0 rfl, gM 1 rfl, gM 2 rfl, trivial⟩) hw) (q_move rfl) rfl ?_
   obtain ⟨x2, hx2, h⟩ := bind_some h
   obtain ⟨cs2, F2, -, g2, hb2, hs2, r2⟩ := ph0_0.el (idx_some hx2).2.2
   obtain ⟨rfl, -⟩ := r2
   refine mq 5 rfl (by kernel_rfl) (fun w1 hw => Kn.of (fun _ _ _ h => h) (AllIn.mem ⟨gM 0 rfl, gM 1 rfl, gM 2 rfl, trivial⟩) hw) (q_indexAddr Sl_112 rfl rfl ph0_0 hx2) rfl <| mq 6 rfl (by kernel_rfl) (fun w1 hw => Kn.of (fun _ _ _ h => h) (AllIn.mem ⟨gM 0 rfl, gM 1 rfl, gM 2 rfl, trivial⟩) hw) (q_fieldAddr Fld_126_2 rfl) rfl ?_
   refine mq 7 rfl (by kernel_rfl) (fun w1 hw => Kn.of (fun _ _ _ h => h) (AllIn.mem ⟨gM 0 rfl, gM 1 rfl, gM 2 rfl, trivial⟩) hw) (q_loadN Tn_121 rfl (fun w1 hw => hw.rg hb2 (g2.of_eq 2 3 rfl rfl : rg _ _ _ [.int .i64 x2.V.K, .int .i64 x2.V.N, .string x2.V.S])) rfl) rfl ?_
   have rc1 : RC RTVal 3 Φ_1 ([[]] : List (List Nat)) [.int .i64 x2.V.K, .int .i64 x2.V.N, .string x2.V.S] ([x2.V] : List TVal) := RC.cons (c := [.int .i64 x2.V.K, .int .i64 x2.V.N, .string x2.V.S]) (cells := []) ⟨rfl, rfl⟩ rfl (RC.nil _ _ _)
   refine WM.one 8 (by kernel_rfl) (me rfl (fun _ v Φx D w1 hq hw => Kn.of (fun k hk o ho => hq.1 k o (by simp) ((fun _ _ _ h => h) k hk o ho)) (AllIn.mem ⟨gM 0 rfl, gM 1 rfl, gM 2 rfl, trivial⟩) hw) (e_lit (vs := [(0, .agg [.int .i64 x2.V.K, .int .i64 x2.V.N, .string x2.V.S].toArray)]) (C := #[.int .i64 x2.V.K, .int .i64 x2.V.N, .string x2.V.S]) RTVal.lasts Sl_100 Zr_121 rfl rfl rfl rfl (fill_made MC_121_1 (fill_cons (cells := [.int .i64 0, .int .i64 0, .string ⟨#[]⟩]) (c := [.int .i64 x2.V.K, .int .i64 x2.V.N, .string x2.V.S]) (C' := [.int .i64 x2.V.K, .int .i64 x2.V.N, .string x2.V.S]) rfl rfl rfl rfl rfl (fill_nil))) rfl rc1 rfl (by simpa using Kw.nil)) rfl (fun v1 Φ_2 D1 q1 => ?_))
   obtain ⟨fr1, h1⟩ := q1
   replace h1 : OSl RTVal 121 3 Φ_2 [] v1 ([x2.V] : List TVal) := by simpa using h1
   replace ph0_0 := ph0_0.frame RTArg.lasts fr1 (Dj.empty _)
   replace k3 := k3.frame RTVal.lasts fr1 (Dj.empty _) (Dj.empty _)
   replace k4 := k4.frame RI.lasts fr1 (Dj.empty _) (Dj.empty _)
   obtain ⟨x3, hx3, h⟩ := bind_some h
   refine WM.one 9 (by kernel_rfl) (me rfl (fun _ v Φx D w1 hq hw => Kn.of (fun k hk o ho => hq.1.2 k o ((hq.1.1.o pa0_0) k hk) ((fun k hk o ho => fr1 k o (by simp) ((fun _ _ _ h => h) k hk o ho)) k hk o ho)) (AllIn.mem ⟨gM 0 rfl, gM 1 rfl, gM 2 rfl, trivial⟩) hw) (e_appF RTVal.lasts RTVal.one RTVal.flat Sl_100 Ei_121 rfl rfl rfl rfl rfl (js := [2]) (Rr := [ob v1, ob u2]) rfl k3 h1.rsl hx3) rfl (fun v2 Φ_3 D2 q2 => ?_))
   obtain ⟨⟨ap1, fr2⟩, h2⟩ := q2
   replace ph0_0 := ph0_0.frame RTArg.lasts fr2 (ap1.o pa0_0)
   replace k4 := k4.frame RI.lasts fr2 (ap1.r (i := 1) rfl) (Dj.nil _)
   refine mq 10 rfl (by kernel_rfl) (fun w1 hw => Kn.of (fun k hk o ho => fr2 k o ((ap1.o pa0_0) k hk) ((fun k hk o ho => fr1 k o (by simp) ((fun _ _ _ h => h) k hk o ho)) k hk o ho)) (AllIn.mem ⟨gM 0 rfl, gM 1 rfl, gM 2 rfl, trivial⟩) hw) (q_fieldAddr Fld_102_2 rfl) rfl ?_
   refine WM.one 11 (by kernel_rfl) (ms rfl (fun hc => by cases hc) (s_store (i := 0) (vs := [v2]) (C' := [.string p0.Kind, .int .i64 (p0.Args.length : Int), v2, u2]) (O' := [(b_3, .cells #[.string p0.Kind, .int .i64 (p0.Args.length : Int), v2, u2] 102 (0, 0)), (b_2, .cells #[.string eS, .int .i64 0, .slice none 0 0, .slice none 0 0] 102 (0, 0)), (b_1, .cells #[.string p0.Kind, pv0_0, .bool p0.Not] 114 (0, 0))]) Sz_100 rfl rfl rfl (one_cells h2.one) rfl rfl ⟨h2.one, trivial⟩ rfl rfl) rfl ?_)
   refine WM.nil (by kernel_rfl) <| WT.region <| lq (q_fieldAddr Fld_102_3 rfl) rfl <| lq (q_load1 T1_41 rfl (fun w1 hw => hw.rgO (i := 0) rfl 3 1 [u2] rfl)) rfl <| lq (q_move rfl) rfl ?_
   have rc2 : RC (RI .i64) 1 Φ_3 ([[]] : List (List Nat)) [.int .i64 s3] ([s3] : List Int) := RC.cons (c := [.int .i64 s3]) (cells := []) ⟨rfl, rfl⟩ rfl (RC.nil _ _ _)
   refine le' (e_lit (vs := [(0, .int .i64 s3)]) (C := #[.int .i64 s3]) RI.lasts Sl_41 Zr_3 rfl rfl rfl rfl (fill_made MC_3_1 (fill_cons (cells := [.int .i64 0]) (c := [.int .i64 s3]) (C' := [.int .i64 s3]) rfl rfl rfl rfl rfl (fill_nil))) rfl rc2 rfl (by simpa using Kw.nil)) rfl (fun v3 Φ_4 D3 q3 => ?_)
   obtain ⟨fr3, h3⟩ := q3
   replace h3 : OSl (RI .i64) 3 1 Φ_4 [] v3 ([s3] : List Int) := by simpa using h3
   replace ph0_0 := ph0_0.frame RTArg.lasts fr3 (Dj.empty _)
   replace h2 := h2.frame RTVal.lasts fr3 (Dj.empty _) (Dj.empty _)
   replace k4 := k4.frame RI.lasts fr3 (Dj.empty _) (Dj.empty _)
   obtain ⟨x4, hx4, h⟩ := bind_some h
   refine le' (e_appF RI.lasts RI.one RI.flat Sl_41 Ei_3 rfl rfl rfl rfl rfl (js := [3]) (Rr := [ob v3, ob v2, ob v1]) rfl k4 h3.rsl hx4) rfl (fun v4 Φ_5 D4 q4 => ?_)
   obtain ⟨⟨ap2, fr4⟩, h4⟩ := q4
   replace ph0_0 := ph0_0.frame RTArg.lasts fr4 (ap2.o pa0_0)
   replace h2 := h2.frame RTVal.lasts fr4 (ap2.r (i := 1) rfl) (Dj.nil _)
   refine lq (q_fieldAddr Fld_102_3 rfl) rfl <| ls (s_store (i := 0) (vs := [v4]) (C' := [.string p0.Kind, .int .i64 (p0.Args.length : Int), v2, v4]) (O' := [(b_3, .cells #[.string p0.Kind, .int .i64 (p0.Args.length : Int), v2, v4] 102 (0, 0)), (b_2, .cells #[.string eS, .int .i64 0, .slice none 0 0, .slice none 0 0] 102 (0, 0)), (b_1, .cells #[.string p0.Kind, pv0_0, .bool p0.Not] 114 (0, 0))]) Sz_41 rfl rfl rfl (one_cells h4.one) rfl rfl ⟨h4.one, trivial⟩ rfl rfl) rfl ?_
   refine WL.nil <| WT.inBlock <| WT.region <| lq (q_move rfl) rfl <| lq (q_add rfl rfl) rfl <| lq (q_assign rfl) rfl <| WL.nil ?_
   refine WT.inLoop (WT.mono (l' := [(1, .pointer (some ⟨b_1, 0, none⟩)), (2, .pointer (some ⟨b_2, 0, none⟩)), (3, .pointer (some ⟨b_3, 0, none⟩)), (4, .int .i64 (IntKind.i64.wrap (s3 + 1)))]) (S' := St w0 Φ_5 [(b_3, .cells #[.string p0.Kind, .int .i64 (p0.Args.length : Int), v2, v4] 102 (0, 0)), (b_2, .cells #[.string eS, .int .i64 0, .slice none 0 0, .slice none 0 0] 102 (0, 0)), (b_1, .cells #[.string p0.Kind, pv0_0, .bool p0.Not] 114 (0, 0))] [ob v4, ob v2]) ⟨rfl, rfl, rfl, rfl, trivial⟩ (fun w1 hw => (hw.sel (js := [0, 1]) rfl).selO (js := [0, 0, 0]) rfl) ?_)
   exact ih1 (Φ_5, x3, v2, x4, v4, IntKind.i64.wrap (s3 + 1)) ⟨h, h2, h4, ph0_0⟩
  replace h := ite_f h c2
  refine WT.skip <| WT.inBlock <| WT.region <| lq (q_move rfl) rfl <| lq (q_add rfl rfl) rfl <| lq (q_assign rfl) rfl <| WL.nil ?_
  refine WT.inLoop (WT.mono (l' := [(1, .pointer (some ⟨b_1, 0, none⟩)), (2, .pointer (some ⟨b_2, 0, none⟩)), (3, .pointer (some ⟨b_3, 0, none⟩)), (4, .int .i64 (IntKind.i64.wrap (s3 + 1)))]) (S' := St w0 Φ_1 [(b_3, .cells #[.string p0.Kind, .int .i64 (p0.Args.length : Int), u1, u2] 102 (0, 0)), (b_2, .cells #[.string eS, .int .i64 0, .slice none 0 0, .slice none 0 0] 102 (0, 0)), (b_1, .cells #[.string p0.Kind, pv0_0, .bool p0.Not] 114 (0, 0))] [ob u2, ob u1]) ⟨rfl, rfl, rfl, rfl, trivial⟩ (fun w1 hw => (hw.sel (js := [0, 0]) rfl).selO (js := [0, 0, 0]) rfl) ?_)
  exact ih1 (Φ_1, s1, u1, s2, u2, IntKind.i64.wrap (s3 + 1)) ⟨h, k3, k4, ph0_0⟩
 replace h := ite_f h c1
 refine WT.exit rfl <| sr <| lq (q_loadN Tn_102 rfl (fun w1 hw => hw.rgO (i := 0) rfl 0 4 [.string p0.Kind, .int .i64 (p0.Args.length : Int), u1, u2] rfl) rfl) rfl <| ls (s_store (i := 1) (vs := [.string p0.Kind, .int .i64 (p0.Args.length : Int), u1, u2]) (C' := [.string p0.Kind, .int .i64 (p0.Args.length : Int), u1, u2]) (O' := [(b_3, .cells #[.string p0.Kind, .int .i64 (p0.Args.length : Int), u1, u2] 102 (0, 0)), (b_2, .cells #[.string p0.Kind, .int .i64 (p0.Args.length : Int), u1, u2] 102 (0, 0)), (b_1, .cells #[.string p0.Kind, pv0_0, .bool p0.Not] 114 (0, 0))]) Sz_102 rfl rfl rfl rfl rfl rfl ⟨rfl, rfl, k3.one, k4.one, trivial⟩ rfl rfl) rfl ?_
 refine WL.nil ?_
 refine WT.ret Tryz.func105 (resOk.one (rv_cell Tn_102 rfl (fun w1 hw => hw.rgO (i := 1) rfl 0 4 [.string p0.Kind, .int .i64 (p0.Args.length : Int), u1, u2] rfl) rfl)) (fun w1 hw => ?_)
 subst hb0
 cases h
 refine postG_of_St (js := [1, 0]) hw rfl ⟨u1, u2, rfl, rfl, k3, k4⟩
theorem m_s_l12Net_ok {Φ : Hp} {w : World} (hΦ : In Φ w) (N : Nat) (p0 : TDef) {pv0_0 : Value} {pG0_0 : List Nat} (ph0_0 : RSl RTRule 5 Φ pG0_0 pv0_0 p0.Rules) {r : TNet} (h : m_s_l12Net N p0 = some r) :
  Calls Tryz.prog 46 [.agg [.string p0.Name, pv0_0].toArray].toArray w (PostG Φ w [] (fun Φ' Fs v => ∃ (sr_0_0 : Value) (Dr_0_0 : List Nat) (sr_0_1 : Value) (Dr_0_1 : List Nat) (X : List Nat), v = .agg [sr_0_0, sr_0_1].toArray ∧ Fs = [ob sr_0_0, ob sr_0_1, Dr_0_1, X] ∧ OSl RTAlpha 102 4 Φ' Dr_0_0 sr_0_0 r.Alphas ∧ (∀ k ∈ Dr_0_0, k ∈ X) ∧ OSl OTChain 43 2 Φ' Dr_0_1 sr_0_1 r.Chains)) := by
 refine enter Tryz.func46 rfl Tryz.ntmps46 rfl (St.start0 hΦ) ?_
 have pa0_0 : Old ⟨w, [], Φ⟩ pG0_0 := Old.mk hΦ ph0_0.kn (Dj.empty _)
 revert pa0_0
 generalize hb0 : (⟨w, [], Φ⟩ : Base) = w0
 intro pa0_0
 unfold m_s_l12Net at h
 refine WT.seq <| WT.region ?_
 refine ln (n_box (C := #[.string p0.Name, pv0_0]) rfl rfl) rfl (fun b_1 => ?_)
 refine ln (n_alloc (C := #[.slice none 0 0, .slice none 0 0]) Zr_27 rfl) rfl (fun b_2 => ?_)
 refine WL.nil <| sr <| lq (q_build (vs := []) (C := #[.slice none 0 0, .slice none 0 0]) Pl_27 Zr_27 rfl (fill_nil)) rfl ?_
 refine ln (n_alloc (C := #[.slice none 0 0, .slice none 0 0]) Zr_27 rfl) rfl (fun b_3 => ?_)
 refine ls (s_store (i := 0) (vs := [.slice none 0 0, .slice none 0 0]) (C' := [.slice none 0 0, .slice none 0 0]) (O' := [(b_3, .cells #[.slice none 0 0, .slice none 0 0] 27 (0, 0)), (b_2, .cells #[.slice none 0 0, .slice none 0 0] 27 (0, 0)), (b_1, .cells #[.string p0.Name, pv0_0] 30 (0, 0))]) Sz_27 rfl rfl rfl rfl rfl rfl ⟨rfl, rfl, trivial⟩ rfl rfl) rfl <| WL.nil <| WT.seq <| sr <| lq (q_assign rfl) rfl <| WL.nil ?_
 refine WT.block <| WT.loop <| WT.conv (S' := St w0 Φ [(b_3, .cells #[.slice none 0 0, .slice none 0 0] 27 (0, 0)), (b_2, .cells #[.slice none 0 0, .slice none 0 0] 27 (0, 0)), (b_1, .cells #[.string p0.Name, pv0_0] 30 (0, 0))] ([] :: [])) (fun w1 hw => hw.addNil) <| WT.conv (S' := St w0 Φ [(b_3, .cells #[.slice none 0 0, .slice none 0 0] 27 (0, 0)), (b_2, .cells #[.slice none 0 0, .slice none 0 0] 27 (0, 0)), (b_1, .cells #[.string p0.Name, pv0_0] 30 (0, 0))] (ob (.slice none 0 0) :: [[]])) (fun w1 hw => hw.addNil) ?_
 have k1 := OSl.nil RTAlpha 102 4 Φ
 refine WT.conv (S' := St w0 Φ [(b_3, .cells #[(.slice none 0 0), .slice none 0 0] 27 (0, 0)), (b_2, .cells #[.slice none 0 0, .slice none 0 0] 27 (0, 0)), (b_1, .cells #[.string p0.Name, pv0_0] 30 (0, 0))] (ob (.slice none 0 0) :: [ob (.slice none 0 0), []])) (fun w1 hw => hw.addNil) <| WT.conv (S' := St w0 Φ [(b_3, .cells #[(.slice none 0 0), .slice none 0 0] 27 (0, 0)), (b_2, .cells #[.slice none 0 0, .slice none 0 0] 27 (0, 0)), (b_1, .cells #[.string p0.Name, pv0_0] 30 (0, 0))] ([] :: [ob (.slice none 0 0), ob (.slice none 0 0), []])) (fun w1 hw => hw.addNil) ?_
 have k2 := OSl.nil OTChain 43 2 Φ
 refine WT.mono (l' := [(1, .pointer (some ⟨b_1, 0, none⟩)), (2, .pointer (some ⟨b_2, 0, none⟩)), (3, .pointer (some ⟨b_3, 0, none⟩)), (4, .int .i64 0)]) (S' := St w0 Φ [(b_3, .cells #[(.slice none 0 0), (.slice none 0 0)] 27 (0, 0)), (b_2, .cells #[.slice none 0 0, .slice none 0 0] 27 (0, 0)), (b_1, .cells #[.string p0.Name, pv0_0] 30 (0, 0))] [[], ob (.slice none 0 0), ob (.slice none 0 0), []]) ⟨rfl, rfl, rfl, rfl, trivial⟩ (fun w1 hw => (hw.sel (js := [0, 0, 0, 0]) rfl).selO (js := [0, 0, 0]) rfl) ?_
 refine loop_ind (σ := Hp × List Nat × (List TAlpha) × Value × List Nat × (List TChain) × Value × List Nat × Int) (fun s => [(1, .pointer (some ⟨b_1, 0, none⟩)), (2, .pointer (some ⟨b_2, 0, none⟩)), (3, .pointer (some ⟨b_3, 0, none⟩)), (4, .int .i64 s.2.2.2.2.2.2.2.2)]) (fun s => St w0 s.1 [(b_3, .cells #[s.2.2.2.1, s.2.2.2.2.2.2.1] 27 (0, 0)), (b_2, .cells #[.slice none 0 0, .slice none 0 0] 27 (0, 0)), (b_1, .cells #[.string p0.Name, pv0_0] 30 (0, 0))] [s.2.2.2.2.2.2.2.1, ob s.2.2.2.2.2.2.1, ob s.2.2.2.1, s.2.1]) (fun m s => m_s_l12Net_l1 N p0 m s.2.2.1 s.2.2.2.2.2.1 s.2.2.2.2.2.2.2.2 = some r ∧ (OSl RTAlpha 102 4 s.1 s.2.2.2.2.1 s.2.2.2.1 s.2.2.1) ∧ (∀ k ∈ s.2.2.2.2.1, k ∈ s.2.1) ∧ (OSl OTChain 43 2 s.1 s.2.2.2.2.2.2.2.1 s.2.2.2.2.2.2.1 s.2.2.2.2.2.1) ∧ (RSl RTRule 5 s.1 pG0_0 pv0_0 p0.Rules)) (fun s hm => none_ne (show (none : Option (TNet)) = some r from hm.1)) (fun n1 ih1 s hm => ?_) N (Φ, [], ([] : List TAlpha), (.slice none 0 0), [], ([] : List TChain), (.slice none 0 0), [], 0) ⟨h, k1, (by simp), k2, ph0_0⟩
 obtain ⟨Φ_1, X1, s1, u1, D1, s2, u2, D2, s3⟩ := s
 obtain ⟨h, k3, i1, k4, ph0_0⟩ := hm
 replace h : m_s_l12Net_l1 N p0 (n1 + 1) s1 s2 s3 = some r := h
 replace k3 : OSl RTAlpha 102 4 Φ_1 D1 u1 s1 := k3
 replace i1 : ∀ k ∈ D1, k ∈ X1 := i1
 replace k4 : OSl OTChain 43 2 Φ_1 D2 u2 s2 := k4
 replace ph0_0 : RSl RTRule 5 Φ_1 pG0_0 pv0_0 p0.Rules := ph0_0
 show WT _ _ [(1, .pointer (some ⟨b_1, 0, none⟩)), (2, .pointer (some ⟨b_2, 0, none⟩)), (3, .pointer (some ⟨b_3, 0, none⟩)), (4, .int .i64 s3)] (St w0 Φ_1 [(b_3, .cells #[u1, u2] 27 (0, 0)), (b_2, .cells #[.slice none 0 0, .slice none 0 0] 27 (0, 0)), (b_1, .cells #[.string p0.Name, pv0_0] 30 (0, 0))] [D2, ob u2, ob u1, X1])
 unfold m_s_l12Net_l1 at h
 refine WT.seq <| sr <| lq (q_move rfl) rfl <| lq (q_fieldAddr Fld_30_1 rfl) rfl <| lq (q_load1 T1_28 rfl (fun w1 hw => hw.rgO (i := 2) rfl 1 1 [pv0_0] rfl)) rfl <| lq (q_lenR Sl_28 rfl rfl ph0_0) rfl <| lq (q_lss rfl rfl) rfl <| WL.nil ?_
 refine WT.cond rfl (fun c1 => ?_) (fun c1 => ?_)
 ·replace h := ite_t h c1
  refine WT.skip <| WT.seq <| WT.block <| sr <| lq (q_build (vs := []) (C := #[.slice none 0 0, .slice none 0 0]) Pl_43 Zr_43 rfl (fill_nil)) rfl ?_
  refine ln (n_alloc (C := #[.slice none 0 0, .slice none 0 0]) Zr_43 rfl) rfl (fun b_4 => ?_)
  refine ls (s_store (i := 0) (vs := [.slice none 0 0, .slice none 0 0]) (C' := [.slice none 0 0, .slice none 0 0]) (O' := [(b_4, .cells #[.slice none 0 0, .slice none 0 0] 43 (0, 0)), (b_3, .cells #[u1, u2] 27 (0, 0)), (b_2, .cells #[.slice none 0 0, .slice none 0 0] 27 (0, 0)), (b_1, .cells #[.string p0.Name, pv0_0] 30 (0, 0))]) Sz_43 rfl rfl rfl rfl rfl rfl ⟨rfl, rfl, trivial⟩ rfl rfl) rfl <| WL.nil <| WT.seq <| WT.seq ?_
  refine WT.region <| lq (q_assign rfl) rfl <| WL.nil <| WT.block <| WT.loop <| WT.conv (S' := St w0 Φ_1 [(b_4, .cells #[.slice none 0 0, .slice none 0 0] 43 (0, 0)), (b_3, .cells #[u1, u2] 27 (0, 0)), (b_2, .cells #[.slice none 0 0, .slice none 0 0] 27 (0, 0)), (b_1, .cells #[.string p0.Name, pv0_0] 30 (0, 0))] ([] :: [D2, ob u2, ob u1, X1])) (fun w1 hw => hw.addNil) <| WT.conv (S' := St w0 Φ_1 [(b_4, .cells #[.slice none 0 0, .slice none 0 0] 43 (0, 0)), (b_3, .cells #[u1, u2] 27 (0, 0)), (b_2, .cells #[.slice none 0 0, .slice none 0 0] 27 (0, 0)), (b_1, .cells #[.string p0.Name, pv0_0] 30 (0, 0))] (ob (.slice none 0 0) :: [[], D2, ob u2, ob u1, X1])) (fun w1 hw => hw.addNil) ?_
  have k5 := OSl.nil (RI .i64) 3 1 Φ_1
  refine WT.conv (S' := St w0 Φ_1 [(b_4, .cells #[.slice none 0 0, (.slice none 0 0)] 43 (0, 0)), (b_3, .cells #[u1, u2] 27 (0, 0)), (b_2, .cells #[.slice none 0 0, .slice none 0 0] 27 (0, 0)), (b_1, .cells #[.string p0.Name, pv0_0] 30 (0, 0))] (ob (.slice none 0 0) :: [ob (.slice none 0 0), [], D2, ob u2, ob u1, X1])) (fun w1 hw => hw.addNil) ?_
  have k6 := OSl.nil (RI .i64) 3 1 Φ_1
  refine WT.mono (l' := [(1, .pointer (some ⟨b_1, 0, none⟩)), (2, .pointer (some ⟨b_2, 0, none⟩)), (3, .pointer (some ⟨b_3, 0, none⟩)), (4, .int .i64 s3), (5, .pointer (some ⟨b_4, 0, none⟩)), (6, .int .i64 0)]) (S' := St w0 Φ_1 [(b_4, .cells #[(.slice none 0 0), (.slice none 0 0)] 43 (0, 0)), (b_3, .cells #[u1, u2] 27 (0, 0)), (b_2, .cells #[.slice none 0 0, .slice none 0 0] 27 (0, 0)), (b_1, .cells #[.string p0.Name, pv0_0] 30 (0, 0))] [ob (.slice none 0 0), ob (.slice none 0 0), [], D2, ob u2, ob u1, X1]) ⟨rfl, rfl, rfl, rfl, rfl, rfl, trivial⟩ (fun w1 hw => (hw.sel (js := [0, 0, 0, 0, 0, 0, 0]) rfl).selO (js := [0, 0, 0, 0]) rfl) ?_
  refine loop_ind (σ := Hp × List Nat × (List TAlpha) × Value × List Nat × (List Int) × Value × (List Int) × Value × Int) (fun s => [(1, .pointer (some ⟨b_1, 0, none⟩)), (2, .pointer (some ⟨b_2, 0, none⟩)), (3, .pointer (some ⟨b_3, 0, none⟩)), (4, .int .i64 s3), (5, .pointer (some ⟨b_4, 0, none⟩)), (6, .int .i64 s.2.2.2.2.2.2.2.2.2)]) (fun s => St w0 s.1 [(b_4, .cells #[s.2.2.2.2.2.2.2.2.1, s.2.2.2.2.2.2.1] 43 (0, 0)), (b_3, .cells #[s.2.2.2.1, u2] 27 (0, 0)), (b_2, .cells #[.slice none 0 0, .slice none 0 0] 27 (0, 0)), (b_1, .cells #[.string p0.Name, pv0_0] 30 (0, 0))] [ob s.2.2.2.2.2.2.2.2.1, ob s.2.2.2.2.2.2.1, s.2.1, D2, ob u2, ob s.2.2.2.1, X1]) (fun m s => m_s_l12Net_l2 N p0 s2 s3 (m_s_l12Net_l1 N p0 n1) m s.2.2.1 s.2.2.2.2.2.1 s.2.2.2.2.2.2.2.1 s.2.2.2.2.2.2.2.2.2 = some r ∧ (OSl RTAlpha 102 4 s.1 s.2.2.2.2.1 s.2.2.2.1 s.2.2.1) ∧ (∀ k ∈ s.2.2.2.2.1, k ∈ (X1 ++ s.2.1)) ∧ (OSl OTChain 43 2 s.1 D2 u2 s2) ∧ (OSl (RI .i64) 3 1 s.1 [] s.2.2.2.2.2.2.1 s.2.2.2.2.2.1) ∧ (OSl (RI .i64) 3 1 s.1 [] s.2.2.2.2.2.2.2.2.1 s.2.2.2.2.2.2.2.1) ∧ (RSl RTRule 5 s.1 pG0_0 pv0_0 p0.Rules)) (fun s hm => none_ne (show (none : Option (TNet)) = some r from hm.1)) (fun n2 ih2 s hm => ?_) N (Φ_1, [], s1, u1, D1, ([] : List Int), (.slice none 0 0), ([] : List Int), (.slice none 0 0), 0) ⟨h, k3, (fun k hk => (List.mem_append.2 (.inl (i1 k hk)))), k4, k5, k6, ph0_0⟩
  obtain ⟨Φ_2, X2, s4, u3, D3, s5, u4, s6, u5, s7⟩ := s
  obtain ⟨h, k7, i2, k4, k8, k9, ph0_0⟩ := hm
  replace h : m_s_l12Net_l2 N p0 s2 s3 (m_s_l12Net_l1 N p0 n1) (n2 + 1) s4 s5 s6 s7 = some r := h
  replace k7 : OSl RTAlpha 102 4 Φ_2 D3 u3 s4 := k7
  replace i2 : ∀ k ∈ D3, k ∈ (X1 ++ X2) := i2
  replace k4 : OSl OTChain 43 2 Φ_2 D2 u2 s2 := k4
  replace k8 : OSl (RI .i64) 3 1 Φ_2 [] u4 s5 := k8
  replace k9 : OSl (RI .i64) 3 1 Φ_2 [] u5 s6 := k9
  replace ph0_0 : RSl RTRule 5 Φ_2 pG0_0 pv0_0 p0.Rules := ph0_0
  show WT _ _ [(1, .pointer (some ⟨b_1, 0, none⟩)), (2, .pointer (some ⟨b_2, 0, none⟩)), (3, .pointer (some ⟨b_3, 0, none⟩)), (4, .int .i64 s3), (5, .pointer (some ⟨b_4, 0, none⟩)), (6, .int .i64 s7)] (St w0 Φ_2 [(b_4, .cells #[u5, u4] 43 (0, 0)), (b_3, .cells #[u3, u2] 27 (0, 0)), (b_2, .cells #[.slice none 0 0, .slice none 0 0] 27 (0, 0)), (b_1, .cells #[.string p0.Name, pv0_0] 30 (0, 0))] [ob u5, ob u4, X2, D2, ob u2, ob u3, X1])
  unfold m_s_l12Net_l2 at h
  refine WT.seq <| sr <| lq (q_move rfl) rfl <| lq (q_fieldAddr Fld_30_1 rfl) rfl <| lq (q_load1 T1_28 rfl (fun w1 hw => hw.rgO (i := 3) rfl 1 1 [pv0_0] rfl)) rfl <| lq (q_move rfl) rfl ?_
  obtain ⟨x1, hx1, h⟩ := bind_some h
  obtain ⟨cs1, F1, -, g1, hb1, hs1, r1⟩ := ph0_0.el (idx_some hx1).2.2
  obtain ⟨v1, G1, v2, G2, v3, G3, rfl, rfl, h1, h2, h3⟩ := r1
  refine lq (q_indexAddr Sl_28 rfl rfl ph0_0 hx1) rfl <| lq (q_fieldAddr Fld_49_2 rfl) rfl <| lq (q_load1 T1_45 rfl (fun w1 hw => (g1.of_eq 2 1 rfl rfl : rg _ _ _ [v1]).rangeAt hw.fro)) rfl <| lq (q_lenR Sl_45 rfl rfl h1) rfl <| lq (q_lss rfl rfl) rfl <| WL.nil ?_
  refine WT.cond rfl (fun c2 => ?_) (fun c2 => ?_)
  ·replace h := ite_t h c2
   refine WT.skip <| WT.seq <| WT.block <| sr <| lq (q_fieldAddr Fld_30_1 rfl) rfl <| lq (q_load1 T1_28 rfl (fun w1 hw => hw.rgO (i := 3) rfl 1 1 [pv0_0] rfl)) rfl <| lq (q_move rfl) rfl ?_
   obtain ⟨x2, hx2, h⟩ := bind_some h
   obtain ⟨cs2, F2, -, g2, hb2, hs2, r2⟩ := ph0_0.el (idx_some hx2).2.2
   obtain ⟨v4, G4, v5, G5, v6, G6, rfl, rfl, h4, h5, h6⟩ := r2
   refine lq (q_indexAddr Sl_28 rfl rfl ph0_0 hx2) rfl <| lq (q_fieldAddr Fld_49_2 rfl) rfl <| lq (q_load1 T1_45 rfl (fun w1 hw => (g2.of_eq 2 1 rfl rfl : rg _ _ _ [v4]).rangeAt hw.fro)) rfl <| lq (q_move rfl) rfl ?_
   obtain ⟨x3, hx3, h⟩ := bind_some h
   obtain ⟨cs3, F3, -, g3, hb3, hs3, r3⟩ := h4.el (idx_some hx3).2.2
   obtain ⟨v7, G7, rfl, hq1, h7⟩ := r3
   obtain rfl := hq1.symm
   refine lq (q_indexAddr Sl_45 rfl rfl h4 hx3) rfl <| lq (q_loadN Tn_114 rfl (fun w1 hw => (g3.of_eq 0 3 rfl rfl : rg _ _ _ [.string x3.Kind, v7, .bool x3.Not]).rangeAt hw.fro) rfl) rfl ?_
   refine ln (n_alloc (C := #[.string eS, .slice none 0 0, .bool false]) Zr_114 rfl) rfl (fun b_5 => ?_)
   refine ls (s_store (i := 0) (vs := [.string x3.Kind, v7, .bool x3.Not]) (C' := [.string x3.Kind, v7, .bool x3.Not]) (O' := [(b_5, .cells #[.string x3.Kind, v7, .bool x3.Not] 114 (0, 0)), (b_4, .cells #[u5, u4] 43 (0, 0)), (b_3, .cells #[u3, u2] 27 (0, 0)), (b_2, .cells #[.slice none 0 0, .slice none 0 0] 27 (0, 0)), (b_1, .cells #[.string p0.Name, pv0_0] 30 (0, 0))]) Sz_114 rfl rfl rfl rfl rfl rfl ⟨rfl, h7.one, rfl, trivial⟩ rfl rfl) rfl ?_
   refine WL.nil <| sr <| lq (q_loadN Tn_114 rfl (fun w1 hw => hw.rgO (i := 0) rfl 0 3 [.string x3.Kind, v7, .bool x3.Not] rfl) rfl) rfl ?_
   obtain ⟨x4, hx4, h⟩ := bind_some h
   refine lc (k_call (js := []) (R := [ob u5, ob u4, X2, D2, ob u2, ob u3, X1]) Fun_105 rfl rfl (fun w1 hw ap hl => m_s_AlphaOf_ok hw.fro N x3 h7  hx4)) rfl (fun v8 Φ_3 F4 q1 => ?_)
   obtain ⟨ap1, fr1, v9, v10, rfl, rfl, h8, h9⟩ := q1
   replace ph0_0 := ph0_0.frame RTRule.lasts fr1 (ap1.o pa0_0)
   replace h7 := h7.frame RTArg.lasts fr1 (Dj.sub (Dj.sub (ap1.o pa0_0) (fun k h => hs2 k (List.mem_append.2 (.inl h)))) (fun k h => hs3 k h))
   replace k7 := k7.frame RTAlpha.lasts fr1 (ap1.r (i := 5) rfl) (Dj.sub (Dj.app (ap1.r (i := 6) rfl) (ap1.r (i := 2) rfl)) i2)
   replace k4 := k4.frame OTChain.lasts fr1 (ap1.r (i := 4) rfl) (ap1.r (i := 3) rfl)
   replace k8 := k8.frame RI.lasts fr1 (ap1.r (i := 1) rfl) (Dj.nil _)
   replace k9 := k9.frame RI.lasts fr1 (ap1.r (i := 0) rfl) (Dj.nil _)
   refine WL.frz (js := [2]) (R := [(b_5, .cells #[.string x3.Kind, v7, .bool x3.Not] 114 (0, 0)), (b_4, .cells #[u5, u4] 43 (0, 0)), (b_2, .cells #[.slice none 0 0, .slice none 0 0] 27 (0, 0)), (b_1, .cells #[.string p0.Name, pv0_0] 30 (0, 0))]) rfl (fun Φ_4 fr2 k10 => ?_)
   replace ph0_0 := ph0_0.frame RTRule.lasts fr2 (Dj.empty _)
   replace h7 := h7.frame RTArg.lasts fr2 (Dj.empty _)
   replace k7 := k7.frame RTAlpha.lasts fr2 (Dj.empty _) (Dj.empty _)
   replace k4 := k4.frame OTChain.lasts fr2 (Dj.empty _) (Dj.empty _)
   replace k8 := k8.frame RI.lasts fr2 (Dj.empty _) (Dj.empty _)
   replace k9 := k9.frame RI.lasts fr2 (Dj.empty _) (Dj.empty _)
   replace h8 := h8.frame RTVal.lasts fr2 (Dj.empty _) (Dj.empty _)
   replace h9 := h9.frame RI.lasts fr2 (Dj.empty _) (Dj.empty _)
   obtain ⟨x5, hx5, h⟩ := bind_some h
   refine lc (k_call (js := [0, 7]) (R := [ob v9, ob v10, ob u5, ob u4, X2, D2, ob u2, X1]) Fun_104 rfl rfl (fun w1 hw ap hl => m_s_l12Find_ok hw.fro N (⟨s4, s2⟩ : TNet) x4 k7 (k4.rslG OTChain.gives) k10 h8.rsl h9.rsl (Dj.sub (Dj.app (ap.r (i := 7) rfl) (ap.r (i := 4) rfl)) i2) (Dj.app (ap.r (i := 6) rfl) (ap.r (i := 5) rfl)) (Dj.app (ap.r (i := 0) rfl) (Dj.nil _)) (Dj.app (ap.r (i := 1) rfl) (Dj.nil _)) ap.nd hl hx5)) rfl (fun v11 Φ_5 F5 q2 => ?_)
   obtain ⟨ap2, fr3, v12, D4, rfl, rfl, h10, i3, e1, h11⟩ := q2
   replace ph0_0 := ph0_0.frame RTRule.lasts fr3 (ap2.o pa0_0)
   replace h7 := h7.frame RTArg.lasts fr3 (Dj.sub (Dj.sub (ap2.o pa0_0) (fun k h => hs2 k (List.mem_append.2 (.inl h)))) (fun k h => hs3 k h))
   replace k4 := k4.frame OTChain.lasts fr3 (ap2.r (i := 6) rfl) (ap2.r (i := 5) rfl)
   replace k8 := k8.frame RI.lasts fr3 (ap2.r (i := 3) rfl) (Dj.nil _)
   replace k9 := k9.frame RI.lasts fr3 (ap2.r (i := 2) rfl) (Dj.nil _)
   refine lq (q_assign rfl) rfl <| WL.nil <| sr <| lq (q_fieldAddr Fld_114_2 rfl) rfl <| lq (q_load1 T1_4 rfl (fun w1 hw => hw.rgO (i := 0) rfl 2 1 [.bool x3.Not] rfl)) rfl <| WL.nil ?_
   refine WT.cond rfl (fun c3 => ?_) (fun c3 => ?_)
   ·replace h := ite_t h c3
    refine WT.region <| lq (q_fieldAddr Fld_43_1 rfl) rfl <| lq (q_load1 T1_41 rfl (fun w1 hw => hw.rgO (i := 1) rfl 1 1 [u4] rfl)) rfl <| lq (q_move rfl) rfl ?_
    have rc1 : RC (RI .i64) 1 Φ_5 ([[]] : List (List Nat)) [.int .i64 x5.1] ([x5.1] : List Int) := RC.cons (c := [.int .i64 x5.1]) (cells := []) ⟨rfl, rfl⟩ rfl (RC.nil _ _ _)
    refine le' (e_lit (vs := [(0, .int .i64 x5.1)]) (C := #[.int .i64 x5.1]) RI.lasts Sl_41 Zr_3 rfl rfl rfl rfl (fill_made MC_3_1 (fill_cons (cells := [.int .i64 0]) (c := [.int .i64 x5.1]) (C' := [.int .i64 x5.1]) rfl rfl rfl rfl rfl (fill_nil))) rfl rc1 rfl (by simpa using Kw.nil)) rfl (fun v13 Φ_6 D5 q3 => ?_)
    obtain ⟨fr4, h12⟩ := q3
    replace h12 : OSl (RI .i64) 3 1 Φ_6 [] v13 ([x5.1] : List Int) := by simpa using h12
    replace ph0_0 := ph0_0.frame RTRule.lasts fr4 (Dj.empty _)
    replace k4 := k4.frame OTChain.lasts fr4 (Dj.empty _) (Dj.empty _)
    replace k8 := k8.frame RI.lasts fr4 (Dj.empty _) (Dj.empty _)
    replace k9 := k9.frame RI.lasts fr4 (Dj.empty _) (Dj.empty _)
    replace h10 := h10.frame RTAlpha.lasts fr4 (Dj.empty _) (Dj.empty _)
    replace h11 := fr4 _ _ (by simp) h11
    obtain ⟨x6, hx6, h⟩ := bind_some h
    refine le' (e_appF RI.lasts RI.one RI.flat Sl_41 Ei_3 rfl rfl rfl rfl rfl (js := [6]) (Rr := [ob v13, [b_3], ob v12, ob v9, ob v10, ob u5, X2, D2, ob u2, X1]) rfl k8 h12.rsl hx6) rfl (fun v14 Φ_7 D6 q4 => ?_)
    obtain ⟨⟨ap3, fr5⟩, h13⟩ := q4
    replace ph0_0 := ph0_0.frame RTRule.lasts fr5 (ap3.o pa0_0)
    replace k4 := k4.frame OTChain.lasts fr5 (ap3.r (i := 8) rfl) (ap3.r (i := 7) rfl)
    replace k9 := k9.frame RI.lasts fr5 (ap3.r (i := 5) rfl) (Dj.nil _)
    replace h10 := h10.frame RTAlpha.lasts fr5 (ap3.r (i := 2) rfl) (Dj.sub (Dj.app (Dj.sub (Dj.app (ap3.r (i := 9) rfl) (ap3.r (i := 6) rfl)) i2) (Dj.app (Dj.sub (ap3.r (i := 3) rfl) apnil) (Dj.sub (ap3.r (i := 4) rfl) apnil))) i3)
    replace h11 := fr5 _ _ ((ap3.r (i := 1) rfl) _ (by simp)) h11
    refine lq (q_fieldAddr Fld_43_1 rfl) rfl <| ls (s_store (i := 1) (vs := [v14]) (C' := [u5, v14]) (O' := [(b_5, .cells #[.string x3.Kind, v7, .bool x3.Not] 114 (0, 0)), (b_4, .cells #[u5, v14] 43 (0, 0)), (b_2, .cells #[.slice none 0 0, .slice none 0 0] 27 (0, 0)), (b_1, .cells #[.string p0.Name, pv0_0] 30 (0, 0))]) Sz_41 rfl rfl rfl (one_cells h13.one) rfl rfl ⟨h13.one, trivial⟩ rfl rfl) rfl <| WL.nil <| WT.inBlock <| WT.region ?_
    refine lq (q_move rfl) rfl <| lq (q_add rfl rfl) rfl <| lq (q_assign rfl) rfl <| WL.nil ?_
    refine WT.thw (js := [2]) (R := [ob v14, ob v13, ob v12, ob v9, ob v10, ob u5, X2, D2, ob u2, X1]) rfl h11 (fun Φ_8 ap4 fr6 => ?_)
    replace ph0_0 := ph0_0.frame RTRule.lasts fr6 (ap4.o pa0_0)
    replace k4 := k4.frame OTChain.lasts fr6 (ap4.r (i := 8) rfl) (ap4.r (i := 7) rfl)
    replace h13 := h13.frame RI.lasts fr6 (ap4.r (i := 0) rfl) (Dj.nil _)
    replace k9 := k9.frame RI.lasts fr6 (ap4.r (i := 5) rfl) (Dj.nil _)
    replace h10 := h10.frame RTAlpha.lasts fr6 (ap4.r (i := 2) rfl) (Dj.sub (Dj.app (Dj.sub (Dj.app (ap4.r (i := 9) rfl) (ap4.r (i := 6) rfl)) i2) (Dj.app (Dj.sub (ap4.r (i := 3) rfl) apnil) (Dj.sub (ap4.r (i := 4) rfl) apnil))) i3)
    refine WT.conv (S' := St w0 Φ_8 [(b_3, .cells #[v12, u2] 27 (0, 0)), (b_5, .cells #[.string x3.Kind, v7, .bool x3.Not] 114 (0, 0)), (b_4, .cells #[u5, v14] 43 (0, 0)), (b_2, .cells #[.slice none 0 0, .slice none 0 0] 27 (0, 0)), (b_1, .cells #[.string p0.Name, pv0_0] 30 (0, 0))] [(X2 ++ (ob v9 ++ (ob v10))), ob v14, ob v13, ob v12, ob u5, D2, ob u2, X1]) (fun w1 hw => hw.merge (js := [6, 3, 3]) rfl (SP.eq (by simp [List.append_assoc]))) ?_
    refine WT.inLoop (WT.mono (l' := [(1, .pointer (some ⟨b_1, 0, none⟩)), (2, .pointer (some ⟨b_2, 0, none⟩)), (3, .pointer (some ⟨b_3, 0, none⟩)), (4, .int .i64 s3), (5, .pointer (some ⟨b_4, 0, none⟩)), (6, .int .i64 (IntKind.i64.wrap (s7 + 1)))]) (S' := St w0 Φ_8 [(b_4, .cells #[u5, v14] 43 (0, 0)), (b_3, .cells #[v12, u2] 27 (0, 0)), (b_2, .cells #[.slice none 0 0, .slice none 0 0] 27 (0, 0)), (b_1, .cells #[.string p0.Name, pv0_0] 30 (0, 0))] [ob u5, ob v14, (X2 ++ (ob v9 ++ (ob v10))), D2, ob u2, ob v12, X1]) ⟨rfl, rfl, rfl, rfl, rfl, rfl, trivial⟩ (fun w1 hw => (hw.sel (js := [4, 1, 0, 2, 2, 1, 1]) rfl).selO (js := [2, 0, 1, 1]) rfl) ?_)
    exact ih2 (Φ_8, (X2 ++ (ob v9 ++ (ob v10))), x5.2.Alphas, v12, D4, x6, v14, s6, u5, IntKind.i64.wrap (s7 + 1)) ⟨h, h10, (fun k hk => ((List.mem_append.1 (i3 k hk)).elim (fun h => ((List.mem_append.1 (i2 k h)).elim (fun h => (List.mem_append.2 (.inl h))) (fun h => (List.mem_append.2 (.inr ((fun k hk => (List.mem_append.2 (.inl hk))) k h)))))) (fun h => ((List.mem_append.1 h).elim (fun h => (List.mem_append.2 (.inr ((fun k hk => (List.mem_append.2 (.inr (List.mem_append.2 (.inl hk))))) k (apnil k h))))) (fun h => (List.mem_append.2 (.inr ((fun k hk => (List.mem_append.2 (.inr (List.mem_append.2 (.inr hk))))) k (apnil k h))))))))), k4, h13, k9, ph0_0⟩
   replace h := ite_f h c3
   refine WT.region <| lq (q_fieldAddr Fld_43_0 rfl) rfl <| lq (q_load1 T1_41 rfl (fun w1 hw => hw.rgO (i := 1) rfl 0 1 [u5] rfl)) rfl <| lq (q_move rfl) rfl ?_
   have rc2 : RC (RI .i64) 1 Φ_5 ([[]] : List (List Nat)) [.int .i64 x5.1] ([x5.1] : List Int) := RC.cons (c := [.int .i64 x5.1]) (cells := []) ⟨rfl, rfl⟩ rfl (RC.nil _ _ _)
   refine le' (e_lit (vs := [(0, .int .i64 x5.1)]) (C := #[.int .i64 x5.1]) RI.lasts Sl_41 Zr_3 rfl rfl rfl rfl (fill_made MC_3_1 (fill_cons (cells := [.int .i64 0]) (c := [.int .i64 x5.1]) (C' := [.int .i64 x5.1]) rfl rfl rfl rfl rfl (fill_nil))) rfl rc2 rfl (by simpa using Kw.nil)) rfl (fun v15 Φ_9 D7 q5 => ?_)
   obtain ⟨fr7, h14⟩ := q5
   replace h14 : OSl (RI .i64) 3 1 Φ_9 [] v15 ([x5.1] : List Int) := by simpa using h14
   replace ph0_0 := ph0_0.frame RTRule.lasts fr7 (Dj.empty _)
   replace k4 := k4.frame OTChain.lasts fr7 (Dj.empty _) (Dj.empty _)
   replace k8 := k8.frame RI.lasts fr7 (Dj.empty _) (Dj.empty _)
   replace k9 := k9.frame RI.lasts fr7 (Dj.empty _) (Dj.empty _)
   replace h10 := h10.frame RTAlpha.lasts fr7 (Dj.empty _) (Dj.empty _)
   replace h11 := fr7 _ _ (by simp) h11
   obtain ⟨x7, hx7, h⟩ := bind_some h
   refine le' (e_appF RI.lasts RI.one RI.flat Sl_41 Ei_3 rfl rfl rfl rfl rfl (js := [5]) (Rr := [ob v15, [b_3], ob v12, ob v9, ob v10, ob u4, X2, D2, ob u2, X1]) rfl k9 h14.rsl hx7) rfl (fun v16 Φ_10 D8 q6 => ?_)
   obtain ⟨⟨ap5, fr8⟩, h15⟩ := q6
   replace ph0_0 := ph0_0.frame RTRule.lasts fr8 (ap5.o pa0_0)
   replace k4 := k4.frame OTChain.lasts fr8 (ap5.r (i := 8) rfl) (ap5.r (i := 7) rfl)
   replace k8 := k8.frame RI.lasts fr8 (ap5.r (i := 5) rfl) (Dj.nil _)
   replace h10 := h10.frame RTAlpha.lasts fr8 (ap5.r (i := 2) rfl) (Dj.sub (Dj.app (Dj.sub (Dj.app (ap5.r (i := 9) rfl) (ap5.r (i := 6) rfl)) i2) (Dj.app (Dj.sub (ap5.r (i := 3) rfl) apnil) (Dj.sub (ap5.r (i := 4) rfl) apnil))) i3)
   replace h11 := fr8 _ _ ((ap5.r (i := 1) rfl) _ (by simp)) h11
   refine lq (q_fieldAddr Fld_43_0 rfl) rfl <| ls (s_store (i := 1) (vs := [v16]) (C' := [v16, u4]) (O' := [(b_5, .cells #[.string x3.Kind, v7, .bool x3.Not] 114 (0, 0)), (b_4, .cells #[v16, u4] 43 (0, 0)), (b_2, .cells #[.slice none 0 0, .slice none 0 0] 27 (0, 0)), (b_1, .cells #[.string p0.Name, pv0_0] 30 (0, 0))]) Sz_41 rfl rfl rfl (one_cells h15.one) rfl rfl ⟨h15.one, trivial⟩ rfl rfl) rfl <| WL.nil <| WT.inBlock <| WT.region ?_
   refine lq (q_move rfl) rfl <| lq (q_add rfl rfl) rfl <| lq (q_assign rfl) rfl <| WL.nil ?_
   refine WT.thw (js := [2]) (R := [ob v16, ob v15, ob v12, ob v9, ob v10, ob u4, X2, D2, ob u2, X1]) rfl h11 (fun Φ_11 ap6 fr9 => ?_)
   replace ph0_0 := ph0_0.frame RTRule.lasts fr9 (ap6.o pa0_0)
   replace k4 := k4.frame OTChain.lasts fr9 (ap6.r (i := 8) rfl) (ap6.r (i := 7) rfl)
   replace k8 := k8.frame RI.lasts fr9 (ap6.r (i := 5) rfl) (Dj.nil _)
   replace h15 := h15.frame RI.lasts fr9 (ap6.r (i := 0) rfl) (Dj.nil _)
   replace h10 := h10.frame RTAlpha.lasts fr9 (ap6.r (i := 2) rfl) (Dj.sub (Dj.app (Dj.sub (Dj.app (ap6.r (i := 9) rfl) (ap6.r (i := 6) rfl)) i2) (Dj.app (Dj.sub (ap6.r (i := 3) rfl) apnil) (Dj.sub (ap6.r (i := 4) rfl) apnil))) i3)
   refine WT.conv (S' := St w0 Φ_11 [(b_3, .cells #[v12, u2] 27 (0, 0)), (b_5, .cells #[.string x3.Kind, v7, .bool x3.Not] 114 (0, 0)), (b_4, .cells #[v16, u4] 43 (0, 0)), (b_2, .cells #[.slice none 0 0, .slice none 0 0] 27 (0, 0)), (b_1, .cells #[.string p0.Name, pv0_0] 30 (0, 0))] [(X2 ++ (ob v9 ++ (ob v10))), ob v16, ob v15, ob v12, ob u4, D2, ob u2, X1]) (fun w1 hw => hw.merge (js := [6, 3, 3]) rfl (SP.eq (by simp [List.append_assoc]))) ?_
   refine WT.inLoop (WT.mono (l' := [(1, .pointer (some ⟨b_1, 0, none⟩)), (2, .pointer (some ⟨b_2, 0, none⟩)), (3, .pointer (some ⟨b_3, 0, none⟩)), (4, .int .i64 s3), (5, .pointer (some ⟨b_4, 0, none⟩)), (6, .int .i64 (IntKind.i64.wrap (s7 + 1)))]) (S' := St w0 Φ_11 [(b_4, .cells #[v16, u4] 43 (0, 0)), (b_3, .cells #[v12, u2] 27 (0, 0)), (b_2, .cells #[.slice none 0 0, .slice none 0 0] 27 (0, 0)), (b_1, .cells #[.string p0.Name, pv0_0] 30 (0, 0))] [ob v16, ob u4, (X2 ++ (ob v9 ++ (ob v10))), D2, ob u2, ob v12, X1]) ⟨rfl, rfl, rfl, rfl, rfl, rfl, trivial⟩ (fun w1 hw => (hw.sel (js := [1, 3, 0, 2, 2, 1, 1]) rfl).selO (js := [2, 0, 1, 1]) rfl) ?_)
   exact ih2 (Φ_11, (X2 ++ (ob v9 ++ (ob v10))), x5.2.Alphas, v12, D4, s5, u4, x7, v16, IntKind.i64.wrap (s7 + 1)) ⟨h, h10, (fun k hk => ((List.mem_append.1 (i3 k hk)).elim (fun h => ((List.mem_append.1 (i2 k h)).elim (fun h => (List.mem_append.2 (.inl h))) (fun h => (List.mem_append.2 (.inr ((fun k hk => (List.mem_append.2 (.inl hk))) k h)))))) (fun h => ((List.mem_append.1 h).elim (fun h => (List.mem_append.2 (.inr ((fun k hk => (List.mem_append.2 (.inr (List.mem_append.2 (.inl hk))))) k (apnil k h))))) (fun h => (List.mem_append.2 (.inr ((fun k hk => (List.mem_append.2 (.inr (List.mem_append.2 (.inr hk))))) k (apnil k h))))))))), k4, k8, h15, ph0_0⟩
  replace h := ite_f h c2
  refine WT.exit rfl <| WT.region <| lq (q_fieldAddr Fld_27_1 rfl) rfl <| lq (q_load1 T1_25 rfl (fun w1 hw => hw.rgO (i := 1) rfl 1 1 [u2] rfl)) rfl <| lq (q_loadN Tn_43 rfl (fun w1 hw => hw.rgO (i := 0) rfl 0 2 [u5, u4] rfl) rfl) rfl ?_
  have rc3 : RC OTChain 2 Φ_2 ([(ob u5 ++ []) ++ ((ob u4 ++ []))] : List (List Nat)) [u5, u4] ([(⟨s6, s5⟩ : TChain)] : List TChain) := RC.cons (c := [u5, u4]) (cells := []) ⟨u5, u4, rfl, rfl, k9, k8⟩ rfl (RC.nil _ _ _)
  refine le' (e_lit (vs := [(0, .agg [u5, u4].toArray)]) (C := #[u5, u4]) OTChain.lasts Sl_25 Zr_43 rfl rfl rfl rfl (fill_made MC_43_1 (fill_cons (cells := [.slice none 0 0, .slice none 0 0]) (c := [u5, u4]) (C' := [u5, u4]) rfl rfl rfl rfl rfl (fill_nil))) rfl rc3 rfl (RC.kn OTChain.knows rc3)) rfl (fun v17 Φ_12 D9 q7 => ?_)
  obtain ⟨fr10, h16⟩ := q7
  replace h16 : OSl OTChain 43 2 Φ_12 ((ob u5 ++ []) ++ ((ob u4 ++ []))) v17 ([(⟨s6, s5⟩ : TChain)] : List TChain) := by simpa [List.append_assoc] using h16
  replace ph0_0 := ph0_0.frame RTRule.lasts fr10 (Dj.empty _)
  replace k7 := k7.frame RTAlpha.lasts fr10 (Dj.empty _) (Dj.empty _)
  replace k4 := k4.frame OTChain.lasts fr10 (Dj.empty _) (Dj.empty _)
  refine WL.conv (S' := St w0 Φ_12 [(b_4, .cells #[u5, u4] 43 (0, 0)), (b_3, .cells #[u3, u2] 27 (0, 0)), (b_2, .cells #[.slice none 0 0, .slice none 0 0] 27 (0, 0)), (b_1, .cells #[.string p0.Name, pv0_0] 30 (0, 0))] [((ob u5 ++ []) ++ ((ob u4 ++ []))), ob v17, X2, D2, ob u2, ob u3, X1]) (fun w1 hw => hw.merge (js := [1, 1]) rfl (SP.eq (by simp [List.append_assoc, ob_nil]))) ?_
  obtain ⟨x8, hx8, h⟩ := bind_some h
  refine le' (e_appO OTChain.lasts OTChain.one Sl_25 Ei_43 rfl rfl rfl rfl rfl (js := [4]) (Rr := [((ob u5 ++ []) ++ ((ob u4 ++ []))), ob v17, X2, D2, ob u3, X1]) rfl k4 h16 (fun ap => (ap.r (i := 3) rfl)) (fun ap => (ap.r (i := 0) rfl)) hx8) rfl (fun v18 Φ_13 D10 q8 => ?_)
  obtain ⟨⟨ap7, fr11⟩, h17⟩ := q8
  replace ph0_0 := ph0_0.frame RTRule.lasts fr11 (ap7.o pa0_0)
  replace k7 := k7.frame RTAlpha.lasts fr11 (ap7.r (i := 4) rfl) (Dj.sub (Dj.app (ap7.r (i := 5) rfl) (ap7.r (i := 2) rfl)) i2)
  refine WL.conv (S' := St w0 Φ_13 [(b_4, .cells #[u5, u4] 43 (0, 0)), (b_3, .cells #[u3, u2] 27 (0, 0)), (b_2, .cells #[.slice none 0 0, .slice none 0 0] 27 (0, 0)), (b_1, .cells #[.string p0.Name, pv0_0] 30 (0, 0))] [(D2 ++ ((ob u5 ++ []) ++ ((ob u4 ++ [])))), ob v18, ob v17, X2, ob u3, X1]) (fun w1 hw => hw.merge (js := [4, 1]) rfl (SP.eq (by simp))) <| lq (q_fieldAddr Fld_27_1 rfl) rfl <| ls (s_store (i := 1) (vs := [v18]) (C' := [u3, v18]) (O' := [(b_4, .cells #[u5, u4] 43 (0, 0)), (b_3, .cells #[u3, v18] 27 (0, 0)), (b_2, .cells #[.slice none 0 0, .slice none 0 0] 27 (0, 0)), (b_1, .cells #[.string p0.Name, pv0_0] 30 (0, 0))]) Sz_25 rfl rfl rfl (one_cells h17.one) rfl rfl ⟨h17.one, trivial⟩ rfl rfl) rfl ?_
  refine WL.nil <| WT.inBlock <| WT.region <| lq (q_move rfl) rfl <| lq (q_add rfl rfl) rfl <| lq (q_assign rfl) rfl <| WL.nil <| WT.conv (S' := St w0 Φ_13 [(b_4, .cells #[u5, u4] 43 (0, 0)), (b_3, .cells #[u3, v18] 27 (0, 0)), (b_2, .cells #[.slice none 0 0, .slice none 0 0] 27 (0, 0)), (b_1, .cells #[.string p0.Name, pv0_0] 30 (0, 0))] [(X1 ++ (X2)), (D2 ++ ((ob u5 ++ []) ++ ((ob u4 ++ [])))), ob v18, ob v17, ob u3]) (fun w1 hw => hw.merge (js := [5, 3]) rfl (SP.eq (by simp [List.append_assoc]))) ?_
  refine WT.inLoop (WT.mono (l' := [(1, .pointer (some ⟨b_1, 0, none⟩)), (2, .pointer (some ⟨b_2, 0, none⟩)), (3, .pointer (some ⟨b_3, 0, none⟩)), (4, .int .i64 (IntKind.i64.wrap (s3 + 1)))]) (S' := St w0 Φ_13 [(b_3, .cells #[u3, v18] 27 (0, 0)), (b_2, .cells #[.slice none 0 0, .slice none 0 0] 27 (0, 0)), (b_1, .cells #[.string p0.Name, pv0_0] 30 (0, 0))] [(D2 ++ ((ob u5 ++ []) ++ ((ob u4 ++ [])))), ob v18, ob u3, (X1 ++ (X2))]) ⟨rfl, rfl, rfl, rfl, trivial⟩ (fun w1 hw => (hw.sel (js := [1, 1, 2, 0]) rfl).selO (js := [1, 1, 1]) rfl) ?_)
  exact ih1 (Φ_13, (X1 ++ (X2)), s4, u3, D3, x8, v18, (D2 ++ ((ob u5 ++ []) ++ ((ob u4 ++ [])))), IntKind.i64.wrap (s3 + 1)) ⟨h, k7, (fun k hk => ((List.mem_append.1 (i2 k hk)).elim (fun h => ((fun k hk => (List.mem_append.2 (.inl hk))) k h)) (fun h => ((fun k hk => (List.mem_append.2 (.inr hk))) k h)))), h17, ph0_0⟩
 replace h := ite_f h c1
 refine WT.exit rfl <| sr <| lq (q_loadN Tn_27 rfl (fun w1 hw => hw.rgO (i := 0) rfl 0 2 [u1, u2] rfl) rfl) rfl <| ls (s_store (i := 1) (vs := [u1, u2]) (C' := [u1, u2]) (O' := [(b_3, .cells #[u1, u2] 27 (0, 0)), (b_2, .cells #[u1, u2] 27 (0, 0)), (b_1, .cells #[.string p0.Name, pv0_0] 30 (0, 0))]) Sz_27 rfl rfl rfl rfl rfl rfl ⟨k3.one, k4.one, trivial⟩ rfl rfl) rfl <| WL.nil ?_
 refine WT.ret Tryz.func46 (resOk.one (rv_cell Tn_27 rfl (fun w1 hw => hw.rgO (i := 1) rfl 0 2 [u1, u2] rfl) rfl)) (fun w1 hw => ?_)
 subst hb0
 cases h
 replace hw := hw.merge (js := [3]) (F := [X1].flatten) rfl (SP.eq (by simp))
 refine postG_of_St (js := [3, 2, 1, 0]) hw rfl ⟨u1, D1, u2, D2, [X1].flatten, rfl, rfl, k3, (fun k hk => (List.mem_flatten.2 ⟨X1, by simp, (i1 k hk)⟩)), k4⟩
theorem m_s_l12Copy_ok {Φ : Hp} {w : World} (hΦ : In Φ w) (N : Nat) (p0 : TNet) {pv0_0 : Value} {pG0_0 : List Nat} {pv0_1 : Value} {pG0_1 : List Nat} (ph0_0 : RSl RTAlpha 4 Φ pG0_0 pv0_0 p0.Alphas) (ph0_1 : RSl RTChain 2 Φ pG0_1 pv0_1 p0.Chains) {r : TNet} (h : m_s_l12Copy N p0 = some r) :
  Calls Tryz.prog 106 [.agg [pv0_0, pv0_1].toArray].toArray w (PostG Φ w [] (fun Φ' Fs v => ∃ (sr_0_0 : Value) (Dr_0_0 : List Nat) (sr_0_1 : Value) (Dr_0_1 : List Nat), v = .agg [sr_0_0, sr_0_1].toArray ∧ Fs = [ob sr_0_0, Dr_0_0, ob sr_0_1, Dr_0_1] ∧ OSl OTAlpha 102 4 Φ' Dr_0_0 sr_0_0 r.Alphas ∧ OSl OTChain 43 2 Φ' Dr_0_1 sr_0_1 r.Chains)) := by
 refine enter Tryz.func106 rfl Tryz.ntmps106 rfl (St.start0 hΦ) ?_
 have pa0_0 : Old ⟨w, [], Φ⟩ pG0_0 := Old.mk hΦ ph0_0.kn (Dj.empty _)
 have pa0_1 : Old ⟨w, [], Φ⟩ pG0_1 := Old.mk hΦ ph0_1.kn (Dj.empty _)
 revert pa0_0 pa0_1
 generalize hb0 : (⟨w, [], Φ⟩ : Base) = w0
 intro pa0_0 pa0_1
 unfold m_s_l12Copy at h
 refine WT.seq <| WT.region ?_
 refine ln (n_box (C := #[pv0_0, pv0_1]) rfl rfl) rfl (fun b_1 => ?_)
 refine ln (n_alloc (C := #[.slice none 0 0, .slice none 0 0]) Zr_27 rfl) rfl (fun b_2 => ?_)
 refine WL.nil <| sr <| lq (q_build (vs := []) (C := #[.slice none 0 0, .slice none 0 0]) Pl_27 Zr_27 rfl (fill_nil)) rfl ?_
 refine ln (n_alloc (C := #[.slice none 0 0, .slice none 0 0]) Zr_27 rfl) rfl (fun b_3 => ?_)
 refine ls (s_store (i := 0) (vs := [.slice none 0 0, .slice none 0 0]) (C' := [.slice none 0 0, .slice none 0 0]) (O' := [(b_3, .cells #[.slice none 0 0, .slice none 0 0] 27 (0, 0)), (b_2, .cells #[.slice none 0 0, .slice none 0 0] 27 (0, 0)), (b_1, .cells #[pv0_0, pv0_1] 27 (0, 0))]) Sz_27 rfl rfl rfl rfl rfl rfl ⟨rfl, rfl, trivial⟩ rfl rfl) rfl <| WL.nil <| WT.seq <| sr <| lq (q_assign rfl) rfl <| WL.nil <| WT.block ?_
 refine WT.loop <| WT.conv (S' := St w0 Φ [(b_3, .cells #[.slice none 0 0, .slice none 0 0] 27 (0, 0)), (b_2, .cells #[.slice none 0 0, .slice none 0 0] 27 (0, 0)), (b_1, .cells #[pv0_0, pv0_1] 27 (0, 0))] (ob (.slice none 0 0) :: [])) (fun w1 hw => hw.addNil) <| WT.conv (S' := St w0 Φ [(b_3, .cells #[.slice none 0 0, .slice none 0 0] 27 (0, 0)), (b_2, .cells #[.slice none 0 0, .slice none 0 0] 27 (0, 0)), (b_1, .cells #[pv0_0, pv0_1] 27 (0, 0))] ([] :: [ob (.slice none 0 0)])) (fun w1 hw => hw.addNil) ?_
 have k1 := OSl.nil OTAlpha 102 4 Φ
 refine WT.mono (l' := [(1, .pointer (some ⟨b_1, 0, none⟩)), (2, .pointer (some ⟨b_2, 0, none⟩)), (3, .pointer (some ⟨b_3, 0, none⟩)), (4, .int .i64 0)]) (S' := St w0 Φ [(b_3, .cells #[(.slice none 0 0), .slice none 0 0] 27 (0, 0)), (b_2, .cells #[.slice none 0 0, .slice none 0 0] 27 (0, 0)), (b_1, .cells #[pv0_0, pv0_1] 27 (0, 0))] [[], ob (.slice none 0 0)]) ⟨rfl, rfl, rfl, rfl, trivial⟩ (fun w1 hw => (hw.sel (js := [0, 0]) rfl).selO (js := [0, 0, 0]) rfl) ?_
 refine loop_ind (σ := Hp × (List TAlpha) × Value × List Nat × Int) (fun s => [(1, .pointer (some ⟨b_1, 0, none⟩)), (2, .pointer (some ⟨b_2, 0, none⟩)), (3, .pointer (some ⟨b_3, 0, none⟩)), (4, .int .i64 s.2.2.2.2)]) (fun s => St w0 s.1 [(b_3, .cells #[s.2.2.1, .slice none 0 0] 27 (0, 0)), (b_2, .cells #[.slice none 0 0, .slice none 0 0] 27 (0, 0)), (b_1, .cells #[pv0_0, pv0_1] 27 (0, 0))] [s.2.2.2.1, ob s.2.2.1]) (fun m s => m_s_l12Copy_l1 N p0 m s.2.1 s.2.2.2.2 = some r ∧ (OSl OTAlpha 102 4 s.1 s.2.2.2.1 s.2.2.1 s.2.1) ∧ (RSl RTAlpha 4 s.1 pG0_0 pv0_0 p0.Alphas) ∧ (RSl RTChain 2 s.1 pG0_1 pv0_1 p0.Chains)) (fun s hm => none_ne (show (none : Option (TNet)) = some r from hm.1)) (fun n1 ih1 s hm => ?_) N (Φ, ([] : List TAlpha), (.slice none 0 0), [], 0) ⟨h, k1, ph0_0, ph0_1⟩
 obtain ⟨Φ_1, s1, u1, D1, s2⟩ := s
 obtain ⟨h, k2, ph0_0, ph0_1⟩ := hm
 replace h : m_s_l12Copy_l1 N p0 (n1 + 1) s1 s2 = some r := h
 replace k2 : OSl OTAlpha 102 4 Φ_1 D1 u1 s1 := k2
 replace ph0_0 : RSl RTAlpha 4 Φ_1 pG0_0 pv0_0 p0.Alphas := ph0_0
 replace ph0_1 : RSl RTChain 2 Φ_1 pG0_1 pv0_1 p0.Chains := ph0_1
 show WT _ _ [(1, .pointer (some ⟨b_1, 0, none⟩)), (2, .pointer (some ⟨b_2, 0, none⟩)), (3, .pointer (some ⟨b_3, 0, none⟩)), (4, .int .i64 s2)] (St w0 Φ_1 [(b_3, .cells #[u1, .slice none 0 0] 27 (0, 0)), (b_2, .cells #[.slice none 0 0, .slice none 0 0] 27 (0, 0)), (b_1, .cells #[pv0_0, pv0_1] 27 (0, 0))] [D1, ob u1])
 unfold m_s_l12Copy_l1 at h
 refine WT.seq <| sr <| lq (q_move rfl) rfl <| lq (q_fieldAddr Fld_27_0 rfl) rfl <| lq (q_load1 T1_24 rfl (fun w1 hw => hw.rgO (i := 2) rfl 0 1 [pv0_0] rfl)) rfl <| lq (q_lenR Sl_24 rfl rfl ph0_0) rfl <| lq (q_lss rfl rfl) rfl <| WL.nil ?_
 refine WT.cond rfl (fun c1 => ?_) (fun c1 => ?_)
 ·replace h := ite_t h c1
  refine WT.skip <| WT.seq <| WT.block <| sr <| lq (q_fieldAddr Fld_27_0 rfl) rfl <| lq (q_load1 T1_24 rfl (fun w1 hw => hw.rgO (i := 2) rfl 0 1 [pv0_0] rfl)) rfl <| lq (q_move rfl) rfl ?_
  obtain ⟨x1, hx1, h⟩ := bind_some h
  obtain ⟨cs1, F1, -, g1, hb1, hs1, r1⟩ := ph0_0.el (idx_some hx1).2.2
  obtain ⟨v1, G1, v2, G2, rfl, rfl, h1, h2⟩ := r1
  refine lq (q_indexAddr Sl_24 rfl rfl ph0_0 hx1) rfl <| lq (q_loadN Tn_102 rfl (fun w1 hw => (g1.of_eq 0 4 rfl rfl : rg _ _ _ [.string x1.Kind, .int .i64 x1.N, v1, v2]).rangeAt hw.fro) rfl) rfl ?_
  refine ln (n_alloc (C := #[.string eS, .int .i64 0, .slice none 0 0, .slice none 0 0]) Zr_102 rfl) rfl (fun b_4 => ?_)
  refine ls (s_store (i := 0) (vs := [.string x1.Kind, .int .i64 x1.N, v1, v2]) (C' := [.string x1.Kind, .int .i64 x1.N, v1, v2]) (O' := [(b_4, .cells #[.string x1.Kind, .int .i64 x1.N, v1, v2] 102 (0, 0)), (b_3, .cells #[u1, .slice none 0 0] 27 (0, 0)), (b_2, .cells #[.slice none 0 0, .slice none 0 0] 27 (0, 0)), (b_1, .cells #[pv0_0, pv0_1] 27 (0, 0))]) Sz_102 rfl rfl rfl rfl rfl rfl ⟨rfl, rfl, h1.one, h2.one, trivial⟩ rfl rfl) rfl ?_
  refine WL.nil <| WT.seq <| WT.region ?_
  have rc1 : RC RTVal 3 Φ_1 ([] : List (List Nat)) [] ([] : List TVal) := RC.nil _ _ _
  refine le' (e_lit (vs := []) (C := #[]) RTVal.lasts Sl_100 Zr_121 rfl rfl rfl rfl (fill_made MC_121_0 (fill_nil)) rfl rc1 rfl (by simpa using Kw.nil)) rfl (fun v3 Φ_2 D2 q1 => ?_)
  obtain ⟨fr1, h3⟩ := q1
  replace h3 : OSl RTVal 121 3 Φ_2 [] v3 ([] : List TVal) := by simpa using h3
  replace ph0_0 := ph0_0.frame RTAlpha.lasts fr1 (Dj.empty _)
  replace ph0_1 := ph0_1.frame RTChain.lasts fr1 (Dj.empty _)
  replace h1 := h1.frame RTVal.lasts fr1 (Dj.empty _)
  replace h2 := h2.frame RI.lasts fr1 (Dj.empty _)
  replace k2 := k2.frame OTAlpha.lasts fr1 (Dj.empty _) (Dj.empty _)
  refine lq (q_fieldAddr Fld_102_2 rfl) rfl <| lq (q_load1 T1_100 rfl (fun w1 hw => hw.rgO (i := 0) rfl 2 1 [v1] rfl)) rfl ?_
  obtain ⟨x2, hx2, h⟩ := bind_some h
  refine le' (e_appF RTVal.lasts RTVal.one RTVal.flat Sl_100 Ei_121 rfl rfl rfl rfl rfl (js := [0]) (Rr := [D1, ob u1]) rfl h3 h1 hx2) rfl (fun v4 Φ_3 D3 q2 => ?_)
  obtain ⟨⟨ap1, fr2⟩, h4⟩ := q2
  replace ph0_0 := ph0_0.frame RTAlpha.lasts fr2 (ap1.o pa0_0)
  replace ph0_1 := ph0_1.frame RTChain.lasts fr2 (ap1.o pa0_1)
  replace h1 := h1.frame RTVal.lasts fr2 (Dj.sub (ap1.o pa0_0) (fun k h => hs1 k (List.mem_append.2 (.inl h))))
  replace h2 := h2.frame RI.lasts fr2 (Dj.sub (ap1.o pa0_0) (fun k h => hs1 k (List.mem_append.2 (.inr h))))
  replace k2 := k2.frame OTAlpha.lasts fr2 (ap1.r (i := 1) rfl) (ap1.r (i := 0) rfl)
  refine lq (q_fieldAddr Fld_102_2 rfl) rfl <| ls (s_store (i := 0) (vs := [v4]) (C' := [.string x1.Kind, .int .i64 x1.N, v4, v2]) (O' := [(b_4, .cells #[.string x1.Kind, .int .i64 x1.N, v4, v2] 102 (0, 0)), (b_3, .cells #[u1, .slice none 0 0] 27 (0, 0)), (b_2, .cells #[.slice none 0 0, .slice none 0 0] 27 (0, 0)), (b_1, .cells #[pv0_0, pv0_1] 27 (0, 0))]) Sz_100 rfl rfl rfl (one_cells h4.one) rfl rfl ⟨h4.one, trivial⟩ rfl rfl) rfl ?_
  refine WL.nil <| WT.seq <| WT.region ?_
  have rc2 : RC (RI .i64) 1 Φ_3 ([] : List (List Nat)) [] ([] : List Int) := RC.nil _ _ _
  refine le' (e_lit (vs := []) (C := #[]) RI.lasts Sl_41 Zr_3 rfl rfl rfl rfl (fill_made MC_3_0 (fill_nil)) rfl rc2 rfl (by simpa using Kw.nil)) rfl (fun v5 Φ_4 D4 q3 => ?_)
  obtain ⟨fr3, h5⟩ := q3
  replace h5 : OSl (RI .i64) 3 1 Φ_4 [] v5 ([] : List Int) := by simpa using h5
  replace ph0_0 := ph0_0.frame RTAlpha.lasts fr3 (Dj.empty _)
  replace ph0_1 := ph0_1.frame RTChain.lasts fr3 (Dj.empty _)
  replace h2 := h2.frame RI.lasts fr3 (Dj.empty _)
  replace k2 := k2.frame OTAlpha.lasts fr3 (Dj.empty _) (Dj.empty _)
  replace h4 := h4.frame RTVal.lasts fr3 (Dj.empty _) (Dj.empty _)
  refine lq (q_fieldAddr Fld_102_3 rfl) rfl <| lq (q_load1 T1_41 rfl (fun w1 hw => hw.rgO (i := 0) rfl 3 1 [v2] rfl)) rfl ?_
  obtain ⟨x3, hx3, h⟩ := bind_some h
  refine le' (e_appF RI.lasts RI.one RI.flat Sl_41 Ei_3 rfl rfl rfl rfl rfl (js := [0]) (Rr := [ob v4, D1, ob u1]) rfl h5 h2 hx3) rfl (fun v6 Φ_5 D5 q4 => ?_)
  obtain ⟨⟨ap2, fr4⟩, h6⟩ := q4
  replace ph0_0 := ph0_0.frame RTAlpha.lasts fr4 (ap2.o pa0_0)
  replace ph0_1 := ph0_1.frame RTChain.lasts fr4 (ap2.o pa0_1)
  replace h2 := h2.frame RI.lasts fr4 (Dj.sub (ap2.o pa0_0) (fun k h => hs1 k (List.mem_append.2 (.inr h))))
  replace k2 := k2.frame OTAlpha.lasts fr4 (ap2.r (i := 2) rfl) (ap2.r (i := 1) rfl)
  replace h4 := h4.frame RTVal.lasts fr4 (ap2.r (i := 0) rfl) (Dj.nil _)
  refine lq (q_fieldAddr Fld_102_3 rfl) rfl <| ls (s_store (i := 0) (vs := [v6]) (C' := [.string x1.Kind, .int .i64 x1.N, v4, v6]) (O' := [(b_4, .cells #[.string x1.Kind, .int .i64 x1.N, v4, v6] 102 (0, 0)), (b_3, .cells #[u1, .slice none 0 0] 27 (0, 0)), (b_2, .cells #[.slice none 0 0, .slice none 0 0] 27 (0, 0)), (b_1, .cells #[pv0_0, pv0_1] 27 (0, 0))]) Sz_41 rfl rfl rfl (one_cells h6.one) rfl rfl ⟨h6.one, trivial⟩ rfl rfl) rfl ?_
  refine WL.nil <| WT.region <| lq (q_fieldAddr Fld_27_0 rfl) rfl <| lq (q_load1 T1_24 rfl (fun w1 hw => hw.rgO (i := 1) rfl 0 1 [u1] rfl)) rfl <| lq (q_loadN Tn_102 rfl (fun w1 hw => hw.rgO (i := 0) rfl 0 4 [.string x1.Kind, .int .i64 x1.N, v4, v6] rfl) rfl) rfl ?_
  have rc3 : RC OTAlpha 4 Φ_5 ([(ob v4 ++ []) ++ ((ob v6 ++ []))] : List (List Nat)) [.string x1.Kind, .int .i64 x1.N, v4, v6] ([(⟨x1.Kind, x1.N, x2, x3⟩ : TAlpha)] : List TAlpha) := RC.cons (c := [.string x1.Kind, .int .i64 x1.N, v4, v6]) (cells := []) ⟨v4, v6, rfl, rfl, h4, h6⟩ rfl (RC.nil _ _ _)
  refine le' (e_lit (vs := [(0, .agg [.string x1.Kind, .int .i64 x1.N, v4, v6].toArray)]) (C := #[.string x1.Kind, .int .i64 x1.N, v4, v6]) OTAlpha.lasts Sl_24 Zr_102 rfl rfl rfl rfl (fill_made MC_102_1 (fill_cons (cells := [.string ⟨#[]⟩, .int .i64 0, .slice none 0 0, .slice none 0 0]) (c := [.string x1.Kind, .int .i64 x1.N, v4, v6]) (C' := [.string x1.Kind, .int .i64 x1.N, v4, v6]) rfl rfl rfl rfl rfl (fill_nil))) rfl rc3 rfl (RC.kn OTAlpha.knows rc3)) rfl (fun v7 Φ_6 D6 q5 => ?_)
  obtain ⟨fr5, h7⟩ := q5
  replace h7 : OSl OTAlpha 102 4 Φ_6 ((ob v4 ++ []) ++ ((ob v6 ++ []))) v7 ([(⟨x1.Kind, x1.N, x2, x3⟩ : TAlpha)] : List TAlpha) := by simpa [List.append_assoc] using h7
  replace ph0_0 := ph0_0.frame RTAlpha.lasts fr5 (Dj.empty _)
  replace ph0_1 := ph0_1.frame RTChain.lasts fr5 (Dj.empty _)
  replace k2 := k2.frame OTAlpha.lasts fr5 (Dj.empty _) (Dj.empty _)
  refine WL.conv (S' := St w0 Φ_6 [(b_4, .cells #[.string x1.Kind, .int .i64 x1.N, v4, v6] 102 (0, 0)), (b_3, .cells #[u1, .slice none 0 0] 27 (0, 0)), (b_2, .cells #[.slice none 0 0, .slice none 0 0] 27 (0, 0)), (b_1, .cells #[pv0_0, pv0_1] 27 (0, 0))] [((ob v4 ++ []) ++ ((ob v6 ++ []))), ob v7, D1, ob u1]) (fun w1 hw => hw.merge (js := [2, 1]) rfl (SP.eq (by simp [List.append_assoc, ob_nil]))) ?_
  obtain ⟨x4, hx4, h⟩ := bind_some h
  refine le' (e_appO OTAlpha.lasts OTAlpha.one Sl_24 Ei_102 rfl rfl rfl rfl rfl (js := [3]) (Rr := [((ob v4 ++ []) ++ ((ob v6 ++ []))), ob v7, D1]) rfl k2 h7 (fun ap => (ap.r (i := 2) rfl)) (fun ap => (ap.r (i := 0) rfl)) hx4) rfl (fun v8 Φ_7 D7 q6 => ?_)
  obtain ⟨⟨ap3, fr6⟩, h8⟩ := q6
  replace ph0_0 := ph0_0.frame RTAlpha.lasts fr6 (ap3.o pa0_0)
  replace ph0_1 := ph0_1.frame RTChain.lasts fr6 (ap3.o pa0_1)
  refine WL.conv (S' := St w0 Φ_7 [(b_4, .cells #[.string x1.Kind, .int .i64 x1.N, v4, v6] 102 (0, 0)), (b_3, .cells #[u1, .slice none 0 0] 27 (0, 0)), (b_2, .cells #[.slice none 0 0, .slice none 0 0] 27 (0, 0)), (b_1, .cells #[pv0_0, pv0_1] 27 (0, 0))] [(D1 ++ ((ob v4 ++ []) ++ ((ob v6 ++ [])))), ob v8, ob v7]) (fun w1 hw => hw.merge (js := [3, 1]) rfl (SP.eq (by simp))) <| lq (q_fieldAddr Fld_27_0 rfl) rfl <| ls (s_store (i := 1) (vs := [v8]) (C' := [v8, .slice none 0 0]) (O' := [(b_4, .cells #[.string x1.Kind, .int .i64 x1.N, v4, v6] 102 (0, 0)), (b_3, .cells #[v8, .slice none 0 0] 27 (0, 0)), (b_2, .cells #[.slice none 0 0, .slice none 0 0] 27 (0, 0)), (b_1, .cells #[pv0_0, pv0_1] 27 (0, 0))]) Sz_24 rfl rfl rfl (one_cells h8.one) rfl rfl ⟨h8.one, trivial⟩ rfl rfl) rfl ?_
  refine WL.nil <| WT.inBlock <| WT.region <| lq (q_move rfl) rfl <| lq (q_add rfl rfl) rfl <| lq (q_assign rfl) rfl <| WL.nil ?_
  refine WT.inLoop (WT.mono (l' := [(1, .pointer (some ⟨b_1, 0, none⟩)), (2, .pointer (some ⟨b_2, 0, none⟩)), (3, .pointer (some ⟨b_3, 0, none⟩)), (4, .int .i64 (IntKind.i64.wrap (s2 + 1)))]) (S' := St w0 Φ_7 [(b_3, .cells #[v8, .slice none 0 0] 27 (0, 0)), (b_2, .cells #[.slice none 0 0, .slice none 0 0] 27 (0, 0)), (b_1, .cells #[pv0_0, pv0_1] 27 (0, 0))] [(D1 ++ ((ob v4 ++ []) ++ ((ob v6 ++ [])))), ob v8]) ⟨rfl, rfl, rfl, rfl, trivial⟩ (fun w1 hw => (hw.sel (js := [0, 0]) rfl).selO (js := [1, 1, 1]) rfl) ?_)
  exact ih1 (Φ_7, x4, v8, (D1 ++ ((ob v4 ++ []) ++ ((ob v6 ++ [])))), IntKind.i64.wrap (s2 + 1)) ⟨h, h8, ph0_0, ph0_1⟩
 replace h := ite_f h c1
 refine WT.exit rfl <| WT.seq <| sr <| lq (q_assign rfl) rfl <| WL.nil <| WT.block <| WT.loop <| WT.conv (S' := St w0 Φ_1 [(b_3, .cells #[u1, .slice none 0 0] 27 (0, 0)), (b_2, .cells #[.slice none 0 0, .slice none 0 0] 27 (0, 0)), (b_1, .cells #[pv0_0, pv0_1] 27 (0, 0))] (ob (.slice none 0 0) :: [D1, ob u1])) (fun w1 hw => hw.addNil) <| WT.conv (S' := St w0 Φ_1 [(b_3, .cells #[u1, .slice none 0 0] 27 (0, 0)), (b_2, .cells #[.slice none 0 0, .slice none 0 0] 27 (0, 0)), (b_1, .cells #[pv0_0, pv0_1] 27 (0, 0))] ([] :: [ob (.slice none 0 0), D1, ob u1])) (fun w1 hw => hw.addNil) ?_
 have k3 := OSl.nil OTChain 43 2 Φ_1
 refine WT.mono (l' := [(1, .pointer (some ⟨b_1, 0, none⟩)), (2, .pointer (some ⟨b_2, 0, none⟩)), (3, .pointer (some ⟨b_3, 0, none⟩)), (6, .int .i64 0)]) (S' := St w0 Φ_1 [(b_3, .cells #[u1, (.slice none 0 0)] 27 (0, 0)), (b_2, .cells #[.slice none 0 0, .slice none 0 0] 27 (0, 0)), (b_1, .cells #[pv0_0, pv0_1] 27 (0, 0))] [[], ob (.slice none 0 0), D1, ob u1]) ⟨rfl, rfl, rfl, rfl, trivial⟩ (fun w1 hw => (hw.sel (js := [0, 0, 0, 0]) rfl).selO (js := [0, 0, 0]) rfl) ?_
 refine loop_ind (σ := Hp × (List TChain) × Value × List Nat × Int) (fun s => [(1, .pointer (some ⟨b_1, 0, none⟩)), (2, .pointer (some ⟨b_2, 0, none⟩)), (3, .pointer (some ⟨b_3, 0, none⟩)), (6, .int .i64 s.2.2.2.2)]) (fun s => St w0 s.1 [(b_3, .cells #[u1, s.2.2.1] 27 (0, 0)), (b_2, .cells #[.slice none 0 0, .slice none 0 0] 27 (0, 0)), (b_1, .cells #[pv0_0, pv0_1] 27 (0, 0))] [s.2.2.2.1, ob s.2.2.1, D1, ob u1]) (fun m s => m_s_l12Copy_l2 N p0 s1 m s.2.1 s.2.2.2.2 = some r ∧ (OSl OTAlpha 102 4 s.1 D1 u1 s1) ∧ (OSl OTChain 43 2 s.1 s.2.2.2.1 s.2.2.1 s.2.1) ∧ (RSl RTAlpha 4 s.1 pG0_0 pv0_0 p0.Alphas) ∧ (RSl RTChain 2 s.1 pG0_1 pv0_1 p0.Chains)) (fun s hm => none_ne (show (none : Option (TNet)) = some r from hm.1)) (fun n2 ih2 s hm => ?_) N (Φ_1, ([] : List TChain), (.slice none 0 0), [], 0) ⟨h, k2, k3, ph0_0, ph0_1⟩
 obtain ⟨Φ_8, s3, u2, D8, s4⟩ := s
 obtain ⟨h, k2, k4, ph0_0, ph0_1⟩ := hm
 replace h : m_s_l12Copy_l2 N p0 s1 (n2 + 1) s3 s4 = some r := h
 replace k2 : OSl OTAlpha 102 4 Φ_8 D1 u1 s1 := k2
 replace k4 : OSl OTChain 43 2 Φ_8 D8 u2 s3 := k4
 replace ph0_0 : RSl RTAlpha 4 Φ_8 pG0_0 pv0_0 p0.Alphas := ph0_0
 replace ph0_1 : RSl RTChain 2 Φ_8 pG0_1 pv0_1 p0.Chains := ph0_1
 show WT _ _ [(1, .pointer (some ⟨b_1, 0, none⟩)), (2, .pointer (some ⟨b_2, 0, none⟩)), (3, .pointer (some ⟨b_3, 0, none⟩)), (6, .int .i64 s4)] (St w0 Φ_8 [(b_3, .cells #[u1, u2] 27 (0, 0)), (b_2, .cells #[.slice none 0 0, .slice none 0 0] 27 (0, 0)), (b_1, .cells #[pv0_0, pv0_1] 27 (0, 0))] [D8, ob u2, D1, ob u1])
 unfold m_s_l12Copy_l2 at h
 refine WT.seq <| sr <| lq (q_move rfl) rfl <| lq (q_fieldAddr Fld_27_1 rfl) rfl <| lq (q_load1 T1_25 rfl (fun w1 hw => hw.rgO (i := 2) rfl 1 1 [pv0_1] rfl)) rfl <| lq (q_lenR Sl_25 rfl rfl ph0_1) rfl <| lq (q_lss rfl rfl) rfl <| WL.nil ?_
 refine WT.cond rfl (fun c2 => ?_) (fun c2 => ?_)
 ·replace h := ite_t h c2
  refine WT.skip <| WT.seq <| WT.block <| sr <| lq (q_fieldAddr Fld_27_1 rfl) rfl <| lq (q_load1 T1_25 rfl (fun w1 hw => hw.rgO (i := 2) rfl 1 1 [pv0_1] rfl)) rfl <| lq (q_move rfl) rfl ?_
  obtain ⟨x5, hx5, h⟩ := bind_some h
  obtain ⟨cs2, F2, -, g2, hb2, hs2, r2⟩ := ph0_1.el (idx_some hx5).2.2
  obtain ⟨v9, G3, v10, G4, rfl, rfl, h9, h10⟩ := r2
  refine lq (q_indexAddr Sl_25 rfl rfl ph0_1 hx5) rfl <| lq (q_loadN Tn_43 rfl (fun w1 hw => (g2.of_eq 0 2 rfl rfl : rg _ _ _ [v9, v10]).rangeAt hw.fro) rfl) rfl ?_
  refine ln (n_alloc (C := #[.slice none 0 0, .slice none 0 0]) Zr_43 rfl) rfl (fun b_5 => ?_)
  refine ls (s_store (i := 0) (vs := [v9, v10]) (C' := [v9, v10]) (O' := [(b_5, .cells #[v9, v10] 43 (0, 0)), (b_3, .cells #[u1, u2] 27 (0, 0)), (b_2, .cells #[.slice none 0 0, .slice none 0 0] 27 (0, 0)), (b_1, .cells #[pv0_0, pv0_1] 27 (0, 0))]) Sz_43 rfl rfl rfl rfl rfl rfl ⟨h9.one, h10.one, trivial⟩ rfl rfl) rfl <| WL.nil ?_
  refine cut (σ := Hp × (List TChain) × Value × List Nat) (fun s => [(1, .pointer (some ⟨b_1, 0, none⟩)), (2, .pointer (some ⟨b_2, 0, none⟩)), (3, .pointer (some ⟨b_3, 0, none⟩)), (6, .int .i64 s4)]) (fun s => St w0 s.1 [(b_3, .cells #[u1, s.2.2.1] 27 (0, 0)), (b_2, .cells #[.slice none 0 0, .slice none 0 0] 27 (0, 0)), (b_1, .cells #[pv0_0, pv0_1] 27 (0, 0))] [s.2.2.2, ob s.2.2.1, D1, ob u1]) (fun s => m_s_l12Copy_j3 N s4 (m_s_l12Copy_l2 N p0 s1 n2) s.2.1 = some r ∧ (OSl OTAlpha 102 4 s.1 D1 u1 s1) ∧ (OSl OTChain 43 2 s.1 s.2.2.2 s.2.2.1 s.2.1) ∧ (RSl RTAlpha 4 s.1 pG0_0 pv0_0 p0.Alphas) ∧ (RSl RTChain 2 s.1 pG0_1 pv0_1 p0.Chains)) (fun s hm => ?_) (fun K => ?_)
  ·clear h
   obtain ⟨Φ_15, s5, u3, D15⟩ := s
   obtain ⟨h, k2, k5, ph0_0, ph0_1⟩ := hm
   replace h : m_s_l12Copy_j3 N s4 (m_s_l12Copy_l2 N p0 s1 n2) s5 = some r := h
   replace k2 : OSl OTAlpha 102 4 Φ_15 D1 u1 s1 := k2
   replace k5 : OSl OTChain 43 2 Φ_15 D15 u3 s5 := k5
   replace ph0_0 : RSl RTAlpha 4 Φ_15 pG0_0 pv0_0 p0.Alphas := ph0_0
   replace ph0_1 : RSl RTChain 2 Φ_15 pG0_1 pv0_1 p0.Chains := ph0_1
   show WT _ _ [(1, .pointer (some ⟨b_1, 0, none⟩)), (2, .pointer (some ⟨b_2, 0, none⟩)), (3, .pointer (some ⟨b_3, 0, none⟩)), (6, .int .i64 s4)] (St w0 Φ_15 [(b_3, .cells #[u1, u3] 27 (0, 0)), (b_2, .cells #[.slice none 0 0, .slice none 0 0] 27 (0, 0)), (b_1, .cells #[pv0_0, pv0_1] 27 (0, 0))] [D15, ob u3, D1, ob u1])
   unfold m_s_l12Copy_j3 at h
   refine WT.inBlock <| WT.region <| lq (q_move rfl) rfl <| lq (q_add rfl rfl) rfl <| lq (q_assign rfl) rfl <| WL.nil ?_
   refine WT.inLoop (WT.mono (l' := [(1, .pointer (some ⟨b_1, 0, none⟩)), (2, .pointer (some ⟨b_2, 0, none⟩)), (3, .pointer (some ⟨b_3, 0, none⟩)), (6, .int .i64 (IntKind.i64.wrap (s4 + 1)))]) (S' := St w0 Φ_15 [(b_3, .cells #[u1, u3] 27 (0, 0)), (b_2, .cells #[.slice none 0 0, .slice none 0 0] 27 (0, 0)), (b_1, .cells #[pv0_0, pv0_1] 27 (0, 0))] [D15, ob u3, D1, ob u1]) ⟨rfl, rfl, rfl, rfl, trivial⟩ (fun w1 hw => (hw.sel (js := [0, 0, 0, 0]) rfl).selO (js := [0, 0, 0]) rfl) ?_)
   exact ih2 (Φ_15, s5, u3, D15, IntKind.i64.wrap (s4 + 1)) ⟨h, k2, k5, ph0_0, ph0_1⟩
  refine WT.mix (Kn Φ_8 [] [(b_5, .cells #[v9, v10] 43 (0, 0)), (b_3, .cells #[u1, u2] 27 (0, 0)), (b_2, .cells #[.slice none 0 0, .slice none 0 0] 27 (0, 0)), (b_1, .cells #[pv0_0, pv0_1] 27 (0, 0))]) (fun i => match i with | 14 => false | _ => true) mixed (fun _ h => h.drew) <| mq 0 rfl (by kernel_rfl) (fun w1 hw => Kn.of (fun k hk _ _ => by simp at hk) (AllIn.mem ⟨gM 0 rfl, gM 1 rfl, gM 2 rfl, gM 3 rfl, trivial⟩) hw) (q_fieldAddr Fld_27_1 rfl) rfl ?_
  refine mq 1 rfl (by kernel_rfl) (fun w1 hw => Kn.of (fun k hk _ _ => by simp at hk) (AllIn.mem ⟨gM 0 rfl, gM 1 rfl, gM 2 rfl, gM 3 rfl, trivial⟩) hw) (q_load1 T1_25 rfl (fun w1 hw => hw.rgO (i := 1) rfl 1 1 [u2] rfl)) rfl <| mq 3 rfl (by kernel_rfl) (fun w1 hw => Kn.of (fun k hk _ _ => by simp at hk) (AllIn.mem ⟨gM 0 rfl, gM 1 rfl, gM 2 rfl, gM 3 rfl, trivial⟩) hw) (q_fieldAddr Fld_43_0 rfl) rfl ?_
  refine mq 4 rfl (by kernel_rfl) (fun w1 hw => Kn.of (fun k hk _ _ => by simp at hk) (AllIn.mem ⟨gM 0 rfl, gM 1 rfl, gM 2 rfl, gM 3 rfl, trivial⟩) hw) (q_load1 T1_41 rfl (fun w1 hw => hw.rgO (i := 0) rfl 0 1 [v9] rfl)) rfl <| mq 7 rfl (by kernel_rfl) (fun w1 hw => Kn.of (fun k hk _ _ => by simp at hk) (AllIn.mem ⟨gM 0 rfl, gM 1 rfl, gM 2 rfl, gM 3 rfl, trivial⟩) hw) (q_fieldAddr Fld_43_1 rfl) rfl ?_
  refine mq 8 rfl (by kernel_rfl) (fun w1 hw => Kn.of (fun k hk _ _ => by simp at hk) (AllIn.mem ⟨gM 0 rfl, gM 1 rfl, gM 2 rfl, gM 3 rfl, trivial⟩) hw) (q_load1 T1_41 rfl (fun w1 hw => hw.rgO (i := 0) rfl 1 1 [v10] rfl)) rfl ?_
  refine WM.two 2 6 (by kernel_rfl) ?_ ?_
  ·skip
   have rc7 : RC (RI .i64) 1 Φ_8 ([] : List (List Nat)) [] ([] : List Int) := RC.nil _ _ _
   refine me rfl (fun _ v Φx D w1 hq hw => Kn.of (fun k hk _ _ => by simp at hk) (AllIn.mem ⟨gM 0 rfl, gM 1 rfl, gM 2 rfl, gM 3 rfl, trivial⟩) hw) (e_lit (vs := []) (C := #[]) RI.lasts Sl_41 Zr_3 rfl rfl rfl rfl (fill_made MC_3_0 (fill_nil)) rfl rc7 rfl (by simpa using Kw.nil)) rfl (fun v17 Φ_16 D16 q13 => ?_)
   obtain ⟨fr13, h17⟩ := q13
   replace h17 : OSl (RI .i64) 3 1 Φ_16 [] v17 ([] : List Int) := by simpa using h17
   replace ph0_0 := ph0_0.frame RTAlpha.lasts fr13 (Dj.empty _)
   replace ph0_1 := ph0_1.frame RTChain.lasts fr13 (Dj.empty _)
   replace h9 := h9.frame RI.lasts fr13 (Dj.empty _)
   replace h10 := h10.frame RI.lasts fr13 (Dj.empty _)
   replace k2 := k2.frame OTAlpha.lasts fr13 (Dj.empty _) (Dj.empty _)
   replace k4 := k4.frame OTChain.lasts fr13 (Dj.empty _) (Dj.empty _)
   refine WM.two 5 6 (by kernel_rfl) ?_ ?_
   ·skip
    obtain ⟨x9, hx9, h⟩ := bind_some h
    refine me rfl (fun _ v Φx D w1 hq hw => Kn.of (fun k hk _ _ => by simp at hk) (AllIn.mem ⟨gM 0 rfl, gM 1 rfl, gM 2 rfl, gM 3 rfl, trivial⟩) hw) (e_appF RI.lasts RI.one RI.flat Sl_41 Ei_3 rfl rfl rfl rfl rfl (js := [0]) (Rr := [D8, ob u2, D1, ob u1]) rfl h17 h9 hx9) rfl (fun v18 Φ_17 D17 q14 => ?_)
    obtain ⟨⟨ap7, fr14⟩, h18⟩ := q14
    replace ph0_0 := ph0_0.frame RTAlpha.lasts fr14 (ap7.o pa0_0)
    replace ph0_1 := ph0_1.frame RTChain.lasts fr14 (ap7.o pa0_1)
    replace h10 := h10.frame RI.lasts fr14 (Dj.sub (ap7.o pa0_1) (fun k h => hs2 k (List.mem_append.2 (.inr h))))
    replace k2 := k2.frame OTAlpha.lasts fr14 (ap7.r (i := 3) rfl) (ap7.r (i := 2) rfl)
    replace k4 := k4.frame OTChain.lasts fr14 (ap7.r (i := 1) rfl) (ap7.r (i := 0) rfl)
    have rc8 : RC (RI .i64) 1 Φ_17 ([] : List (List Nat)) [] ([] : List Int) := RC.nil _ _ _
    refine WM.one 6 (by kernel_rfl) (me rfl (fun _ v Φx D w1 hq hw => Kn.of (fun k hk _ _ => by simp at hk) (AllIn.mem ⟨gM 0 rfl, gM 1 rfl, gM 2 rfl, gM 3 rfl, trivial⟩) hw) (e_lit (vs := []) (C := #[]) RI.lasts Sl_41 Zr_3 rfl rfl rfl rfl (fill_made MC_3_0 (fill_nil)) rfl rc8 rfl (by simpa using Kw.nil)) rfl (fun v19 Φ_18 D18 q15 => ?_))
    obtain ⟨fr15, h19⟩ := q15
    replace h19 : OSl (RI .i64) 3 1 Φ_18 [] v19 ([] : List Int) := by simpa using h19
    replace ph0_0 := ph0_0.frame RTAlpha.lasts fr15 (Dj.empty _)
    replace ph0_1 := ph0_1.frame RTChain.lasts fr15 (Dj.empty _)
    replace h10 := h10.frame RI.lasts fr15 (Dj.empty _)
    replace k2 := k2.frame OTAlpha.lasts fr15 (Dj.empty _) (Dj.empty _)
    replace k4 := k4.frame OTChain.lasts fr15 (Dj.empty _) (Dj.empty _)
    replace h18 := h18.frame RI.lasts fr15 (Dj.empty _) (Dj.empty _)
    obtain ⟨x10, hx10, h⟩ := bind_some h
    refine WM.one 9 (by kernel_rfl) (me rfl (fun _ v Φx D w1 hq hw => Kn.of (fun k hk _ _ => by simp at hk) (AllIn.mem ⟨gM 0 rfl, gM 1 rfl, gM 2 rfl, gM 3 rfl, trivial⟩) hw) (e_appF RI.lasts RI.one RI.flat Sl_41 Ei_3 rfl rfl rfl rfl rfl (js := [0]) (Rr := [ob v18, D8, ob u2, D1, ob u1]) rfl h19 h10 hx10) rfl (fun v20 Φ_19 D19 q16 => ?_))
    obtain ⟨⟨ap8, fr16⟩, h20⟩ := q16
    replace ph0_0 := ph0_0.frame RTAlpha.lasts fr16 (ap8.o pa0_0)
    replace ph0_1 := ph0_1.frame RTChain.lasts fr16 (ap8.o pa0_1)
    replace k2 := k2.frame OTAlpha.lasts fr16 (ap8.r (i := 4) rfl) (ap8.r (i := 3) rfl)
    replace k4 := k4.frame OTChain.lasts fr16 (ap8.r (i := 2) rfl) (ap8.r (i := 1) rfl)
    replace h18 := h18.frame RI.lasts fr16 (ap8.r (i := 0) rfl) (Dj.nil _)
    refine mq 10 rfl (by kernel_rfl) (fun w1 hw => Kn.of (fun k hk _ _ => by simp at hk) (AllIn.mem ⟨gM 0 rfl, gM 1 rfl, gM 2 rfl, gM 3 rfl, trivial⟩) hw) (q_build (vs := [(0, v18), (1, v20)]) (C := #[v18, v20]) Pl_43 Zr_43 rfl (fill_cons (cells := [.slice none 0 0, .slice none 0 0]) (c := [v18]) (C' := [v18, .slice none 0 0]) rfl (one_cells h18.one) rfl rfl rfl (fill_cons (cells := [v18, .slice none 0 0]) (c := [v20]) (C' := [v18, v20]) rfl (one_cells h20.one) rfl rfl rfl (fill_nil)))) rfl ?_
    have rc9 : RC OTChain 2 Φ_19 ([(ob v18 ++ []) ++ ((ob v20 ++ []))] : List (List Nat)) [v18, v20] ([(⟨x9, x10⟩ : TChain)] : List TChain) := RC.cons (c := [v18, v20]) (cells := []) ⟨v18, v20, rfl, rfl, h18, h20⟩ rfl (RC.nil _ _ _)
    refine WM.one 11 (by kernel_rfl) (me rfl (fun _ v Φx D w1 hq hw => Kn.of (fun k hk _ _ => by simp at hk) (AllIn.mem ⟨gM 0 rfl, gM 1 rfl, gM 2 rfl, gM 3 rfl, trivial⟩) hw) (e_lit (vs := [(0, .agg [v18, v20].toArray)]) (C := #[v18, v20]) OTChain.lasts Sl_25 Zr_43 rfl rfl rfl rfl (fill_made MC_43_1 (fill_cons (cells := [.slice none 0 0, .slice none 0 0]) (c := [v18, v20]) (C' := [v18, v20]) rfl rfl rfl rfl rfl (fill_nil))) rfl rc9 rfl (RC.kn OTChain.knows rc9)) rfl (fun v21 Φ_20 D20 q17 => ?_))
    obtain ⟨fr17, h21⟩ := q17
    replace h21 : OSl OTChain 43 2 Φ_20 ((ob v18 ++ []) ++ ((ob v20 ++ []))) v21 ([(⟨x9, x10⟩ : TChain)] : List TChain) := by simpa [List.append_assoc] using h21
    replace ph0_0 := ph0_0.frame RTAlpha.lasts fr17 (Dj.empty _)
    replace ph0_1 := ph0_1.frame RTChain.lasts fr17 (Dj.empty _)
    replace k2 := k2.frame OTAlpha.lasts fr17 (Dj.empty _) (Dj.empty _)
    replace k4 := k4.frame OTChain.lasts fr17 (Dj.empty _) (Dj.empty _)
    refine WM.conv (S' := St w0 Φ_20 [(b_5, .cells #[v9, v10] 43 (0, 0)), (b_3, .cells #[u1, u2] 27 (0, 0)), (b_2, .cells #[.slice none 0 0, .slice none 0 0] 27 (0, 0)), (b_1, .cells #[pv0_0, pv0_1] 27 (0, 0))] [((ob v18 ++ []) ++ ((ob v20 ++ []))), ob v21, D8, ob u2, D1, ob u1]) (fun w1 hw => hw.merge (js := [2, 1]) rfl (SP.eq (by simp [List.append_assoc, ob_nil]))) ?_
    obtain ⟨x11, hx11, h⟩ := bind_some h
    refine WM.one 12 (by kernel_rfl) (me rfl (fun _ v Φx D w1 hq hw => Kn.of (fun k hk _ _ => by simp at hk) (AllIn.mem ⟨gM 0 rfl, gM 1 rfl, gM 2 rfl, gM 3 rfl, trivial⟩) hw) (e_appO OTChain.lasts OTChain.one Sl_25 Ei_43 rfl rfl rfl rfl rfl (js := [3]) (Rr := [((ob v18 ++ []) ++ ((ob v20 ++ []))), ob v21, D8, D1, ob u1]) rfl k4 h21 (fun ap => (ap.r (i := 2) rfl)) (fun ap => (ap.r (i := 0) rfl)) hx11) rfl (fun v22 Φ_21 D21 q18 => ?_))
    obtain ⟨⟨ap9, fr18⟩, h22⟩ := q18
    replace ph0_0 := ph0_0.frame RTAlpha.lasts fr18 (ap9.o pa0_0)
    replace ph0_1 := ph0_1.frame RTChain.lasts fr18 (ap9.o pa0_1)
    replace k2 := k2.frame OTAlpha.lasts fr18 (ap9.r (i := 4) rfl) (ap9.r (i := 3) rfl)
    refine WM.conv (S' := St w0 Φ_21 [(b_5, .cells #[v9, v10] 43 (0, 0)), (b_3, .cells #[u1, u2] 27 (0, 0)), (b_2, .cells #[.slice none 0 0, .slice none 0 0] 27 (0, 0)), (b_1, .cells #[pv0_0, pv0_1] 27 (0, 0))] [(D8 ++ ((ob v18 ++ []) ++ ((ob v20 ++ [])))), ob v22, ob v21, D1, ob u1]) (fun w1 hw => hw.merge (js := [3, 1]) rfl (SP.eq (by simp))) <| mq 13 rfl (by kernel_rfl) (fun w1 hw => Kn.of (fun k hk _ _ => by simp at hk) (AllIn.mem ⟨gM 0 rfl, gM 1 rfl, gM 2 rfl, gM 3 rfl, trivial⟩) hw) (q_fieldAddr Fld_27_1 rfl) rfl ?_
    refine WM.one 14 (by kernel_rfl) (ms rfl (fun hc => by cases hc) (s_store (i := 1) (vs := [v22]) (C' := [u1, v22]) (O' := [(b_5, .cells #[v9, v10] 43 (0, 0)), (b_3, .cells #[u1, v22] 27 (0, 0)), (b_2, .cells #[.slice none 0 0, .slice none 0 0] 27 (0, 0)), (b_1, .cells #[pv0_0, pv0_1] 27 (0, 0))]) Sz_25 rfl rfl rfl (one_cells h22.one) rfl rfl ⟨h22.one, trivial⟩ rfl rfl) rfl ?_)
    refine WM.nil (by kernel_rfl) <| WT.mono (l' := [(1, .pointer (some ⟨b_1, 0, none⟩)), (2, .pointer (some ⟨b_2, 0, none⟩)), (3, .pointer (some ⟨b_3, 0, none⟩)), (6, .int .i64 s4)]) (S' := St w0 Φ_21 [(b_3, .cells #[u1, v22] 27 (0, 0)), (b_2, .cells #[.slice none 0 0, .slice none 0 0] 27 (0, 0)), (b_1, .cells #[pv0_0, pv0_1] 27 (0, 0))] [(D8 ++ ((ob v18 ++ []) ++ ((ob v20 ++ [])))), ob v22, D1, ob u1]) ⟨rfl, rfl, rfl, rfl, trivial⟩ (fun w1 hw => (hw.sel (js := [0, 0, 1, 1]) rfl).selO (js := [1, 1, 1]) rfl) ?_
    exact K (Φ_21, x11, v22, (D8 ++ ((ob v18 ++ []) ++ ((ob v20 ++ []))))) ⟨h, k2, h22, ph0_0, ph0_1⟩
   have rc10 : RC (RI .i64) 1 Φ_16 ([] : List (List Nat)) [] ([] : List Int) := RC.nil _ _ _
   refine me rfl (fun _ v Φx D w1 hq hw => Kn.of (fun k hk _ _ => by simp at hk) (AllIn.mem ⟨gM 0 rfl, gM 1 rfl, gM 2 rfl, gM 3 rfl, trivial⟩) hw) (e_lit (vs := []) (C := #[]) RI.lasts Sl_41 Zr_3 rfl rfl rfl rfl (fill_made MC_3_0 (fill_nil)) rfl rc10 rfl (by simpa using Kw.nil)) rfl (fun v23 Φ_22 D22 q19 => ?_)
   obtain ⟨fr19, h23⟩ := q19
   replace h23 : OSl (RI .i64) 3 1 Φ_22 [] v23 ([] : List Int) := by simpa using h23
   replace ph0_0 := ph0_0.frame RTAlpha.lasts fr19 (Dj.empty _)
   replace ph0_1 := ph0_1.frame RTChain.lasts fr19 (Dj.empty _)
   replace h9 := h9.frame RI.lasts fr19 (Dj.empty _)
   replace h10 := h10.frame RI.lasts fr19 (Dj.empty _)
   replace k2 := k2.frame OTAlpha.lasts fr19 (Dj.empty _) (Dj.empty _)
   replace k4 := k4.frame OTChain.lasts fr19 (Dj.empty _) (Dj.empty _)
   replace h17 := h17.frame RI.lasts fr19 (Dj.empty _) (Dj.empty _)
   obtain ⟨x12, hx12, h⟩ := bind_some h
   refine WM.one 5 (by kernel_rfl) (me rfl (fun _ v Φx D w1 hq hw => Kn.of (fun k hk _ _ => by simp at hk) (AllIn.mem ⟨gM 0 rfl, gM 1 rfl, gM 2 rfl, gM 3 rfl, trivial⟩) hw) (e_appF RI.lasts RI.one RI.flat Sl_41 Ei_3 rfl rfl rfl rfl rfl (js := [1]) (Rr := [ob v23, D8, ob u2, D1, ob u1]) rfl h17 h9 hx12) rfl (fun v24 Φ_23 D23 q20 => ?_))
   obtain ⟨⟨ap10, fr20⟩, h24⟩ := q20
   replace ph0_0 := ph0_0.frame RTAlpha.lasts fr20 (ap10.o pa0_0)
   replace ph0_1 := ph0_1.frame RTChain.lasts fr20 (ap10.o pa0_1)
   replace h10 := h10.frame RI.lasts fr20 (Dj.sub (ap10.o pa0_1) (fun k h => hs2 k (List.mem_append.2 (.inr h))))
   replace k2 := k2.frame OTAlpha.lasts fr20 (ap10.r (i := 4) rfl) (ap10.r (i := 3) rfl)
   replace h23 := h23.frame RI.lasts fr20 (ap10.r (i := 0) rfl) (Dj.nil _)
   replace k4 := k4.frame OTChain.lasts fr20 (ap10.r (i := 2) rfl) (ap10.r (i := 1) rfl)
   obtain ⟨x13, hx13, h⟩ := bind_some h
   refine WM.one 9 (by kernel_rfl) (me rfl (fun _ v Φx D w1 hq hw => Kn.of (fun k hk _ _ => by simp at hk) (AllIn.mem ⟨gM 0 rfl, gM 1 rfl, gM 2 rfl, gM 3 rfl, trivial⟩) hw) (e_appF RI.lasts RI.one RI.flat Sl_41 Ei_3 rfl rfl rfl rfl rfl (js := [1]) (Rr := [ob v24, D8, ob u2, D1, ob u1]) rfl h23 h10 hx13) rfl (fun v25 Φ_24 D24 q21 => ?_))
   obtain ⟨⟨ap11, fr21⟩, h25⟩ := q21
   replace ph0_0 := ph0_0.frame RTAlpha.lasts fr21 (ap11.o pa0_0)
   replace ph0_1 := ph0_1.frame RTChain.lasts fr21 (ap11.o pa0_1)
   replace k2 := k2.frame OTAlpha.lasts fr21 (ap11.r (i := 4) rfl) (ap11.r (i := 3) rfl)
   replace k4 := k4.frame OTChain.lasts fr21 (ap11.r (i := 2) rfl) (ap11.r (i := 1) rfl)
   replace h24 := h24.frame RI.lasts fr21 (ap11.r (i := 0) rfl) (Dj.nil _)
   refine mq 10 rfl (by kernel_rfl) (fun w1 hw => Kn.of (fun k hk _ _ => by simp at hk) (AllIn.mem ⟨gM 0 rfl, gM 1 rfl, gM 2 rfl, gM 3 rfl, trivial⟩) hw) (q_build (vs := [(0, v24), (1, v25)]) (C := #[v24, v25]) Pl_43 Zr_43 rfl (fill_cons (cells := [.slice none 0 0, .slice none 0 0]) (c := [v24]) (C' := [v24, .slice none 0 0]) rfl (one_cells h24.one) rfl rfl rfl (fill_cons (cells := [v24, .slice none 0 0]) (c := [v25]) (C' := [v24, v25]) rfl (one_cells h25.one) rfl rfl rfl (fill_nil)))) rfl ?_
   have rc11 : RC OTChain 2 Φ_24 ([(ob v24 ++ []) ++ ((ob v25 ++ []))] : List (List Nat)) [v24, v25] ([(⟨x12, x13⟩ : TChain)] : List TChain) := RC.cons (c := [v24, v25]) (cells := []) ⟨v24, v25, rfl, rfl, h24, h25⟩ rfl (RC.nil _ _ _)
   refine WM.one 11 (by kernel_rfl) (me rfl (fun _ v Φx D w1 hq hw => Kn.of (fun k hk _ _ => by simp at hk) (AllIn.mem ⟨gM 0 rfl, gM 1 rfl, gM 2 rfl, gM 3 rfl, trivial⟩) hw) (e_lit (vs := [(0, .agg [v24, v25].toArray)]) (C := #[v24, v25]) OTChain.lasts Sl_25 Zr_43 rfl rfl rfl rfl (fill_made MC_43_1 (fill_cons (cells := [.slice none 0 0, .slice none 0 0]) (c := [v24, v25]) (C' := [v24, v25]) rfl rfl rfl rfl rfl (fill_nil))) rfl rc11 rfl (RC.kn OTChain.knows rc11)) rfl (fun v26 Φ_25 D25 q22 => ?_))
   obtain ⟨fr22, h26⟩ := q22
   replace h26 : OSl OTChain 43 2 Φ_25 ((ob v24 ++ []) ++ ((ob v25 ++ []))) v26 ([(⟨x12, x13⟩ : TChain)] : List TChain) := by simpa [List.append_assoc] using h26
   replace ph0_0 := ph0_0.frame RTAlpha.lasts fr22 (Dj.empty _)
   replace ph0_1 := ph0_1.frame RTChain.lasts fr22 (Dj.empty _)
   replace k2 := k2.frame OTAlpha.lasts fr22 (Dj.empty _) (Dj.empty _)
   replace k4 := k4.frame OTChain.lasts fr22 (Dj.empty _) (Dj.empty _)
   refine WM.conv (S' := St w0 Φ_25 [(b_5, .cells #[v9, v10] 43 (0, 0)), (b_3, .cells #[u1, u2] 27 (0, 0)), (b_2, .cells #[.slice none 0 0, .slice none 0 0] 27 (0, 0)), (b_1, .cells #[pv0_0, pv0_1] 27 (0, 0))] [((ob v24 ++ []) ++ ((ob v25 ++ []))), ob v26, D8, ob u2, D1, ob u1]) (fun w1 hw => hw.merge (js := [2, 1]) rfl (SP.eq (by simp [List.append_assoc, ob_nil]))) ?_
   obtain ⟨x14, hx14, h⟩ := bind_some h
   refine WM.one 12 (by kernel_rfl) (me rfl (fun _ v Φx D w1 hq hw => Kn.of (fun k hk _ _ => by simp at hk) (AllIn.mem ⟨gM 0 rfl, gM 1 rfl, gM 2 rfl, gM 3 rfl, trivial⟩) hw) (e_appO OTChain.lasts OTChain.one Sl_25 Ei_43 rfl rfl rfl rfl rfl (js := [3]) (Rr := [((ob v24 ++ []) ++ ((ob v25 ++ []))), ob v26, D8, D1, ob u1]) rfl k4 h26 (fun ap => (ap.r (i := 2) rfl)) (fun ap => (ap.r (i := 0) rfl)) hx14) rfl (fun v27 Φ_26 D26 q23 => ?_))
   obtain ⟨⟨ap12, fr23⟩, h27⟩ := q23
   replace ph0_0 := ph0_0.frame RTAlpha.lasts fr23 (ap12.o pa0_0)
   replace ph0_1 := ph0_1.frame RTChain.lasts fr23 (ap12.o pa0_1)
   replace k2 := k2.frame OTAlpha.lasts fr23 (ap12.r (i := 4) rfl) (ap12.r (i := 3) rfl)
   refine WM.conv (S' := St w0 Φ_26 [(b_5, .cells #[v9, v10] 43 (0, 0)), (b_3, .cells #[u1, u2] 27 (0, 0)), (b_2, .cells #[.slice none 0 0, .slice none 0 0] 27 (0, 0)), (b_1, .cells #[pv0_0, pv0_1] 27 (0, 0))] [(D8 ++ ((ob v24 ++ []) ++ ((ob v25 ++ [])))), ob v27, ob v26, D1, ob u1]) (fun w1 hw => hw.merge (js := [3, 1]) rfl (SP.eq (by simp))) <| mq 13 rfl (by kernel_rfl) (fun w1 hw => Kn.of (fun k hk _ _ => by simp at hk) (AllIn.mem ⟨gM 0 rfl, gM 1 rfl, gM 2 rfl, gM 3 rfl, trivial⟩) hw) (q_fieldAddr Fld_27_1 rfl) rfl ?_
   refine WM.one 14 (by kernel_rfl) (ms rfl (fun hc => by cases hc) (s_store (i := 1) (vs := [v27]) (C' := [u1, v27]) (O' := [(b_5, .cells #[v9, v10] 43 (0, 0)), (b_3, .cells #[u1, v27] 27 (0, 0)), (b_2, .cells #[.slice none 0 0, .slice none 0 0] 27 (0, 0)), (b_1, .cells #[pv0_0, pv0_1] 27 (0, 0))]) Sz_25 rfl rfl rfl (one_cells h27.one) rfl rfl ⟨h27.one, trivial⟩ rfl rfl) rfl ?_)
   refine WM.nil (by kernel_rfl) <| WT.mono (l' := [(1, .pointer (some ⟨b_1, 0, none⟩)), (2, .pointer (some ⟨b_2, 0, none⟩)), (3, .pointer (some ⟨b_3, 0, none⟩)), (6, .int .i64 s4)]) (S' := St w0 Φ_26 [(b_3, .cells #[u1, v27] 27 (0, 0)), (b_2, .cells #[.slice none 0 0, .slice none 0 0] 27 (0, 0)), (b_1, .cells #[pv0_0, pv0_1] 27 (0, 0))] [(D8 ++ ((ob v24 ++ []) ++ ((ob v25 ++ [])))), ob v27, D1, ob u1]) ⟨rfl, rfl, rfl, rfl, trivial⟩ (fun w1 hw => (hw.sel (js := [0, 0, 1, 1]) rfl).selO (js := [1, 1, 1]) rfl) ?_
   exact K (Φ_26, x14, v27, (D8 ++ ((ob v24 ++ []) ++ ((ob v25 ++ []))))) ⟨h, k2, h27, ph0_0, ph0_1⟩
  have rc12 : RC (RI .i64) 1 Φ_8 ([] : List (List Nat)) [] ([] : List Int) := RC.nil _ _ _
  refine me rfl (fun _ v Φx D w1 hq hw => Kn.of (fun k hk _ _ => by simp at hk) (AllIn.mem ⟨gM 0 rfl, gM 1 rfl, gM 2 rfl, gM 3 rfl, trivial⟩) hw) (e_lit (vs := []) (C := #[]) RI.lasts Sl_41 Zr_3 rfl rfl rfl rfl (fill_made MC_3_0 (fill_nil)) rfl rc12 rfl (by simpa using Kw.nil)) rfl (fun v28 Φ_27 D27 q24 => ?_)
  obtain ⟨fr24, h28⟩ := q24
  replace h28 : OSl (RI .i64) 3 1 Φ_27 [] v28 ([] : List Int) := by simpa using h28
  replace ph0_0 := ph0_0.frame RTAlpha.lasts fr24 (Dj.empty _)
  replace ph0_1 := ph0_1.frame RTChain.lasts fr24 (Dj.empty _)
  replace h9 := h9.frame RI.lasts fr24 (Dj.empty _)
  replace h10 := h10.frame RI.lasts fr24 (Dj.empty _)
  replace k2 := k2.frame OTAlpha.lasts fr24 (Dj.empty _) (Dj.empty _)
  replace k4 := k4.frame OTChain.lasts fr24 (Dj.empty _) (Dj.empty _)
  have rc13 : RC (RI .i64) 1 Φ_27 ([] : List (List Nat)) [] ([] : List Int) := RC.nil _ _ _
  refine WM.one 2 (by kernel_rfl) (me rfl (fun _ v Φx D w1 hq hw => Kn.of (fun k hk _ _ => by simp at hk) (AllIn.mem ⟨gM 0 rfl, gM 1 rfl, gM 2 rfl, gM 3 rfl, trivial⟩) hw) (e_lit (vs := []) (C := #[]) RI.lasts Sl_41 Zr_3 rfl rfl rfl rfl (fill_made MC_3_0 (fill_nil)) rfl rc13 rfl (by simpa using Kw.nil)) rfl (fun v29 Φ_28 D28 q25 => ?_))
  obtain ⟨fr25, h29⟩ := q25
  replace h29 : OSl (RI .i64) 3 1 Φ_28 [] v29 ([] : List Int) := by simpa using h29
  replace ph0_0 := ph0_0.frame RTAlpha.lasts fr25 (Dj.empty _)
  replace ph0_1 := ph0_1.frame RTChain.lasts fr25 (Dj.empty _)
  replace h9 := h9.frame RI.lasts fr25 (Dj.empty _)
  replace h10 := h10.frame RI.lasts fr25 (Dj.empty _)
  replace k2 := k2.frame OTAlpha.lasts fr25 (Dj.empty _) (Dj.empty _)
  replace h28 := h28.frame RI.lasts fr25 (Dj.empty _) (Dj.empty _)
  replace k4 := k4.frame OTChain.lasts fr25 (Dj.empty _) (Dj.empty _)
  obtain ⟨x15, hx15, h⟩ := bind_some h
  refine WM.one 5 (by kernel_rfl) (me rfl (fun _ v Φx D w1 hq hw => Kn.of (fun k hk _ _ => by simp at hk) (AllIn.mem ⟨gM 0 rfl, gM 1 rfl, gM 2 rfl, gM 3 rfl, trivial⟩) hw) (e_appF RI.lasts RI.one RI.flat Sl_41 Ei_3 rfl rfl rfl rfl rfl (js := [0]) (Rr := [ob v28, D8, ob u2, D1, ob u1]) rfl h29 h9 hx15) rfl (fun v30 Φ_29 D29 q26 => ?_))
  obtain ⟨⟨ap13, fr26⟩, h30⟩ := q26
  replace ph0_0 := ph0_0.frame RTAlpha.lasts fr26 (ap13.o pa0_0)
  replace ph0_1 := ph0_1.frame RTChain.lasts fr26 (ap13.o pa0_1)
  replace h10 := h10.frame RI.lasts fr26 (Dj.sub (ap13.o pa0_1) (fun k h => hs2 k (List.mem_append.2 (.inr h))))
  replace k2 := k2.frame OTAlpha.lasts fr26 (ap13.r (i := 4) rfl) (ap13.r (i := 3) rfl)
  replace h28 := h28.frame RI.lasts fr26 (ap13.r (i := 0) rfl) (Dj.nil _)
  replace k4 := k4.frame OTChain.lasts fr26 (ap13.r (i := 2) rfl) (ap13.r (i := 1) rfl)
  obtain ⟨x16, hx16, h⟩ := bind_some h
  refine WM.one 9 (by kernel_rfl) (me rfl (fun _ v Φx D w1 hq hw => Kn.of (fun k hk _ _ => by simp at hk) (AllIn.mem ⟨gM 0 rfl, gM 1 rfl, gM 2 rfl, gM 3 rfl, trivial⟩) hw) (e_appF RI.lasts RI.one RI.flat Sl_41 Ei_3 rfl rfl rfl rfl rfl (js := [1]) (Rr := [ob v30, D8, ob u2, D1, ob u1]) rfl h28 h10 hx16) rfl (fun v31 Φ_30 D30 q27 => ?_))
  obtain ⟨⟨ap14, fr27⟩, h31⟩ := q27
  replace ph0_0 := ph0_0.frame RTAlpha.lasts fr27 (ap14.o pa0_0)
  replace ph0_1 := ph0_1.frame RTChain.lasts fr27 (ap14.o pa0_1)
  replace k2 := k2.frame OTAlpha.lasts fr27 (ap14.r (i := 4) rfl) (ap14.r (i := 3) rfl)
  replace h30 := h30.frame RI.lasts fr27 (ap14.r (i := 0) rfl) (Dj.nil _)
  replace k4 := k4.frame OTChain.lasts fr27 (ap14.r (i := 2) rfl) (ap14.r (i := 1) rfl)
  refine mq 10 rfl (by kernel_rfl) (fun w1 hw => Kn.of (fun k hk _ _ => by simp at hk) (AllIn.mem ⟨gM 0 rfl, gM 1 rfl, gM 2 rfl, gM 3 rfl, trivial⟩) hw) (q_build (vs := [(0, v30), (1, v31)]) (C := #[v30, v31]) Pl_43 Zr_43 rfl (fill_cons (cells := [.slice none 0 0, .slice none 0 0]) (c := [v30]) (C' := [v30, .slice none 0 0]) rfl (one_cells h30.one) rfl rfl rfl (fill_cons (cells := [v30, .slice none 0 0]) (c := [v31]) (C' := [v30, v31]) rfl (one_cells h31.one) rfl rfl rfl (fill_nil)))) rfl ?_
  have rc14 : RC OTChain 2 Φ_30 ([(ob v30 ++ []) ++ ((ob v31 ++ []))] : List (List Nat)) [v30, v31] ([(⟨x15, x16⟩ : TChain)] : List TChain) := RC.cons (c := [v30, v31]) (cells := []) ⟨v30, v31, rfl, rfl, h30, h31⟩ rfl (RC.nil _ _ _)
  refine WM.one 11 (by kernel_rfl) (me rfl (fun _ v Φx D w1 hq hw => Kn.of (fun k hk _ _ => by simp at hk) (AllIn.mem ⟨gM 0 rfl, gM 1 rfl, gM 2 rfl, gM 3 rfl, trivial⟩) hw) (e_lit (vs := [(0, .agg [v30, v31].toArray)]) (C := #[v30, v31]) OTChain.lasts Sl_25 Zr_43 rfl rfl rfl rfl (fill_made MC_43_1 (fill_cons (cells := [.slice none 0 0, .slice none 0 0]) (c := [v30, v31]) (C' := [v30, v31]) rfl rfl rfl rfl rfl (fill_nil))) rfl rc14 rfl (RC.kn OTChain.knows rc14)) rfl (fun v32 Φ_31 D31 q28 => ?_))
  obtain ⟨fr28, h32⟩ := q28
  replace h32 : OSl OTChain 43 2 Φ_31 ((ob v30 ++ []) ++ ((ob v31 ++ []))) v32 ([(⟨x15, x16⟩ : TChain)] : List TChain) := by simpa [List.append_assoc] using h32
  replace ph0_0 := ph0_0.frame RTAlpha.lasts fr28 (Dj.empty _)
  replace ph0_1 := ph0_1.frame RTChain.lasts fr28 (Dj.empty _)
  replace k2 := k2.frame OTAlpha.lasts fr28 (Dj.empty _) (Dj.empty _)
  replace k4 := k4.frame OTChain.lasts fr28 (Dj.empty _) (Dj.empty _)
  refine WM.conv (S' := St w0 Φ_31 [(b_5, .cells #[v9, v10] 43 (0, 0)), (b_3, .cells #[u1, u2] 27 (0, 0)), (b_2, .cells #[.slice none 0 0, .slice none 0 0] 27 (0, 0)), (b_1, .cells #[pv0_0, pv0_1] 27 (0, 0))] [((ob v30 ++ []) ++ ((ob v31 ++ []))), ob v32, D8, ob u2, D1, ob u1]) (fun w1 hw => hw.merge (js := [2, 1]) rfl (SP.eq (by simp [List.append_assoc, ob_nil]))) ?_
  obtain ⟨x17, hx17, h⟩ := bind_some h
  refine WM.one 12 (by kernel_rfl) (me rfl (fun _ v Φx D w1 hq hw => Kn.of (fun k hk _ _ => by simp at hk) (AllIn.mem ⟨gM 0 rfl, gM 1 rfl, gM 2 rfl, gM 3 rfl, trivial⟩) hw) (e_appO OTChain.lasts OTChain.one Sl_25 Ei_43 rfl rfl rfl rfl rfl (js := [3]) (Rr := [((ob v30 ++ []) ++ ((ob v31 ++ []))), ob v32, D8, D1, ob u1]) rfl k4 h32 (fun ap => (ap.r (i := 2) rfl)) (fun ap => (ap.r (i := 0) rfl)) hx17) rfl (fun v33 Φ_32 D32 q29 => ?_))
  obtain ⟨⟨ap15, fr29⟩, h33⟩ := q29
  replace ph0_0 := ph0_0.frame RTAlpha.lasts fr29 (ap15.o pa0_0)
  replace ph0_1 := ph0_1.frame RTChain.lasts fr29 (ap15.o pa0_1)
  replace k2 := k2.frame OTAlpha.lasts fr29 (ap15.r (i := 4) rfl) (ap15.r (i := 3) rfl)
  refine WM.conv (S' := St w0 Φ_32 [(b_5, .cells #[v9, v10] 43 (0, 0)), (b_3, .cells #[u1, u2] 27 (0, 0)), (b_2, .cells #[.slice none 0 0, .slice none 0 0] 27 (0, 0)), (b_1, .cells #[pv0_0, pv0_1] 27 (0, 0))] [(D8 ++ ((ob v30 ++ []) ++ ((ob v31 ++ [])))), ob v33, ob v32, D1, ob u1]) (fun w1 hw => hw.merge (js := [3, 1]) rfl (SP.eq (by simp))) <| mq 13 rfl (by kernel_rfl) (fun w1 hw => Kn.of (fun k hk _ _ => by simp at hk) (AllIn.mem ⟨gM 0 rfl, gM 1 rfl, gM 2 rfl, gM 3 rfl, trivial⟩) hw) (q_fieldAddr Fld_27_1 rfl) rfl ?_
  refine WM.one 14 (by kernel_rfl) (ms rfl (fun hc => by cases hc) (s_store (i := 1) (vs := [v33]) (C' := [u1, v33]) (O' := [(b_5, .cells #[v9, v10] 43 (0, 0)), (b_3, .cells #[u1, v33] 27 (0, 0)), (b_2, .cells #[.slice none 0 0, .slice none 0 0] 27 (0, 0)), (b_1, .cells #[pv0_0, pv0_1] 27 (0, 0))]) Sz_25 rfl rfl rfl (one_cells h33.one) rfl rfl ⟨h33.one, trivial⟩ rfl rfl) rfl ?_)
  refine WM.nil (by kernel_rfl) <| WT.mono (l' := [(1, .pointer (some ⟨b_1, 0, none⟩)), (2, .pointer (some ⟨b_2, 0, none⟩)), (3, .pointer (some ⟨b_3, 0, none⟩)), (6, .int .i64 s4)]) (S' := St w0 Φ_32 [(b_3, .cells #[u1, v33] 27 (0, 0)), (b_2, .cells #[.slice none 0 0, .slice none 0 0] 27 (0, 0)), (b_1, .cells #[pv0_0, pv0_1] 27 (0, 0))] [(D8 ++ ((ob v30 ++ []) ++ ((ob v31 ++ [])))), ob v33, D1, ob u1]) ⟨rfl, rfl, rfl, rfl, trivial⟩ (fun w1 hw => (hw.sel (js := [0, 0, 1, 1]) rfl).selO (js := [1, 1, 1]) rfl) ?_
  exact K (Φ_32, x17, v33, (D8 ++ ((ob v30 ++ []) ++ ((ob v31 ++ []))))) ⟨h, k2, h33, ph0_0, ph0_1⟩
 replace h := ite_f h c2
 refine WT.exit rfl <| sr <| lq (q_loadN Tn_27 rfl (fun w1 hw => hw.rgO (i := 0) rfl 0 2 [u1, u2] rfl) rfl) rfl <| ls (s_store (i := 1) (vs := [u1, u2]) (C' := [u1, u2]) (O' := [(b_3, .cells #[u1, u2] 27 (0, 0)), (b_2, .cells #[u1, u2] 27 (0, 0)), (b_1, .cells #[pv0_0, pv0_1] 27 (0, 0))]) Sz_27 rfl rfl rfl rfl rfl rfl ⟨k2.one, k4.one, trivial⟩ rfl rfl) rfl <| WL.nil ?_
 refine WT.ret Tryz.func106 (resOk.one (rv_cell Tn_27 rfl (fun w1 hw => hw.rgO (i := 1) rfl 0 2 [u1, u2] rfl) rfl)) (fun w1 hw => ?_)
 subst hb0
 cases h
 refine postG_of_St (js := [3, 2, 1, 0]) hw rfl ⟨u1, D1, u2, D8, rfl, rfl, k2, k4⟩
theorem m_s_l12Bend_ok {Φ : Hp} {w : World} (hΦ : In Φ w) (N : Nat) (p0 : Tl1Cur) (p1 : TNet) {pv0_0 : Value} {pG0_0 : List Nat} {pb0 : Nat} {pv1_0 : Value} {pG1_0 : List Nat} {pv1_1 : Value} {pG1_1 : List Nat} (ph0_0 : RSl (RI .u8) 1 Φ pG0_0 pv0_0 p0.b) (pp0 : Φ pb0 = some (.cells #[pv0_0, .int .i64 p0.i, .int .i64 p0.h] 159 (0, 0))) (ph1_0 : RSl RTAlpha 4 Φ pG1_0 pv1_0 p1.Alphas) (ph1_1 : RSl RTChain 2 Φ pG1_1 pv1_1 p1.Chains) (pd0_0 : Dj pG0_0 [[pb0]].flatten) (pd1_0 : Dj pG1_0 [[pb0]].flatten) (pd1_1 : Dj pG1_1 [[pb0]].flatten) (hB : [[pb0]].flatten.Nodup) (hlt : ∀ k ∈ [[pb0]].flatten, k < w.heap.size) {r : TNet × Tl1Cur} (h : m_s_l12Bend N p0 p1 = some r) :
  Calls Tryz.prog 48 [.pointer (some ⟨pb0, 0, none⟩), .agg [pv1_0, pv1_1].toArray].toArray w (PostG Φ w [[pb0]].flatten (fun Φ' Fs v => ∃ (sr_0_0 : Value) (Dr_0_0 : List Nat) (sr_0_1 : Value) (Dr_0_1 : List Nat), v = .agg [sr_0_0, sr_0_1].toArray ∧ Fs = [ob sr_0_0, Dr_0_0, ob sr_0_1, Dr_0_1, [pb0]] ∧ OSl OTAlpha 102 4 Φ' Dr_0_0 sr_0_0 r.1.Alphas ∧ OSl OTChain 43 2 Φ' Dr_0_1 sr_0_1 r.1.Chains ∧ r.2.b = p0.b ∧ Φ' pb0 = some (.cells #[pv0_0, .int .i64 r.2.i, .int .i64 r.2.h] 159 (0, 0)))) := by
 refine enter Tryz.func48 rfl Tryz.ntmps48 rfl (St.start hΦ [[pb0]] hB hlt) ?_
 have pa0_0 : Old ⟨w, [[pb0]].flatten, Φ⟩ pG0_0 := Old.mk hΦ ph0_0.kn pd0_0
 have pa1_0 : Old ⟨w, [[pb0]].flatten, Φ⟩ pG1_0 := Old.mk hΦ ph1_0.kn pd1_0
 have pa1_1 : Old ⟨w, [[pb0]].flatten, Φ⟩ pG1_1 := Old.mk hΦ ph1_1.kn pd1_1
 revert pa0_0 pa1_0 pa1_1
 generalize hb0 : (⟨w, [[pb0]].flatten, Φ⟩ : Base) = w0
 intro pa0_0 pa1_0 pa1_1
 unfold m_s_l12Bend at h
 refine WT.seq <| WT.region ?_
 refine ln (n_box (C := #[pv1_0, pv1_1]) rfl rfl) rfl (fun b_1 => ?_)
 refine ln (n_alloc (C := #[.slice none 0 0, .slice none 0 0]) Zr_27 rfl) rfl (fun b_2 => ?_)
 refine WL.nil <| sr <| lq (q_loadN Tn_27 rfl (fun w1 hw => hw.rgO (i := 1) rfl 0 2 [pv1_0, pv1_1] rfl) rfl) rfl ?_
 obtain ⟨x1, hx1, h⟩ := bind_some h
 refine lc (k_call (js := []) (R := [[pb0]]) Fun_106 rfl rfl (fun w1 hw ap hl => m_s_l12Copy_ok hw.fro N p1 ph1_0 ph1_1  hx1)) rfl (fun v1 Φ_1 F1 q1 => ?_)
 obtain ⟨ap1, fr1, v2, D1, v3, D2, rfl, rfl, h1, h2⟩ := q1
 replace ph0_0 := ph0_0.frame RI.lasts fr1 (ap1.o pa0_0)
 replace ph1_0 := ph1_0.frame RTAlpha.lasts fr1 (ap1.o pa1_0)
 replace ph1_1 := ph1_1.frame RTChain.lasts fr1 (ap1.o pa1_1)
 replace pp0 := fr1 _ _ ((ap1.r (i := 0) rfl) _ (by simp)) pp0
 refine ls (s_store (i := 1) (vs := [v2, v3]) (C' := [v2, v3]) (O' := [(b_2, .cells #[.slice none 0 0, .slice none 0 0] 27 (0, 0)), (b_1, .cells #[v2, v3] 27 (0, 0))]) Sz_27 rfl rfl rfl rfl rfl rfl ⟨h1.one, h2.one, trivial⟩ rfl rfl) rfl <| WL.nil <| WT.seq <| sr <| lq (q_move rfl) rfl ?_
 obtain ⟨x2, hx2, h⟩ := bind_some h
 refine lc (k_call (js := [4]) (R := [ob v2, D1, ob v3, D2]) Fun_59 rfl rfl (fun w1 hw ap hl => m_s_l1Below_ok hw.fro N p0 6 ph0_0 pp0 (ap.o pa0_0) ap.nd hl hx2)) rfl (fun v4 Φ_2 F2 q2 => ?_)
 obtain ⟨ap2, fr2, rfl, rfl, e1, h3⟩ := q2
 replace ph0_0 := ph0_0.frame RI.lasts fr2 (ap2.o pa0_0)
 replace h1 := h1.frame OTAlpha.lasts fr2 (ap2.r (i := 0) rfl) (ap2.r (i := 1) rfl)
 replace h2 := h2.frame OTChain.lasts fr2 (ap2.r (i := 2) rfl) (ap2.r (i := 3) rfl)
 refine WL.nil <| WT.block <| sr <| lq (q_eql rfl rfl) rfl <| lq (q_assign rfl) rfl <| WL.nil ?_
 refine cut (σ := Hp × (List TAlpha) × Value × List Nat × (List TChain) × List Nat × Int × Int) (fun s => [(3, .pointer (some ⟨b_1, 0, none⟩)), (4, .pointer (some ⟨b_2, 0, none⟩))]) (fun s => St w0 s.1 [(b_2, .cells #[.slice none 0 0, .slice none 0 0] 27 (0, 0)), (b_1, .cells #[s.2.2.1, v3] 27 (0, 0))] [[pb0], ob s.2.2.1, s.2.2.2.1, ob v3, s.2.2.2.2.2.1]) (fun s => m_s_l12Bend_j1 N p0 s.2.1 s.2.2.2.2.1 s.2.2.2.2.2.2.1 s.2.2.2.2.2.2.2 = some r ∧ (OSl OTAlpha 102 4 s.1 s.2.2.2.1 s.2.2.1 s.2.1) ∧ (OSl OTChain 43 2 s.1 s.2.2.2.2.2.1 v3 s.2.2.2.2.1) ∧ (s.1 pb0 = some (.cells #[pv0_0, .int .i64 s.2.2.2.2.2.2.1, .int .i64 s.2.2.2.2.2.2.2] 159 (0, 0))) ∧ (RSl (RI .u8) 1 s.1 pG0_0 pv0_0 p0.b)) (fun s hm => ?_) (fun K => ?_)
 ·clear h
  obtain ⟨Φ_3, s1, u1, D3, s2, D4, s3, s4⟩ := s
  obtain ⟨h, k1, k2, k3, ph0_0⟩ := hm
  replace h : m_s_l12Bend_j1 N p0 s1 s2 s3 s4 = some r := h
  replace k1 : OSl OTAlpha 102 4 Φ_3 D3 u1 s1 := k1
  replace k2 : OSl OTChain 43 2 Φ_3 D4 v3 s2 := k2
  replace k3 : Φ_3 pb0 = some (.cells #[pv0_0, .int .i64 s3, .int .i64 s4] 159 (0, 0)) := k3
  replace ph0_0 : RSl (RI .u8) 1 Φ_3 pG0_0 pv0_0 p0.b := ph0_0
  show WT _ _ [(3, .pointer (some ⟨b_1, 0, none⟩)), (4, .pointer (some ⟨b_2, 0, none⟩))] (St w0 Φ_3 [(b_2, .cells #[.slice none 0 0, .slice none 0 0] 27 (0, 0)), (b_1, .cells #[u1, v3] 27 (0, 0))] [[pb0], ob u1, D3, ob v3, D4])
  unfold m_s_l12Bend_j1 at h
  refine WT.inBlock <| sr <| lq (q_loadN Tn_27 rfl (fun w1 hw => hw.rgO (i := 1) rfl 0 2 [u1, v3] rfl) rfl) rfl <| ls (s_store (i := 0) (vs := [u1, v3]) (C' := [u1, v3]) (O' := [(b_2, .cells #[u1, v3] 27 (0, 0)), (b_1, .cells #[u1, v3] 27 (0, 0))]) Sz_27 rfl rfl rfl rfl rfl rfl ⟨k1.one, k2.one, trivial⟩ rfl rfl) rfl <| WL.nil ?_
  refine WT.ret Tryz.func48 (resOk.one (rv_cell Tn_27 rfl (fun w1 hw => hw.rgO (i := 0) rfl 0 2 [u1, v3] rfl) rfl)) (fun w1 hw => ?_)
  subst hb0
  cases h
  refine postG_of_St (js := [1, 1, 1, 1, 0]) hw rfl ⟨u1, D3, v3, D4, rfl, rfl, k1, k2, rfl, k3⟩
 refine WT.cond rfl (fun c1 => ?_) (fun c1 => ?_)
 ·replace h := ite_t h c1
  refine sr <| lq (q_fieldAddr Fld_27_0 rfl) rfl <| lq (q_load1 T1_24 rfl (fun w1 hw => hw.rgO (i := 1) rfl 0 1 [v2] rfl)) rfl <| lq (q_lenR Sl_24 rfl rfl (h1.rslG OTAlpha.gives)) rfl <| lq (q_gtr rfl rfl) rfl <| WL.nil ?_
  refine WT.cond rfl (fun c2 => ?_) (fun c2 => ?_)
  ·replace h := ite_t h c2
   obtain ⟨x3, hx3, h⟩ := bind_some h
   obtain ⟨cs1, F3, D5, h4, r1, kf1, sp1⟩ := h1.focus hx3
   obtain ⟨v5, v6, rfl, rfl, h5, h6⟩ := r1
   refine WT.conv (S' := St w0 Φ_2 [(b_2, .cells #[.slice none 0 0, .slice none 0 0] 27 (0, 0)), (b_1, .cells #[v2, v3] 27 (0, 0))] [ob v5, ob v6, D5, [pb0], ob v2, ob v3, D2]) (fun w1 hw => hw.re (js := [2]) (Bs := [ob v5, ob v6, D5]) rfl (by simpa [List.append_assoc] using sp1)) <| WT.mix (Kn Φ_2 [] [(b_2, .cells #[.slice none 0 0, .slice none 0 0] 27 (0, 0)), (b_1, .cells #[v2, v3] 27 (0, 0))]) (fun i => match i with | 6 => false | _ => true) mixed (fun _ h => h.drew) ?_
   refine mq 0 rfl (by kernel_rfl) (fun w1 hw => Kn.of (fun k hk _ _ => by simp at hk) (ai2 0 1 rfl rfl) hw) (q_fieldAddr Fld_27_0 rfl) rfl <| mq 1 rfl (by kernel_rfl) (fun w1 hw => Kn.of (fun k hk _ _ => by simp at hk) (ai2 0 1 rfl rfl) hw) (q_load1 T1_24 rfl (fun w1 hw => hw.rgO (i := 1) rfl 0 1 [v2] rfl)) rfl ?_
   refine mq 2 rfl (by kernel_rfl) (fun w1 hw => Kn.of (fun k hk _ _ => by simp at hk) (ai2 0 1 rfl rfl) hw) (q_move rfl) rfl ?_
   obtain ⟨x4, hx4, h⟩ := bind_some h
   refine WM.one 3 (by kernel_rfl) (mc rfl (fun _ v Φx D w1 hq hw => Kn.of (fun k hk _ _ => by simp at hk) (ai2 0 1 rfl rfl) hw) (k_call (js := [3]) (R := [ob v5, ob v6, D5, ob v2, ob v3, D2]) Fun_59 rfl rfl (fun w1 hw ap hl => m_s_l1Below_ok hw.fro N (⟨p0.b, x2.2.i, x2.2.h⟩ : Tl1Cur) 6 ph0_0 h3 (ap.o pa0_0) ap.nd hl hx4)) rfl (fun v7 Φ_4 F4 q3 => ?_))
   obtain ⟨ap3, fr3, rfl, rfl, e2, h7⟩ := q3
   replace ph0_0 := ph0_0.frame RI.lasts fr3 (ap3.o pa0_0)
   replace h4 := h4.frame OTAlpha.lasts fr3 (ap3.r (i := 3) rfl) (ap3.r (i := 2) rfl)
   replace h2 := h2.frame OTChain.lasts fr3 (ap3.r (i := 4) rfl) (ap3.r (i := 5) rfl)
   replace h5 := h5.frame RTVal.lasts fr3 (ap3.r (i := 0) rfl) (Dj.nil _)
   replace h6 := h6.frame RI.lasts fr3 (ap3.r (i := 1) rfl) (Dj.nil _)
   refine mqT 4 [5, 6] rfl (by kernel_rfl) (fun w1 hw => Kn.of (fun k hk _ _ => by simp at hk) (ai2 0 1 rfl rfl) hw) (q_indexAddrH Sl_24 rfl rfl h4 hx3) rfl <| mq 5 rfl (by kernel_rfl) (fun w1 hw => Kn.of (fun k hk _ _ => by simp at hk) (ai2 0 1 rfl rfl) hw) (q_fieldAddr Fld_102_1 rfl) rfl ?_
   refine WM.one 6 (by kernel_rfl) (mu rfl (fun hc => by cases hc) (u_setH (js := [4]) (Rr := [[pb0], ob v5, ob v6, D5, ob v3, D2]) (o := 1) (vs := [.int .i64 x4.1]) (cs' := [.string x3.Kind, .int .i64 x4.1, v5, v6]) OTAlpha.lasts Sz_3 rfl rfl rfl rfl ⟨rfl, trivial⟩ rfl h4 rfl rfl (fun ap => (ap.r (i := 3) rfl))) rfl (fun Φ_5 D6 q4 => ?_))
   obtain ⟨⟨ap4, fr4⟩, h8⟩ := q4
   replace ph0_0 := ph0_0.frame RI.lasts fr4 (ap4.o pa0_0)
   replace h2 := h2.frame OTChain.lasts fr4 (ap4.r (i := 4) rfl) (ap4.r (i := 5) rfl)
   replace h5 := h5.frame RTVal.lasts fr4 (ap4.r (i := 1) rfl) (Dj.nil _)
   replace h6 := h6.frame RI.lasts fr4 (ap4.r (i := 2) rfl) (Dj.nil _)
   replace h7 := fr4 _ _ ((ap4.r (i := 0) rfl) _ (by simp)) h7
   refine WM.nil (by kernel_rfl) ?_
   have r2 : OTAlpha Φ_5 _ [.string x3.Kind, .int .i64 x4.1, v5, v6] (⟨x3.Kind, x4.1, x3.Consts, x3.At⟩ : TAlpha) := ⟨v5, v6, rfl, rfl, h5, h6⟩
   obtain ⟨D7, h9, sp2⟩ := h8.unfocus r2 (OTAlpha.knows _ _ _ _ r2)
   refine WT.conv (S' := St w0 Φ_5 [(b_2, .cells #[.slice none 0 0, .slice none 0 0] 27 (0, 0)), (b_1, .cells #[v2, v3] 27 (0, 0))] [D7, ob v2, [pb0], ob v3, D2]) (fun w1 hw => hw.merge (js := [2, 2, 2]) rfl (by simpa [List.append_assoc, ob_nil] using sp2)) <| WT.mono (l' := [(3, .pointer (some ⟨b_1, 0, none⟩)), (4, .pointer (some ⟨b_2, 0, none⟩))]) (S' := St w0 Φ_5 [(b_2, .cells #[.slice none 0 0, .slice none 0 0] 27 (0, 0)), (b_1, .cells #[v2, v3] 27 (0, 0))] [[pb0], ob v2, D7, ob v3, D2]) ⟨rfl, rfl, trivial⟩ (fun w1 hw => (hw.sel (js := [2, 1, 0, 0, 0]) rfl).selO (js := [0, 0]) rfl) ?_
   exact K (Φ_5, (x1.Alphas.set (0 : Int).toNat (⟨x3.Kind, x4.1, x3.Consts, x3.At⟩ : TAlpha)), v2, D7, x1.Chains, D2, x4.2.i, x4.2.h) ⟨h, h9, h2, h7, ph0_0⟩
  replace h := ite_f h c2
  refine WT.skip <| WT.mono (l' := [(3, .pointer (some ⟨b_1, 0, none⟩)), (4, .pointer (some ⟨b_2, 0, none⟩))]) (S' := St w0 Φ_2 [(b_2, .cells #[.slice none 0 0, .slice none 0 0] 27 (0, 0)), (b_1, .cells #[v2, v3] 27 (0, 0))] [[pb0], ob v2, D1, ob v3, D2]) ⟨rfl, rfl, trivial⟩ (fun w1 hw => (hw.sel (js := [0, 0, 0, 0, 0]) rfl).selO (js := [0, 0]) rfl) ?_
  exact K (Φ_2, x1.Alphas, v2, D1, x1.Chains, D2, x2.2.i, x2.2.h) ⟨h, h1, h2, h3, ph0_0⟩
 replace h := ite_f h c1
 refine sr <| lq (q_eql rfl rfl) rfl <| lq (q_assign rfl) rfl <| WL.nil ?_
 refine WT.cond rfl (fun c3 => ?_) (fun c3 => ?_)
 ·replace h := ite_t h c3
  refine sr <| lq (q_fieldAddr Fld_27_1 rfl) rfl <| lq (q_load1 T1_25 rfl (fun w1 hw => hw.rgO (i := 1) rfl 1 1 [v3] rfl)) rfl <| lq (q_lenR Sl_25 rfl rfl (h2.rslG OTChain.gives)) rfl <| lq (q_gtr rfl rfl) rfl <| WL.nil ?_
  refine WT.cond rfl (fun c4 => ?_) (fun c4 => ?_)
  ·replace h := ite_t h c4
   obtain ⟨x5, hx5, h⟩ := bind_some h
   obtain ⟨cs2, F5, D8, h10, r3, kf2, sp3⟩ := h2.focus hx5
   obtain ⟨v8, v9, rfl, rfl, h11, h12⟩ := r3
   refine WT.conv (S' := St w0 Φ_2 [(b_2, .cells #[.slice none 0 0, .slice none 0 0] 27 (0, 0)), (b_1, .cells #[v2, v3] 27 (0, 0))] [ob v8, ob v9, D8, [pb0], ob v2, D1, ob v3]) (fun w1 hw => hw.re (js := [4]) (Bs := [ob v8, ob v9, D8]) rfl (by simpa [List.append_assoc] using sp3)) <| WT.mix (Kn Φ_2 (ob v3) [(b_2, .cells #[.slice none 0 0, .slice none 0 0] 27 (0, 0)), (b_1, .cells #[v2, v3] 27 (0, 0))]) (fun i => match i with | 14 => false | _ => true) mixed (fun _ h => h.drew) ?_
   refine mq 0 rfl (by kernel_rfl) (fun w1 hw => Kn.of (fun _ _ _ h => h) (ai2 0 1 rfl rfl) hw) (q_fieldAddr Fld_27_1 rfl) rfl <| mq 1 rfl (by kernel_rfl) (fun w1 hw => Kn.of (fun _ _ _ h => h) (ai2 0 1 rfl rfl) hw) (q_load1 T1_25 rfl (fun w1 hw => hw.rgO (i := 1) rfl 1 1 [v3] rfl)) rfl ?_
   refine mq 2 rfl (by kernel_rfl) (fun w1 hw => Kn.of (fun _ _ _ h => h) (ai2 0 1 rfl rfl) hw) (q_fieldAddr Fld_27_1 rfl) rfl <| mq 3 rfl (by kernel_rfl) (fun w1 hw => Kn.of (fun _ _ _ h => h) (ai2 0 1 rfl rfl) hw) (q_load1 T1_25 rfl (fun w1 hw => hw.rgO (i := 1) rfl 1 1 [v3] rfl)) rfl ?_
   refine mq 4 rfl (by kernel_rfl) (fun w1 hw => Kn.of (fun _ _ _ h => h) (ai2 0 1 rfl rfl) hw) (q_indexAddrH Sl_25 rfl rfl h10 hx5) rfl <| mq 5 rfl (by kernel_rfl) (fun w1 hw => Kn.of (fun _ _ _ h => h) (ai2 0 1 rfl rfl) hw) (q_fieldAddr Fld_43_0 rfl) rfl <| mq 6 rfl (by kernel_rfl) (fun w1 hw => Kn.of (fun _ _ _ h => h) (ai2 0 1 rfl rfl) hw) (q_load1 T1_41 rfl (fun w1 hw => hw.rg h10.hb (h10.rg.of_eq 0 1 rfl rfl : rg _ _ _ [v8]))) rfl ?_
   refine mq 7 rfl (by kernel_rfl) (fun w1 hw => Kn.of (fun _ _ _ h => h) (ai2 0 1 rfl rfl) hw) (q_move rfl) rfl ?_
   obtain ⟨x6, hx6, h⟩ := bind_some h
   refine WM.one 8 (by kernel_rfl) (mc rfl (fun _ v Φx D w1 hq hw => Kn.of (fun k hk o ho => hq.2.1 k o ((hq.1.r (i := 5) rfl) k hk) ((fun _ _ _ h => h) k hk o ho)) (ai2 0 1 rfl rfl) hw) (k_call (js := [3]) (R := [ob v8, ob v9, D8, ob v2, D1, ob v3]) Fun_59 rfl rfl (fun w1 hw ap hl => m_s_l1Below_ok hw.fro N (⟨p0.b, x2.2.i, x2.2.h⟩ : Tl1Cur) 5 ph0_0 h3 (ap.o pa0_0) ap.nd hl hx6)) rfl (fun v10 Φ_6 F6 q5 => ?_))
   obtain ⟨ap5, fr5, rfl, rfl, e3, h13⟩ := q5
   replace ph0_0 := ph0_0.frame RI.lasts fr5 (ap5.o pa0_0)
   replace h1 := h1.frame OTAlpha.lasts fr5 (ap5.r (i := 3) rfl) (ap5.r (i := 4) rfl)
   replace h10 := h10.frame OTChain.lasts fr5 (ap5.r (i := 5) rfl) (ap5.r (i := 2) rfl)
   replace h11 := h11.frame RI.lasts fr5 (ap5.r (i := 0) rfl) (Dj.nil _)
   replace h12 := h12.frame RI.lasts fr5 (ap5.r (i := 1) rfl) (Dj.nil _)
   refine mq 9 rfl (by kernel_rfl) (fun w1 hw => Kn.of (fun k hk o ho => fr5 k o ((ap5.r (i := 5) rfl) k hk) ((fun _ _ _ h => h) k hk o ho)) (ai2 0 1 rfl rfl) hw) (q_sub rfl rfl) rfl ?_
   have rc1 : RC (RI .i64) 1 Φ_6 ([[]] : List (List Nat)) [.int .i64 (IntKind.i64.wrap (x6.1 - 1))] ([IntKind.i64.wrap (x6.1 - 1)] : List Int) := RC.cons (c := [.int .i64 (IntKind.i64.wrap (x6.1 - 1))]) (cells := []) ⟨rfl, rfl⟩ rfl (RC.nil _ _ _)
   refine WM.one 10 (by kernel_rfl) (me rfl (fun _ v Φx D w1 hq hw => Kn.of (fun k hk o ho => hq.1 k o (by simp) ((fun k hk o ho => fr5 k o ((ap5.r (i := 5) rfl) k hk) ((fun _ _ _ h => h) k hk o ho)) k hk o ho)) (ai2 0 1 rfl rfl) hw) (e_lit (vs := [(0, .int .i64 (IntKind.i64.wrap (x6.1 - 1)))]) (C := #[.int .i64 (IntKind.i64.wrap (x6.1 - 1))]) RI.lasts Sl_41 Zr_3 rfl rfl rfl rfl (fill_made MC_3_1 (fill_cons (cells := [.int .i64 0]) (c := [.int .i64 (IntKind.i64.wrap (x6.1 - 1))]) (C' := [.int .i64 (IntKind.i64.wrap (x6.1 - 1))]) rfl rfl rfl rfl rfl (fill_nil))) rfl rc1 rfl (by simpa using Kw.nil)) rfl (fun v11 Φ_7 D9 q6 => ?_))
   obtain ⟨fr6, h14⟩ := q6
   replace h14 : OSl (RI .i64) 3 1 Φ_7 [] v11 ([IntKind.i64.wrap (x6.1 - 1)] : List Int) := by simpa using h14
   replace ph0_0 := ph0_0.frame RI.lasts fr6 (Dj.empty _)
   replace h1 := h1.frame OTAlpha.lasts fr6 (Dj.empty _) (Dj.empty _)
   replace h10 := h10.frame OTChain.lasts fr6 (Dj.empty _) (Dj.empty _)
   replace h11 := h11.frame RI.lasts fr6 (Dj.empty _) (Dj.empty _)
   replace h12 := h12.frame RI.lasts fr6 (Dj.empty _) (Dj.empty _)
   replace h13 := fr6 _ _ (by simp) h13
   obtain ⟨x7, hx7, h⟩ := bind_some h
   refine WM.one 11 (by kernel_rfl) (me rfl (fun _ v Φx D w1 hq hw => Kn.of (fun k hk o ho => hq.1.2 k o ((hq.1.1.r (i := 6) rfl) k hk) ((fun k hk o ho => fr6 k o (by simp) ((fun k hk o ho => fr5 k o ((ap5.r (i := 5) rfl) k hk) ((fun _ _ _ h => h) k hk o ho)) k hk o ho)) k hk o ho)) (ai2 0 1 rfl rfl) hw) (e_appF RI.lasts RI.one RI.flat Sl_41 Ei_3 rfl rfl rfl rfl rfl (js := [2]) (Rr := [ob v11, [pb0], ob v9, D8, ob v2, D1, ob v3]) rfl h11 h14.rsl hx7) rfl (fun v12 Φ_8 D10 q7 => ?_))
   obtain ⟨⟨ap6, fr7⟩, h15⟩ := q7
   replace ph0_0 := ph0_0.frame RI.lasts fr7 (ap6.o pa0_0)
   replace h1 := h1.frame OTAlpha.lasts fr7 (ap6.r (i := 4) rfl) (ap6.r (i := 5) rfl)
   replace h10 := h10.frame OTChain.lasts fr7 (ap6.r (i := 6) rfl) (ap6.r (i := 3) rfl)
   replace h12 := h12.frame RI.lasts fr7 (ap6.r (i := 2) rfl) (Dj.nil _)
   replace h13 := fr7 _ _ ((ap6.r (i := 1) rfl) _ (by simp)) h13
   refine mqT 12 [13, 14] rfl (by kernel_rfl) (fun w1 hw => Kn.of (fun k hk o ho => fr7 k o ((ap6.r (i := 6) rfl) k hk) ((fun k hk o ho => fr6 k o (by simp) ((fun k hk o ho => fr5 k o ((ap5.r (i := 5) rfl) k hk) ((fun _ _ _ h => h) k hk o ho)) k hk o ho)) k hk o ho)) (ai2 0 1 rfl rfl) hw) (q_indexAddrH Sl_25 rfl rfl h10 hx5) rfl <| mq 13 rfl (by kernel_rfl) (fun w1 hw => Kn.of (fun k hk o ho => fr7 k o ((ap6.r (i := 6) rfl) k hk) ((fun k hk o ho => fr6 k o (by simp) ((fun k hk o ho => fr5 k o ((ap5.r (i := 5) rfl) k hk) ((fun _ _ _ h => h) k hk o ho)) k hk o ho)) k hk o ho)) (ai2 0 1 rfl rfl) hw) (q_fieldAddr Fld_43_0 rfl) rfl ?_
   refine WM.one 14 (by kernel_rfl) (mu rfl (fun hc => by cases hc) (u_setH (js := [7]) (Rr := [ob v12, ob v11, [pb0], ob v9, D8, ob v2, D1]) (o := 0) (vs := [v12]) (cs' := [v12, v9]) OTChain.lasts Sz_41 rfl rfl (one_cells h15.one) rfl ⟨h15.one, trivial⟩ rfl h10 rfl rfl (fun ap => (ap.r (i := 4) rfl))) rfl (fun Φ_9 D11 q8 => ?_))
   obtain ⟨⟨ap7, fr8⟩, h16⟩ := q8
   replace ph0_0 := ph0_0.frame RI.lasts fr8 (ap7.o pa0_0)
   replace h1 := h1.frame OTAlpha.lasts fr8 (ap7.r (i := 5) rfl) (ap7.r (i := 6) rfl)
   replace h15 := h15.frame RI.lasts fr8 (ap7.r (i := 0) rfl) (Dj.nil _)
   replace h12 := h12.frame RI.lasts fr8 (ap7.r (i := 3) rfl) (Dj.nil _)
   replace h13 := fr8 _ _ ((ap7.r (i := 2) rfl) _ (by simp)) h13
   refine WM.nil (by kernel_rfl) ?_
   have r4 : OTChain Φ_9 _ [v12, v9] (⟨x7, x5.Neg⟩ : TChain) := ⟨v12, v9, rfl, rfl, h15, h12⟩
   obtain ⟨D12, h17, sp4⟩ := h16.unfocus r4 (OTChain.knows _ _ _ _ r4)
   refine WT.conv (S' := St w0 Φ_9 [(b_2, .cells #[.slice none 0 0, .slice none 0 0] 27 (0, 0)), (b_1, .cells #[v2, v3] 27 (0, 0))] [D12, ob v3, ob v11, [pb0], ob v2, D1]) (fun w1 hw => hw.merge (js := [1, 3, 3]) rfl (by simpa [List.append_assoc, ob_nil] using sp4)) <| WT.mono (l' := [(3, .pointer (some ⟨b_1, 0, none⟩)), (4, .pointer (some ⟨b_2, 0, none⟩))]) (S' := St w0 Φ_9 [(b_2, .cells #[.slice none 0 0, .slice none 0 0] 27 (0, 0)), (b_1, .cells #[v2, v3] 27 (0, 0))] [[pb0], ob v2, D1, ob v3, D12]) ⟨rfl, rfl, trivial⟩ (fun w1 hw => (hw.sel (js := [3, 3, 3, 1, 0]) rfl).selO (js := [0, 0]) rfl) ?_
   exact K (Φ_9, x1.Alphas, v2, D1, (x1.Chains.set (0 : Int).toNat (⟨x7, x5.Neg⟩ : TChain)), D12, x6.2.i, x6.2.h) ⟨h, h1, h17, h13, ph0_0⟩
  replace h := ite_f h c4
  refine WT.skip <| WT.mono (l' := [(3, .pointer (some ⟨b_1, 0, none⟩)), (4, .pointer (some ⟨b_2, 0, none⟩))]) (S' := St w0 Φ_2 [(b_2, .cells #[.slice none 0 0, .slice none 0 0] 27 (0, 0)), (b_1, .cells #[v2, v3] 27 (0, 0))] [[pb0], ob v2, D1, ob v3, D2]) ⟨rfl, rfl, trivial⟩ (fun w1 hw => (hw.sel (js := [0, 0, 0, 0, 0]) rfl).selO (js := [0, 0]) rfl) ?_
  exact K (Φ_2, x1.Alphas, v2, D1, x1.Chains, D2, x2.2.i, x2.2.h) ⟨h, h1, h2, h3, ph0_0⟩
 replace h := ite_f h c3
 refine sr <| lq (q_eql rfl rfl) rfl <| lq (q_assign rfl) rfl <| WL.nil ?_
 refine WT.cond rfl (fun c5 => ?_) (fun c5 => ?_)
 ·replace h := ite_t h c5
  refine WT.region <| lq (q_fieldAddr Fld_27_0 rfl) rfl <| lq (q_load1 T1_24 rfl (fun w1 hw => hw.rgO (i := 1) rfl 0 1 [v2] rfl)) rfl <| lq (q_build (vs := [(0, .string (⟨#[120]⟩ : ByteArray))]) (C := #[.string (⟨#[120]⟩ : ByteArray), .int .i64 0, .slice none 0 0, .slice none 0 0]) Pl_102 Zr_102 rfl (fill_cons (cells := [.string ⟨#[]⟩, .int .i64 0, .slice none 0 0, .slice none 0 0]) (c := [.string (⟨#[120]⟩ : ByteArray)]) (C' := [.string (⟨#[120]⟩ : ByteArray), .int .i64 0, .slice none 0 0, .slice none 0 0]) rfl rfl rfl rfl rfl (fill_nil))) rfl ?_
  have rc2 : RC OTAlpha 4 Φ_2 ([(ob (.slice none 0 0) ++ []) ++ ((ob (.slice none 0 0) ++ []))] : List (List Nat)) [.string (⟨#[120]⟩ : ByteArray), .int .i64 0, .slice none 0 0, .slice none 0 0] ([(⟨(⟨#[120]⟩ : ByteArray), 0, [], []⟩ : TAlpha)] : List TAlpha) := RC.cons (c := [.string (⟨#[120]⟩ : ByteArray), .int .i64 0, .slice none 0 0, .slice none 0 0]) (cells := []) ⟨.slice none 0 0, .slice none 0 0, rfl, rfl, OSl.nil _ _ _ _, OSl.nil _ _ _ _⟩ rfl (RC.nil _ _ _)
  refine le' (e_lit (vs := [(0, .agg [.string (⟨#[120]⟩ : ByteArray), .int .i64 0, .slice none 0 0, .slice none 0 0].toArray)]) (C := #[.string (⟨#[120]⟩ : ByteArray), .int .i64 0, .slice none 0 0, .slice none 0 0]) OTAlpha.lasts Sl_24 Zr_102 rfl rfl rfl rfl (fill_made MC_102_1 (fill_cons (cells := [.string ⟨#[]⟩, .int .i64 0, .slice none 0 0, .slice none 0 0]) (c := [.string (⟨#[120]⟩ : ByteArray), .int .i64 0, .slice none 0 0, .slice none 0 0]) (C' := [.string (⟨#[120]⟩ : ByteArray), .int .i64 0, .slice none 0 0, .slice none 0 0]) rfl rfl rfl rfl rfl (fill_nil))) rfl rc2 rfl (RC.kn OTAlpha.knows rc2)) rfl (fun v13 Φ_10 D13 q9 => ?_)
  obtain ⟨fr9, h18⟩ := q9
  replace h18 : OSl OTAlpha 102 4 Φ_10 ((ob (.slice none 0 0) ++ []) ++ ((ob (.slice none 0 0) ++ []))) v13 ([(⟨(⟨#[120]⟩ : ByteArray), 0, [], []⟩ : TAlpha)] : List TAlpha) := by simpa [List.append_assoc] using h18
  replace ph0_0 := ph0_0.frame RI.lasts fr9 (Dj.empty _)
  replace h1 := h1.frame OTAlpha.lasts fr9 (Dj.empty _) (Dj.empty _)
  replace h2 := h2.frame OTChain.lasts fr9 (Dj.empty _) (Dj.empty _)
  replace h3 := fr9 _ _ (by simp) h3
  refine WL.conv (S' := St w0 Φ_10 [(b_2, .cells #[.slice none 0 0, .slice none 0 0] 27 (0, 0)), (b_1, .cells #[v2, v3] 27 (0, 0))] [((ob (.slice none 0 0) ++ []) ++ ((ob (.slice none 0 0) ++ []))), ob v13, [pb0], ob v2, D1, ob v3, D2]) (fun w1 hw => hw.merge (js := []) rfl (SP.eq (by simp [List.append_assoc, ob_nil]))) ?_
  obtain ⟨x8, hx8, h⟩ := bind_some h
  refine le' (e_appO OTAlpha.lasts OTAlpha.one Sl_24 Ei_102 rfl rfl rfl rfl rfl (js := [3]) (Rr := [((ob (.slice none 0 0) ++ []) ++ ((ob (.slice none 0 0) ++ []))), ob v13, [pb0], D1, ob v3, D2]) rfl h1 h18 (fun ap => (ap.r (i := 3) rfl)) (fun ap => (ap.r (i := 0) rfl)) hx8) rfl (fun v14 Φ_11 D14 q10 => ?_)
  obtain ⟨⟨ap8, fr10⟩, h19⟩ := q10
  replace ph0_0 := ph0_0.frame RI.lasts fr10 (ap8.o pa0_0)
  replace h2 := h2.frame OTChain.lasts fr10 (ap8.r (i := 4) rfl) (ap8.r (i := 5) rfl)
  replace h3 := fr10 _ _ ((ap8.r (i := 2) rfl) _ (by simp)) h3
  refine WL.conv (S' := St w0 Φ_11 [(b_2, .cells #[.slice none 0 0, .slice none 0 0] 27 (0, 0)), (b_1, .cells #[v2, v3] 27 (0, 0))] [(D1 ++ ((ob (.slice none 0 0) ++ []) ++ ((ob (.slice none 0 0) ++ [])))), ob v14, ob v13, [pb0], ob v3, D2]) (fun w1 hw => hw.merge (js := [4, 1]) rfl (SP.eq (by simp))) <| lq (q_fieldAddr Fld_27_0 rfl) rfl <| ls (s_store (i := 1) (vs := [v14]) (C' := [v14, v3]) (O' := [(b_2, .cells #[.slice none 0 0, .slice none 0 0] 27 (0, 0)), (b_1, .cells #[v14, v3] 27 (0, 0))]) Sz_24 rfl rfl rfl (one_cells h19.one) rfl rfl ⟨h19.one, trivial⟩ rfl rfl) rfl ?_
  refine WL.nil <| WT.mono (l' := [(3, .pointer (some ⟨b_1, 0, none⟩)), (4, .pointer (some ⟨b_2, 0, none⟩))]) (S' := St w0 Φ_11 [(b_2, .cells #[.slice none 0 0, .slice none 0 0] 27 (0, 0)), (b_1, .cells #[v14, v3] 27 (0, 0))] [[pb0], ob v14, (D1 ++ ((ob (.slice none 0 0) ++ []) ++ ((ob (.slice none 0 0) ++ [])))), ob v3, D2]) ⟨rfl, rfl, trivial⟩ (fun w1 hw => (hw.sel (js := [3, 1, 0, 1, 1]) rfl).selO (js := [0, 0]) rfl) ?_
  exact K (Φ_11, x8, v14, (D1 ++ ((ob (.slice none 0 0) ++ []) ++ ((ob (.slice none 0 0) ++ [])))), x1.Chains, D2, x2.2.i, x2.2.h) ⟨h, h19, h2, h3, ph0_0⟩
 replace h := ite_f h c5
 refine WT.skip <| WT.mono (l' := [(3, .pointer (some ⟨b_1, 0, none⟩)), (4, .pointer (some ⟨b_2, 0, none⟩))]) (S' := St w0 Φ_2 [(b_2, .cells #[.slice none 0 0, .slice none 0 0] 27 (0, 0)), (b_1, .cells #[v2, v3] 27 (0, 0))] [[pb0], ob v2, D1, ob v3, D2]) ⟨rfl, rfl, trivial⟩ (fun w1 hw => (hw.sel (js := [0, 0, 0, 0, 0]) rfl).selO (js := [0, 0]) rfl) ?_
 exact K (Φ_2, x1.Alphas, v2, D1, x1.Chains, D2, x2.2.i, x2.2.h) ⟨h, h1, h2, h3, ph0_0⟩
theorem m_s_DrawNetOk_ok {Φ : Hp} {w : World} (hΦ : In Φ w) (N : Nat) (p0 : (List Int)) {pv0 : Value} {pG0 : List Nat} (ph0 : RSl (RI .u8) 1 Φ pG0 pv0 p0) {r : TNet × TDef} (h : m_s_DrawNetOk N p0 = some r) :
  Calls Tryz.prog 11 [pv0].toArray w (PostG Φ w [] (fun Φ' Fs v => ∃ (sr_0_0 : Value) (Dr_0_0 : List Nat) (sr_0_1 : Value) (Dr_0_1 : List Nat) (sr_1_0 : Value) (Dr_1_0 : List Nat) (X : List Nat), v = .tuple #[.agg [sr_0_0, sr_0_1].toArray, .agg [.string r.2.Name, sr_1_0].toArray] ∧ Fs = [ob sr_0_0, ob sr_0_1, Dr_0_1, ob sr_1_0, X] ∧ OSl RTAlpha 102 4 Φ' Dr_0_0 sr_0_0 r.1.Alphas ∧ (∀ k ∈ Dr_0_0, k ∈ X) ∧ OSl OTChain 43 2 Φ' Dr_0_1 sr_0_1 r.1.Chains ∧ OSl RTRule 49 5 Φ' Dr_1_0 sr_1_0 r.2.Rules ∧ (∀ k ∈ Dr_1_0, k ∈ X))) := by
 refine enter Tryz.func11 rfl Tryz.ntmps11 rfl (St.start0 hΦ) ?_
 have pa0 : Old ⟨w, [], Φ⟩ pG0 := Old.mk hΦ ph0.kn (Dj.empty _)
 revert pa0
 generalize hb0 : (⟨w, [], Φ⟩ : Base) = w0
 intro pa0
 unfold m_s_DrawNetOk at h
 refine WT.seq <| WT.region ?_
 refine ln (n_alloc (C := #[.slice none 0 0, .slice none 0 0]) Zr_27 rfl) rfl (fun b_1 => ?_)
 refine ln (n_alloc (C := #[.string eS, .slice none 0 0]) Zr_30 rfl) rfl (fun b_2 => ?_)
 refine WL.nil <| sr <| lq (q_move rfl) rfl ?_
 obtain ⟨x1, hx1, h⟩ := bind_some h
 refine lc (k_call (js := []) (R := []) Fun_44 rfl rfl (fun w1 hw ap hl => m_s_l1New_ok hw.fro N p0 ph0  hx1)) rfl (fun v1 Φ_1 F1 q1 => ?_)
 obtain ⟨ap1, fr1, b_3, v2, G1, rfl, rfl, h1, i1, h2⟩ := q1
 refine lq (q_assign rfl) rfl <| WL.nil <| sr <| lq (q_move rfl) rfl ?_
 obtain ⟨x2, hx2, h⟩ := bind_some h
 refine lc (k_call (js := [0]) (R := []) Fun_45 rfl rfl (fun w1 hw ap hl => m_s_l10Any_ok hw.fro N x1 h1 h2 (Dj.sub (ap.o pa0) i1) ap.nd hl hx2)) rfl (fun v3 Φ_2 F2 q2 => ?_)
 obtain ⟨ap2, fr2, v4, D1, X1, rfl, rfl, h3, i2, e1, h4⟩ := q2
 replace h1 := h1.frame RI.lasts fr2 (Dj.sub (ap2.o pa0) i1)
 refine ln (n_alloc (C := #[.string eS, .slice none 0 0]) Zr_30 rfl) rfl (fun b_4 => ?_)
 refine ls (s_store (i := 0) (vs := [.string x2.1.Name, v4]) (C' := [.string x2.1.Name, v4]) (O' := [(b_4, .cells #[.string x2.1.Name, v4] 30 (0, 0)), (b_2, .cells #[.string eS, .slice none 0 0] 30 (0, 0)), (b_1, .cells #[.slice none 0 0, .slice none 0 0] 27 (0, 0))]) Sz_30 rfl rfl rfl rfl rfl rfl ⟨rfl, h3.one, trivial⟩ rfl rfl) rfl <| WL.nil <| sr <| lq (q_loadN Tn_30 rfl (fun w1 hw => hw.rgO (i := 0) rfl 0 2 [.string x2.1.Name, v4] rfl) rfl) rfl ?_
 obtain ⟨x4, hx3, h⟩ := bind_some h
 refine lc (k_call (js := []) (R := [ob v4, [b_3], X1]) Fun_46 rfl rfl (fun w1 hw ap hl => m_s_l12Net_ok hw.fro N x2.1 h3.rsl  hx3)) rfl (fun v5 Φ_3 F3 q3 => ?_)
 obtain ⟨ap3, fr3, v6, D2, v7, D3, X2, rfl, rfl, h5, i3, h6⟩ := q3
 replace h1 := h1.frame RI.lasts fr3 (Dj.sub (ap3.o pa0) i1)
 replace h3 := h3.frame RTRule.lasts fr3 (ap3.r (i := 0) rfl) (Dj.sub (ap3.r (i := 2) rfl) i2)
 replace h4 := fr3 _ _ ((ap3.r (i := 1) rfl) _ (by simp)) h4
 refine ln (n_alloc (C := #[.slice none 0 0, .slice none 0 0]) Zr_27 rfl) rfl (fun b_5 => ?_)
 refine ls (s_store (i := 0) (vs := [v6, v7]) (C' := [v6, v7]) (O' := [(b_5, .cells #[v6, v7] 27 (0, 0)), (b_4, .cells #[.string x2.1.Name, v4] 30 (0, 0)), (b_2, .cells #[.string eS, .slice none 0 0] 30 (0, 0)), (b_1, .cells #[.slice none 0 0, .slice none 0 0] 27 (0, 0))]) Sz_27 rfl rfl rfl rfl rfl rfl ⟨h5.one, h6.one, trivial⟩ rfl rfl) rfl <| WL.nil <| WT.seq <| sr <| lq (q_move rfl) rfl ?_
 obtain ⟨x6, hx4, h⟩ := bind_some h
 refine lc (k_call (js := [5]) (R := [ob v6, ob v7, D3, X2, ob v4, X1]) Fun_47 rfl rfl (fun w1 hw ap hl => m_s_l1Once_ok hw.fro N (⟨x1.b, x2.2.i, x2.2.h⟩ : Tl1Cur) 2 h1 h4 (Dj.sub (ap.o pa0) i1) ap.nd hl hx4)) rfl (fun v8 Φ_4 F4 q4 => ?_)
 obtain ⟨ap4, fr4, rfl, rfl, e2, h7⟩ := q4
 replace h1 := h1.frame RI.lasts fr4 (Dj.sub (ap4.o pa0) i1)
 replace h3 := h3.frame RTRule.lasts fr4 (ap4.r (i := 4) rfl) (Dj.sub (ap4.r (i := 5) rfl) i2)
 replace h5 := h5.frame RTAlpha.lasts fr4 (ap4.r (i := 0) rfl) (Dj.sub (ap4.r (i := 3) rfl) i3)
 replace h6 := h6.frame OTChain.lasts fr4 (ap4.r (i := 1) rfl) (ap4.r (i := 2) rfl)
 refine WL.nil <| WT.conv (S' := St w0 Φ_4 [(b_5, .cells #[v6, v7] 27 (0, 0)), (b_4, .cells #[.string x2.1.Name, v4] 30 (0, 0)), (b_2, .cells #[.string eS, .slice none 0 0] 30 (0, 0)), (b_1, .cells #[.slice none 0 0, .slice none 0 0] 27 (0, 0))] ([] :: [[b_3], ob v6, ob v7, D3, X2, ob v4, X1])) (fun w1 hw => hw.addNil) ?_
 refine cut (σ := Hp × List Nat × (List TAlpha) × Value × List Nat × (List TChain) × Value × List Nat) (fun s => [(2, .pointer (some ⟨b_1, 0, none⟩)), (3, .pointer (some ⟨b_2, 0, none⟩)), (5, .pointer (some ⟨b_4, 0, none⟩)), (6, .pointer (some ⟨b_5, 0, none⟩))]) (fun s => St w0 s.1 [(b_5, .cells #[s.2.2.2.1, s.2.2.2.2.2.2.1] 27 (0, 0)), (b_4, .cells #[.string x2.1.Name, v4] 30 (0, 0)), (b_2, .cells #[.string eS, .slice none 0 0] 30 (0, 0)), (b_1, .cells #[.slice none 0 0, .slice none 0 0] 27 (0, 0))] [s.2.1, ob s.2.2.2.1, ob s.2.2.2.2.2.2.1, s.2.2.2.2.2.2.2, X2, ob v4, X1]) (fun s => m_s_DrawNetOk_j1 N x2 s.2.2.1 s.2.2.2.2.2.1 = some r ∧ (OSl RTRule 49 5 s.1 D1 v4 x2.1.Rules) ∧ (OSl RTAlpha 102 4 s.1 s.2.2.2.2.1 s.2.2.2.1 s.2.2.1) ∧ (∀ k ∈ s.2.2.2.2.1, k ∈ (X2 ++ s.2.1)) ∧ (OSl OTChain 43 2 s.1 s.2.2.2.2.2.2.2 s.2.2.2.2.2.2.1 s.2.2.2.2.2.1)) (fun s hm => ?_) (fun K => ?_)
 ·clear h
  obtain ⟨Φ_5, X3, s1, u1, D4, s2, u2, D5⟩ := s
  obtain ⟨h, h3, k1, i4, k2⟩ := hm
  replace h : m_s_DrawNetOk_j1 N x2 s1 s2 = some r := h
  replace h3 : OSl RTRule 49 5 Φ_5 D1 v4 x2.1.Rules := h3
  replace k1 : OSl RTAlpha 102 4 Φ_5 D4 u1 s1 := k1
  replace i4 : ∀ k ∈ D4, k ∈ (X2 ++ X3) := i4
  replace k2 : OSl OTChain 43 2 Φ_5 D5 u2 s2 := k2
  show WT _ _ [(2, .pointer (some ⟨b_1, 0, none⟩)), (3, .pointer (some ⟨b_2, 0, none⟩)), (5, .pointer (some ⟨b_4, 0, none⟩)), (6, .pointer (some ⟨b_5, 0, none⟩))] (St w0 Φ_5 [(b_5, .cells #[u1, u2] 27 (0, 0)), (b_4, .cells #[.string x2.1.Name, v4] 30 (0, 0)), (b_2, .cells #[.string eS, .slice none 0 0] 30 (0, 0)), (b_1, .cells #[.slice none 0 0, .slice none 0 0] 27 (0, 0))] [X3, ob u1, ob u2, D5, X2, ob v4, X1])
  unfold m_s_DrawNetOk_j1 at h
  refine WT.seq <| WT.mix (Kn Φ_5 [] [(b_5, .cells #[u1, u2] 27 (0, 0)), (b_4, .cells #[.string x2.1.Name, v4] 30 (0, 0)), (b_2, .cells #[.string eS, .slice none 0 0] 30 (0, 0))]) (fun i => match i with | 3 => false | _ => true) mixed (fun _ h => h.drew) <| mq 0 rfl (by kernel_rfl) (fun w1 hw => Kn.of (fun k hk _ _ => by simp at hk) (AllIn.mem ⟨gM 0 rfl, gM 1 rfl, gM 2 rfl, trivial⟩) hw) (q_loadN Tn_27 rfl (fun w1 hw => hw.rgO (i := 0) rfl 0 2 [u1, u2] rfl) rfl) rfl ?_
  refine mq 1 rfl (by kernel_rfl) (fun w1 hw => Kn.of (fun k hk _ _ => by simp at hk) (AllIn.mem ⟨gM 0 rfl, gM 1 rfl, gM 2 rfl, trivial⟩) hw) (q_loadN Tn_30 rfl (fun w1 hw => hw.rgO (i := 1) rfl 0 2 [.string x2.1.Name, v4] rfl) rfl) rfl ?_
  refine WM.one 2 (by kernel_rfl) (ms rfl (fun _ w1 hw => Kn.of (fun k hk _ _ => by simp at hk) (AllIn.mem ⟨gM 0 rfl, gM 1 rfl, gM 2 rfl, trivial⟩) hw) (s_store (i := 3) (vs := [u1, u2]) (C' := [u1, u2]) (O' := [(b_5, .cells #[u1, u2] 27 (0, 0)), (b_4, .cells #[.string x2.1.Name, v4] 30 (0, 0)), (b_2, .cells #[.string eS, .slice none 0 0] 30 (0, 0)), (b_1, .cells #[u1, u2] 27 (0, 0))]) Sz_27 rfl rfl rfl rfl rfl rfl ⟨k1.one, k2.one, trivial⟩ rfl rfl) rfl ?_)
  refine WM.one 3 (by kernel_rfl) (ms rfl (fun hc => by cases hc) (s_store (i := 2) (vs := [.string x2.1.Name, v4]) (C' := [.string x2.1.Name, v4]) (O' := [(b_5, .cells #[u1, u2] 27 (0, 0)), (b_4, .cells #[.string x2.1.Name, v4] 30 (0, 0)), (b_2, .cells #[.string x2.1.Name, v4] 30 (0, 0)), (b_1, .cells #[u1, u2] 27 (0, 0))]) Sz_30 rfl rfl rfl rfl rfl rfl ⟨rfl, h3.one, trivial⟩ rfl rfl) rfl ?_)
  refine WM.nil (by kernel_rfl) ?_
  refine WT.ret Tryz.func11 (resOk.two (rv_cell Tn_27 rfl (fun w1 hw => hw.rgO (i := 3) rfl 0 2 [u1, u2] rfl) rfl) (rv_cell Tn_30 rfl (fun w1 hw => hw.rgO (i := 2) rfl 0 2 [.string x2.1.Name, v4] rfl) rfl)) (fun w1 hw => ?_)
  subst hb0
  cases h
  replace hw := hw.merge (js := [4, 0, 4]) (F := [X2, X3, X1].flatten) rfl (SP.eq (by simp))
  refine postG_of_St (js := [1, 1, 1, 1, 0]) hw rfl ⟨u1, D4, u2, D5, v4, D1, [X2, X3, X1].flatten, rfl, rfl, k1, (fun k hk => ((List.mem_append.1 (i4 k hk)).elim (fun h => (List.mem_flatten.2 ⟨X2, by simp, h⟩)) (fun h => (List.mem_flatten.2 ⟨X3, by simp, h⟩)))), k2, h3, (fun k hk => (List.mem_flatten.2 ⟨X1, by simp, (i2 k hk)⟩))⟩
 refine WT.cond rfl (fun c1 => ?_) (fun c1 => ?_)
 ·replace h := ite_t h c1
  refine WT.region <| lq (q_move rfl) rfl <| lq (q_loadN Tn_27 rfl (fun w1 hw => hw.rgO (i := 0) rfl 0 2 [v6, v7] rfl) rfl) rfl ?_
  obtain ⟨x7, hx5, h⟩ := bind_some h
  refine lc (k_call (js := [1]) (R := [[], ob v6, ob v7, D3, X2, ob v4, X1]) Fun_48 rfl rfl (fun w1 hw ap hl => m_s_l12Bend_ok hw.fro N (⟨x1.b, x6.2.i, x6.2.h⟩ : Tl1Cur) x4 h1 h7 h5.rsl (h6.rslG OTChain.gives) (Dj.sub (ap.o pa0) i1) (Dj.app (ap.r (i := 1) rfl) (Dj.sub (ap.r (i := 4) rfl) i3)) (Dj.app (ap.r (i := 2) rfl) (ap.r (i := 3) rfl)) ap.nd hl hx5)) rfl (fun v9 Φ_6 F5 q5 => ?_)
  obtain ⟨ap5, fr5, v10, D6, v11, D7, rfl, rfl, h8, h9, e3, h10⟩ := q5
  replace h3 := h3.frame RTRule.lasts fr5 (ap5.r (i := 5) rfl) (Dj.sub (ap5.r (i := 6) rfl) i2)
  replace h5 := h5.frame RTAlpha.lasts fr5 (ap5.r (i := 1) rfl) (Dj.sub (ap5.r (i := 4) rfl) i3)
  replace h6 := h6.frame OTChain.lasts fr5 (ap5.r (i := 2) rfl) (ap5.r (i := 3) rfl)
  refine ls (s_store (i := 0) (vs := [v10, v11]) (C' := [v10, v11]) (O' := [(b_5, .cells #[v10, v11] 27 (0, 0)), (b_4, .cells #[.string x2.1.Name, v4] 30 (0, 0)), (b_2, .cells #[.string eS, .slice none 0 0] 30 (0, 0)), (b_1, .cells #[.slice none 0 0, .slice none 0 0] 27 (0, 0))]) Sz_27 rfl rfl rfl rfl rfl rfl ⟨h8.one, h9.one, trivial⟩ rfl rfl) rfl <| WL.nil ?_
  replace h8 := h8.gives OTAlpha.gives
  refine WT.conv (S' := St w0 Φ_6 [(b_5, .cells #[v10, v11] 27 (0, 0)), (b_4, .cells #[.string x2.1.Name, v4] 30 (0, 0)), (b_2, .cells #[.string eS, .slice none 0 0] 30 (0, 0)), (b_1, .cells #[.slice none 0 0, .slice none 0 0] 27 (0, 0))] [([] ++ (D6)), ob v10, ob v11, D7, [b_3], ob v6, ob v7, D3, X2, ob v4, X1]) (fun w1 hw => hw.merge (js := [5, 1]) rfl (SP.eq (by simp [List.append_assoc]))) ?_
  refine WT.mono (l' := [(2, .pointer (some ⟨b_1, 0, none⟩)), (3, .pointer (some ⟨b_2, 0, none⟩)), (5, .pointer (some ⟨b_4, 0, none⟩)), (6, .pointer (some ⟨b_5, 0, none⟩))]) (S' := St w0 Φ_6 [(b_5, .cells #[v10, v11] 27 (0, 0)), (b_4, .cells #[.string x2.1.Name, v4] 30 (0, 0)), (b_2, .cells #[.string eS, .slice none 0 0] 30 (0, 0)), (b_1, .cells #[.slice none 0 0, .slice none 0 0] 27 (0, 0))] [([] ++ (D6)), ob v10, ob v11, D7, X2, ob v4, X1]) ⟨rfl, rfl, rfl, rfl, trivial⟩ (fun w1 hw => (hw.sel (js := [0, 0, 0, 0, 4, 4, 4]) rfl).selO (js := [0, 0, 0, 0]) rfl) ?_
  exact K (Φ_6, ([] ++ (D6)), x7.1.Alphas, v10, D6, x7.1.Chains, v11, D7) ⟨h, h3, h8, (fun k hk => (List.mem_append.2 (.inr ((fun k hk => (List.mem_append.2 (.inr hk))) k hk)))), h9⟩
 replace h := ite_f h c1
 refine WT.skip <| WT.mono (l' := [(2, .pointer (some ⟨b_1, 0, none⟩)), (3, .pointer (some ⟨b_2, 0, none⟩)), (5, .pointer (some ⟨b_4, 0, none⟩)), (6, .pointer (some ⟨b_5, 0, none⟩))]) (S' := St w0 Φ_4 [(b_5, .cells #[v6, v7] 27 (0, 0)), (b_4, .cells #[.string x2.1.Name, v4] 30 (0, 0)), (b_2, .cells #[.string eS, .slice none 0 0] 30 (0, 0)), (b_1, .cells #[.slice none 0 0, .slice none 0 0] 27 (0, 0))] [[], ob v6, ob v7, D3, X2, ob v4, X1]) ⟨rfl, rfl, rfl, rfl, trivial⟩ (fun w1 hw => (hw.sel (js := [0, 1, 1, 1, 1, 1, 1]) rfl).selO (js := [0, 0, 0, 0]) rfl) ?_
 exact K (Φ_4, [], x4.Alphas, v6, D2, x4.Chains, v7, D3) ⟨h, h3, h5, (fun k hk => (List.mem_append.2 (.inl (i3 k hk)))), h6⟩
theorem m_i_MemNew_ok {Φ : Hp} {w : World} (hΦ : In Φ w) (N : Nat) (p0 : TNet) {pv0_0 : Value} {pG0_0 : List Nat} {pv0_1 : Value} {pG0_1 : List Nat} (ph0_0 : RSl RTAlpha 4 Φ pG0_0 pv0_0 p0.Alphas) (ph0_1 : RSl RTChain 2 Φ pG0_1 pv0_1 p0.Chains) {r : TMem} (h : m_i_MemNew N p0 = some r) :
  Calls Tryz.prog 12 [.agg [pv0_0, pv0_1].toArray].toArray w (PostG Φ w [] (fun Φ' Fs v => ∃ (sr_0_0 : Value) (Dr_0_0 : List Nat) (sr_0_1 : Value) (Dr_0_1 : List Nat), v = .agg [sr_0_0, sr_0_1].toArray ∧ Fs = [ob sr_0_0, Dr_0_0, ob sr_0_1, Dr_0_1] ∧ OSl OTIds 312 1 Φ' Dr_0_0 sr_0_0 r.Alphas ∧ OSl OTRow 40 1 Φ' Dr_0_1 sr_0_1 r.Rules)) := by
 refine enter Tryz.func12 rfl Tryz.ntmps12 rfl (St.start0 hΦ) ?_
 have pa0_1 : Old ⟨w, [], Φ⟩ pG0_1 := Old.mk hΦ ph0_1.kn (Dj.empty _)
 revert pa0_1
 generalize hb0 : (⟨w, [], Φ⟩ : Base) = w0
 intro pa0_1
 unfold m_i_MemNew at h
 refine WT.seq <| WT.region ?_
 refine ln (n_box (C := #[pv0_0, pv0_1]) rfl rfl) rfl (fun b_1 => ?_)
 refine ln (n_alloc (C := #[.slice none 0 0, .slice none 0 0]) Zr_36 rfl) rfl (fun b_2 => ?_)
 refine WL.nil <| sr <| lq (q_fieldAddr Fld_27_0 rfl) rfl <| lq (q_load1 T1_24 rfl (fun w1 hw => hw.rgO (i := 1) rfl 0 1 [pv0_0] rfl)) rfl <| lq (q_lenR Sl_24 rfl rfl ph0_0) rfl ?_
 obtain ⟨x1, hx1, h⟩ := bind_some h
 refine le' (e_make (R := OTIds) Sl_33 Zr_312 By_312 rfl rfl rfl (fun _ => ⟨.slice none 0 0, rfl, rfl, OSl.nil _ _ _ _⟩) rfl rfl (Int.le_refl _) hx1 (mk_le hx1)) rfl (fun v1 Φ_1 D1 q1 => ?_)
 obtain ⟨fr1, h1⟩ := q1
 replace ph0_0 := ph0_0.frame RTAlpha.lasts fr1 (Dj.empty _)
 replace ph0_1 := ph0_1.frame RTChain.lasts fr1 (Dj.empty _)
 refine WL.conv (S' := St w0 Φ_1 [(b_2, .cells #[.slice none 0 0, .slice none 0 0] 36 (0, 0)), (b_1, .cells #[pv0_0, pv0_1] 27 (0, 0))] ([] :: [ob v1])) (fun w1 hw => hw.addNil) <| lq (q_build (vs := [(0, v1)]) (C := #[v1, .slice none 0 0]) Pl_36 Zr_36 rfl (fill_cons (cells := [.slice none 0 0, .slice none 0 0]) (c := [v1]) (C' := [v1, .slice none 0 0]) rfl (one_cells h1.one) rfl rfl rfl (fill_nil))) rfl ?_
 refine ln (n_alloc (C := #[.slice none 0 0, .slice none 0 0]) Zr_36 rfl) rfl (fun b_3 => ?_)
 refine ls (s_store (i := 0) (vs := [v1, .slice none 0 0]) (C' := [v1, .slice none 0 0]) (O' := [(b_3, .cells #[v1, .slice none 0 0] 36 (0, 0)), (b_2, .cells #[.slice none 0 0, .slice none 0 0] 36 (0, 0)), (b_1, .cells #[pv0_0, pv0_1] 27 (0, 0))]) Sz_36 rfl rfl rfl rfl rfl rfl ⟨h1.one, rfl, trivial⟩ rfl rfl) rfl <| WL.nil <| WT.seq <| sr <| lq (q_fieldAddr Fld_27_1 rfl) rfl <| lq (q_load1 T1_25 rfl (fun w1 hw => hw.rgO (i := 2) rfl 1 1 [pv0_1] rfl)) rfl ?_
 refine lq (q_lenR Sl_25 rfl rfl ph0_1) rfl <| lq (q_move rfl) rfl <| WL.nil <| WT.block <| WT.loop <| WT.conv (S' := St w0 Φ_1 [(b_3, .cells #[v1, .slice none 0 0] 36 (0, 0)), (b_2, .cells #[.slice none 0 0, .slice none 0 0] 36 (0, 0)), (b_1, .cells #[pv0_0, pv0_1] 27 (0, 0))] (ob (.slice none 0 0) :: [[], ob v1])) (fun w1 hw => hw.addNil) <| WT.conv (S' := St w0 Φ_1 [(b_3, .cells #[v1, .slice none 0 0] 36 (0, 0)), (b_2, .cells #[.slice none 0 0, .slice none 0 0] 36 (0, 0)), (b_1, .cells #[pv0_0, pv0_1] 27 (0, 0))] ([] :: [ob (.slice none 0 0), [], ob v1])) (fun w1 hw => hw.addNil) ?_
 have k1 := OSl.nil OTRow 40 1 Φ_1
 refine WT.mono (l' := [(2, .pointer (some ⟨b_2, 0, none⟩)), (3, .pointer (some ⟨b_3, 0, none⟩)), (12, pv0_1), (13, .int .i64 (p0.Chains.length : Int)), (14, .int .i64 0)]) (S' := St w0 Φ_1 [(b_3, .cells #[v1, (.slice none 0 0)] 36 (0, 0)), (b_2, .cells #[.slice none 0 0, .slice none 0 0] 36 (0, 0))] [[], ob (.slice none 0 0), [], ob v1]) ⟨rfl, rfl, rfl, rfl, rfl, trivial⟩ (fun w1 hw => (hw.sel (js := [0, 0, 0, 0]) rfl).selO (js := [0, 0]) rfl) ?_
 refine loop_ind (σ := Hp × (List TRow) × Value × List Nat × Int) (fun s => [(2, .pointer (some ⟨b_2, 0, none⟩)), (3, .pointer (some ⟨b_3, 0, none⟩)), (12, pv0_1), (13, .int .i64 (p0.Chains.length : Int)), (14, .int .i64 s.2.2.2.2)]) (fun s => St w0 s.1 [(b_3, .cells #[v1, s.2.2.1] 36 (0, 0)), (b_2, .cells #[.slice none 0 0, .slice none 0 0] 36 (0, 0))] [s.2.2.2.1, ob s.2.2.1, [], ob v1]) (fun m s => m_i_MemNew_l1 N p0 x1 m s.2.1 s.2.2.2.2 = some r ∧ (OSl OTIds 312 1 s.1 [] v1 x1) ∧ (OSl OTRow 40 1 s.1 s.2.2.2.1 s.2.2.1 s.2.1) ∧ (RSl RTChain 2 s.1 pG0_1 pv0_1 p0.Chains)) (fun s hm => none_ne (show (none : Option (TMem)) = some r from hm.1)) (fun n1 ih1 s hm => ?_) N (Φ_1, ([] : List TRow), (.slice none 0 0), [], 0) ⟨h, h1, k1, ph0_1⟩
 obtain ⟨Φ_2, s1, u1, D2, s2⟩ := s
 obtain ⟨h, h1, k2, ph0_1⟩ := hm
 replace h : m_i_MemNew_l1 N p0 x1 (n1 + 1) s1 s2 = some r := h
 replace h1 : OSl OTIds 312 1 Φ_2 [] v1 x1 := h1
 replace k2 : OSl OTRow 40 1 Φ_2 D2 u1 s1 := k2
 replace ph0_1 : RSl RTChain 2 Φ_2 pG0_1 pv0_1 p0.Chains := ph0_1
 show WT _ _ [(2, .pointer (some ⟨b_2, 0, none⟩)), (3, .pointer (some ⟨b_3, 0, none⟩)), (12, pv0_1), (13, .int .i64 (p0.Chains.length : Int)), (14, .int .i64 s2)] (St w0 Φ_2 [(b_3, .cells #[v1, u1] 36 (0, 0)), (b_2, .cells #[.slice none 0 0, .slice none 0 0] 36 (0, 0))] [D2, ob u1, [], ob v1])
 unfold m_i_MemNew_l1 at h
 refine sr <| lq (q_lss rfl rfl) rfl <| WL.nil <| WT.seq ?_
 refine WT.cond rfl (fun c1 => ?_) (fun c1 => ?_)
 ·replace h := ite_t h c1
  refine WT.skip <| WT.seq <| WT.block <| WT.seq <| WT.region ?_
  obtain ⟨x2, hx2, h⟩ := bind_some h
  obtain ⟨cs1, F1, -, g1, hb1, hs1, r1⟩ := ph0_1.el (idx_some hx2).2.2
  obtain ⟨v2, G1, v3, G2, rfl, rfl, h2, h3⟩ := r1
  refine lq (q_indexAddr Sl_25 rfl rfl ph0_1 hx2) rfl <| lq (q_loadN Tn_43 rfl (fun w1 hw => (g1.of_eq 0 2 rfl rfl : rg _ _ _ [v2, v3]).rangeAt hw.fro) rfl) rfl ?_
  refine ln (n_alloc (C := #[.slice none 0 0, .slice none 0 0]) Zr_43 rfl) rfl (fun b_4 => ?_)
  refine ls (s_store (i := 0) (vs := [v2, v3]) (C' := [v2, v3]) (O' := [(b_4, .cells #[v2, v3] 43 (0, 0)), (b_3, .cells #[v1, u1] 36 (0, 0)), (b_2, .cells #[.slice none 0 0, .slice none 0 0] 36 (0, 0))]) Sz_43 rfl rfl rfl rfl rfl rfl ⟨h2.one, h3.one, trivial⟩ rfl rfl) rfl <| WL.nil <| WT.mix (Kn Φ_2 [] [(b_4, .cells #[v2, v3] 43 (0, 0)), (b_3, .cells #[v1, u1] 36 (0, 0)), (b_2, .cells #[.slice none 0 0, .slice none 0 0] 36 (0, 0))]) (fun i => match i with | 10 => false | _ => true) mixed (fun _ h => h.drew) ?_
  refine mq 0 rfl (by kernel_rfl) (fun w1 hw => Kn.of (fun k hk _ _ => by simp at hk) (AllIn.mem ⟨gM 0 rfl, gM 1 rfl, gM 2 rfl, trivial⟩) hw) (q_fieldAddr Fld_36_1 rfl) rfl <| mq 1 rfl (by kernel_rfl) (fun w1 hw => Kn.of (fun k hk _ _ => by simp at hk) (AllIn.mem ⟨gM 0 rfl, gM 1 rfl, gM 2 rfl, trivial⟩) hw) (q_load1 T1_34 rfl (fun w1 hw => hw.rgO (i := 1) rfl 1 1 [u1] rfl)) rfl ?_
  refine mq 2 rfl (by kernel_rfl) (fun w1 hw => Kn.of (fun k hk _ _ => by simp at hk) (AllIn.mem ⟨gM 0 rfl, gM 1 rfl, gM 2 rfl, trivial⟩) hw) (q_fieldAddr Fld_43_0 rfl) rfl <| mq 3 rfl (by kernel_rfl) (fun w1 hw => Kn.of (fun k hk _ _ => by simp at hk) (AllIn.mem ⟨gM 0 rfl, gM 1 rfl, gM 2 rfl, trivial⟩) hw) (q_load1 T1_41 rfl (fun w1 hw => hw.rgO (i := 0) rfl 0 1 [v2] rfl)) rfl ?_
  refine mq 4 rfl (by kernel_rfl) (fun w1 hw => Kn.of (fun k hk _ _ => by simp at hk) (AllIn.mem ⟨gM 0 rfl, gM 1 rfl, gM 2 rfl, trivial⟩) hw) (q_lenR Sl_41 rfl rfl h2) rfl ?_
  obtain ⟨x3, hx3, h⟩ := bind_some h
  refine WM.one 5 (by kernel_rfl) (me rfl (fun _ v Φx D w1 hq hw => Kn.of (fun k hk _ _ => by simp at hk) (AllIn.mem ⟨gM 0 rfl, gM 1 rfl, gM 2 rfl, trivial⟩) hw) (e_make (R := OTLevel) Sl_38 Zr_315 By_315 rfl rfl rfl (fun _ => ⟨.slice none 0 0, [], rfl, rfl, OSl.nil _ _ _ _⟩) rfl rfl (Int.le_refl _) hx3 (mk_le hx3)) rfl (fun v4 Φ_3 D3 q2 => ?_))
  obtain ⟨fr2, h4⟩ := q2
  replace ph0_1 := ph0_1.frame RTChain.lasts fr2 (Dj.empty _)
  replace h1 := h1.frame OTIds.lasts fr2 (Dj.empty _) (Dj.empty _)
  replace k2 := k2.frame OTRow.lasts fr2 (Dj.empty _) (Dj.empty _)
  refine WM.conv (S' := St w0 Φ_3 [(b_4, .cells #[v2, v3] 43 (0, 0)), (b_3, .cells #[v1, u1] 36 (0, 0)), (b_2, .cells #[.slice none 0 0, .slice none 0 0] 36 (0, 0))] ([] :: [ob v4, D2, ob u1, [], ob v1])) (fun w1 hw => hw.addNil) <| mq 6 rfl (by kernel_rfl) (fun w1 hw => Kn.of (fun k hk _ _ => by simp at hk) (AllIn.mem ⟨gM 0 rfl, gM 1 rfl, gM 2 rfl, trivial⟩) hw) (q_build (vs := [(0, v4)]) (C := #[v4]) Pl_40 Zr_40 rfl (fill_cons (cells := [.slice none 0 0]) (c := [v4]) (C' := [v4]) rfl (one_cells h4.one) rfl rfl rfl (fill_nil))) rfl ?_
  have rc1 : RC OTRow 1 Φ_3 ([(ob v4 ++ [])] : List (List Nat)) [v4] ([(⟨x3⟩ : TRow)] : List TRow) := RC.cons (c := [v4]) (cells := []) ⟨v4, [], rfl, rfl, h4⟩ rfl (RC.nil _ _ _)
  refine WM.one 7 (by kernel_rfl) (me rfl (fun _ v Φx D w1 hq hw => Kn.of (fun k hk _ _ => by simp at hk) (AllIn.mem ⟨gM 0 rfl, gM 1 rfl, gM 2 rfl, trivial⟩) hw) (e_lit (vs := [(0, .agg [v4].toArray)]) (C := #[v4]) OTRow.lasts Sl_34 Zr_40 rfl rfl rfl rfl (fill_made MC_40_1 (fill_cons (cells := [.slice none 0 0]) (c := [v4]) (C' := [v4]) rfl rfl rfl rfl rfl (fill_nil))) rfl rc1 rfl (RC.kn OTRow.knows rc1)) rfl (fun v5 Φ_4 D4 q3 => ?_))
  obtain ⟨fr3, h5⟩ := q3
  replace h5 : OSl OTRow 40 1 Φ_4 ((ob v4 ++ [])) v5 ([(⟨x3⟩ : TRow)] : List TRow) := by simpa [List.append_assoc] using h5
  replace ph0_1 := ph0_1.frame RTChain.lasts fr3 (Dj.empty _)
  replace h1 := h1.frame OTIds.lasts fr3 (Dj.empty _) (Dj.empty _)
  replace k2 := k2.frame OTRow.lasts fr3 (Dj.empty _) (Dj.empty _)
  refine WM.conv (S' := St w0 Φ_4 [(b_4, .cells #[v2, v3] 43 (0, 0)), (b_3, .cells #[v1, u1] 36 (0, 0)), (b_2, .cells #[.slice none 0 0, .slice none 0 0] 36 (0, 0))] [((ob v4 ++ [])), ob v5, D2, ob u1, [], ob v1]) (fun w1 hw => hw.merge (js := [2, 1]) rfl (SP.eq (by simp [List.append_assoc, ob_nil]))) ?_
  obtain ⟨x4, hx4, h⟩ := bind_some h
  refine WM.one 8 (by kernel_rfl) (me rfl (fun _ v Φx D w1 hq hw => Kn.of (fun k hk _ _ => by simp at hk) (AllIn.mem ⟨gM 0 rfl, gM 1 rfl, gM 2 rfl, trivial⟩) hw) (e_appO OTRow.lasts OTRow.one Sl_34 Ei_40 rfl rfl rfl rfl rfl (js := [3]) (Rr := [((ob v4 ++ [])), ob v5, D2, [], ob v1]) rfl k2 h5 (fun ap => (ap.r (i := 2) rfl)) (fun ap => (ap.r (i := 0) rfl)) hx4) rfl (fun v6 Φ_5 D5 q4 => ?_))
  obtain ⟨⟨ap1, fr4⟩, h6⟩ := q4
  replace ph0_1 := ph0_1.frame RTChain.lasts fr4 (ap1.o pa0_1)
  replace h1 := h1.frame OTIds.lasts fr4 (ap1.r (i := 4) rfl) (Dj.nil _)
  refine WM.conv (S' := St w0 Φ_5 [(b_4, .cells #[v2, v3] 43 (0, 0)), (b_3, .cells #[v1, u1] 36 (0, 0)), (b_2, .cells #[.slice none 0 0, .slice none 0 0] 36 (0, 0))] [(D2 ++ ((ob v4 ++ []))), ob v6, ob v5, [], ob v1]) (fun w1 hw => hw.merge (js := [3, 1]) rfl (SP.eq (by simp))) <| mq 9 rfl (by kernel_rfl) (fun w1 hw => Kn.of (fun k hk _ _ => by simp at hk) (AllIn.mem ⟨gM 0 rfl, gM 1 rfl, gM 2 rfl, trivial⟩) hw) (q_fieldAddr Fld_36_1 rfl) rfl ?_
  refine WM.one 10 (by kernel_rfl) (ms rfl (fun hc => by cases hc) (s_store (i := 1) (vs := [v6]) (C' := [v1, v6]) (O' := [(b_4, .cells #[v2, v3] 43 (0, 0)), (b_3, .cells #[v1, v6] 36 (0, 0)), (b_2, .cells #[.slice none 0 0, .slice none 0 0] 36 (0, 0))]) Sz_34 rfl rfl rfl (one_cells h6.one) rfl rfl ⟨h6.one, trivial⟩ rfl rfl) rfl ?_)
  refine WM.nil (by kernel_rfl) <| WT.inBlock <| WT.region <| lq (q_add rfl rfl) rfl <| lq (q_move rfl) rfl <| WL.nil ?_
  refine WT.inLoop (WT.mono (l' := [(2, .pointer (some ⟨b_2, 0, none⟩)), (3, .pointer (some ⟨b_3, 0, none⟩)), (12, pv0_1), (13, .int .i64 (p0.Chains.length : Int)), (14, .int .i64 (IntKind.i64.wrap (s2 + 1)))]) (S' := St w0 Φ_5 [(b_3, .cells #[v1, v6] 36 (0, 0)), (b_2, .cells #[.slice none 0 0, .slice none 0 0] 36 (0, 0))] [(D2 ++ ((ob v4 ++ []))), ob v6, [], ob v1]) ⟨rfl, rfl, rfl, rfl, rfl, trivial⟩ (fun w1 hw => (hw.sel (js := [0, 0, 1, 1]) rfl).selO (js := [1, 1]) rfl) ?_)
  exact ih1 (Φ_5, x4, v6, (D2 ++ ((ob v4 ++ []))), IntKind.i64.wrap (s2 + 1)) ⟨h, h1, h6, ph0_1⟩
 replace h := ite_f h c1
 refine WT.exit rfl <| sr <| lq (q_loadN Tn_36 rfl (fun w1 hw => hw.rgO (i := 0) rfl 0 2 [v1, u1] rfl) rfl) rfl <| ls (s_store (i := 1) (vs := [v1, u1]) (C' := [v1, u1]) (O' := [(b_3, .cells #[v1, u1] 36 (0, 0)), (b_2, .cells #[v1, u1] 36 (0, 0))]) Sz_36 rfl rfl rfl rfl rfl rfl ⟨h1.one, k2.one, trivial⟩ rfl rfl) rfl <| WL.nil ?_
 refine WT.ret Tryz.func12 (resOk.one (rv_cell Tn_36 rfl (fun w1 hw => hw.rgO (i := 1) rfl 0 2 [v1, u1] rfl) rfl)) (fun w1 hw => ?_)
 subst hb0
 cases h
 refine postG_of_St (js := [3, 2, 1, 0]) hw rfl ⟨v1, [], u1, D2, rfl, rfl, h1, k2⟩
theorem m_i_PosCount_ok {Φ : Hp} {w : World} (hΦ : In Φ w) (N : Nat) (p0 : TRule) {pv0_0 : Value} {pG0_0 : List Nat} {pv0_1 : Value} {pG0_1 : List Nat} {pv0_2 : Value} {pG0_2 : List Nat} (ph0_0 : RSl RTPat 3 Φ pG0_0 pv0_0 p0.Pats) (ph0_1 : RSl RTCond 11 Φ pG0_1 pv0_1 p0.Conds) (ph0_2 : RSl RTAct 5 Φ pG0_2 pv0_2 p0.Acts) {r : Int} (h : m_i_PosCount N p0 = some r) :
  Calls Tryz.prog 24 [.agg [.string p0.Name, .int .i64 p0.Sal, pv0_0, pv0_1, pv0_2].toArray].toArray w (Post (.int .i64 r) w) := by
 refine enter Tryz.func24 rfl Tryz.ntmps24 rfl (St.start0 hΦ) ?_
 generalize hb0 : (⟨w, [], Φ⟩ : Base) = w0
 unfold m_i_PosCount at h
 refine WT.seq <| WT.region ?_
 refine ln (n_box (C := #[.string p0.Name, .int .i64 p0.Sal, pv0_0, pv0_1, pv0_2]) rfl rfl) rfl (fun b_1 => ?_)
 refine lq (q_assign rfl) rfl <| WL.nil <| sr <| lq (q_assign rfl) rfl <| WL.nil <| WT.seq <| sr <| lq (q_fieldAddr Fld_49_2 rfl) rfl <| lq (q_load1 T1_45 rfl (fun w1 hw => hw.rgO (i := 0) rfl 2 1 [pv0_0] rfl)) rfl <| lq (q_lenR Sl_45 rfl rfl ph0_0) rfl <| lq (q_move rfl) rfl <| WL.nil <| WT.block <| WT.loop <| WT.mono (l' := [(3, .int .i64 0), (7, pv0_0), (8, .int .i64 (p0.Pats.length : Int)), (9, .int .i64 0)]) (S' := St w0 Φ [] []) ⟨rfl, rfl, rfl, rfl, trivial⟩ (fun w1 hw => (hw.sel (js := []) rfl).selO (js := []) rfl) ?_
 refine loop_ind (σ := Int × Int) (fun s => [(3, .int .i64 s.1), (7, pv0_0), (8, .int .i64 (p0.Pats.length : Int)), (9, .int .i64 s.2)]) (fun s => St w0 Φ [] []) (fun m s => m_i_PosCount_l1 N p0 m s.1 s.2 = some r) (fun s hm => none_ne (show (none : Option (Int)) = some r from hm)) (fun n1 ih1 s hm => ?_) N (0, 0) h
 obtain ⟨s1, s2⟩ := s
 have h : m_i_PosCount_l1 N p0 (n1 + 1) s1 s2 = some r := hm
 show WT _ _ [(3, .int .i64 s1), (7, pv0_0), (8, .int .i64 (p0.Pats.length : Int)), (9, .int .i64 s2)] (St w0 Φ [] [])
 unfold m_i_PosCount_l1 at h
 refine sr <| lq (q_lss rfl rfl) rfl <| WL.nil <| WT.seq ?_
 refine WT.cond rfl (fun c1 => ?_) (fun c1 => ?_)
 ·replace h := ite_t h c1
  refine WT.skip <| WT.seq <| WT.block <| WT.seq <| WT.region ?_
  obtain ⟨x1, hx1, h⟩ := bind_some h
  obtain ⟨cs1, F1, -, g1, hb1, hs1, r1⟩ := ph0_0.el (idx_some hx1).2.2
  obtain ⟨v1, G1, rfl, hq1, h1⟩ := r1
  obtain rfl := hq1.symm
  refine lq (q_indexAddr Sl_45 rfl rfl ph0_0 hx1) rfl <| lq (q_loadN Tn_114 rfl (fun w1 hw => (g1.of_eq 0 3 rfl rfl : rg _ _ _ [.string x1.Kind, v1, .bool x1.Not]).rangeAt hw.fro) rfl) rfl ?_
  refine ln (n_alloc (C := #[.string eS, .slice none 0 0, .bool false]) Zr_114 rfl) rfl (fun b_2 => ?_)
  refine ls (s_store (i := 0) (vs := [.string x1.Kind, v1, .bool x1.Not]) (C' := [.string x1.Kind, v1, .bool x1.Not]) (O' := [(b_2, .cells #[.string x1.Kind, v1, .bool x1.Not] 114 (0, 0))]) Sz_114 rfl rfl rfl rfl rfl rfl ⟨rfl, h1.one, rfl, trivial⟩ rfl rfl) rfl <| WL.nil <| sr <| lq (q_fieldAddr Fld_114_2 rfl) rfl <| lq (q_load1 T1_4 rfl (fun w1 hw => hw.rgO (i := 0) rfl 2 1 [.bool x1.Not] rfl)) rfl <| lq (q_not rfl) rfl ?_
  refine WL.nil ?_
  refine WT.cond rfl (fun c2 => ?_) (fun c2 => ?_)
  ·replace h := ite_t h c2
   refine WT.region <| lq (q_move rfl) rfl <| lq (q_add rfl rfl) rfl <| lq (q_assign rfl) rfl <| WL.nil <| WT.inBlock <| WT.region <| lq (q_add rfl rfl) rfl <| lq (q_move rfl) rfl <| WL.nil ?_
   refine WT.inLoop (WT.mono (l' := [(3, .int .i64 (IntKind.i64.wrap (s1 + 1))), (7, pv0_0), (8, .int .i64 (p0.Pats.length : Int)), (9, .int .i64 (IntKind.i64.wrap (s2 + 1)))]) (S' := St w0 Φ [] []) ⟨rfl, rfl, rfl, rfl, trivial⟩ (fun w1 hw => (hw.sel (js := []) rfl).selO (js := []) rfl) ?_)
   exact ih1 (IntKind.i64.wrap (s1 + 1), IntKind.i64.wrap (s2 + 1)) h
  replace h := ite_f h c2
  refine WT.skip <| WT.inBlock <| WT.region <| lq (q_add rfl rfl) rfl <| lq (q_move rfl) rfl <| WL.nil ?_
  refine WT.inLoop (WT.mono (l' := [(3, .int .i64 s1), (7, pv0_0), (8, .int .i64 (p0.Pats.length : Int)), (9, .int .i64 (IntKind.i64.wrap (s2 + 1)))]) (S' := St w0 Φ [] []) ⟨rfl, rfl, rfl, rfl, trivial⟩ (fun w1 hw => (hw.sel (js := []) rfl).selO (js := []) rfl) ?_)
  exact ih1 (s1, IntKind.i64.wrap (s2 + 1)) h
 replace h := ite_f h c1
 refine WT.exit rfl <| sr <| lq (q_move rfl) rfl <| lq (q_assign rfl) rfl <| WL.nil ?_
 refine WT.ret Tryz.func24 (resOk.one rfl) (fun w1 hw => ?_)
 subst hb0
 cases h
 exact post_of_St hw
theorem m_i_isSmall_ok {Φ : Hp} {w : World} (hΦ : In Φ w) (N : Nat) (p0 : Int)   {r : Bool} (h : m_i_isSmall N p0 = some r) :
  Calls Tryz.prog 138 [.int .u8 p0].toArray w (Post (.bool r) w) := by
 refine enter Tryz.func138 rfl Tryz.ntmps138 rfl (St.start0 hΦ) ?_
 unfold m_i_isSmall at h
 refine sr <| lq (q_assign rfl) rfl <| WL.nil <| sr <| lq (q_move rfl) rfl <| lq (q_geq rfl rfl) rfl <| lq (q_move rfl) rfl ?_
 obtain ⟨b1, hb_1, h⟩ := bind_some h
 refine WL.cutN 3 [(8, .bool b1), (2, .bool false)] ?_ (fun K => ?_)
 rotate_left
 ·refine WL.split (d := 5) rfl (fun c1 => ?_) (fun c1 => ?_)
  ·replace hb_1 := ite_t hb_1 c1
   refine WL.yes rfl rfl <| lq (q_move rfl) rfl <| WL.yes rfl rfl <| lq (q_leq rfl rfl) rfl <| WL.q (q_pick1 rfl rfl) rfl rfl rfl ?_
   cases hb_1
   exact WL.keep (by exact ⟨rfl, rfl, trivial⟩) K
  ·replace hb_1 := ite_f hb_1 c1
   refine WL.no rfl rfl rfl rfl <| WL.no rfl rfl rfl rfl <| WL.q (q_pick0 rfl rfl) rfl rfl rfl ?_
   cases hb_1
   exact WL.keep (by exact ⟨rfl, rfl, trivial⟩) K
 refine lq (q_assign rfl) rfl <| WL.nil ?_
 refine WT.ret Tryz.func138 (resOk.one rfl) (fun w1 hw => ?_)
 cases h
 exact post_of_St hw
theorem m_i_isDigit_ok {Φ : Hp} {w : World} (hΦ : In Φ w) (N : Nat) (p0 : Int)   {r : Bool} (h : m_i_isDigit N p0 = some r) :
  Calls Tryz.prog 224 [.int .u8 p0].toArray w (Post (.bool r) w) := by
 refine enter Tryz.func224 rfl Tryz.ntmps224 rfl (St.start0 hΦ) ?_
 unfold m_i_isDigit at h
 refine sr <| lq (q_assign rfl) rfl <| WL.nil <| sr <| lq (q_move rfl) rfl <| lq (q_geq rfl rfl) rfl <| lq (q_move rfl) rfl ?_
 obtain ⟨b1, hb_1, h⟩ := bind_some h
 refine WL.cutN 3 [(8, .bool b1), (2, .bool false)] ?_ (fun K => ?_)
 rotate_left
 ·refine WL.split (d := 5) rfl (fun c1 => ?_) (fun c1 => ?_)
  ·replace hb_1 := ite_t hb_1 c1
   refine WL.yes rfl rfl <| lq (q_move rfl) rfl <| WL.yes rfl rfl <| lq (q_leq rfl rfl) rfl <| WL.q (q_pick1 rfl rfl) rfl rfl rfl ?_
   cases hb_1
   exact WL.keep (by exact ⟨rfl, rfl, trivial⟩) K
  ·replace hb_1 := ite_f hb_1 c1
   refine WL.no rfl rfl rfl rfl <| WL.no rfl rfl rfl rfl <| WL.q (q_pick0 rfl rfl) rfl rfl rfl ?_
   cases hb_1
   exact WL.keep (by exact ⟨rfl, rfl, trivial⟩) K
 refine lq (q_assign rfl) rfl <| WL.nil ?_
 refine WT.ret Tryz.func224 (resOk.one rfl) (fun w1 hw => ?_)
 cases h
 exact post_of_St hw
end Go.Proofs.YtjangilipfjcmaaGreat
