/- Printed by a program of ours: each Go function computes its Lean function. -/
import Derived.Test.YtelchcokfcdndaaGreatProg
import Derived.Test.YtelchcokfcdndaaGreatWAllMatchesWalk2
namespace Go.Proofs.YtelchcokfcdndaaGreat
open Eng
open Go.RowKit (Below)
set_option linter.unusedVariables false
set_option linter.unusedSimpArgs false

set_option maxRecDepth 100000
set_option maxHeartbeats 1000000
theorem m_s_l9Any_ok {Φ : Hp} {w : World} (hΦ : In Φ w) (N : Nat) (p0 : Tl1Cur) {pv0_0 : Value} {pG0_0 : List Nat} {pb0 : Nat} (ph0_0 : RSl (RI .u8) 1 Φ pG0_0 pv0_0 p0.b) (pp0 : Φ pb0 = some (.cells #[pv0_0, .int .i64 p0.i, .int .i64 p0.h] 112 (0, 0))) (pd0_0 : Dj pG0_0 [[pb0]].flatten) (hB : [[pb0]].flatten.Nodup) (hlt : ∀ k ∈ [[pb0]].flatten, k < w.heap.size) {r : TRule × Tl1Cur} (h : m_s_l9Any N p0 = some r) :
  Calls Tryz.prog 75 [.pointer (some ⟨pb0, 0, none⟩)].toArray w (PostG Φ w [[pb0]].flatten (fun Φ' Fs v => ∃ (sr_0_0 : Value) (Dr_0_0 : List Nat) (sr_0_1 : Value) (Gr_0_1 : List Nat) (sr_0_2 : Value) (Gr_0_2 : List Nat) (X : List Nat), v = .agg [.string r.1.Name, .int .i64 r.1.Sal, sr_0_0, sr_0_1, sr_0_2].toArray ∧ Fs = [ob sr_0_0, [pb0], X] ∧ OSl RTPat 171 3 Φ' Dr_0_0 sr_0_0 r.1.Pats ∧ (∀ k ∈ Dr_0_0, k ∈ X) ∧ RSl RTCond 11 Φ' Gr_0_1 sr_0_1 r.1.Conds ∧ (∀ k ∈ Gr_0_1, k ∈ X) ∧ RSl RTAct 5 Φ' Gr_0_2 sr_0_2 r.1.Acts ∧ (∀ k ∈ Gr_0_2, k ∈ X) ∧ r.2.b = p0.b ∧ Φ' pb0 = some (.cells #[pv0_0, .int .i64 r.2.i, .int .i64 r.2.h] 112 (0, 0)))) := by
 refine enter Tryz.func75 rfl Tryz.ntmps75 rfl (St.start hΦ [[pb0]] hB hlt) ?_
 have pa0_0 := Old.mk hΦ ph0_0.kn pd0_0
 revert pa0_0
 generalize hb0 : (⟨w, [[pb0]].flatten, Φ⟩ : Base) = w0
 intro pa0_0
 unfold m_s_l9Any at h
 refine sr ?_
 refine ln (nz Zr_40) rfl (fun b_1 => ?_)
 refine en <| sr <| la rfl <| la rfl ?_
 have rc1 : RC RS 1 Φ ([[], [], []] : List (List Nat)) [.string (⟨#[114, 49]⟩ : ByteArray), .string (⟨#[114, 50]⟩ : ByteArray), .string (⟨#[115, 104, 105, 112]⟩ : ByteArray)] ([(⟨#[114, 49]⟩ : ByteArray), (⟨#[114, 50]⟩ : ByteArray), (⟨#[115, 104, 105, 112]⟩ : ByteArray)] : List ByteArray) := RC.cons (c := [.string (⟨#[114, 49]⟩ : ByteArray)]) (cells := [.string (⟨#[114, 50]⟩ : ByteArray), .string (⟨#[115, 104, 105, 112]⟩ : ByteArray)]) ⟨rfl, rfl⟩ rfl (RC.cons (c := [.string (⟨#[114, 50]⟩ : ByteArray)]) (cells := [.string (⟨#[115, 104, 105, 112]⟩ : ByteArray)]) ⟨rfl, rfl⟩ rfl (RC.cons (c := [.string (⟨#[115, 104, 105, 112]⟩ : ByteArray)]) (cells := []) ⟨rfl, rfl⟩ rfl (RC.nil _ _ _)))
 refine le' (e_lit (vs := [(0, .string (⟨#[114, 49]⟩ : ByteArray)), (1, .string (⟨#[114, 50]⟩ : ByteArray)), (2, .string (⟨#[115, 104, 105, 112]⟩ : ByteArray))]) (C := #[.string (⟨#[114, 49]⟩ : ByteArray), .string (⟨#[114, 50]⟩ : ByteArray), .string (⟨#[115, 104, 105, 112]⟩ : ByteArray)]) RS.lasts Sl_114 Zr_9 rfl rfl rfl rfl (fill_made MC_9_3 (fill_cons (C' := [.string (⟨#[114, 49]⟩ : ByteArray), .string ⟨#[]⟩, .string ⟨#[]⟩]) rfl rfl rfl rfl rfl (fill_cons (C' := [.string (⟨#[114, 49]⟩ : ByteArray), .string (⟨#[114, 50]⟩ : ByteArray), .string ⟨#[]⟩]) rfl rfl rfl rfl rfl (fill_cons (C' := [.string (⟨#[114, 49]⟩ : ByteArray), .string (⟨#[114, 50]⟩ : ByteArray), .string (⟨#[115, 104, 105, 112]⟩ : ByteArray)]) rfl rfl rfl rfl rfl (fill_nil))))) rfl rc1 rfl (by simpa using Kw.nil)) rfl (fun v1 Φ_1 D1 q1 => ?_)
 obtain ⟨fr1, h1⟩ := q1
 replace h1 : OSl RS 9 1 Φ_1 [] v1 ([(⟨#[114, 49]⟩ : ByteArray), (⟨#[114, 50]⟩ : ByteArray), (⟨#[115, 104, 105, 112]⟩ : ByteArray)] : List ByteArray) := by simpa using h1
 replace ph0_0 := ph0_0.frame RI.lasts fr1 (Dj.empty _)
 replace pp0 := fr1 _ _ (by simp) pp0
 obtain ⟨x1, hx1, h⟩ := bs h
 refine lc (k_call (js := [1]) (R := [ob v1]) Fun_72 rfl rfl (fun w1 hw ap hl => m_s_l1Str_ok hw.fro N p0 ([(⟨#[114, 49]⟩ : ByteArray), (⟨#[114, 50]⟩ : ByteArray), (⟨#[115, 104, 105, 112]⟩ : ByteArray)] : List ByteArray) ph0_0 pp0 h1.rsl (ap.o pa0_0) (Dj.app (ap.r (i := 0) rfl) (Dj.nil _)) ap.nd hl hx1)) rfl (fun v2 Φ_2 F1 q2 => ?_)
 obtain ⟨ap1, fr2, rfl, rfl, e1, h2⟩ := q2
 replace ph0_0 := ph0_0.frame RI.lasts fr2 (ap1.o pa0_0)
 obtain ⟨x2, hx2, h⟩ := bs h
 refine lc (k_call (js := [0]) (R := [ob v1]) Fun_74 rfl rfl (fun w1 hw ap hl => m_s_l9Draw_ok hw.fro N (⟨p0.b, x1.2.i, x1.2.h⟩ : Tl1Cur) x1.1 ph0_0 h2 (ap.o pa0_0) ap.nd hl hx2)) rfl (fun v3 Φ_3 F2 q3 => ?_)
 obtain ⟨ap2, fr3, v4, D2, v5, v6, D3, rfl, rfl, h3, h4, h5, e2, h6⟩ := q3
 replace ph0_0 := ph0_0.frame RI.lasts fr3 (ap2.o pa0_0)
 refine ln (nz Zr_40) rfl (fun b_2 => ?_)
 refine soN 0 Sz_40 rfl ⟨rfl, rfl, h3.one, h4.one, h5.one, trivial⟩ rfl ?_
 refine en <| sq <| sr <| la rfl ?_
 obtain ⟨x3, hx3, h⟩ := bs h
 refine lc (k_call (js := [5]) (R := [ob v4, D2, ob v5, ob v6, D3, ob v1]) Fun_32 rfl rfl (fun w1 hw ap hl => m_s_l1Once_ok hw.fro N (⟨p0.b, x2.2.i, x2.2.h⟩ : Tl1Cur) 3 ph0_0 h6 (ap.o pa0_0) ap.nd hl hx3)) rfl (fun v7 Φ_4 F3 q4 => ?_)
 obtain ⟨ap3, fr4, rfl, rfl, e3, h7⟩ := q4
 replace ph0_0 := ph0_0.frame RI.lasts fr4 (ap3.o pa0_0)
 replace h3 := h3.frame OTPat.lasts fr4 (ap3.r (i := 0) rfl) (ap3.r (i := 1) rfl)
 replace h4 := h4.frame RTCond.lasts fr4 (ap3.r (i := 2) rfl) (Dj.nil _)
 replace h5 := h5.frame OTAct.lasts fr4 (ap3.r (i := 3) rfl) (ap3.r (i := 4) rfl)
 refine en <| WT.conv (S' := St w0 Φ_4 [(b_2, .cells #[.string x2.1.Name, .int .i64 x2.1.Sal, v4, v5, v6] 40 (0, 0)), (b_1, .cells #[.string (⟨#[]⟩ : ByteArray), .int .i64 0, .slice none 0 0, .slice none 0 0, .slice none 0 0] 40 (0, 0))] ([] :: [[pb0], ob v4, D2, ob v5, ob v6, D3, ob v1])) (fun w1 hw => hw.addNil) ?_
 have h8 := h4.rsl
 have h9 := (h5.rslG OTAct.gives)
 replace h3 := h3.gives OTPat.gives
 refine cut (σ := Hp × List Nat × (List TPat) × Value × List Nat × Int × Int × ByteArray × Int × (List TCond) × Value × List Nat × (List TAct) × Value × List Nat) (fun s => [(2, .pointer (some ⟨b_1, 0, none⟩)), (3, .pointer (some ⟨b_2, 0, none⟩))]) (fun s => St w0 s.1 [(b_2, .cells #[.string s.2.2.2.2.2.2.2.1, .int .i64 s.2.2.2.2.2.2.2.2.1, s.2.2.2.1, s.2.2.2.2.2.2.2.2.2.2.1, s.2.2.2.2.2.2.2.2.2.2.2.2.2.1] 40 (0, 0)), (b_1, .cells #[.string (⟨#[]⟩ : ByteArray), .int .i64 0, .slice none 0 0, .slice none 0 0, .slice none 0 0] 40 (0, 0))] [s.2.1, [pb0], ob s.2.2.2.1, D2, ob v5, ob v6, D3]) (fun s => m_s_l9Any_j1 N p0 s.2.2.1 s.2.2.2.2.2.1 s.2.2.2.2.2.2.1 s.2.2.2.2.2.2.2.1 s.2.2.2.2.2.2.2.2.1 s.2.2.2.2.2.2.2.2.2.1 s.2.2.2.2.2.2.2.2.2.2.2.2.1 = some r ∧ (OSl RTPat 171 3 s.1 s.2.2.2.2.1 s.2.2.2.1 s.2.2.1) ∧ (∀ k ∈ s.2.2.2.2.1, k ∈ (D2 ++ s.2.1)) ∧ (s.1 pb0 = some (.cells #[pv0_0, .int .i64 s.2.2.2.2.2.1, .int .i64 s.2.2.2.2.2.2.1] 112 (0, 0))) ∧ (RSl RTCond 11 s.1 s.2.2.2.2.2.2.2.2.2.2.2.1 s.2.2.2.2.2.2.2.2.2.2.1 s.2.2.2.2.2.2.2.2.2.1) ∧ (∀ k ∈ s.2.2.2.2.2.2.2.2.2.2.2.1, k ∈ (ob v5 ++ s.2.1)) ∧ (RSl RTAct 5 s.1 s.2.2.2.2.2.2.2.2.2.2.2.2.2.2 s.2.2.2.2.2.2.2.2.2.2.2.2.2.1 s.2.2.2.2.2.2.2.2.2.2.2.2.1) ∧ (∀ k ∈ s.2.2.2.2.2.2.2.2.2.2.2.2.2.2, k ∈ (ob v6 ++ (D3 ++ s.2.1))) ∧ (RSl (RI .u8) 1 s.1 pG0_0 pv0_0 p0.b)) (fun s hm => ?_) (fun K => ?_)
 ·clear h
  obtain ⟨Φ_5, X1, s1, u1, D4, s2, s3, s4, s5, s6, u2, H1, s7, u3, H2⟩ := s
  obtain ⟨h, k1, i1, k2, k3, i2, k4, i3, ph0_0⟩ := hm
  dsimp only at h k1 i1 k2 k3 i2 k4 i3 ph0_0 ⊢
  unfold m_s_l9Any_j1 at h
  refine sr <| ld5 Tn_40 0 rfl <| soN 1 Sz_40 rfl ⟨rfl, rfl, k1.one, k3.one, k4.one, trivial⟩ rfl ?_
  refine en ?_
  refine WT.ret Tryz.func75 (resOk.one (rv_cell Tn_40 rfl (fun w1 hw => hw.rgO (i := 1) rfl 0 5 [.string s4, .int .i64 s5, u1, u2, u3] rfl) rfl)) (fun w1 hw => ?_)
  subst hb0
  cases h
  replace hw := hw.merge (js := [3, 0, 2, 2, 2]) (F := [D2, X1, ob v5, ob v6, D3].flatten) rfl (SP.eq (by simp))
  refine postG_of_St (js := [2, 1, 0]) hw rfl ⟨u1, D4, u2, H1, u3, H2, [D2, X1, ob v5, ob v6, D3].flatten, rfl, rfl, k1, (fun k hk => ((List.mem_append.1 (i1 k hk)).elim (fun h => (List.mem_flatten.2 ⟨D2, by simp, h⟩)) (fun h => (List.mem_flatten.2 ⟨X1, by simp, h⟩)))), k3, (fun k hk => ((List.mem_append.1 (i2 k hk)).elim (fun h => (List.mem_flatten.2 ⟨ob v5, by simp, h⟩)) (fun h => (List.mem_flatten.2 ⟨X1, by simp, h⟩)))), k4, (fun k hk => ((List.mem_append.1 (i3 k hk)).elim (fun h => (List.mem_flatten.2 ⟨ob v6, by simp, h⟩)) (fun h => ((List.mem_append.1 h).elim (fun h => (List.mem_flatten.2 ⟨D3, by simp, h⟩)) (fun h => (List.mem_flatten.2 ⟨X1, by simp, h⟩)))))), rfl, k2⟩
 refine cdh rfl h (fun c1 h => ?_) (fun c1 h => ?_)
 ·refine rgn <| la rfl <| ld5 Tn_40 0 rfl ?_
  obtain ⟨x4, hx4, h⟩ := bs h
  refine lc (k_call (js := [1]) (R := [[], ob v4, D2, ob v5, ob v6, D3, ob v1]) Fun_76 rfl rfl (fun w1 hw ap hl => m_s_l9Bend_ok hw.fro N (⟨p0.b, x3.2.i, x3.2.h⟩ : Tl1Cur) x2.1 ph0_0 h7 h3.rsl h8 h9 (ap.o pa0_0) (Dj.app (ap.r (i := 1) rfl) (ap.r (i := 2) rfl)) (Dj.sub (ap.r (i := 3) rfl) apnil) (Dj.app (ap.r (i := 4) rfl) (ap.r (i := 5) rfl)) ap.nd hl hx4)) rfl (fun v8 Φ_6 F6 q5 => ?_)
  obtain ⟨ap4, fr5, v9, D5, v10, G1, v11, G2, X2, rfl, rfl, h10, i4, h11, i5, h12, i6, e6, h13⟩ := q5
  replace h8 := h8.frame RTCond.lasts fr5 (Dj.sub (ap4.r (i := 3) rfl) apnil)
  replace h9 := h9.frame RTAct.lasts fr5 (Dj.app (ap4.r (i := 4) rfl) (ap4.r (i := 5) rfl))
  replace ph0_0 := ph0_0.frame RI.lasts fr5 (ap4.o pa0_0)
  replace h3 := h3.frame RTPat.lasts fr5 (ap4.r (i := 1) rfl) (ap4.r (i := 2) rfl)
  refine soN 0 Sz_40 rfl ⟨rfl, rfl, h10.one, h11.one, h12.one, trivial⟩ rfl ?_
  refine en <| WT.conv (S' := St w0 Φ_6 [(b_2, .cells #[.string x4.1.Name, .int .i64 x4.1.Sal, v9, v10, v11] 40 (0, 0)), (b_1, .cells #[.string (⟨#[]⟩ : ByteArray), .int .i64 0, .slice none 0 0, .slice none 0 0, .slice none 0 0] 40 (0, 0))] [([] ++ (X2 ++ (ob v4))), ob v9, [pb0], D2, ob v5, ob v6, D3, ob v1]) (fun w1 hw => hw.merge (js := [3, 2, 2]) rfl (SP.eq (by simp [List.append_assoc]))) ?_
  exact wto (K (Φ_6, ([] ++ (X2 ++ (ob v4))), x4.1.Pats, v9, D5, x4.2.i, x4.2.h, x4.1.Name, x4.1.Sal, x4.1.Conds, v10, G1, x4.1.Acts, v11, G2) ⟨h, h10, (fun k hk => ((List.mem_append.1 (i4 k hk)).elim (fun h => (List.mem_append.2 (.inr ((fun k hk => (List.mem_append.2 (.inr (List.mem_append.2 (.inl hk))))) k h)))) (fun h => ((List.mem_append.1 h).elim (fun h => (List.mem_append.2 (.inr ((fun k hk => (List.mem_append.2 (.inr (List.mem_append.2 (.inr hk))))) k h)))) (fun h => (List.mem_append.2 (.inl h))))))), h13, h11, (fun k hk => ((List.mem_append.1 (i5 k hk)).elim (fun h => (List.mem_append.2 (.inr ((fun k hk => (List.mem_append.2 (.inr (List.mem_append.2 (.inl hk))))) k h)))) (fun h => (List.mem_append.2 (.inl (apnil k h)))))), h12, (fun k hk => ((List.mem_append.1 (i6 k hk)).elim (fun h => (List.mem_append.2 (.inr (List.mem_append.2 (.inr ((fun k hk => (List.mem_append.2 (.inr (List.mem_append.2 (.inl hk))))) k h)))))) (fun h => ((List.mem_append.1 h).elim (fun h => (List.mem_append.2 (.inl h))) (fun h => (List.mem_append.2 (.inr (List.mem_append.2 (.inl h))))))))), ph0_0⟩) ⟨rfl, rfl, trivial⟩ (fun w1 hw => (hw.sel (js := [0, 1, 0, 0, 0, 0, 0]) rfl).selO (js := [0, 0]) rfl)
 refine WT.skip ?_
 exact wto (K (Φ_4, [], x2.1.Pats, v4, D2, x3.2.i, x3.2.h, x2.1.Name, x2.1.Sal, x2.1.Conds, v5, (ob v5 ++ []), x2.1.Acts, v6, (ob v6 ++ D3)) ⟨h, h3, (fun k hk => (List.mem_append.2 (.inl hk))), h7, h8, (fun k hk => (List.mem_append.2 (.inl (apnil k hk)))), h9, (fun k hk => ((List.mem_append.1 hk).elim (fun h => (List.mem_append.2 (.inl h))) (fun h => (List.mem_append.2 (.inr (List.mem_append.2 (.inl h))))))), ph0_0⟩) ⟨rfl, rfl, trivial⟩ (fun w1 hw => (hw.sel (js := [0, 0, 0, 0, 0, 0, 0]) rfl).selO (js := [0, 0]) rfl)
theorem m_s_l10Any_ok {Φ : Hp} {w : World} (hΦ : In Φ w) (N : Nat) (p0 : Tl1Cur) {pv0_0 : Value} {pG0_0 : List Nat} {pb0 : Nat} (ph0_0 : RSl (RI .u8) 1 Φ pG0_0 pv0_0 p0.b) (pp0 : Φ pb0 = some (.cells #[pv0_0, .int .i64 p0.i, .int .i64 p0.h] 112 (0, 0))) (pd0_0 : Dj pG0_0 [[pb0]].flatten) (hB : [[pb0]].flatten.Nodup) (hlt : ∀ k ∈ [[pb0]].flatten, k < w.heap.size) {r : TDef × Tl1Cur} (h : m_s_l10Any N p0 = some r) :
  Calls Tryz.prog 33 [.pointer (some ⟨pb0, 0, none⟩)].toArray w (PostG Φ w [[pb0]].flatten (fun Φ' Fs v => ∃ (sr_0_0 : Value) (Dr_0_0 : List Nat) (X : List Nat), v = .agg [.string r.1.Name, sr_0_0].toArray ∧ Fs = [ob sr_0_0, [pb0], X] ∧ OSl RTRule 40 5 Φ' Dr_0_0 sr_0_0 r.1.Rules ∧ (∀ k ∈ Dr_0_0, k ∈ X) ∧ r.2.b = p0.b ∧ Φ' pb0 = some (.cells #[pv0_0, .int .i64 r.2.i, .int .i64 r.2.h] 112 (0, 0)))) := by
 refine enter Tryz.func33 rfl Tryz.ntmps33 rfl (St.start hΦ [[pb0]] hB hlt) ?_
 have pa0_0 := Old.mk hΦ ph0_0.kn pd0_0
 revert pa0_0
 generalize hb0 : (⟨w, [[pb0]].flatten, Φ⟩ : Base) = w0
 intro pa0_0
 unfold m_s_l10Any at h
 refine sr ?_
 refine ln (nz Zr_26) rfl (fun b_1 => ?_)
 refine en <| sr <| la rfl ?_
 obtain ⟨x1, hx1, h⟩ := bs h
 refine lc (k_call (js := [0]) (R := []) Fun_31 rfl rfl (fun w1 hw ap hl => m_s_l10Draw_ok hw.fro N p0 ph0_0 pp0 (ap.o pa0_0) ap.nd hl hx1)) rfl (fun v1 Φ_1 F1 q1 => ?_)
 obtain ⟨ap1, fr1, v2, D1, rfl, rfl, h1, e1, h2⟩ := q1
 replace ph0_0 := ph0_0.frame RI.lasts fr1 (ap1.o pa0_0)
 refine ln (nz Zr_26) rfl (fun b_2 => ?_)
 refine soN 0 Sz_26 rfl ⟨rfl, h1.one, trivial⟩ rfl ?_
 refine en <| sq <| sr <| la rfl ?_
 obtain ⟨x2, hx2, h⟩ := bs h
 refine lc (k_call (js := [2]) (R := [ob v2, D1]) Fun_73 rfl rfl (fun w1 hw ap hl => m_s_l1Below_ok hw.fro N (⟨p0.b, x1.2.i, x1.2.h⟩ : Tl1Cur) 10 ph0_0 h2 (ap.o pa0_0) ap.nd hl hx2)) rfl (fun v3 Φ_2 F2 q2 => ?_)
 obtain ⟨ap2, fr2, rfl, rfl, e2, h3⟩ := q2
 replace ph0_0 := ph0_0.frame RI.lasts fr2 (ap2.o pa0_0)
 replace h1 := h1.frame OTRule.lasts fr2 (ap2.r (i := 0) rfl) (ap2.r (i := 1) rfl)
 refine en <| blk <| sr <| la rfl <| la rfl <| en <| WT.conv (S' := St w0 Φ_2 [(b_2, .cells #[.string x1.1.Name, v2] 26 (0, 0)), (b_1, .cells #[.string (⟨#[]⟩ : ByteArray), .slice none 0 0] 26 (0, 0))] ([] :: [[pb0], ob v2, D1])) (fun w1 hw => hw.addNil) ?_
 replace h1 := h1.gives OTRule.gives
 refine cut (σ := Hp × List Nat × (List TRule) × Value × List Nat × Int × Int × ByteArray) (fun s => [(2, .pointer (some ⟨b_1, 0, none⟩)), (3, .pointer (some ⟨b_2, 0, none⟩))]) (fun s => St w0 s.1 [(b_2, .cells #[.string s.2.2.2.2.2.2.2, s.2.2.2.1] 26 (0, 0)), (b_1, .cells #[.string (⟨#[]⟩ : ByteArray), .slice none 0 0] 26 (0, 0))] [s.2.1, [pb0], ob s.2.2.2.1, D1]) (fun s => m_s_l10Any_j1 N p0 s.2.2.1 s.2.2.2.2.2.1 s.2.2.2.2.2.2.1 s.2.2.2.2.2.2.2 = some r ∧ (OSl RTRule 40 5 s.1 s.2.2.2.2.1 s.2.2.2.1 s.2.2.1) ∧ (∀ k ∈ s.2.2.2.2.1, k ∈ (D1 ++ s.2.1)) ∧ (s.1 pb0 = some (.cells #[pv0_0, .int .i64 s.2.2.2.2.2.1, .int .i64 s.2.2.2.2.2.2.1] 112 (0, 0))) ∧ (RSl (RI .u8) 1 s.1 pG0_0 pv0_0 p0.b)) (fun s hm => ?_) (fun K => ?_)
 ·clear h
  obtain ⟨Φ_3, X1, s1, u1, D2, s2, s3, s4⟩ := s
  obtain ⟨h, k1, i1, k2, ph0_0⟩ := hm
  dsimp only at h k1 i1 k2 ph0_0 ⊢
  unfold m_s_l10Any_j1 at h
  refine ib <| sr <| ld2 Tn_26 0 rfl <| soN 1 Sz_26 rfl ⟨rfl, k1.one, trivial⟩ rfl ?_
  refine en ?_
  refine WT.ret Tryz.func33 (resOk.one (rv_cell Tn_26 rfl (fun w1 hw => hw.rgO (i := 1) rfl 0 2 [.string s4, u1] rfl) rfl)) (fun w1 hw => ?_)
  subst hb0
  cases h
  replace hw := hw.merge (js := [3, 0]) (F := [D1, X1].flatten) rfl (SP.eq (by simp))
  refine postG_of_St (js := [2, 1, 0]) hw rfl ⟨u1, D2, [D1, X1].flatten, rfl, rfl, k1, (fun k hk => ((List.mem_append.1 (i1 k hk)).elim (fun h => (List.mem_flatten.2 ⟨D1, by simp, h⟩)) (fun h => (List.mem_flatten.2 ⟨X1, by simp, h⟩)))), rfl, k2⟩
 refine cdh rfl h (fun c1 h => ?_) (fun c1 h => ?_)
 ·refine rgn <| la rfl ?_
  have rc1 : RC RS 1 Φ_2 ([[], []] : List (List Nat)) [.string (⟨#[]⟩ : ByteArray), .string (⟨#[65]⟩ : ByteArray)] ([(⟨#[]⟩ : ByteArray), (⟨#[65]⟩ : ByteArray)] : List ByteArray) := RC.cons (c := [.string (⟨#[]⟩ : ByteArray)]) (cells := [.string (⟨#[65]⟩ : ByteArray)]) ⟨rfl, rfl⟩ rfl (RC.cons (c := [.string (⟨#[65]⟩ : ByteArray)]) (cells := []) ⟨rfl, rfl⟩ rfl (RC.nil _ _ _))
  refine le' (e_lit (vs := [(0, .string (⟨#[]⟩ : ByteArray)), (1, .string (⟨#[65]⟩ : ByteArray))]) (C := #[.string (⟨#[]⟩ : ByteArray), .string (⟨#[65]⟩ : ByteArray)]) RS.lasts Sl_114 Zr_9 rfl rfl rfl rfl (fill_made MC_9_2 (fill_cons (C' := [.string (⟨#[]⟩ : ByteArray), .string ⟨#[]⟩]) rfl rfl rfl rfl rfl (fill_cons (C' := [.string (⟨#[]⟩ : ByteArray), .string (⟨#[65]⟩ : ByteArray)]) rfl rfl rfl rfl rfl (fill_nil)))) rfl rc1 rfl (by simpa using Kw.nil)) rfl (fun v4 Φ_4 D3 q3 => ?_)
  obtain ⟨fr3, h4⟩ := q3
  replace h4 : OSl RS 9 1 Φ_4 [] v4 ([(⟨#[]⟩ : ByteArray), (⟨#[65]⟩ : ByteArray)] : List ByteArray) := by simpa using h4
  replace ph0_0 := ph0_0.frame RI.lasts fr3 (Dj.empty _)
  replace h1 := h1.frame RTRule.lasts fr3 (Dj.empty _) (Dj.empty _)
  replace h3 := fr3 _ _ (by simp) h3
  obtain ⟨x3, hx3, h⟩ := bs h
  refine lc (k_call (js := [2]) (R := [ob v4, [], ob v2, D1]) Fun_72 rfl rfl (fun w1 hw ap hl => m_s_l1Str_ok hw.fro N (⟨p0.b, x2.2.i, x2.2.h⟩ : Tl1Cur) ([(⟨#[]⟩ : ByteArray), (⟨#[65]⟩ : ByteArray)] : List ByteArray) ph0_0 h3 h4.rsl (ap.o pa0_0) (Dj.app (ap.r (i := 0) rfl) (Dj.nil _)) ap.nd hl hx3)) rfl (fun v5 Φ_5 F3 q4 => ?_)
  obtain ⟨ap3, fr4, rfl, rfl, e3, h5⟩ := q4
  replace ph0_0 := ph0_0.frame RI.lasts fr4 (ap3.o pa0_0)
  replace h1 := h1.frame RTRule.lasts fr4 (ap3.r (i := 2) rfl) (ap3.r (i := 3) rfl)
  refine lf Fld_26_0 rfl rfl rfl <| so1 0 Sz_9 rfl rfl ?_
  refine en ?_
  exact wto (K (Φ_5, [], x1.1.Rules, v2, D1, x3.2.i, x3.2.h, x3.1) ⟨h, h1, (fun k hk => (List.mem_append.2 (.inl hk))), h5, ph0_0⟩) ⟨rfl, rfl, trivial⟩ (fun w1 hw => (hw.sel (js := [2, 0, 1, 1]) rfl).selO (js := [0, 0]) rfl)
 refine sr <| la rfl <| la rfl <| en ?_
 refine cdh rfl h (fun c2 h => ?_) (fun c2 h => ?_)
 ·refine WT.mix (Kn Φ_2 [] [(b_2, .cells #[.string x1.1.Name, v2] 26 (0, 0)), (b_1, .cells #[.string (⟨#[]⟩ : ByteArray), .slice none 0 0] 26 (0, 0))]) (fun i => match i with | 7 => false | _ => true) mixed (fun _ h => h.drew) <| mq 0 rfl (by kernel_rfl) (kn Kf.nil (ai2 0 1 rfl rfl)) (q_fieldAddr Fld_26_1 rfl) rfl <| mq 1 rfl (by kernel_rfl) (kn Kf.nil (ai2 0 1 rfl rfl)) (q_load1 T1_24 rfl (fun w1 hw => hw.rgO (i := 0) rfl 1 1 [v2] rfl)) rfl ?_
  refine ma 2 rfl (by kernel_rfl) (kn Kf.nil (ai2 0 1 rfl rfl)) rfl ?_
  obtain ⟨x4, hx4, h⟩ := bs h
  refine WM.one 3 (by kernel_rfl) (mc rfl (fun _ v Φx D w1 hq hw => Kn.of Kf.nil (ai2 0 1 rfl rfl) hw) (k_call (js := [1]) (R := [[], ob v2, D1]) Fun_75 rfl rfl (fun w1 hw ap hl => m_s_l9Any_ok hw.fro N (⟨p0.b, x2.2.i, x2.2.h⟩ : Tl1Cur) ph0_0 h3 (ap.o pa0_0) ap.nd hl hx4)) rfl (fun v6 Φ_6 F4 q5 => ?_))
  obtain ⟨ap4, fr5, v7, D4, v8, G1, v9, G2, X2, rfl, rfl, h6, i2, h7, i3, h8, i4, e4, h9⟩ := q5
  replace ph0_0 := ph0_0.frame RI.lasts fr5 (ap4.o pa0_0)
  replace h1 := h1.frame RTRule.lasts fr5 (ap4.r (i := 1) rfl) (ap4.r (i := 2) rfl)
  have rc2 : RC RTRule 5 Φ_6 ([(ob v7 ++ D4) ++ (G1 ++ (G2))] : List (List Nat)) [.string x4.1.Name, .int .i64 x4.1.Sal, v7, v8, v9] ([x4.1] : List TRule) := RC.cons (c := [.string x4.1.Name, .int .i64 x4.1.Sal, v7, v8, v9]) (cells := []) ⟨v7, (ob v7 ++ D4), v8, G1, v9, G2, rfl, rfl, h6.rsl, h7, h8⟩ rfl (RC.nil _ _ _)
  refine WM.one 4 (by kernel_rfl) (me rfl (fun _ v Φx D w1 hq hw => Kn.of Kf.nil (ai2 0 1 rfl rfl) hw) (e_lit (vs := [(0, .agg [.string x4.1.Name, .int .i64 x4.1.Sal, v7, v8, v9].toArray)]) (C := #[.string x4.1.Name, .int .i64 x4.1.Sal, v7, v8, v9]) RTRule.lasts Sl_24 Zr_40 rfl rfl rfl rfl (fill_made MC_40_1 (fill_cons (C' := [.string x4.1.Name, .int .i64 x4.1.Sal, v7, v8, v9]) rfl rfl rfl rfl rfl (fill_nil))) rfl rc2 rfl (RC.kn RTRule.knows rc2)) rfl (fun v10 Φ_7 D5 q6 => ?_))
  obtain ⟨fr6, h10⟩ := q6
  replace h10 : OSl RTRule 40 5 Φ_7 ((ob v7 ++ D4) ++ (G1 ++ (G2))) v10 ([x4.1] : List TRule) := by simpa [List.append_assoc] using h10
  replace ph0_0 := ph0_0.frame RI.lasts fr6 (Dj.empty _)
  replace h1 := h1.frame RTRule.lasts fr6 (Dj.empty _) (Dj.empty _)
  replace h9 := fr6 _ _ (by simp) h9
  obtain ⟨x6, hx5, h⟩ := bs h
  refine WM.one 5 (by kernel_rfl) (me rfl (fun _ v Φx D w1 hq hw => Kn.of Kf.nil (ai2 0 1 rfl rfl) hw) (e_appO RTRule.lasts RTRule.one Sl_24 Ei_40 rfl rfl rfl rfl rfl (js := [5]) (Rr := [ob v10, ob v7, [pb0], X2, [], D1]) rfl h1 h10 (fun ap => (ap.r (i := 5) rfl)) (fun ap => (Dj.sub (Dj.app (Dj.app (ap.r (i := 1) rfl) (Dj.sub (ap.r (i := 3) rfl) i2)) (Dj.app (Dj.sub (ap.r (i := 3) rfl) i3) (Dj.sub (ap.r (i := 3) rfl) i4))) (fun k hk => (by simpa [List.append_assoc] using hk : k ∈ ((ob v7 ++ D4) ++ (G1 ++ G2)))))) hx5) rfl (fun v11 Φ_8 D6 q7 => ?_))
  obtain ⟨⟨ap5, fr7⟩, h11⟩ := q7
  replace ph0_0 := ph0_0.frame RI.lasts fr7 (ap5.o pa0_0)
  replace h9 := fr7 _ _ ((ap5.r (i := 2) rfl) _ (by simp)) h9
  refine mq 6 rfl (by kernel_rfl) (kn Kf.nil (ai2 0 1 rfl rfl)) (q_fieldAddr Fld_26_1 rfl) rfl ?_
  refine WM.one 7 (by kernel_rfl) (ms rfl (fun hc => by cases hc) (s_store (i := 0) (vs := [v11]) (C' := [.string x1.1.Name, v11]) (O' := [(b_2, .cells #[.string x1.1.Name, v11] 26 (0, 0)), (b_1, .cells #[.string (⟨#[]⟩ : ByteArray), .slice none 0 0] 26 (0, 0))]) Sz_24 rfl rfl rfl (one_cells h11.one) rfl rfl ⟨h11.one, trivial⟩ rfl rfl) rfl ?_)
  refine WM.nil (by kernel_rfl) <| WT.conv (S' := St w0 Φ_8 [(b_2, .cells #[.string x1.1.Name, v11] 26 (0, 0)), (b_1, .cells #[.string (⟨#[]⟩ : ByteArray), .slice none 0 0] 26 (0, 0))] [([] ++ (ob v7 ++ (X2))), ob v11, ob v10, [pb0], D1]) (fun w1 hw => hw.merge (js := [5, 2, 3]) rfl (SP.eq (by simp [List.append_assoc]))) ?_
  exact wto (K (Φ_8, ([] ++ (ob v7 ++ (X2))), x6, v11, (D1 ++ ((ob v7 ++ D4) ++ (G1 ++ (G2)))), x4.2.i, x4.2.h, x1.1.Name) ⟨h, h11, (fun k hk => ((List.mem_append.1 hk).elim (fun h => (List.mem_append.2 (.inl h))) (fun h => ((List.mem_append.1 ((fun k hk => (by simpa [List.append_assoc] using hk : k ∈ ((ob v7 ++ D4) ++ (G1 ++ G2)))) k h)).elim (fun h => ((List.mem_append.1 h).elim (fun h => (List.mem_append.2 (.inr ((fun k hk => (List.mem_append.2 (.inr (List.mem_append.2 (.inl hk))))) k h)))) (fun h => (List.mem_append.2 (.inr ((fun k hk => (List.mem_append.2 (.inr (List.mem_append.2 (.inr hk))))) k (i2 k h))))))) (fun h => ((List.mem_append.1 h).elim (fun h => (List.mem_append.2 (.inr ((fun k hk => (List.mem_append.2 (.inr (List.mem_append.2 (.inr hk))))) k (i3 k h))))) (fun h => (List.mem_append.2 (.inr ((fun k hk => (List.mem_append.2 (.inr (List.mem_append.2 (.inr hk))))) k (i4 k h))))))))))), h9, ph0_0⟩) ⟨rfl, rfl, trivial⟩ (fun w1 hw => (hw.sel (js := [0, 2, 0, 1]) rfl).selO (js := [0, 0]) rfl)
 refine sr <| la rfl <| la rfl <| en ?_
 refine cdh rfl h (fun c3 h => ?_) (fun c3 h => ?_)
 ·refine WT.mix (Kn Φ_2 (ob v2) [(b_2, .cells #[.string x1.1.Name, v2] 26 (0, 0)), (b_1, .cells #[.string (⟨#[]⟩ : ByteArray), .slice none 0 0] 26 (0, 0))]) (fun i => match i with | 9 => false | _ => true) mixed (fun _ h => h.drew) <| mq 0 rfl (by kernel_rfl) (kn Kf.id (ai2 0 1 rfl rfl)) (q_fieldAddr Fld_26_1 rfl) rfl <| mq 1 rfl (by kernel_rfl) (kn Kf.id (ai2 0 1 rfl rfl)) (q_load1 T1_24 rfl (fun w1 hw => hw.rgO (i := 0) rfl 1 1 [v2] rfl)) rfl ?_
  refine ma 2 rfl (by kernel_rfl) (kn Kf.id (ai2 0 1 rfl rfl)) rfl <| mq 3 rfl (by kernel_rfl) (kn Kf.id (ai2 0 1 rfl rfl)) (q_fieldAddr Fld_26_1 rfl) rfl <| mq 4 rfl (by kernel_rfl) (kn Kf.id (ai2 0 1 rfl rfl)) (q_load1 T1_24 rfl (fun w1 hw => hw.rgO (i := 0) rfl 1 1 [v2] rfl)) rfl ?_
  obtain ⟨x7, hx6, h⟩ := bs h
  obtain ⟨cs1, F5, -, g1, hb1, hs1, r1⟩ := h1.elS (idx_some hx6).2.2
  obtain ⟨v12, G3, v13, G4, v14, G5, rfl, rfl, h12, h13, h14⟩ := r1
  refine mq 5 rfl (by kernel_rfl) (kn Kf.id (ai2 0 1 rfl rfl)) (q_indexAddr Sl_24 rfl rfl h1.rsl hx6) rfl <| mq 6 rfl (by kernel_rfl) (kn Kf.id (ai2 0 1 rfl rfl)) (q_loadN Tn_40 rfl (fun w1 hw => hw.rg hb1 (g1.of_eq 0 5 rfl rfl : rg _ _ _ [.string x7.Name, .int .i64 x7.Sal, v12, v13, v14])) rfl) rfl ?_
  obtain ⟨x8, hx7, h⟩ := bs h
  refine WM.one 7 (by kernel_rfl) (mc rfl (fun _ v Φx D w1 hq hw => Kn.of (Kf.id.st hq.2.1 (hq.1.r (i := 1) rfl)) (ai2 0 1 rfl rfl) hw) (k_call (js := [1]) (R := [[], ob v2, D1]) Fun_76 rfl rfl (fun w1 hw ap hl => m_s_l9Bend_ok hw.fro N (⟨p0.b, x2.2.i, x2.2.h⟩ : Tl1Cur) x7 ph0_0 h3 h12 h13 h14 (ap.o pa0_0) (Dj.sub (ap.r (i := 2) rfl) (fun k h => hs1 k (List.mem_append.2 (.inl h)))) (Dj.sub (ap.r (i := 2) rfl) (fun k h => hs1 k (List.mem_append.2 (.inr (List.mem_append.2 (.inl h)))))) (Dj.sub (ap.r (i := 2) rfl) (fun k h => hs1 k (List.mem_append.2 (.inr (List.mem_append.2 (.inr h)))))) ap.nd hl hx7)) rfl (fun v15 Φ_9 F6 q8 => ?_))
  obtain ⟨ap6, fr8, v16, D7, v17, G6, v18, G7, X3, rfl, rfl, h15, i5, h16, i6, h17, i7, e5, h18⟩ := q8
  replace ph0_0 := ph0_0.frame RI.lasts fr8 (ap6.o pa0_0)
  replace h1 := h1.frame RTRule.lasts fr8 (ap6.r (i := 1) rfl) (ap6.r (i := 2) rfl)
  obtain ⟨x10, hx8, h⟩ := bs h
  obtain ⟨cs2, F7, -, g2, hb2, hs2, r2⟩ := h1.elS (idx_some hx8).2.2
  obtain ⟨v19, G8, v20, G9, v21, G10, rfl, rfl, h19, h20, h21⟩ := r2
  have kf1 := (Kf.id (F := (ob v2)) : Kf Φ_2 _ _).st fr8 (ap6.r (i := 1) rfl)
  refine mq 8 rfl (by kernel_rfl) (kn kf1 (ai2 0 1 rfl rfl)) (q_indexAddr Sl_24 rfl rfl h1.rsl hx8) rfl ?_
  have h23 := h15.rsl
  have r3 : RTRule Φ_9 ((ob v16 ++ D7) ++ (G6 ++ (G7))) [.string x8.1.Name, .int .i64 x8.1.Sal, v16, v17, v18] x8.1 := ⟨v16, (ob v16 ++ D7), v17, G6, v18, G7, rfl, rfl, h23, h16, h17⟩
  refine WM.one 9 (by kernel_rfl) (mu rfl (fun hc => by cases hc) (u_setO (js := [4]) (Rr := [ob v16, [pb0], X3, [], D1]) (vs := [.string x8.1.Name, .int .i64 x8.1.Sal, v16, v17, v18]) (x' := x8.1) RTRule.lasts Sz_40 rfl rfl rfl rfl ⟨rfl, rfl, h23.one, h16.one, h17.one, trivial⟩ rfl h1 (idx_lt hx8) r3 (RTRule.knows _ _ _ _ r3) (fun ap => (ap.r (i := 4) rfl)) (fun ap => by simpa using (Dj.app (Dj.app (ap.r (i := 0) rfl) (Dj.sub (Dj.app (ap.r (i := 2) rfl) (Dj.sub (ap.r (i := 4) rfl) (fun k h => hs1 k (List.mem_append.2 (.inl h))))) i5)) (Dj.app (Dj.sub (Dj.app (ap.r (i := 2) rfl) (Dj.sub (ap.r (i := 4) rfl) (fun k h => hs1 k (List.mem_append.2 (.inr (List.mem_append.2 (.inl h))))))) i6) (Dj.sub (Dj.app (ap.r (i := 2) rfl) (Dj.sub (ap.r (i := 4) rfl) (fun k h => hs1 k (List.mem_append.2 (.inr (List.mem_append.2 (.inr h))))))) i7))))) rfl (fun Φ_10 D8 q9 => ?_))
  obtain ⟨⟨ap7, fr9⟩, sp1, h22⟩ := q9
  replace ph0_0 := ph0_0.frame RI.lasts fr9 (ap7.o pa0_0)
  replace h18 := fr9 _ _ ((ap7.r (i := 1) rfl) _ (by simp)) h18
  refine WM.nil (by kernel_rfl) <| WT.conv (S' := St w0 Φ_10 [(b_2, .cells #[.string x1.1.Name, v2] 26 (0, 0)), (b_1, .cells #[.string (⟨#[]⟩ : ByteArray), .slice none 0 0] 26 (0, 0))] [([] ++ (ob v16 ++ (X3))), ob v2, [pb0], D1]) (fun w1 hw => hw.merge (js := [4, 1, 2]) rfl (SP.eq (by simp [List.append_assoc]))) ?_
  exact wto (K (Φ_10, ([] ++ (ob v16 ++ (X3))), (x1.1.Rules.set (0 : Int).toNat x8.1), v2, D8, x8.2.i, x8.2.h, x1.1.Name) ⟨h, h22, (fun k hk => ((List.mem_append.1 ((fun k hk => (by simpa [List.append_assoc] using sp1.mem hk : k ∈ (D1 ++ ((ob v16 ++ D7) ++ (G6 ++ G7))))) k hk)).elim (fun h => (List.mem_append.2 (.inl h))) (fun h => ((List.mem_append.1 h).elim (fun h => ((List.mem_append.1 h).elim (fun h => (List.mem_append.2 (.inr ((fun k hk => (List.mem_append.2 (.inr (List.mem_append.2 (.inl hk))))) k h)))) (fun h => ((List.mem_append.1 (i5 k h)).elim (fun h => (List.mem_append.2 (.inr ((fun k hk => (List.mem_append.2 (.inr (List.mem_append.2 (.inr hk))))) k h)))) (fun h => (List.mem_append.2 (.inl ((fun k h => hs1 k (List.mem_append.2 (.inl h))) k h)))))))) (fun h => ((List.mem_append.1 h).elim (fun h => ((List.mem_append.1 (i6 k h)).elim (fun h => (List.mem_append.2 (.inr ((fun k hk => (List.mem_append.2 (.inr (List.mem_append.2 (.inr hk))))) k h)))) (fun h => (List.mem_append.2 (.inl ((fun k h => hs1 k (List.mem_append.2 (.inr (List.mem_append.2 (.inl h))))) k h)))))) (fun h => ((List.mem_append.1 (i7 k h)).elim (fun h => (List.mem_append.2 (.inr ((fun k hk => (List.mem_append.2 (.inr (List.mem_append.2 (.inr hk))))) k h)))) (fun h => (List.mem_append.2 (.inl ((fun k h => hs1 k (List.mem_append.2 (.inr (List.mem_append.2 (.inr h))))) k h)))))))))))), h18, ph0_0⟩) ⟨rfl, rfl, trivial⟩ (fun w1 hw => (hw.sel (js := [0, 1, 0, 0]) rfl).selO (js := [0, 0]) rfl)
 refine sr <| la rfl <| la rfl <| en ?_
 refine cdh rfl h (fun c4 h => ?_) (fun c4 h => ?_)
 ·refine rgn <| lf Fld_26_1 rfl rfl rfl <| lo T1_24 0 rfl ?_
  obtain ⟨x11, hx9, h⟩ := bs h
  refine lq (q_slH Sl_24 rfl rfl h1.rsl hx9) rfl ?_
  obtain ⟨D9, h24, sp2, e7⟩ := h1.pre hx9
  refine WL.conv (S' := St w0 Φ_2 [(b_2, .cells #[.string x1.1.Name, v2] 26 (0, 0)), (b_1, .cells #[.string (⟨#[]⟩ : ByteArray), .slice none 0 0] 26 (0, 0))] [[], [pb0], ob (slc v2 0 (0 : Int).toNat 5), D1]) (fun w1 hw => by simpa only [e7, List.cons_append, List.nil_append] using hw) <| lf Fld_26_1 rfl rfl rfl <| so1 0 Sz_24 rfl h24.one ?_
  refine en ?_
  exact wto (K (Φ_2, [], x11, (slc v2 0 (0 : Int).toNat 5), D9, x2.2.i, x2.2.h, x1.1.Name) ⟨h, h24, (fun k hk => (List.mem_append.2 (.inl ((fun k h => sp2.mem h) k hk)))), h3, ph0_0⟩) ⟨rfl, rfl, trivial⟩ (fun w1 hw => (hw.sel (js := [0, 0, 0, 0]) rfl).selO (js := [0, 0]) rfl)
 refine WT.skip ?_
 exact wto (K (Φ_2, [], x1.1.Rules, v2, D1, x2.2.i, x2.2.h, x1.1.Name) ⟨h, h1, (fun k hk => (List.mem_append.2 (.inl hk))), h3, ph0_0⟩) ⟨rfl, rfl, trivial⟩ (fun w1 hw => (hw.sel (js := [0, 0, 0, 0]) rfl).selO (js := [0, 0]) rfl)
theorem m_s_l4Drop_ok {Φ : Hp} {w : World} (hΦ : In Φ w) (N : Nat) (p0 : TStore) (p1 : Int) {pv0_0 : Value} {pG0_0 : List Nat} {pb0 : Nat} (ph0_0 : RSl RTItem 3 Φ pG0_0 pv0_0 p0.Items) (pp0 : Φ pb0 = some (.cells #[pv0_0, .int .i64 p0.Next] 29 (0, 0))) (pd0_0 : Dj pG0_0 [[pb0]].flatten) (hB : [[pb0]].flatten.Nodup) (hlt : ∀ k ∈ [[pb0]].flatten, k < w.heap.size) {r : Bool × TStore} (h : m_s_l4Drop N p0 p1 = some r) :
  Calls Tryz.prog 77 [.pointer (some ⟨pb0, 0, none⟩), .int .i64 p1].toArray w (PostG Φ w [[pb0]].flatten (fun Φ' Fs v => ∃ (so_0_0 : Value) (Do_0_0 : List Nat), v = .bool r.1 ∧ Fs = [[pb0], ob so_0_0] ∧ OSl RTItem 125 3 Φ' Do_0_0 so_0_0 r.2.Items ∧ (∀ k ∈ Do_0_0, k ∈ pG0_0) ∧ Φ' pb0 = some (.cells #[so_0_0, .int .i64 r.2.Next] 29 (0, 0)))) := by
 refine enter Tryz.func77 rfl Tryz.ntmps77 rfl (St.start hΦ [[pb0]] hB hlt) ?_
 have pa0_0 := Old.mk hΦ ph0_0.kn pd0_0
 revert pa0_0
 generalize hb0 : (⟨w, [[pb0]].flatten, Φ⟩ : Base) = w0
 intro pa0_0
 unfold m_s_l4Drop at h
 refine sr <| la rfl <| en <| sr ?_
 have rc1 : RC OTItem 3 Φ ([] : List (List Nat)) [] ([] : List TItem) := RC.nil _ _ _
 refine le' (e_lit (vs := []) (C := #[]) OTItem.lasts Sl_27 Zr_125 rfl rfl rfl rfl (fill_made MC_125_0 (fill_nil)) rfl rc1 rfl (by simpa using Kw.nil)) rfl (fun v1 Φ_1 D1 q1 => ?_)
 obtain ⟨fr1, h1⟩ := q1
 replace h1 : OSl OTItem 125 3 Φ_1 [] v1 ([] : List TItem) := by simpa [List.append_assoc] using h1
 replace ph0_0 := ph0_0.frame RTItem.lasts fr1 (Dj.empty _)
 replace pp0 := fr1 _ _ (by simp) pp0
 refine WL.conv (S' := St w0 Φ_1 [] [[], ob v1, [pb0]]) (fun w1 hw => hw.addNil) <| la rfl <| en <| sq <| sr <| la rfl <| en <| blk <| WT.loop ?_
 replace h1 := h1.gives OTItem.gives
 refine WT.mono (l' := [(0, .pointer (some ⟨pb0, 0, none⟩)), (1, .int .i64 p1), (5, v1), (6, .int .i64 0)]) (S' := St w0 Φ_1 [] [ob v1, [pb0]]) ⟨rfl, rfl, rfl, rfl, trivial⟩ (fun w1 hw => (hw.sel (js := [1, 1]) rfl).selO (js := []) rfl) ?_
 refine loop_ind (σ := Hp × (List TItem) × Value × List Nat × Int) (fun s => [(0, .pointer (some ⟨pb0, 0, none⟩)), (1, .int .i64 p1), (5, s.2.2.1), (6, .int .i64 s.2.2.2.2)]) (fun s => St w0 s.1 [] [ob s.2.2.1, [pb0]]) (fun m s => m_s_l4Drop_l1 N p0 p1 m s.2.1 s.2.2.2.2 = some r ∧ (OSl RTItem 125 3 s.1 s.2.2.2.1 s.2.2.1 s.2.1) ∧ (∀ k ∈ s.2.2.2.1, k ∈ pG0_0) ∧ (s.1 pb0 = some (.cells #[pv0_0, .int .i64 p0.Next] 29 (0, 0))) ∧ (RSl RTItem 3 s.1 pG0_0 pv0_0 p0.Items)) (fun s hm => none_ne (show (none : Option (Bool × TStore)) = some r from hm.1)) (fun n1 ih1 s hm => ?_) N (Φ_1, ([] : List TItem), v1, [], 0) ⟨h, h1, (by simp), pp0, ph0_0⟩
 obtain ⟨Φ_2, s1, u1, D2, s2⟩ := s
 obtain ⟨h, k1, i1, k2, ph0_0⟩ := hm
 dsimp only at h k1 i1 k2 ph0_0 ⊢
 unfold m_s_l4Drop_l1 at h
 refine sq <| sr <| la rfl <| la rfl <| lq (q_nilCheck rfl) rfl <| lf Fld_29_0 rfl rfl rfl <| lq (q_load1 T1_27 rfl (fun w1 hw => ((rg_cells k2).of_eq 0 1 rfl rfl : rg _ _ _ [pv0_0]).rangeAt hw.fro)) rfl <| lq (q_lenR Sl_27 rfl rfl ph0_0) rfl <| la rfl <| en ?_
 refine cdh rfl h (fun c1 h => ?_) (fun c1 h => ?_)
 ·refine WT.skip <| sq <| blk <| sr <| la rfl <| lq (q_nilCheck rfl) rfl <| lf Fld_29_0 rfl rfl rfl <| lq (q_load1 T1_27 rfl (fun w1 hw => ((rg_cells k2).of_eq 0 1 rfl rfl : rg _ _ _ [pv0_0]).rangeAt hw.fro)) rfl <| la rfl ?_
  obtain ⟨x1, hx1, h⟩ := bs h
  obtain ⟨cs1, F1, -, g1, hb1, hs1, r1⟩ := ph0_0.el (idx_some hx1).2.2
  obtain ⟨v2, G1, rfl, hq1, h2⟩ := r1
  obtain rfl := hq1.symm
  refine lq (q_indexAddr Sl_27 rfl rfl ph0_0 hx1) rfl <| lf Fld_125_0 rfl rfl rfl <| lg 0 T1_3 g1 rfl rfl <| la rfl <| la rfl <| en ?_
  refine cdh rfl h (fun c2 h => ?_) (fun c2 h => ?_)
  ·refine rgn <| la rfl <| la rfl <| lq (q_nilCheck rfl) rfl <| lf Fld_29_0 rfl rfl rfl <| lq (q_load1 T1_27 rfl (fun w1 hw => ((rg_cells k2).of_eq 0 1 rfl rfl : rg _ _ _ [pv0_0]).rangeAt hw.fro)) rfl <| la rfl ?_
   obtain ⟨x2, hx2, h⟩ := bs h
   obtain ⟨cs2, F2, -, g2, hb2, hs2, r2⟩ := ph0_0.el (idx_some hx2).2.2
   obtain ⟨v3, G2, rfl, hq2, h3⟩ := r2
   obtain rfl := hq2.symm
   refine lq (q_indexAddr Sl_27 rfl rfl ph0_0 hx2) rfl <| lg3 0 Tn_125 g2 rfl rfl ?_
   have rc2 : RC RTItem 3 Φ_2 ([G2] : List (List Nat)) [.int .i64 x2.Id, .string x2.F.Kind, v3] ([x2] : List TItem) := RC.cons (c := [.int .i64 x2.Id, .string x2.F.Kind, v3]) (cells := []) ⟨v3, G2, rfl, rfl, h3⟩ rfl (RC.nil _ _ _)
   refine le' (e_lit (vs := [(0, .agg [.int .i64 x2.Id, .string x2.F.Kind, v3].toArray)]) (C := #[.int .i64 x2.Id, .string x2.F.Kind, v3]) RTItem.lasts Sl_27 Zr_125 rfl rfl rfl rfl (fill_made MC_125_1 (fill_cons (C' := [.int .i64 x2.Id, .string x2.F.Kind, v3]) rfl rfl rfl rfl rfl (fill_nil))) rfl rc2 rfl (RC.kn RTItem.knows rc2)) rfl (fun v4 Φ_3 D3 q2 => ?_)
   obtain ⟨fr2, h4⟩ := q2
   replace h4 : OSl RTItem 125 3 Φ_3 (G2) v4 ([x2] : List TItem) := by simpa [List.append_assoc] using h4
   replace ph0_0 := ph0_0.frame RTItem.lasts fr2 (Dj.empty _)
   replace k1 := k1.frame RTItem.lasts fr2 (Dj.empty _) (Dj.empty _)
   replace k2 := fr2 _ _ (by simp) k2
   obtain ⟨x3, hx3, h⟩ := bs h
   refine le' (e_appO RTItem.lasts RTItem.one Sl_27 Ei_125 rfl rfl rfl rfl rfl (js := [1]) (Rr := [ob v4, [pb0]]) rfl k1 h4 (fun ap => (Dj.sub (ap.o pa0_0) i1)) (fun ap => (Dj.sub (Dj.sub (ap.o pa0_0) (fun k h => hs2 k h)) (fun k hk => (by simpa [List.append_assoc] using hk : k ∈ G2)))) hx3) rfl (fun v5 Φ_4 D4 q3 => ?_)
   obtain ⟨⟨ap1, fr3⟩, h5⟩ := q3
   replace ph0_0 := ph0_0.frame RTItem.lasts fr3 (ap1.o pa0_0)
   replace k2 := fr3 _ _ ((ap1.r (i := 1) rfl) _ (by simp)) k2
   refine la rfl <| en <| ib <| rgn <| la rfl <| la rfl <| la rfl <| en ?_
   exact lback (ih1 (Φ_4, x3, v5, (D2 ++ (G2)), IntKind.i64.wrap (s2 + 1)) ⟨h, h5, (fun k hk => ((List.mem_append.1 hk).elim (fun h => (i1 k h)) (fun h => ((fun k h => hs2 k h) k ((fun k hk => (by simpa [List.append_assoc] using hk : k ∈ G2)) k h))))), k2, ph0_0⟩) ⟨rfl, rfl, rfl, rfl, trivial⟩ (fun w1 hw => (hw.sel (js := [0, 1]) rfl).selO (js := []) rfl)
  refine WT.skip <| ib <| rgn <| la rfl <| la rfl <| la rfl <| en ?_
  exact lback (ih1 (Φ_2, s1, u1, D2, IntKind.i64.wrap (s2 + 1)) ⟨h, k1, (fun k hk => (i1 k hk)), k2, ph0_0⟩) ⟨rfl, rfl, rfl, rfl, trivial⟩ (fun w1 hw => (hw.sel (js := [0, 0]) rfl).selO (js := []) rfl)
 refine xt rfl <| sr <| la rfl <| lq (q_lenR Sl_27 rfl rfl k1.rsl) rfl <| la rfl <| lq (q_nilCheck rfl) rfl <| lf Fld_29_0 rfl rfl rfl <| lq (q_load1 T1_27 rfl (fun w1 hw => ((rg_cells k2).of_eq 0 1 rfl rfl : rg _ _ _ [pv0_0]).rangeAt hw.fro)) rfl <| lq (q_lenR Sl_27 rfl rfl ph0_0) rfl <| la rfl <| la rfl <| en <| sr <| la rfl <| la rfl <| lq (q_nilCheck rfl) rfl <| lf Fld_29_0 rfl rfl rfl ?_
 refine WL.thw (js := [1]) (R := [ob u1]) rfl k2 (fun Φ_5 ap2 fr4 => ?_)
 replace ph0_0 := ph0_0.frame RTItem.lasts fr4 (ap2.o pa0_0)
 replace k1 := k1.frame RTItem.lasts fr4 (ap2.r (i := 0) rfl) (Dj.sub (ap2.o pa0_0) i1)
 refine so1 0 Sz_27 rfl k1.one ?_
 refine en <| sr <| la rfl <| la rfl <| en ?_
 refine WT.frz (js := [0]) (R := []) rfl (fun Φ_6 fr5 k3 => ?_)
 replace k1 := k1.frame RTItem.lasts fr5 (Dj.empty _) (Dj.empty _)
 refine WT.ret Tryz.func77 (resOk.one rfl) (fun w1 hw => ?_)
 subst hb0
 cases h
 refine postG_of_St (js := [0, 0]) hw rfl ⟨u1, D2, rfl, rfl, k1, (fun k hk => (i1 k hk)), k3⟩
theorem m_s_l3SameVals_ok {Φ : Hp} {w : World} (hΦ : In Φ w) (N : Nat) (p0 : (List TVal)) (p1 : (List TVal)) {pv0 pv1 : Value} {pG0 pG1 : List Nat} (ph0 : RSl RTVal 3 Φ pG0 pv0 p0) (ph1 : RSl RTVal 3 Φ pG1 pv1 p1) {r : Bool} (h : m_s_l3SameVals N p0 p1 = some r) :
  Calls Tryz.prog 188 [pv0, pv1].toArray w (Post (.bool r) w) := by
 refine enter Tryz.func188 rfl Tryz.ntmps188 rfl (St.start0 hΦ) ?_
 generalize hb0 : (⟨w, [], Φ⟩ : Base) = w0
 unfold m_s_l3SameVals at h
 refine sr <| la rfl <| en <| sq <| sr <| la rfl <| lq (q_lenR Sl_121 rfl rfl ph0) rfl <| la rfl <| lq (q_lenR Sl_121 rfl rfl ph1) rfl <| la rfl <| en ?_
 refine cdh rfl h (fun c1 h => ?_) (fun c1 h => ?_)
 ·refine sr <| la rfl <| en ?_
  refine WT.ret Tryz.func188 (resOk.one rfl) (fun w1 hw => ?_)
  subst hb0
  cases h
  exact post_of_St hw
 refine WT.skip <| sq <| sr <| la rfl <| en <| blk ?_
 refine loop_in (σ := Int) (fun s => [(0, pv0), (1, pv1), (5, .int .i64 s)]) (fun s => St w0 Φ [] []) (fun m s => m_s_l3SameVals_l1 N p0 p1 m s = some r) (0) N h ⟨rfl, rfl, rfl, trivial⟩ (fun w1 hw => (hw.sel (js := []) rfl).selO (js := []) rfl) (fun s hm => none_ne hm) (fun n1 ih1 s hm => ?_)
 revert hm; revert s; intro s1 hm
 have h : m_s_l3SameVals_l1 N p0 p1 (n1 + 1) s1 = some r := hm
 show WT _ _ [(0, pv0), (1, pv1), (5, .int .i64 s1)] (St w0 Φ [] [])
 unfold m_s_l3SameVals_l1 at h
 refine sq <| sr <| la rfl <| la rfl <| lq (q_lenR Sl_121 rfl rfl ph0) rfl <| la rfl <| en ?_
 refine cdh rfl h (fun c2 h => ?_) (fun c2 h => ?_)
 ·refine WT.skip <| sq <| blk <| sq <| WT.draw mixed (by kernel_rfl) (fun _ h => h.drew) <| qq (q_move rfl) rfl <| qq (q_move rfl) rfl ?_
  obtain ⟨x1, hx1, h⟩ := bs h
  obtain ⟨cs1, F1, -, g1, hb1, hs1, r1⟩ := ph0.el (idx_some hx1).2.2
  obtain ⟨rfl, -⟩ := r1
  refine qq (q_indexAddr Sl_121 rfl rfl ph0 hx1) rfl <| qq (q_loadN Tn_85 rfl (fun w1 hw => (g1.of_eq 0 3 rfl rfl : rg _ _ _ [.int .i64 x1.K, .int .i64 x1.N, .string x1.S]).rangeAt hw.fro) rfl) rfl <| qq (q_move rfl) rfl <| qq (q_move rfl) rfl ?_
  obtain ⟨x2, hx2, h⟩ := bs h
  obtain ⟨cs2, F2, -, g2, hb2, hs2, r2⟩ := ph1.el (idx_some hx2).2.2
  obtain ⟨rfl, -⟩ := r2
  refine qq (q_indexAddr Sl_121 rfl rfl ph1 hx2) rfl <| qq (q_loadN Tn_85 rfl (fun w1 hw => (g2.of_eq 0 3 rfl rfl : rg _ _ _ [.int .i64 x2.K, .int .i64 x2.N, .string x2.S]).rangeAt hw.fro) rfl) rfl <| qq (q_neA EqT_85 rfl rfl rfl (r := eqT_TVal x1 x2) rfl) rfl <| WQ.nil ?_
  refine cdh rfl h (fun c3 h => ?_) (fun c3 h => ?_)
  ·refine sr <| la rfl <| en ?_
   refine WT.ret Tryz.func188 (resOk.one rfl) (fun w1 hw => ?_)
   subst hb0
   cases h
   exact post_of_St hw
  refine WT.skip <| ib <| rgn <| la rfl <| la rfl <| la rfl <| en ?_
  exact lback (ih1 (IntKind.i64.wrap (s1 + 1)) h) ⟨rfl, rfl, rfl, trivial⟩ (fun w1 hw => (hw.sel (js := []) rfl).selO (js := []) rfl)
 refine xt rfl <| sr <| la rfl <| en ?_
 refine WT.ret Tryz.func188 (resOk.one rfl) (fun w1 hw => ?_)
 subst hb0
 cases h
 exact post_of_St hw
theorem m_s_SameFact_ok {Φ : Hp} {w : World} (hΦ : In Φ w) (N : Nat) (p0 : TFact) (p1 : TFact) {pv0_0 pv1_0 : Value} {pG0_0 pG1_0 : List Nat} (ph0_0 : RSl RTVal 3 Φ pG0_0 pv0_0 p0.Fields) (ph1_0 : RSl RTVal 3 Φ pG1_0 pv1_0 p1.Fields) {r : Bool} (h : m_s_SameFact N p0 p1 = some r) :
  Calls Tryz.prog 156 [.agg [.string p0.Kind, pv0_0].toArray, .agg [.string p1.Kind, pv1_0].toArray].toArray w (Post (.bool r) w) := by
 refine enter Tryz.func156 rfl Tryz.ntmps156 rfl (St.start0 hΦ) ?_
 unfold m_s_SameFact at h
 refine sr ?_
 refine ln (nb rfl) rfl (fun b_1 => ?_)
 refine ln (nb rfl) rfl (fun b_2 => ?_)
 refine la rfl <| en <| sr <| lf Fld_123_0 rfl rfl rfl <| lo T1_9 1 rfl <| lf Fld_123_0 rfl rfl rfl <| lo T1_9 0 rfl <| la rfl <| la rfl ?_
 obtain ⟨b1, hb_1, h⟩ := bs h
 refine WL.cutN 6 [(16, .bool b1), (4, .bool false)] ?_ (fun K => ?_)
 rotate_left
 ·refine spl 10 rfl hb_1 (fun c1 hb_1 => ?_) (fun c1 hb_1 => ?_)
  ·refine ly rfl rfl <| lf Fld_123_1 rfl rfl rfl <| ly rfl rfl <| lo T1_121 1 rfl <| ly rfl rfl <| lf Fld_123_1 rfl rfl rfl <| ly rfl rfl <| lo T1_121 0 rfl <| ly rfl rfl ?_
   obtain ⟨x1, hx1, hb_1⟩ := bs hb_1
   refine lp (p_call Fun_188 rfl (fun w1 hw => m_s_l3SameVals_ok hw.fro N p0.Fields p1.Fields ph0_0 ph1_0 hx1)) rfl <| la rfl ?_
   cases hb_1
   exact kk K ⟨rfl, rfl, trivial⟩
  ·refine la rfl <| la rfl <| la rfl <| la rfl <| la rfl <| la rfl ?_
   cases hb_1
   exact kk K ⟨rfl, rfl, trivial⟩
 refine la rfl <| en ?_
 refine WT.ret Tryz.func156 (resOk.one rfl) (fun w1 hw => ?_)
 cases h
 exact post_of_St hw
theorem m_s_IdOf_ok {Φ : Hp} {w : World} (hΦ : In Φ w) (N : Nat) (p0 : TStore) (p1 : TFact) {pv0_0 pv1_0 : Value} {pG0_0 pG1_0 : List Nat} (ph0_0 : RSl RTItem 3 Φ pG0_0 pv0_0 p0.Items) (ph1_0 : RSl RTVal 3 Φ pG1_0 pv1_0 p1.Fields) {r : Int} (h : m_s_IdOf N p0 p1 = some r) :
  Calls Tryz.prog 100 [.agg [pv0_0, .int .i64 p0.Next].toArray, .agg [.string p1.Kind, pv1_0].toArray].toArray w (Post (.int .i64 r) w) := by
 refine enter Tryz.func100 rfl Tryz.ntmps100 rfl (St.start0 hΦ) ?_
 generalize hb0 : (⟨w, [], Φ⟩ : Base) = w0
 unfold m_s_IdOf at h
 refine sr ?_
 refine ln (nb rfl) rfl (fun b_1 => ?_)
 refine ln (nb rfl) rfl (fun b_2 => ?_)
 refine la rfl <| en <| sq <| sr <| la rfl <| en <| blk ?_
 refine loop_in (σ := Int) (fun s => [(2, .pointer (some ⟨b_1, 0, none⟩)), (3, .pointer (some ⟨b_2, 0, none⟩)), (5, .int .i64 s)]) (fun s => St w0 Φ [(b_2, .cells #[.string p1.Kind, pv1_0] 123 (0, 0)), (b_1, .cells #[pv0_0, .int .i64 p0.Next] 29 (0, 0))] []) (fun m s => m_s_IdOf_l1 N p0 p1 m s = some r) (0) N h ⟨rfl, rfl, rfl, trivial⟩ (fun w1 hw => (hw.sel (js := []) rfl).selO (js := [0, 0]) rfl) (fun s hm => none_ne hm) (fun n1 ih1 s hm => ?_)
 revert hm; revert s; intro s1 hm
 have h : m_s_IdOf_l1 N p0 p1 (n1 + 1) s1 = some r := hm
 show WT _ _ [(2, .pointer (some ⟨b_1, 0, none⟩)), (3, .pointer (some ⟨b_2, 0, none⟩)), (5, .int .i64 s1)] (St w0 Φ [(b_2, .cells #[.string p1.Kind, pv1_0] 123 (0, 0)), (b_1, .cells #[pv0_0, .int .i64 p0.Next] 29 (0, 0))] [])
 unfold m_s_IdOf_l1 at h
 refine sq <| sr <| la rfl <| lf Fld_29_0 rfl rfl rfl <| lo T1_27 1 rfl <| lq (q_lenR Sl_27 rfl rfl ph0_0) rfl <| la rfl <| en ?_
 refine cdh rfl h (fun c1 h => ?_) (fun c1 h => ?_)
 ·refine WT.skip <| sq <| blk <| sq <| WT.draw mixed (by kernel_rfl) (fun _ h => h.drew) <| qq (q_fieldAddr Fld_29_0 rfl) rfl <| qq (q_load1 T1_27 rfl (fun w1 hw => hw.rgO (i := 1) rfl 0 1 [pv0_0] rfl)) rfl <| qq (q_move rfl) rfl ?_
  obtain ⟨x1, hx1, h⟩ := bs h
  obtain ⟨cs1, F1, -, g1, hb1, hs1, r1⟩ := ph0_0.el (idx_some hx1).2.2
  obtain ⟨v1, G1, rfl, hq1, h1⟩ := r1
  obtain rfl := hq1.symm
  refine qq (q_indexAddr Sl_27 rfl rfl ph0_0 hx1) rfl <| qq (q_fieldAddr Fld_125_1 rfl) rfl <| qq (q_loadN Tn_123 rfl (fun w1 hw => (g1.of_eq 1 2 rfl rfl : rg _ _ _ [.string x1.F.Kind, v1]).rangeAt hw.fro) rfl) rfl <| qq (q_loadN Tn_123 rfl (fun w1 hw => hw.rgO (i := 0) rfl 0 2 [.string p1.Kind, pv1_0] rfl) rfl) rfl ?_
  obtain ⟨x2, hx2, h⟩ := bs h
  refine qp (p_call Fun_156 rfl (fun w1 hw => m_s_SameFact_ok hw.fro N x1.F p1 h1 ph1_0 hx2)) rfl <| WQ.nil ?_
  refine cdh rfl h (fun c2 h => ?_) (fun c2 h => ?_)
  ·refine sr <| lf Fld_29_0 rfl rfl rfl <| lo T1_27 1 rfl <| la rfl ?_
   obtain ⟨x3, hx3, h⟩ := bs h
   obtain ⟨cs2, F2, -, g2, hb2, hs2, r2⟩ := ph0_0.el (idx_some hx3).2.2
   obtain ⟨v2, G2, rfl, hq2, h2⟩ := r2
   obtain rfl := hq2.symm
   refine lq (q_indexAddr Sl_27 rfl rfl ph0_0 hx3) rfl <| lf Fld_125_0 rfl rfl rfl <| lg 0 T1_3 g2 rfl rfl <| la rfl <| en ?_
   refine WT.ret Tryz.func100 (resOk.one rfl) (fun w1 hw => ?_)
   subst hb0
   cases h
   exact post_of_St hw
  refine WT.skip <| ib <| rgn <| la rfl <| la rfl <| la rfl <| en ?_
  exact lback (ih1 (IntKind.i64.wrap (s1 + 1)) h) ⟨rfl, rfl, rfl, trivial⟩ (fun w1 hw => (hw.sel (js := []) rfl).selO (js := [0, 0]) rfl)
 refine xt rfl <| sr <| la rfl <| en ?_
 refine WT.ret Tryz.func100 (resOk.one rfl) (fun w1 hw => ?_)
 subst hb0
 cases h
 exact post_of_St hw
theorem m_s_l3Copy_ok {Φ : Hp} {w : World} (hΦ : In Φ w) (N : Nat) (p0 : TFact) {pv0_0 : Value} {pG0_0 : List Nat} (ph0_0 : RSl RTVal 3 Φ pG0_0 pv0_0 p0.Fields) {r : TFact} (h : m_s_l3Copy N p0 = some r) :
  Calls Tryz.prog 129 [.agg [.string p0.Kind, pv0_0].toArray].toArray w (PostG Φ w [] (fun Φ' Fs v => ∃ (sr_0_0 : Value), v = .agg [.string r.Kind, sr_0_0].toArray ∧ Fs = [ob sr_0_0] ∧ OSl RTVal 85 3 Φ' [] sr_0_0 r.Fields)) := by
 refine enter Tryz.func129 rfl Tryz.ntmps129 rfl (St.start0 hΦ) ?_
 have pa0_0 := Old.mk hΦ ph0_0.kn (Dj.empty _)
 unfold m_s_l3Copy at h
 refine sr ?_
 refine ln (nb rfl) rfl (fun b_1 => ?_)
 refine ln (nz Zr_123) rfl (fun b_2 => ?_)
 refine en <| sr ?_
 refine le' (e_lit0 RTVal.lasts Sl_121 Zr_85 rfl rfl) rfl (fun v1 Φ_1 D1 q1 => ?_)
 obtain ⟨fr1, h1⟩ := q1
 replace ph0_0 := ph0_0.frame RTVal.lasts fr1 (Dj.empty _)
 refine lf Fld_123_1 rfl rfl rfl <| lo T1_121 1 rfl ?_
 obtain ⟨x1, hx1, h⟩ := bs h
 refine le' (e_appF RTVal.lasts RTVal.one RTVal.flat Sl_121 Ei_85 rfl rfl rfl rfl rfl (js := [0]) (Rr := []) rfl h1 ph0_0 hx1) rfl (fun v2 Φ_2 D2 q2 => ?_)
 obtain ⟨⟨ap1, fr2⟩, h2⟩ := q2
 replace ph0_0 := ph0_0.frame RTVal.lasts fr2 (ap1.o pa0_0)
 refine lf Fld_123_1 rfl rfl rfl <| so1 1 Sz_121 rfl h2.one ?_
 refine en <| sr <| ld2 Tn_123 1 rfl <| soN 0 Sz_123 rfl ⟨rfl, h2.one, trivial⟩ rfl ?_
 refine en ?_
 refine WT.ret Tryz.func129 (resOk.one (rv_cell Tn_123 rfl (fun w1 hw => hw.rgO (i := 0) rfl 0 2 [.string p0.Kind, v2] rfl) rfl)) (fun w1 hw => ?_)
 cases h
 refine postG_of_St (js := [0]) hw rfl ⟨v2, rfl, rfl, h2⟩
theorem m_s_l4Assert_ok {Φ : Hp} {w : World} (hΦ : In Φ w) (N : Nat) (p0 : TStore) (p1 : TFact) {pv0_0 pv1_0 : Value} {pD0_0 pG1_0 : List Nat} {pb0 : Nat} (ph0_0 : OSl RTItem 125 3 Φ pD0_0 pv0_0 p0.Items) (pp0 : Φ pb0 = some (.cells #[pv0_0, .int .i64 p0.Next] 29 (0, 0))) (ph1_0 : RSl RTVal 3 Φ pG1_0 pv1_0 p1.Fields) (pd0_0 : Dj pD0_0 [[pb0], ob pv0_0].flatten) (pd1_0 : Dj pG1_0 [[pb0], ob pv0_0].flatten) (hB : [[pb0], ob pv0_0].flatten.Nodup) (hlt : ∀ k ∈ [[pb0], ob pv0_0].flatten, k < w.heap.size) {r : Int × TStore} (h : m_s_l4Assert N p0 p1 = some r) :
  Calls Tryz.prog 78 [.pointer (some ⟨pb0, 0, none⟩), .agg [.string p1.Kind, pv1_0].toArray].toArray w (PostG Φ w [[pb0], ob pv0_0].flatten (fun Φ' Fs v => ∃ (so_0_0 : Value) (Do_0_0 : List Nat) (X : List Nat), v = .int .i64 r.1 ∧ Fs = [[pb0], ob so_0_0, X] ∧ OSl RTItem 125 3 Φ' Do_0_0 so_0_0 r.2.Items ∧ (∀ k ∈ Do_0_0, k ∈ (X ++ pD0_0)) ∧ Φ' pb0 = some (.cells #[so_0_0, .int .i64 r.2.Next] 29 (0, 0)))) := by
 refine enter Tryz.func78 rfl Tryz.ntmps78 rfl (St.start hΦ [[pb0], ob pv0_0] hB hlt) ?_
 have pa0_0 := Old.mk hΦ ph0_0.kn pd0_0
 revert pa0_0
 generalize hb0 : (⟨w, [[pb0], ob pv0_0].flatten, Φ⟩ : Base) = w0
 intro pa0_0
 unfold m_s_l4Assert at h
 refine sr ?_
 refine ln (nb rfl) rfl (fun b_1 => ?_)
 refine la rfl <| en <| sq <| WT.draw mixed (by kernel_rfl) (fun _ h => h.drew) <| qq (q_move rfl) rfl <| qq (q_nilCheck rfl) rfl <| qq (q_loadN Tn_29 rfl (fun w1 hw => ((rg_cells pp0).of_eq 0 2 rfl rfl : rg _ _ _ [pv0_0, .int .i64 p0.Next]).rangeAt hw.fro) rfl) rfl <| qq (q_loadN Tn_123 rfl (fun w1 hw => hw.rgO (i := 0) rfl 0 2 [.string p1.Kind, pv1_0] rfl) rfl) rfl ?_
 obtain ⟨x1, hx1, h⟩ := bs h
 refine qp (p_call Fun_100 rfl (fun w1 hw => m_s_IdOf_ok hw.fro N p0 p1 ph0_0.rsl ph1_0 hx1)) rfl <| qq (q_assign rfl) rfl <| WQ.nil <| sq <| sr <| la rfl <| la rfl <| en ?_
 refine cdh rfl h (fun c1 h => ?_) (fun c1 h => ?_)
 ·refine sr <| la rfl <| la rfl <| en ?_
  refine WT.ret Tryz.func78 (resOk.one rfl) (fun w1 hw => ?_)
  subst hb0
  cases h
  replace hw := hw.addNil
  refine postG_of_St (js := [1, 1, 0]) hw rfl ⟨pv0_0, pD0_0, [], rfl, rfl, ph0_0, (fun k hk => (List.mem_append.2 (.inr hk))), pp0⟩
 refine WT.skip <| sq <| sr <| la rfl <| lq (q_nilCheck rfl) rfl <| lf Fld_29_0 rfl rfl rfl <| lq (q_load1 T1_27 rfl (fun w1 hw => ((rg_cells pp0).of_eq 0 1 rfl rfl : rg _ _ _ [pv0_0]).rangeAt hw.fro)) rfl <| lq (q_lenR Sl_27 rfl rfl ph0_0.rsl) rfl <| la rfl <| la rfl ?_
 obtain ⟨b1, hb_1, h⟩ := bs h
 refine WL.cutN 6 [(26, .bool b1), (0, .pointer (some ⟨pb0, 0, none⟩)), (3, .pointer (some ⟨b_1, 0, none⟩))] ?_ (fun K => ?_)
 rotate_left
 ·refine spl 20 rfl hb_1 (fun c2 hb_1 => ?_) (fun c2 hb_1 => ?_)
  ·refine la rfl <| la rfl <| la rfl <| la rfl <| la rfl <| la rfl ?_
   cases hb_1
   exact kk K ⟨rfl, rfl, rfl, trivial⟩
  ·refine ly rfl rfl <| la rfl <| ly rfl rfl <| lq (q_nilCheck rfl) rfl <| ly rfl rfl <| lf Fld_29_1 rfl rfl rfl <| ly rfl rfl <| lq (q_load1 T1_3 rfl (fun w1 hw => ((rg_cells pp0).of_eq 1 1 rfl rfl : rg _ _ _ [.int .i64 p0.Next]).rangeAt hw.fro)) rfl <| ly rfl rfl <| la rfl <| la rfl ?_
   cases hb_1
   exact kk K ⟨rfl, rfl, rfl, trivial⟩
 refine en ?_
 refine cdh rfl h (fun c3 h => ?_) (fun c3 h => ?_)
 ·refine sr <| la rfl <| en ?_
  refine WT.ret Tryz.func78 (resOk.one rfl) (fun w1 hw => ?_)
  subst hb0
  cases h
  replace hw := hw.addNil
  refine postG_of_St (js := [1, 1, 0]) hw rfl ⟨pv0_0, pD0_0, [], rfl, rfl, ph0_0, (fun k hk => (List.mem_append.2 (.inr hk))), pp0⟩
 refine WT.skip <| sq <| WT.mix (Kn Φ [pb0] [(b_1, .cells #[.string p1.Kind, pv1_0] 123 (0, 0))]) (fun i => match i with | 16 => false | _ => true) mixed (fun _ h => h.drew) <| ma 0 rfl (by kernel_rfl) (kn Kf.id (ai1 0 rfl)) rfl <| ma 1 rfl (by kernel_rfl) (kn Kf.id (ai1 0 rfl)) rfl <| mq 2 rfl (by kernel_rfl) (kn Kf.id (ai1 0 rfl)) (q_nilCheck rfl) rfl <| mq 3 rfl (by kernel_rfl) (kn Kf.id (ai1 0 rfl)) (q_fieldAddr Fld_29_0 rfl) rfl ?_
 refine mq 4 rfl (by kernel_rfl) (kn Kf.id (ai1 0 rfl)) (q_load1 T1_27 rfl (fun w1 hw => hw.rg (by simp) ((rg_cells pp0).of_eq 0 1 rfl rfl : rg _ _ _ [pv0_0]))) rfl <| ma 5 rfl (by kernel_rfl) (kn Kf.id (ai1 0 rfl)) rfl <| mq 6 rfl (by kernel_rfl) (kn Kf.id (ai1 0 rfl)) (q_nilCheck rfl) rfl <| mq 7 rfl (by kernel_rfl) (kn Kf.id (ai1 0 rfl)) (q_fieldAddr Fld_29_1 rfl) rfl <| mq 8 rfl (by kernel_rfl) (kn Kf.id (ai1 0 rfl)) (q_load1 T1_3 rfl (fun w1 hw => hw.rg (by simp) ((rg_cells pp0).of_eq 1 1 rfl rfl : rg _ _ _ [.int .i64 p0.Next]))) rfl ?_
 refine mq 9 rfl (by kernel_rfl) (kn Kf.id (ai1 0 rfl)) (q_loadN Tn_123 rfl (fun w1 hw => hw.rgO (i := 0) rfl 0 2 [.string p1.Kind, pv1_0] rfl) rfl) rfl ?_
 obtain ⟨x2, hx2, h⟩ := bs h
 refine WM.one 10 (by kernel_rfl) (mc rfl (fun _ v Φx D w1 hq hw => Kn.of (Kf.id.st hq.2.1 (hq.1.r (i := 0) rfl)) (ai1 0 rfl) hw) (k_call (js := []) (R := [[pb0], ob pv0_0]) Fun_129 rfl rfl (fun w1 hw ap hl => m_s_l3Copy_ok hw.fro N p1 ph1_0  hx2)) rfl (fun v1 Φ_1 F1 q1 => ?_))
 obtain ⟨ap1, fr1, v2, rfl, rfl, h1⟩ := q1
 replace ph0_0 := ph0_0.frame RTItem.lasts fr1 (ap1.r (i := 1) rfl) (ap1.o pa0_0)
 replace pp0 := fr1 _ _ ((ap1.r (i := 0) rfl) _ (by simp)) pp0
 have kf1 := (Kf.id (F := [pb0]) : Kf Φ _ _).st fr1 (ap1.r (i := 0) rfl)
 refine mq 11 rfl (by kernel_rfl) (kn kf1 (ai1 0 rfl)) (q_build (vs := [(0, .int .i64 p0.Next), (1, .agg [.string x2.Kind, v2].toArray)]) (C := #[.int .i64 p0.Next, .string x2.Kind, v2]) Pl_125 Zr_125 rfl (fill_cons (C' := [.int .i64 p0.Next, .string ⟨#[]⟩, .slice none 0 0]) rfl rfl rfl rfl rfl (fill_cons (C' := [.int .i64 p0.Next, .string x2.Kind, v2]) rfl rfl rfl rfl rfl (fill_nil)))) rfl ?_
 have rc1 : RC OTItem 3 Φ_1 ([(ob v2 ++ [])] : List (List Nat)) [.int .i64 p0.Next, .string x2.Kind, v2] ([(⟨p0.Next, x2⟩ : TItem)] : List TItem) := RC.cons (c := [.int .i64 p0.Next, .string x2.Kind, v2]) (cells := []) ⟨v2, rfl, rfl, h1⟩ rfl (RC.nil _ _ _)
 refine WM.one 12 (by kernel_rfl) (me rfl (fun _ v Φx D w1 hq hw => Kn.of (kf1.se hq.1) (ai1 0 rfl) hw) (e_lit (vs := [(0, .agg [.int .i64 p0.Next, .string x2.Kind, v2].toArray)]) (C := #[.int .i64 p0.Next, .string x2.Kind, v2]) OTItem.lasts Sl_27 Zr_125 rfl rfl rfl rfl (fill_made MC_125_1 (fill_cons (C' := [.int .i64 p0.Next, .string x2.Kind, v2]) rfl rfl rfl rfl rfl (fill_nil))) rfl rc1 rfl (RC.kn OTItem.knows rc1)) rfl (fun v3 Φ_2 D1 q2 => ?_))
 obtain ⟨fr2, h2⟩ := q2
 replace h2 : OSl OTItem 125 3 Φ_2 ((ob v2 ++ [])) v3 ([(⟨p0.Next, x2⟩ : TItem)] : List TItem) := by simpa [List.append_assoc] using h2
 replace ph0_0 := ph0_0.frame RTItem.lasts fr2 (Dj.empty _) (Dj.empty _)
 replace pp0 := fr2 _ _ (by simp) pp0
 refine WM.conv (S' := St w0 Φ_2 [(b_1, .cells #[.string p1.Kind, pv1_0] 123 (0, 0))] [((ob v2 ++ [])), ob v3, [pb0], ob pv0_0]) (fun w1 hw => hw.merge (js := [1]) rfl (SP.eq (by simp [List.append_assoc, ob_nil]))) ?_
 obtain ⟨x3, hx3, h⟩ := bs h
 have kf2 := kf1.se fr2
 refine WM.one 13 (by kernel_rfl) (me rfl (fun _ v Φx D w1 hq hw => Kn.of (kf2.st hq.1.2 (hq.1.1.r (i := 2) rfl)) (ai1 0 rfl) hw) (e_appO RTItem.lasts RTItem.one Sl_27 Ei_125 rfl rfl rfl rfl rfl (js := [3]) (Rr := [((ob v2 ++ [])), ob v3, [pb0]]) rfl ph0_0 (h2.gives OTItem.gives) (fun ap => (ap.o pa0_0)) (fun ap => (ap.r (i := 0) rfl)) hx3) rfl (fun v4 Φ_3 D2 q3 => ?_))
 obtain ⟨⟨ap2, fr3⟩, h3⟩ := q3
 replace pp0 := fr3 _ _ ((ap2.r (i := 2) rfl) _ (by simp)) pp0
 have kf3 := kf2.st fr3 (ap2.r (i := 2) rfl)
 refine mqT 14 [15, 16] rfl (by kernel_rfl) (kn kf3 (ai1 0 rfl)) (q_nilCheck rfl) rfl <| mq 15 rfl (by kernel_rfl) (kn kf3 (ai1 0 rfl)) (q_fieldAddr Fld_29_0 rfl) rfl ?_
 refine WM.thw (js := [3]) (R := [ob v4, ((ob v2 ++ [])), ob v3]) rfl pp0 (fun Φ_4 ap3 fr4 => ?_)
 replace h3 := h3.frame RTItem.lasts fr4 (ap3.r (i := 0) rfl) (Dj.app (ap3.o pa0_0) (ap3.r (i := 1) rfl))
 refine WM.one 16 (by kernel_rfl) (ms rfl (fun hc => by cases hc) (s_store (i := 0) (vs := [v4]) (C' := [v4, .int .i64 p0.Next]) (O' := [(pb0, .cells #[v4, .int .i64 p0.Next] 29 (0, 0)), (b_1, .cells #[.string p1.Kind, pv1_0] 123 (0, 0))]) Sz_27 rfl rfl rfl (one_cells h3.one) rfl rfl ⟨h3.one, trivial⟩ rfl rfl) rfl ?_)
 refine WM.nil (by kernel_rfl) <| sr <| la rfl <| la rfl <| lq (q_nilCheck rfl) rfl <| lf Fld_29_1 rfl rfl rfl <| lo T1_3 0 rfl <| la rfl <| lq (q_nilCheck rfl) rfl <| lf Fld_29_1 rfl rfl rfl <| so1 0 Sz_3 rfl rfl ?_
 refine en <| sr <| la rfl <| lq (q_nilCheck rfl) rfl <| lf Fld_29_1 rfl rfl rfl <| lo T1_3 0 rfl <| la rfl <| la rfl <| en ?_
 refine WT.frz (js := [0]) (R := [(b_1, .cells #[.string p1.Kind, pv1_0] 123 (0, 0))]) rfl (fun Φ_5 fr5 k1 => ?_)
 replace h3 := h3.frame RTItem.lasts fr5 (Dj.empty _) (Dj.empty _)
 refine WT.ret Tryz.func78 (resOk.one rfl) (fun w1 hw => ?_)
 subst hb0
 cases h
 replace hw := hw.merge (js := [2]) (F := [((ob v2 ++ []))].flatten) rfl (SP.eq (by simp))
 refine postG_of_St (js := [1, 1, 0]) hw rfl ⟨v4, (pD0_0 ++ ((ob v2 ++ []))), [((ob v2 ++ []))].flatten, rfl, rfl, h3, (fun k hk => ((List.mem_append.1 hk).elim (fun h => (List.mem_append.2 (.inr h))) (fun h => (List.mem_append.2 (.inl (List.mem_flatten.2 ⟨((ob v2 ++ [])), by simp, h⟩)))))), k1⟩
theorem m_s_l3Draw_ok {Φ : Hp} {w : World} (hΦ : In Φ w) (N : Nat) (p0 : Tl1Cur) {pv0_0 : Value} {pG0_0 : List Nat} {pb0 : Nat} (ph0_0 : RSl (RI .u8) 1 Φ pG0_0 pv0_0 p0.b) (pp0 : Φ pb0 = some (.cells #[pv0_0, .int .i64 p0.i, .int .i64 p0.h] 112 (0, 0))) (pd0_0 : Dj pG0_0 [[pb0]].flatten) (hB : [[pb0]].flatten.Nodup) (hlt : ∀ k ∈ [[pb0]].flatten, k < w.heap.size) {r : TFact × Tl1Cur} (h : m_s_l3Draw N p0 = some r) :
  Calls Tryz.prog 79 [.pointer (some ⟨pb0, 0, none⟩)].toArray w (PostG Φ w [[pb0]].flatten (fun Φ' Fs v => ∃ (sr_0_0 : Value), v = .agg [.string r.1.Kind, sr_0_0].toArray ∧ Fs = [ob sr_0_0, [pb0]] ∧ OSl RTVal 85 3 Φ' [] sr_0_0 r.1.Fields ∧ r.2.b = p0.b ∧ Φ' pb0 = some (.cells #[pv0_0, .int .i64 r.2.i, .int .i64 r.2.h] 112 (0, 0)))) := by
 refine enter Tryz.func79 rfl Tryz.ntmps79 rfl (St.start hΦ [[pb0]] hB hlt) ?_
 have pa0_0 := Old.mk hΦ ph0_0.kn pd0_0
 revert pa0_0
 generalize hb0 : (⟨w, [[pb0]].flatten, Φ⟩ : Base) = w0
 intro pa0_0
 unfold m_s_l3Draw at h
 refine sr ?_
 refine ln (nz Zr_123) rfl (fun b_1 => ?_)
 refine en <| sr <| la rfl ?_
 have rc1 : RC RS 1 Φ ([[], [], [], []] : List (List Nat)) [.string (⟨#[111, 114, 100, 101, 114]⟩ : ByteArray), .string (⟨#[112, 97, 105, 100]⟩ : ByteArray), .string (⟨#[105, 116, 101, 109]⟩ : ByteArray), .string (⟨#[111, 114, 100, 101, 114]⟩ : ByteArray)] ([(⟨#[111, 114, 100, 101, 114]⟩ : ByteArray), (⟨#[112, 97, 105, 100]⟩ : ByteArray), (⟨#[105, 116, 101, 109]⟩ : ByteArray), (⟨#[111, 114, 100, 101, 114]⟩ : ByteArray)] : List ByteArray) := RC.cons (c := [.string (⟨#[111, 114, 100, 101, 114]⟩ : ByteArray)]) (cells := [.string (⟨#[112, 97, 105, 100]⟩ : ByteArray), .string (⟨#[105, 116, 101, 109]⟩ : ByteArray), .string (⟨#[111, 114, 100, 101, 114]⟩ : ByteArray)]) ⟨rfl, rfl⟩ rfl (RC.cons (c := [.string (⟨#[112, 97, 105, 100]⟩ : ByteArray)]) (cells := [.string (⟨#[105, 116, 101, 109]⟩ : ByteArray), .string (⟨#[111, 114, 100, 101, 114]⟩ : ByteArray)]) ⟨rfl, rfl⟩ rfl (RC.cons (c := [.string (⟨#[105, 116, 101, 109]⟩ : ByteArray)]) (cells := [.string (⟨#[111, 114, 100, 101, 114]⟩ : ByteArray)]) ⟨rfl, rfl⟩ rfl (RC.cons (c := [.string (⟨#[111, 114, 100, 101, 114]⟩ : ByteArray)]) (cells := []) ⟨rfl, rfl⟩ rfl (RC.nil _ _ _))))
 refine le' (e_lit (vs := [(0, .string (⟨#[111, 114, 100, 101, 114]⟩ : ByteArray)), (1, .string (⟨#[112, 97, 105, 100]⟩ : ByteArray)), (2, .string (⟨#[105, 116, 101, 109]⟩ : ByteArray)), (3, .string (⟨#[111, 114, 100, 101, 114]⟩ : ByteArray))]) (C := #[.string (⟨#[111, 114, 100, 101, 114]⟩ : ByteArray), .string (⟨#[112, 97, 105, 100]⟩ : ByteArray), .string (⟨#[105, 116, 101, 109]⟩ : ByteArray), .string (⟨#[111, 114, 100, 101, 114]⟩ : ByteArray)]) RS.lasts Sl_114 Zr_9 rfl rfl rfl rfl (fill_made MC_9_4 (fill_cons (C' := [.string (⟨#[111, 114, 100, 101, 114]⟩ : ByteArray), .string ⟨#[]⟩, .string ⟨#[]⟩, .string ⟨#[]⟩]) rfl rfl rfl rfl rfl (fill_cons (C' := [.string (⟨#[111, 114, 100, 101, 114]⟩ : ByteArray), .string (⟨#[112, 97, 105, 100]⟩ : ByteArray), .string ⟨#[]⟩, .string ⟨#[]⟩]) rfl rfl rfl rfl rfl (fill_cons (C' := [.string (⟨#[111, 114, 100, 101, 114]⟩ : ByteArray), .string (⟨#[112, 97, 105, 100]⟩ : ByteArray), .string (⟨#[105, 116, 101, 109]⟩ : ByteArray), .string ⟨#[]⟩]) rfl rfl rfl rfl rfl (fill_cons (C' := [.string (⟨#[111, 114, 100, 101, 114]⟩ : ByteArray), .string (⟨#[112, 97, 105, 100]⟩ : ByteArray), .string (⟨#[105, 116, 101, 109]⟩ : ByteArray), .string (⟨#[111, 114, 100, 101, 114]⟩ : ByteArray)]) rfl rfl rfl rfl rfl (fill_nil)))))) rfl rc1 rfl (by simpa using Kw.nil)) rfl (fun v1 Φ_1 D1 q1 => ?_)
 obtain ⟨fr1, h1⟩ := q1
 replace h1 : OSl RS 9 1 Φ_1 [] v1 ([(⟨#[111, 114, 100, 101, 114]⟩ : ByteArray), (⟨#[112, 97, 105, 100]⟩ : ByteArray), (⟨#[105, 116, 101, 109]⟩ : ByteArray), (⟨#[111, 114, 100, 101, 114]⟩ : ByteArray)] : List ByteArray) := by simpa using h1
 replace ph0_0 := ph0_0.frame RI.lasts fr1 (Dj.empty _)
 replace pp0 := fr1 _ _ (by simp) pp0
 obtain ⟨x1, hx1, h⟩ := bs h
 refine lc (k_call (js := [1]) (R := [ob v1]) Fun_72 rfl rfl (fun w1 hw ap hl => m_s_l1Str_ok hw.fro N p0 ([(⟨#[111, 114, 100, 101, 114]⟩ : ByteArray), (⟨#[112, 97, 105, 100]⟩ : ByteArray), (⟨#[105, 116, 101, 109]⟩ : ByteArray), (⟨#[111, 114, 100, 101, 114]⟩ : ByteArray)] : List ByteArray) ph0_0 pp0 h1.rsl (ap.o pa0_0) (Dj.app (ap.r (i := 0) rfl) (Dj.nil _)) ap.nd hl hx1)) rfl (fun v2 Φ_2 F1 q2 => ?_)
 obtain ⟨ap1, fr2, rfl, rfl, e1, h2⟩ := q2
 replace ph0_0 := ph0_0.frame RI.lasts fr2 (ap1.o pa0_0)
 refine lq (q_build (vs := [(0, .string x1.1)]) (C := #[.string x1.1, .slice none 0 0]) Pl_123 Zr_123 rfl (fill_cons (C' := [.string x1.1, .slice none 0 0]) rfl rfl rfl rfl rfl (fill_nil))) rfl ?_
 refine ln (nz Zr_123) rfl (fun b_2 => ?_)
 refine soN 0 Sz_123 rfl ⟨rfl, rfl, trivial⟩ rfl ?_
 refine en <| sr <| la rfl <| en <| sq <| sr <| lf Fld_123_0 rfl rfl rfl <| lo T1_9 0 rfl <| la rfl <| en ?_
 refine cut (σ := Int) (fun s => [(0, .pointer (some ⟨pb0, 0, none⟩)), (2, .pointer (some ⟨b_1, 0, none⟩)), (3, .pointer (some ⟨b_2, 0, none⟩)), (4, .int .i64 s)]) (fun s => St w0 Φ_2 [(b_2, .cells #[.string x1.1, .slice none 0 0] 123 (0, 0)), (b_1, .cells #[.string (⟨#[]⟩ : ByteArray), .slice none 0 0] 123 (0, 0))] [[pb0]]) (fun s => m_s_l3Draw_j1 N p0 x1 s = some r) (fun s hm => ?_) (fun K => ?_)
 ·clear h
  revert hm; revert s; intro s1 hm
  have h : m_s_l3Draw_j1 N p0 x1 s1 = some r := hm
  show WT _ _ [(0, .pointer (some ⟨pb0, 0, none⟩)), (2, .pointer (some ⟨b_1, 0, none⟩)), (3, .pointer (some ⟨b_2, 0, none⟩)), (4, .int .i64 s1)] (St w0 Φ_2 [(b_2, .cells #[.string x1.1, .slice none 0 0] 123 (0, 0)), (b_1, .cells #[.string (⟨#[]⟩ : ByteArray), .slice none 0 0] 123 (0, 0))] [[pb0]])
  unfold m_s_l3Draw_j1 at h
  refine sq <| sr <| la rfl ?_
  obtain ⟨x2, hx2, h⟩ := bs h
  refine lc (k_call (js := [0]) (R := []) Fun_32 rfl rfl (fun w1 hw ap hl => m_s_l1Once_ok hw.fro N (⟨p0.b, x1.2.i, x1.2.h⟩ : Tl1Cur) 12 ph0_0 h2 (ap.o pa0_0) ap.nd hl hx2)) rfl (fun v3 Φ_3 F2 q3 => ?_)
  obtain ⟨ap2, fr3, rfl, rfl, e2, h3⟩ := q3
  replace ph0_0 := ph0_0.frame RI.lasts fr3 (ap2.o pa0_0)
  refine en ?_
  refine cut (σ := Hp × Int × Int × Int) (fun s => [(0, .pointer (some ⟨pb0, 0, none⟩)), (2, .pointer (some ⟨b_1, 0, none⟩)), (3, .pointer (some ⟨b_2, 0, none⟩)), (4, .int .i64 s.2.1)]) (fun s => St w0 s.1 [(b_2, .cells #[.string x1.1, .slice none 0 0] 123 (0, 0)), (b_1, .cells #[.string (⟨#[]⟩ : ByteArray), .slice none 0 0] 123 (0, 0))] [[pb0]]) (fun s => m_s_l3Draw_j2 N p0 x1 s.2.1 s.2.2.1 s.2.2.2 = some r ∧ (s.1 pb0 = some (.cells #[pv0_0, .int .i64 s.2.2.1, .int .i64 s.2.2.2] 112 (0, 0))) ∧ (RSl (RI .u8) 1 s.1 pG0_0 pv0_0 p0.b)) (fun s hm => ?_) (fun K => ?_)
  ·clear h
   obtain ⟨Φ_4, s2, s3, s4⟩ := s
   obtain ⟨h, k1, ph0_0⟩ := hm
   dsimp only at h k1 ph0_0 ⊢
   unfold m_s_l3Draw_j2 at h
   refine sq <| sr <| la rfl <| en <| blk <| WT.loop <| WT.conv (S' := St w0 Φ_4 [(b_2, .cells #[.string x1.1, .slice none 0 0] 123 (0, 0)), (b_1, .cells #[.string (⟨#[]⟩ : ByteArray), .slice none 0 0] 123 (0, 0))] (ob (.slice none 0 0) :: [[pb0]])) (fun w1 hw => hw.addNil) ?_
   have k2 := OSl.nil RTVal 85 3 Φ_4
   refine WT.mono (l' := [(0, .pointer (some ⟨pb0, 0, none⟩)), (2, .pointer (some ⟨b_1, 0, none⟩)), (3, .pointer (some ⟨b_2, 0, none⟩)), (4, .int .i64 s2), (5, .int .i64 0)]) (S' := St w0 Φ_4 [(b_2, .cells #[.string x1.1, (.slice none 0 0)] 123 (0, 0)), (b_1, .cells #[.string (⟨#[]⟩ : ByteArray), .slice none 0 0] 123 (0, 0))] [ob (.slice none 0 0), [pb0]]) ⟨rfl, rfl, rfl, rfl, rfl, trivial⟩ (fun w1 hw => (hw.sel (js := [0, 0]) rfl).selO (js := [0, 0]) rfl) ?_
   refine loop_ind (σ := Hp × (List TVal) × Value × Int × Int × Int) (fun s => [(0, .pointer (some ⟨pb0, 0, none⟩)), (2, .pointer (some ⟨b_1, 0, none⟩)), (3, .pointer (some ⟨b_2, 0, none⟩)), (4, .int .i64 s2), (5, .int .i64 s.2.2.2.1)]) (fun s => St w0 s.1 [(b_2, .cells #[.string x1.1, s.2.2.1] 123 (0, 0)), (b_1, .cells #[.string (⟨#[]⟩ : ByteArray), .slice none 0 0] 123 (0, 0))] [ob s.2.2.1, [pb0]]) (fun m s => m_s_l3Draw_l3 N p0 x1 s2 m s.2.1 s.2.2.2.1 s.2.2.2.2.1 s.2.2.2.2.2 = some r ∧ (OSl RTVal 85 3 s.1 [] s.2.2.1 s.2.1) ∧ (s.1 pb0 = some (.cells #[pv0_0, .int .i64 s.2.2.2.2.1, .int .i64 s.2.2.2.2.2] 112 (0, 0))) ∧ (RSl (RI .u8) 1 s.1 pG0_0 pv0_0 p0.b)) (fun s hm => none_ne (show (none : Option (TFact × Tl1Cur)) = some r from hm.1)) (fun n3 ih3 s hm => ?_) N (Φ_4, ([] : List TVal), (.slice none 0 0), 0, s3, s4) ⟨h, k2, k1, ph0_0⟩
   obtain ⟨Φ_5, s5, u1, s6, s7, s8⟩ := s
   obtain ⟨h, k3, k4, ph0_0⟩ := hm
   dsimp only at h k3 k4 ph0_0 ⊢
   unfold m_s_l3Draw_l3 at h
   refine sq <| sr <| la rfl <| la rfl <| la rfl <| en ?_
   refine cdh rfl h (fun c1 h => ?_) (fun c1 h => ?_)
   ·refine WT.skip <| sq <| blk <| WT.mix (Kn Φ_5 [] [(b_2, .cells #[.string x1.1, u1] 123 (0, 0)), (b_1, .cells #[.string (⟨#[]⟩ : ByteArray), .slice none 0 0] 123 (0, 0))]) (fun i => match i with | 7 => false | _ => true) mixed (fun _ h => h.drew) <| mq 0 rfl (by kernel_rfl) (kn Kf.nil (ai2 0 1 rfl rfl)) (q_fieldAddr Fld_123_1 rfl) rfl <| mq 1 rfl (by kernel_rfl) (kn Kf.nil (ai2 0 1 rfl rfl)) (q_load1 T1_121 rfl (fun w1 hw => hw.rgO (i := 0) rfl 1 1 [u1] rfl)) rfl ?_
    refine ma 2 rfl (by kernel_rfl) (kn Kf.nil (ai2 0 1 rfl rfl)) rfl ?_
    obtain ⟨x3, hx3, h⟩ := bs h
    refine WM.one 3 (by kernel_rfl) (mc rfl (fun _ v Φx D w1 hq hw => Kn.of Kf.nil (ai2 0 1 rfl rfl) hw) (k_call (js := [1]) (R := [ob u1]) Fun_130 rfl rfl (fun w1 hw ap hl => m_s_l3Small_ok hw.fro N (⟨p0.b, s7, s8⟩ : Tl1Cur) ph0_0 k4 (ap.o pa0_0) ap.nd hl hx3)) rfl (fun v4 Φ_6 F3 q4 => ?_))
    obtain ⟨ap3, fr4, rfl, rfl, e3, h4⟩ := q4
    replace ph0_0 := ph0_0.frame RI.lasts fr4 (ap3.o pa0_0)
    replace k3 := k3.frame RTVal.lasts fr4 (ap3.r (i := 0) rfl) (Dj.nil _)
    have rc2 : RC RTVal 3 Φ_6 ([[]] : List (List Nat)) [.int .i64 x3.1.K, .int .i64 x3.1.N, .string x3.1.S] ([x3.1] : List TVal) := RC.cons (c := [.int .i64 x3.1.K, .int .i64 x3.1.N, .string x3.1.S]) (cells := []) ⟨rfl, rfl⟩ rfl (RC.nil _ _ _)
    refine WM.one 4 (by kernel_rfl) (me rfl (fun _ v Φx D w1 hq hw => Kn.of Kf.nil (ai2 0 1 rfl rfl) hw) (e_lit (vs := [(0, .agg [.int .i64 x3.1.K, .int .i64 x3.1.N, .string x3.1.S].toArray)]) (C := #[.int .i64 x3.1.K, .int .i64 x3.1.N, .string x3.1.S]) RTVal.lasts Sl_121 Zr_85 rfl rfl rfl rfl (fill_made MC_85_1 (fill_cons (C' := [.int .i64 x3.1.K, .int .i64 x3.1.N, .string x3.1.S]) rfl rfl rfl rfl rfl (fill_nil))) rfl rc2 rfl (by simpa using Kw.nil)) rfl (fun v5 Φ_7 D2 q5 => ?_))
    obtain ⟨fr5, h5⟩ := q5
    replace h5 : OSl RTVal 85 3 Φ_7 [] v5 ([x3.1] : List TVal) := by simpa using h5
    replace ph0_0 := ph0_0.frame RI.lasts fr5 (Dj.empty _)
    replace k3 := k3.frame RTVal.lasts fr5 (Dj.empty _) (Dj.empty _)
    replace h4 := fr5 _ _ (by simp) h4
    obtain ⟨x4, hx4, h⟩ := bs h
    refine WM.one 5 (by kernel_rfl) (me rfl (fun _ v Φx D w1 hq hw => Kn.of Kf.nil (ai2 0 1 rfl rfl) hw) (e_appF RTVal.lasts RTVal.one RTVal.flat Sl_121 Ei_85 rfl rfl rfl rfl rfl (js := [2]) (Rr := [ob v5, [pb0]]) rfl k3 h5.rsl hx4) rfl (fun v6 Φ_8 D3 q6 => ?_))
    obtain ⟨⟨ap4, fr6⟩, h6⟩ := q6
    replace ph0_0 := ph0_0.frame RI.lasts fr6 (ap4.o pa0_0)
    replace h4 := fr6 _ _ ((ap4.r (i := 1) rfl) _ (by simp)) h4
    refine mq 6 rfl (by kernel_rfl) (kn Kf.nil (ai2 0 1 rfl rfl)) (q_fieldAddr Fld_123_1 rfl) rfl ?_
    refine WM.one 7 (by kernel_rfl) (ms rfl (fun hc => by cases hc) (s_store (i := 0) (vs := [v6]) (C' := [.string x1.1, v6]) (O' := [(b_2, .cells #[.string x1.1, v6] 123 (0, 0)), (b_1, .cells #[.string (⟨#[]⟩ : ByteArray), .slice none 0 0] 123 (0, 0))]) Sz_121 rfl rfl rfl (one_cells h6.one) rfl rfl ⟨h6.one, trivial⟩ rfl rfl) rfl ?_)
    refine WM.nil (by kernel_rfl) <| ib <| rgn <| la rfl <| la rfl <| la rfl <| en ?_
    exact lback (ih3 (Φ_8, x4, v6, IntKind.i64.wrap (s6 + 1), x3.2.i, x3.2.h) ⟨h, h6, h4, ph0_0⟩) ⟨rfl, rfl, rfl, rfl, rfl, trivial⟩ (fun w1 hw => (hw.sel (js := [0, 1]) rfl).selO (js := [0, 0]) rfl)
   refine xt rfl <| sr <| ld2 Tn_123 0 rfl <| soN 1 Sz_123 rfl ⟨rfl, k3.one, trivial⟩ rfl ?_
   refine en ?_
   refine WT.ret Tryz.func79 (resOk.one (rv_cell Tn_123 rfl (fun w1 hw => hw.rgO (i := 1) rfl 0 2 [.string x1.1, u1] rfl) rfl)) (fun w1 hw => ?_)
   subst hb0
   cases h
   refine postG_of_St (js := [0, 0]) hw rfl ⟨u1, rfl, rfl, k3, rfl, k4⟩
  refine cdh rfl h (fun c2 h => ?_) (fun c2 h => ?_)
  ·refine rgn <| la rfl ?_
   obtain ⟨x5, hx5, h⟩ := bs h
   refine lc (k_call (js := [0]) (R := []) Fun_73 rfl rfl (fun w1 hw ap hl => m_s_l1Below_ok hw.fro N (⟨p0.b, x2.2.i, x2.2.h⟩ : Tl1Cur) 6 ph0_0 h3 (ap.o pa0_0) ap.nd hl hx5)) rfl (fun v7 Φ_9 F4 q7 => ?_)
   obtain ⟨ap5, fr7, rfl, rfl, e4, h7⟩ := q7
   replace ph0_0 := ph0_0.frame RI.lasts fr7 (ap5.o pa0_0)
   refine la rfl <| en ?_
   exact wto (K (Φ_9, x5.1, x5.2.i, x5.2.h) ⟨h, h7, ph0_0⟩) ⟨rfl, rfl, rfl, rfl, trivial⟩ (fun w1 hw => (hw.sel (js := [0]) rfl).selO (js := [0, 0]) rfl)
  refine WT.skip ?_
  exact wto (K (Φ_3, s1, x2.2.i, x2.2.h) ⟨h, h3, ph0_0⟩) ⟨rfl, rfl, rfl, rfl, trivial⟩ (fun w1 hw => (hw.sel (js := [0]) rfl).selO (js := [0, 0]) rfl)
 refine cdh rfl h (fun c3 h => ?_) (fun c3 h => ?_)
 ·refine rgn <| la rfl <| en ?_
  exact wto (K (2) h) ⟨rfl, rfl, rfl, rfl, trivial⟩ (fun w1 hw => (hw.sel (js := [0]) rfl).selO (js := [0, 0]) rfl)
 refine WT.skip ?_
 exact wto (K (1) h) ⟨rfl, rfl, rfl, rfl, trivial⟩ (fun w1 hw => (hw.sel (js := [0]) rfl).selO (js := [0, 0]) rfl)
theorem m_s_l4Draw_ok {Φ : Hp} {w : World} (hΦ : In Φ w) (N : Nat) (p0 : Tl1Cur) {pv0_0 : Value} {pG0_0 : List Nat} {pb0 : Nat} (ph0_0 : RSl (RI .u8) 1 Φ pG0_0 pv0_0 p0.b) (pp0 : Φ pb0 = some (.cells #[pv0_0, .int .i64 p0.i, .int .i64 p0.h] 112 (0, 0))) (pd0_0 : Dj pG0_0 [[pb0]].flatten) (hB : [[pb0]].flatten.Nodup) (hlt : ∀ k ∈ [[pb0]].flatten, k < w.heap.size) {r : TStore × Tl1Cur} (h : m_s_l4Draw N p0 = some r) :
  Calls Tryz.prog 34 [.pointer (some ⟨pb0, 0, none⟩)].toArray w (PostG Φ w [[pb0]].flatten (fun Φ' Fs v => ∃ (sr_0_0 : Value) (Dr_0_0 : List Nat) (X : List Nat), v = .agg [sr_0_0, .int .i64 r.1.Next].toArray ∧ Fs = [ob sr_0_0, [pb0], X] ∧ OSl RTItem 125 3 Φ' Dr_0_0 sr_0_0 r.1.Items ∧ (∀ k ∈ Dr_0_0, k ∈ X) ∧ r.2.b = p0.b ∧ Φ' pb0 = some (.cells #[pv0_0, .int .i64 r.2.i, .int .i64 r.2.h] 112 (0, 0)))) := by
 refine enter Tryz.func34 rfl Tryz.ntmps34 rfl (St.start hΦ [[pb0]] hB hlt) ?_
 have pa0_0 := Old.mk hΦ ph0_0.kn pd0_0
 revert pa0_0
 generalize hb0 : (⟨w, [[pb0]].flatten, Φ⟩ : Base) = w0
 intro pa0_0
 unfold m_s_l4Draw at h
 refine sr ?_
 refine ln (nz Zr_29) rfl (fun b_1 => ?_)
 refine en <| sr <| lq (q_build (vs := [(1, .int .i64 1)]) (C := #[.slice none 0 0, .int .i64 1]) Pl_29 Zr_29 rfl (fill_cons (C' := [.slice none 0 0, .int .i64 1]) rfl rfl rfl rfl rfl (fill_nil))) rfl ?_
 refine ln (nz Zr_29) rfl (fun b_2 => ?_)
 refine soN 0 Sz_29 rfl ⟨rfl, rfl, trivial⟩ rfl ?_
 refine en <| sq <| sr <| la rfl ?_
 obtain ⟨x1, hx1, h⟩ := bs h
 refine lc (k_call (js := [0]) (R := []) Fun_73 rfl rfl (fun w1 hw ap hl => m_s_l1Below_ok hw.fro N p0 9 ph0_0 pp0 (ap.o pa0_0) ap.nd hl hx1)) rfl (fun v1 Φ_1 F1 q1 => ?_)
 obtain ⟨ap1, fr1, rfl, rfl, e1, h1⟩ := q1
 replace ph0_0 := ph0_0.frame RI.lasts fr1 (ap1.o pa0_0)
 refine la rfl <| en <| blk <| WT.loop <| WT.conv (S' := St w0 Φ_1 [(b_2, .cells #[.slice none 0 0, .int .i64 1] 29 (0, 0)), (b_1, .cells #[.slice none 0 0, .int .i64 0] 29 (0, 0))] ([] :: [[pb0]])) (fun w1 hw => hw.addNil) <| WT.conv (S' := St w0 Φ_1 [(b_2, .cells #[.slice none 0 0, .int .i64 1] 29 (0, 0)), (b_1, .cells #[.slice none 0 0, .int .i64 0] 29 (0, 0))] (ob (.slice none 0 0) :: [[], [pb0]])) (fun w1 hw => hw.addNil) ?_
 have k1 := OSl.nil RTItem 125 3 Φ_1
 refine WT.mono (l' := [(0, .pointer (some ⟨pb0, 0, none⟩)), (2, .pointer (some ⟨b_1, 0, none⟩)), (3, .pointer (some ⟨b_2, 0, none⟩)), (4, .int .i64 x1.1)]) (S' := St w0 Φ_1 [(b_2, .cells #[(.slice none 0 0), .int .i64 1] 29 (0, 0)), (b_1, .cells #[.slice none 0 0, .int .i64 0] 29 (0, 0))] [ob (.slice none 0 0), [], [pb0]]) ⟨rfl, rfl, rfl, rfl, trivial⟩ (fun w1 hw => (hw.sel (js := [0, 0, 0]) rfl).selO (js := [0, 0]) rfl) ?_
 refine loop_ind (σ := Hp × List Nat × (List TItem) × Value × List Nat × Int × Int × Int × Int) (fun s => [(0, .pointer (some ⟨pb0, 0, none⟩)), (2, .pointer (some ⟨b_1, 0, none⟩)), (3, .pointer (some ⟨b_2, 0, none⟩)), (4, .int .i64 s.2.2.2.2.2.1)]) (fun s => St w0 s.1 [(b_2, .cells #[s.2.2.2.1, .int .i64 s.2.2.2.2.2.2.2.2] 29 (0, 0)), (b_1, .cells #[.slice none 0 0, .int .i64 0] 29 (0, 0))] [ob s.2.2.2.1, s.2.1, [pb0]]) (fun m s => m_s_l4Draw_l1 N p0 m s.2.2.1 s.2.2.2.2.2.1 s.2.2.2.2.2.2.1 s.2.2.2.2.2.2.2.1 s.2.2.2.2.2.2.2.2 = some r ∧ (OSl RTItem 125 3 s.1 s.2.2.2.2.1 s.2.2.2.1 s.2.2.1) ∧ (∀ k ∈ s.2.2.2.2.1, k ∈ s.2.1) ∧ (s.1 pb0 = some (.cells #[pv0_0, .int .i64 s.2.2.2.2.2.2.1, .int .i64 s.2.2.2.2.2.2.2.1] 112 (0, 0))) ∧ (RSl (RI .u8) 1 s.1 pG0_0 pv0_0 p0.b)) (fun s hm => none_ne (show (none : Option (TStore × Tl1Cur)) = some r from hm.1)) (fun n1 ih1 s hm => ?_) N (Φ_1, [], ([] : List TItem), (.slice none 0 0), [], x1.1, x1.2.i, x1.2.h, 1) ⟨h, k1, (by simp), h1, ph0_0⟩
 obtain ⟨Φ_2, X1, s1, u1, D1, s2, s3, s4, s5⟩ := s
 obtain ⟨h, k2, i1, k3, ph0_0⟩ := hm
 dsimp only at h k2 i1 k3 ph0_0 ⊢
 unfold m_s_l4Draw_l1 at h
 refine sq <| sr <| la rfl <| la rfl <| en ?_
 refine cdh rfl h (fun c1 h => ?_) (fun c1 h => ?_)
 ·refine WT.skip <| sq <| blk <| sq <| sr <| la rfl ?_
  obtain ⟨x2, hx2, h⟩ := bs h
  refine lc (k_call (js := [2]) (R := [ob u1, X1]) Fun_32 rfl rfl (fun w1 hw ap hl => m_s_l1Once_ok hw.fro N (⟨p0.b, s3, s4⟩ : Tl1Cur) 5 ph0_0 k3 (ap.o pa0_0) ap.nd hl hx2)) rfl (fun v2 Φ_3 F2 q2 => ?_)
  obtain ⟨ap2, fr2, rfl, rfl, e2, h2⟩ := q2
  replace ph0_0 := ph0_0.frame RI.lasts fr2 (ap2.o pa0_0)
  replace k2 := k2.frame RTItem.lasts fr2 (ap2.r (i := 0) rfl) (Dj.sub (ap2.r (i := 1) rfl) i1)
  refine la rfl ?_
  obtain ⟨b3, hb_1, h⟩ := bs h
  refine WL.cutN 5 [(19, .bool b3), (0, .pointer (some ⟨pb0, 0, none⟩)), (2, .pointer (some ⟨b_1, 0, none⟩)), (3, .pointer (some ⟨b_2, 0, none⟩)), (4, .int .i64 s2)] ?_ (fun K => ?_)
  rotate_left
  ·refine spl 14 rfl hb_1 (fun c2 hb_1 => ?_) (fun c2 hb_1 => ?_)
   ·refine ly rfl rfl <| lf Fld_29_0 rfl rfl rfl <| ly rfl rfl <| lo T1_27 0 rfl <| ly rfl rfl <| lq (q_lenR Sl_27 rfl rfl k2.rsl) rfl <| ly rfl rfl <| la rfl <| la rfl ?_
    cases hb_1
    exact kk K ⟨rfl, rfl, rfl, rfl, rfl, trivial⟩
   ·refine la rfl <| la rfl <| la rfl <| la rfl <| la rfl ?_
    cases hb_1
    exact kk K ⟨rfl, rfl, rfl, rfl, rfl, trivial⟩
  refine en ?_
  refine cdh rfl h (fun c3 h => ?_) (fun c3 h => ?_)
  ·refine sq <| WT.mix (Kn Φ_3 [] [(b_2, .cells #[u1, .int .i64 s5] 29 (0, 0)), (b_1, .cells #[.slice none 0 0, .int .i64 0] 29 (0, 0))]) (fun i => match i with | 10 => false | _ => true) mixed (fun _ h => h.drew) <| mqT 0 [1, 7, 8, 9, 10] rfl (by kernel_rfl) (kn Kf.nil (ai2 0 1 rfl rfl)) (q_fieldAddr Fld_29_0 rfl) rfl <| mqT 1 [7, 8, 9, 10] rfl (by kernel_rfl) (kn Kf.nil (ai2 0 1 rfl rfl)) (q_load1 T1_27 rfl (fun w1 hw => hw.rgO (i := 0) rfl 0 1 [u1] rfl)) rfl ?_
   refine mqT 2 [6, 7, 8, 9, 10] rfl (by kernel_rfl) (kn Kf.nil (ai2 0 1 rfl rfl)) (q_move rfl) rfl <| mqT 3 [4, 5, 6, 7, 8, 9, 10] rfl (by kernel_rfl) (kn Kf.nil (ai2 0 1 rfl rfl)) (q_fieldAddr Fld_29_0 rfl) rfl <| mqT 4 [5, 6, 7, 8, 9, 10] rfl (by kernel_rfl) (kn Kf.nil (ai2 0 1 rfl rfl)) (q_load1 T1_27 rfl (fun w1 hw => hw.rgO (i := 0) rfl 0 1 [u1] rfl)) rfl <| mqT 5 [6, 7, 8, 9, 10] rfl (by kernel_rfl) (kn Kf.nil (ai2 0 1 rfl rfl)) (q_lenR Sl_27 rfl rfl k2.rsl) rfl ?_
   obtain ⟨x3, hx3, h⟩ := bs h
   refine WM.one 6 (by kernel_rfl) (mc rfl (fun _ v Φx D w1 hq hw => Kn.of Kf.nil (ai2 0 1 rfl rfl) hw) (k_call (js := [0]) (R := [ob u1, X1]) Fun_73 rfl rfl (fun w1 hw ap hl => m_s_l1Below_ok hw.fro N (⟨p0.b, x2.2.i, x2.2.h⟩ : Tl1Cur) (s1.length : Int) ph0_0 h2 (ap.o pa0_0) ap.nd hl hx3)) rfl (fun v3 Φ_4 F3 q3 => ?_))
   obtain ⟨ap3, fr3, rfl, rfl, e3, h3⟩ := q3
   replace ph0_0 := ph0_0.frame RI.lasts fr3 (ap3.o pa0_0)
   replace k2 := k2.frame RTItem.lasts fr3 (ap3.r (i := 0) rfl) (Dj.sub (ap3.r (i := 1) rfl) i1)
   obtain ⟨x4, hx4, h⟩ := bs h
   obtain ⟨cs1, F4, -, g1, hb1, hs1, r1⟩ := k2.elS (idx_some hx4).2.2
   obtain ⟨v4, G1, rfl, hq1, h4⟩ := r1
   obtain rfl := hq1.symm
   refine mqT 7 [8, 9, 10] rfl (by kernel_rfl) (kn Kf.nil (ai2 0 1 rfl rfl)) (q_indexAddr Sl_27 rfl rfl k2.rsl hx4) rfl <| mqT 8 [9, 10] rfl (by kernel_rfl) (kn Kf.nil (ai2 0 1 rfl rfl)) (q_fieldAddr Fld_125_0 rfl) rfl ?_
   refine WM.one 9 (by kernel_rfl) (mv rfl (fun _ w1 hw => Kn.of Kf.nil (ai2 0 1 rfl rfl) hw) (q_load1 T1_3 rfl (fun w1 hw => (g1.of_eq 0 1 rfl rfl : rg _ _ _ [.int .i64 x4.Id]).rangeAt hw.fro)) rfl ?_)
   refine WM.frz (js := [0]) (R := [(b_1, .cells #[.slice none 0 0, .int .i64 0] 29 (0, 0))]) rfl (fun Φ_5 fr4 k4 => ?_)
   replace ph0_0 := ph0_0.frame RI.lasts fr4 (Dj.empty _)
   replace k2 := k2.frame RTItem.lasts fr4 (Dj.empty _) (Dj.empty _)
   replace h3 := fr4 _ _ (by simp) h3
   obtain ⟨x5, hx5, h⟩ := bs h
   refine WM.one 10 (by kernel_rfl) (mc rfl (fun hc => by cases hc) (k_call (js := [0]) (R := [[pb0], ob u1, X1]) Fun_77 rfl rfl (fun w1 hw ap hl => m_s_l4Drop_ok hw.fro N (⟨s1, s5⟩ : TStore) x4.Id k2.rsl k4 (Dj.app (ap.r (i := 1) rfl) (Dj.sub (ap.r (i := 2) rfl) i1)) ap.nd hl hx5)) rfl (fun v5 Φ_6 F5 q4 => ?_))
   obtain ⟨ap4, fr5, v6, D2, rfl, rfl, h5, i2, h6⟩ := q4
   replace ph0_0 := ph0_0.frame RI.lasts fr5 (ap4.o pa0_0)
   replace h3 := fr5 _ _ ((ap4.r (i := 0) rfl) _ (by simp)) h3
   refine WM.nil (by kernel_rfl) <| xt rfl <| rgn <| la rfl <| la rfl <| la rfl <| en ?_
   refine WT.thw (js := [0]) (R := [ob v6, [pb0], ob u1, X1]) rfl h6 (fun Φ_7 ap5 fr6 => ?_)
   replace ph0_0 := ph0_0.frame RI.lasts fr6 (ap5.o pa0_0)
   replace h5 := h5.frame RTItem.lasts fr6 (ap5.r (i := 0) rfl) (Dj.sub (Dj.app (ap5.r (i := 2) rfl) (Dj.sub (ap5.r (i := 3) rfl) i1)) i2)
   replace h3 := fr6 _ _ ((ap5.r (i := 1) rfl) _ (by simp)) h3
   refine WT.conv (S' := St w0 Φ_7 [(b_2, .cells #[v6, .int .i64 x5.2.Next] 29 (0, 0)), (b_1, .cells #[.slice none 0 0, .int .i64 0] 29 (0, 0))] [(X1 ++ (ob u1)), ob v6, [pb0]]) (fun w1 hw => hw.merge (js := [3, 2]) rfl (SP.eq (by simp [List.append_assoc]))) ?_
   exact lback (ih1 (Φ_7, (X1 ++ (ob u1)), x5.2.Items, v6, D2, IntKind.i64.wrap (s2 - 1), x3.2.i, x3.2.h, x5.2.Next) ⟨h, h5, (fun k hk => ((List.mem_append.1 (i2 k hk)).elim (fun h => ((fun k hk => (List.mem_append.2 (.inr hk))) k h)) (fun h => ((fun k hk => (List.mem_append.2 (.inl hk))) k (i1 k h))))), h3, ph0_0⟩) ⟨rfl, rfl, rfl, rfl, trivial⟩ (fun w1 hw => (hw.sel (js := [1, 0, 0]) rfl).selO (js := [0, 0]) rfl)
  refine WT.skip <| rgn <| la rfl ?_
  obtain ⟨x6, hx6, h⟩ := bs h
  refine lc (k_call (js := [0]) (R := [ob u1, X1]) Fun_79 rfl rfl (fun w1 hw ap hl => m_s_l3Draw_ok hw.fro N (⟨p0.b, x2.2.i, x2.2.h⟩ : Tl1Cur) ph0_0 h2 (ap.o pa0_0) ap.nd hl hx6)) rfl (fun v7 Φ_8 F6 q5 => ?_)
  obtain ⟨ap6, fr7, v8, rfl, rfl, h7, e4, h8⟩ := q5
  replace ph0_0 := ph0_0.frame RI.lasts fr7 (ap6.o pa0_0)
  replace k2 := k2.frame RTItem.lasts fr7 (ap6.r (i := 0) rfl) (Dj.sub (ap6.r (i := 1) rfl) i1)
  refine WL.frz (js := [0]) (R := [(b_1, .cells #[.slice none 0 0, .int .i64 0] 29 (0, 0))]) rfl (fun Φ_9 fr8 k5 => ?_)
  replace ph0_0 := ph0_0.frame RI.lasts fr8 (Dj.empty _)
  replace k2 := k2.frame RTItem.lasts fr8 (Dj.empty _) (Dj.empty _)
  replace h7 := h7.frame RTVal.lasts fr8 (Dj.empty _) (Dj.empty _)
  replace h8 := fr8 _ _ (by simp) h8
  obtain ⟨x7, hx7, h⟩ := bs h
  refine lc (k_call (js := [0, 2]) (R := [ob v8, [pb0], X1]) Fun_78 rfl rfl (fun w1 hw ap hl => m_s_l4Assert_ok hw.fro N (⟨s1, s5⟩ : TStore) x6.1 k2 k5 h7.rsl (Dj.sub (ap.r (i := 2) rfl) i1) (Dj.app (ap.r (i := 0) rfl) (Dj.nil _)) ap.nd hl hx7)) rfl (fun v9 Φ_10 F7 q6 => ?_)
  obtain ⟨ap7, fr9, v10, D3, X2, rfl, rfl, h9, i3, h10⟩ := q6
  replace ph0_0 := ph0_0.frame RI.lasts fr9 (ap7.o pa0_0)
  replace h8 := fr9 _ _ ((ap7.r (i := 1) rfl) _ (by simp)) h8
  refine en <| ib <| rgn <| la rfl <| la rfl <| la rfl <| en ?_
  refine WT.thw (js := [0]) (R := [ob v10, X2, ob v8, [pb0], X1]) rfl h10 (fun Φ_11 ap8 fr10 => ?_)
  replace ph0_0 := ph0_0.frame RI.lasts fr10 (ap8.o pa0_0)
  replace h9 := h9.frame RTItem.lasts fr10 (ap8.r (i := 0) rfl) (Dj.sub (Dj.app (ap8.r (i := 1) rfl) (Dj.sub (ap8.r (i := 4) rfl) i1)) i3)
  replace h8 := fr10 _ _ ((ap8.r (i := 3) rfl) _ (by simp)) h8
  refine WT.conv (S' := St w0 Φ_11 [(b_2, .cells #[v10, .int .i64 x7.2.Next] 29 (0, 0)), (b_1, .cells #[.slice none 0 0, .int .i64 0] 29 (0, 0))] [(X1 ++ (X2)), ob v10, ob v8, [pb0]]) (fun w1 hw => hw.merge (js := [4, 1]) rfl (SP.eq (by simp [List.append_assoc]))) ?_
  exact lback (ih1 (Φ_11, (X1 ++ (X2)), x7.2.Items, v10, D3, IntKind.i64.wrap (s2 - 1), x6.2.i, x6.2.h, x7.2.Next) ⟨h, h9, (fun k hk => ((List.mem_append.1 (i3 k hk)).elim (fun h => ((fun k hk => (List.mem_append.2 (.inr hk))) k h)) (fun h => ((fun k hk => (List.mem_append.2 (.inl hk))) k (i1 k h))))), h8, ph0_0⟩) ⟨rfl, rfl, rfl, rfl, trivial⟩ (fun w1 hw => (hw.sel (js := [1, 0, 1]) rfl).selO (js := [0, 0]) rfl)
 refine xt rfl <| sr <| ld2 Tn_29 0 rfl <| soN 1 Sz_29 rfl ⟨k2.one, rfl, trivial⟩ rfl ?_
 refine en ?_
 refine WT.ret Tryz.func34 (resOk.one (rv_cell Tn_29 rfl (fun w1 hw => hw.rgO (i := 1) rfl 0 2 [u1, .int .i64 s5] rfl) rfl)) (fun w1 hw => ?_)
 subst hb0
 cases h
 replace hw := hw.merge (js := [1]) (F := [X1].flatten) rfl (SP.eq (by simp))
 refine postG_of_St (js := [1, 1, 0]) hw rfl ⟨u1, D1, [X1].flatten, rfl, rfl, k2, (fun k hk => (List.mem_flatten.2 ⟨X1, by simp, (i1 k hk)⟩)), rfl, k3⟩
theorem m_s_DrawAllMatches_ok {Φ : Hp} {w : World} (hΦ : In Φ w) (N : Nat) (p0 : (List Int)) {pv0 : Value} {pG0 : List Nat} (ph0 : RSl (RI .u8) 1 Φ pG0 pv0 p0) {r : TDef × TStore} (h : m_s_DrawAllMatches N p0 = some r) :
  Calls Tryz.prog 7 [pv0].toArray w (PostG Φ w [] (fun Φ' Fs v => ∃ (sr_0_0 : Value) (Dr_0_0 : List Nat) (sr_1_0 : Value) (Dr_1_0 : List Nat) (X : List Nat), v = .tuple #[.agg [.string r.1.Name, sr_0_0].toArray, .agg [sr_1_0, .int .i64 r.2.Next].toArray] ∧ Fs = [ob sr_0_0, ob sr_1_0, X] ∧ OSl RTRule 40 5 Φ' Dr_0_0 sr_0_0 r.1.Rules ∧ (∀ k ∈ Dr_0_0, k ∈ X) ∧ OSl RTItem 125 3 Φ' Dr_1_0 sr_1_0 r.2.Items ∧ (∀ k ∈ Dr_1_0, k ∈ X))) := by
 refine enter Tryz.func7 rfl Tryz.ntmps7 rfl (St.start0 hΦ) ?_
 have pa0 := Old.mk hΦ ph0.kn (Dj.empty _)
 revert pa0
 generalize hb0 : (⟨w, [], Φ⟩ : Base) = w0
 intro pa0
 unfold m_s_DrawAllMatches at h
 refine sr ?_
 refine ln (nz Zr_26) rfl (fun b_1 => ?_)
 refine ln (nz Zr_29) rfl (fun b_2 => ?_)
 refine en <| sr <| la rfl ?_
 obtain ⟨x1, hx1, h⟩ := bs h
 refine lc (k_call (js := []) (R := []) Fun_30 rfl rfl (fun w1 hw ap hl => m_s_l1New_ok hw.fro N p0 ph0  hx1)) rfl (fun v1 Φ_1 F1 q1 => ?_)
 obtain ⟨ap1, fr1, b_3, v2, G1, rfl, rfl, h1, i1, h2⟩ := q1
 refine la rfl <| en <| sr <| la rfl ?_
 obtain ⟨x2, hx2, h⟩ := bs h
 refine lc (k_call (js := [0]) (R := []) Fun_31 rfl rfl (fun w1 hw ap hl => m_s_l10Draw_ok hw.fro N x1 h1 h2 (Dj.sub (ap.o pa0) i1) ap.nd hl hx2)) rfl (fun v3 Φ_2 F2 q2 => ?_)
 obtain ⟨ap2, fr2, v4, D1, rfl, rfl, h3, e1, h4⟩ := q2
 replace h1 := h1.frame RI.lasts fr2 (Dj.sub (ap2.o pa0) i1)
 refine ln (nz Zr_26) rfl (fun b_4 => ?_)
 refine soN 0 Sz_26 rfl ⟨rfl, h3.one, trivial⟩ rfl ?_
 refine en <| sq <| sr <| la rfl ?_
 obtain ⟨x3, hx3, h⟩ := bs h
 refine lc (k_call (js := [2]) (R := [ob v4, D1]) Fun_32 rfl rfl (fun w1 hw ap hl => m_s_l1Once_ok hw.fro N (⟨x1.b, x2.2.i, x2.2.h⟩ : Tl1Cur) 8 h1 h4 (Dj.sub (ap.o pa0) i1) ap.nd hl hx3)) rfl (fun v5 Φ_3 F3 q3 => ?_)
 obtain ⟨ap3, fr3, rfl, rfl, e2, h5⟩ := q3
 replace h1 := h1.frame RI.lasts fr3 (Dj.sub (ap3.o pa0) i1)
 replace h3 := h3.frame OTRule.lasts fr3 (ap3.r (i := 0) rfl) (ap3.r (i := 1) rfl)
 refine en <| WT.conv (S' := St w0 Φ_3 [(b_4, .cells #[.string x2.1.Name, v4] 26 (0, 0)), (b_2, .cells #[.slice none 0 0, .int .i64 0] 29 (0, 0)), (b_1, .cells #[.string (⟨#[]⟩ : ByteArray), .slice none 0 0] 26 (0, 0))] ([] :: [[b_3], ob v4, D1])) (fun w1 hw => hw.addNil) ?_
 replace h3 := h3.gives OTRule.gives
 refine cut (σ := Hp × List Nat × (List TRule) × Value × List Nat × Int × Int × ByteArray) (fun s => [(2, .pointer (some ⟨b_1, 0, none⟩)), (3, .pointer (some ⟨b_2, 0, none⟩)), (4, .pointer (some ⟨b_3, 0, none⟩)), (5, .pointer (some ⟨b_4, 0, none⟩))]) (fun s => St w0 s.1 [(b_4, .cells #[.string s.2.2.2.2.2.2.2, s.2.2.2.1] 26 (0, 0)), (b_2, .cells #[.slice none 0 0, .int .i64 0] 29 (0, 0)), (b_1, .cells #[.string (⟨#[]⟩ : ByteArray), .slice none 0 0] 26 (0, 0))] [s.2.1, [b_3], ob s.2.2.2.1, D1]) (fun s => m_s_DrawAllMatches_j1 N x1 s.2.2.1 s.2.2.2.2.2.1 s.2.2.2.2.2.2.1 s.2.2.2.2.2.2.2 = some r ∧ (OSl RTRule 40 5 s.1 s.2.2.2.2.1 s.2.2.2.1 s.2.2.1) ∧ (∀ k ∈ s.2.2.2.2.1, k ∈ (D1 ++ s.2.1)) ∧ (s.1 b_3 = some (.cells #[v2, .int .i64 s.2.2.2.2.2.1, .int .i64 s.2.2.2.2.2.2.1] 112 (0, 0))) ∧ (RSl (RI .u8) 1 s.1 G1 v2 x1.b)) (fun s hm => ?_) (fun K => ?_)
 ·clear h
  obtain ⟨Φ_4, X1, s1, u1, D2, s2, s3, s4⟩ := s
  obtain ⟨h, k1, i2, k2, h1⟩ := hm
  dsimp only at h k1 i2 k2 h1 ⊢
  unfold m_s_DrawAllMatches_j1 at h
  refine sq <| WT.mix (Kn Φ_4 [] [(b_4, .cells #[.string s4, u1] 26 (0, 0)), (b_2, .cells #[.slice none 0 0, .int .i64 0] 29 (0, 0))]) (fun i => match i with | 4 => false | _ => true) mixed (fun _ h => h.drew) <| mq 0 rfl (by kernel_rfl) (kn Kf.nil (ai2 0 1 rfl rfl)) (q_loadN Tn_26 rfl (fun w1 hw => hw.rgO (i := 0) rfl 0 2 [.string s4, u1] rfl) rfl) rfl <| ma 1 rfl (by kernel_rfl) (kn Kf.nil (ai2 0 1 rfl rfl)) rfl ?_
  obtain ⟨x4, hx4, h⟩ := bs h
  refine WM.one 2 (by kernel_rfl) (mc rfl (fun _ v Φx D w1 hq hw => Kn.of Kf.nil (ai2 0 1 rfl rfl) hw) (k_call (js := [1]) (R := [X1, ob u1, D1]) Fun_34 rfl rfl (fun w1 hw ap hl => m_s_l4Draw_ok hw.fro N (⟨x1.b, s2, s3⟩ : Tl1Cur) h1 k2 (Dj.sub (ap.o pa0) i1) ap.nd hl hx4)) rfl (fun v6 Φ_5 F4 q4 => ?_))
  obtain ⟨ap4, fr4, v7, D3, X2, rfl, rfl, h6, i3, e3, h7⟩ := q4
  replace k1 := k1.frame RTRule.lasts fr4 (ap4.r (i := 1) rfl) (Dj.sub (Dj.app (ap4.r (i := 2) rfl) (ap4.r (i := 0) rfl)) i2)
  refine WM.one 3 (by kernel_rfl) (ms rfl (fun _ w1 hw => Kn.of Kf.nil (ai2 0 1 rfl rfl) hw) (s_store (i := 2) (vs := [.string s4, u1]) (C' := [.string s4, u1]) (O' := [(b_4, .cells #[.string s4, u1] 26 (0, 0)), (b_2, .cells #[.slice none 0 0, .int .i64 0] 29 (0, 0)), (b_1, .cells #[.string s4, u1] 26 (0, 0))]) Sz_26 rfl rfl rfl rfl rfl rfl ⟨rfl, k1.one, trivial⟩ rfl rfl) rfl ?_)
  refine WM.one 4 (by kernel_rfl) (ms rfl (fun hc => by cases hc) (s_store (i := 1) (vs := [v7, .int .i64 x4.1.Next]) (C' := [v7, .int .i64 x4.1.Next]) (O' := [(b_4, .cells #[.string s4, u1] 26 (0, 0)), (b_2, .cells #[v7, .int .i64 x4.1.Next] 29 (0, 0)), (b_1, .cells #[.string s4, u1] 26 (0, 0))]) Sz_29 rfl rfl rfl rfl rfl rfl ⟨h6.one, rfl, trivial⟩ rfl rfl) rfl ?_)
  refine WM.nil (by kernel_rfl) ?_
  refine WT.ret Tryz.func7 (resOk.two (rv_cell Tn_26 rfl (fun w1 hw => hw.rgO (i := 2) rfl 0 2 [.string s4, u1] rfl) rfl) (rv_cell Tn_29 rfl (fun w1 hw => hw.rgO (i := 1) rfl 0 2 [v7, .int .i64 x4.1.Next] rfl) rfl)) (fun w1 hw => ?_)
  subst hb0
  cases h
  replace hw := hw.merge (js := [5, 3, 2]) (F := [D1, X1, X2].flatten) rfl (SP.eq (by simp))
  refine postG_of_St (js := [3, 1, 0]) hw rfl ⟨u1, D2, v7, D3, [D1, X1, X2].flatten, rfl, rfl, k1, (fun k hk => ((List.mem_append.1 (i2 k hk)).elim (fun h => (List.mem_flatten.2 ⟨D1, by simp, h⟩)) (fun h => (List.mem_flatten.2 ⟨X1, by simp, h⟩)))), h6, (fun k hk => (List.mem_flatten.2 ⟨X2, by simp, (i3 k hk)⟩))⟩
 refine cdh rfl h (fun c1 h => ?_) (fun c1 h => ?_)
 ·refine rgn <| la rfl ?_
  obtain ⟨x6, hx5, h⟩ := bs h
  refine lc (k_call (js := [1]) (R := [[], ob v4, D1]) Fun_33 rfl rfl (fun w1 hw ap hl => m_s_l10Any_ok hw.fro N (⟨x1.b, x3.2.i, x3.2.h⟩ : Tl1Cur) h1 h5 (Dj.sub (ap.o pa0) i1) ap.nd hl hx5)) rfl (fun v8 Φ_6 F5 q5 => ?_)
  obtain ⟨ap5, fr5, v9, D4, X3, rfl, rfl, h8, i4, e4, h9⟩ := q5
  replace h1 := h1.frame RI.lasts fr5 (Dj.sub (ap5.o pa0) i1)
  replace h3 := h3.frame RTRule.lasts fr5 (ap5.r (i := 1) rfl) (ap5.r (i := 2) rfl)
  refine soN 0 Sz_26 rfl ⟨rfl, h8.one, trivial⟩ rfl ?_
  refine en <| WT.conv (S' := St w0 Φ_6 [(b_4, .cells #[.string x6.1.Name, v9] 26 (0, 0)), (b_2, .cells #[.slice none 0 0, .int .i64 0] 29 (0, 0)), (b_1, .cells #[.string (⟨#[]⟩ : ByteArray), .slice none 0 0] 26 (0, 0))] [([] ++ (X3)), ob v9, [b_3], ob v4, D1]) (fun w1 hw => hw.merge (js := [3, 2]) rfl (SP.eq (by simp [List.append_assoc]))) ?_
  exact wto (K (Φ_6, ([] ++ (X3)), x6.1.Rules, v9, D4, x6.2.i, x6.2.h, x6.1.Name) ⟨h, h8, (fun k hk => (List.mem_append.2 (.inr ((fun k hk => (List.mem_append.2 (.inr hk))) k (i4 k hk))))), h9, h1⟩) ⟨rfl, rfl, rfl, rfl, trivial⟩ (fun w1 hw => (hw.sel (js := [0, 1, 0, 1]) rfl).selO (js := [0, 0, 0]) rfl)
 refine WT.skip ?_
 exact wto (K (Φ_3, [], x2.1.Rules, v4, D1, x3.2.i, x3.2.h, x2.1.Name) ⟨h, h3, (fun k hk => (List.mem_append.2 (.inl hk))), h5, h1⟩) ⟨rfl, rfl, rfl, rfl, trivial⟩ (fun w1 hw => (hw.sel (js := [0, 0, 0, 0]) rfl).selO (js := [0, 0, 0]) rfl)
theorem m_i_isSmall_ok {Φ : Hp} {w : World} (hΦ : In Φ w) (N : Nat) (p0 : Int)   {r : Bool} (h : m_i_isSmall N p0 = some r) :
  Calls Tryz.prog 131 [.int .u8 p0].toArray w (Post (.bool r) w) := by
 refine enter Tryz.func131 rfl Tryz.ntmps131 rfl (St.start0 hΦ) ?_
 unfold m_i_isSmall at h
 refine sr <| la rfl <| en <| sr <| la rfl <| la rfl <| la rfl ?_
 obtain ⟨b1, hb_1, h⟩ := bs h
 refine WL.cutN 3 [(8, .bool b1), (2, .bool false)] ?_ (fun K => ?_)
 rotate_left
 ·refine spl 5 rfl hb_1 (fun c1 hb_1 => ?_) (fun c1 hb_1 => ?_)
  ·refine ly rfl rfl <| la rfl <| ly rfl rfl <| la rfl <| la rfl ?_
   cases hb_1
   exact kk K ⟨rfl, rfl, trivial⟩
  ·refine la rfl <| la rfl <| la rfl ?_
   cases hb_1
   exact kk K ⟨rfl, rfl, trivial⟩
 refine la rfl <| en ?_
 refine WT.ret Tryz.func131 (resOk.one rfl) (fun w1 hw => ?_)
 cases h
 exact post_of_St hw
theorem m_i_isDigit_ok {Φ : Hp} {w : World} (hΦ : In Φ w) (N : Nat) (p0 : Int)   {r : Bool} (h : m_i_isDigit N p0 = some r) :
  Calls Tryz.prog 200 [.int .u8 p0].toArray w (Post (.bool r) w) := by
 refine enter Tryz.func200 rfl Tryz.ntmps200 rfl (St.start0 hΦ) ?_
 unfold m_i_isDigit at h
 refine sr <| la rfl <| en <| sr <| la rfl <| la rfl <| la rfl ?_
 obtain ⟨b1, hb_1, h⟩ := bs h
 refine WL.cutN 3 [(8, .bool b1), (2, .bool false)] ?_ (fun K => ?_)
 rotate_left
 ·refine spl 5 rfl hb_1 (fun c1 hb_1 => ?_) (fun c1 hb_1 => ?_)
  ·refine ly rfl rfl <| la rfl <| ly rfl rfl <| la rfl <| la rfl ?_
   cases hb_1
   exact kk K ⟨rfl, rfl, trivial⟩
  ·refine la rfl <| la rfl <| la rfl ?_
   cases hb_1
   exact kk K ⟨rfl, rfl, trivial⟩
 refine la rfl <| en ?_
 refine WT.ret Tryz.func200 (resOk.one rfl) (fun w1 hw => ?_)
 cases h
 exact post_of_St hw
theorem m_i_isWordByte_ok {Φ : Hp} {w : World} (hΦ : In Φ w) (N : Nat) (p0 : Int)   {r : Bool} (h : m_i_isWordByte N p0 = some r) :
  Calls Tryz.prog 178 [.int .u8 p0].toArray w (Post (.bool r) w) := by
 refine enter Tryz.func178 rfl Tryz.ntmps178 rfl (St.start0 hΦ) ?_
 unfold m_i_isWordByte at h
 refine sr <| la rfl <| en <| sr <| la rfl ?_
 obtain ⟨x1, hx1, h⟩ := bs h
 refine lp (p_call Fun_131 rfl (fun w1 hw => m_i_isSmall_ok hw.fro N p0 hx1)) rfl <| la rfl ?_
 obtain ⟨b1, hb_1, h⟩ := bs h
 refine WL.cutN 3 [(8, .bool b1), (0, .int .u8 p0), (2, .bool false)] ?_ (fun K => ?_)
 rotate_left
 ·refine spl 5 rfl hb_1 (fun c1 hb_1 => ?_) (fun c1 hb_1 => ?_)
  ·refine la rfl <| la rfl <| la rfl ?_
   cases hb_1
   exact kk K ⟨rfl, rfl, rfl, trivial⟩
  ·refine ly rfl rfl <| la rfl <| ly rfl rfl ?_
   obtain ⟨x2, hx2, hb_1⟩ := bs hb_1
   refine lp (p_call Fun_200 rfl (fun w1 hw => m_i_isDigit_ok hw.fro N p0 hx2)) rfl <| la rfl ?_
   cases hb_1
   exact kk K ⟨rfl, rfl, rfl, trivial⟩
 refine la rfl ?_
 obtain ⟨b2, hb_2, h⟩ := bs h
 refine WL.cutN 3 [(12, .bool b2), (2, .bool false)] ?_ (fun K => ?_)
 rotate_left
 ·refine spl 9 rfl hb_2 (fun c2 hb_2 => ?_) (fun c2 hb_2 => ?_)
  ·refine la rfl <| la rfl <| la rfl ?_
   cases hb_2
   exact kk K ⟨rfl, rfl, trivial⟩
  ·refine ly rfl rfl <| la rfl <| ly rfl rfl <| la rfl <| la rfl ?_
   cases hb_2
   exact kk K ⟨rfl, rfl, trivial⟩
 refine la rfl <| en ?_
 refine WT.ret Tryz.func178 (resOk.one rfl) (fun w1 hw => ?_)
 cases h
 exact post_of_St hw
theorem m_i_isWord_ok {Φ : Hp} {w : World} (hΦ : In Φ w) (N : Nat) (p0 : ByteArray) (p1 : Int)   {r : Bool} (h : m_i_isWord N p0 p1 = some r) :
  Calls Tryz.prog 132 [.string p0, .int .i64 p1].toArray w (Post (.bool r) w) := by
 refine enter Tryz.func132 rfl Tryz.ntmps132 rfl (St.start0 hΦ) ?_
 generalize hb0 : (⟨w, [], Φ⟩ : Base) = w0
 unfold m_i_isWord at h
 refine sr <| la rfl <| en <| sq <| sr <| la rfl <| lq (q_lenS Str_9 rfl rfl) rfl <| la rfl <| la rfl <| en ?_
 refine cdh rfl h (fun c1 h => ?_) (fun c1 h => ?_)
 ·refine sr <| la rfl <| en ?_
  refine WT.ret Tryz.func132 (resOk.one rfl) (fun w1 hw => ?_)
  subst hb0
  cases h
  exact post_of_St hw
 refine WT.skip <| sq <| sr <| la rfl <| en <| blk ?_
 refine loop_in (σ := Int) (fun s => [(0, .string p0), (5, .int .i64 s)]) (fun s => St w0 Φ [] []) (fun m s => m_i_isWord_l1 N p0 m s = some r) (0) N h ⟨rfl, rfl, trivial⟩ (fun w1 hw => (hw.sel (js := []) rfl).selO (js := []) rfl) (fun s hm => none_ne hm) (fun n1 ih1 s hm => ?_)
 revert hm; revert s; intro s1 hm
 have h : m_i_isWord_l1 N p0 (n1 + 1) s1 = some r := hm
 show WT _ _ [(0, .string p0), (5, .int .i64 s1)] (St w0 Φ [] [])
 unfold m_i_isWord_l1 at h
 refine sq <| sr <| la rfl <| la rfl <| lq (q_lenS Str_9 rfl rfl) rfl <| la rfl <| en ?_
 refine cdh rfl h (fun c2 h => ?_) (fun c2 h => ?_)
 ·refine WT.skip <| sq <| blk <| sr <| la rfl <| la rfl ?_
  obtain ⟨y1, hy1, h⟩ := bs h
  refine lq (q_indexS Str_9 rfl rfl hy1) rfl ?_
  obtain ⟨x1, hx1, h⟩ := bs h
  refine lp (p_call Fun_178 rfl (fun w1 hw => m_i_isWordByte_ok hw.fro N (y1.toNat : Int) hx1)) rfl <| la rfl <| en ?_
  refine cdh rfl h (fun c3 h => ?_) (fun c3 h => ?_)
  ·refine sr <| la rfl <| en ?_
   refine WT.ret Tryz.func132 (resOk.one rfl) (fun w1 hw => ?_)
   subst hb0
   cases h
   exact post_of_St hw
  refine WT.skip <| ib <| rgn <| la rfl <| la rfl <| la rfl <| en ?_
  exact lback (ih1 (IntKind.i64.wrap (s1 + 1)) h) ⟨rfl, rfl, trivial⟩ (fun w1 hw => (hw.sel (js := []) rfl).selO (js := []) rfl)
 refine xt rfl <| sr <| la rfl <| en ?_
 refine WT.ret Tryz.func132 (resOk.one rfl) (fun w1 hw => ?_)
 subst hb0
 cases h
 exact post_of_St hw
theorem m_i_NameOk_ok {Φ : Hp} {w : World} (hΦ : In Φ w) (N : Nat) (p0 : ByteArray)   {r : Bool} (h : m_i_NameOk N p0 = some r) :
  Calls Tryz.prog 80 [.string p0].toArray w (Post (.bool r) w) := by
 refine enter Tryz.func80 rfl Tryz.ntmps80 rfl (St.start0 hΦ) ?_
 unfold m_i_NameOk at h
 refine sr <| la rfl <| en <| sr <| la rfl <| lq (q_lenS Str_9 rfl rfl) rfl <| la rfl <| la rfl ?_
 obtain ⟨b1, hb_1, h⟩ := bs h
 refine WL.cutN 4 [(10, .bool b1), (0, .string p0), (2, .bool false)] ?_ (fun K => ?_)
 rotate_left
 ·refine spl 6 rfl hb_1 (fun c1 hb_1 => ?_) (fun c1 hb_1 => ?_)
  ·refine ly rfl rfl <| la rfl <| ly rfl rfl ?_
   obtain ⟨y1, hy1, hb_1⟩ := bs hb_1
   refine lq (q_indexS Str_9 rfl rfl hy1) rfl <| ly rfl rfl ?_
   obtain ⟨x1, hx1, hb_1⟩ := bs hb_1
   refine lp (p_call Fun_131 rfl (fun w1 hw => m_i_isSmall_ok hw.fro N (y1.toNat : Int) hx1)) rfl <| la rfl ?_
   cases hb_1
   exact kk K ⟨rfl, rfl, rfl, trivial⟩
  ·refine la rfl <| la rfl <| la rfl <| la rfl ?_
   cases hb_1
   exact kk K ⟨rfl, rfl, rfl, trivial⟩
 refine la rfl ?_
 obtain ⟨b2, hb_2, h⟩ := bs h
 refine WL.cutN 3 [(14, .bool b2), (2, .bool false)] ?_ (fun K => ?_)
 rotate_left
 ·refine spl 11 rfl hb_2 (fun c2 hb_2 => ?_) (fun c2 hb_2 => ?_)
  ·refine ly rfl rfl <| la rfl <| ly rfl rfl ?_
   obtain ⟨x2, hx2, hb_2⟩ := bs hb_2
   refine lp (p_call Fun_132 rfl (fun w1 hw => m_i_isWord_ok hw.fro N p0 12 hx2)) rfl <| la rfl ?_
   cases hb_2
   exact kk K ⟨rfl, rfl, trivial⟩
  ·refine la rfl <| la rfl <| la rfl ?_
   cases hb_2
   exact kk K ⟨rfl, rfl, trivial⟩
 refine la rfl <| en ?_
 refine WT.ret Tryz.func80 (resOk.one rfl) (fun w1 hw => ?_)
 cases h
 exact post_of_St hw
theorem m_i_inRange_ok {Φ : Hp} {w : World} (hΦ : In Φ w) (N : Nat) (p0 : Int) (p1 : Int) (p2 : Int)   {r : Bool} (h : m_i_inRange N p0 p1 p2 = some r) :
  Calls Tryz.prog 81 [.int .i64 p0, .int .i64 p1, .int .i64 p2].toArray w (Post (.bool r) w) := by
 refine enter Tryz.func81 rfl Tryz.ntmps81 rfl (St.start0 hΦ) ?_
 unfold m_i_inRange at h
 refine sr <| la rfl <| en <| sr <| la rfl <| la rfl <| la rfl <| la rfl ?_
 obtain ⟨b1, hb_1, h⟩ := bs h
 refine WL.cutN 4 [(14, .bool b1), (6, .bool false)] ?_ (fun K => ?_)
 rotate_left
 ·refine spl 10 rfl hb_1 (fun c1 hb_1 => ?_) (fun c1 hb_1 => ?_)
  ·refine ly rfl rfl <| la rfl <| ly rfl rfl <| la rfl <| ly rfl rfl <| la rfl <| la rfl ?_
   cases hb_1
   exact kk K ⟨rfl, rfl, trivial⟩
  ·refine la rfl <| la rfl <| la rfl <| la rfl ?_
   cases hb_1
   exact kk K ⟨rfl, rfl, trivial⟩
 refine la rfl <| en ?_
 refine WT.ret Tryz.func81 (resOk.one rfl) (fun w1 hw => ?_)
 cases h
 exact post_of_St hw
theorem m_i_PosCount_ok {Φ : Hp} {w : World} (hΦ : In Φ w) (N : Nat) (p0 : TRule) {pv0_0 pv0_1 pv0_2 : Value} {pG0_0 pG0_1 pG0_2 : List Nat} (ph0_0 : RSl RTPat 3 Φ pG0_0 pv0_0 p0.Pats) (ph0_1 : RSl RTCond 11 Φ pG0_1 pv0_1 p0.Conds) (ph0_2 : RSl RTAct 5 Φ pG0_2 pv0_2 p0.Acts) {r : Int} (h : m_i_PosCount N p0 = some r) :
  Calls Tryz.prog 94 [.agg [.string p0.Name, .int .i64 p0.Sal, pv0_0, pv0_1, pv0_2].toArray].toArray w (Post (.int .i64 r) w) := by
 refine enter Tryz.func94 rfl Tryz.ntmps94 rfl (St.start0 hΦ) ?_
 generalize hb0 : (⟨w, [], Φ⟩ : Base) = w0
 unfold m_i_PosCount at h
 refine sr ?_
 refine ln (nb rfl) rfl (fun b_1 => ?_)
 refine la rfl <| en <| sr <| la rfl <| en <| sq <| sr <| lf Fld_40_2 rfl rfl rfl <| lo T1_36 0 rfl <| lq (q_lenR Sl_36 rfl rfl ph0_0) rfl <| la rfl <| en <| blk ?_
 refine loop_in (σ := Int × Int) (fun s => [(3, .int .i64 s.1), (7, pv0_0), (8, .int .i64 (p0.Pats.length : Int)), (9, .int .i64 s.2)]) (fun s => St w0 Φ [] []) (fun m s => m_i_PosCount_l1 N p0 m s.1 s.2 = some r) (0, 0) N h ⟨rfl, rfl, rfl, rfl, trivial⟩ (fun w1 hw => (hw.sel (js := []) rfl).selO (js := []) rfl) (fun s hm => none_ne hm) (fun n1 ih1 s hm => ?_)
 obtain ⟨s1, s2⟩ := s
 have h : m_i_PosCount_l1 N p0 (n1 + 1) s1 s2 = some r := hm
 show WT _ _ [(3, .int .i64 s1), (7, pv0_0), (8, .int .i64 (p0.Pats.length : Int)), (9, .int .i64 s2)] (St w0 Φ [] [])
 unfold m_i_PosCount_l1 at h
 refine sr <| la rfl <| en <| sq ?_
 refine cdh rfl h (fun c1 h => ?_) (fun c1 h => ?_)
 ·refine WT.skip <| sq <| blk <| sr ?_
  obtain ⟨x1, hx1, h⟩ := bs h
  obtain ⟨cs1, F1, -, g1, hb1, hs1, r1⟩ := ph0_0.el (idx_some hx1).2.2
  obtain ⟨v1, G1, rfl, hq1, h1⟩ := r1
  obtain rfl := hq1.symm
  refine lq (q_indexAddr Sl_36 rfl rfl ph0_0 hx1) rfl <| lg3 0 Tn_171 g1 rfl rfl ?_
  refine ln (nz Zr_171) rfl (fun b_2 => ?_)
  refine soN 0 Sz_171 rfl ⟨rfl, h1.one, rfl, trivial⟩ rfl ?_
  refine en <| sr <| lf Fld_171_2 rfl rfl rfl <| lo T1_4 0 rfl <| la rfl <| en ?_
  refine cdh rfl h (fun c2 h => ?_) (fun c2 h => ?_)
  ·refine rgn <| la rfl <| la rfl <| la rfl <| en <| ib <| rgn <| la rfl <| la rfl <| en ?_
   exact lback (ih1 (IntKind.i64.wrap (s1 + 1), IntKind.i64.wrap (s2 + 1)) h) ⟨rfl, rfl, rfl, rfl, trivial⟩ (fun w1 hw => (hw.sel (js := []) rfl).selO (js := []) rfl)
  refine WT.skip <| ib <| rgn <| la rfl <| la rfl <| en ?_
  exact lback (ih1 (s1, IntKind.i64.wrap (s2 + 1)) h) ⟨rfl, rfl, rfl, rfl, trivial⟩ (fun w1 hw => (hw.sel (js := []) rfl).selO (js := []) rfl)
 refine xt rfl <| sr <| la rfl <| la rfl <| en ?_
 refine WT.ret Tryz.func94 (resOk.one rfl) (fun w1 hw => ?_)
 subst hb0
 cases h
 exact post_of_St hw
theorem m_i_ValOk_ok {Φ : Hp} {w : World} (hΦ : In Φ w) (N : Nat) (p0 : TVal)   {r : Bool} (h : m_i_ValOk N p0 = some r) :
  Calls Tryz.prog 135 [.agg [.int .i64 p0.K, .int .i64 p0.N, .string p0.S].toArray].toArray w (Post (.bool r) w) := by
 refine enter Tryz.func135 rfl Tryz.ntmps135 rfl (St.start0 hΦ) ?_
 unfold m_i_ValOk at h
 refine sr ?_
 refine ln (nb rfl) rfl (fun b_1 => ?_)
 refine la rfl <| en <| sq <| sr <| lf Fld_85_0 rfl rfl rfl <| lo T1_3 0 rfl <| en <| blk <| sr <| la rfl <| la rfl <| en ?_
 refine cdh rfl h (fun c1 h => ?_) (fun c1 h => ?_)
 ·refine sr <| lf Fld_85_1 rfl rfl rfl <| lo T1_3 0 rfl ?_
  obtain ⟨x1, hx1, h⟩ := bs h
  refine lp (p_call Fun_81 rfl (fun w1 hw => m_i_inRange_ok hw.fro N p0.N (-1000000000) 1000000000 hx1)) rfl <| la rfl ?_
  obtain ⟨b1, hb_1, h⟩ := bs h
  refine WL.cutN 4 [(14, .bool b1), (2, .bool false)] ?_ (fun K => ?_)
  rotate_left
  ·refine spl 10 rfl hb_1 (fun c2 hb_1 => ?_) (fun c2 hb_1 => ?_)
   ·refine ly rfl rfl <| lf Fld_85_2 rfl rfl rfl <| ly rfl rfl <| lo T1_9 0 rfl <| ly rfl rfl <| la rfl <| la rfl ?_
    cases hb_1
    exact kk K ⟨rfl, rfl, trivial⟩
   ·refine la rfl <| la rfl <| la rfl <| la rfl ?_
    cases hb_1
    exact kk K ⟨rfl, rfl, trivial⟩
  refine la rfl <| en ?_
  refine WT.ret Tryz.func135 (resOk.one rfl) (fun w1 hw => ?_)
  cases h
  exact post_of_St hw
 refine sr <| la rfl <| la rfl <| en ?_
 refine cdh rfl h (fun c3 h => ?_) (fun c3 h => ?_)
 ·refine sr <| lf Fld_85_1 rfl rfl rfl <| lo T1_3 0 rfl <| la rfl <| la rfl ?_
  obtain ⟨b2, hb_2, h⟩ := bs h
  refine WL.cutN 4 [(24, .bool b2), (2, .bool false)] ?_ (fun K => ?_)
  rotate_left
  ·refine spl 20 rfl hb_2 (fun c4 hb_2 => ?_) (fun c4 hb_2 => ?_)
   ·refine ly rfl rfl <| lf Fld_85_2 rfl rfl rfl <| ly rfl rfl <| lo T1_9 0 rfl <| ly rfl rfl ?_
    obtain ⟨x2, hx2, hb_2⟩ := bs hb_2
    refine lp (p_call Fun_132 rfl (fun w1 hw => m_i_isWord_ok hw.fro N p0.S 20 hx2)) rfl <| la rfl ?_
    cases hb_2
    exact kk K ⟨rfl, rfl, trivial⟩
   ·refine la rfl <| la rfl <| la rfl <| la rfl ?_
    cases hb_2
    exact kk K ⟨rfl, rfl, trivial⟩
  refine la rfl <| en ?_
  refine WT.ret Tryz.func135 (resOk.one rfl) (fun w1 hw => ?_)
  cases h
  exact post_of_St hw
 refine WT.skip <| ib <| sr <| la rfl <| en ?_
 refine WT.ret Tryz.func135 (resOk.one rfl) (fun w1 hw => ?_)
 cases h
 exact post_of_St hw
theorem m_i_isLarge_ok {Φ : Hp} {w : World} (hΦ : In Φ w) (N : Nat) (p0 : Int)   {r : Bool} (h : m_i_isLarge N p0 = some r) :
  Calls Tryz.prog 211 [.int .u8 p0].toArray w (Post (.bool r) w) := by
 refine enter Tryz.func211 rfl Tryz.ntmps211 rfl (St.start0 hΦ) ?_
 unfold m_i_isLarge at h
 refine sr <| la rfl <| en <| sr <| la rfl <| la rfl <| la rfl ?_
 obtain ⟨b1, hb_1, h⟩ := bs h
 refine WL.cutN 3 [(8, .bool b1), (2, .bool false)] ?_ (fun K => ?_)
 rotate_left
 ·refine spl 5 rfl hb_1 (fun c1 hb_1 => ?_) (fun c1 hb_1 => ?_)
  ·refine ly rfl rfl <| la rfl <| ly rfl rfl <| la rfl <| la rfl ?_
   cases hb_1
   exact kk K ⟨rfl, rfl, trivial⟩
  ·refine la rfl <| la rfl <| la rfl ?_
   cases hb_1
   exact kk K ⟨rfl, rfl, trivial⟩
 refine la rfl <| en ?_
 refine WT.ret Tryz.func211 (resOk.one rfl) (fun w1 hw => ?_)
 cases h
 exact post_of_St hw
theorem m_i_isVar_ok {Φ : Hp} {w : World} (hΦ : In Φ w) (N : Nat) (p0 : ByteArray)   {r : Bool} (h : m_i_isVar N p0 = some r) :
  Calls Tryz.prog 203 [.string p0].toArray w (Post (.bool r) w) := by
 refine enter Tryz.func203 rfl Tryz.ntmps203 rfl (St.start0 hΦ) ?_
 generalize hb0 : (⟨w, [], Φ⟩ : Base) = w0
 unfold m_i_isVar at h
 refine sr <| la rfl <| en <| sq <| sr <| la rfl <| lq (q_lenS Str_9 rfl rfl) rfl <| la rfl <| la rfl ?_
 obtain ⟨b1, hb_1, h⟩ := bs h
 refine WL.cutN 4 [(11, .bool b1), (0, .string p0)] ?_ (fun K => ?_)
 rotate_left
 ·refine spl 7 rfl hb_1 (fun c1 hb_1 => ?_) (fun c1 hb_1 => ?_)
  ·refine la rfl <| la rfl <| la rfl <| la rfl ?_
   cases hb_1
   exact kk K ⟨rfl, rfl, trivial⟩
  ·refine ly rfl rfl <| la rfl <| ly rfl rfl <| lq (q_lenS Str_9 rfl rfl) rfl <| ly rfl rfl <| la rfl <| la rfl ?_
   cases hb_1
   exact kk K ⟨rfl, rfl, trivial⟩
 refine la rfl ?_
 obtain ⟨b2, hb_2, h⟩ := bs h
 refine WL.cutN 5 [(17, .bool b2), (0, .string p0)] ?_ (fun K => ?_)
 rotate_left
 ·refine spl 12 rfl hb_2 (fun c2 hb_2 => ?_) (fun c2 hb_2 => ?_)
  ·refine la rfl <| la rfl <| la rfl <| la rfl <| la rfl ?_
   cases hb_2
   exact kk K ⟨rfl, rfl, trivial⟩
  ·refine ly rfl rfl <| la rfl <| ly rfl rfl ?_
   obtain ⟨y1, hy1, hb_2⟩ := bs hb_2
   refine lq (q_indexS Str_9 rfl rfl hy1) rfl <| ly rfl rfl ?_
   obtain ⟨x1, hx1, hb_2⟩ := bs hb_2
   refine lp (p_call Fun_211 rfl (fun w1 hw => m_i_isLarge_ok hw.fro N (y1.toNat : Int) hx1)) rfl <| ly rfl rfl <| la rfl <| la rfl ?_
   cases hb_2
   exact kk K ⟨rfl, rfl, trivial⟩
 refine en ?_
 refine cdh rfl h (fun c3 h => ?_) (fun c3 h => ?_)
 ·refine sr <| la rfl <| en ?_
  refine WT.ret Tryz.func203 (resOk.one rfl) (fun w1 hw => ?_)
  subst hb0
  cases h
  exact post_of_St hw
 refine WT.skip <| sq <| sr <| la rfl <| en <| blk ?_
 refine loop_in (σ := Int) (fun s => [(0, .string p0), (3, .int .i64 s)]) (fun s => St w0 Φ [] []) (fun m s => m_i_isVar_l1 N p0 m s = some r) (0) N h ⟨rfl, rfl, trivial⟩ (fun w1 hw => (hw.sel (js := []) rfl).selO (js := []) rfl) (fun s hm => none_ne hm) (fun n1 ih1 s hm => ?_)
 revert hm; revert s; intro s1 hm
 have h : m_i_isVar_l1 N p0 (n1 + 1) s1 = some r := hm
 show WT _ _ [(0, .string p0), (3, .int .i64 s1)] (St w0 Φ [] [])
 unfold m_i_isVar_l1 at h
 refine sq <| sr <| la rfl <| la rfl <| lq (q_lenS Str_9 rfl rfl) rfl <| la rfl <| en ?_
 refine cdh rfl h (fun c4 h => ?_) (fun c4 h => ?_)
 ·refine WT.skip <| sq <| blk <| sr <| la rfl <| la rfl ?_
  obtain ⟨y2, hy2, h⟩ := bs h
  refine lq (q_indexS Str_9 rfl rfl hy2) rfl ?_
  obtain ⟨x2, hx2, h⟩ := bs h
  refine lp (p_call Fun_178 rfl (fun w1 hw => m_i_isWordByte_ok hw.fro N (y2.toNat : Int) hx2)) rfl <| la rfl <| la rfl ?_
  obtain ⟨b3, hb_3, h⟩ := bs h
  refine WL.cutN 6 [(35, .bool b3), (0, .string p0), (3, .int .i64 s1)] ?_ (fun K => ?_)
  rotate_left
  ·refine spl 29 rfl hb_3 (fun c5 hb_3 => ?_) (fun c5 hb_3 => ?_)
   ·refine ly rfl rfl <| la rfl <| ly rfl rfl <| la rfl <| ly rfl rfl ?_
    obtain ⟨y3, hy3, hb_3⟩ := bs hb_3
    refine lq (q_indexS Str_9 rfl rfl hy3) rfl <| ly rfl rfl ?_
    obtain ⟨x3, hx3, hb_3⟩ := bs hb_3
    refine lp (p_call Fun_211 rfl (fun w1 hw => m_i_isLarge_ok hw.fro N (y3.toNat : Int) hx3)) rfl <| ly rfl rfl <| la rfl <| la rfl ?_
    cases hb_3
    exact kk K ⟨rfl, rfl, rfl, trivial⟩
   ·refine la rfl <| la rfl <| la rfl <| la rfl <| la rfl <| la rfl ?_
    cases hb_3
    exact kk K ⟨rfl, rfl, rfl, trivial⟩
  refine en ?_
  refine cdh rfl h (fun c6 h => ?_) (fun c6 h => ?_)
  ·refine sr <| la rfl <| en ?_
   refine WT.ret Tryz.func203 (resOk.one rfl) (fun w1 hw => ?_)
   subst hb0
   cases h
   exact post_of_St hw
  refine WT.skip <| ib <| rgn <| la rfl <| la rfl <| la rfl <| en ?_
  exact lback (ih1 (IntKind.i64.wrap (s1 + 1)) h) ⟨rfl, rfl, trivial⟩ (fun w1 hw => (hw.sel (js := []) rfl).selO (js := []) rfl)
 refine xt rfl <| sr <| la rfl <| en ?_
 refine WT.ret Tryz.func203 (resOk.one rfl) (fun w1 hw => ?_)
 subst hb0
 cases h
 exact post_of_St hw
theorem m_i_ArgOk_ok {Φ : Hp} {w : World} (hΦ : In Φ w) (N : Nat) (p0 : TArg)   {r : Bool} (h : m_i_ArgOk N p0 = some r) :
  Calls Tryz.prog 181 [.agg [.int .i64 p0.K, .string p0.S, .int .i64 p0.V.K, .int .i64 p0.V.N, .string p0.V.S].toArray].toArray w (Post (.bool r) w) := by
 refine enter Tryz.func181 rfl Tryz.ntmps181 rfl (St.start0 hΦ) ?_
 unfold m_i_ArgOk at h
 refine sr ?_
 refine ln (nb rfl) rfl (fun b_1 => ?_)
 refine la rfl <| en <| sq <| sr <| lf Fld_137_0 rfl rfl rfl <| lo T1_3 0 rfl <| en <| blk <| sr <| la rfl <| la rfl <| en ?_
 refine cdh rfl h (fun c1 h => ?_) (fun c1 h => ?_)
 ·refine sr <| lf Fld_137_1 rfl rfl rfl <| lo T1_9 0 rfl ?_
  obtain ⟨x1, hx1, h⟩ := bs h
  refine lp (p_call Fun_203 rfl (fun w1 hw => m_i_isVar_ok hw.fro N p0.S hx1)) rfl <| la rfl ?_
  obtain ⟨b1, hb_1, h⟩ := bs h
  refine WL.cutN 5 [(15, .bool b1), (2, .bool false)] ?_ (fun K => ?_)
  rotate_left
  ·refine spl 10 rfl hb_1 (fun c2 hb_1 => ?_) (fun c2 hb_1 => ?_)
   ·refine ly rfl rfl <| lf Fld_137_2 rfl rfl rfl <| ly rfl rfl <| ld3 Tn_85 0 rfl <| ly rfl rfl <| lq (q_build (vs := []) (C := #[.int .i64 0, .int .i64 0, .string (⟨#[]⟩ : ByteArray)]) Pl_85 Zr_85 rfl (fill_nil)) rfl <| ly rfl rfl <| lq (q_eqA EqT_85 rfl rfl rfl (r := eqT_TVal p0.V (⟨0, 0, (⟨#[]⟩ : ByteArray)⟩ : TVal)) rfl) rfl <| la rfl ?_
    cases hb_1
    exact kk K ⟨rfl, rfl, trivial⟩
   ·refine la rfl <| la rfl <| la rfl <| la rfl <| la rfl ?_
    cases hb_1
    exact kk K ⟨rfl, rfl, trivial⟩
  refine la rfl <| en ?_
  refine WT.ret Tryz.func181 (resOk.one rfl) (fun w1 hw => ?_)
  cases h
  exact post_of_St hw
 refine sr <| la rfl <| la rfl <| en ?_
 refine cdh rfl h (fun c3 h => ?_) (fun c3 h => ?_)
 ·refine sr <| lf Fld_137_1 rfl rfl rfl <| lo T1_9 0 rfl <| la rfl <| la rfl ?_
  obtain ⟨b2, hb_2, h⟩ := bs h
  refine WL.cutN 4 [(25, .bool b2), (2, .bool false)] ?_ (fun K => ?_)
  rotate_left
  ·refine spl 21 rfl hb_2 (fun c4 hb_2 => ?_) (fun c4 hb_2 => ?_)
   ·refine ly rfl rfl <| lf Fld_137_2 rfl rfl rfl <| ly rfl rfl <| ld3 Tn_85 0 rfl <| ly rfl rfl ?_
    obtain ⟨x2, hx2, hb_2⟩ := bs hb_2
    refine lp (p_call Fun_135 rfl (fun w1 hw => m_i_ValOk_ok hw.fro N p0.V hx2)) rfl <| la rfl ?_
    cases hb_2
    exact kk K ⟨rfl, rfl, trivial⟩
   ·refine la rfl <| la rfl <| la rfl <| la rfl ?_
    cases hb_2
    exact kk K ⟨rfl, rfl, trivial⟩
  refine la rfl <| en ?_
  refine WT.ret Tryz.func181 (resOk.one rfl) (fun w1 hw => ?_)
  cases h
  exact post_of_St hw
 refine sr <| la rfl <| la rfl <| en ?_
 refine cdh rfl h (fun c5 h => ?_) (fun c5 h => ?_)
 ·refine sr <| lf Fld_137_1 rfl rfl rfl <| lo T1_9 0 rfl <| la rfl <| la rfl ?_
  obtain ⟨b3, hb_3, h⟩ := bs h
  refine WL.cutN 5 [(36, .bool b3), (2, .bool false)] ?_ (fun K => ?_)
  rotate_left
  ·refine spl 31 rfl hb_3 (fun c6 hb_3 => ?_) (fun c6 hb_3 => ?_)
   ·refine ly rfl rfl <| lf Fld_137_2 rfl rfl rfl <| ly rfl rfl <| ld3 Tn_85 0 rfl <| ly rfl rfl <| lq (q_build (vs := []) (C := #[.int .i64 0, .int .i64 0, .string (⟨#[]⟩ : ByteArray)]) Pl_85 Zr_85 rfl (fill_nil)) rfl <| ly rfl rfl <| lq (q_eqA EqT_85 rfl rfl rfl (r := eqT_TVal p0.V (⟨0, 0, (⟨#[]⟩ : ByteArray)⟩ : TVal)) rfl) rfl <| la rfl ?_
    cases hb_3
    exact kk K ⟨rfl, rfl, trivial⟩
   ·refine la rfl <| la rfl <| la rfl <| la rfl <| la rfl ?_
    cases hb_3
    exact kk K ⟨rfl, rfl, trivial⟩
  refine la rfl <| en ?_
  refine WT.ret Tryz.func181 (resOk.one rfl) (fun w1 hw => ?_)
  cases h
  exact post_of_St hw
 refine WT.skip <| ib <| sr <| la rfl <| en ?_
 refine WT.ret Tryz.func181 (resOk.one rfl) (fun w1 hw => ?_)
 cases h
 exact post_of_St hw
theorem m_i_PatOk_ok {Φ : Hp} {w : World} (hΦ : In Φ w) (N : Nat) (p0 : TPat) {pv0_0 : Value} {pG0_0 : List Nat} (ph0_0 : RSl RTArg 5 Φ pG0_0 pv0_0 p0.Args) {r : Bool} (h : m_i_PatOk N p0 = some r) :
  Calls Tryz.prog 143 [.agg [.string p0.Kind, pv0_0, .bool p0.Not].toArray].toArray w (Post (.bool r) w) := by
 refine enter Tryz.func143 rfl Tryz.ntmps143 rfl (St.start0 hΦ) ?_
 generalize hb0 : (⟨w, [], Φ⟩ : Base) = w0
 unfold m_i_PatOk at h
 refine sr ?_
 refine ln (nb rfl) rfl (fun b_1 => ?_)
 refine la rfl <| en <| sq <| sr <| lf Fld_171_0 rfl rfl rfl <| lo T1_9 0 rfl ?_
 obtain ⟨x1, hx1, h⟩ := bs h
 refine lp (p_call Fun_80 rfl (fun w1 hw => m_i_NameOk_ok hw.fro N p0.Kind hx1)) rfl <| la rfl <| la rfl ?_
 obtain ⟨b1, hb_1, h⟩ := bs h
 refine WL.cutN 5 [(14, .bool b1), (1, .pointer (some ⟨b_1, 0, none⟩))] ?_ (fun K => ?_)
 rotate_left
 ·refine spl 9 rfl hb_1 (fun c1 hb_1 => ?_) (fun c1 hb_1 => ?_)
  ·refine la rfl <| la rfl <| la rfl <| la rfl <| la rfl ?_
   cases hb_1
   exact kk K ⟨rfl, rfl, trivial⟩
  ·refine ly rfl rfl <| lf Fld_171_1 rfl rfl rfl <| ly rfl rfl <| lo T1_169 0 rfl <| ly rfl rfl <| lq (q_lenR Sl_169 rfl rfl ph0_0) rfl <| ly rfl rfl <| la rfl <| la rfl ?_
   cases hb_1
   exact kk K ⟨rfl, rfl, trivial⟩
 refine en ?_
 refine cdh rfl h (fun c2 h => ?_) (fun c2 h => ?_)
 ·refine sr <| la rfl <| en ?_
  refine WT.ret Tryz.func143 (resOk.one rfl) (fun w1 hw => ?_)
  subst hb0
  cases h
  exact post_of_St hw
 refine WT.skip <| sq <| sr <| lf Fld_171_1 rfl rfl rfl <| lo T1_169 0 rfl <| lq (q_lenR Sl_169 rfl rfl ph0_0) rfl <| la rfl <| en <| blk ?_
 refine loop_in (σ := Int) (fun s => [(16, pv0_0), (17, .int .i64 (p0.Args.length : Int)), (18, .int .i64 s)]) (fun s => St w0 Φ [] []) (fun m s => m_i_PatOk_l1 N p0 m s = some r) (0) N h ⟨rfl, rfl, rfl, trivial⟩ (fun w1 hw => (hw.sel (js := []) rfl).selO (js := []) rfl) (fun s hm => none_ne hm) (fun n1 ih1 s hm => ?_)
 revert hm; revert s; intro s1 hm
 have h : m_i_PatOk_l1 N p0 (n1 + 1) s1 = some r := hm
 show WT _ _ [(16, pv0_0), (17, .int .i64 (p0.Args.length : Int)), (18, .int .i64 s1)] (St w0 Φ [] [])
 unfold m_i_PatOk_l1 at h
 refine sr <| la rfl <| en <| sq ?_
 refine cdh rfl h (fun c3 h => ?_) (fun c3 h => ?_)
 ·refine WT.skip <| sq <| blk <| sr ?_
  obtain ⟨x2, hx2, h⟩ := bs h
  obtain ⟨cs1, F1, -, g1, hb1, hs1, r1⟩ := ph0_0.el (idx_some hx2).2.2
  obtain ⟨rfl, -⟩ := r1
  refine lq (q_indexAddr Sl_169 rfl rfl ph0_0 hx2) rfl <| lg5 0 Tn_137 g1 rfl rfl ?_
  refine ln (nz Zr_137) rfl (fun b_2 => ?_)
  refine soN 0 Sz_137 rfl ⟨rfl, rfl, rfl, rfl, rfl, trivial⟩ rfl ?_
  refine en <| sr <| ld5 Tn_137 0 rfl ?_
  obtain ⟨x3, hx3, h⟩ := bs h
  refine lp (p_call Fun_181 rfl (fun w1 hw => m_i_ArgOk_ok hw.fro N x2 hx3)) rfl <| la rfl <| en ?_
  refine cdh rfl h (fun c4 h => ?_) (fun c4 h => ?_)
  ·refine sr <| la rfl <| en ?_
   refine WT.ret Tryz.func143 (resOk.one rfl) (fun w1 hw => ?_)
   subst hb0
   cases h
   exact post_of_St hw
  refine WT.skip <| ib <| rgn <| la rfl <| la rfl <| en ?_
  exact lback (ih1 (IntKind.i64.wrap (s1 + 1)) h) ⟨rfl, rfl, rfl, trivial⟩ (fun w1 hw => (hw.sel (js := []) rfl).selO (js := []) rfl)
 refine xt rfl <| sr <| la rfl <| en ?_
 refine WT.ret Tryz.func143 (resOk.one rfl) (fun w1 hw => ?_)
 subst hb0
 cases h
 exact post_of_St hw
theorem m_i_patsOk_ok {Φ : Hp} {w : World} (hΦ : In Φ w) (N : Nat) (p0 : TRule) {pv0_0 pv0_1 pv0_2 : Value} {pG0_0 pG0_1 pG0_2 : List Nat} (ph0_0 : RSl RTPat 3 Φ pG0_0 pv0_0 p0.Pats) (ph0_1 : RSl RTCond 11 Φ pG0_1 pv0_1 p0.Conds) (ph0_2 : RSl RTAct 5 Φ pG0_2 pv0_2 p0.Acts) {r : Bool} (h : m_i_patsOk N p0 = some r) :
  Calls Tryz.prog 91 [.agg [.string p0.Name, .int .i64 p0.Sal, pv0_0, pv0_1, pv0_2].toArray].toArray w (Post (.bool r) w) := by
 refine enter Tryz.func91 rfl Tryz.ntmps91 rfl (St.start0 hΦ) ?_
 generalize hb0 : (⟨w, [], Φ⟩ : Base) = w0
 unfold m_i_patsOk at h
 refine sr ?_
 refine ln (nb rfl) rfl (fun b_1 => ?_)
 refine la rfl <| en <| sq <| sr <| lf Fld_40_2 rfl rfl rfl <| lo T1_36 0 rfl <| lq (q_lenR Sl_36 rfl rfl ph0_0) rfl ?_
 obtain ⟨x1, hx1, h⟩ := bs h
 refine lp (p_call Fun_81 rfl (fun w1 hw => m_i_inRange_ok hw.fro N (p0.Pats.length : Int) 1 6 hx1)) rfl <| la rfl <| la rfl ?_
 obtain ⟨b1, hb_1, h⟩ := bs h
 refine WL.cutN 5 [(15, .bool b1), (1, .pointer (some ⟨b_1, 0, none⟩))] ?_ (fun K => ?_)
 rotate_left
 ·refine spl 10 rfl hb_1 (fun c1 hb_1 => ?_) (fun c1 hb_1 => ?_)
  ·refine la rfl <| la rfl <| la rfl <| la rfl <| la rfl ?_
   cases hb_1
   exact kk K ⟨rfl, rfl, trivial⟩
  ·refine ly rfl rfl <| ld5 Tn_40 0 rfl <| ly rfl rfl ?_
   obtain ⟨x2, hx2, hb_1⟩ := bs hb_1
   refine lp (p_call Fun_94 rfl (fun w1 hw => m_i_PosCount_ok hw.fro N p0 ph0_0 ph0_1 ph0_2 hx2)) rfl <| ly rfl rfl ?_
   obtain ⟨x3, hx3, hb_1⟩ := bs hb_1
   refine lp (p_call Fun_81 rfl (fun w1 hw => m_i_inRange_ok hw.fro N x2 1 3 hx3)) rfl <| ly rfl rfl <| la rfl <| la rfl ?_
   cases hb_1
   exact kk K ⟨rfl, rfl, trivial⟩
 refine en ?_
 refine cdh rfl h (fun c2 h => ?_) (fun c2 h => ?_)
 ·refine sr <| la rfl <| en ?_
  refine WT.ret Tryz.func91 (resOk.one rfl) (fun w1 hw => ?_)
  subst hb0
  cases h
  exact post_of_St hw
 refine WT.skip <| sq <| sr <| lf Fld_40_2 rfl rfl rfl <| lo T1_36 0 rfl <| lq (q_lenR Sl_36 rfl rfl ph0_0) rfl <| la rfl <| en <| blk ?_
 refine loop_in (σ := Int) (fun s => [(1, .pointer (some ⟨b_1, 0, none⟩)), (17, pv0_0), (18, .int .i64 (p0.Pats.length : Int)), (19, .int .i64 s)]) (fun s => St w0 Φ [(b_1, .cells #[.string p0.Name, .int .i64 p0.Sal, pv0_0, pv0_1, pv0_2] 40 (0, 0))] []) (fun m s => m_i_patsOk_l1 N p0 m s = some r) (0) N h ⟨rfl, rfl, rfl, rfl, trivial⟩ (fun w1 hw => (hw.sel (js := []) rfl).selO (js := [0]) rfl) (fun s hm => none_ne hm) (fun n1 ih1 s hm => ?_)
 revert hm; revert s; intro s1 hm
 have h : m_i_patsOk_l1 N p0 (n1 + 1) s1 = some r := hm
 show WT _ _ [(1, .pointer (some ⟨b_1, 0, none⟩)), (17, pv0_0), (18, .int .i64 (p0.Pats.length : Int)), (19, .int .i64 s1)] (St w0 Φ [(b_1, .cells #[.string p0.Name, .int .i64 p0.Sal, pv0_0, pv0_1, pv0_2] 40 (0, 0))] [])
 unfold m_i_patsOk_l1 at h
 refine sr <| la rfl <| en <| sq ?_
 refine cdh rfl h (fun c3 h => ?_) (fun c3 h => ?_)
 ·refine WT.skip <| sq <| blk <| sr <| la rfl ?_
  obtain ⟨x4, hx4, h⟩ := bs h
  obtain ⟨cs1, F1, -, g1, hb1, hs1, r1⟩ := ph0_0.el (idx_some hx4).2.2
  obtain ⟨v1, G1, rfl, hq1, h1⟩ := r1
  obtain rfl := hq1.symm
  refine lq (q_indexAddr Sl_36 rfl rfl ph0_0 hx4) rfl <| lg3 0 Tn_171 g1 rfl rfl ?_
  refine ln (nz Zr_171) rfl (fun b_2 => ?_)
  refine la rfl <| soN 0 Sz_171 rfl ⟨rfl, h1.one, rfl, trivial⟩ rfl ?_
  refine en <| sq <| WT.draw mixed (by kernel_rfl) (fun _ h => h.drew) <| qq (q_loadN Tn_171 rfl (fun w1 hw => hw.rgO (i := 0) rfl 0 3 [.string x4.Kind, v1, .bool x4.Not] rfl) rfl) rfl ?_
  obtain ⟨x5, hx5, h⟩ := bs h
  refine qp (p_call Fun_143 rfl (fun w1 hw => m_i_PatOk_ok hw.fro N x4 h1 hx5)) rfl <| qq (q_not rfl) rfl <| qq (q_move rfl) rfl ?_
  obtain ⟨b2, hb_2, h⟩ := bs h
  refine WQ.cutN 8 [(35, .bool b2), (1, .pointer (some ⟨b_1, 0, none⟩)), (17, pv0_0), (18, .int .i64 (p0.Pats.length : Int)), (19, .int .i64 s1)] ?_ (fun K => ?_)
  rotate_left
  ·refine WQ.split (d := 27) rfl (fun c4 => ?_) (fun c4 => ?_)
   ·replace hb_2 := ite_t hb_2 c4
    refine WQ.no rfl rfl rfl rfl <| WQ.no rfl rfl rfl rfl <| WQ.no rfl rfl rfl rfl <| WQ.no rfl rfl rfl rfl <| WQ.no rfl rfl rfl rfl <| WQ.no rfl rfl rfl rfl <| WQ.no rfl rfl rfl rfl <| WQ.q (q_pick1 rfl rfl) rfl rfl rfl ?_
    cases hb_2
    exact WQ.keep (by exact ⟨rfl, rfl, rfl, rfl, rfl, trivial⟩) K
   ·replace hb_2 := ite_f hb_2 c4
    refine WQ.yes rfl rfl <| qq (q_fieldAddr Fld_171_2 rfl) rfl <| WQ.yes rfl rfl <| qq (q_load1 T1_4 rfl (fun w1 hw => hw.rgO (i := 0) rfl 2 1 [.bool x4.Not] rfl)) rfl <| WQ.yes rfl rfl <| qq (q_move rfl) rfl <| WQ.yes rfl rfl <| qq (q_loadN Tn_40 rfl (fun w1 hw => hw.rgO (i := 1) rfl 0 5 [.string p0.Name, .int .i64 p0.Sal, pv0_0, pv0_1, pv0_2] rfl) rfl) rfl <| WQ.yes rfl rfl ?_
    obtain ⟨x6, hx6, hb_2⟩ := bs hb_2
    refine qp (p_call Fun_94 rfl (fun w1 hw => m_i_PosCount_ok hw.fro N p0 ph0_0 ph0_1 ph0_2 hx6)) rfl <| WQ.yes rfl rfl <| qq (q_geq rfl rfl) rfl <| WQ.yes rfl rfl <| qq (q_bne Bo_4 rfl rfl) rfl <| WQ.q (q_pick0 rfl rfl) rfl rfl rfl ?_
    cases hb_2
    exact WQ.keep (by exact ⟨rfl, rfl, rfl, rfl, rfl, trivial⟩) K
  refine WQ.nil ?_
  refine cdh rfl h (fun c5 h => ?_) (fun c5 h => ?_)
  ·refine sr <| la rfl <| en ?_
   refine WT.ret Tryz.func91 (resOk.one rfl) (fun w1 hw => ?_)
   subst hb0
   cases h
   exact post_of_St hw
  refine WT.skip <| ib <| rgn <| la rfl <| la rfl <| en ?_
  exact lback (ih1 (IntKind.i64.wrap (s1 + 1)) h) ⟨rfl, rfl, rfl, rfl, trivial⟩ (fun w1 hw => (hw.sel (js := []) rfl).selO (js := [1]) rfl)
 refine xt rfl <| sr <| la rfl <| en ?_
 refine WT.ret Tryz.func91 (resOk.one rfl) (fun w1 hw => ?_)
 subst hb0
 cases h
 exact post_of_St hw
theorem m_i_isTerm_ok {Φ : Hp} {w : World} (hΦ : In Φ w) (N : Nat) (p0 : TArg)   {r : Bool} (h : m_i_isTerm N p0 = some r) :
  Calls Tryz.prog 144 [.agg [.int .i64 p0.K, .string p0.S, .int .i64 p0.V.K, .int .i64 p0.V.N, .string p0.V.S].toArray].toArray w (Post (.bool r) w) := by
 refine enter Tryz.func144 rfl Tryz.ntmps144 rfl (St.start0 hΦ) ?_
 unfold m_i_isTerm at h
 refine sr ?_
 refine ln (nb rfl) rfl (fun b_1 => ?_)
 refine la rfl <| en <| sr <| lf Fld_137_0 rfl rfl rfl <| lo T1_3 0 rfl <| la rfl <| la rfl ?_
 obtain ⟨b1, hb_1, h⟩ := bs h
 refine WL.cutN 3 [(9, .bool b1), (2, .bool false)] ?_ (fun K => ?_)
 rotate_left
 ·refine spl 6 rfl hb_1 (fun c1 hb_1 => ?_) (fun c1 hb_1 => ?_)
  ·refine ly rfl rfl <| ld5 Tn_137 0 rfl <| ly rfl rfl ?_
   obtain ⟨x1, hx1, hb_1⟩ := bs hb_1
   refine lp (p_call Fun_181 rfl (fun w1 hw => m_i_ArgOk_ok hw.fro N p0 hx1)) rfl <| la rfl ?_
   cases hb_1
   exact kk K ⟨rfl, rfl, trivial⟩
  ·refine la rfl <| la rfl <| la rfl ?_
   cases hb_1
   exact kk K ⟨rfl, rfl, trivial⟩
 refine la rfl <| en ?_
 refine WT.ret Tryz.func144 (resOk.one rfl) (fun w1 hw => ?_)
 cases h
 exact post_of_St hw
theorem m_i_CondOk_ok {Φ : Hp} {w : World} (hΦ : In Φ w) (N : Nat) (p0 : TCond)   {r : Bool} (h : m_i_CondOk N p0 = some r) :
  Calls Tryz.prog 92 [.agg [.int .i64 p0.Op, .int .i64 p0.L.K, .string p0.L.S, .int .i64 p0.L.V.K, .int .i64 p0.L.V.N, .string p0.L.V.S, .int .i64 p0.R.K, .string p0.R.S, .int .i64 p0.R.V.K, .int .i64 p0.R.V.N, .string p0.R.V.S].toArray].toArray w (Post (.bool r) w) := by
 refine enter Tryz.func92 rfl Tryz.ntmps92 rfl (St.start0 hΦ) ?_
 unfold m_i_CondOk at h
 refine sr ?_
 refine ln (nb rfl) rfl (fun b_1 => ?_)
 refine la rfl <| en <| sr <| lf Fld_139_0 rfl rfl rfl <| lo T1_3 0 rfl ?_
 obtain ⟨x1, hx1, h⟩ := bs h
 refine lp (p_call Fun_81 rfl (fun w1 hw => m_i_inRange_ok hw.fro N p0.Op 1 3 hx1)) rfl <| la rfl ?_
 obtain ⟨b1, hb_1, h⟩ := bs h
 refine WL.cutN 4 [(10, .bool b1), (1, .pointer (some ⟨b_1, 0, none⟩)), (2, .bool false)] ?_ (fun K => ?_)
 rotate_left
 ·refine spl 6 rfl hb_1 (fun c1 hb_1 => ?_) (fun c1 hb_1 => ?_)
  ·refine ly rfl rfl <| lf Fld_139_1 rfl rfl rfl <| ly rfl rfl <| ld5 Tn_137 0 rfl <| ly rfl rfl ?_
   obtain ⟨x2, hx2, hb_1⟩ := bs hb_1
   refine lp (p_call Fun_144 rfl (fun w1 hw => m_i_isTerm_ok hw.fro N p0.L hx2)) rfl <| la rfl ?_
   cases hb_1
   exact kk K ⟨rfl, rfl, rfl, trivial⟩
  ·refine la rfl <| la rfl <| la rfl <| la rfl ?_
   cases hb_1
   exact kk K ⟨rfl, rfl, rfl, trivial⟩
 refine la rfl ?_
 obtain ⟨b2, hb_2, h⟩ := bs h
 refine WL.cutN 4 [(15, .bool b2), (2, .bool false)] ?_ (fun K => ?_)
 rotate_left
 ·refine spl 11 rfl hb_2 (fun c2 hb_2 => ?_) (fun c2 hb_2 => ?_)
  ·refine ly rfl rfl <| lf Fld_139_2 rfl rfl rfl <| ly rfl rfl <| ld5 Tn_137 0 rfl <| ly rfl rfl ?_
   obtain ⟨x3, hx3, hb_2⟩ := bs hb_2
   refine lp (p_call Fun_144 rfl (fun w1 hw => m_i_isTerm_ok hw.fro N p0.R hx3)) rfl <| la rfl ?_
   cases hb_2
   exact kk K ⟨rfl, rfl, trivial⟩
  ·refine la rfl <| la rfl <| la rfl <| la rfl ?_
   cases hb_2
   exact kk K ⟨rfl, rfl, trivial⟩
 refine la rfl <| en ?_
 refine WT.ret Tryz.func92 (resOk.one rfl) (fun w1 hw => ?_)
 cases h
 exact post_of_St hw
theorem m_i_ExprOk_ok {Φ : Hp} {w : World} (hΦ : In Φ w) (N : Nat) (p0 : TExpr)   {r : Bool} (h : m_i_ExprOk N p0 = some r) :
  Calls Tryz.prog 182 [.agg [.string p0.Op, .int .i64 p0.L.K, .string p0.L.S, .int .i64 p0.L.V.K, .int .i64 p0.L.V.N, .string p0.L.V.S, .int .i64 p0.R.K, .string p0.R.S, .int .i64 p0.R.V.K, .int .i64 p0.R.V.N, .string p0.R.V.S].toArray].toArray w (Post (.bool r) w) := by
 refine enter Tryz.func182 rfl Tryz.ntmps182 rfl (St.start0 hΦ) ?_
 generalize hb0 : (⟨w, [], Φ⟩ : Base) = w0
 unfold m_i_ExprOk at h
 refine sr ?_
 refine ln (nb rfl) rfl (fun b_1 => ?_)
 refine la rfl <| en <| sq <| sr <| lf Fld_191_0 rfl rfl rfl <| lo T1_9 0 rfl <| en <| blk <| sr <| la rfl <| la rfl <| en ?_
 refine cdh rfl h (fun c1 h => ?_) (fun c1 h => ?_)
 ·refine sr <| lf Fld_191_1 rfl rfl rfl <| ld5 Tn_137 0 rfl ?_
  obtain ⟨x1, hx1, h⟩ := bs h
  refine lp (p_call Fun_144 rfl (fun w1 hw => m_i_isTerm_ok hw.fro N p0.L hx1)) rfl <| la rfl ?_
  obtain ⟨b1, hb_1, h⟩ := bs h
  refine WL.cutN 5 [(15, .bool b1), (2, .bool false)] ?_ (fun K => ?_)
  rotate_left
  ·refine spl 10 rfl hb_1 (fun c2 hb_1 => ?_) (fun c2 hb_1 => ?_)
   ·refine ly rfl rfl <| lf Fld_191_2 rfl rfl rfl <| ly rfl rfl <| ld5 Tn_137 0 rfl <| ly rfl rfl <| lq (q_build (vs := []) (C := #[.int .i64 0, .string (⟨#[]⟩ : ByteArray), .int .i64 0, .int .i64 0, .string (⟨#[]⟩ : ByteArray)]) Pl_137 Zr_137 rfl (fill_nil)) rfl <| ly rfl rfl <| lq (q_eqA EqT_137 rfl rfl rfl (r := eqT_TArg p0.R (⟨0, (⟨#[]⟩ : ByteArray), (⟨0, 0, (⟨#[]⟩ : ByteArray)⟩ : TVal)⟩ : TArg)) rfl) rfl <| la rfl ?_
    cases hb_1
    exact kk K ⟨rfl, rfl, trivial⟩
   ·refine la rfl <| la rfl <| la rfl <| la rfl <| la rfl ?_
    cases hb_1
    exact kk K ⟨rfl, rfl, trivial⟩
  refine la rfl <| en ?_
  refine WT.ret Tryz.func182 (resOk.one rfl) (fun w1 hw => ?_)
  subst hb0
  cases h
  exact post_of_St hw
 refine sq <| sr <| la rfl <| la rfl <| en ?_
 refine cut (σ := Bool) (fun s => [(1, .pointer (some ⟨b_1, 0, none⟩)), (16, .bool s)]) (fun s => St w0 Φ [(b_1, .cells #[.string p0.Op, .int .i64 p0.L.K, .string p0.L.S, .int .i64 p0.L.V.K, .int .i64 p0.L.V.N, .string p0.L.V.S, .int .i64 p0.R.K, .string p0.R.S, .int .i64 p0.R.V.K, .int .i64 p0.R.V.N, .string p0.R.V.S] 191 (0, 0))] []) (fun s => m_i_ExprOk_j1 N p0 s = some r) (fun s hm => ?_) (fun K => ?_)
 ·clear h
  revert hm; revert s; intro s1 hm
  have h : m_i_ExprOk_j1 N p0 s1 = some r := hm
  show WT _ _ [(1, .pointer (some ⟨b_1, 0, none⟩)), (16, .bool s1)] (St w0 Φ [(b_1, .cells #[.string p0.Op, .int .i64 p0.L.K, .string p0.L.S, .int .i64 p0.L.V.K, .int .i64 p0.L.V.N, .string p0.L.V.S, .int .i64 p0.R.K, .string p0.R.S, .int .i64 p0.R.V.K, .int .i64 p0.R.V.N, .string p0.R.V.S] 191 (0, 0))] [])
  unfold m_i_ExprOk_j1 at h
  refine cdh rfl h (fun c3 h => ?_) (fun c3 h => ?_)
  ·refine sr <| lf Fld_191_1 rfl rfl rfl <| ld5 Tn_137 0 rfl ?_
   obtain ⟨x2, hx2, h⟩ := bs h
   refine lp (p_call Fun_144 rfl (fun w1 hw => m_i_isTerm_ok hw.fro N p0.L hx2)) rfl <| la rfl ?_
   obtain ⟨b2, hb_2, h⟩ := bs h
   refine WL.cutN 4 [(26, .bool b2)] ?_ (fun K => ?_)
   rotate_left
   ·refine spl 22 rfl hb_2 (fun c4 hb_2 => ?_) (fun c4 hb_2 => ?_)
    ·refine ly rfl rfl <| lf Fld_191_2 rfl rfl rfl <| ly rfl rfl <| ld5 Tn_137 0 rfl <| ly rfl rfl ?_
     obtain ⟨x3, hx3, hb_2⟩ := bs hb_2
     refine lp (p_call Fun_144 rfl (fun w1 hw => m_i_isTerm_ok hw.fro N p0.R hx3)) rfl <| la rfl ?_
     cases hb_2
     exact kk K ⟨rfl, trivial⟩
    ·refine la rfl <| la rfl <| la rfl <| la rfl ?_
     cases hb_2
     exact kk K ⟨rfl, trivial⟩
   refine la rfl <| en ?_
   refine WT.ret Tryz.func182 (resOk.one rfl) (fun w1 hw => ?_)
   subst hb0
   cases h
   exact post_of_St hw
  refine WT.skip <| ib <| sr <| la rfl <| en ?_
  refine WT.ret Tryz.func182 (resOk.one rfl) (fun w1 hw => ?_)
  subst hb0
  cases h
  exact post_of_St hw
 refine cdh rfl h (fun c5 h => ?_) (fun c5 h => ?_)
 ·refine WT.skip ?_
  exact wto (K (seq p0.Op (⟨#[43]⟩ : ByteArray)) h) ⟨rfl, rfl, trivial⟩ (fun w1 hw => (hw.sel (js := []) rfl).selO (js := [0]) rfl)
 refine rgn <| la rfl <| la rfl <| en ?_
 exact wto (K (seq p0.Op (⟨#[45]⟩ : ByteArray)) h) ⟨rfl, rfl, trivial⟩ (fun w1 hw => (hw.sel (js := []) rfl).selO (js := [0]) rfl)
theorem m_i_argsOk_ok {Φ : Hp} {w : World} (hΦ : In Φ w) (N : Nat) (p0 : TAct) {pv0_0 : Value} {pG0_0 : List Nat} (ph0_0 : RSl RTExpr 11 Φ pG0_0 pv0_0 p0.Args) {r : Bool} (h : m_i_argsOk N p0 = some r) :
  Calls Tryz.prog 145 [.agg [.int .i64 p0.Kind, .string p0.Name, pv0_0, .int .i64 p0.N, .string p0.Undo].toArray].toArray w (Post (.bool r) w) := by
 refine enter Tryz.func145 rfl Tryz.ntmps145 rfl (St.start0 hΦ) ?_
 generalize hb0 : (⟨w, [], Φ⟩ : Base) = w0
 unfold m_i_argsOk at h
 refine sr ?_
 refine ln (nb rfl) rfl (fun b_1 => ?_)
 refine la rfl <| en <| sq <| sr <| lf Fld_143_1 rfl rfl rfl <| lo T1_9 0 rfl ?_
 obtain ⟨x1, hx1, h⟩ := bs h
 refine lp (p_call Fun_80 rfl (fun w1 hw => m_i_NameOk_ok hw.fro N p0.Name hx1)) rfl <| la rfl <| la rfl ?_
 obtain ⟨b1, hb_1, h⟩ := bs h
 refine WL.cutN 5 [(14, .bool b1), (1, .pointer (some ⟨b_1, 0, none⟩))] ?_ (fun K => ?_)
 rotate_left
 ·refine spl 9 rfl hb_1 (fun c1 hb_1 => ?_) (fun c1 hb_1 => ?_)
  ·refine la rfl <| la rfl <| la rfl <| la rfl <| la rfl ?_
   cases hb_1
   exact kk K ⟨rfl, rfl, trivial⟩
  ·refine ly rfl rfl <| lf Fld_143_2 rfl rfl rfl <| ly rfl rfl <| lo T1_141 0 rfl <| ly rfl rfl <| lq (q_lenR Sl_141 rfl rfl ph0_0) rfl <| ly rfl rfl <| la rfl <| la rfl ?_
   cases hb_1
   exact kk K ⟨rfl, rfl, trivial⟩
 refine en ?_
 refine cdh rfl h (fun c2 h => ?_) (fun c2 h => ?_)
 ·refine sr <| la rfl <| en ?_
  refine WT.ret Tryz.func145 (resOk.one rfl) (fun w1 hw => ?_)
  subst hb0
  cases h
  exact post_of_St hw
 refine WT.skip <| sq <| sr <| lf Fld_143_2 rfl rfl rfl <| lo T1_141 0 rfl <| lq (q_lenR Sl_141 rfl rfl ph0_0) rfl <| la rfl <| en <| blk ?_
 refine loop_in (σ := Int) (fun s => [(16, pv0_0), (17, .int .i64 (p0.Args.length : Int)), (18, .int .i64 s)]) (fun s => St w0 Φ [] []) (fun m s => m_i_argsOk_l1 N p0 m s = some r) (0) N h ⟨rfl, rfl, rfl, trivial⟩ (fun w1 hw => (hw.sel (js := []) rfl).selO (js := []) rfl) (fun s hm => none_ne hm) (fun n1 ih1 s hm => ?_)
 revert hm; revert s; intro s1 hm
 have h : m_i_argsOk_l1 N p0 (n1 + 1) s1 = some r := hm
 show WT _ _ [(16, pv0_0), (17, .int .i64 (p0.Args.length : Int)), (18, .int .i64 s1)] (St w0 Φ [] [])
 unfold m_i_argsOk_l1 at h
 refine sr <| la rfl <| en <| sq ?_
 refine cdh rfl h (fun c3 h => ?_) (fun c3 h => ?_)
 ·refine WT.skip <| sq <| blk <| sr ?_
  obtain ⟨x2, hx2, h⟩ := bs h
  obtain ⟨cs1, F1, -, g1, hb1, hs1, r1⟩ := ph0_0.el (idx_some hx2).2.2
  obtain ⟨rfl, -⟩ := r1
  refine lq (q_indexAddr Sl_141 rfl rfl ph0_0 hx2) rfl <| lg11 0 Tn_191 g1 rfl rfl ?_
  refine ln (nz Zr_191) rfl (fun b_2 => ?_)
  refine soN 0 Sz_191 rfl ⟨rfl, rfl, rfl, rfl, rfl, rfl, rfl, rfl, rfl, rfl, rfl, trivial⟩ rfl ?_
  refine en <| sr <| ld11 Tn_191 0 rfl ?_
  obtain ⟨x3, hx3, h⟩ := bs h
  refine lp (p_call Fun_182 rfl (fun w1 hw => m_i_ExprOk_ok hw.fro N x2 hx3)) rfl <| la rfl <| en ?_
  refine cdh rfl h (fun c4 h => ?_) (fun c4 h => ?_)
  ·refine sr <| la rfl <| en ?_
   refine WT.ret Tryz.func145 (resOk.one rfl) (fun w1 hw => ?_)
   subst hb0
   cases h
   exact post_of_St hw
  refine WT.skip <| ib <| rgn <| la rfl <| la rfl <| en ?_
  exact lback (ih1 (IntKind.i64.wrap (s1 + 1)) h) ⟨rfl, rfl, rfl, trivial⟩ (fun w1 hw => (hw.sel (js := []) rfl).selO (js := []) rfl)
 refine xt rfl <| sr <| la rfl <| en ?_
 refine WT.ret Tryz.func145 (resOk.one rfl) (fun w1 hw => ?_)
 subst hb0
 cases h
 exact post_of_St hw
theorem m_i_isUndo_ok {Φ : Hp} {w : World} (hΦ : In Φ w) (N : Nat) (p0 : ByteArray)   {r : Bool} (h : m_i_isUndo N p0 = some r) :
  Calls Tryz.prog 146 [.string p0].toArray w (Post (.bool r) w) := by
 refine enter Tryz.func146 rfl Tryz.ntmps146 rfl (St.start0 hΦ) ?_
 unfold m_i_isUndo at h
 refine sr <| la rfl <| en <| sr <| la rfl <| la rfl <| la rfl ?_
 obtain ⟨b1, hb_1, h⟩ := bs h
 refine WL.cutN 3 [(8, .bool b1), (2, .bool false)] ?_ (fun K => ?_)
 rotate_left
 ·refine spl 5 rfl hb_1 (fun c1 hb_1 => ?_) (fun c1 hb_1 => ?_)
  ·refine la rfl <| la rfl <| la rfl ?_
   cases hb_1
   exact kk K ⟨rfl, rfl, trivial⟩
  ·refine ly rfl rfl <| la rfl <| ly rfl rfl ?_
   obtain ⟨x1, hx1, hb_1⟩ := bs hb_1
   refine lp (p_call Fun_80 rfl (fun w1 hw => m_i_NameOk_ok hw.fro N p0 hx1)) rfl <| la rfl ?_
   cases hb_1
   exact kk K ⟨rfl, rfl, trivial⟩
 refine la rfl <| en ?_
 refine WT.ret Tryz.func146 (resOk.one rfl) (fun w1 hw => ?_)
 cases h
 exact post_of_St hw
theorem m_i_ActOk_ok {Φ : Hp} {w : World} (hΦ : In Φ w) (N : Nat) (p0 : TAct) {pv0_0 : Value} {pG0_0 : List Nat} (ph0_0 : RSl RTExpr 11 Φ pG0_0 pv0_0 p0.Args) {r : Bool} (h : m_i_ActOk N p0 = some r) :
  Calls Tryz.prog 93 [.agg [.int .i64 p0.Kind, .string p0.Name, pv0_0, .int .i64 p0.N, .string p0.Undo].toArray].toArray w (Post (.bool r) w) := by
 refine enter Tryz.func93 rfl Tryz.ntmps93 rfl (St.start0 hΦ) ?_
 generalize hb0 : (⟨w, [], Φ⟩ : Base) = w0
 unfold m_i_ActOk at h
 refine sr ?_
 refine ln (nb rfl) rfl (fun b_1 => ?_)
 refine la rfl <| en <| sr <| lf Fld_143_1 rfl rfl rfl <| lo T1_9 0 rfl <| la rfl <| la rfl ?_
 obtain ⟨b1, hb_1, h⟩ := bs h
 refine WL.cutN 5 [(12, .bool b1), (1, .pointer (some ⟨b_1, 0, none⟩))] ?_ (fun K => ?_)
 rotate_left
 ·refine spl 7 rfl hb_1 (fun c1 hb_1 => ?_) (fun c1 hb_1 => ?_)
  ·refine ly rfl rfl <| lf Fld_143_2 rfl rfl rfl <| ly rfl rfl <| lo T1_141 0 rfl <| ly rfl rfl <| lq (q_lenR Sl_141 rfl rfl ph0_0) rfl <| ly rfl rfl <| la rfl <| la rfl ?_
   cases hb_1
   exact kk K ⟨rfl, rfl, trivial⟩
  ·refine la rfl <| la rfl <| la rfl <| la rfl <| la rfl ?_
   cases hb_1
   exact kk K ⟨rfl, rfl, trivial⟩
 refine la rfl <| en <| sq <| sr <| lf Fld_143_0 rfl rfl rfl <| lo T1_3 0 rfl <| en <| blk <| sr <| la rfl <| la rfl <| en ?_
 refine cdh rfl h (fun c2 h => ?_) (fun c2 h => ?_)
 ·refine sr <| ld5 Tn_143 0 rfl ?_
  obtain ⟨x1, hx1, h⟩ := bs h
  refine lp (p_call Fun_145 rfl (fun w1 hw => m_i_argsOk_ok hw.fro N p0 ph0_0 hx1)) rfl <| la rfl ?_
  obtain ⟨b2, hb_2, h⟩ := bs h
  refine WL.cutN 4 [(23, .bool b2), (1, .pointer (some ⟨b_1, 0, none⟩))] ?_ (fun K => ?_)
  rotate_left
  ·refine spl 19 rfl hb_2 (fun c3 hb_2 => ?_) (fun c3 hb_2 => ?_)
   ·refine ly rfl rfl <| lf Fld_143_3 rfl rfl rfl <| ly rfl rfl <| lo T1_3 0 rfl <| ly rfl rfl <| la rfl <| la rfl ?_
    cases hb_2
    exact kk K ⟨rfl, rfl, trivial⟩
   ·refine la rfl <| la rfl <| la rfl <| la rfl ?_
    cases hb_2
    exact kk K ⟨rfl, rfl, trivial⟩
  refine la rfl ?_
  obtain ⟨b3, hb_3, h⟩ := bs h
  refine WL.cutN 4 [(28, .bool b3)] ?_ (fun K => ?_)
  rotate_left
  ·refine spl 24 rfl hb_3 (fun c4 hb_3 => ?_) (fun c4 hb_3 => ?_)
   ·refine ly rfl rfl <| lf Fld_143_4 rfl rfl rfl <| ly rfl rfl <| lo T1_9 0 rfl <| ly rfl rfl <| la rfl <| la rfl ?_
    cases hb_3
    exact kk K ⟨rfl, trivial⟩
   ·refine la rfl <| la rfl <| la rfl <| la rfl ?_
    cases hb_3
    exact kk K ⟨rfl, trivial⟩
  refine la rfl <| en ?_
  refine WT.ret Tryz.func93 (resOk.one rfl) (fun w1 hw => ?_)
  subst hb0
  cases h
  exact post_of_St hw
 refine sr <| la rfl <| la rfl <| en ?_
 refine cdh rfl h (fun c5 h => ?_) (fun c5 h => ?_)
 ·refine sr <| la rfl <| la rfl ?_
  obtain ⟨b4, hb_4, h⟩ := bs h
  refine WL.cutN 4 [(36, .bool b4), (1, .pointer (some ⟨b_1, 0, none⟩))] ?_ (fun K => ?_)
  rotate_left
  ·refine spl 32 rfl hb_4 (fun c6 hb_4 => ?_) (fun c6 hb_4 => ?_)
   ·refine ly rfl rfl <| lf Fld_143_3 rfl rfl rfl <| ly rfl rfl <| lo T1_3 0 rfl <| ly rfl rfl ?_
    obtain ⟨x2, hx2, hb_4⟩ := bs hb_4
    refine lp (p_call Fun_81 rfl (fun w1 hw => m_i_inRange_ok hw.fro N p0.N 0 7 hx2)) rfl <| la rfl ?_
    cases hb_4
    exact kk K ⟨rfl, rfl, trivial⟩
   ·refine la rfl <| la rfl <| la rfl <| la rfl ?_
    cases hb_4
    exact kk K ⟨rfl, rfl, trivial⟩
  refine la rfl ?_
  obtain ⟨b5, hb_5, h⟩ := bs h
  refine WL.cutN 4 [(41, .bool b5)] ?_ (fun K => ?_)
  rotate_left
  ·refine spl 37 rfl hb_5 (fun c7 hb_5 => ?_) (fun c7 hb_5 => ?_)
   ·refine ly rfl rfl <| lf Fld_143_4 rfl rfl rfl <| ly rfl rfl <| lo T1_9 0 rfl <| ly rfl rfl <| la rfl <| la rfl ?_
    cases hb_5
    exact kk K ⟨rfl, trivial⟩
   ·refine la rfl <| la rfl <| la rfl <| la rfl ?_
    cases hb_5
    exact kk K ⟨rfl, trivial⟩
  refine la rfl <| en ?_
  refine WT.ret Tryz.func93 (resOk.one rfl) (fun w1 hw => ?_)
  subst hb0
  cases h
  exact post_of_St hw
 refine sr <| la rfl <| la rfl <| en ?_
 refine cdh rfl h (fun c8 h => ?_) (fun c8 h => ?_)
 ·refine sr <| ld5 Tn_143 0 rfl ?_
  obtain ⟨x3, hx3, h⟩ := bs h
  refine lp (p_call Fun_145 rfl (fun w1 hw => m_i_argsOk_ok hw.fro N p0 ph0_0 hx3)) rfl <| la rfl ?_
  obtain ⟨b6, hb_6, h⟩ := bs h
  refine WL.cutN 4 [(50, .bool b6), (1, .pointer (some ⟨b_1, 0, none⟩))] ?_ (fun K => ?_)
  rotate_left
  ·refine spl 46 rfl hb_6 (fun c9 hb_6 => ?_) (fun c9 hb_6 => ?_)
   ·refine ly rfl rfl <| lf Fld_143_3 rfl rfl rfl <| ly rfl rfl <| lo T1_3 0 rfl <| ly rfl rfl <| la rfl <| la rfl ?_
    cases hb_6
    exact kk K ⟨rfl, rfl, trivial⟩
   ·refine la rfl <| la rfl <| la rfl <| la rfl ?_
    cases hb_6
    exact kk K ⟨rfl, rfl, trivial⟩
  refine la rfl ?_
  obtain ⟨b7, hb_7, h⟩ := bs h
  refine WL.cutN 4 [(55, .bool b7)] ?_ (fun K => ?_)
  rotate_left
  ·refine spl 51 rfl hb_7 (fun c10 hb_7 => ?_) (fun c10 hb_7 => ?_)
   ·refine ly rfl rfl <| lf Fld_143_4 rfl rfl rfl <| ly rfl rfl <| lo T1_9 0 rfl <| ly rfl rfl ?_
    obtain ⟨x4, hx4, hb_7⟩ := bs hb_7
    refine lp (p_call Fun_146 rfl (fun w1 hw => m_i_isUndo_ok hw.fro N p0.Undo hx4)) rfl <| la rfl ?_
    cases hb_7
    exact kk K ⟨rfl, trivial⟩
   ·refine la rfl <| la rfl <| la rfl <| la rfl ?_
    cases hb_7
    exact kk K ⟨rfl, trivial⟩
  refine la rfl <| en ?_
  refine WT.ret Tryz.func93 (resOk.one rfl) (fun w1 hw => ?_)
  subst hb0
  cases h
  exact post_of_St hw
 refine sr <| la rfl <| la rfl <| en ?_
 refine cdh rfl h (fun c11 h => ?_) (fun c11 h => ?_)
 ·refine sr <| ld5 Tn_143 0 rfl ?_
  obtain ⟨x5, hx5, h⟩ := bs h
  refine lp (p_call Fun_145 rfl (fun w1 hw => m_i_argsOk_ok hw.fro N p0 ph0_0 hx5)) rfl <| la rfl ?_
  obtain ⟨b8, hb_8, h⟩ := bs h
  refine WL.cutN 4 [(64, .bool b8), (1, .pointer (some ⟨b_1, 0, none⟩))] ?_ (fun K => ?_)
  rotate_left
  ·refine spl 60 rfl hb_8 (fun c12 hb_8 => ?_) (fun c12 hb_8 => ?_)
   ·refine ly rfl rfl <| lf Fld_143_3 rfl rfl rfl <| ly rfl rfl <| lo T1_3 0 rfl <| ly rfl rfl ?_
    obtain ⟨x6, hx6, hb_8⟩ := bs hb_8
    refine lp (p_call Fun_81 rfl (fun w1 hw => m_i_inRange_ok hw.fro N p0.N 0 100000 hx6)) rfl <| la rfl ?_
    cases hb_8
    exact kk K ⟨rfl, rfl, trivial⟩
   ·refine la rfl <| la rfl <| la rfl <| la rfl ?_
    cases hb_8
    exact kk K ⟨rfl, rfl, trivial⟩
  refine la rfl ?_
  obtain ⟨b9, hb_9, h⟩ := bs h
  refine WL.cutN 4 [(69, .bool b9)] ?_ (fun K => ?_)
  rotate_left
  ·refine spl 65 rfl hb_9 (fun c13 hb_9 => ?_) (fun c13 hb_9 => ?_)
   ·refine ly rfl rfl <| lf Fld_143_4 rfl rfl rfl <| ly rfl rfl <| lo T1_9 0 rfl <| ly rfl rfl <| la rfl <| la rfl ?_
    cases hb_9
    exact kk K ⟨rfl, trivial⟩
   ·refine la rfl <| la rfl <| la rfl <| la rfl ?_
    cases hb_9
    exact kk K ⟨rfl, trivial⟩
  refine la rfl <| en ?_
  refine WT.ret Tryz.func93 (resOk.one rfl) (fun w1 hw => ?_)
  subst hb0
  cases h
  exact post_of_St hw
 refine sq <| sr <| la rfl <| la rfl <| en ?_
 refine cut (σ := Bool) (fun s => [(1, .pointer (some ⟨b_1, 0, none⟩)), (3, .bool b1), (70, .bool s)]) (fun s => St w0 Φ [(b_1, .cells #[.int .i64 p0.Kind, .string p0.Name, pv0_0, .int .i64 p0.N, .string p0.Undo] 143 (0, 0))] []) (fun s => m_i_ActOk_j1 N p0 b1 s = some r) (fun s hm => ?_) (fun K => ?_)
 ·clear h
  revert hm; revert s; intro s1 hm
  have h : m_i_ActOk_j1 N p0 b1 s1 = some r := hm
  show WT _ _ [(1, .pointer (some ⟨b_1, 0, none⟩)), (3, .bool b1), (70, .bool s1)] (St w0 Φ [(b_1, .cells #[.int .i64 p0.Kind, .string p0.Name, pv0_0, .int .i64 p0.N, .string p0.Undo] 143 (0, 0))] [])
  unfold m_i_ActOk_j1 at h
  refine cdh rfl h (fun c14 h => ?_) (fun c14 h => ?_)
  ·refine sr <| la rfl <| la rfl ?_
   obtain ⟨b10, hb_10, h⟩ := bs h
   refine WL.cutN 4 [(78, .bool b10), (1, .pointer (some ⟨b_1, 0, none⟩))] ?_ (fun K => ?_)
   rotate_left
   ·refine spl 74 rfl hb_10 (fun c15 hb_10 => ?_) (fun c15 hb_10 => ?_)
    ·refine ly rfl rfl <| lf Fld_143_3 rfl rfl rfl <| ly rfl rfl <| lo T1_3 0 rfl <| ly rfl rfl <| la rfl <| la rfl ?_
     cases hb_10
     exact kk K ⟨rfl, rfl, trivial⟩
    ·refine la rfl <| la rfl <| la rfl <| la rfl ?_
     cases hb_10
     exact kk K ⟨rfl, rfl, trivial⟩
   refine la rfl ?_
   obtain ⟨b11, hb_11, h⟩ := bs h
   refine WL.cutN 4 [(83, .bool b11)] ?_ (fun K => ?_)
   rotate_left
   ·refine spl 79 rfl hb_11 (fun c16 hb_11 => ?_) (fun c16 hb_11 => ?_)
    ·refine ly rfl rfl <| lf Fld_143_4 rfl rfl rfl <| ly rfl rfl <| lo T1_9 0 rfl <| ly rfl rfl <| la rfl <| la rfl ?_
     cases hb_11
     exact kk K ⟨rfl, trivial⟩
    ·refine la rfl <| la rfl <| la rfl <| la rfl ?_
     cases hb_11
     exact kk K ⟨rfl, trivial⟩
   refine la rfl <| en ?_
   refine WT.ret Tryz.func93 (resOk.one rfl) (fun w1 hw => ?_)
   subst hb0
   cases h
   exact post_of_St hw
  refine WT.skip <| ib <| sr <| la rfl <| en ?_
  refine WT.ret Tryz.func93 (resOk.one rfl) (fun w1 hw => ?_)
  subst hb0
  cases h
  exact post_of_St hw
 refine cdh rfl h (fun c17 h => ?_) (fun c17 h => ?_)
 ·refine WT.skip ?_
  exact wto (K (decide (p0.Kind = 5)) h) ⟨rfl, rfl, rfl, trivial⟩ (fun w1 hw => (hw.sel (js := []) rfl).selO (js := [0]) rfl)
 refine rgn <| la rfl <| la rfl <| en ?_
 exact wto (K (decide (p0.Kind = 6)) h) ⟨rfl, rfl, rfl, trivial⟩ (fun w1 hw => (hw.sel (js := []) rfl).selO (js := [0]) rfl)
theorem m_sl_Index_Sstring_string_ok {Φ : Hp} {w : World} (hΦ : In Φ w) (N : Nat) (p0 : (List ByteArray)) (p1 : ByteArray) {pv0 : Value} {pG0 : List Nat} (ph0 : RSl RS 1 Φ pG0 pv0 p0) {r : Int} (h : m_sl_Index_Sstring_string N p0 p1 = some r) :
  Calls Tryz.prog 148 [pv0, .string p1].toArray w (Post (.int .i64 r) w) := by
 refine enter Tryz.func148 rfl Tryz.ntmps148 rfl (St.start0 hΦ) ?_
 generalize hb0 : (⟨w, [], Φ⟩ : Base) = w0
 unfold m_sl_Index_Sstring_string at h
 refine sr <| la rfl <| en <| sq <| sr <| la rfl <| lq (q_lenR Sl_114 rfl rfl ph0) rfl <| la rfl <| en <| blk ?_
 refine loop_in (σ := Int) (fun s => [(0, pv0), (1, .string p1), (7, .int .i64 (p0.length : Int)), (8, .int .i64 s)]) (fun s => St w0 Φ [] []) (fun m s => m_sl_Index_Sstring_string_l1 N p0 p1 m s = some r) (0) N h ⟨rfl, rfl, rfl, rfl, trivial⟩ (fun w1 hw => (hw.sel (js := []) rfl).selO (js := []) rfl) (fun s hm => none_ne hm) (fun n1 ih1 s hm => ?_)
 revert hm; revert s; intro s1 hm
 have h : m_sl_Index_Sstring_string_l1 N p0 p1 (n1 + 1) s1 = some r := hm
 show WT _ _ [(0, pv0), (1, .string p1), (7, .int .i64 (p0.length : Int)), (8, .int .i64 s1)] (St w0 Φ [] [])
 unfold m_sl_Index_Sstring_string_l1 at h
 refine sr <| la rfl <| en <| sq ?_
 refine cdh rfl h (fun c1 h => ?_) (fun c1 h => ?_)
 ·refine WT.skip <| sq <| blk <| sr <| la rfl <| la rfl <| en <| sr <| la rfl <| la rfl <| la rfl ?_
  obtain ⟨x1, hx1, h⟩ := bs h
  obtain ⟨cs1, F1, -, g1, hb1, hs1, r1⟩ := ph0.el (idx_some hx1).2.2
  obtain ⟨rfl, -⟩ := r1
  refine lq (q_indexAddr Sl_114 rfl rfl ph0 hx1) rfl <| lg 0 T1_9 g1 rfl rfl <| la rfl <| en ?_
  refine cdh rfl h (fun c2 h => ?_) (fun c2 h => ?_)
  ·refine sr <| la rfl <| la rfl <| en ?_
   refine WT.ret Tryz.func148 (resOk.one rfl) (fun w1 hw => ?_)
   subst hb0
   cases h
   exact post_of_St hw
  refine WT.skip <| ib <| rgn <| la rfl <| la rfl <| en ?_
  exact lback (ih1 (IntKind.i64.wrap (s1 + 1)) h) ⟨rfl, rfl, rfl, rfl, trivial⟩ (fun w1 hw => (hw.sel (js := []) rfl).selO (js := []) rfl)
 refine xt rfl <| sr <| la rfl <| en ?_
 refine WT.ret Tryz.func148 (resOk.one rfl) (fun w1 hw => ?_)
 subst hb0
 cases h
 exact post_of_St hw
theorem m_sl_Contains_Sstring_string_ok {Φ : Hp} {w : World} (hΦ : In Φ w) (N : Nat) (p0 : (List ByteArray)) (p1 : ByteArray) {pv0 : Value} {pG0 : List Nat} (ph0 : RSl RS 1 Φ pG0 pv0 p0) {r : Bool} (h : m_sl_Contains_Sstring_string N p0 p1 = some r) :
  Calls Tryz.prog 97 [pv0, .string p1].toArray w (Post (.bool r) w) := by
 refine enter Tryz.func97 rfl Tryz.ntmps97 rfl (St.start0 hΦ) ?_
 unfold m_sl_Contains_Sstring_string at h
 refine sr <| la rfl <| en <| sr <| la rfl <| la rfl ?_
 obtain ⟨x1, hx1, h⟩ := bs h
 refine lp (p_call Fun_148 rfl (fun w1 hw => m_sl_Index_Sstring_string_ok hw.fro N p0 p1 ph0 hx1)) rfl <| la rfl <| la rfl <| en ?_
 refine WT.ret Tryz.func97 (resOk.one rfl) (fun w1 hw => ?_)
 cases h
 exact post_of_St hw
theorem m_i_addOnce_ok {Φ : Hp} {w : World} (hΦ : In Φ w) (N : Nat) (p0 : (List ByteArray)) (p1 : ByteArray) {pv0 : Value} (ph0 : OSl RS 9 1 Φ [] pv0 p0) (hB : [ob pv0].flatten.Nodup) (hlt : ∀ k ∈ [ob pv0].flatten, k < w.heap.size) {r : (List ByteArray)} (h : m_i_addOnce N p0 p1 = some r) :
  Calls Tryz.prog 183 [pv0, .string p1].toArray w (PostG Φ w [ob pv0].flatten (fun Φ' Fs v => ∃ (sr_0_0 : Value), v = sr_0_0 ∧ Fs = [ob sr_0_0] ∧ OSl RS 9 1 Φ' [] sr_0_0 r)) := by
 refine enter Tryz.func183 rfl Tryz.ntmps183 rfl (St.start hΦ [ob pv0] hB hlt) ?_
 unfold m_i_addOnce at h
 refine sr <| la rfl <| en <| sq <| sr <| la rfl <| la rfl ?_
 obtain ⟨x1, hx1, h⟩ := bs h
 refine lp (p_call Fun_97 rfl (fun w1 hw => m_sl_Contains_Sstring_string_ok hw.fro N p0 p1 ph0.rsl hx1)) rfl <| en ?_
 refine cdh rfl h (fun c1 h => ?_) (fun c1 h => ?_)
 ·refine sr <| la rfl <| la rfl <| en ?_
  refine WT.ret Tryz.func183 (resOk.one rfl) (fun w1 hw => ?_)
  cases h
  refine postG_of_St (js := [0]) hw rfl ⟨pv0, rfl, rfl, ph0⟩
 refine WT.skip <| sr <| la rfl <| la rfl ?_
 have rc1 : RC RS 1 Φ ([[]] : List (List Nat)) [.string p1] ([p1] : List ByteArray) := RC.cons (c := [.string p1]) (cells := []) ⟨rfl, rfl⟩ rfl (RC.nil _ _ _)
 refine le' (e_lit (vs := [(0, .string p1)]) (C := #[.string p1]) RS.lasts Sl_114 Zr_9 rfl rfl rfl rfl (fill_made MC_9_1 (fill_cons (C' := [.string p1]) rfl rfl rfl rfl rfl (fill_nil))) rfl rc1 rfl (by simpa using Kw.nil)) rfl (fun v1 Φ_1 D1 q1 => ?_)
 obtain ⟨fr1, h1⟩ := q1
 replace h1 : OSl RS 9 1 Φ_1 [] v1 ([p1] : List ByteArray) := by simpa using h1
 replace ph0 := ph0.frame RS.lasts fr1 (Dj.empty _) (Dj.empty _)
 obtain ⟨x2, hx2, h⟩ := bs h
 refine le' (e_appF RS.lasts RS.one RS.flat Sl_114 Ei_9 rfl rfl rfl rfl rfl (js := [1]) (Rr := [ob v1]) rfl ph0 h1.rsl hx2) rfl (fun v2 Φ_2 D2 q2 => ?_)
 obtain ⟨⟨ap1, fr2⟩, h2⟩ := q2
 refine la rfl <| en ?_
 refine WT.ret Tryz.func183 (resOk.one rfl) (fun w1 hw => ?_)
 cases h
 refine postG_of_St (js := [0]) hw rfl ⟨v2, rfl, rfl, h2⟩
end Go.Proofs.YtelchcokfcdndaaGreat
