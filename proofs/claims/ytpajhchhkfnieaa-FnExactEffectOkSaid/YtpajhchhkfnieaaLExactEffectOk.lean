/- The law FnExactEffectOk: its arguments as data, and the step to the given row. The walk and the plain law come from the texts that are imported. -/
import Derived.Test.YtpajhchhkfnieaaRows
import Derived.Test.YtpajhchhkfnieaaEng9
import Derived.Test.YtpajhchhkfnieaaPAWalk
import Derived.Test.YtpajhchhkfnieaaPLEffectOk
import Derived.OpenShut
import Derived.ShutString
import Derived.ChangeOld
namespace Go.Proofs.Ytpajhchhkfnieaa.fnExactEffectOk
open Eng
open Go.ChangeShapes Go.WideShapes Go.ChangeAt Go.RowKit
open Go.ChangeMaps (open_string shut_string)
set_option linter.unusedVariables false
set_option linter.unusedSimpArgs false

theorem Un_3 : Try.prog.underlying 3 = some (.int .i64) := by kernel_rfl
theorem Un_9 : Try.prog.underlying 9 = some (.string) := by kernel_rfl
theorem Fl_93 : fldsOf Try.prog 93 = some [(0, 3, 1), (1, 3, 1), (2, 9, 1)] := by kernel_rfl
theorem Sz_93 : Sz Try.prog 93 3 = true := by kernel_rfl
theorem Sl_39 : Sl Try.prog 39 93 3 = true := by kernel_rfl
theorem Fl_56 : fldsOf Try.prog 56 = some [(0, 9, 1), (1, 39, 1)] := by kernel_rfl
theorem Sz_56 : Sz Try.prog 56 2 = true := by kernel_rfl
theorem Fl_71 : fldsOf Try.prog 71 = some [(0, 3, 1), (1, 56, 2), (3, 3, 1), (4, 3, 1), (5, 9, 1)] := by kernel_rfl
theorem Sz_71 : Sz Try.prog 71 6 = true := by kernel_rfl
theorem rd_93 {w : World} : Rdt Try.prog w 93 RTVal WfTVal := fun H enc sp held n cs x hx => by
  obtain ⟨ps, n1, hps, hl, hp⟩ := rd_struct (fl := [(0, 3, 1), (1, 3, 1), (2, 9, 1)]) Fl_93 rfl Sz_93 hx
  match ps, hl with
  | [q0, q1, q2], _ =>
    obtain ⟨y0, t0⟩ := hp 0 _ _ _ q0 rfl rfl
    obtain ⟨F0, z0, r0, w0⟩ := (rd_int Un_3) _ _ _ _ _ _ _ t0
    obtain ⟨rfl, rfl⟩ := r0
    obtain ⟨y1, t1⟩ := hp 1 _ _ _ q1 rfl rfl
    obtain ⟨F1, z1, r1, w1⟩ := (rd_int Un_3) _ _ _ _ _ _ _ t1
    obtain ⟨rfl, rfl⟩ := r1
    obtain ⟨y2, t2⟩ := hp 2 _ _ _ q2 rfl rfl
    obtain ⟨F2, z2, r2, w2⟩ := (rd_str Un_9) _ _ _ _ _ _ _ t2
    obtain ⟨rfl, rfl⟩ := r2
    exact ⟨_, (⟨z0, z1, z2⟩ : TVal), ⟨by rw [hps]; rfl, rfl⟩, ⟨w0, w1, w2⟩⟩
theorem rd_56 {w : World} : Rdt Try.prog w 56 RTFact WfTFact := fun H enc sp held n cs x hx => by
  obtain ⟨ps, n1, hps, hl, hp⟩ := rd_struct (fl := [(0, 9, 1), (1, 39, 1)]) Fl_56 rfl Sz_56 hx
  match ps, hl with
  | [q0, q1], _ =>
    obtain ⟨y0, t0⟩ := hp 0 _ _ _ q0 rfl rfl
    obtain ⟨F0, z0, r0, w0⟩ := (rd_str Un_9) _ _ _ _ _ _ _ t0
    obtain ⟨rfl, rfl⟩ := r0
    obtain ⟨y1, t1⟩ := hp 1 _ _ _ q1 rfl rfl
    obtain ⟨F1, z1, r1, w1⟩ := (rd_slice Sl_39 rd_93 rfl) _ _ _ _ _ _ _ t1
    obtain ⟨s1, rfl, r1⟩ := r1
    exact ⟨_, (⟨z0, z1⟩ : TFact), ⟨s1, F1, by rw [hps]; rfl, rfl, r1⟩, ⟨w0, w1⟩⟩
theorem rd_71 {w : World} : Rdt Try.prog w 71 RTEffect WfTEffect := fun H enc sp held n cs x hx => by
  obtain ⟨ps, n1, hps, hl, hp⟩ := rd_struct (fl := [(0, 3, 1), (1, 56, 2), (3, 3, 1), (4, 3, 1), (5, 9, 1)]) Fl_71 rfl Sz_71 hx
  match ps, hl with
  | [q0, q1, q2, q3, q4], _ =>
    obtain ⟨y0, t0⟩ := hp 0 _ _ _ q0 rfl rfl
    obtain ⟨F0, z0, r0, w0⟩ := (rd_int Un_3) _ _ _ _ _ _ _ t0
    obtain ⟨rfl, rfl⟩ := r0
    obtain ⟨y1, t1⟩ := hp 1 _ _ _ q1 rfl rfl
    obtain ⟨F1, z1, r1, w1⟩ := rd_56 _ _ _ _ _ _ _ t1
    obtain ⟨s1_0, G1_0, rfl, rfl, h1_0⟩ := r1
    obtain ⟨y2, t2⟩ := hp 2 _ _ _ q2 rfl rfl
    obtain ⟨F2, z2, r2, w2⟩ := (rd_int Un_3) _ _ _ _ _ _ _ t2
    obtain ⟨rfl, rfl⟩ := r2
    obtain ⟨y3, t3⟩ := hp 3 _ _ _ q3 rfl rfl
    obtain ⟨F3, z3, r3, w3⟩ := (rd_int Un_3) _ _ _ _ _ _ _ t3
    obtain ⟨rfl, rfl⟩ := r3
    obtain ⟨y4, t4⟩ := hp 4 _ _ _ q4 rfl rfl
    obtain ⟨F4, z4, r4, w4⟩ := (rd_str Un_9) _ _ _ _ _ _ _ t4
    obtain ⟨rfl, rfl⟩ := r4
    exact ⟨_, (⟨z0, z1, z2, z3, z4⟩ : TEffect), ⟨s1_0, F1, by rw [hps]; rfl, rfl, h1_0⟩, ⟨w0, w1, w2, w3, w4⟩⟩
theorem own : ownKnob Try.prog.godebug = none := by kernel_rfl
theorem laidOut : laidOutB Try.prog = true := by kernel_rfl
set_option maxRecDepth 100000 in
theorem lifted (os : Os) (started : os.Started) (H : Type) (enc : TypeId × Value → H) :
    ReturnsInHanded {} Try.checked os 11 .any (Rows.fnExactEffectOkSpec.pre6 enc Try.prog Try.f11 Rows.fnExactEffectOkRow.domain false) (Rows.fnExactEffectOkSpec.post enc Try.prog Try.f11 false true false false) := by
  refine returnsInHanded_of_change (C := Try.checked) own started (by kernel_rfl) Try.func11
    (ChangeSpec.witness6 (enc := enc) (C := Try.checked) false ⟨#[], #[.agg #[.int .i64 0, .string ⟨#[]⟩, .slice none 0 0, .int .i64 0, .int .i64 0, .string ⟨#[]⟩]], []⟩ 8 (by kernel_rfl) (by kernel_rfl) (by kernel_rfl) (by kernel_rfl)) ?_
  intro W base args ds gs before hval0 hW hcnd _
  have hval : ∀ (j : Nat) t v, Try.f11.params[j]? = some t → args[j]? = some v → Value.okWide Try.prog W .any base t v := hval0
  have hW' := hW
  obtain ⟨p, q, hA0, hV, rfl, hfz, hnd⟩ := hW
  have hA : DataW.TrodAll enc Try.prog W 0 (fun _ => true) true Try.f11.params.toList args.toList ds p := hA0
  rw [Try.params11] at hA hval
  obtain ⟨v0, vs0, d0, ds0, p0, q0, hargs, rfl, rfl, h0, r0⟩ := trodAll_cons hA
  obtain ⟨rfl, rfl, rfl⟩ := trodAll_nil r0
  obtain rfl : args = #[v0] := by cases args; simp_all
  obtain ⟨rfl, rfl⟩ := trodVars_none hV
  have k0 := h0
  have lt0 : ∀ x ∈ p0, x.block < W.heap.size := by obtain ⟨m, hm⟩ := k0; exact DataW.trod_lt m _ _ _ hm
  obtain ⟨m0, hm0⟩ := h0
  obtain ⟨G0, x0, e0, w0⟩ := rd_71 _ _ _ _ _ _ _ hm0
  obtain ⟨cs0, rfl⟩ := agg_of (hval 0 71 v0 rfl rfl) Sz_71 (by kernel_rfl)
  obtain ⟨s0_0, F0_0, hc0, -, q0_0⟩ := e0
  obtain rfl := agg_cells hc0
  clear hA0 hval0
  refine (m_l_FnExactEffectOk_ok (hp_in W) 1099511627776 x0 q0_0 (law w0)).mono fun e W1 ⟨he, bel⟩ => ?_
  subst he
  exact ⟨_, rfl, _, _, _, [], _, [], hW', trodAll_mk1 (shut_bool (by kernel_rfl : Try.prog.underlying 4 = some .bool) _), (trodAll_cons_mk (Below.trod laidOut (by kernel_rfl) (of_decide_eq_true (by kernel_rfl)) k0 bel lt0) trodAll_mk0), rfl, bel.frame _, fun h => by cases h⟩

theorem over : Rows.fnExactEffectOkRow.holds Try.pinned (OpenSpec.ofChange Rows.fnExactEffectOkSpec) :=
  OpenClaim.holds_of_wide 11 Try.f11 rfl rfl rfl rfl rfl rfl rfl ⟨rfl, rfl, rfl, rfl, rfl⟩ rfl rfl rfl rfl rfl (by kernel_rfl) Try.func11 (by kernel_rfl)
    (of_decide_eq_true (by kernel_rfl)) (by unfold Func.isWrapper; first | (rw [if_pos (by decide +kernel)]; kernel_rfl) | (rw [if_neg (by decide +kernel)]; exact ⟨rfl, rfl⟩))
    (fun os started H enc _ => lifted os started H enc)

/-- The statement. -/
theorem proved : Rows.FnExactEffectOkSaid := over
#print axioms proved
end Go.Proofs.Ytpajhchhkfnieaa.fnExactEffectOk
