/- The law FnExactRuleOk: its arguments as data, and the step to the given row. The walk and the plain law come from the texts that are imported. -/
import Derived.Test.YtjhlmnbkfdkmpaaRows
import Derived.Test.YtjhlmnbkfdkmpaaEG
import Derived.Test.YtjhlmnbkfdkmpaaWExactRuleOkWalk
import Derived.Test.YtjhlmnbkfdkmpaaPLRuleOk
import Derived.OpenShut
import Derived.ShutString
import Derived.ChangeOld
namespace Go.Proofs.Ytjhlmnbkfdkmpaa.fnExactRuleOk
open Eng
open Go.ChangeShapes Go.WideShapes Go.ChangeAt Go.RowKit
open Go.ChangeMaps (open_string shut_string)
set_option linter.unusedVariables false
set_option linter.unusedSimpArgs false

theorem Un_9 : Try.prog.underlying 9 = some (.string) := by kernel_rfl
theorem Un_3 : Try.prog.underlying 3 = some (.int .i64) := by kernel_rfl
theorem Fl_182 : fldsOf Try.prog 182 = some [(0, 3, 1), (1, 3, 1), (2, 9, 1)] := by kernel_rfl
theorem Sz_182 : Sz Try.prog 182 3 = true := by kernel_rfl
theorem Fl_239 : fldsOf Try.prog 239 = some [(0, 3, 1), (1, 9, 1), (2, 182, 3)] := by kernel_rfl
theorem Sz_239 : Sz Try.prog 239 5 = true := by kernel_rfl
theorem Sl_234 : Sl Try.prog 234 239 5 = true := by kernel_rfl
theorem Un_4 : Try.prog.underlying 4 = some (.bool) := by kernel_rfl
theorem Fl_236 : fldsOf Try.prog 236 = some [(0, 9, 1), (1, 234, 1), (2, 4, 1)] := by kernel_rfl
theorem Sz_236 : Sz Try.prog 236 3 = true := by kernel_rfl
theorem Sl_54 : Sl Try.prog 54 236 3 = true := by kernel_rfl
theorem Fl_241 : fldsOf Try.prog 241 = some [(0, 3, 1), (1, 239, 5), (6, 239, 5)] := by kernel_rfl
theorem Sz_241 : Sz Try.prog 241 11 = true := by kernel_rfl
theorem Sl_55 : Sl Try.prog 55 241 11 = true := by kernel_rfl
theorem Fl_329 : fldsOf Try.prog 329 = some [(0, 9, 1), (1, 239, 5), (6, 239, 5)] := by kernel_rfl
theorem Sz_329 : Sz Try.prog 329 11 = true := by kernel_rfl
theorem Sl_243 : Sl Try.prog 243 329 11 = true := by kernel_rfl
theorem Fl_245 : fldsOf Try.prog 245 = some [(0, 3, 1), (1, 9, 1), (2, 243, 1), (3, 3, 1), (4, 9, 1)] := by kernel_rfl
theorem Sz_245 : Sz Try.prog 245 5 = true := by kernel_rfl
theorem Sl_56 : Sl Try.prog 56 245 5 = true := by kernel_rfl
theorem Fl_58 : fldsOf Try.prog 58 = some [(0, 9, 1), (1, 3, 1), (2, 54, 1), (3, 55, 1), (4, 56, 1)] := by kernel_rfl
theorem Sz_58 : Sz Try.prog 58 5 = true := by kernel_rfl
theorem rd_182 {w : World} : Rdt Try.prog w 182 RTVal WfTVal := fun H enc sp held n cs x hx => by
  obtain ⟨ps, n1, hps, hl, hp⟩ := rd_struct (fl := [(0, 3, 1), (1, 3, 1), (2, 9, 1)]) Fl_182 rfl Sz_182 hx
  match ps, hl with
  | [q0, q1, q2], _ =>
    obtain ⟨y0, t0⟩ := hp 0 _ _ _ q0 rfl rfl
    obtain ⟨F0, z0, r0, -, w0⟩ := (rd_int Un_3) _ _ _ _ _ _ _ t0
    obtain ⟨rfl, rfl⟩ := r0
    obtain ⟨y1, t1⟩ := hp 1 _ _ _ q1 rfl rfl
    obtain ⟨F1, z1, r1, -, w1⟩ := (rd_int Un_3) _ _ _ _ _ _ _ t1
    obtain ⟨rfl, rfl⟩ := r1
    obtain ⟨y2, t2⟩ := hp 2 _ _ _ q2 rfl rfl
    obtain ⟨F2, z2, r2, -, w2⟩ := (rd_str Un_9) _ _ _ _ _ _ _ t2
    obtain ⟨rfl, rfl⟩ := r2
    have R : RTVal (Eng.hp w) _ cs (⟨z0, z1, z2⟩ : TVal) := ⟨by rw [hps]; rfl, rfl⟩
    exact ⟨_, _, R, RTVal.knows _ _ _ _ R, ⟨w0, w1, w2⟩⟩
theorem rd_239 {w : World} : Rdt Try.prog w 239 RTArg WfTArg := fun H enc sp held n cs x hx => by
  obtain ⟨ps, n1, hps, hl, hp⟩ := rd_struct (fl := [(0, 3, 1), (1, 9, 1), (2, 182, 3)]) Fl_239 rfl Sz_239 hx
  match ps, hl with
  | [q0, q1, q2], _ =>
    obtain ⟨y0, t0⟩ := hp 0 _ _ _ q0 rfl rfl
    obtain ⟨F0, z0, r0, -, w0⟩ := (rd_int Un_3) _ _ _ _ _ _ _ t0
    obtain ⟨rfl, rfl⟩ := r0
    obtain ⟨y1, t1⟩ := hp 1 _ _ _ q1 rfl rfl
    obtain ⟨F1, z1, r1, -, w1⟩ := (rd_str Un_9) _ _ _ _ _ _ _ t1
    obtain ⟨rfl, rfl⟩ := r1
    obtain ⟨y2, t2⟩ := hp 2 _ _ _ q2 rfl rfl
    obtain ⟨F2, z2, r2, -, w2⟩ := rd_182 _ _ _ _ _ _ _ t2
    obtain ⟨rfl, rfl⟩ := r2
    have R : RTArg (Eng.hp w) _ cs (⟨z0, z1, z2⟩ : TArg) := ⟨by rw [hps]; rfl, rfl⟩
    exact ⟨_, _, R, RTArg.knows _ _ _ _ R, ⟨w0, w1, w2⟩⟩
theorem rd_236 {w : World} : Rdt Try.prog w 236 RTPat WfTPat := fun H enc sp held n cs x hx => by
  obtain ⟨ps, n1, hps, hl, hp⟩ := rd_struct (fl := [(0, 9, 1), (1, 234, 1), (2, 4, 1)]) Fl_236 rfl Sz_236 hx
  match ps, hl with
  | [q0, q1, q2], _ =>
    obtain ⟨y0, t0⟩ := hp 0 _ _ _ q0 rfl rfl
    obtain ⟨F0, z0, r0, -, w0⟩ := (rd_str Un_9) _ _ _ _ _ _ _ t0
    obtain ⟨rfl, rfl⟩ := r0
    obtain ⟨y1, t1⟩ := hp 1 _ _ _ q1 rfl rfl
    obtain ⟨F1, z1, r1, -, w1⟩ := (rd_slice Sl_234 rd_239 rfl) _ _ _ _ _ _ _ t1
    obtain ⟨s1, rfl, r1⟩ := r1
    obtain ⟨y2, t2⟩ := hp 2 _ _ _ q2 rfl rfl
    obtain ⟨F2, z2, r2, -, w2⟩ := (rd_bool Un_4) _ _ _ _ _ _ _ t2
    obtain ⟨rfl, rfl⟩ := r2
    have R : RTPat (Eng.hp w) _ cs (⟨z0, z1, z2⟩ : TPat) := ⟨s1, F1, by rw [hps]; rfl, rfl, r1⟩
    exact ⟨_, _, R, RTPat.knows _ _ _ _ R, ⟨w0, w1, w2⟩⟩
theorem rd_241 {w : World} : Rdt Try.prog w 241 RTCond WfTCond := fun H enc sp held n cs x hx => by
  obtain ⟨ps, n1, hps, hl, hp⟩ := rd_struct (fl := [(0, 3, 1), (1, 239, 5), (6, 239, 5)]) Fl_241 rfl Sz_241 hx
  match ps, hl with
  | [q0, q1, q2], _ =>
    obtain ⟨y0, t0⟩ := hp 0 _ _ _ q0 rfl rfl
    obtain ⟨F0, z0, r0, -, w0⟩ := (rd_int Un_3) _ _ _ _ _ _ _ t0
    obtain ⟨rfl, rfl⟩ := r0
    obtain ⟨y1, t1⟩ := hp 1 _ _ _ q1 rfl rfl
    obtain ⟨F1, z1, r1, -, w1⟩ := rd_239 _ _ _ _ _ _ _ t1
    obtain ⟨rfl, rfl⟩ := r1
    obtain ⟨y2, t2⟩ := hp 2 _ _ _ q2 rfl rfl
    obtain ⟨F2, z2, r2, -, w2⟩ := rd_239 _ _ _ _ _ _ _ t2
    obtain ⟨rfl, rfl⟩ := r2
    have R : RTCond (Eng.hp w) _ cs (⟨z0, z1, z2⟩ : TCond) := ⟨by rw [hps]; rfl, rfl⟩
    exact ⟨_, _, R, RTCond.knows _ _ _ _ R, ⟨w0, w1, w2⟩⟩
theorem rd_329 {w : World} : Rdt Try.prog w 329 RTExpr WfTExpr := fun H enc sp held n cs x hx => by
  obtain ⟨ps, n1, hps, hl, hp⟩ := rd_struct (fl := [(0, 9, 1), (1, 239, 5), (6, 239, 5)]) Fl_329 rfl Sz_329 hx
  match ps, hl with
  | [q0, q1, q2], _ =>
    obtain ⟨y0, t0⟩ := hp 0 _ _ _ q0 rfl rfl
    obtain ⟨F0, z0, r0, -, w0⟩ := (rd_str Un_9) _ _ _ _ _ _ _ t0
    obtain ⟨rfl, rfl⟩ := r0
    obtain ⟨y1, t1⟩ := hp 1 _ _ _ q1 rfl rfl
    obtain ⟨F1, z1, r1, -, w1⟩ := rd_239 _ _ _ _ _ _ _ t1
    obtain ⟨rfl, rfl⟩ := r1
    obtain ⟨y2, t2⟩ := hp 2 _ _ _ q2 rfl rfl
    obtain ⟨F2, z2, r2, -, w2⟩ := rd_239 _ _ _ _ _ _ _ t2
    obtain ⟨rfl, rfl⟩ := r2
    have R : RTExpr (Eng.hp w) _ cs (⟨z0, z1, z2⟩ : TExpr) := ⟨by rw [hps]; rfl, rfl⟩
    exact ⟨_, _, R, RTExpr.knows _ _ _ _ R, ⟨w0, w1, w2⟩⟩
theorem rd_245 {w : World} : Rdt Try.prog w 245 RTAct WfTAct := fun H enc sp held n cs x hx => by
  obtain ⟨ps, n1, hps, hl, hp⟩ := rd_struct (fl := [(0, 3, 1), (1, 9, 1), (2, 243, 1), (3, 3, 1), (4, 9, 1)]) Fl_245 rfl Sz_245 hx
  match ps, hl with
  | [q0, q1, q2, q3, q4], _ =>
    obtain ⟨y0, t0⟩ := hp 0 _ _ _ q0 rfl rfl
    obtain ⟨F0, z0, r0, -, w0⟩ := (rd_int Un_3) _ _ _ _ _ _ _ t0
    obtain ⟨rfl, rfl⟩ := r0
    obtain ⟨y1, t1⟩ := hp 1 _ _ _ q1 rfl rfl
    obtain ⟨F1, z1, r1, -, w1⟩ := (rd_str Un_9) _ _ _ _ _ _ _ t1
    obtain ⟨rfl, rfl⟩ := r1
    obtain ⟨y2, t2⟩ := hp 2 _ _ _ q2 rfl rfl
    obtain ⟨F2, z2, r2, -, w2⟩ := (rd_slice Sl_243 rd_329 rfl) _ _ _ _ _ _ _ t2
    obtain ⟨s2, rfl, r2⟩ := r2
    obtain ⟨y3, t3⟩ := hp 3 _ _ _ q3 rfl rfl
    obtain ⟨F3, z3, r3, -, w3⟩ := (rd_int Un_3) _ _ _ _ _ _ _ t3
    obtain ⟨rfl, rfl⟩ := r3
    obtain ⟨y4, t4⟩ := hp 4 _ _ _ q4 rfl rfl
    obtain ⟨F4, z4, r4, -, w4⟩ := (rd_str Un_9) _ _ _ _ _ _ _ t4
    obtain ⟨rfl, rfl⟩ := r4
    have R : RTAct (Eng.hp w) _ cs (⟨z0, z1, z2, z3, z4⟩ : TAct) := ⟨s2, F2, by rw [hps]; rfl, rfl, r2⟩
    exact ⟨_, _, R, RTAct.knows _ _ _ _ R, ⟨w0, w1, w2, w3, w4⟩⟩
theorem rd_58 {w : World} : Rdt Try.prog w 58 RTRule WfTRule := fun H enc sp held n cs x hx => by
  obtain ⟨ps, n1, hps, hl, hp⟩ := rd_struct (fl := [(0, 9, 1), (1, 3, 1), (2, 54, 1), (3, 55, 1), (4, 56, 1)]) Fl_58 rfl Sz_58 hx
  match ps, hl with
  | [q0, q1, q2, q3, q4], _ =>
    obtain ⟨y0, t0⟩ := hp 0 _ _ _ q0 rfl rfl
    obtain ⟨F0, z0, r0, -, w0⟩ := (rd_str Un_9) _ _ _ _ _ _ _ t0
    obtain ⟨rfl, rfl⟩ := r0
    obtain ⟨y1, t1⟩ := hp 1 _ _ _ q1 rfl rfl
    obtain ⟨F1, z1, r1, -, w1⟩ := (rd_int Un_3) _ _ _ _ _ _ _ t1
    obtain ⟨rfl, rfl⟩ := r1
    obtain ⟨y2, t2⟩ := hp 2 _ _ _ q2 rfl rfl
    obtain ⟨F2, z2, r2, -, w2⟩ := (rd_slice Sl_54 rd_236 rfl) _ _ _ _ _ _ _ t2
    obtain ⟨s2, rfl, r2⟩ := r2
    obtain ⟨y3, t3⟩ := hp 3 _ _ _ q3 rfl rfl
    obtain ⟨F3, z3, r3, -, w3⟩ := (rd_slice Sl_55 rd_241 rfl) _ _ _ _ _ _ _ t3
    obtain ⟨s3, rfl, r3⟩ := r3
    obtain ⟨y4, t4⟩ := hp 4 _ _ _ q4 rfl rfl
    obtain ⟨F4, z4, r4, -, w4⟩ := (rd_slice Sl_56 rd_245 rfl) _ _ _ _ _ _ _ t4
    obtain ⟨s4, rfl, r4⟩ := r4
    have R : RTRule (Eng.hp w) _ cs (⟨z0, z1, z2, z3, z4⟩ : TRule) := ⟨s2, F2, s3, F3, s4, F4, by rw [hps]; rfl, rfl, r2, r3, r4⟩
    exact ⟨_, _, R, RTRule.knows _ _ _ _ R, ⟨w0, w1, w2, w3, w4⟩⟩
theorem own : ownKnob Try.prog.godebug = none := by kernel_rfl
theorem laidOut : laidOutB Try.prog = true := by kernel_rfl
set_option maxRecDepth 100000 in
theorem lifted (os : Os) (started : os.Started) (H : Type) (enc : TypeId × Value → H) :
    ReturnsInHanded {} Try.checked os 12 .any (Rows.fnExactRuleOkSpec.pre6 enc Try.prog Try.f12 Rows.fnExactRuleOkRow.domain false) (Rows.fnExactRuleOkSpec.post enc Try.prog Try.f12 false true false false) := by
  refine returnsInHanded_of_change (C := Try.checked) own started (by kernel_rfl) Try.func12
    (ChangeSpec.witness6 (enc := enc) (C := Try.checked) false ⟨#[], #[.agg #[.string ⟨#[]⟩, .int .i64 0, .slice none 0 0, .slice none 0 0, .slice none 0 0]], []⟩ 8 (by kernel_rfl) (by kernel_rfl) (by kernel_rfl) (by kernel_rfl)) ?_
  intro W base args ds gs before hval0 hW hcnd _
  have hval : ∀ (j : Nat) t v, Try.f12.params[j]? = some t → args[j]? = some v → Value.okWide Try.prog W .any base t v := hval0
  have hW' := hW
  obtain ⟨p, q, hA0, hV, rfl, hfz, hnd⟩ := hW
  have hA : DataW.TrodAll enc Try.prog W 0 (fun _ => true) true Try.f12.params.toList args.toList ds p := hA0
  rw [Try.params12] at hA hval
  obtain ⟨v0, vs0, d0, ds0, p0, q0, hargs, rfl, rfl, h0, r0⟩ := trodAll_cons hA
  obtain ⟨rfl, rfl, rfl⟩ := trodAll_nil r0
  obtain rfl : args = #[v0] := by cases args; simp_all
  obtain ⟨rfl, rfl⟩ := trodVars_none hV
  have k0 := h0
  have lt0 : ∀ x ∈ p0, x.block < W.heap.size := by obtain ⟨m, hm⟩ := k0; exact DataW.trod_lt m _ _ _ hm
  obtain ⟨m0, hm0⟩ := h0
  obtain ⟨G0, x0, e0, -, w0⟩ := rd_58 _ _ _ _ _ _ _ hm0
  obtain ⟨cs0, rfl⟩ := agg_of (hval 0 58 v0 rfl rfl) Sz_58 (by kernel_rfl)
  obtain ⟨s0_0, F0_0, s0_1, F0_1, s0_2, F0_2, hc0, -, q0_0, q0_1, q0_2⟩ := e0
  obtain rfl := agg_cells hc0
  clear hA0 hval0
  refine (m_l_FnExactRuleOk_ok (hp_in W) 1099511627776 x0 q0_0 q0_1 q0_2 (law w0)).mono fun e W1 ⟨he, bel⟩ => ?_
  subst he
  exact ⟨_, rfl, _, _, _, [], _, [], hW', trodAll_mk1 (shut_bool (by kernel_rfl : Try.prog.underlying 4 = some .bool) _), (trodAll_cons_mk (Below.trod laidOut (by kernel_rfl) (of_decide_eq_true (by kernel_rfl)) k0 bel lt0) trodAll_mk0), rfl, bel.frame _, fun h => by cases h⟩

theorem named : Try.pinned.checked.prog.funcNamed Rows.fnExactRuleOkRow.func = some 12 := by kernel_rfl
theorem closed : joinedFacts Try.pinned.checked.prog 12 Try.f12 Rows.fnExactRuleOkSpec Rows.fnExactRuleOkRow = true := by kernel_rfl
theorem inst : Try.f12.isInstance Try.pinned.checked.prog Rows.fnExactRuleOkRow.origin Rows.fnExactRuleOkRow.targs := of_decide_eq_true (by kernel_rfl)
theorem wrapped : Try.f12.isWrapper Try.pinned.checked.prog Rows.fnExactRuleOkRow.wrapper Rows.fnExactRuleOkRow.mainSum := by unfold Func.isWrapper; first | (rw [if_pos (by decide +kernel)]; kernel_rfl) | (rw [if_neg (by decide +kernel)]; exact ⟨rfl, rfl⟩)
theorem over : Rows.fnExactRuleOkRow.holds Try.pinned (OpenSpec.ofChange Rows.fnExactRuleOkSpec) :=
  OpenClaim.holds_of_wide 12 Try.f12 rfl rfl rfl rfl rfl rfl rfl ⟨rfl, rfl, rfl, rfl, rfl⟩ rfl rfl rfl rfl rfl named Try.func12 closed inst wrapped
    (fun os started H enc _ => lifted os started H enc)

/-- The statement. -/
theorem proved : Rows.FnExactRuleOkSaid := over
#print axioms proved
end Go.Proofs.Ytjhlmnbkfdkmpaa.fnExactRuleOk
