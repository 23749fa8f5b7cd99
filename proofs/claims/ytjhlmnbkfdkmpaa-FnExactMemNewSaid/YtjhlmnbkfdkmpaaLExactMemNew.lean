/- The law FnExactMemNew: its arguments as data, and the step to the given row. The walk and the plain law come from the texts that are imported. -/
import Derived.Test.YtjhlmnbkfdkmpaaRows
import Derived.Test.YtjhlmnbkfdkmpaaEG
import Derived.Test.YtjhlmnbkfdkmpaaWExactMemNewWalk
import Derived.Test.YtjhlmnbkfdkmpaaPLMemNew
import Derived.OpenShut
import Derived.ShutString
import Derived.ChangeOld
namespace Go.Proofs.Ytjhlmnbkfdkmpaa.fnExactMemNew
open Eng
open Go.ChangeShapes Go.WideShapes Go.ChangeAt Go.RowKit
open Go.ChangeMaps (open_string shut_string)
set_option linter.unusedVariables false
set_option linter.unusedSimpArgs false

theorem Un_9 : Try.prog.underlying 9 = some (.string) := by kernel_rfl
theorem Un_3 : Try.prog.underlying 3 = some (.int .i64) := by kernel_rfl
theorem Fl_182 : fldsOf Try.prog 182 = some [(0, 3, 1), (1, 3, 1), (2, 9, 1)] := by kernel_rfl
theorem Sz_182 : Sz Try.prog 182 3 = true := by kernel_rfl
theorem Sl_218 : Sl Try.prog 218 182 3 = true := by kernel_rfl
theorem Sl_78 : Sl Try.prog 78 3 1 = true := by kernel_rfl
theorem Fl_220 : fldsOf Try.prog 220 = some [(0, 9, 1), (1, 3, 1), (2, 218, 1), (3, 78, 1)] := by kernel_rfl
theorem Sz_220 : Sz Try.prog 220 4 = true := by kernel_rfl
theorem Sl_33 : Sl Try.prog 33 220 4 = true := by kernel_rfl
theorem Fl_222 : fldsOf Try.prog 222 = some [(0, 78, 1), (1, 78, 1)] := by kernel_rfl
theorem Sz_222 : Sz Try.prog 222 2 = true := by kernel_rfl
theorem Sl_34 : Sl Try.prog 34 222 2 = true := by kernel_rfl
theorem Fl_36 : fldsOf Try.prog 36 = some [(0, 33, 1), (1, 34, 1)] := by kernel_rfl
theorem Sz_36 : Sz Try.prog 36 2 = true := by kernel_rfl
theorem rd_182 {w : World} : Rdt Try.prog w 182 RTVal WfTVal := fun H enc sp held n cs x hx => by
  obtain ⟨ps, n1, hps, hl, hp⟩ := rd_struct (fl := [(0, 3, 1), (1, 3, 1), (2, 9, 1)]) Fl_182 rfl Sz_182 hx
  match ps, hl with
  | [q0, q1, q2], _ =>
    obtain ⟨y0, t0⟩ := hp 0 _ _ _ q0 rfl rfl
    obtain ⟨F0, z0, r0, -, w0⟩ := (rd_int Un_3) _ _ _ _ _ _ _ t0
    obtain ⟨rfl, rfl⟩ := r0
    obtain ⟨y1, t1⟩ := hp 1 _ _ _ q1 rfl rfl
    obtain ⟨F1, z1, r1, -, w1⟩ := (rd_int Un_3) _ _ _ _ _ _ _ t1
    obtain ⟨rfl, rfl⟩ := r1
    obtain ⟨y2, t2⟩ := hp 2 _ _ _ q2 rfl rfl
    obtain ⟨F2, z2, r2, -, w2⟩ := (rd_str Un_9) _ _ _ _ _ _ _ t2
    obtain ⟨rfl, rfl⟩ := r2
    have R : RTVal (Eng.hp w) _ cs (⟨z0, z1, z2⟩ : TVal) := ⟨by rw [hps]; rfl, rfl⟩
    exact ⟨_, _, R, RTVal.knows _ _ _ _ R, ⟨w0, w1, w2⟩⟩
theorem rd_220 {w : World} : Rdt Try.prog w 220 RTAlpha WfTAlpha := fun H enc sp held n cs x hx => by
  obtain ⟨ps, n1, hps, hl, hp⟩ := rd_struct (fl := [(0, 9, 1), (1, 3, 1), (2, 218, 1), (3, 78, 1)]) Fl_220 rfl Sz_220 hx
  match ps, hl with
  | [q0, q1, q2, q3], _ =>
    obtain ⟨y0, t0⟩ := hp 0 _ _ _ q0 rfl rfl
    obtain ⟨F0, z0, r0, -, w0⟩ := (rd_str Un_9) _ _ _ _ _ _ _ t0
    obtain ⟨rfl, rfl⟩ := r0
    obtain ⟨y1, t1⟩ := hp 1 _ _ _ q1 rfl rfl
    obtain ⟨F1, z1, r1, -, w1⟩ := (rd_int Un_3) _ _ _ _ _ _ _ t1
    obtain ⟨rfl, rfl⟩ := r1
    obtain ⟨y2, t2⟩ := hp 2 _ _ _ q2 rfl rfl
    obtain ⟨F2, z2, r2, -, w2⟩ := (rd_slice Sl_218 rd_182 rfl) _ _ _ _ _ _ _ t2
    obtain ⟨s2, rfl, r2⟩ := r2
    obtain ⟨y3, t3⟩ := hp 3 _ _ _ q3 rfl rfl
    obtain ⟨F3, z3, r3, -, w3⟩ := (rd_slice Sl_78 (rd_int Un_3) rfl) _ _ _ _ _ _ _ t3
    obtain ⟨s3, rfl, r3⟩ := r3
    have R : RTAlpha (Eng.hp w) _ cs (⟨z0, z1, z2, z3⟩ : TAlpha) := ⟨s2, F2, s3, F3, by rw [hps]; rfl, rfl, r2, r3⟩
    exact ⟨_, _, R, RTAlpha.knows _ _ _ _ R, ⟨w0, w1, w2, w3⟩⟩
theorem rd_222 {w : World} : Rdt Try.prog w 222 RTChain WfTChain := fun H enc sp held n cs x hx => by
  obtain ⟨ps, n1, hps, hl, hp⟩ := rd_struct (fl := [(0, 78, 1), (1, 78, 1)]) Fl_222 rfl Sz_222 hx
  match ps, hl with
  | [q0, q1], _ =>
    obtain ⟨y0, t0⟩ := hp 0 _ _ _ q0 rfl rfl
    obtain ⟨F0, z0, r0, -, w0⟩ := (rd_slice Sl_78 (rd_int Un_3) rfl) _ _ _ _ _ _ _ t0
    obtain ⟨s0, rfl, r0⟩ := r0
    obtain ⟨y1, t1⟩ := hp 1 _ _ _ q1 rfl rfl
    obtain ⟨F1, z1, r1, -, w1⟩ := (rd_slice Sl_78 (rd_int Un_3) rfl) _ _ _ _ _ _ _ t1
    obtain ⟨s1, rfl, r1⟩ := r1
    have R : RTChain (Eng.hp w) _ cs (⟨z0, z1⟩ : TChain) := ⟨s0, F0, s1, F1, by rw [hps]; rfl, rfl, r0, r1⟩
    exact ⟨_, _, R, RTChain.knows _ _ _ _ R, ⟨w0, w1⟩⟩
theorem rd_36 {w : World} : Rdt Try.prog w 36 RTNet WfTNet := fun H enc sp held n cs x hx => by
  obtain ⟨ps, n1, hps, hl, hp⟩ := rd_struct (fl := [(0, 33, 1), (1, 34, 1)]) Fl_36 rfl Sz_36 hx
  match ps, hl with
  | [q0, q1], _ =>
    obtain ⟨y0, t0⟩ := hp 0 _ _ _ q0 rfl rfl
    obtain ⟨F0, z0, r0, -, w0⟩ := (rd_slice Sl_33 rd_220 rfl) _ _ _ _ _ _ _ t0
    obtain ⟨s0, rfl, r0⟩ := r0
    obtain ⟨y1, t1⟩ := hp 1 _ _ _ q1 rfl rfl
    obtain ⟨F1, z1, r1, -, w1⟩ := (rd_slice Sl_34 rd_222 rfl) _ _ _ _ _ _ _ t1
    obtain ⟨s1, rfl, r1⟩ := r1
    have R : RTNet (Eng.hp w) _ cs (⟨z0, z1⟩ : TNet) := ⟨s0, F0, s1, F1, by rw [hps]; rfl, rfl, r0, r1⟩
    exact ⟨_, _, R, RTNet.knows _ _ _ _ R, ⟨w0, w1⟩⟩
theorem own : ownKnob Try.prog.godebug = none := by kernel_rfl
theorem laidOut : laidOutB Try.prog = true := by kernel_rfl
set_option maxRecDepth 100000 in
theorem lifted (os : Os) (started : os.Started) (H : Type) (enc : TypeId × Value → H) :
    ReturnsInHanded {} Try.checked os 4 .any (Rows.fnExactMemNewSpec.pre6 enc Try.prog Try.f4 Rows.fnExactMemNewRow.domain false) (Rows.fnExactMemNewSpec.post enc Try.prog Try.f4 false true false false) := by
  refine returnsInHanded_of_change (C := Try.checked) own started (by kernel_rfl) Try.func4
    (ChangeSpec.witness6 (enc := enc) (C := Try.checked) false ⟨#[], #[.agg #[.slice none 0 0, .slice none 0 0]], []⟩ 8 (by kernel_rfl) (by kernel_rfl) (by kernel_rfl) (by kernel_rfl)) ?_
  intro W base args ds gs before hval0 hW hcnd _
  have hval : ∀ (j : Nat) t v, Try.f4.params[j]? = some t → args[j]? = some v → Value.okWide Try.prog W .any base t v := hval0
  have hW' := hW
  obtain ⟨p, q, hA0, hV, rfl, hfz, hnd⟩ := hW
  have hA : DataW.TrodAll enc Try.prog W 0 (fun _ => true) true Try.f4.params.toList args.toList ds p := hA0
  rw [Try.params4] at hA hval
  obtain ⟨v0, vs0, d0, ds0, p0, q0, hargs, rfl, rfl, h0, r0⟩ := trodAll_cons hA
  obtain ⟨rfl, rfl, rfl⟩ := trodAll_nil r0
  obtain rfl : args = #[v0] := by cases args; simp_all
  obtain ⟨rfl, rfl⟩ := trodVars_none hV
  have k0 := h0
  have lt0 : ∀ x ∈ p0, x.block < W.heap.size := by obtain ⟨m, hm⟩ := k0; exact DataW.trod_lt m _ _ _ hm
  obtain ⟨m0, hm0⟩ := h0
  obtain ⟨G0, x0, e0, -, w0⟩ := rd_36 _ _ _ _ _ _ _ hm0
  obtain ⟨cs0, rfl⟩ := agg_of (hval 0 36 v0 rfl rfl) Sz_36 (by kernel_rfl)
  obtain ⟨s0_0, F0_0, s0_1, F0_1, hc0, -, q0_0, q0_1⟩ := e0
  obtain rfl := agg_cells hc0
  clear hA0 hval0
  refine (m_l_FnExactMemNew_ok (hp_in W) 1099511627776 x0 q0_0 q0_1 (law w0)).mono fun e W1 ⟨he, bel⟩ => ?_
  subst he
  exact ⟨_, rfl, _, _, _, [], _, [], hW', trodAll_mk1 (shut_bool (by kernel_rfl : Try.prog.underlying 4 = some .bool) _), (trodAll_cons_mk (Below.trod laidOut (by kernel_rfl) (of_decide_eq_true (by kernel_rfl)) k0 bel lt0) trodAll_mk0), rfl, bel.frame _, fun h => by cases h⟩

theorem named : Try.pinned.checked.prog.funcNamed Rows.fnExactMemNewRow.func = some 4 := by kernel_rfl
theorem closed : joinedFacts Try.pinned.checked.prog 4 Try.f4 Rows.fnExactMemNewSpec Rows.fnExactMemNewRow = true := by kernel_rfl
theorem inst : Try.f4.isInstance Try.pinned.checked.prog Rows.fnExactMemNewRow.origin Rows.fnExactMemNewRow.targs := of_decide_eq_true (by kernel_rfl)
theorem wrapped : Try.f4.isWrapper Try.pinned.checked.prog Rows.fnExactMemNewRow.wrapper Rows.fnExactMemNewRow.mainSum := by unfold Func.isWrapper; first | (rw [if_pos (by decide +kernel)]; kernel_rfl) | (rw [if_neg (by decide +kernel)]; exact ⟨rfl, rfl⟩)
theorem over : Rows.fnExactMemNewRow.holds Try.pinned (OpenSpec.ofChange Rows.fnExactMemNewSpec) :=
  OpenClaim.holds_of_wide 4 Try.f4 rfl rfl rfl rfl rfl rfl rfl ⟨rfl, rfl, rfl, rfl, rfl⟩ rfl rfl rfl rfl rfl named Try.func4 closed inst wrapped
    (fun os started H enc _ => lifted os started H enc)

/-- The statement. -/
theorem proved : Rows.FnExactMemNewSaid := over
#print axioms proved
end Go.Proofs.Ytjhlmnbkfdkmpaa.fnExactMemNew
