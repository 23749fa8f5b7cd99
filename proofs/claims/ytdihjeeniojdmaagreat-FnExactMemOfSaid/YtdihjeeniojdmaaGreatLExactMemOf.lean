/- The law FnExactMemOf: its arguments as data, and the step to the given row. The walk and the plain law come from the texts that are imported. -/
import Derived.Test.YtdihjeeniojdmaaGreatRows
import Derived.Test.YtdihjeeniojdmaaGreatEG
import Derived.Test.YtdihjeeniojdmaaGreatWExactMemOfWalk
import Derived.Test.YtdihjeeniojdmaaGreatTExactMemOfb
import Derived.OpenShut
import Derived.LaidLaws
import Derived.Handed
import Derived.Lib.LaidTab
import Derived.ShutString
import Derived.ChangeOld
namespace Go.Proofs.YtdihjeeniojdmaaGreat.fnExactMemOf
open Eng
open Go.ChangeShapes Go.WideShapes Go.ChangeAt Go.RowKit
open Go.ChangeMaps (open_string shut_string)
set_option linter.unusedVariables false
set_option linter.unusedSimpArgs false

theorem Un_9 : Tryz.prog.underlying 9 = some (.string) := by kernel_rfl
theorem Un_3 : Tryz.prog.underlying 3 = some (.int .i64) := by kernel_rfl
theorem Fl_380 : fldsOf Tryz.prog 380 = some [(0, 3, 1), (1, 3, 1), (2, 9, 1)] := by kernel_rfl
theorem Sz_380 : Sz Tryz.prog 380 3 = true := by kernel_rfl
theorem Fl_382 : fldsOf Tryz.prog 382 = some [(0, 3, 1), (1, 9, 1), (2, 380, 3)] := by kernel_rfl
theorem Sz_382 : Sz Tryz.prog 382 5 = true := by kernel_rfl
theorem Sl_376 : Sl Tryz.prog 376 382 5 = true := by kernel_rfl
theorem Un_4 : Tryz.prog.underlying 4 = some (.bool) := by kernel_rfl
theorem Fl_378 : fldsOf Tryz.prog 378 = some [(0, 9, 1), (1, 376, 1), (2, 4, 1)] := by kernel_rfl
theorem Sz_378 : Sz Tryz.prog 378 3 = true := by kernel_rfl
theorem Sl_216 : Sl Tryz.prog 216 378 3 = true := by kernel_rfl
theorem Fl_384 : fldsOf Tryz.prog 384 = some [(0, 3, 1), (1, 382, 5), (6, 382, 5)] := by kernel_rfl
theorem Sz_384 : Sz Tryz.prog 384 11 = true := by kernel_rfl
theorem Sl_217 : Sl Tryz.prog 217 384 11 = true := by kernel_rfl
theorem Fl_443 : fldsOf Tryz.prog 443 = some [(0, 9, 1), (1, 382, 5), (6, 382, 5)] := by kernel_rfl
theorem Sz_443 : Sz Tryz.prog 443 11 = true := by kernel_rfl
theorem Sl_386 : Sl Tryz.prog 386 443 11 = true := by kernel_rfl
theorem Fl_388 : fldsOf Tryz.prog 388 = some [(0, 3, 1), (1, 9, 1), (2, 386, 1), (3, 3, 1), (4, 9, 1)] := by kernel_rfl
theorem Sz_388 : Sz Tryz.prog 388 5 = true := by kernel_rfl
theorem Sl_218 : Sl Tryz.prog 218 388 5 = true := by kernel_rfl
theorem Fl_220 : fldsOf Tryz.prog 220 = some [(0, 9, 1), (1, 3, 1), (2, 216, 1), (3, 217, 1), (4, 218, 1)] := by kernel_rfl
theorem Sz_220 : Sz Tryz.prog 220 5 = true := by kernel_rfl
theorem Sl_22 : Sl Tryz.prog 22 220 5 = true := by kernel_rfl
theorem Fl_24 : fldsOf Tryz.prog 24 = some [(0, 9, 1), (1, 22, 1)] := by kernel_rfl
theorem Sz_24 : Sz Tryz.prog 24 2 = true := by kernel_rfl
theorem Sl_222 : Sl Tryz.prog 222 380 3 = true := by kernel_rfl
theorem Fl_235 : fldsOf Tryz.prog 235 = some [(0, 9, 1), (1, 222, 1)] := by kernel_rfl
theorem Sz_235 : Sz Tryz.prog 235 2 = true := by kernel_rfl
theorem Fl_237 : fldsOf Tryz.prog 237 = some [(0, 3, 1), (1, 235, 2)] := by kernel_rfl
theorem Sz_237 : Sz Tryz.prog 237 3 = true := by kernel_rfl
theorem Sl_33 : Sl Tryz.prog 33 237 3 = true := by kernel_rfl
theorem Fl_35 : fldsOf Tryz.prog 35 = some [(0, 33, 1), (1, 3, 1)] := by kernel_rfl
theorem Sz_35 : Sz Tryz.prog 35 2 = true := by kernel_rfl
theorem rd_380 {w : World} : Rdt Tryz.prog w 380 RTVal WfTVal := fun H enc sp held n cs x hx => by
  obtain ⟨ps, n1, hps, hl, hp⟩ := rd_struct (fl := [(0, 3, 1), (1, 3, 1), (2, 9, 1)]) Fl_380 rfl Sz_380 hx
  match ps, hl with
  | [q0, q1, q2], _ =>
    obtain ⟨y0, t0⟩ := hp 0 _ _ _ q0 rfl rfl
    obtain ⟨F0, z0, r0, -, w0⟩ := (rd_int Un_3) _ _ _ _ _ _ _ t0
    obtain ⟨rfl, rfl⟩ := r0
    obtain ⟨y1, t1⟩ := hp 1 _ _ _ q1 rfl rfl
    obtain ⟨F1, z1, r1, -, w1⟩ := (rd_int Un_3) _ _ _ _ _ _ _ t1
    obtain ⟨rfl, rfl⟩ := r1
    obtain ⟨y2, t2⟩ := hp 2 _ _ _ q2 rfl rfl
    obtain ⟨F2, z2, r2, -, w2⟩ := (rd_str Un_9) _ _ _ _ _ _ _ t2
    obtain ⟨rfl, rfl⟩ := r2
    have R : RTVal (Eng.hp w) _ cs (⟨z0, z1, z2⟩ : TVal) := ⟨by rw [hps]; rfl, rfl⟩
    exact ⟨_, _, R, RTVal.knows _ _ _ _ R, ⟨w0, w1, w2⟩⟩
theorem rd_382 {w : World} : Rdt Tryz.prog w 382 RTArg WfTArg := fun H enc sp held n cs x hx => by
  obtain ⟨ps, n1, hps, hl, hp⟩ := rd_struct (fl := [(0, 3, 1), (1, 9, 1), (2, 380, 3)]) Fl_382 rfl Sz_382 hx
  match ps, hl with
  | [q0, q1, q2], _ =>
    obtain ⟨y0, t0⟩ := hp 0 _ _ _ q0 rfl rfl
    obtain ⟨F0, z0, r0, -, w0⟩ := (rd_int Un_3) _ _ _ _ _ _ _ t0
    obtain ⟨rfl, rfl⟩ := r0
    obtain ⟨y1, t1⟩ := hp 1 _ _ _ q1 rfl rfl
    obtain ⟨F1, z1, r1, -, w1⟩ := (rd_str Un_9) _ _ _ _ _ _ _ t1
    obtain ⟨rfl, rfl⟩ := r1
    obtain ⟨y2, t2⟩ := hp 2 _ _ _ q2 rfl rfl
    obtain ⟨F2, z2, r2, -, w2⟩ := rd_380 _ _ _ _ _ _ _ t2
    obtain ⟨rfl, rfl⟩ := r2
    have R : RTArg (Eng.hp w) _ cs (⟨z0, z1, z2⟩ : TArg) := ⟨by rw [hps]; rfl, rfl⟩
    exact ⟨_, _, R, RTArg.knows _ _ _ _ R, ⟨w0, w1, w2⟩⟩
theorem rd_378 {w : World} : Rdt Tryz.prog w 378 RTPat WfTPat := fun H enc sp held n cs x hx => by
  obtain ⟨ps, n1, hps, hl, hp⟩ := rd_struct (fl := [(0, 9, 1), (1, 376, 1), (2, 4, 1)]) Fl_378 rfl Sz_378 hx
  match ps, hl with
  | [q0, q1, q2], _ =>
    obtain ⟨y0, t0⟩ := hp 0 _ _ _ q0 rfl rfl
    obtain ⟨F0, z0, r0, -, w0⟩ := (rd_str Un_9) _ _ _ _ _ _ _ t0
    obtain ⟨rfl, rfl⟩ := r0
    obtain ⟨y1, t1⟩ := hp 1 _ _ _ q1 rfl rfl
    obtain ⟨F1, z1, r1, -, w1⟩ := (rd_slice Sl_376 rd_382 rfl) _ _ _ _ _ _ _ t1
    obtain ⟨s1, rfl, r1⟩ := r1
    obtain ⟨y2, t2⟩ := hp 2 _ _ _ q2 rfl rfl
    obtain ⟨F2, z2, r2, -, w2⟩ := (rd_bool Un_4) _ _ _ _ _ _ _ t2
    obtain ⟨rfl, rfl⟩ := r2
    have R : RTPat (Eng.hp w) _ cs (⟨z0, z1, z2⟩ : TPat) := ⟨s1, F1, by rw [hps]; rfl, rfl, r1⟩
    exact ⟨_, _, R, RTPat.knows _ _ _ _ R, ⟨w0, w1, w2⟩⟩
theorem rd_384 {w : World} : Rdt Tryz.prog w 384 RTCond WfTCond := fun H enc sp held n cs x hx => by
  obtain ⟨ps, n1, hps, hl, hp⟩ := rd_struct (fl := [(0, 3, 1), (1, 382, 5), (6, 382, 5)]) Fl_384 rfl Sz_384 hx
  match ps, hl with
  | [q0, q1, q2], _ =>
    obtain ⟨y0, t0⟩ := hp 0 _ _ _ q0 rfl rfl
    obtain ⟨F0, z0, r0, -, w0⟩ := (rd_int Un_3) _ _ _ _ _ _ _ t0
    obtain ⟨rfl, rfl⟩ := r0
    obtain ⟨y1, t1⟩ := hp 1 _ _ _ q1 rfl rfl
    obtain ⟨F1, z1, r1, -, w1⟩ := rd_382 _ _ _ _ _ _ _ t1
    obtain ⟨rfl, rfl⟩ := r1
    obtain ⟨y2, t2⟩ := hp 2 _ _ _ q2 rfl rfl
    obtain ⟨F2, z2, r2, -, w2⟩ := rd_382 _ _ _ _ _ _ _ t2
    obtain ⟨rfl, rfl⟩ := r2
    have R : RTCond (Eng.hp w) _ cs (⟨z0, z1, z2⟩ : TCond) := ⟨by rw [hps]; rfl, rfl⟩
    exact ⟨_, _, R, RTCond.knows _ _ _ _ R, ⟨w0, w1, w2⟩⟩
theorem rd_443 {w : World} : Rdt Tryz.prog w 443 RTExpr WfTExpr := fun H enc sp held n cs x hx => by
  obtain ⟨ps, n1, hps, hl, hp⟩ := rd_struct (fl := [(0, 9, 1), (1, 382, 5), (6, 382, 5)]) Fl_443 rfl Sz_443 hx
  match ps, hl with
  | [q0, q1, q2], _ =>
    obtain ⟨y0, t0⟩ := hp 0 _ _ _ q0 rfl rfl
    obtain ⟨F0, z0, r0, -, w0⟩ := (rd_str Un_9) _ _ _ _ _ _ _ t0
    obtain ⟨rfl, rfl⟩ := r0
    obtain ⟨y1, t1⟩ := hp 1 _ _ _ q1 rfl rfl
    obtain ⟨F1, z1, r1, -, w1⟩ := rd_382 _ _ _ _ _ _ _ t1
    obtain ⟨rfl, rfl⟩ := r1
    obtain ⟨y2, t2⟩ := hp 2 _ _ _ q2 rfl rfl
    obtain ⟨F2, z2, r2, -, w2⟩ := rd_382 _ _ _ _ _ _ _ t2
    obtain ⟨rfl, rfl⟩ := r2
    have R : RTExpr (Eng.hp w) _ cs (⟨z0, z1, z2⟩ : TExpr) := ⟨by rw [hps]; rfl, rfl⟩
    exact ⟨_, _, R, RTExpr.knows _ _ _ _ R, ⟨w0, w1, w2⟩⟩
theorem rd_388 {w : World} : Rdt Tryz.prog w 388 RTAct WfTAct := fun H enc sp held n cs x hx => by
  obtain ⟨ps, n1, hps, hl, hp⟩ := rd_struct (fl := [(0, 3, 1), (1, 9, 1), (2, 386, 1), (3, 3, 1), (4, 9, 1)]) Fl_388 rfl Sz_388 hx
  match ps, hl with
  | [q0, q1, q2, q3, q4], _ =>
    obtain ⟨y0, t0⟩ := hp 0 _ _ _ q0 rfl rfl
    obtain ⟨F0, z0, r0, -, w0⟩ := (rd_int Un_3) _ _ _ _ _ _ _ t0
    obtain ⟨rfl, rfl⟩ := r0
    obtain ⟨y1, t1⟩ := hp 1 _ _ _ q1 rfl rfl
    obtain ⟨F1, z1, r1, -, w1⟩ := (rd_str Un_9) _ _ _ _ _ _ _ t1
    obtain ⟨rfl, rfl⟩ := r1
    obtain ⟨y2, t2⟩ := hp 2 _ _ _ q2 rfl rfl
    obtain ⟨F2, z2, r2, -, w2⟩ := (rd_slice Sl_386 rd_443 rfl) _ _ _ _ _ _ _ t2
    obtain ⟨s2, rfl, r2⟩ := r2
    obtain ⟨y3, t3⟩ := hp 3 _ _ _ q3 rfl rfl
    obtain ⟨F3, z3, r3, -, w3⟩ := (rd_int Un_3) _ _ _ _ _ _ _ t3
    obtain ⟨rfl, rfl⟩ := r3
    obtain ⟨y4, t4⟩ := hp 4 _ _ _ q4 rfl rfl
    obtain ⟨F4, z4, r4, -, w4⟩ := (rd_str Un_9) _ _ _ _ _ _ _ t4
    obtain ⟨rfl, rfl⟩ := r4
    have R : RTAct (Eng.hp w) _ cs (⟨z0, z1, z2, z3, z4⟩ : TAct) := ⟨s2, F2, by rw [hps]; rfl, rfl, r2⟩
    exact ⟨_, _, R, RTAct.knows _ _ _ _ R, ⟨w0, w1, w2, w3, w4⟩⟩
theorem rd_220 {w : World} : Rdt Tryz.prog w 220 RTRule WfTRule := fun H enc sp held n cs x hx => by
  obtain ⟨ps, n1, hps, hl, hp⟩ := rd_struct (fl := [(0, 9, 1), (1, 3, 1), (2, 216, 1), (3, 217, 1), (4, 218, 1)]) Fl_220 rfl Sz_220 hx
  match ps, hl with
  | [q0, q1, q2, q3, q4], _ =>
    obtain ⟨y0, t0⟩ := hp 0 _ _ _ q0 rfl rfl
    obtain ⟨F0, z0, r0, -, w0⟩ := (rd_str Un_9) _ _ _ _ _ _ _ t0
    obtain ⟨rfl, rfl⟩ := r0
    obtain ⟨y1, t1⟩ := hp 1 _ _ _ q1 rfl rfl
    obtain ⟨F1, z1, r1, -, w1⟩ := (rd_int Un_3) _ _ _ _ _ _ _ t1
    obtain ⟨rfl, rfl⟩ := r1
    obtain ⟨y2, t2⟩ := hp 2 _ _ _ q2 rfl rfl
    obtain ⟨F2, z2, r2, -, w2⟩ := (rd_slice Sl_216 rd_378 rfl) _ _ _ _ _ _ _ t2
    obtain ⟨s2, rfl, r2⟩ := r2
    obtain ⟨y3, t3⟩ := hp 3 _ _ _ q3 rfl rfl
    obtain ⟨F3, z3, r3, -, w3⟩ := (rd_slice Sl_217 rd_384 rfl) _ _ _ _ _ _ _ t3
    obtain ⟨s3, rfl, r3⟩ := r3
    obtain ⟨y4, t4⟩ := hp 4 _ _ _ q4 rfl rfl
    obtain ⟨F4, z4, r4, -, w4⟩ := (rd_slice Sl_218 rd_388 rfl) _ _ _ _ _ _ _ t4
    obtain ⟨s4, rfl, r4⟩ := r4
    have R : RTRule (Eng.hp w) _ cs (⟨z0, z1, z2, z3, z4⟩ : TRule) := ⟨s2, F2, s3, F3, s4, F4, by rw [hps]; rfl, rfl, r2, r3, r4⟩
    exact ⟨_, _, R, RTRule.knows _ _ _ _ R, ⟨w0, w1, w2, w3, w4⟩⟩
theorem rd_24 {w : World} : Rdt Tryz.prog w 24 RTDef WfTDef := fun H enc sp held n cs x hx => by
  obtain ⟨ps, n1, hps, hl, hp⟩ := rd_struct (fl := [(0, 9, 1), (1, 22, 1)]) Fl_24 rfl Sz_24 hx
  match ps, hl with
  | [q0, q1], _ =>
    obtain ⟨y0, t0⟩ := hp 0 _ _ _ q0 rfl rfl
    obtain ⟨F0, z0, r0, -, w0⟩ := (rd_str Un_9) _ _ _ _ _ _ _ t0
    obtain ⟨rfl, rfl⟩ := r0
    obtain ⟨y1, t1⟩ := hp 1 _ _ _ q1 rfl rfl
    obtain ⟨F1, z1, r1, -, w1⟩ := (rd_slice Sl_22 rd_220 rfl) _ _ _ _ _ _ _ t1
    obtain ⟨s1, rfl, r1⟩ := r1
    have R : RTDef (Eng.hp w) _ cs (⟨z0, z1⟩ : TDef) := ⟨s1, F1, by rw [hps]; rfl, rfl, r1⟩
    exact ⟨_, _, R, RTDef.knows _ _ _ _ R, ⟨w0, w1⟩⟩
theorem rd_235 {w : World} : Rdt Tryz.prog w 235 RTFact WfTFact := fun H enc sp held n cs x hx => by
  obtain ⟨ps, n1, hps, hl, hp⟩ := rd_struct (fl := [(0, 9, 1), (1, 222, 1)]) Fl_235 rfl Sz_235 hx
  match ps, hl with
  | [q0, q1], _ =>
    obtain ⟨y0, t0⟩ := hp 0 _ _ _ q0 rfl rfl
    obtain ⟨F0, z0, r0, -, w0⟩ := (rd_str Un_9) _ _ _ _ _ _ _ t0
    obtain ⟨rfl, rfl⟩ := r0
    obtain ⟨y1, t1⟩ := hp 1 _ _ _ q1 rfl rfl
    obtain ⟨F1, z1, r1, -, w1⟩ := (rd_slice Sl_222 rd_380 rfl) _ _ _ _ _ _ _ t1
    obtain ⟨s1, rfl, r1⟩ := r1
    have R : RTFact (Eng.hp w) _ cs (⟨z0, z1⟩ : TFact) := ⟨s1, F1, by rw [hps]; rfl, rfl, r1⟩
    exact ⟨_, _, R, RTFact.knows _ _ _ _ R, ⟨w0, w1⟩⟩
theorem rd_237 {w : World} : Rdt Tryz.prog w 237 RTItem WfTItem := fun H enc sp held n cs x hx => by
  obtain ⟨ps, n1, hps, hl, hp⟩ := rd_struct (fl := [(0, 3, 1), (1, 235, 2)]) Fl_237 rfl Sz_237 hx
  match ps, hl with
  | [q0, q1], _ =>
    obtain ⟨y0, t0⟩ := hp 0 _ _ _ q0 rfl rfl
    obtain ⟨F0, z0, r0, -, w0⟩ := (rd_int Un_3) _ _ _ _ _ _ _ t0
    obtain ⟨rfl, rfl⟩ := r0
    obtain ⟨y1, t1⟩ := hp 1 _ _ _ q1 rfl rfl
    obtain ⟨F1, z1, r1, -, w1⟩ := rd_235 _ _ _ _ _ _ _ t1
    obtain ⟨s1_0, G1_0, rfl, rfl, h1_0⟩ := r1
    have R : RTItem (Eng.hp w) _ cs (⟨z0, z1⟩ : TItem) := ⟨s1_0, F1, by rw [hps]; rfl, rfl, h1_0⟩
    exact ⟨_, _, R, RTItem.knows _ _ _ _ R, ⟨w0, w1⟩⟩
theorem rd_35 {w : World} : Rdt Tryz.prog w 35 RTStore WfTStore := fun H enc sp held n cs x hx => by
  obtain ⟨ps, n1, hps, hl, hp⟩ := rd_struct (fl := [(0, 33, 1), (1, 3, 1)]) Fl_35 rfl Sz_35 hx
  match ps, hl with
  | [q0, q1], _ =>
    obtain ⟨y0, t0⟩ := hp 0 _ _ _ q0 rfl rfl
    obtain ⟨F0, z0, r0, -, w0⟩ := (rd_slice Sl_33 rd_237 rfl) _ _ _ _ _ _ _ t0
    obtain ⟨s0, rfl, r0⟩ := r0
    obtain ⟨y1, t1⟩ := hp 1 _ _ _ q1 rfl rfl
    obtain ⟨F1, z1, r1, -, w1⟩ := (rd_int Un_3) _ _ _ _ _ _ _ t1
    obtain ⟨rfl, rfl⟩ := r1
    have R : RTStore (Eng.hp w) _ cs (⟨z0, z1⟩ : TStore) := ⟨s0, F0, by rw [hps]; rfl, rfl, r0⟩
    exact ⟨_, _, R, RTStore.knows _ _ _ _ R, ⟨w0, w1⟩⟩
theorem own : ownKnob Tryz.prog.godebug = none := by kernel_rfl
theorem laidOut : laidOutB Tryz.prog = true := by kernel_rfl
set_option maxRecDepth 100000 in
theorem lifted (os : Os) (started : os.Started) (H : Type) (enc : TypeId × Value → H) :
    ReturnsInHanded {} Tryz.checked os 11 .any (Rows.fnExactMemOfSpec.pre6 enc Tryz.prog Tryz.f11 Rows.fnExactMemOfRow.domain false) (Rows.fnExactMemOfSpec.post enc Tryz.prog Tryz.f11 false true false false) := by
  refine returnsInHanded_of_change (C := Tryz.checked) own started (by kernel_rfl) Tryz.func11
    (ChangeSpec.witness6 (enc := enc) (C := Tryz.checked) false ⟨#[], #[.agg #[.string ⟨#[]⟩, .slice none 0 0], .agg #[.slice none 0 0, .int .i64 0]], []⟩ 8 (by kernel_rfl) (by kernel_rfl) (by kernel_rfl) (by kernel_rfl)) ?_
  intro W base args ds gs before hval0 hW hcnd _
  have hval : ∀ (j : Nat) t v, Tryz.f11.params[j]? = some t → args[j]? = some v → Value.okWide Tryz.prog W .any base t v := hval0
  have hW' := hW
  obtain ⟨p, q, hA0, hV, rfl, hfz, hnd⟩ := hW
  have hA : DataW.TrodAll enc Tryz.prog W 0 (fun _ => true) true Tryz.f11.params.toList args.toList ds p := hA0
  rw [Tryz.params11] at hA hval
  obtain ⟨v0, vs0, d0, ds0, p0, q0, hargs, rfl, rfl, h0, r0⟩ := trodAll_cons hA
  obtain ⟨v1, vs1, d1, ds1, p1, q1, rfl, rfl, rfl, h1, r1⟩ := trodAll_cons r0
  obtain ⟨rfl, rfl, rfl⟩ := trodAll_nil r1
  obtain rfl : args = #[v0, v1] := by cases args; simp_all
  obtain ⟨rfl, rfl⟩ := trodVars_none hV
  have k0 := h0
  have lt0 : ∀ x ∈ p0, x.block < W.heap.size := by obtain ⟨m, hm⟩ := k0; exact DataW.trod_lt m _ _ _ hm
  have k1 := h1
  have lt1 : ∀ x ∈ p1, x.block < W.heap.size := by obtain ⟨m, hm⟩ := k1; exact DataW.trod_lt m _ _ _ hm
  obtain ⟨m0, hm0⟩ := h0
  obtain ⟨G0, x0, e0, -, w0⟩ := rd_24 _ _ _ _ _ _ _ hm0
  obtain ⟨cs0, rfl⟩ := agg_of (hval 0 24 v0 rfl rfl) Sz_24 (by kernel_rfl)
  obtain ⟨s0_0, F0_0, hc0, -, q0_0⟩ := e0
  obtain rfl := agg_cells hc0
  obtain ⟨m1, hm1⟩ := h1
  obtain ⟨G1, x1, e1, -, w1⟩ := rd_35 _ _ _ _ _ _ _ hm1
  obtain ⟨cs1, rfl⟩ := agg_of (hval 1 35 v1 rfl rfl) Sz_35 (by kernel_rfl)
  obtain ⟨s1_0, F1_0, hc1, -, q1_0⟩ := e1
  obtain rfl := agg_cells hc1
  clear hA0 hval0
  refine (m_l_FnExactMemOf_ok 1099511627776 (ba (hp_in W)) x0 x1 q0_0 q1_0 (law w0 w1)).mono fun e W1 ⟨he, bel⟩ => ?_
  subst he
  exact ⟨_, rfl, _, _, _, [], _, [], hW', trodAll_mk1 (shut_bool (by kernel_rfl : Tryz.prog.underlying 4 = some .bool) _), (trodAll_cons_mk (Below.trod laidOut (by kernel_rfl) (of_decide_eq_true (by kernel_rfl)) k0 bel lt0) (trodAll_cons_mk (Below.trod laidOut (by kernel_rfl) (of_decide_eq_true (by kernel_rfl)) k1 bel lt1) trodAll_mk0)), rfl, bel.frame _, fun h => by cases h⟩

theorem named : Tryz.pinned.checked.prog.funcNamed Rows.fnExactMemOfRow.func = some 11 := by kernel_rfl
theorem andT {a b : Bool} (ha : a = true) (hb : b = true) : (a && b) = true := by rw [ha, hb]; rfl
theorem cl0 : (Rows.fnExactMemOfRow.wf (OpenSpec.ofChange Rows.fnExactMemOfSpec)) = true := by kernel_rfl
theorem cl1 : (laidOutB Tryz.pinned.checked.prog) = true := by kernel_rfl
theorem cl2 : (mapsRowed Tryz.pinned.checked.prog) = true := by kernel_rfl
theorem cl3 : (Tryz.f11.params.all (Tryz.pinned.checked.prog.readableRec ·)) = true := by kernel_rfl
theorem cl4 : (namedTie Tryz.pinned.checked.prog Rows.fnExactMemOfRow.named Rows.fnExactMemOfSpec.vars) = true := by kernel_rfl
theorem cl5 : ((Rows.fnExactMemOfRow.stops == [])) = true := by kernel_rfl
theorem cl6 : ((Tryz.pinned.checked.prog.stops == [])) = true := by kernel_rfl
theorem cl7 : ((Rows.fnExactMemOfRow.knobs == [])) = true := by kernel_rfl
theorem cl8 : ((Tryz.pinned.checked.prog.stopKnobs == [])) = true := by kernel_rfl
theorem cl9 : ((Rows.fnExactMemOfRow.inPlace == Tryz.pinned.checked.prog.inPlace 11)) = true := by kernel_rfl
theorem cl10 : ((Rows.fnExactMemOfRow.unfollowed == Tryz.pinned.checked.prog.unfollowed 11)) = true := by kernel_rfl
theorem cl11 : ((Rows.fnExactMemOfRow.recurses == Tryz.pinned.checked.prog.recurses 11)) = true := by kernel_rfl
theorem cl12 : ((Rows.fnExactMemOfRow.named == Tryz.pinned.checked.prog.varsNamed 11)) = true := by kernel_rfl
theorem cl13 : ((Rows.fnExactMemOfRow.maps == (Tryz.f11.params.toList ++ Rows.fnExactMemOfSpec.plain.varTypes Tryz.pinned.checked.prog).any (Tryz.pinned.checked.prog.mapsRec ·))) = true := by kernel_rfl
theorem cl14 : ((Rows.fnExactMemOfRow.ifaces == (Tryz.f11.params.toList ++ Rows.fnExactMemOfSpec.plain.varTypes Tryz.pinned.checked.prog).any (Tryz.pinned.checked.prog.ifacesRec ·))) = true := by kernel_rfl
theorem cl15 : ((Rows.fnExactMemOfRow.mapsOut == Tryz.pinned.checked.prog.mapsAmong Tryz.f11.resultTypes.toList)) = true := by kernel_rfl
theorem cl16 : ((Rows.fnExactMemOfRow.loops == (Tryz.f11.params.toList ++ Rows.fnExactMemOfSpec.plain.varTypes Tryz.pinned.checked.prog).any (Tryz.pinned.checked.prog.loopsFrom ·))) = true := by kernel_rfl
theorem cl17 : ((Rows.fnExactMemOfRow.wideKeys == (Tryz.f11.params.toList ++ Rows.fnExactMemOfSpec.plain.varTypes Tryz.pinned.checked.prog ++ Tryz.f11.resultTypes.toList).any (Tryz.pinned.checked.prog.wideKeysFrom ·))) = true := by kernel_rfl
theorem cl18 : (Rows.fnExactMemOfSpec.vars.all (Tryz.pinned.checked.prog.varReadable ·)) = true := by kernel_rfl
theorem cl19 : (Tryz.f11.resultTypes.all (fun t => Tryz.pinned.checked.prog.readableRec t && decide (t < Tryz.pinned.checked.prog.types.size))) = true := by kernel_rfl
theorem cl20 : ((Rows.fnExactMemOfRow.ifacesOut == Tryz.f11.resultTypes.toList.any (Tryz.pinned.checked.prog.ifacesRec ·))) = true := by kernel_rfl
theorem cl21 : ((Rows.fnExactMemOfRow.loopsOut == Tryz.f11.resultTypes.toList.any (Tryz.pinned.checked.prog.loopsFrom ·))) = true := by kernel_rfl
theorem cl22 : ((Rows.fnExactMemOfRow.plainKeys == Tryz.pinned.checked.prog.plainKeys)) = true := by kernel_rfl
theorem cl23 : (Rows.fnExactMemOfRow.shortTexts.isNone) = true := by kernel_rfl
theorem cl24 : (Tryz.pinned.checked.prog.stopsHeard) = true := by kernel_rfl
theorem cl25 : (Tryz.pinned.checked.prog.mayEnter) = true := by kernel_rfl
theorem cl26 : ((Rows.fnExactMemOfRow.lifted == Tryz.pinned.checked.prog.liftsFinal)) = true := by kernel_rfl
theorem cl27 : ((Tryz.pinned.checked.prog.make == some Rows.fnExactMemOfRow.make)) = true := by kernel_rfl
theorem cl28 : ((Rows.fnExactMemOfRow.kinds == (if Rows.fnExactMemOfRow.domain.isEmpty then [] else Tryz.f11.params.toList.map fun t => match Tryz.pinned.checked.prog.underlying t with | some (.int k) => some k | _ => none))) = true := by kernel_rfl
theorem cl29 : ((Rows.fnExactMemOfRow.pinned == Rows.fnExactMemOfRow.pinnedBy)) = true := by kernel_rfl
theorem cl30 : ((Rows.fnExactMemOfRow.veiled == (Tryz.f11.params.toList ++ Rows.fnExactMemOfSpec.plain.varTypes Tryz.pinned.checked.prog ++ Tryz.f11.resultTypes.toList).any (Tryz.pinned.checked.prog.veiledRec ·))) = true := by kernel_rfl
theorem cl31 : (Rows.fnExactMemOfRow.veiledFits Tryz.pinned.checked.prog Tryz.f11.params.toList (Tryz.f11.params.toList ++ Rows.fnExactMemOfSpec.plain.varTypes Tryz.pinned.checked.prog ++ Tryz.f11.resultTypes.toList)) = true := by kernel_rfl
set_option maxRecDepth 100000 in
theorem closed : joinedFacts Tryz.pinned.checked.prog 11 Tryz.f11 Rows.fnExactMemOfSpec Rows.fnExactMemOfRow = true := by
  unfold joinedFacts
  exact (andT (andT (andT (andT (andT (andT (andT (andT (andT (andT (andT (andT (andT (andT (andT (andT (andT (andT (andT (andT (andT (andT (andT (andT (andT (andT (andT (andT (andT (andT (andT cl0 cl1) cl2) cl3) cl4) cl5) cl6) cl7) cl8) cl9) cl10) cl11) cl12) cl13) cl14) cl15) cl16) cl17) cl18) cl19) cl20) cl21) cl22) cl23) cl24) cl25) cl26) cl27) cl28) cl29) cl30) cl31)
theorem inst : Tryz.f11.isInstance Tryz.pinned.checked.prog Rows.fnExactMemOfRow.origin Rows.fnExactMemOfRow.targs := of_decide_eq_true (by kernel_rfl)
theorem wrapped : Tryz.f11.isWrapper Tryz.pinned.checked.prog Rows.fnExactMemOfRow.wrapper Rows.fnExactMemOfRow.mainSum := by unfold Func.isWrapper; first | (rw [if_pos (by decide +kernel)]; kernel_rfl) | (rw [if_neg (by decide +kernel)]; exact ⟨rfl, rfl⟩)
theorem over : Rows.fnExactMemOfRow.holds Tryz.pinned (OpenSpec.ofChange Rows.fnExactMemOfSpec) :=
  OpenClaim.holds_of_wide 11 Tryz.f11 rfl rfl rfl rfl rfl rfl rfl ⟨rfl, rfl, rfl, rfl, rfl⟩ rfl rfl rfl rfl rfl named Tryz.func11 closed inst wrapped
    (fun os started H enc _ => lifted os started H enc)

/-- The statement. -/
theorem proved : Rows.FnExactMemOfSaid := over
#print axioms proved
end Go.Proofs.YtdihjeeniojdmaaGreat.fnExactMemOf
