/- The law FnExactSetOf: its arguments as data, and the step to the given row. The walk and the plain law come from the texts that are imported. -/
import Derived.Test.YtjccaebpbieejaaGreatRows
import Derived.Test.YtjccaebpbieejaaGreatEG
import Derived.Test.YtjccaebpbieejaaGreatWExactSetOfWalk
import Derived.Test.YtjccaebpbieejaaGreatTExactSetOf
import Derived.OpenShut
import Derived.LaidLaws
import Derived.Handed
import Derived.Lib.LaidTab
import Derived.ShutString
import Derived.ChangeOld
namespace Go.Proofs.YtjccaebpbieejaaGreat.fnExactSetOf
open Eng
open Go.ChangeShapes Go.WideShapes Go.ChangeAt Go.RowKit
open Go.ChangeMaps (open_string shut_string)
set_option linter.unusedVariables false
set_option linter.unusedSimpArgs false

theorem Un_9 : Tryz.prog.underlying 9 = some (.string) := by kernel_rfl
theorem Un_3 : Tryz.prog.underlying 3 = some (.int .i64) := by kernel_rfl
theorem Fl_201 : fldsOf Tryz.prog 201 = some [(0, 3, 1), (1, 3, 1), (2, 9, 1)] := by kernel_rfl
theorem Sz_201 : Sz Tryz.prog 201 3 = true := by kernel_rfl
theorem Fl_203 : fldsOf Tryz.prog 203 = some [(0, 3, 1), (1, 9, 1), (2, 201, 3)] := by kernel_rfl
theorem Sz_203 : Sz Tryz.prog 203 5 = true := by kernel_rfl
theorem Sl_197 : Sl Tryz.prog 197 203 5 = true := by kernel_rfl
theorem Un_4 : Tryz.prog.underlying 4 = some (.bool) := by kernel_rfl
theorem Fl_199 : fldsOf Tryz.prog 199 = some [(0, 9, 1), (1, 197, 1), (2, 4, 1)] := by kernel_rfl
theorem Sz_199 : Sz Tryz.prog 199 3 = true := by kernel_rfl
theorem Sl_104 : Sl Tryz.prog 104 199 3 = true := by kernel_rfl
theorem Fl_205 : fldsOf Tryz.prog 205 = some [(0, 3, 1), (1, 203, 5), (6, 203, 5)] := by kernel_rfl
theorem Sz_205 : Sz Tryz.prog 205 11 = true := by kernel_rfl
theorem Sl_105 : Sl Tryz.prog 105 205 11 = true := by kernel_rfl
theorem Fl_248 : fldsOf Tryz.prog 248 = some [(0, 9, 1), (1, 203, 5), (6, 203, 5)] := by kernel_rfl
theorem Sz_248 : Sz Tryz.prog 248 11 = true := by kernel_rfl
theorem Sl_207 : Sl Tryz.prog 207 248 11 = true := by kernel_rfl
theorem Fl_209 : fldsOf Tryz.prog 209 = some [(0, 3, 1), (1, 9, 1), (2, 207, 1), (3, 3, 1), (4, 9, 1)] := by kernel_rfl
theorem Sz_209 : Sz Tryz.prog 209 5 = true := by kernel_rfl
theorem Sl_106 : Sl Tryz.prog 106 209 5 = true := by kernel_rfl
theorem Fl_108 : fldsOf Tryz.prog 108 = some [(0, 9, 1), (1, 3, 1), (2, 104, 1), (3, 105, 1), (4, 106, 1)] := by kernel_rfl
theorem Sz_108 : Sz Tryz.prog 108 5 = true := by kernel_rfl
theorem Sl_22 : Sl Tryz.prog 22 108 5 = true := by kernel_rfl
theorem Fl_24 : fldsOf Tryz.prog 24 = some [(0, 9, 1), (1, 22, 1)] := by kernel_rfl
theorem Sz_24 : Sz Tryz.prog 24 2 = true := by kernel_rfl
theorem Sl_77 : Sl Tryz.prog 77 3 1 = true := by kernel_rfl
theorem Fl_111 : fldsOf Tryz.prog 111 = some [(0, 77, 1)] := by kernel_rfl
theorem Sz_111 : Sz Tryz.prog 111 1 = true := by kernel_rfl
theorem Sl_25 : Sl Tryz.prog 25 111 1 = true := by kernel_rfl
theorem Fl_250 : fldsOf Tryz.prog 250 = some [(0, 77, 1), (1, 77, 1)] := by kernel_rfl
theorem Sz_250 : Sz Tryz.prog 250 2 = true := by kernel_rfl
theorem Sl_211 : Sl Tryz.prog 211 250 2 = true := by kernel_rfl
theorem Fl_213 : fldsOf Tryz.prog 213 = some [(0, 211, 1)] := by kernel_rfl
theorem Sz_213 : Sz Tryz.prog 213 1 = true := by kernel_rfl
theorem Sl_113 : Sl Tryz.prog 113 213 1 = true := by kernel_rfl
theorem Fl_115 : fldsOf Tryz.prog 115 = some [(0, 113, 1)] := by kernel_rfl
theorem Sz_115 : Sz Tryz.prog 115 1 = true := by kernel_rfl
theorem Sl_26 : Sl Tryz.prog 26 115 1 = true := by kernel_rfl
theorem Fl_28 : fldsOf Tryz.prog 28 = some [(0, 25, 1), (1, 26, 1)] := by kernel_rfl
theorem Sz_28 : Sz Tryz.prog 28 2 = true := by kernel_rfl
theorem Sl_117 : Sl Tryz.prog 117 201 3 = true := by kernel_rfl
theorem Fl_119 : fldsOf Tryz.prog 119 = some [(0, 9, 1), (1, 117, 1)] := by kernel_rfl
theorem Sz_119 : Sz Tryz.prog 119 2 = true := by kernel_rfl
theorem Fl_121 : fldsOf Tryz.prog 121 = some [(0, 3, 1), (1, 119, 2)] := by kernel_rfl
theorem Sz_121 : Sz Tryz.prog 121 3 = true := by kernel_rfl
theorem Sl_29 : Sl Tryz.prog 29 121 3 = true := by kernel_rfl
theorem Fl_31 : fldsOf Tryz.prog 31 = some [(0, 29, 1), (1, 3, 1)] := by kernel_rfl
theorem Sz_31 : Sz Tryz.prog 31 2 = true := by kernel_rfl
theorem rd_201 {w : World} : Rdt Tryz.prog w 201 RTVal WfTVal := fun H enc sp held n cs x hx => by
  obtain ⟨ps, n1, hps, hl, hp⟩ := rd_struct (fl := [(0, 3, 1), (1, 3, 1), (2, 9, 1)]) Fl_201 rfl Sz_201 hx
  match ps, hl with
  | [q0, q1, q2], _ =>
    obtain ⟨y0, t0⟩ := hp 0 _ _ _ q0 rfl rfl
    obtain ⟨F0, z0, r0, -, w0⟩ := (rd_int Un_3) _ _ _ _ _ _ _ t0
    obtain ⟨rfl, rfl⟩ := r0
    obtain ⟨y1, t1⟩ := hp 1 _ _ _ q1 rfl rfl
    obtain ⟨F1, z1, r1, -, w1⟩ := (rd_int Un_3) _ _ _ _ _ _ _ t1
    obtain ⟨rfl, rfl⟩ := r1
    obtain ⟨y2, t2⟩ := hp 2 _ _ _ q2 rfl rfl
    obtain ⟨F2, z2, r2, -, w2⟩ := (rd_str Un_9) _ _ _ _ _ _ _ t2
    obtain ⟨rfl, rfl⟩ := r2
    have R : RTVal (Eng.hp w) _ cs (⟨z0, z1, z2⟩ : TVal) := ⟨by rw [hps]; rfl, rfl⟩
    exact ⟨_, _, R, RTVal.knows _ _ _ _ R, ⟨w0, w1, w2⟩⟩
theorem rd_203 {w : World} : Rdt Tryz.prog w 203 RTArg WfTArg := fun H enc sp held n cs x hx => by
  obtain ⟨ps, n1, hps, hl, hp⟩ := rd_struct (fl := [(0, 3, 1), (1, 9, 1), (2, 201, 3)]) Fl_203 rfl Sz_203 hx
  match ps, hl with
  | [q0, q1, q2], _ =>
    obtain ⟨y0, t0⟩ := hp 0 _ _ _ q0 rfl rfl
    obtain ⟨F0, z0, r0, -, w0⟩ := (rd_int Un_3) _ _ _ _ _ _ _ t0
    obtain ⟨rfl, rfl⟩ := r0
    obtain ⟨y1, t1⟩ := hp 1 _ _ _ q1 rfl rfl
    obtain ⟨F1, z1, r1, -, w1⟩ := (rd_str Un_9) _ _ _ _ _ _ _ t1
    obtain ⟨rfl, rfl⟩ := r1
    obtain ⟨y2, t2⟩ := hp 2 _ _ _ q2 rfl rfl
    obtain ⟨F2, z2, r2, -, w2⟩ := rd_201 _ _ _ _ _ _ _ t2
    obtain ⟨rfl, rfl⟩ := r2
    have R : RTArg (Eng.hp w) _ cs (⟨z0, z1, z2⟩ : TArg) := ⟨by rw [hps]; rfl, rfl⟩
    exact ⟨_, _, R, RTArg.knows _ _ _ _ R, ⟨w0, w1, w2⟩⟩
theorem rd_199 {w : World} : Rdt Tryz.prog w 199 RTPat WfTPat := fun H enc sp held n cs x hx => by
  obtain ⟨ps, n1, hps, hl, hp⟩ := rd_struct (fl := [(0, 9, 1), (1, 197, 1), (2, 4, 1)]) Fl_199 rfl Sz_199 hx
  match ps, hl with
  | [q0, q1, q2], _ =>
    obtain ⟨y0, t0⟩ := hp 0 _ _ _ q0 rfl rfl
    obtain ⟨F0, z0, r0, -, w0⟩ := (rd_str Un_9) _ _ _ _ _ _ _ t0
    obtain ⟨rfl, rfl⟩ := r0
    obtain ⟨y1, t1⟩ := hp 1 _ _ _ q1 rfl rfl
    obtain ⟨F1, z1, r1, -, w1⟩ := (rd_slice Sl_197 rd_203 rfl) _ _ _ _ _ _ _ t1
    obtain ⟨s1, rfl, r1⟩ := r1
    obtain ⟨y2, t2⟩ := hp 2 _ _ _ q2 rfl rfl
    obtain ⟨F2, z2, r2, -, w2⟩ := (rd_bool Un_4) _ _ _ _ _ _ _ t2
    obtain ⟨rfl, rfl⟩ := r2
    have R : RTPat (Eng.hp w) _ cs (⟨z0, z1, z2⟩ : TPat) := ⟨s1, F1, by rw [hps]; rfl, rfl, r1⟩
    exact ⟨_, _, R, RTPat.knows _ _ _ _ R, ⟨w0, w1, w2⟩⟩
theorem rd_205 {w : World} : Rdt Tryz.prog w 205 RTCond WfTCond := fun H enc sp held n cs x hx => by
  obtain ⟨ps, n1, hps, hl, hp⟩ := rd_struct (fl := [(0, 3, 1), (1, 203, 5), (6, 203, 5)]) Fl_205 rfl Sz_205 hx
  match ps, hl with
  | [q0, q1, q2], _ =>
    obtain ⟨y0, t0⟩ := hp 0 _ _ _ q0 rfl rfl
    obtain ⟨F0, z0, r0, -, w0⟩ := (rd_int Un_3) _ _ _ _ _ _ _ t0
    obtain ⟨rfl, rfl⟩ := r0
    obtain ⟨y1, t1⟩ := hp 1 _ _ _ q1 rfl rfl
    obtain ⟨F1, z1, r1, -, w1⟩ := rd_203 _ _ _ _ _ _ _ t1
    obtain ⟨rfl, rfl⟩ := r1
    obtain ⟨y2, t2⟩ := hp 2 _ _ _ q2 rfl rfl
    obtain ⟨F2, z2, r2, -, w2⟩ := rd_203 _ _ _ _ _ _ _ t2
    obtain ⟨rfl, rfl⟩ := r2
    have R : RTCond (Eng.hp w) _ cs (⟨z0, z1, z2⟩ : TCond) := ⟨by rw [hps]; rfl, rfl⟩
    exact ⟨_, _, R, RTCond.knows _ _ _ _ R, ⟨w0, w1, w2⟩⟩
theorem rd_248 {w : World} : Rdt Tryz.prog w 248 RTExpr WfTExpr := fun H enc sp held n cs x hx => by
  obtain ⟨ps, n1, hps, hl, hp⟩ := rd_struct (fl := [(0, 9, 1), (1, 203, 5), (6, 203, 5)]) Fl_248 rfl Sz_248 hx
  match ps, hl with
  | [q0, q1, q2], _ =>
    obtain ⟨y0, t0⟩ := hp 0 _ _ _ q0 rfl rfl
    obtain ⟨F0, z0, r0, -, w0⟩ := (rd_str Un_9) _ _ _ _ _ _ _ t0
    obtain ⟨rfl, rfl⟩ := r0
    obtain ⟨y1, t1⟩ := hp 1 _ _ _ q1 rfl rfl
    obtain ⟨F1, z1, r1, -, w1⟩ := rd_203 _ _ _ _ _ _ _ t1
    obtain ⟨rfl, rfl⟩ := r1
    obtain ⟨y2, t2⟩ := hp 2 _ _ _ q2 rfl rfl
    obtain ⟨F2, z2, r2, -, w2⟩ := rd_203 _ _ _ _ _ _ _ t2
    obtain ⟨rfl, rfl⟩ := r2
    have R : RTExpr (Eng.hp w) _ cs (⟨z0, z1, z2⟩ : TExpr) := ⟨by rw [hps]; rfl, rfl⟩
    exact ⟨_, _, R, RTExpr.knows _ _ _ _ R, ⟨w0, w1, w2⟩⟩
theorem rd_209 {w : World} : Rdt Tryz.prog w 209 RTAct WfTAct := fun H enc sp held n cs x hx => by
  obtain ⟨ps, n1, hps, hl, hp⟩ := rd_struct (fl := [(0, 3, 1), (1, 9, 1), (2, 207, 1), (3, 3, 1), (4, 9, 1)]) Fl_209 rfl Sz_209 hx
  match ps, hl with
  | [q0, q1, q2, q3, q4], _ =>
    obtain ⟨y0, t0⟩ := hp 0 _ _ _ q0 rfl rfl
    obtain ⟨F0, z0, r0, -, w0⟩ := (rd_int Un_3) _ _ _ _ _ _ _ t0
    obtain ⟨rfl, rfl⟩ := r0
    obtain ⟨y1, t1⟩ := hp 1 _ _ _ q1 rfl rfl
    obtain ⟨F1, z1, r1, -, w1⟩ := (rd_str Un_9) _ _ _ _ _ _ _ t1
    obtain ⟨rfl, rfl⟩ := r1
    obtain ⟨y2, t2⟩ := hp 2 _ _ _ q2 rfl rfl
    obtain ⟨F2, z2, r2, -, w2⟩ := (rd_slice Sl_207 rd_248 rfl) _ _ _ _ _ _ _ t2
    obtain ⟨s2, rfl, r2⟩ := r2
    obtain ⟨y3, t3⟩ := hp 3 _ _ _ q3 rfl rfl
    obtain ⟨F3, z3, r3, -, w3⟩ := (rd_int Un_3) _ _ _ _ _ _ _ t3
    obtain ⟨rfl, rfl⟩ := r3
    obtain ⟨y4, t4⟩ := hp 4 _ _ _ q4 rfl rfl
    obtain ⟨F4, z4, r4, -, w4⟩ := (rd_str Un_9) _ _ _ _ _ _ _ t4
    obtain ⟨rfl, rfl⟩ := r4
    have R : RTAct (Eng.hp w) _ cs (⟨z0, z1, z2, z3, z4⟩ : TAct) := ⟨s2, F2, by rw [hps]; rfl, rfl, r2⟩
    exact ⟨_, _, R, RTAct.knows _ _ _ _ R, ⟨w0, w1, w2, w3, w4⟩⟩
theorem rd_108 {w : World} : Rdt Tryz.prog w 108 RTRule WfTRule := fun H enc sp held n cs x hx => by
  obtain ⟨ps, n1, hps, hl, hp⟩ := rd_struct (fl := [(0, 9, 1), (1, 3, 1), (2, 104, 1), (3, 105, 1), (4, 106, 1)]) Fl_108 rfl Sz_108 hx
  match ps, hl with
  | [q0, q1, q2, q3, q4], _ =>
    obtain ⟨y0, t0⟩ := hp 0 _ _ _ q0 rfl rfl
    obtain ⟨F0, z0, r0, -, w0⟩ := (rd_str Un_9) _ _ _ _ _ _ _ t0
    obtain ⟨rfl, rfl⟩ := r0
    obtain ⟨y1, t1⟩ := hp 1 _ _ _ q1 rfl rfl
    obtain ⟨F1, z1, r1, -, w1⟩ := (rd_int Un_3) _ _ _ _ _ _ _ t1
    obtain ⟨rfl, rfl⟩ := r1
    obtain ⟨y2, t2⟩ := hp 2 _ _ _ q2 rfl rfl
    obtain ⟨F2, z2, r2, -, w2⟩ := (rd_slice Sl_104 rd_199 rfl) _ _ _ _ _ _ _ t2
    obtain ⟨s2, rfl, r2⟩ := r2
    obtain ⟨y3, t3⟩ := hp 3 _ _ _ q3 rfl rfl
    obtain ⟨F3, z3, r3, -, w3⟩ := (rd_slice Sl_105 rd_205 rfl) _ _ _ _ _ _ _ t3
    obtain ⟨s3, rfl, r3⟩ := r3
    obtain ⟨y4, t4⟩ := hp 4 _ _ _ q4 rfl rfl
    obtain ⟨F4, z4, r4, -, w4⟩ := (rd_slice Sl_106 rd_209 rfl) _ _ _ _ _ _ _ t4
    obtain ⟨s4, rfl, r4⟩ := r4
    have R : RTRule (Eng.hp w) _ cs (⟨z0, z1, z2, z3, z4⟩ : TRule) := ⟨s2, F2, s3, F3, s4, F4, by rw [hps]; rfl, rfl, r2, r3, r4⟩
    exact ⟨_, _, R, RTRule.knows _ _ _ _ R, ⟨w0, w1, w2, w3, w4⟩⟩
theorem rd_24 {w : World} : Rdt Tryz.prog w 24 RTDef WfTDef := fun H enc sp held n cs x hx => by
  obtain ⟨ps, n1, hps, hl, hp⟩ := rd_struct (fl := [(0, 9, 1), (1, 22, 1)]) Fl_24 rfl Sz_24 hx
  match ps, hl with
  | [q0, q1], _ =>
    obtain ⟨y0, t0⟩ := hp 0 _ _ _ q0 rfl rfl
    obtain ⟨F0, z0, r0, -, w0⟩ := (rd_str Un_9) _ _ _ _ _ _ _ t0
    obtain ⟨rfl, rfl⟩ := r0
    obtain ⟨y1, t1⟩ := hp 1 _ _ _ q1 rfl rfl
    obtain ⟨F1, z1, r1, -, w1⟩ := (rd_slice Sl_22 rd_108 rfl) _ _ _ _ _ _ _ t1
    obtain ⟨s1, rfl, r1⟩ := r1
    have R : RTDef (Eng.hp w) _ cs (⟨z0, z1⟩ : TDef) := ⟨s1, F1, by rw [hps]; rfl, rfl, r1⟩
    exact ⟨_, _, R, RTDef.knows _ _ _ _ R, ⟨w0, w1⟩⟩
theorem rd_111 {w : World} : Rdt Tryz.prog w 111 RTIds WfTIds := fun H enc sp held n cs x hx => by
  obtain ⟨ps, n1, hps, hl, hp⟩ := rd_struct (fl := [(0, 77, 1)]) Fl_111 rfl Sz_111 hx
  match ps, hl with
  | [q0], _ =>
    obtain ⟨y0, t0⟩ := hp 0 _ _ _ q0 rfl rfl
    obtain ⟨F0, z0, r0, -, w0⟩ := (rd_slice Sl_77 (rd_int Un_3) rfl) _ _ _ _ _ _ _ t0
    obtain ⟨s0, rfl, r0⟩ := r0
    have R : RTIds (Eng.hp w) _ cs (⟨z0⟩ : TIds) := ⟨s0, F0, by rw [hps]; rfl, rfl, r0⟩
    exact ⟨_, _, R, RTIds.knows _ _ _ _ R, w0⟩
theorem rd_250 {w : World} : Rdt Tryz.prog w 250 RTTok WfTTok := fun H enc sp held n cs x hx => by
  obtain ⟨ps, n1, hps, hl, hp⟩ := rd_struct (fl := [(0, 77, 1), (1, 77, 1)]) Fl_250 rfl Sz_250 hx
  match ps, hl with
  | [q0, q1], _ =>
    obtain ⟨y0, t0⟩ := hp 0 _ _ _ q0 rfl rfl
    obtain ⟨F0, z0, r0, -, w0⟩ := (rd_slice Sl_77 (rd_int Un_3) rfl) _ _ _ _ _ _ _ t0
    obtain ⟨s0, rfl, r0⟩ := r0
    obtain ⟨y1, t1⟩ := hp 1 _ _ _ q1 rfl rfl
    obtain ⟨F1, z1, r1, -, w1⟩ := (rd_slice Sl_77 (rd_int Un_3) rfl) _ _ _ _ _ _ _ t1
    obtain ⟨s1, rfl, r1⟩ := r1
    have R : RTTok (Eng.hp w) _ cs (⟨z0, z1⟩ : TTok) := ⟨s0, F0, s1, F1, by rw [hps]; rfl, rfl, r0, r1⟩
    exact ⟨_, _, R, RTTok.knows _ _ _ _ R, ⟨w0, w1⟩⟩
theorem rd_213 {w : World} : Rdt Tryz.prog w 213 RTLevel WfTLevel := fun H enc sp held n cs x hx => by
  obtain ⟨ps, n1, hps, hl, hp⟩ := rd_struct (fl := [(0, 211, 1)]) Fl_213 rfl Sz_213 hx
  match ps, hl with
  | [q0], _ =>
    obtain ⟨y0, t0⟩ := hp 0 _ _ _ q0 rfl rfl
    obtain ⟨F0, z0, r0, -, w0⟩ := (rd_slice Sl_211 rd_250 rfl) _ _ _ _ _ _ _ t0
    obtain ⟨s0, rfl, r0⟩ := r0
    have R : RTLevel (Eng.hp w) _ cs (⟨z0⟩ : TLevel) := ⟨s0, F0, by rw [hps]; rfl, rfl, r0⟩
    exact ⟨_, _, R, RTLevel.knows _ _ _ _ R, w0⟩
theorem rd_115 {w : World} : Rdt Tryz.prog w 115 RTRow WfTRow := fun H enc sp held n cs x hx => by
  obtain ⟨ps, n1, hps, hl, hp⟩ := rd_struct (fl := [(0, 113, 1)]) Fl_115 rfl Sz_115 hx
  match ps, hl with
  | [q0], _ =>
    obtain ⟨y0, t0⟩ := hp 0 _ _ _ q0 rfl rfl
    obtain ⟨F0, z0, r0, -, w0⟩ := (rd_slice Sl_113 rd_213 rfl) _ _ _ _ _ _ _ t0
    obtain ⟨s0, rfl, r0⟩ := r0
    have R : RTRow (Eng.hp w) _ cs (⟨z0⟩ : TRow) := ⟨s0, F0, by rw [hps]; rfl, rfl, r0⟩
    exact ⟨_, _, R, RTRow.knows _ _ _ _ R, w0⟩
theorem rd_28 {w : World} : Rdt Tryz.prog w 28 RTMem WfTMem := fun H enc sp held n cs x hx => by
  obtain ⟨ps, n1, hps, hl, hp⟩ := rd_struct (fl := [(0, 25, 1), (1, 26, 1)]) Fl_28 rfl Sz_28 hx
  match ps, hl with
  | [q0, q1], _ =>
    obtain ⟨y0, t0⟩ := hp 0 _ _ _ q0 rfl rfl
    obtain ⟨F0, z0, r0, -, w0⟩ := (rd_slice Sl_25 rd_111 rfl) _ _ _ _ _ _ _ t0
    obtain ⟨s0, rfl, r0⟩ := r0
    obtain ⟨y1, t1⟩ := hp 1 _ _ _ q1 rfl rfl
    obtain ⟨F1, z1, r1, -, w1⟩ := (rd_slice Sl_26 rd_115 rfl) _ _ _ _ _ _ _ t1
    obtain ⟨s1, rfl, r1⟩ := r1
    have R : RTMem (Eng.hp w) _ cs (⟨z0, z1⟩ : TMem) := ⟨s0, F0, s1, F1, by rw [hps]; rfl, rfl, r0, r1⟩
    exact ⟨_, _, R, RTMem.knows _ _ _ _ R, ⟨w0, w1⟩⟩
theorem rd_119 {w : World} : Rdt Tryz.prog w 119 RTFact WfTFact := fun H enc sp held n cs x hx => by
  obtain ⟨ps, n1, hps, hl, hp⟩ := rd_struct (fl := [(0, 9, 1), (1, 117, 1)]) Fl_119 rfl Sz_119 hx
  match ps, hl with
  | [q0, q1], _ =>
    obtain ⟨y0, t0⟩ := hp 0 _ _ _ q0 rfl rfl
    obtain ⟨F0, z0, r0, -, w0⟩ := (rd_str Un_9) _ _ _ _ _ _ _ t0
    obtain ⟨rfl, rfl⟩ := r0
    obtain ⟨y1, t1⟩ := hp 1 _ _ _ q1 rfl rfl
    obtain ⟨F1, z1, r1, -, w1⟩ := (rd_slice Sl_117 rd_201 rfl) _ _ _ _ _ _ _ t1
    obtain ⟨s1, rfl, r1⟩ := r1
    have R : RTFact (Eng.hp w) _ cs (⟨z0, z1⟩ : TFact) := ⟨s1, F1, by rw [hps]; rfl, rfl, r1⟩
    exact ⟨_, _, R, RTFact.knows _ _ _ _ R, ⟨w0, w1⟩⟩
theorem rd_121 {w : World} : Rdt Tryz.prog w 121 RTItem WfTItem := fun H enc sp held n cs x hx => by
  obtain ⟨ps, n1, hps, hl, hp⟩ := rd_struct (fl := [(0, 3, 1), (1, 119, 2)]) Fl_121 rfl Sz_121 hx
  match ps, hl with
  | [q0, q1], _ =>
    obtain ⟨y0, t0⟩ := hp 0 _ _ _ q0 rfl rfl
    obtain ⟨F0, z0, r0, -, w0⟩ := (rd_int Un_3) _ _ _ _ _ _ _ t0
    obtain ⟨rfl, rfl⟩ := r0
    obtain ⟨y1, t1⟩ := hp 1 _ _ _ q1 rfl rfl
    obtain ⟨F1, z1, r1, -, w1⟩ := rd_119 _ _ _ _ _ _ _ t1
    obtain ⟨s1_0, G1_0, rfl, rfl, h1_0⟩ := r1
    have R : RTItem (Eng.hp w) _ cs (⟨z0, z1⟩ : TItem) := ⟨s1_0, F1, by rw [hps]; rfl, rfl, h1_0⟩
    exact ⟨_, _, R, RTItem.knows _ _ _ _ R, ⟨w0, w1⟩⟩
theorem rd_31 {w : World} : Rdt Tryz.prog w 31 RTStore WfTStore := fun H enc sp held n cs x hx => by
  obtain ⟨ps, n1, hps, hl, hp⟩ := rd_struct (fl := [(0, 29, 1), (1, 3, 1)]) Fl_31 rfl Sz_31 hx
  match ps, hl with
  | [q0, q1], _ =>
    obtain ⟨y0, t0⟩ := hp 0 _ _ _ q0 rfl rfl
    obtain ⟨F0, z0, r0, -, w0⟩ := (rd_slice Sl_29 rd_121 rfl) _ _ _ _ _ _ _ t0
    obtain ⟨s0, rfl, r0⟩ := r0
    obtain ⟨y1, t1⟩ := hp 1 _ _ _ q1 rfl rfl
    obtain ⟨F1, z1, r1, -, w1⟩ := (rd_int Un_3) _ _ _ _ _ _ _ t1
    obtain ⟨rfl, rfl⟩ := r1
    have R : RTStore (Eng.hp w) _ cs (⟨z0, z1⟩ : TStore) := ⟨s0, F0, by rw [hps]; rfl, rfl, r0⟩
    exact ⟨_, _, R, RTStore.knows _ _ _ _ R, ⟨w0, w1⟩⟩
theorem own : ownKnob Tryz.prog.godebug = none := by kernel_rfl
theorem laidOut : laidOutB Tryz.prog = true := by kernel_rfl
set_option maxRecDepth 100000 in
theorem lifted (os : Os) (started : os.Started) (H : Type) (enc : TypeId × Value → H) :
    ReturnsInHanded {} Tryz.checked os 3 .any (Rows.fnExactSetOfSpec.pre6 enc Tryz.prog Tryz.f3 Rows.fnExactSetOfRow.domain false) (Rows.fnExactSetOfSpec.post enc Tryz.prog Tryz.f3 false true false false) := by
  refine returnsInHanded_of_change (C := Tryz.checked) own started (by kernel_rfl) Tryz.func3
    (ChangeSpec.witness6 (enc := enc) (C := Tryz.checked) false ⟨#[], #[.agg #[.string ⟨#[]⟩, .slice none 0 0], .agg #[.slice none 0 0, .slice none 0 0], .agg #[.slice none 0 0, .int .i64 0]], []⟩ 8 (by kernel_rfl) (by kernel_rfl) (by kernel_rfl) (by kernel_rfl)) ?_
  intro W base args ds gs before hval0 hW hcnd _
  have hval : ∀ (j : Nat) t v, Tryz.f3.params[j]? = some t → args[j]? = some v → Value.okWide Tryz.prog W .any base t v := hval0
  have hW' := hW
  obtain ⟨p, q, hA0, hV, rfl, hfz, hnd⟩ := hW
  have hA : DataW.TrodAll enc Tryz.prog W 0 (fun _ => true) true Tryz.f3.params.toList args.toList ds p := hA0
  rw [Tryz.params3] at hA hval
  obtain ⟨v0, vs0, d0, ds0, p0, q0, hargs, rfl, rfl, h0, r0⟩ := trodAll_cons hA
  obtain ⟨v1, vs1, d1, ds1, p1, q1, rfl, rfl, rfl, h1, r1⟩ := trodAll_cons r0
  obtain ⟨v2, vs2, d2, ds2, p2, q2, rfl, rfl, rfl, h2, r2⟩ := trodAll_cons r1
  obtain ⟨rfl, rfl, rfl⟩ := trodAll_nil r2
  obtain rfl : args = #[v0, v1, v2] := by cases args; simp_all
  obtain ⟨rfl, rfl⟩ := trodVars_none hV
  have k0 := h0
  have lt0 : ∀ x ∈ p0, x.block < W.heap.size := by obtain ⟨m, hm⟩ := k0; exact DataW.trod_lt m _ _ _ hm
  have k1 := h1
  have lt1 : ∀ x ∈ p1, x.block < W.heap.size := by obtain ⟨m, hm⟩ := k1; exact DataW.trod_lt m _ _ _ hm
  have k2 := h2
  have lt2 : ∀ x ∈ p2, x.block < W.heap.size := by obtain ⟨m, hm⟩ := k2; exact DataW.trod_lt m _ _ _ hm
  obtain ⟨m0, hm0⟩ := h0
  obtain ⟨G0, x0, e0, -, w0⟩ := rd_24 _ _ _ _ _ _ _ hm0
  obtain ⟨cs0, rfl⟩ := agg_of (hval 0 24 v0 rfl rfl) Sz_24 (by kernel_rfl)
  obtain ⟨s0_0, F0_0, hc0, -, q0_0⟩ := e0
  obtain rfl := agg_cells hc0
  obtain ⟨m1, hm1⟩ := h1
  obtain ⟨G1, x1, e1, -, w1⟩ := rd_28 _ _ _ _ _ _ _ hm1
  obtain ⟨cs1, rfl⟩ := agg_of (hval 1 28 v1 rfl rfl) Sz_28 (by kernel_rfl)
  obtain ⟨s1_0, F1_0, s1_1, F1_1, hc1, -, q1_0, q1_1⟩ := e1
  obtain rfl := agg_cells hc1
  obtain ⟨m2, hm2⟩ := h2
  obtain ⟨G2, x2, e2, -, w2⟩ := rd_31 _ _ _ _ _ _ _ hm2
  obtain ⟨cs2, rfl⟩ := agg_of (hval 2 31 v2 rfl rfl) Sz_31 (by kernel_rfl)
  obtain ⟨s2_0, F2_0, hc2, -, q2_0⟩ := e2
  obtain rfl := agg_cells hc2
  clear hA0 hval0
  refine (m_l_FnExactSetOf_ok 1099511627776 (ba (hp_in W)) x0 x1 x2 q0_0 q1_0 q1_1 q2_0 (law w0 w1 w2)).mono fun e W1 ⟨he, bel⟩ => ?_
  subst he
  replace bel := bel.toBelow
  exact ⟨_, rfl, _, _, _, [], _, [], hW', trodAll_mk1 (shut_bool (by kernel_rfl : Tryz.prog.underlying 4 = some .bool) _), (trodAll_cons_mk (Below.trod laidOut (by kernel_rfl) (of_decide_eq_true (by kernel_rfl)) k0 bel lt0) (trodAll_cons_mk (Below.trod laidOut (by kernel_rfl) (of_decide_eq_true (by kernel_rfl)) k1 bel lt1) (trodAll_cons_mk (Below.trod laidOut (by kernel_rfl) (of_decide_eq_true (by kernel_rfl)) k2 bel lt2) trodAll_mk0))), rfl, bel.frame _, fun h => by cases h⟩

theorem named : Tryz.pinned.checked.prog.funcNamed Rows.fnExactSetOfRow.func = some 3 := by kernel_rfl
theorem andT {a b : Bool} (ha : a = true) (hb : b = true) : (a && b) = true := by rw [ha, hb]; rfl
theorem cl0 : (Rows.fnExactSetOfRow.wf (OpenSpec.ofChange Rows.fnExactSetOfSpec)) = true := by kernel_rfl
theorem cl1 : (laidOutB Tryz.pinned.checked.prog) = true := by kernel_rfl
theorem cl2 : (mapsRowed Tryz.pinned.checked.prog) = true := by kernel_rfl
theorem cl3 : (Tryz.f3.params.all (Tryz.pinned.checked.prog.readableRec ·)) = true := by kernel_rfl
theorem cl4 : (namedTie Tryz.pinned.checked.prog Rows.fnExactSetOfRow.named Rows.fnExactSetOfSpec.vars) = true := by kernel_rfl
theorem cl5 : ((Rows.fnExactSetOfRow.stops == [])) = true := by kernel_rfl
theorem cl6 : ((Tryz.pinned.checked.prog.stops == [])) = true := by kernel_rfl
theorem cl7 : ((Rows.fnExactSetOfRow.knobs == [])) = true := by kernel_rfl
theorem cl8 : ((Tryz.pinned.checked.prog.stopKnobs == [])) = true := by kernel_rfl
theorem cl9 : ((Rows.fnExactSetOfRow.inPlace == Tryz.pinned.checked.prog.inPlace 3)) = true := by kernel_rfl
theorem cl10 : ((Rows.fnExactSetOfRow.unfollowed == Tryz.pinned.checked.prog.unfollowed 3)) = true := by kernel_rfl
theorem cl11 : ((Rows.fnExactSetOfRow.recurses == Tryz.pinned.checked.prog.recurses 3)) = true := by kernel_rfl
theorem cl12 : ((Rows.fnExactSetOfRow.named == Tryz.pinned.checked.prog.varsNamed 3)) = true := by kernel_rfl
theorem cl13 : ((Rows.fnExactSetOfRow.maps == (Tryz.f3.params.toList ++ Rows.fnExactSetOfSpec.plain.varTypes Tryz.pinned.checked.prog).any (Tryz.pinned.checked.prog.mapsRec ·))) = true := by kernel_rfl
theorem cl14 : ((Rows.fnExactSetOfRow.ifaces == (Tryz.f3.params.toList ++ Rows.fnExactSetOfSpec.plain.varTypes Tryz.pinned.checked.prog).any (Tryz.pinned.checked.prog.ifacesRec ·))) = true := by kernel_rfl
theorem cl15 : ((Rows.fnExactSetOfRow.mapsOut == Tryz.pinned.checked.prog.mapsAmong Tryz.f3.resultTypes.toList)) = true := by kernel_rfl
theorem cl16 : ((Rows.fnExactSetOfRow.loops == (Tryz.f3.params.toList ++ Rows.fnExactSetOfSpec.plain.varTypes Tryz.pinned.checked.prog).any (Tryz.pinned.checked.prog.loopsFrom ·))) = true := by kernel_rfl
theorem cl17 : ((Rows.fnExactSetOfRow.wideKeys == (Tryz.f3.params.toList ++ Rows.fnExactSetOfSpec.plain.varTypes Tryz.pinned.checked.prog ++ Tryz.f3.resultTypes.toList).any (Tryz.pinned.checked.prog.wideKeysFrom ·))) = true := by kernel_rfl
theorem cl18 : (Rows.fnExactSetOfSpec.vars.all (Tryz.pinned.checked.prog.varReadable ·)) = true := by kernel_rfl
theorem cl19 : (Tryz.f3.resultTypes.all (fun t => Tryz.pinned.checked.prog.readableRec t && decide (t < Tryz.pinned.checked.prog.types.size))) = true := by kernel_rfl
theorem cl20 : ((Rows.fnExactSetOfRow.ifacesOut == Tryz.f3.resultTypes.toList.any (Tryz.pinned.checked.prog.ifacesRec ·))) = true := by kernel_rfl
theorem cl21 : ((Rows.fnExactSetOfRow.loopsOut == Tryz.f3.resultTypes.toList.any (Tryz.pinned.checked.prog.loopsFrom ·))) = true := by kernel_rfl
theorem cl22 : ((Rows.fnExactSetOfRow.plainKeys == Tryz.pinned.checked.prog.plainKeys)) = true := by kernel_rfl
theorem cl23 : (Rows.fnExactSetOfRow.shortTexts.isNone) = true := by kernel_rfl
theorem cl24 : (Tryz.pinned.checked.prog.stopsHeard) = true := by kernel_rfl
theorem cl25 : (Tryz.pinned.checked.prog.mayEnter) = true := by kernel_rfl
theorem cl26 : ((Rows.fnExactSetOfRow.lifted == Tryz.pinned.checked.prog.liftsFinal)) = true := by kernel_rfl
theorem cl27 : ((Tryz.pinned.checked.prog.make == some Rows.fnExactSetOfRow.make)) = true := by kernel_rfl
theorem cl28 : ((Rows.fnExactSetOfRow.kinds == (if Rows.fnExactSetOfRow.domain.isEmpty then [] else Tryz.f3.params.toList.map fun t => match Tryz.pinned.checked.prog.underlying t with | some (.int k) => some k | _ => none))) = true := by kernel_rfl
theorem cl29 : ((Rows.fnExactSetOfRow.pinned == Rows.fnExactSetOfRow.pinnedBy)) = true := by kernel_rfl
theorem cl30 : ((Rows.fnExactSetOfRow.veiled == (Tryz.f3.params.toList ++ Rows.fnExactSetOfSpec.plain.varTypes Tryz.pinned.checked.prog ++ Tryz.f3.resultTypes.toList).any (Tryz.pinned.checked.prog.veiledRec ·))) = true := by kernel_rfl
theorem cl31 : (Rows.fnExactSetOfRow.veiledFits Tryz.pinned.checked.prog Tryz.f3.params.toList (Tryz.f3.params.toList ++ Rows.fnExactSetOfSpec.plain.varTypes Tryz.pinned.checked.prog ++ Tryz.f3.resultTypes.toList)) = true := by kernel_rfl
set_option maxRecDepth 100000 in
theorem closed : joinedFacts Tryz.pinned.checked.prog 3 Tryz.f3 Rows.fnExactSetOfSpec Rows.fnExactSetOfRow = true := by
  unfold joinedFacts
  exact (andT (andT (andT (andT (andT (andT (andT (andT (andT (andT (andT (andT (andT (andT (andT (andT (andT (andT (andT (andT (andT (andT (andT (andT (andT (andT (andT (andT (andT (andT (andT cl0 cl1) cl2) cl3) cl4) cl5) cl6) cl7) cl8) cl9) cl10) cl11) cl12) cl13) cl14) cl15) cl16) cl17) cl18) cl19) cl20) cl21) cl22) cl23) cl24) cl25) cl26) cl27) cl28) cl29) cl30) cl31)
theorem inst : Tryz.f3.isInstance Tryz.pinned.checked.prog Rows.fnExactSetOfRow.origin Rows.fnExactSetOfRow.targs := of_decide_eq_true (by kernel_rfl)
theorem wrapped : Tryz.f3.isWrapper Tryz.pinned.checked.prog Rows.fnExactSetOfRow.wrapper Rows.fnExactSetOfRow.mainSum := by unfold Func.isWrapper; first | (rw [if_pos (by decide +kernel)]; kernel_rfl) | (rw [if_neg (by decide +kernel)]; exact ⟨rfl, rfl⟩)
theorem over : Rows.fnExactSetOfRow.holds Tryz.pinned (OpenSpec.ofChange Rows.fnExactSetOfSpec) :=
  OpenClaim.holds_of_wide 3 Tryz.f3 rfl rfl rfl rfl rfl rfl rfl ⟨rfl, rfl, rfl, rfl, rfl⟩ rfl rfl rfl rfl rfl named Tryz.func3 closed inst wrapped
    (fun os started H enc _ => lifted os started H enc)

/-- The statement. -/
theorem proved : Rows.FnExactSetOfSaid := over
#print axioms proved
end Go.Proofs.YtjccaebpbieejaaGreat.fnExactSetOf
