/- The law FnExactAllMatches: its arguments as data, and the step to the given row. The walk and the plain law come from the texts that are imported. -/
import Derived.Test.YtelchcokfcdndaaGreatRows
import Derived.Test.YtelchcokfcdndaaGreatEG
import Derived.Test.YtelchcokfcdndaaGreatWExactAllMatchesWalk
import Derived.Test.YtelchcokfcdndaaGreatTExactAllMatches
import Derived.OpenShut
import Derived.LaidLaws
import Derived.Handed
import Derived.Lib.LaidTab
import Derived.ShutString
import Derived.ChangeOld
namespace Go.Proofs.YtelchcokfcdndaaGreat.fnExactAllMatches
open Eng
open Go.ChangeShapes Go.WideShapes Go.ChangeAt Go.RowKit
open Go.ChangeMaps (open_string shut_string)
set_option linter.unusedVariables false
set_option linter.unusedSimpArgs false

theorem Un_9 : Tryz.prog.underlying 9 = some (.string) := by kernel_rfl
theorem Un_3 : Tryz.prog.underlying 3 = some (.int .i64) := by kernel_rfl
theorem Fl_154 : fldsOf Tryz.prog 154 = some [(0, 3, 1), (1, 3, 1), (2, 9, 1)] := by kernel_rfl
theorem Sz_154 : Sz Tryz.prog 154 3 = true := by kernel_rfl
theorem Fl_156 : fldsOf Tryz.prog 156 = some [(0, 3, 1), (1, 9, 1), (2, 154, 3)] := by kernel_rfl
theorem Sz_156 : Sz Tryz.prog 156 5 = true := by kernel_rfl
theorem Sl_150 : Sl Tryz.prog 150 156 5 = true := by kernel_rfl
theorem Un_4 : Tryz.prog.underlying 4 = some (.bool) := by kernel_rfl
theorem Fl_152 : fldsOf Tryz.prog 152 = some [(0, 9, 1), (1, 150, 1), (2, 4, 1)] := by kernel_rfl
theorem Sz_152 : Sz Tryz.prog 152 3 = true := by kernel_rfl
theorem Sl_47 : Sl Tryz.prog 47 152 3 = true := by kernel_rfl
theorem Fl_158 : fldsOf Tryz.prog 158 = some [(0, 3, 1), (1, 156, 5), (6, 156, 5)] := by kernel_rfl
theorem Sz_158 : Sz Tryz.prog 158 11 = true := by kernel_rfl
theorem Sl_48 : Sl Tryz.prog 48 158 11 = true := by kernel_rfl
theorem Fl_241 : fldsOf Tryz.prog 241 = some [(0, 9, 1), (1, 156, 5), (6, 156, 5)] := by kernel_rfl
theorem Sz_241 : Sz Tryz.prog 241 11 = true := by kernel_rfl
theorem Sl_160 : Sl Tryz.prog 160 241 11 = true := by kernel_rfl
theorem Fl_162 : fldsOf Tryz.prog 162 = some [(0, 3, 1), (1, 9, 1), (2, 160, 1), (3, 3, 1), (4, 9, 1)] := by kernel_rfl
theorem Sz_162 : Sz Tryz.prog 162 5 = true := by kernel_rfl
theorem Sl_49 : Sl Tryz.prog 49 162 5 = true := by kernel_rfl
theorem Fl_51 : fldsOf Tryz.prog 51 = some [(0, 9, 1), (1, 3, 1), (2, 47, 1), (3, 48, 1), (4, 49, 1)] := by kernel_rfl
theorem Sz_51 : Sz Tryz.prog 51 5 = true := by kernel_rfl
theorem Sl_66 : Sl Tryz.prog 66 51 5 = true := by kernel_rfl
theorem Fl_68 : fldsOf Tryz.prog 68 = some [(0, 9, 1), (1, 66, 1)] := by kernel_rfl
theorem Sz_68 : Sz Tryz.prog 68 2 = true := by kernel_rfl
theorem Sl_164 : Sl Tryz.prog 164 154 3 = true := by kernel_rfl
theorem Fl_166 : fldsOf Tryz.prog 166 = some [(0, 9, 1), (1, 164, 1)] := by kernel_rfl
theorem Sz_166 : Sz Tryz.prog 166 2 = true := by kernel_rfl
theorem Fl_168 : fldsOf Tryz.prog 168 = some [(0, 3, 1), (1, 166, 2)] := by kernel_rfl
theorem Sz_168 : Sz Tryz.prog 168 3 = true := by kernel_rfl
theorem Sl_52 : Sl Tryz.prog 52 168 3 = true := by kernel_rfl
theorem Fl_54 : fldsOf Tryz.prog 54 = some [(0, 52, 1), (1, 3, 1)] := by kernel_rfl
theorem Sz_54 : Sz Tryz.prog 54 2 = true := by kernel_rfl
theorem rd_154 {w : World} : Rdt Tryz.prog w 154 RTVal WfTVal := fun H enc sp held n cs x hx => by
  obtain ⟨ps, n1, hps, hl, hp⟩ := rd_struct (fl := [(0, 3, 1), (1, 3, 1), (2, 9, 1)]) Fl_154 rfl Sz_154 hx
  match ps, hl with
  | [q0, q1, q2], _ =>
    obtain ⟨y0, t0⟩ := hp 0 _ _ _ q0 rfl rfl
    obtain ⟨F0, z0, r0, -, w0⟩ := (rd_int Un_3) _ _ _ _ _ _ _ t0
    obtain ⟨rfl, rfl⟩ := r0
    obtain ⟨y1, t1⟩ := hp 1 _ _ _ q1 rfl rfl
    obtain ⟨F1, z1, r1, -, w1⟩ := (rd_int Un_3) _ _ _ _ _ _ _ t1
    obtain ⟨rfl, rfl⟩ := r1
    obtain ⟨y2, t2⟩ := hp 2 _ _ _ q2 rfl rfl
    obtain ⟨F2, z2, r2, -, w2⟩ := (rd_str Un_9) _ _ _ _ _ _ _ t2
    obtain ⟨rfl, rfl⟩ := r2
    have R : RTVal (Eng.hp w) _ cs (⟨z0, z1, z2⟩ : TVal) := ⟨by rw [hps]; rfl, rfl⟩
    exact ⟨_, _, R, RTVal.knows _ _ _ _ R, ⟨w0, w1, w2⟩⟩
theorem rd_156 {w : World} : Rdt Tryz.prog w 156 RTArg WfTArg := fun H enc sp held n cs x hx => by
  obtain ⟨ps, n1, hps, hl, hp⟩ := rd_struct (fl := [(0, 3, 1), (1, 9, 1), (2, 154, 3)]) Fl_156 rfl Sz_156 hx
  match ps, hl with
  | [q0, q1, q2], _ =>
    obtain ⟨y0, t0⟩ := hp 0 _ _ _ q0 rfl rfl
    obtain ⟨F0, z0, r0, -, w0⟩ := (rd_int Un_3) _ _ _ _ _ _ _ t0
    obtain ⟨rfl, rfl⟩ := r0
    obtain ⟨y1, t1⟩ := hp 1 _ _ _ q1 rfl rfl
    obtain ⟨F1, z1, r1, -, w1⟩ := (rd_str Un_9) _ _ _ _ _ _ _ t1
    obtain ⟨rfl, rfl⟩ := r1
    obtain ⟨y2, t2⟩ := hp 2 _ _ _ q2 rfl rfl
    obtain ⟨F2, z2, r2, -, w2⟩ := rd_154 _ _ _ _ _ _ _ t2
    obtain ⟨rfl, rfl⟩ := r2
    have R : RTArg (Eng.hp w) _ cs (⟨z0, z1, z2⟩ : TArg) := ⟨by rw [hps]; rfl, rfl⟩
    exact ⟨_, _, R, RTArg.knows _ _ _ _ R, ⟨w0, w1, w2⟩⟩
theorem rd_152 {w : World} : Rdt Tryz.prog w 152 RTPat WfTPat := fun H enc sp held n cs x hx => by
  obtain ⟨ps, n1, hps, hl, hp⟩ := rd_struct (fl := [(0, 9, 1), (1, 150, 1), (2, 4, 1)]) Fl_152 rfl Sz_152 hx
  match ps, hl with
  | [q0, q1, q2], _ =>
    obtain ⟨y0, t0⟩ := hp 0 _ _ _ q0 rfl rfl
    obtain ⟨F0, z0, r0, -, w0⟩ := (rd_str Un_9) _ _ _ _ _ _ _ t0
    obtain ⟨rfl, rfl⟩ := r0
    obtain ⟨y1, t1⟩ := hp 1 _ _ _ q1 rfl rfl
    obtain ⟨F1, z1, r1, -, w1⟩ := (rd_slice Sl_150 rd_156 rfl) _ _ _ _ _ _ _ t1
    obtain ⟨s1, rfl, r1⟩ := r1
    obtain ⟨y2, t2⟩ := hp 2 _ _ _ q2 rfl rfl
    obtain ⟨F2, z2, r2, -, w2⟩ := (rd_bool Un_4) _ _ _ _ _ _ _ t2
    obtain ⟨rfl, rfl⟩ := r2
    have R : RTPat (Eng.hp w) _ cs (⟨z0, z1, z2⟩ : TPat) := ⟨s1, F1, by rw [hps]; rfl, rfl, r1⟩
    exact ⟨_, _, R, RTPat.knows _ _ _ _ R, ⟨w0, w1, w2⟩⟩
theorem rd_158 {w : World} : Rdt Tryz.prog w 158 RTCond WfTCond := fun H enc sp held n cs x hx => by
  obtain ⟨ps, n1, hps, hl, hp⟩ := rd_struct (fl := [(0, 3, 1), (1, 156, 5), (6, 156, 5)]) Fl_158 rfl Sz_158 hx
  match ps, hl with
  | [q0, q1, q2], _ =>
    obtain ⟨y0, t0⟩ := hp 0 _ _ _ q0 rfl rfl
    obtain ⟨F0, z0, r0, -, w0⟩ := (rd_int Un_3) _ _ _ _ _ _ _ t0
    obtain ⟨rfl, rfl⟩ := r0
    obtain ⟨y1, t1⟩ := hp 1 _ _ _ q1 rfl rfl
    obtain ⟨F1, z1, r1, -, w1⟩ := rd_156 _ _ _ _ _ _ _ t1
    obtain ⟨rfl, rfl⟩ := r1
    obtain ⟨y2, t2⟩ := hp 2 _ _ _ q2 rfl rfl
    obtain ⟨F2, z2, r2, -, w2⟩ := rd_156 _ _ _ _ _ _ _ t2
    obtain ⟨rfl, rfl⟩ := r2
    have R : RTCond (Eng.hp w) _ cs (⟨z0, z1, z2⟩ : TCond) := ⟨by rw [hps]; rfl, rfl⟩
    exact ⟨_, _, R, RTCond.knows _ _ _ _ R, ⟨w0, w1, w2⟩⟩
theorem rd_241 {w : World} : Rdt Tryz.prog w 241 RTExpr WfTExpr := fun H enc sp held n cs x hx => by
  obtain ⟨ps, n1, hps, hl, hp⟩ := rd_struct (fl := [(0, 9, 1), (1, 156, 5), (6, 156, 5)]) Fl_241 rfl Sz_241 hx
  match ps, hl with
  | [q0, q1, q2], _ =>
    obtain ⟨y0, t0⟩ := hp 0 _ _ _ q0 rfl rfl
    obtain ⟨F0, z0, r0, -, w0⟩ := (rd_str Un_9) _ _ _ _ _ _ _ t0
    obtain ⟨rfl, rfl⟩ := r0
    obtain ⟨y1, t1⟩ := hp 1 _ _ _ q1 rfl rfl
    obtain ⟨F1, z1, r1, -, w1⟩ := rd_156 _ _ _ _ _ _ _ t1
    obtain ⟨rfl, rfl⟩ := r1
    obtain ⟨y2, t2⟩ := hp 2 _ _ _ q2 rfl rfl
    obtain ⟨F2, z2, r2, -, w2⟩ := rd_156 _ _ _ _ _ _ _ t2
    obtain ⟨rfl, rfl⟩ := r2
    have R : RTExpr (Eng.hp w) _ cs (⟨z0, z1, z2⟩ : TExpr) := ⟨by rw [hps]; rfl, rfl⟩
    exact ⟨_, _, R, RTExpr.knows _ _ _ _ R, ⟨w0, w1, w2⟩⟩
theorem rd_162 {w : World} : Rdt Tryz.prog w 162 RTAct WfTAct := fun H enc sp held n cs x hx => by
  obtain ⟨ps, n1, hps, hl, hp⟩ := rd_struct (fl := [(0, 3, 1), (1, 9, 1), (2, 160, 1), (3, 3, 1), (4, 9, 1)]) Fl_162 rfl Sz_162 hx
  match ps, hl with
  | [q0, q1, q2, q3, q4], _ =>
    obtain ⟨y0, t0⟩ := hp 0 _ _ _ q0 rfl rfl
    obtain ⟨F0, z0, r0, -, w0⟩ := (rd_int Un_3) _ _ _ _ _ _ _ t0
    obtain ⟨rfl, rfl⟩ := r0
    obtain ⟨y1, t1⟩ := hp 1 _ _ _ q1 rfl rfl
    obtain ⟨F1, z1, r1, -, w1⟩ := (rd_str Un_9) _ _ _ _ _ _ _ t1
    obtain ⟨rfl, rfl⟩ := r1
    obtain ⟨y2, t2⟩ := hp 2 _ _ _ q2 rfl rfl
    obtain ⟨F2, z2, r2, -, w2⟩ := (rd_slice Sl_160 rd_241 rfl) _ _ _ _ _ _ _ t2
    obtain ⟨s2, rfl, r2⟩ := r2
    obtain ⟨y3, t3⟩ := hp 3 _ _ _ q3 rfl rfl
    obtain ⟨F3, z3, r3, -, w3⟩ := (rd_int Un_3) _ _ _ _ _ _ _ t3
    obtain ⟨rfl, rfl⟩ := r3
    obtain ⟨y4, t4⟩ := hp 4 _ _ _ q4 rfl rfl
    obtain ⟨F4, z4, r4, -, w4⟩ := (rd_str Un_9) _ _ _ _ _ _ _ t4
    obtain ⟨rfl, rfl⟩ := r4
    have R : RTAct (Eng.hp w) _ cs (⟨z0, z1, z2, z3, z4⟩ : TAct) := ⟨s2, F2, by rw [hps]; rfl, rfl, r2⟩
    exact ⟨_, _, R, RTAct.knows _ _ _ _ R, ⟨w0, w1, w2, w3, w4⟩⟩
theorem rd_51 {w : World} : Rdt Tryz.prog w 51 RTRule WfTRule := fun H enc sp held n cs x hx => by
  obtain ⟨ps, n1, hps, hl, hp⟩ := rd_struct (fl := [(0, 9, 1), (1, 3, 1), (2, 47, 1), (3, 48, 1), (4, 49, 1)]) Fl_51 rfl Sz_51 hx
  match ps, hl with
  | [q0, q1, q2, q3, q4], _ =>
    obtain ⟨y0, t0⟩ := hp 0 _ _ _ q0 rfl rfl
    obtain ⟨F0, z0, r0, -, w0⟩ := (rd_str Un_9) _ _ _ _ _ _ _ t0
    obtain ⟨rfl, rfl⟩ := r0
    obtain ⟨y1, t1⟩ := hp 1 _ _ _ q1 rfl rfl
    obtain ⟨F1, z1, r1, -, w1⟩ := (rd_int Un_3) _ _ _ _ _ _ _ t1
    obtain ⟨rfl, rfl⟩ := r1
    obtain ⟨y2, t2⟩ := hp 2 _ _ _ q2 rfl rfl
    obtain ⟨F2, z2, r2, -, w2⟩ := (rd_slice Sl_47 rd_152 rfl) _ _ _ _ _ _ _ t2
    obtain ⟨s2, rfl, r2⟩ := r2
    obtain ⟨y3, t3⟩ := hp 3 _ _ _ q3 rfl rfl
    obtain ⟨F3, z3, r3, -, w3⟩ := (rd_slice Sl_48 rd_158 rfl) _ _ _ _ _ _ _ t3
    obtain ⟨s3, rfl, r3⟩ := r3
    obtain ⟨y4, t4⟩ := hp 4 _ _ _ q4 rfl rfl
    obtain ⟨F4, z4, r4, -, w4⟩ := (rd_slice Sl_49 rd_162 rfl) _ _ _ _ _ _ _ t4
    obtain ⟨s4, rfl, r4⟩ := r4
    have R : RTRule (Eng.hp w) _ cs (⟨z0, z1, z2, z3, z4⟩ : TRule) := ⟨s2, F2, s3, F3, s4, F4, by rw [hps]; rfl, rfl, r2, r3, r4⟩
    exact ⟨_, _, R, RTRule.knows _ _ _ _ R, ⟨w0, w1, w2, w3, w4⟩⟩
theorem rd_68 {w : World} : Rdt Tryz.prog w 68 RTDef WfTDef := fun H enc sp held n cs x hx => by
  obtain ⟨ps, n1, hps, hl, hp⟩ := rd_struct (fl := [(0, 9, 1), (1, 66, 1)]) Fl_68 rfl Sz_68 hx
  match ps, hl with
  | [q0, q1], _ =>
    obtain ⟨y0, t0⟩ := hp 0 _ _ _ q0 rfl rfl
    obtain ⟨F0, z0, r0, -, w0⟩ := (rd_str Un_9) _ _ _ _ _ _ _ t0
    obtain ⟨rfl, rfl⟩ := r0
    obtain ⟨y1, t1⟩ := hp 1 _ _ _ q1 rfl rfl
    obtain ⟨F1, z1, r1, -, w1⟩ := (rd_slice Sl_66 rd_51 rfl) _ _ _ _ _ _ _ t1
    obtain ⟨s1, rfl, r1⟩ := r1
    have R : RTDef (Eng.hp w) _ cs (⟨z0, z1⟩ : TDef) := ⟨s1, F1, by rw [hps]; rfl, rfl, r1⟩
    exact ⟨_, _, R, RTDef.knows _ _ _ _ R, ⟨w0, w1⟩⟩
theorem rd_166 {w : World} : Rdt Tryz.prog w 166 RTFact WfTFact := fun H enc sp held n cs x hx => by
  obtain ⟨ps, n1, hps, hl, hp⟩ := rd_struct (fl := [(0, 9, 1), (1, 164, 1)]) Fl_166 rfl Sz_166 hx
  match ps, hl with
  | [q0, q1], _ =>
    obtain ⟨y0, t0⟩ := hp 0 _ _ _ q0 rfl rfl
    obtain ⟨F0, z0, r0, -, w0⟩ := (rd_str Un_9) _ _ _ _ _ _ _ t0
    obtain ⟨rfl, rfl⟩ := r0
    obtain ⟨y1, t1⟩ := hp 1 _ _ _ q1 rfl rfl
    obtain ⟨F1, z1, r1, -, w1⟩ := (rd_slice Sl_164 rd_154 rfl) _ _ _ _ _ _ _ t1
    obtain ⟨s1, rfl, r1⟩ := r1
    have R : RTFact (Eng.hp w) _ cs (⟨z0, z1⟩ : TFact) := ⟨s1, F1, by rw [hps]; rfl, rfl, r1⟩
    exact ⟨_, _, R, RTFact.knows _ _ _ _ R, ⟨w0, w1⟩⟩
theorem rd_168 {w : World} : Rdt Tryz.prog w 168 RTItem WfTItem := fun H enc sp held n cs x hx => by
  obtain ⟨ps, n1, hps, hl, hp⟩ := rd_struct (fl := [(0, 3, 1), (1, 166, 2)]) Fl_168 rfl Sz_168 hx
  match ps, hl with
  | [q0, q1], _ =>
    obtain ⟨y0, t0⟩ := hp 0 _ _ _ q0 rfl rfl
    obtain ⟨F0, z0, r0, -, w0⟩ := (rd_int Un_3) _ _ _ _ _ _ _ t0
    obtain ⟨rfl, rfl⟩ := r0
    obtain ⟨y1, t1⟩ := hp 1 _ _ _ q1 rfl rfl
    obtain ⟨F1, z1, r1, -, w1⟩ := rd_166 _ _ _ _ _ _ _ t1
    obtain ⟨s1_0, G1_0, rfl, rfl, h1_0⟩ := r1
    have R : RTItem (Eng.hp w) _ cs (⟨z0, z1⟩ : TItem) := ⟨s1_0, F1, by rw [hps]; rfl, rfl, h1_0⟩
    exact ⟨_, _, R, RTItem.knows _ _ _ _ R, ⟨w0, w1⟩⟩
theorem rd_54 {w : World} : Rdt Tryz.prog w 54 RTStore WfTStore := fun H enc sp held n cs x hx => by
  obtain ⟨ps, n1, hps, hl, hp⟩ := rd_struct (fl := [(0, 52, 1), (1, 3, 1)]) Fl_54 rfl Sz_54 hx
  match ps, hl with
  | [q0, q1], _ =>
    obtain ⟨y0, t0⟩ := hp 0 _ _ _ q0 rfl rfl
    obtain ⟨F0, z0, r0, -, w0⟩ := (rd_slice Sl_52 rd_168 rfl) _ _ _ _ _ _ _ t0
    obtain ⟨s0, rfl, r0⟩ := r0
    obtain ⟨y1, t1⟩ := hp 1 _ _ _ q1 rfl rfl
    obtain ⟨F1, z1, r1, -, w1⟩ := (rd_int Un_3) _ _ _ _ _ _ _ t1
    obtain ⟨rfl, rfl⟩ := r1
    have R : RTStore (Eng.hp w) _ cs (⟨z0, z1⟩ : TStore) := ⟨s0, F0, by rw [hps]; rfl, rfl, r0⟩
    exact ⟨_, _, R, RTStore.knows _ _ _ _ R, ⟨w0, w1⟩⟩
theorem own : ownKnob Tryz.prog.godebug = none := by kernel_rfl
theorem laidOut : laidOutB Tryz.prog = true := by kernel_rfl
set_option maxRecDepth 100000 in
theorem lifted (os : Os) (started : os.Started) (H : Type) (enc : TypeId × Value → H) :
    ReturnsInHanded {} Tryz.checked os 5 .any (Rows.fnExactAllMatchesSpec.pre6 enc Tryz.prog Tryz.f5 Rows.fnExactAllMatchesRow.domain false) (Rows.fnExactAllMatchesSpec.post enc Tryz.prog Tryz.f5 false true false false) := by
  refine returnsInHanded_of_change (C := Tryz.checked) own started (by kernel_rfl) Tryz.func5
    (ChangeSpec.witness6 (enc := enc) (C := Tryz.checked) false ⟨#[], #[.agg #[.string ⟨#[]⟩, .slice none 0 0], .agg #[.slice none 0 0, .int .i64 0]], []⟩ 8 (by kernel_rfl) (by kernel_rfl) (by kernel_rfl) (by kernel_rfl)) ?_
  intro W base args ds gs before hval0 hW hcnd _
  have hval : ∀ (j : Nat) t v, Tryz.f5.params[j]? = some t → args[j]? = some v → Value.okWide Tryz.prog W .any base t v := hval0
  have hW' := hW
  obtain ⟨p, q, hA0, hV, rfl, hfz, hnd⟩ := hW
  have hA : DataW.TrodAll enc Tryz.prog W 0 (fun _ => true) true Tryz.f5.params.toList args.toList ds p := hA0
  rw [Tryz.params5] at hA hval
  obtain ⟨v0, vs0, d0, ds0, p0, q0, hargs, rfl, rfl, h0, r0⟩ := trodAll_cons hA
  obtain ⟨v1, vs1, d1, ds1, p1, q1, rfl, rfl, rfl, h1, r1⟩ := trodAll_cons r0
  obtain ⟨rfl, rfl, rfl⟩ := trodAll_nil r1
  obtain rfl : args = #[v0, v1] := by cases args; simp_all
  obtain ⟨rfl, rfl⟩ := trodVars_none hV
  have k0 := h0
  have lt0 : ∀ x ∈ p0, x.block < W.heap.size := by obtain ⟨m, hm⟩ := k0; exact DataW.trod_lt m _ _ _ hm
  have k1 := h1
  have lt1 : ∀ x ∈ p1, x.block < W.heap.size := by obtain ⟨m, hm⟩ := k1; exact DataW.trod_lt m _ _ _ hm
  obtain ⟨m0, hm0⟩ := h0
  obtain ⟨G0, x0, e0, -, w0⟩ := rd_68 _ _ _ _ _ _ _ hm0
  obtain ⟨cs0, rfl⟩ := agg_of (hval 0 68 v0 rfl rfl) Sz_68 (by kernel_rfl)
  obtain ⟨s0_0, F0_0, hc0, -, q0_0⟩ := e0
  obtain rfl := agg_cells hc0
  obtain ⟨m1, hm1⟩ := h1
  obtain ⟨G1, x1, e1, -, w1⟩ := rd_54 _ _ _ _ _ _ _ hm1
  obtain ⟨cs1, rfl⟩ := agg_of (hval 1 54 v1 rfl rfl) Sz_54 (by kernel_rfl)
  obtain ⟨s1_0, F1_0, hc1, -, q1_0⟩ := e1
  obtain rfl := agg_cells hc1
  clear hA0 hval0
  refine (m_l_FnExactAllMatches_ok (hp_in W) 1099511627776 x0 x1 q0_0 q1_0 (law w0 w1)).mono fun e W1 ⟨he, bel⟩ => ?_
  subst he
  exact ⟨_, rfl, _, _, _, [], _, [], hW', trodAll_mk1 (shut_bool (by kernel_rfl : Tryz.prog.underlying 4 = some .bool) _), (trodAll_cons_mk (Below.trod laidOut (by kernel_rfl) (of_decide_eq_true (by kernel_rfl)) k0 bel lt0) (trodAll_cons_mk (Below.trod laidOut (by kernel_rfl) (of_decide_eq_true (by kernel_rfl)) k1 bel lt1) trodAll_mk0)), rfl, bel.frame _, fun h => by cases h⟩

theorem named : Tryz.pinned.checked.prog.funcNamed Rows.fnExactAllMatchesRow.func = some 5 := by kernel_rfl
theorem closed : joinedFacts Tryz.pinned.checked.prog 5 Tryz.f5 Rows.fnExactAllMatchesSpec Rows.fnExactAllMatchesRow = true := by kernel_rfl
theorem inst : Tryz.f5.isInstance Tryz.pinned.checked.prog Rows.fnExactAllMatchesRow.origin Rows.fnExactAllMatchesRow.targs := of_decide_eq_true (by kernel_rfl)
theorem wrapped : Tryz.f5.isWrapper Tryz.pinned.checked.prog Rows.fnExactAllMatchesRow.wrapper Rows.fnExactAllMatchesRow.mainSum := by unfold Func.isWrapper; first | (rw [if_pos (by decide +kernel)]; kernel_rfl) | (rw [if_neg (by decide +kernel)]; exact ⟨rfl, rfl⟩)
theorem over : Rows.fnExactAllMatchesRow.holds Tryz.pinned (OpenSpec.ofChange Rows.fnExactAllMatchesSpec) :=
  OpenClaim.holds_of_wide 5 Tryz.f5 rfl rfl rfl rfl rfl rfl rfl ⟨rfl, rfl, rfl, rfl, rfl⟩ rfl rfl rfl rfl rfl named Tryz.func5 closed inst wrapped
    (fun os started H enc _ => lifted os started H enc)

/-- The statement. -/
theorem proved : Rows.FnExactAllMatchesSaid := over
#print axioms proved
end Go.Proofs.YtelchcokfcdndaaGreat.fnExactAllMatches
