/- The law FnExactDefText: its arguments as data, and the step to the given row. The walk and the plain law come from the texts that are imported. -/
import Derived.Test.YtlfpehhlkccdiaaGreatDoorRows
import Derived.Test.YtlfpehhlkccdiaaGreatDoorCards
import Derived.Test.YtlfpehhlkccdiaaGreatDoorTie
import Derived.SevenTiedAt
import Derived.Test.YtlfpehhlkccdiaaGreatDoorEG
import Derived.Test.YtlfpehhlkccdiaaGreatDoorWExactDefTextWalk
import Derived.Test.YtlfpehhlkccdiaaGreatDoorTExactDefText
import Derived.OpenShut
import Derived.LaidLaws
import Derived.Handed
import Derived.Lib.LaidTab
import Derived.ShutString
import Derived.ChangeOld
namespace Go.Proofs.YtlfpehhlkccdiaaGreatDoor.fnExactDefText
open Eng
open Go.ChangeShapes Go.WideShapes Go.ChangeAt Go.RowKit
open Go.ChangeMaps (open_string shut_string)
set_option linter.unusedVariables false
set_option linter.unusedSimpArgs false

theorem Un_9 : Tryz.prog.underlying 9 = some (.string) := by kernel_rfl
theorem Un_3 : Tryz.prog.underlying 3 = some (.int .i64) := by kernel_rfl
theorem Fl_77 : fldsOf Tryz.prog 77 = some [(0, 3, 1), (1, 3, 1), (2, 9, 1)] := by kernel_rfl
theorem Sz_77 : Sz Tryz.prog 77 3 = true := by kernel_rfl
theorem Fl_79 : fldsOf Tryz.prog 79 = some [(0, 3, 1), (1, 9, 1), (2, 77, 3)] := by kernel_rfl
theorem Sz_79 : Sz Tryz.prog 79 5 = true := by kernel_rfl
theorem Sl_72 : Sl Tryz.prog 72 79 5 = true := by kernel_rfl
theorem Un_4 : Tryz.prog.underlying 4 = some (.bool) := by kernel_rfl
theorem Fl_74 : fldsOf Tryz.prog 74 = some [(0, 9, 1), (1, 72, 1), (2, 4, 1)] := by kernel_rfl
theorem Sz_74 : Sz Tryz.prog 74 3 = true := by kernel_rfl
theorem Sl_22 : Sl Tryz.prog 22 74 3 = true := by kernel_rfl
theorem Fl_81 : fldsOf Tryz.prog 81 = some [(0, 3, 1), (1, 79, 5), (6, 79, 5)] := by kernel_rfl
theorem Sz_81 : Sz Tryz.prog 81 11 = true := by kernel_rfl
theorem Sl_23 : Sl Tryz.prog 23 81 11 = true := by kernel_rfl
theorem Fl_148 : fldsOf Tryz.prog 148 = some [(0, 9, 1), (1, 79, 5), (6, 79, 5)] := by kernel_rfl
theorem Sz_148 : Sz Tryz.prog 148 11 = true := by kernel_rfl
theorem Sl_83 : Sl Tryz.prog 83 148 11 = true := by kernel_rfl
theorem Fl_85 : fldsOf Tryz.prog 85 = some [(0, 3, 1), (1, 9, 1), (2, 83, 1), (3, 3, 1), (4, 9, 1)] := by kernel_rfl
theorem Sz_85 : Sz Tryz.prog 85 5 = true := by kernel_rfl
theorem Sl_24 : Sl Tryz.prog 24 85 5 = true := by kernel_rfl
theorem Fl_26 : fldsOf Tryz.prog 26 = some [(0, 9, 1), (1, 3, 1), (2, 22, 1), (3, 23, 1), (4, 24, 1)] := by kernel_rfl
theorem Sz_26 : Sz Tryz.prog 26 5 = true := by kernel_rfl
theorem Sl_37 : Sl Tryz.prog 37 26 5 = true := by kernel_rfl
theorem Fl_39 : fldsOf Tryz.prog 39 = some [(0, 9, 1), (1, 37, 1)] := by kernel_rfl
theorem Sz_39 : Sz Tryz.prog 39 2 = true := by kernel_rfl
theorem rd_77 {w : World} : Rdt Tryz.prog w 77 RTVal WfTVal := fun H enc sp held n cs x hx => by
  obtain ⟨ps, n1, hps, hl, hp⟩ := rd_struct (fl := [(0, 3, 1), (1, 3, 1), (2, 9, 1)]) Fl_77 rfl Sz_77 hx
  match ps, hl with
  | [q0, q1, q2], _ =>
    obtain ⟨y0, t0⟩ := hp 0 _ _ _ q0 rfl rfl
    obtain ⟨F0, z0, r0, -, w0⟩ := (rd_int Un_3) _ _ _ _ _ _ _ t0
    obtain ⟨rfl, rfl⟩ := r0
    obtain ⟨y1, t1⟩ := hp 1 _ _ _ q1 rfl rfl
    obtain ⟨F1, z1, r1, -, w1⟩ := (rd_int Un_3) _ _ _ _ _ _ _ t1
    obtain ⟨rfl, rfl⟩ := r1
    obtain ⟨y2, t2⟩ := hp 2 _ _ _ q2 rfl rfl
    obtain ⟨F2, z2, r2, -, w2⟩ := (rd_str Un_9) _ _ _ _ _ _ _ t2
    obtain ⟨rfl, rfl⟩ := r2
    have R : RTVal (Eng.hp w) _ cs (⟨z0, z1, z2⟩ : TVal) := ⟨by rw [hps]; rfl, rfl⟩
    exact ⟨_, _, R, RTVal.knows _ _ _ _ R, ⟨w0, w1, w2⟩⟩
theorem rd_79 {w : World} : Rdt Tryz.prog w 79 RTArg WfTArg := fun H enc sp held n cs x hx => by
  obtain ⟨ps, n1, hps, hl, hp⟩ := rd_struct (fl := [(0, 3, 1), (1, 9, 1), (2, 77, 3)]) Fl_79 rfl Sz_79 hx
  match ps, hl with
  | [q0, q1, q2], _ =>
    obtain ⟨y0, t0⟩ := hp 0 _ _ _ q0 rfl rfl
    obtain ⟨F0, z0, r0, -, w0⟩ := (rd_int Un_3) _ _ _ _ _ _ _ t0
    obtain ⟨rfl, rfl⟩ := r0
    obtain ⟨y1, t1⟩ := hp 1 _ _ _ q1 rfl rfl
    obtain ⟨F1, z1, r1, -, w1⟩ := (rd_str Un_9) _ _ _ _ _ _ _ t1
    obtain ⟨rfl, rfl⟩ := r1
    obtain ⟨y2, t2⟩ := hp 2 _ _ _ q2 rfl rfl
    obtain ⟨F2, z2, r2, -, w2⟩ := rd_77 _ _ _ _ _ _ _ t2
    obtain ⟨rfl, rfl⟩ := r2
    have R : RTArg (Eng.hp w) _ cs (⟨z0, z1, z2⟩ : TArg) := ⟨by rw [hps]; rfl, rfl⟩
    exact ⟨_, _, R, RTArg.knows _ _ _ _ R, ⟨w0, w1, w2⟩⟩
theorem rd_74 {w : World} : Rdt Tryz.prog w 74 RTPat WfTPat := fun H enc sp held n cs x hx => by
  obtain ⟨ps, n1, hps, hl, hp⟩ := rd_struct (fl := [(0, 9, 1), (1, 72, 1), (2, 4, 1)]) Fl_74 rfl Sz_74 hx
  match ps, hl with
  | [q0, q1, q2], _ =>
    obtain ⟨y0, t0⟩ := hp 0 _ _ _ q0 rfl rfl
    obtain ⟨F0, z0, r0, -, w0⟩ := (rd_str Un_9) _ _ _ _ _ _ _ t0
    obtain ⟨rfl, rfl⟩ := r0
    obtain ⟨y1, t1⟩ := hp 1 _ _ _ q1 rfl rfl
    obtain ⟨F1, z1, r1, -, w1⟩ := (rd_slice Sl_72 rd_79 rfl) _ _ _ _ _ _ _ t1
    obtain ⟨s1, rfl, r1⟩ := r1
    obtain ⟨y2, t2⟩ := hp 2 _ _ _ q2 rfl rfl
    obtain ⟨F2, z2, r2, -, w2⟩ := (rd_bool Un_4) _ _ _ _ _ _ _ t2
    obtain ⟨rfl, rfl⟩ := r2
    have R : RTPat (Eng.hp w) _ cs (⟨z0, z1, z2⟩ : TPat) := ⟨s1, F1, by rw [hps]; rfl, rfl, r1⟩
    exact ⟨_, _, R, RTPat.knows _ _ _ _ R, ⟨w0, w1, w2⟩⟩
theorem rd_81 {w : World} : Rdt Tryz.prog w 81 RTCond WfTCond := fun H enc sp held n cs x hx => by
  obtain ⟨ps, n1, hps, hl, hp⟩ := rd_struct (fl := [(0, 3, 1), (1, 79, 5), (6, 79, 5)]) Fl_81 rfl Sz_81 hx
  match ps, hl with
  | [q0, q1, q2], _ =>
    obtain ⟨y0, t0⟩ := hp 0 _ _ _ q0 rfl rfl
    obtain ⟨F0, z0, r0, -, w0⟩ := (rd_int Un_3) _ _ _ _ _ _ _ t0
    obtain ⟨rfl, rfl⟩ := r0
    obtain ⟨y1, t1⟩ := hp 1 _ _ _ q1 rfl rfl
    obtain ⟨F1, z1, r1, -, w1⟩ := rd_79 _ _ _ _ _ _ _ t1
    obtain ⟨rfl, rfl⟩ := r1
    obtain ⟨y2, t2⟩ := hp 2 _ _ _ q2 rfl rfl
    obtain ⟨F2, z2, r2, -, w2⟩ := rd_79 _ _ _ _ _ _ _ t2
    obtain ⟨rfl, rfl⟩ := r2
    have R : RTCond (Eng.hp w) _ cs (⟨z0, z1, z2⟩ : TCond) := ⟨by rw [hps]; rfl, rfl⟩
    exact ⟨_, _, R, RTCond.knows _ _ _ _ R, ⟨w0, w1, w2⟩⟩
theorem rd_148 {w : World} : Rdt Tryz.prog w 148 RTExpr WfTExpr := fun H enc sp held n cs x hx => by
  obtain ⟨ps, n1, hps, hl, hp⟩ := rd_struct (fl := [(0, 9, 1), (1, 79, 5), (6, 79, 5)]) Fl_148 rfl Sz_148 hx
  match ps, hl with
  | [q0, q1, q2], _ =>
    obtain ⟨y0, t0⟩ := hp 0 _ _ _ q0 rfl rfl
    obtain ⟨F0, z0, r0, -, w0⟩ := (rd_str Un_9) _ _ _ _ _ _ _ t0
    obtain ⟨rfl, rfl⟩ := r0
    obtain ⟨y1, t1⟩ := hp 1 _ _ _ q1 rfl rfl
    obtain ⟨F1, z1, r1, -, w1⟩ := rd_79 _ _ _ _ _ _ _ t1
    obtain ⟨rfl, rfl⟩ := r1
    obtain ⟨y2, t2⟩ := hp 2 _ _ _ q2 rfl rfl
    obtain ⟨F2, z2, r2, -, w2⟩ := rd_79 _ _ _ _ _ _ _ t2
    obtain ⟨rfl, rfl⟩ := r2
    have R : RTExpr (Eng.hp w) _ cs (⟨z0, z1, z2⟩ : TExpr) := ⟨by rw [hps]; rfl, rfl⟩
    exact ⟨_, _, R, RTExpr.knows _ _ _ _ R, ⟨w0, w1, w2⟩⟩
theorem rd_85 {w : World} : Rdt Tryz.prog w 85 RTAct WfTAct := fun H enc sp held n cs x hx => by
  obtain ⟨ps, n1, hps, hl, hp⟩ := rd_struct (fl := [(0, 3, 1), (1, 9, 1), (2, 83, 1), (3, 3, 1), (4, 9, 1)]) Fl_85 rfl Sz_85 hx
  match ps, hl with
  | [q0, q1, q2, q3, q4], _ =>
    obtain ⟨y0, t0⟩ := hp 0 _ _ _ q0 rfl rfl
    obtain ⟨F0, z0, r0, -, w0⟩ := (rd_int Un_3) _ _ _ _ _ _ _ t0
    obtain ⟨rfl, rfl⟩ := r0
    obtain ⟨y1, t1⟩ := hp 1 _ _ _ q1 rfl rfl
    obtain ⟨F1, z1, r1, -, w1⟩ := (rd_str Un_9) _ _ _ _ _ _ _ t1
    obtain ⟨rfl, rfl⟩ := r1
    obtain ⟨y2, t2⟩ := hp 2 _ _ _ q2 rfl rfl
    obtain ⟨F2, z2, r2, -, w2⟩ := (rd_slice Sl_83 rd_148 rfl) _ _ _ _ _ _ _ t2
    obtain ⟨s2, rfl, r2⟩ := r2
    obtain ⟨y3, t3⟩ := hp 3 _ _ _ q3 rfl rfl
    obtain ⟨F3, z3, r3, -, w3⟩ := (rd_int Un_3) _ _ _ _ _ _ _ t3
    obtain ⟨rfl, rfl⟩ := r3
    obtain ⟨y4, t4⟩ := hp 4 _ _ _ q4 rfl rfl
    obtain ⟨F4, z4, r4, -, w4⟩ := (rd_str Un_9) _ _ _ _ _ _ _ t4
    obtain ⟨rfl, rfl⟩ := r4
    have R : RTAct (Eng.hp w) _ cs (⟨z0, z1, z2, z3, z4⟩ : TAct) := ⟨s2, F2, by rw [hps]; rfl, rfl, r2⟩
    exact ⟨_, _, R, RTAct.knows _ _ _ _ R, ⟨w0, w1, w2, w3, w4⟩⟩
theorem rd_26 {w : World} : Rdt Tryz.prog w 26 RTRule WfTRule := fun H enc sp held n cs x hx => by
  obtain ⟨ps, n1, hps, hl, hp⟩ := rd_struct (fl := [(0, 9, 1), (1, 3, 1), (2, 22, 1), (3, 23, 1), (4, 24, 1)]) Fl_26 rfl Sz_26 hx
  match ps, hl with
  | [q0, q1, q2, q3, q4], _ =>
    obtain ⟨y0, t0⟩ := hp 0 _ _ _ q0 rfl rfl
    obtain ⟨F0, z0, r0, -, w0⟩ := (rd_str Un_9) _ _ _ _ _ _ _ t0
    obtain ⟨rfl, rfl⟩ := r0
    obtain ⟨y1, t1⟩ := hp 1 _ _ _ q1 rfl rfl
    obtain ⟨F1, z1, r1, -, w1⟩ := (rd_int Un_3) _ _ _ _ _ _ _ t1
    obtain ⟨rfl, rfl⟩ := r1
    obtain ⟨y2, t2⟩ := hp 2 _ _ _ q2 rfl rfl
    obtain ⟨F2, z2, r2, -, w2⟩ := (rd_slice Sl_22 rd_74 rfl) _ _ _ _ _ _ _ t2
    obtain ⟨s2, rfl, r2⟩ := r2
    obtain ⟨y3, t3⟩ := hp 3 _ _ _ q3 rfl rfl
    obtain ⟨F3, z3, r3, -, w3⟩ := (rd_slice Sl_23 rd_81 rfl) _ _ _ _ _ _ _ t3
    obtain ⟨s3, rfl, r3⟩ := r3
    obtain ⟨y4, t4⟩ := hp 4 _ _ _ q4 rfl rfl
    obtain ⟨F4, z4, r4, -, w4⟩ := (rd_slice Sl_24 rd_85 rfl) _ _ _ _ _ _ _ t4
    obtain ⟨s4, rfl, r4⟩ := r4
    have R : RTRule (Eng.hp w) _ cs (⟨z0, z1, z2, z3, z4⟩ : TRule) := ⟨s2, F2, s3, F3, s4, F4, by rw [hps]; rfl, rfl, r2, r3, r4⟩
    exact ⟨_, _, R, RTRule.knows _ _ _ _ R, ⟨w0, w1, w2, w3, w4⟩⟩
theorem rd_39 {w : World} : Rdt Tryz.prog w 39 RTDef WfTDef := fun H enc sp held n cs x hx => by
  obtain ⟨ps, n1, hps, hl, hp⟩ := rd_struct (fl := [(0, 9, 1), (1, 37, 1)]) Fl_39 rfl Sz_39 hx
  match ps, hl with
  | [q0, q1], _ =>
    obtain ⟨y0, t0⟩ := hp 0 _ _ _ q0 rfl rfl
    obtain ⟨F0, z0, r0, -, w0⟩ := (rd_str Un_9) _ _ _ _ _ _ _ t0
    obtain ⟨rfl, rfl⟩ := r0
    obtain ⟨y1, t1⟩ := hp 1 _ _ _ q1 rfl rfl
    obtain ⟨F1, z1, r1, -, w1⟩ := (rd_slice Sl_37 rd_26 rfl) _ _ _ _ _ _ _ t1
    obtain ⟨s1, rfl, r1⟩ := r1
    have R : RTDef (Eng.hp w) _ cs (⟨z0, z1⟩ : TDef) := ⟨s1, F1, by rw [hps]; rfl, rfl, r1⟩
    exact ⟨_, _, R, RTDef.knows _ _ _ _ R, ⟨w0, w1⟩⟩
theorem own : ownKnob Tryz.prog.godebug = none := by kernel_rfl
theorem laidOut : laidOutB Tryz.prog = true := by kernel_rfl
/-- The settled world, the tables as their initialisers lay them. -/
def dv : DataW Unit → List Value
  | .agg xs => xs.map fun | .lit (.int k n) => Value.int k n | _ => .nilIface
  | _ => []
noncomputable def laidWorld (os : Os) : World := { World.holding Tryz.prog os ⟨#[], #[], []⟩ with heap := ((((World.holding Tryz.prog os ⟨#[], #[], []⟩).heap.modify 0 fun | .cells _ t fz => .cells (dv Rows.laid_internal_strconv_uint64pow10).toArray t fz | o => o).modify 2 fun | .cells _ t fz => .cells (dv Rows.laid_math_bits_deBruijn32tab).toArray t fz | o => o).modify 3 fun | .cells _ t fz => .cells (dv Rows.laid_math_bits_deBruijn64tab).toArray t fz | o => o) }
theorem laid_met (os : Os) (args : Array Value) : laidMet Tryz.prog Rows.fnExactDefTextRow.laid ((laidWorld os).forCall (fun _ _ => 0) ⟨#[], args, []⟩).memory := laidMet_of_run' 8 (by kernel_rfl) (by kernel_rfl)
theorem laid_tab : (Rows.laid_internal_strconv_uint64pow10 : DataW Unit) = Go.Lib.tabData .u64 Go.Lib.pow10Tab := by kernel_rfl
theorem laid_tail {P : Program} {x : String × DataW Unit} {l : List (String × DataW Unit)} {w : World} (h : laidMet P (x :: l) w) : laidMet P l w := by
  obtain ⟨ps, ⟨g, t, cs, fuel, p, q, _, _, _, _, hs, e⟩, hn, hr⟩ := h
  subst e
  exact ⟨q, hs, (List.nodup_append.1 hn).2.1, fun b off hp => hr b off (List.mem_append.2 (.inr hp))⟩
theorem tab_of {W : World} {name : String} (hg : Tryz.prog.globalNamed name = some 0) (h : Go.Lib.TabIs Tryz.prog W name .u64 Go.Lib.pow10Tab) : Tab (hp W) := by
  unfold Go.Lib.TabIs World.var? at h
  rw [hg, Option.bind_some] at h
  split at h
  · cases h; exact ⟨_, _, by assumption⟩
  · cases h
set_option maxRecDepth 100000 in
theorem lifted (os : Os) (started : os.Started) (H : Type) (enc : TypeId × Value → H) :
    ReturnsInHanded {} Tryz.checked os 4 .any (fun w args => (Rows.fnExactDefTextSpec.pre enc Tryz.prog Tryz.f4 Rows.fnExactDefTextRow.domain false w args ∧ laidMet Tryz.prog Rows.fnExactDefTextRow.laid w) ∧ sizedMet enc Tryz.prog Tryz.f4 (OpenSpec.ofChange Rows.fnExactDefTextSpec) false w args) (Rows.fnExactDefTextSpec.post enc Tryz.prog Tryz.f4 false true false false) := by
  refine returnsInHanded_of_change_and (C := Tryz.checked) (X := fun w _ => laidMet Tryz.prog Rows.fnExactDefTextRow.laid w) (fun _ _ _ hh h => h.of_heap hh) own started (by kernel_rfl) Tryz.func4
    (ChangeSpec.witness_at (enc := enc) (C := Tryz.checked) (os := os) (X := fun w _ => laidMet Tryz.prog Rows.fnExactDefTextRow.laid w) false (laidWorld os) #[.agg #[.string ⟨#[]⟩, .slice none 0 0]] 8 rfl (by kernel_rfl) (by kernel_rfl) (by kernel_rfl) (by kernel_rfl) (by kernel_rfl) (laid_met os _)) ?_
  intro W base args ds gs before hval0 hW hcnd _ hL _
  have h2 := laid_tail (laid_tail hL)
  rw [laid_tab] at h2
  have hT : Tab (hp W) := tab_of (by kernel_rfl) (Go.Lib.tabIs_of_head (g := 0) (t := 169) (e := 161) (n := 20) (by kernel_rfl) (by kernel_rfl) (by kernel_rfl) (by kernel_rfl) (by kernel_rfl) (by kernel_rfl) h2)
  clear h2
  have hval : ∀ (j : Nat) t v, Tryz.f4.params[j]? = some t → args[j]? = some v → Value.okWide Tryz.prog W .any base t v := hval0
  have hW' := hW
  obtain ⟨p, q, hA0, hV, rfl, hfz, hnd⟩ := hW
  have hA : DataW.TrodAll enc Tryz.prog W 0 (fun _ => true) true Tryz.f4.params.toList args.toList ds p := hA0
  rw [Tryz.params4] at hA hval
  obtain ⟨v0, vs0, d0, ds0, p0, q0, hargs, rfl, rfl, h0, r0⟩ := trodAll_cons hA
  obtain ⟨rfl, rfl, rfl⟩ := trodAll_nil r0
  obtain rfl : args = #[v0] := by cases args; simp_all
  obtain ⟨rfl, rfl⟩ := trodVars_none hV
  have k0 := h0
  have lt0 : ∀ x ∈ p0, x.block < W.heap.size := by obtain ⟨m, hm⟩ := k0; exact DataW.trod_lt m _ _ _ hm
  obtain ⟨m0, hm0⟩ := h0
  obtain ⟨G0, x0, e0, -, w0⟩ := rd_39 _ _ _ _ _ _ _ hm0
  obtain ⟨cs0, rfl⟩ := agg_of (hval 0 39 v0 rfl rfl) Sz_39 (by kernel_rfl)
  obtain ⟨s0_0, F0_0, hc0, -, q0_0⟩ := e0
  obtain rfl := agg_cells hc0
  clear hA0 hval0
  refine (m_l_FnExactDefText_ok (hp_in W) 1099511627776 x0 hT q0_0 (law w0)).mono fun e W1 ⟨he, bel⟩ => ?_
  subst he
  exact ⟨_, rfl, _, _, _, [], _, [], hW', trodAll_mk1 (shut_bool (by kernel_rfl : Tryz.prog.underlying 4 = some .bool) _), (trodAll_cons_mk (Below.trod laidOut (by kernel_rfl) (of_decide_eq_true (by kernel_rfl)) k0 bel lt0) trodAll_mk0), rfl, bel.frame _, fun h => by cases h⟩

theorem named : Tryz.pinned.checked.prog.funcNamed Rows.fnExactDefTextRow.func = some 4 := by kernel_rfl
theorem closed : joinedFacts Tryz.pinned.checked.prog 4 Tryz.f4 Rows.fnExactDefTextSpec Rows.fnExactDefTextRow = true := by kernel_rfl
theorem inst : Tryz.f4.isInstance Tryz.pinned.checked.prog Rows.fnExactDefTextRow.origin Rows.fnExactDefTextRow.targs := of_decide_eq_true (by kernel_rfl)
theorem wrapped : Tryz.f4.isWrapper Tryz.pinned.checked.prog Rows.fnExactDefTextRow.wrapper Rows.fnExactDefTextRow.mainSum := by unfold Func.isWrapper; first | (rw [if_pos (by decide +kernel)]; kernel_rfl) | (rw [if_neg (by decide +kernel)]; exact ⟨rfl, rfl⟩)
theorem over : Rows.fnExactDefTextRow.holds Tryz.pinned (OpenSpec.ofChange Rows.fnExactDefTextSpec) :=
  OpenClaim.holds_of_wide 4 Tryz.f4 rfl rfl rfl rfl rfl rfl rfl ⟨rfl, rfl, rfl, rfl, rfl⟩ rfl rfl rfl rfl rfl named Tryz.func4 closed inst wrapped
    (fun os started H enc _ => lifted os started H enc)

/-- The statement. -/
theorem proved : Rows.FnExactDefTextCardSaid :=
  Claim7.holds_tied_plain_at .later [] _ true Rows.fnExactDefTextCard.stood.harness Rows.fnExactDefTextCard.stood.looks
    over (fun _ h => by cases h) (by kernel_rfl) (fun _ h => by cases h) fnExactDefText_row_tie rfl ⟨rfl, rfl⟩ (by kernel_rfl) rfl
    (fun f fn hf hfn => by
      obtain rfl : f = 4 := Option.some.inj (named.symm.trans hf) |>.symm
      obtain rfl : fn = Tryz.f4 := (Option.some.inj (Tryz.func4.symm.trans hfn)).symm
      exact ⟨by kernel_rfl, fun j t ht => by
        rw [Tryz.params4] at ht
        have hm : t ∈ [39] := by simpa using Array.mem_of_getElem? ht
        have hall : ([39].all fun u => !Tryz.prog.wantsStandIn u) = true := by kernel_rfl
        exact (show Tryz.prog.wantsStandIn t = false by simpa using List.all_eq_true.1 hall t hm)⟩)
    (by kernel_rfl)
#print axioms proved
end Go.Proofs.YtlfpehhlkccdiaaGreatDoor.fnExactDefText
