/- The law FnExactActText: its arguments as data, and the step to the given row. The walk and the plain law come from the texts that are imported. -/
import Derived.Test.YtlfpehhlkccdiaaDoorRows
import Derived.Test.YtlfpehhlkccdiaaDoorCards
import Derived.Test.YtlfpehhlkccdiaaDoorTie
import Derived.SevenTiedAt
import Derived.Test.YtlfpehhlkccdiaaDoorEG
import Derived.Test.YtlfpehhlkccdiaaDoorWExactActTextWalk
import Derived.Test.YtlfpehhlkccdiaaDoorTExactActText
import Derived.OpenShut
import Derived.LaidLaws
import Derived.Handed
import Derived.Lib.LaidTab
import Derived.ShutString
import Derived.ChangeOld
namespace Go.Proofs.YtlfpehhlkccdiaaDoor.fnExactActText
open Eng
open Go.ChangeShapes Go.WideShapes Go.ChangeAt Go.RowKit
open Go.ChangeMaps (open_string shut_string)
set_option linter.unusedVariables false
set_option linter.unusedSimpArgs false

theorem Un_3 : Tryd.prog.underlying 3 = some (.int .i64) := by kernel_rfl
theorem Un_9 : Tryd.prog.underlying 9 = some (.string) := by kernel_rfl
theorem Fl_23 : fldsOf Tryd.prog 23 = some [(0, 3, 1), (1, 3, 1), (2, 9, 1)] := by kernel_rfl
theorem Sz_23 : Sz Tryd.prog 23 3 = true := by kernel_rfl
theorem Fl_25 : fldsOf Tryd.prog 25 = some [(0, 3, 1), (1, 9, 1), (2, 23, 3)] := by kernel_rfl
theorem Sz_25 : Sz Tryd.prog 25 5 = true := by kernel_rfl
theorem Fl_27 : fldsOf Tryd.prog 27 = some [(0, 9, 1), (1, 25, 5), (6, 25, 5)] := by kernel_rfl
theorem Sz_27 : Sz Tryd.prog 27 11 = true := by kernel_rfl
theorem Sl_47 : Sl Tryd.prog 47 27 11 = true := by kernel_rfl
theorem Fl_49 : fldsOf Tryd.prog 49 = some [(0, 3, 1), (1, 9, 1), (2, 47, 1), (3, 3, 1), (4, 9, 1)] := by kernel_rfl
theorem Sz_49 : Sz Tryd.prog 49 5 = true := by kernel_rfl
theorem rd_23 {w : World} : Rdt Tryd.prog w 23 RTVal WfTVal := fun H enc sp held n cs x hx => by
  obtain ⟨ps, n1, hps, hl, hp⟩ := rd_struct (fl := [(0, 3, 1), (1, 3, 1), (2, 9, 1)]) Fl_23 rfl Sz_23 hx
  match ps, hl with
  | [q0, q1, q2], _ =>
    obtain ⟨y0, t0⟩ := hp 0 _ _ _ q0 rfl rfl
    obtain ⟨F0, z0, r0, -, w0⟩ := (rd_int Un_3) _ _ _ _ _ _ _ t0
    obtain ⟨rfl, rfl⟩ := r0
    obtain ⟨y1, t1⟩ := hp 1 _ _ _ q1 rfl rfl
    obtain ⟨F1, z1, r1, -, w1⟩ := (rd_int Un_3) _ _ _ _ _ _ _ t1
    obtain ⟨rfl, rfl⟩ := r1
    obtain ⟨y2, t2⟩ := hp 2 _ _ _ q2 rfl rfl
    obtain ⟨F2, z2, r2, -, w2⟩ := (rd_str Un_9) _ _ _ _ _ _ _ t2
    obtain ⟨rfl, rfl⟩ := r2
    have R : RTVal (Eng.hp w) _ cs (⟨z0, z1, z2⟩ : TVal) := ⟨by rw [hps]; rfl, rfl⟩
    exact ⟨_, _, R, RTVal.knows _ _ _ _ R, ⟨w0, w1, w2⟩⟩
theorem rd_25 {w : World} : Rdt Tryd.prog w 25 RTArg WfTArg := fun H enc sp held n cs x hx => by
  obtain ⟨ps, n1, hps, hl, hp⟩ := rd_struct (fl := [(0, 3, 1), (1, 9, 1), (2, 23, 3)]) Fl_25 rfl Sz_25 hx
  match ps, hl with
  | [q0, q1, q2], _ =>
    obtain ⟨y0, t0⟩ := hp 0 _ _ _ q0 rfl rfl
    obtain ⟨F0, z0, r0, -, w0⟩ := (rd_int Un_3) _ _ _ _ _ _ _ t0
    obtain ⟨rfl, rfl⟩ := r0
    obtain ⟨y1, t1⟩ := hp 1 _ _ _ q1 rfl rfl
    obtain ⟨F1, z1, r1, -, w1⟩ := (rd_str Un_9) _ _ _ _ _ _ _ t1
    obtain ⟨rfl, rfl⟩ := r1
    obtain ⟨y2, t2⟩ := hp 2 _ _ _ q2 rfl rfl
    obtain ⟨F2, z2, r2, -, w2⟩ := rd_23 _ _ _ _ _ _ _ t2
    obtain ⟨rfl, rfl⟩ := r2
    have R : RTArg (Eng.hp w) _ cs (⟨z0, z1, z2⟩ : TArg) := ⟨by rw [hps]; rfl, rfl⟩
    exact ⟨_, _, R, RTArg.knows _ _ _ _ R, ⟨w0, w1, w2⟩⟩
theorem rd_27 {w : World} : Rdt Tryd.prog w 27 RTExpr WfTExpr := fun H enc sp held n cs x hx => by
  obtain ⟨ps, n1, hps, hl, hp⟩ := rd_struct (fl := [(0, 9, 1), (1, 25, 5), (6, 25, 5)]) Fl_27 rfl Sz_27 hx
  match ps, hl with
  | [q0, q1, q2], _ =>
    obtain ⟨y0, t0⟩ := hp 0 _ _ _ q0 rfl rfl
    obtain ⟨F0, z0, r0, -, w0⟩ := (rd_str Un_9) _ _ _ _ _ _ _ t0
    obtain ⟨rfl, rfl⟩ := r0
    obtain ⟨y1, t1⟩ := hp 1 _ _ _ q1 rfl rfl
    obtain ⟨F1, z1, r1, -, w1⟩ := rd_25 _ _ _ _ _ _ _ t1
    obtain ⟨rfl, rfl⟩ := r1
    obtain ⟨y2, t2⟩ := hp 2 _ _ _ q2 rfl rfl
    obtain ⟨F2, z2, r2, -, w2⟩ := rd_25 _ _ _ _ _ _ _ t2
    obtain ⟨rfl, rfl⟩ := r2
    have R : RTExpr (Eng.hp w) _ cs (⟨z0, z1, z2⟩ : TExpr) := ⟨by rw [hps]; rfl, rfl⟩
    exact ⟨_, _, R, RTExpr.knows _ _ _ _ R, ⟨w0, w1, w2⟩⟩
theorem rd_49 {w : World} : Rdt Tryd.prog w 49 RTAct WfTAct := fun H enc sp held n cs x hx => by
  obtain ⟨ps, n1, hps, hl, hp⟩ := rd_struct (fl := [(0, 3, 1), (1, 9, 1), (2, 47, 1), (3, 3, 1), (4, 9, 1)]) Fl_49 rfl Sz_49 hx
  match ps, hl with
  | [q0, q1, q2, q3, q4], _ =>
    obtain ⟨y0, t0⟩ := hp 0 _ _ _ q0 rfl rfl
    obtain ⟨F0, z0, r0, -, w0⟩ := (rd_int Un_3) _ _ _ _ _ _ _ t0
    obtain ⟨rfl, rfl⟩ := r0
    obtain ⟨y1, t1⟩ := hp 1 _ _ _ q1 rfl rfl
    obtain ⟨F1, z1, r1, -, w1⟩ := (rd_str Un_9) _ _ _ _ _ _ _ t1
    obtain ⟨rfl, rfl⟩ := r1
    obtain ⟨y2, t2⟩ := hp 2 _ _ _ q2 rfl rfl
    obtain ⟨F2, z2, r2, -, w2⟩ := (rd_slice Sl_47 rd_27 rfl) _ _ _ _ _ _ _ t2
    obtain ⟨s2, rfl, r2⟩ := r2
    obtain ⟨y3, t3⟩ := hp 3 _ _ _ q3 rfl rfl
    obtain ⟨F3, z3, r3, -, w3⟩ := (rd_int Un_3) _ _ _ _ _ _ _ t3
    obtain ⟨rfl, rfl⟩ := r3
    obtain ⟨y4, t4⟩ := hp 4 _ _ _ q4 rfl rfl
    obtain ⟨F4, z4, r4, -, w4⟩ := (rd_str Un_9) _ _ _ _ _ _ _ t4
    obtain ⟨rfl, rfl⟩ := r4
    have R : RTAct (Eng.hp w) _ cs (⟨z0, z1, z2, z3, z4⟩ : TAct) := ⟨s2, F2, by rw [hps]; rfl, rfl, r2⟩
    exact ⟨_, _, R, RTAct.knows _ _ _ _ R, ⟨w0, w1, w2, w3, w4⟩⟩
theorem own : ownKnob Tryd.prog.godebug = none := by kernel_rfl
theorem laidOut : laidOutB Tryd.prog = true := by kernel_rfl
/-- The settled world, the tables as their initialisers lay them. -/
def dv : DataW Unit → List Value
  | .agg xs => xs.map fun | .lit (.int k n) => Value.int k n | _ => .nilIface
  | _ => []
noncomputable def laidWorld (os : Os) : World := { World.holding Tryd.prog os ⟨#[], #[], []⟩ with heap := ((((World.holding Tryd.prog os ⟨#[], #[], []⟩).heap.modify 0 fun | .cells _ t fz => .cells (dv Rows.laid_internal_strconv_uint64pow10).toArray t fz | o => o).modify 2 fun | .cells _ t fz => .cells (dv Rows.laid_math_bits_deBruijn32tab).toArray t fz | o => o).modify 3 fun | .cells _ t fz => .cells (dv Rows.laid_math_bits_deBruijn64tab).toArray t fz | o => o) }
theorem laid_met (os : Os) (args : Array Value) : laidMet Tryd.prog Rows.fnExactActTextRow.laid ((laidWorld os).forCall (fun _ _ => 0) ⟨#[], args, []⟩).memory := laidMet_of_run' 8 (by kernel_rfl) (by kernel_rfl)
theorem laid_tab : (Rows.laid_internal_strconv_uint64pow10 : DataW Unit) = Go.Lib.tabData .u64 Go.Lib.pow10Tab := by kernel_rfl
theorem laid_tail {P : Program} {x : String × DataW Unit} {l : List (String × DataW Unit)} {w : World} (h : laidMet P (x :: l) w) : laidMet P l w := by
  obtain ⟨ps, ⟨g, t, cs, fuel, p, q, _, _, _, _, hs, e⟩, hn, hr⟩ := h
  subst e
  exact ⟨q, hs, (List.nodup_append.1 hn).2.1, fun b off hp => hr b off (List.mem_append.2 (.inr hp))⟩
theorem tab_of {W : World} {name : String} (hg : Tryd.prog.globalNamed name = some 0) (h : Go.Lib.TabIs Tryd.prog W name .u64 Go.Lib.pow10Tab) : Tab (hp W) := by
  unfold Go.Lib.TabIs World.var? at h
  rw [hg, Option.bind_some] at h
  split at h
  · cases h; exact ⟨_, _, by assumption⟩
  · cases h
set_option maxRecDepth 100000 in
theorem lifted (os : Os) (started : os.Started) (H : Type) (enc : TypeId × Value → H) :
    ReturnsInHanded {} Tryd.checked os 5 .any (fun w args => (Rows.fnExactActTextSpec.pre enc Tryd.prog Tryd.f5 Rows.fnExactActTextRow.domain false w args ∧ laidMet Tryd.prog Rows.fnExactActTextRow.laid w) ∧ sizedMet enc Tryd.prog Tryd.f5 (OpenSpec.ofChange Rows.fnExactActTextSpec) false w args) (Rows.fnExactActTextSpec.post enc Tryd.prog Tryd.f5 false true false false) := by
  refine returnsInHanded_of_change_and (C := Tryd.checked) (X := fun w _ => laidMet Tryd.prog Rows.fnExactActTextRow.laid w) (fun _ _ _ hh h => h.of_heap hh) own started (by kernel_rfl) Tryd.func5
    (ChangeSpec.witness_at (enc := enc) (C := Tryd.checked) (os := os) (X := fun w _ => laidMet Tryd.prog Rows.fnExactActTextRow.laid w) false (laidWorld os) #[.agg #[.int .i64 0, .string ⟨#[]⟩, .slice none 0 0, .int .i64 0, .string ⟨#[]⟩]] 8 rfl (by kernel_rfl) (by kernel_rfl) (by kernel_rfl) (by kernel_rfl) (by kernel_rfl) (laid_met os _)) ?_
  intro W base args ds gs before hval0 hW hcnd _ hL _
  have h2 := laid_tail (laid_tail hL)
  rw [laid_tab] at h2
  have hT : Tab (hp W) := tab_of (by kernel_rfl) (Go.Lib.tabIs_of_head (g := 0) (t := 116) (e := 105) (n := 20) (by kernel_rfl) (by kernel_rfl) (by kernel_rfl) (by kernel_rfl) (by kernel_rfl) (by kernel_rfl) h2)
  clear h2
  have hval : ∀ (j : Nat) t v, Tryd.f5.params[j]? = some t → args[j]? = some v → Value.okWide Tryd.prog W .any base t v := hval0
  have hW' := hW
  obtain ⟨p, q, hA0, hV, rfl, hfz, hnd⟩ := hW
  have hA : DataW.TrodAll enc Tryd.prog W 0 (fun _ => true) true Tryd.f5.params.toList args.toList ds p := hA0
  rw [Tryd.params5] at hA hval
  obtain ⟨v0, vs0, d0, ds0, p0, q0, hargs, rfl, rfl, h0, r0⟩ := trodAll_cons hA
  obtain ⟨rfl, rfl, rfl⟩ := trodAll_nil r0
  obtain rfl : args = #[v0] := by cases args; simp_all
  obtain ⟨rfl, rfl⟩ := trodVars_none hV
  have k0 := h0
  have lt0 : ∀ x ∈ p0, x.block < W.heap.size := by obtain ⟨m, hm⟩ := k0; exact DataW.trod_lt m _ _ _ hm
  obtain ⟨m0, hm0⟩ := h0
  obtain ⟨G0, x0, e0, -, w0⟩ := rd_49 _ _ _ _ _ _ _ hm0
  obtain ⟨cs0, rfl⟩ := agg_of (hval 0 49 v0 rfl rfl) Sz_49 (by kernel_rfl)
  obtain ⟨s0_0, F0_0, hc0, -, q0_0⟩ := e0
  obtain rfl := agg_cells hc0
  clear hA0 hval0
  refine (m_l_FnExactActText_ok (hp_in W) 1099511627776 x0 hT q0_0 (law w0)).mono fun e W1 ⟨he, bel⟩ => ?_
  subst he
  exact ⟨_, rfl, _, _, _, [], _, [], hW', trodAll_mk1 (shut_bool (by kernel_rfl : Tryd.prog.underlying 4 = some .bool) _), (trodAll_cons_mk (Below.trod laidOut (by kernel_rfl) (of_decide_eq_true (by kernel_rfl)) k0 bel lt0) trodAll_mk0), rfl, bel.frame _, fun h => by cases h⟩

theorem named : Tryd.pinned.checked.prog.funcNamed Rows.fnExactActTextRow.func = some 5 := by kernel_rfl
theorem closed : joinedFacts Tryd.pinned.checked.prog 5 Tryd.f5 Rows.fnExactActTextSpec Rows.fnExactActTextRow = true := by kernel_rfl
theorem inst : Tryd.f5.isInstance Tryd.pinned.checked.prog Rows.fnExactActTextRow.origin Rows.fnExactActTextRow.targs := of_decide_eq_true (by kernel_rfl)
theorem wrapped : Tryd.f5.isWrapper Tryd.pinned.checked.prog Rows.fnExactActTextRow.wrapper Rows.fnExactActTextRow.mainSum := by unfold Func.isWrapper; first | (rw [if_pos (by decide +kernel)]; kernel_rfl) | (rw [if_neg (by decide +kernel)]; exact ⟨rfl, rfl⟩)
theorem over : Rows.fnExactActTextRow.holds Tryd.pinned (OpenSpec.ofChange Rows.fnExactActTextSpec) :=
  OpenClaim.holds_of_wide 5 Tryd.f5 rfl rfl rfl rfl rfl rfl rfl ⟨rfl, rfl, rfl, rfl, rfl⟩ rfl rfl rfl rfl rfl named Tryd.func5 closed inst wrapped
    (fun os started H enc _ => lifted os started H enc)

/-- The statement. -/
theorem proved : Rows.FnExactActTextCardSaid :=
  Claim7.holds_tied_plain_at .later [] _ true Rows.fnExactActTextCard.stood.harness Rows.fnExactActTextCard.stood.looks
    over (fun _ h => by cases h) (by kernel_rfl) (fun _ h => by cases h) fnExactActText_row_tie rfl ⟨rfl, rfl⟩ (by kernel_rfl) rfl
    (fun f fn hf hfn => by
      obtain rfl : f = 5 := Option.some.inj (named.symm.trans hf) |>.symm
      obtain rfl : fn = Tryd.f5 := (Option.some.inj (Tryd.func5.symm.trans hfn)).symm
      exact ⟨by kernel_rfl, fun j t ht => by
        rw [Tryd.params5] at ht
        have hm : t ∈ [49] := by simpa using Array.mem_of_getElem? ht
        have hall : ([49].all fun u => !Tryd.prog.wantsStandIn u) = true := by kernel_rfl
        exact (show Tryd.prog.wantsStandIn t = false by simpa using List.all_eq_true.1 hall t hm)⟩)
    (by kernel_rfl)
#print axioms proved
end Go.Proofs.YtlfpehhlkccdiaaDoor.fnExactActText
