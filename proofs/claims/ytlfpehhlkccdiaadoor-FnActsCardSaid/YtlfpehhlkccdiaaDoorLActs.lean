/- The law FnActs: its arguments as data, and the step to the given row. The walk and the plain law come from the texts that are imported. -/
import Derived.Test.YtlfpehhlkccdiaaDoorRows
import Derived.Test.YtlfpehhlkccdiaaDoorCards
import Derived.Test.YtlfpehhlkccdiaaDoorTie
import Derived.SevenTiedAt
import Derived.Test.YtlfpehhlkccdiaaDoorEG
import Derived.Test.YtlfpehhlkccdiaaDoorWActsWalk
import Derived.Test.YtlfpehhlkccdiaaDoorTActs
import Derived.OpenShut
import Derived.LaidLaws
import Derived.Handed
import Derived.Lib.LaidTab
import Derived.ShutString
import Derived.ChangeOld
namespace Go.Proofs.YtlfpehhlkccdiaaDoor.fnActs
open Eng
open Go.ChangeShapes Go.WideShapes Go.ChangeAt Go.RowKit
open Go.ChangeMaps (open_string shut_string)
set_option linter.unusedVariables false
set_option linter.unusedSimpArgs false

theorem Un_5 : Tryd.prog.underlying 5 = some (.int .u8) := by kernel_rfl
theorem Sl_37 : Sl Tryd.prog 37 5 1 = true := by kernel_rfl
theorem own : ownKnob Tryd.prog.godebug = none := by kernel_rfl
theorem laidOut : laidOutB Tryd.prog = true := by kernel_rfl
/-- The settled world, the tables as their initialisers lay them. -/
def dv : DataW Unit → List Value
  | .agg xs => xs.map fun | .lit (.int k n) => Value.int k n | _ => .nilIface
  | _ => []
noncomputable def laidWorld (os : Os) : World := { World.holding Tryd.prog os ⟨#[], #[], []⟩ with heap := ((((World.holding Tryd.prog os ⟨#[], #[], []⟩).heap.modify 0 fun | .cells _ t fz => .cells (dv Rows.laid_internal_strconv_uint64pow10).toArray t fz | o => o).modify 2 fun | .cells _ t fz => .cells (dv Rows.laid_math_bits_deBruijn32tab).toArray t fz | o => o).modify 3 fun | .cells _ t fz => .cells (dv Rows.laid_math_bits_deBruijn64tab).toArray t fz | o => o) }
theorem laid_met (os : Os) (args : Array Value) : laidMet Tryd.prog Rows.fnActsRow.laid ((laidWorld os).forCall (fun _ _ => 0) ⟨#[], args, []⟩).memory := laidMet_of_run' 8 (by kernel_rfl) (by kernel_rfl)
theorem laid_tab : (Rows.laid_internal_strconv_uint64pow10 : DataW Unit) = Go.Lib.tabData .u64 Go.Lib.pow10Tab := by kernel_rfl
theorem laid_tail {P : Program} {x : String × DataW Unit} {l : List (String × DataW Unit)} {w : World} (h : laidMet P (x :: l) w) : laidMet P l w := by
  obtain ⟨ps, ⟨g, t, cs, fuel, p, q, _, _, _, _, hs, e⟩, hn, hr⟩ := h
  subst e
  exact ⟨q, hs, (List.nodup_append.1 hn).2.1, fun b off hp => hr b off (List.mem_append.2 (.inr hp))⟩
theorem tab_of {W : World} {name : String} (hg : Tryd.prog.globalNamed name = some 0) (h : Go.Lib.TabIs Tryd.prog W name .u64 Go.Lib.pow10Tab) : Tab (hp W) := by
  unfold Go.Lib.TabIs World.var? at h
  rw [hg, Option.bind_some] at h
  split at h
  · cases h; exact ⟨_, _, by assumption⟩
  · cases h
set_option maxRecDepth 100000 in
theorem lifted (os : Os) (started : os.Started) (H : Type) (enc : TypeId × Value → H) :
    ReturnsInHanded {} Tryd.checked os 4 .any (fun w args => (Rows.fnActsSpec.pre enc Tryd.prog Tryd.f4 Rows.fnActsRow.domain false w args ∧ laidMet Tryd.prog Rows.fnActsRow.laid w) ∧ sizedMet enc Tryd.prog Tryd.f4 (OpenSpec.ofChange Rows.fnActsSpec) false w args) (Rows.fnActsSpec.post enc Tryd.prog Tryd.f4 false true false false) := by
  refine returnsInHanded_of_change_and (C := Tryd.checked) (X := fun w _ => laidMet Tryd.prog Rows.fnActsRow.laid w) (fun _ _ _ hh h => h.of_heap hh) own started (by kernel_rfl) Tryd.func4
    (ChangeSpec.witness_at (enc := enc) (C := Tryd.checked) (os := os) (X := fun w _ => laidMet Tryd.prog Rows.fnActsRow.laid w) false (laidWorld os) #[.slice none 0 0] 8 rfl (by kernel_rfl) (by kernel_rfl) (by kernel_rfl) (by kernel_rfl) (by kernel_rfl) (laid_met os _)) ?_
  intro W base args ds gs before hval0 hW hcnd _ hL _
  have h2 := laid_tail (laid_tail hL)
  rw [laid_tab] at h2
  have hT : Tab (hp W) := tab_of (by kernel_rfl) (Go.Lib.tabIs_of_head (g := 0) (t := 116) (e := 105) (n := 20) (by kernel_rfl) (by kernel_rfl) (by kernel_rfl) (by kernel_rfl) (by kernel_rfl) (by kernel_rfl) h2)
  clear h2
  have hval : ∀ (j : Nat) t v, Tryd.f4.params[j]? = some t → args[j]? = some v → Value.okWide Tryd.prog W .any base t v := hval0
  have hW' := hW
  obtain ⟨p, q, hA0, hV, rfl, hfz, hnd⟩ := hW
  have hA : DataW.TrodAll enc Tryd.prog W 0 (fun _ => true) true Tryd.f4.params.toList args.toList ds p := hA0
  rw [Tryd.params4] at hA hval
  obtain ⟨v0, vs0, d0, ds0, p0, q0, hargs, rfl, rfl, h0, r0⟩ := trodAll_cons hA
  obtain ⟨rfl, rfl, rfl⟩ := trodAll_nil r0
  obtain rfl : args = #[v0] := by cases args; simp_all
  obtain ⟨rfl, rfl⟩ := trodVars_none hV
  have k0 := h0
  have lt0 : ∀ x ∈ p0, x.block < W.heap.size := by obtain ⟨m, hm⟩ := k0; exact DataW.trod_lt m _ _ _ hm
  obtain ⟨m0, hm0⟩ := h0
  obtain ⟨G0, x0, e0, -, w0⟩ := (rd_slice Sl_37 (rd_int Un_5) rfl) _ _ _ _ _ _ _ hm0
  obtain ⟨a0, l0, c0, rfl⟩ := okWide_slice (Sl_und Sl_37) (hval 0 37 v0 rfl rfl)
  obtain ⟨s0, hc0, q0⟩ := e0
  obtain rfl := cell_one hc0
  clear hA0 hval0
  refine (m_l_FnActs_ok (hp_in W) 1099511627776 x0 hT q0 (law w0)).mono fun e W1 ⟨he, bel⟩ => ?_
  subst he
  exact ⟨_, rfl, _, _, _, [], _, [], hW', trodAll_mk1 (shut_bool (by kernel_rfl : Tryd.prog.underlying 4 = some .bool) _), (trodAll_cons_mk (Below.trod laidOut (by kernel_rfl) (of_decide_eq_true (by kernel_rfl)) k0 bel lt0) trodAll_mk0), rfl, bel.frame _, fun h => by cases h⟩

theorem named : Tryd.pinned.checked.prog.funcNamed Rows.fnActsRow.func = some 4 := by kernel_rfl
theorem closed : joinedFacts Tryd.pinned.checked.prog 4 Tryd.f4 Rows.fnActsSpec Rows.fnActsRow = true := by kernel_rfl
theorem inst : Tryd.f4.isInstance Tryd.pinned.checked.prog Rows.fnActsRow.origin Rows.fnActsRow.targs := of_decide_eq_true (by kernel_rfl)
theorem wrapped : Tryd.f4.isWrapper Tryd.pinned.checked.prog Rows.fnActsRow.wrapper Rows.fnActsRow.mainSum := by unfold Func.isWrapper; first | (rw [if_pos (by decide +kernel)]; kernel_rfl) | (rw [if_neg (by decide +kernel)]; exact ⟨rfl, rfl⟩)
theorem over : Rows.fnActsRow.holds Tryd.pinned (OpenSpec.ofChange Rows.fnActsSpec) :=
  OpenClaim.holds_of_wide 4 Tryd.f4 rfl rfl rfl rfl rfl rfl rfl ⟨rfl, rfl, rfl, rfl, rfl⟩ rfl rfl rfl rfl rfl named Tryd.func4 closed inst wrapped
    (fun os started H enc _ => lifted os started H enc)

/-- The statement. -/
theorem proved : Rows.FnActsCardSaid :=
  Claim7.holds_tied_plain_at .later [] _ true Rows.fnActsCard.stood.harness Rows.fnActsCard.stood.looks
    over (fun _ h => by cases h) (by kernel_rfl) (fun _ h => by cases h) fnActs_row_tie rfl ⟨rfl, rfl⟩ (by kernel_rfl) rfl
    (fun f fn hf hfn => by
      obtain rfl : f = 4 := Option.some.inj (named.symm.trans hf) |>.symm
      obtain rfl : fn = Tryd.f4 := (Option.some.inj (Tryd.func4.symm.trans hfn)).symm
      exact ⟨by kernel_rfl, fun j t ht => by
        rw [Tryd.params4] at ht
        have hm : t ∈ [37] := by simpa using Array.mem_of_getElem? ht
        have hall : ([37].all fun u => !Tryd.prog.wantsStandIn u) = true := by kernel_rfl
        exact (show Tryd.prog.wantsStandIn t = false by simpa using List.all_eq_true.1 hall t hm)⟩)
    (by kernel_rfl)
#print axioms proved
end Go.Proofs.YtlfpehhlkccdiaaDoor.fnActs
