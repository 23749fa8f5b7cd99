/- The law FnBuiltUp: its arguments as data, and the step to the given row. The walk and the plain law come from the texts that are imported. -/
import Derived.Test.YtedmfnmbjglmbaaGreatRows
import Derived.Test.YtedmfnmbjglmbaaGreatEG
import Derived.Test.YtedmfnmbjglmbaaGreatWBuiltUpWalk
import Derived.Test.YtedmfnmbjglmbaaGreatTBuiltUpb
import Derived.OpenShut
import Derived.LaidLaws
import Derived.Handed
import Derived.Lib.LaidTab
import Derived.ShutString
import Derived.ChangeOld
namespace Go.Proofs.YtedmfnmbjglmbaaGreat.fnBuiltUp
open Eng
open Go.ChangeShapes Go.WideShapes Go.ChangeAt Go.RowKit
open Go.ChangeMaps (open_string shut_string)
set_option linter.unusedVariables false
set_option linter.unusedSimpArgs false

theorem Lu:Tryz.prog.underlying 5=some (.int .u8):=by kernel_rfl
theorem B3:Sl Tryz.prog 22 5 1=true:=by kernel_rfl
theorem own:ownKnob Tryz.prog.godebug=none:=by kernel_rfl
theorem HK:laidOutB Tryz.prog=true:=by kernel_rfl
set_option maxRecDepth 100000 in
theorem lifted (os:Os) (started:os.Started) (H:Type) (enc:TypeId × Value→H) :
    ReturnsInHanded {} Tryz.checked os 3 .any (Rows.fnBuiltUpSpec.pre6 enc Tryz.prog Tryz.f3 Rows.fnBuiltUpRow.domain false) (Rows.fnBuiltUpSpec.post enc Tryz.prog Tryz.f3 false true false false):=by
  refine returnsInHanded_of_change (C:=Tryz.checked) own started (by kernel_rfl) Tryz.func3
    (ChangeSpec.witness6 (enc:=enc) (C:=Tryz.checked) false ⟨#[],#[.slice none 0 0],[]⟩ 8 (by kernel_rfl) (by kernel_rfl) (by kernel_rfl) (by kernel_rfl)) ?_
  intro W base args ds gs before hval0 hW hcnd _
  have hval:∀ (j:Nat) t v,Tryz.f3.params[j]?=some t→args[j]?=some v→Value.okWide Tryz.prog W .any base t v:=hval0
  have hW':=hW
  obtain ⟨p,q,hA0,hV,rfl,hfz,hnd⟩:=hW
  have hA:DataW.TrodAll enc Tryz.prog W 0 (fun _=>true) true Tryz.f3.params.toList args.toList ds p:=hA0
  rw [Tryz.params3] at hA hval
  obtain ⟨v0,vs0,d0,ds0,p0,q0,hargs,rfl,rfl,h0,r0⟩:=trodAll_cons hA
  obtain ⟨rfl,rfl,rfl⟩:=trodAll_nil r0
  obtain rfl:args = #[v0]:=by cases args; simp_all
  obtain ⟨rfl,rfl⟩:=trodVars_none hV
  have k0:=h0
  have lt0:∀ x∈p0,x.block < W.heap.size:=by obtain ⟨m,hm⟩:=k0; exact DataW.trod_lt m _ _ _ hm
  obtain ⟨m0,hm0⟩:=h0
  obtain ⟨G0,x0,e0,-,w0⟩:=(FW B3 (Ju Lu) rfl) _ _ _ _ _ _ _ hm0
  obtain ⟨a0,l0,c0,rfl⟩:=okWide_slice (ui B3) (hval 0 22 v0 rfl rfl)
  obtain ⟨s0,hc0,q0⟩:=e0
  obtain rfl:=Gb hc0
  clear hA0 hval0
  refine (uj 1099511627776 (ba (KI W)) x0 q0 (law w0)).mono fun e W1 ⟨he,bel⟩=>?_
  subst he
  replace bel:=bel.toBelow
  exact ⟨_,rfl,_,_,_,[],_,[],hW',trodAll_mk1 (shut_bool (by kernel_rfl:Tryz.prog.underlying 4=some .bool) _),(trodAll_cons_mk (Below.trod HK (by kernel_rfl) (of_decide_eq_true (by kernel_rfl)) k0 bel lt0) trodAll_mk0),rfl,bel.frame _,fun h=>by cases h⟩

theorem named:Tryz.pinned.checked.prog.funcNamed Rows.fnBuiltUpRow.func=some 3:=by kernel_rfl
theorem kl {a b:Bool} (ha:a=true) (hb:b=true):(a && b)=true:=by rw [ha,hb]; rfl
theorem cl0:(Rows.fnBuiltUpRow.wf (OpenSpec.ofChange Rows.fnBuiltUpSpec))=true:=by kernel_rfl
theorem cl1:(laidOutB Tryz.pinned.checked.prog)=true:=by kernel_rfl
theorem cl2:(mapsRowed Tryz.pinned.checked.prog)=true:=by kernel_rfl
theorem cl3:(Tryz.f3.params.all (Tryz.pinned.checked.prog.readableRec ·))=true:=by kernel_rfl
theorem cl4:(namedTie Tryz.pinned.checked.prog Rows.fnBuiltUpRow.named Rows.fnBuiltUpSpec.vars)=true:=by kernel_rfl
theorem cl5:((Rows.fnBuiltUpRow.stops == []))=true:=by kernel_rfl
theorem cl6:((Tryz.pinned.checked.prog.stops == []))=true:=by kernel_rfl
theorem cl7:((Rows.fnBuiltUpRow.knobs == []))=true:=by kernel_rfl
theorem cl8:((Tryz.pinned.checked.prog.stopKnobs == []))=true:=by kernel_rfl
theorem cl9:((Rows.fnBuiltUpRow.inPlace == Tryz.pinned.checked.prog.inPlace 3))=true:=by kernel_rfl
theorem LG:((Rows.fnBuiltUpRow.unfollowed == Tryz.pinned.checked.prog.unfollowed 3))=true:=by kernel_rfl
theorem Lr:((Rows.fnBuiltUpRow.recurses == Tryz.pinned.checked.prog.recurses 3))=true:=by kernel_rfl
theorem Lg:((Rows.fnBuiltUpRow.named == Tryz.pinned.checked.prog.varsNamed 3))=true:=by kernel_rfl
theorem L9:((Rows.fnBuiltUpRow.maps == (Tryz.f3.params.toList++Rows.fnBuiltUpSpec.plain.varTypes Tryz.pinned.checked.prog).any (Tryz.pinned.checked.prog.mapsRec ·)))=true:=by kernel_rfl
theorem LF:((Rows.fnBuiltUpRow.ifaces == (Tryz.f3.params.toList++Rows.fnBuiltUpSpec.plain.varTypes Tryz.pinned.checked.prog).any (Tryz.pinned.checked.prog.ifacesRec ·)))=true:=by kernel_rfl
theorem LB:((Rows.fnBuiltUpRow.mapsOut == Tryz.pinned.checked.prog.mapsAmong Tryz.f3.resultTypes.toList))=true:=by kernel_rfl
theorem Lm:((Rows.fnBuiltUpRow.loops == (Tryz.f3.params.toList++Rows.fnBuiltUpSpec.plain.varTypes Tryz.pinned.checked.prog).any (Tryz.pinned.checked.prog.loopsFrom ·)))=true:=by kernel_rfl
theorem Lt:((Rows.fnBuiltUpRow.wideKeys == (Tryz.f3.params.toList++Rows.fnBuiltUpSpec.plain.varTypes Tryz.pinned.checked.prog++Tryz.f3.resultTypes.toList).any (Tryz.pinned.checked.prog.wideKeysFrom ·)))=true:=by kernel_rfl
theorem L8:(Rows.fnBuiltUpSpec.vars.all (Tryz.pinned.checked.prog.varReadable ·))=true:=by kernel_rfl
theorem L4:(Tryz.f3.resultTypes.all (fun t=>Tryz.pinned.checked.prog.readableRec t && decide (t < Tryz.pinned.checked.prog.types.size)))=true:=by kernel_rfl
theorem Lj:((Rows.fnBuiltUpRow.ifacesOut == Tryz.f3.resultTypes.toList.any (Tryz.pinned.checked.prog.ifacesRec ·)))=true:=by kernel_rfl
theorem LC:((Rows.fnBuiltUpRow.loopsOut == Tryz.f3.resultTypes.toList.any (Tryz.pinned.checked.prog.loopsFrom ·)))=true:=by kernel_rfl
theorem Lh:((Rows.fnBuiltUpRow.plainKeys == Tryz.pinned.checked.prog.plainKeys))=true:=by kernel_rfl
theorem Le:(Rows.fnBuiltUpRow.shortTexts.isNone)=true:=by kernel_rfl
theorem Lz:(Tryz.pinned.checked.prog.stopsHeard)=true:=by kernel_rfl
theorem Lo:(Tryz.pinned.checked.prog.mayEnter)=true:=by kernel_rfl
theorem Lb:((Rows.fnBuiltUpRow.lifted == Tryz.pinned.checked.prog.liftsFinal))=true:=by kernel_rfl
theorem Lc:((Tryz.pinned.checked.prog.make == some Rows.fnBuiltUpRow.make))=true:=by kernel_rfl
theorem L7:((Rows.fnBuiltUpRow.kinds == (if Rows.fnBuiltUpRow.domain.isEmpty then [] else Tryz.f3.params.toList.map fun t=>match Tryz.pinned.checked.prog.underlying t with | some (.int k)=>some k | _=>none)))=true:=by kernel_rfl
theorem LE:((Rows.fnBuiltUpRow.pinned == Rows.fnBuiltUpRow.pinnedBy))=true:=by kernel_rfl
theorem LJ:((Rows.fnBuiltUpRow.veiled == (Tryz.f3.params.toList++Rows.fnBuiltUpSpec.plain.varTypes Tryz.pinned.checked.prog++Tryz.f3.resultTypes.toList).any (Tryz.pinned.checked.prog.veiledRec ·)))=true:=by kernel_rfl
theorem Lw:(Rows.fnBuiltUpRow.veiledFits Tryz.pinned.checked.prog Tryz.f3.params.toList (Tryz.f3.params.toList++Rows.fnBuiltUpSpec.plain.varTypes Tryz.pinned.checked.prog++Tryz.f3.resultTypes.toList))=true:=by kernel_rfl
set_option maxRecDepth 100000 in
theorem IE:joinedFacts Tryz.pinned.checked.prog 3 Tryz.f3 Rows.fnBuiltUpSpec Rows.fnBuiltUpRow=true:=by
  unfold joinedFacts
  exact (kl (kl (kl (kl (kl (kl (kl (kl (kl (kl (kl (kl (kl (kl (kl (kl (kl (kl (kl (kl (kl (kl (kl (kl (kl (kl (kl (kl (kl (kl (kl cl0 cl1) cl2) cl3) cl4) cl5) cl6) cl7) cl8) cl9) LG) Lr) Lg) L9) LF) LB) Lm) Lt) L8) L4) Lj) LC) Lh) Le) Lz) Lo) Lb) Lc) L7) LE) LJ) Lw)
theorem inst:Tryz.f3.isInstance Tryz.pinned.checked.prog Rows.fnBuiltUpRow.origin Rows.fnBuiltUpRow.targs:=of_decide_eq_true (by kernel_rfl)
theorem GD:Tryz.f3.isWrapper Tryz.pinned.checked.prog Rows.fnBuiltUpRow.wrapper Rows.fnBuiltUpRow.mainSum:=by unfold Func.isWrapper; first | (rw [if_pos (by decide +kernel)]; kernel_rfl) | (rw [if_neg (by decide +kernel)]; exact ⟨rfl,rfl⟩)
theorem Lv:Rows.fnBuiltUpRow.holds Tryz.pinned (OpenSpec.ofChange Rows.fnBuiltUpSpec):=
  OpenClaim.holds_of_wide 3 Tryz.f3 rfl rfl rfl rfl rfl rfl rfl ⟨rfl,rfl,rfl,rfl,rfl⟩ rfl rfl rfl rfl rfl named Tryz.func3 IE inst GD
    (fun os started H enc _=>lifted os started H enc)

/-- The statement. -/
theorem proved:Rows.FnBuiltUpSaid:=Lv
#print axioms proved
end Go.Proofs.YtedmfnmbjglmbaaGreat.fnBuiltUp
