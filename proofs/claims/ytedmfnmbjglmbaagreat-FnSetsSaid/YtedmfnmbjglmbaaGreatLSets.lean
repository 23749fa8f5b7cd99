/- The law FnSets: its arguments as data, and the step to the given row. The walk and the plain law come from the texts that are imported. -/
import Derived.Test.YtedmfnmbjglmbaaGreatRows
import Derived.Test.YtedmfnmbjglmbaaGreatEG
import Derived.Test.YtedmfnmbjglmbaaGreatWSetsWalk
import Derived.Test.YtedmfnmbjglmbaaGreatTSetsb
import Derived.OpenShut
import Derived.LaidLaws
import Derived.Handed
import Derived.Lib.LaidTab
import Derived.ShutString
import Derived.ChangeOld
namespace Go.Proofs.YtedmfnmbjglmbaaGreat.fnSets
open Eng
open Go.ChangeShapes Go.WideShapes Go.ChangeAt Go.RowKit
open Go.ChangeMaps (open_string shut_string)
set_option linter.unusedVariables false
set_option linter.unusedSimpArgs false

theorem Mv:Tryz.prog.underlying 5=some (.int .u8):=MA
theorem Bx:Sl Tryz.prog 22 5 1=true:=MA
theorem own:ownKnob Tryz.prog.godebug=none:=MA
theorem HX:laidOutB Tryz.prog=true:=MA
set_option maxRecDepth 100000 in
theorem lifted (os:Os) (started:os.Started) (H:Type) (enc:TypeId × Value→H) :
    ReturnsInHanded {} Tryz.checked os 6 .any (Rows.fnSetsSpec.pre6 enc Tryz.prog Tryz.f6 Rows.fnSetsRow.domain false) (Rows.fnSetsSpec.post enc Tryz.prog Tryz.f6 false true false false):=by
  refine returnsInHanded_of_change (C:=Tryz.checked) own started MA Tryz.func6
    (ChangeSpec.witness6 (enc:=enc) (C:=Tryz.checked) false ⟨#[],#[.slice none 0 0],[]⟩ 8 MA MA MA MA) ?_
  intro W base args l gs before a b B _
  have c:∀ (j:Nat) t v,Tryz.f6.params[j]?=some t→args[j]?=some v→Value.okWide Tryz.prog W .any base t v:=a
  have n:=b
  obtain⟨p,q,d,o,rfl,D,E⟩:=b
  have f:DataW.TrodAll enc Tryz.prog W 0 (fun _=>true) true Tryz.f6.params.toList args.toList l p:=d
  rw[Tryz.params6] at f c
  obtain⟨v0,F,d0,G,r,g,I,rfl,rfl,i,s⟩:=trodAll_cons f
  obtain⟨rfl,rfl,rfl⟩:=trodAll_nil s
  obtain rfl:args = #[v0]:=by cases args;simp_all
  obtain⟨rfl,rfl⟩:=trodVars_none o
  have k:=i
  have u:∀ x∈r,x.block < W.heap.size:=by obtain⟨m,hm⟩:=k;exact DataW.trod_lt m _ _ _ hm
  obtain⟨m0,w⟩:=i
  obtain⟨K,y,z,-,w0⟩:=(Fx Bx (JJ Mv) rfl) _ _ _ _ _ _ _ w
  obtain⟨a0,L,M,rfl⟩:=okWide_slice (vQ Bx) (c 0 22 v0 rfl rfl)
  obtain⟨N,A,g⟩:=z
  obtain rfl:=GQ A
  clear d a
  refine (zh 1099511627776 (ba (Ln W)) y g (law w0)).mono fun e O ⟨he,bel⟩=>?_
  subst he
  replace bel:=bel.toBelow
  exact⟨_,rfl,_,_,_,[],_,[],n,trodAll_mk1 (shut_bool (by kernel_rfl:Tryz.prog.underlying 4=some .bool) _),(trodAll_cons_mk (Below.trod HX MA (of_decide_eq_true MA) k bel u) trodAll_mk0),rfl,bel.frame _,fun h=>by cases h⟩

theorem named:Tryz.pinned.checked.prog.funcNamed Rows.fnSetsRow.func=some 6:=MA
theorem kW {a b:Bool} (c:a=true) (d:b=true):(a && b)=true:=by rw[c,d];rfl
theorem cl0:(Rows.fnSetsRow.wf (OpenSpec.ofChange Rows.fnSetsSpec))=true:=MA
theorem cl1:(laidOutB Tryz.pinned.checked.prog)=true:=MA
theorem cl2:(mapsRowed Tryz.pinned.checked.prog)=true:=MA
theorem cl3:(Tryz.f6.params.all (Tryz.pinned.checked.prog.readableRec ·))=true:=MA
theorem cl4:(namedTie Tryz.pinned.checked.prog Rows.fnSetsRow.named Rows.fnSetsSpec.vars)=true:=MA
theorem cl5:((Rows.fnSetsRow.stops == []))=true:=MA
theorem cl6:((Tryz.pinned.checked.prog.stops == []))=true:=MA
theorem cl7:((Rows.fnSetsRow.knobs == []))=true:=MA
theorem cl8:((Tryz.pinned.checked.prog.stopKnobs == []))=true:=MA
theorem cl9:((Rows.fnSetsRow.inPlace == Tryz.pinned.checked.prog.inPlace 6))=true:=MA
theorem Ml:((Rows.fnSetsRow.unfollowed == Tryz.pinned.checked.prog.unfollowed 6))=true:=MA
theorem LR:((Rows.fnSetsRow.recurses == Tryz.pinned.checked.prog.recurses 6))=true:=MA
theorem Mq:((Rows.fnSetsRow.named == Tryz.pinned.checked.prog.varsNamed 6))=true:=MA
theorem M8:((Rows.fnSetsRow.maps == (Tryz.f6.params.toList++Rows.fnSetsSpec.plain.varTypes Tryz.pinned.checked.prog).any (Tryz.pinned.checked.prog.mapsRec ·)))=true:=MA
theorem Mj:((Rows.fnSetsRow.ifaces == (Tryz.f6.params.toList++Rows.fnSetsSpec.plain.varTypes Tryz.pinned.checked.prog).any (Tryz.pinned.checked.prog.ifacesRec ·)))=true:=MA
theorem M0:((Rows.fnSetsRow.mapsOut == Tryz.pinned.checked.prog.mapsAmong Tryz.f6.resultTypes.toList))=true:=MA
theorem M2:((Rows.fnSetsRow.loops == (Tryz.f6.params.toList++Rows.fnSetsSpec.plain.varTypes Tryz.pinned.checked.prog).any (Tryz.pinned.checked.prog.loopsFrom ·)))=true:=MA
theorem LU:((Rows.fnSetsRow.wideKeys == (Tryz.f6.params.toList++Rows.fnSetsSpec.plain.varTypes Tryz.pinned.checked.prog++Tryz.f6.resultTypes.toList).any (Tryz.pinned.checked.prog.wideKeysFrom ·)))=true:=MA
theorem Me:(Rows.fnSetsSpec.vars.all (Tryz.pinned.checked.prog.varReadable ·))=true:=MA
theorem Md:(Tryz.f6.resultTypes.all (fun t=>Tryz.pinned.checked.prog.readableRec t && decide (t < Tryz.pinned.checked.prog.types.size)))=true:=MA
theorem Mf:((Rows.fnSetsRow.ifacesOut == Tryz.f6.resultTypes.toList.any (Tryz.pinned.checked.prog.ifacesRec ·)))=true:=MA
theorem M6:((Rows.fnSetsRow.loopsOut == Tryz.f6.resultTypes.toList.any (Tryz.pinned.checked.prog.loopsFrom ·)))=true:=MA
theorem M3:((Rows.fnSetsRow.plainKeys == Tryz.pinned.checked.prog.plainKeys))=true:=MA
theorem Mu:(Rows.fnSetsRow.shortTexts.isNone)=true:=MA
theorem Mz:(Tryz.pinned.checked.prog.stopsHeard)=true:=MA
theorem Mb:(Tryz.pinned.checked.prog.mayEnter)=true:=MA
theorem Mi:((Rows.fnSetsRow.lifted == Tryz.pinned.checked.prog.liftsFinal))=true:=MA
theorem Mg:((Tryz.pinned.checked.prog.make == some Rows.fnSetsRow.make))=true:=MA
theorem LZ:((Rows.fnSetsRow.kinds == (if Rows.fnSetsRow.domain.isEmpty then [] else Tryz.f6.params.toList.map fun t=>match Tryz.pinned.checked.prog.underlying t with | some (.int k)=>some k | _=>none)))=true:=MA
theorem Mt:((Rows.fnSetsRow.pinned == Rows.fnSetsRow.pinnedBy))=true:=MA
theorem Mk:((Rows.fnSetsRow.veiled == (Tryz.f6.params.toList++Rows.fnSetsSpec.plain.varTypes Tryz.pinned.checked.prog++Tryz.f6.resultTypes.toList).any (Tryz.pinned.checked.prog.veiledRec ·)))=true:=MA
theorem Mx:(Rows.fnSetsRow.veiledFits Tryz.pinned.checked.prog Tryz.f6.params.toList (Tryz.f6.params.toList++Rows.fnSetsSpec.plain.varTypes Tryz.pinned.checked.prog++Tryz.f6.resultTypes.toList))=true:=MA
set_option maxRecDepth 100000 in
theorem JD:joinedFacts Tryz.pinned.checked.prog 6 Tryz.f6 Rows.fnSetsSpec Rows.fnSetsRow=true:=by
  unfold joinedFacts
  exact (kW (kW (kW (kW (kW (kW (kW (kW (kW (kW (kW (kW (kW (kW (kW (kW (kW (kW (kW (kW (kW (kW (kW (kW (kW (kW (kW (kW (kW (kW (kW cl0 cl1) cl2) cl3) cl4) cl5) cl6) cl7) cl8) cl9) Ml) LR) Mq) M8) Mj) M0) M2) LU) Me) Md) Mf) M6) M3) Mu) Mz) Mb) Mi) Mg) LZ) Mt) Mk) Mx)
theorem inst:Tryz.f6.isInstance Tryz.pinned.checked.prog Rows.fnSetsRow.origin Rows.fnSetsRow.targs:=of_decide_eq_true MA
theorem I7:Tryz.f6.isWrapper Tryz.pinned.checked.prog Rows.fnSetsRow.wrapper Rows.fnSetsRow.mainSum:=by unfold Func.isWrapper;first | (rw[if_pos (by decide +kernel)];kernel_rfl) | (rw[if_neg (by decide +kernel)];exact⟨rfl,rfl⟩)
theorem Mh:Rows.fnSetsRow.holds Tryz.pinned (OpenSpec.ofChange Rows.fnSetsSpec):=
  OpenClaim.holds_of_wide 6 Tryz.f6 rfl rfl rfl rfl rfl rfl rfl ⟨rfl,rfl,rfl,rfl,rfl⟩ rfl rfl rfl rfl rfl named Tryz.func6 JD inst I7
    (fun os started H enc _=>lifted os started H enc)

/-- The statement. -/
theorem proved:Rows.FnSetsSaid:=Mh
#print axioms proved
end Go.Proofs.YtedmfnmbjglmbaaGreat.fnSets
